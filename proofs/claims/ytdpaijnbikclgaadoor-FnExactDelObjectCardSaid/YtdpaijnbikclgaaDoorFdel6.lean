/- Part of the evaluator's contracts: del6. -/
import Derived.Test.YtdpaijnbikclgaaDoorFdel5
import Derived.Test.YtdpaijnbikclgaaDoorFfail4
namespace Go.Proofs.YtdpaijnbikclgaaDoorB
open Go Go.Proofs.YtdpaijnbikclgaaDoorE
set_option linter.unusedVariables false
set_option linter.unusedSectionVars false
set_option linter.unusedSimpArgs false
set_option maxHeartbeats 4000000
set_option maxRecDepth 20000
theorem Clp.lt {S : Store} {m id id2 po : Nat} {ids : Nat → Option Nat} {l : List (List Cell)} {pd : Nat → Nat} {q : List Object} (h : Clp S m id id2 ids l pd q po) : id < S.length ∧ id2 < S.length ∧ ∀ i k, i < l.length → ids i = some k → k < S.length := ⟨h.n.id_lt, h.id2_lt, fun i k hi hk => h.n.in_lt hi hk⟩
theorem rd_view {S : Store} {id n m p : Nat} {rows R : List (List A)} (h : S[id]? = some ⟨n, rows ++ R, 0, false⟩) (hm : rows.length = m) (hp : R.length = p) (hf : flatRowsB (rows ++ R) = true) : Rd S (.sl id 0 m (m + p)) (.ro n rows) := by
 subst hm hp
 refine ⟨[id], ?_⟩
 simp only [dpC, h]
 rw [if_pos (by simp [hf])]
 simp
theorem fl_padO (q : List Object) (p : Nat) : flatRowsB (q.map Object.c ++ List.replicate p zo) = true := by
 unfold flatRowsB
 rw [List.all_append, Bool.and_eq_true]
 exact ⟨flat_map Object.c (fun _ => rfl) _, by rw [List.all_eq_true]; intro r hr; rw [List.eq_of_mem_replicate hr]; rfl⟩
structure ClpR (S : Store) (id id2 n m v : Nat) (R : List (List A)) (q : List Object) : Prop where
 nd : Rd S (.sl id 0 n n) (.ro 1 R)
 ndT : ∀ T, Rd (S ++ T) (.sl id 0 n n) (.ro 1 R)
 od : Rd S (.sl id2 0 m v) (.ro 2 (q.map Object.c))
 odT : ∀ T, Rd (S ++ T) (.sl id2 0 m v) (.ro 2 (q.map Object.c))
theorem Clp.rd {S : Store} {m id id2 n k v po : Nat} {ids : Nat → Option Nat} {l : List (List Cell)} {pd : Nat → Nat} {q : List Object} (h : Clp S m id id2 ids l pd q po) (hb : ∀ i, i < l.length → ids i ≠ none) (h0 : 0 < l.length) (hn : l.length = n) (hk : q.length = k) (hv : q.length + po = v) : ClpR S id id2 n k v (l.map nodeC) q := by
 subst hn hk hv
 exact ⟨h.n.read hb h0, fun T => (h.keep (Kept.app S T)).n.read hb h0, rd_view h.o (by simp) (by simp) (fl_padO q po), fun T => rd_view (h.keep (Kept.app S T)).o (by simp) (by simp) (fl_padO q po)⟩
theorem Clp.keepX {S S' : Store} {m m' M id id2 po : Nat} {ids : Nat → Option Nat} {l : List (List Cell)} {pd : Nat → Nat} {q : List Object} (h : Clp S m' id id2 ids l pd q po) (k : KeptX m M S S') (hj : m' ≥ M ∨ id < m ∧ id2 < m ∧ ∀ i k, i < l.length → ids i = some k → k < m) : Clp S' m' id id2 ids l pd q po := by
 have h1 : id < m ∨ M ≤ id := by have := h.m.1; rcases hj with hj | hj; (right; omega); (left; omega)
 have h2 : id2 < m ∨ M ≤ id2 := by have := h.m.2.1; rcases hj with hj | hj; (right; omega); (left; omega)
 exact ⟨h.n.mono (k.2 _ h.n.id_lt h1) fun i j hi hj' => k.2 _ (h.n.in_lt hi hj') (by have := h.m.2.2 i j hi hj'; rcases hj with hj | hj; (right; omega); (left; exact hj.2.2 i j hi hj')), (k.2 _ h.id2_lt h2).trans h.o, h.d, h.e, h.m⟩
theorem keptX_ofP {S S' : Store} {m M id id2 po : Nat} {ids : Nat → Option Nat} {l : List (List Cell)} {pd : Nat → Nat} {q : List Object} (h : Clp S m id id2 ids l pd q po) (h1 : id < M ∧ id2 < M ∧ ∀ i k, i < l.length → ids i = some k → k < M) (hl : S.length ≤ S'.length) (hk : ∀ j, j < S.length → j ≠ id2 → (∀ i, i < l.length → ids i ≠ some j) → S'[j]? = S[j]?) : KeptX m M S S' :=
 ⟨hl, fun j hj hr => hk j hj (fun e => by have := h.m.2.1; omega) fun i hi e => by have := h.m.2.2 i j hi e; have := h1.2.2 i j hi e; omega⟩
theorem nr_rowsP (ids : Nat → Option Nat) (l : List (List Cell)) (pd : Nat → Nat) : rowsAll noRoC (rowsP ids l pd) = true := by
 unfold rowsAll rowsP
 rw [List.all_eq_true]
 intro r hr
 obtain ⟨i, hi, rfl⟩ := List.mem_map.1 hr
 cases e : ids i <;> simp [rowP, noRoC]
theorem nr_obP (c : List Cell) (p : Nat) : rowsAll noRoC (c.map Cell.c ++ List.replicate p zc) = true := by
 rw [rowsAll_app, Bool.and_eq_true]
 exact ⟨nr_Cell _, rep_all noRoC p rfl⟩
theorem Clp.kp {D : List Nat} {S₁ S₂ : Store} {n m id id2 po : Nat} {ids : Nat → Option Nat} {l : List (List Cell)} {pd : Nat → Nat} {q : List Object} (h : Clp S₁ m id id2 ids l pd q po) (hk : Kp D n S₁ S₂) : Clp S₂ m id id2 ids l pd q po :=
 ⟨⟨hk.get h.n.ob (nr_rowsP _ _ _), fun i hi k hk' => hk.get (h.n.inn i hi k hk') (nr_obP _ _), h.n.nil, h.n.ne, h.n.ap⟩, hk.get h.o (by rw [rowsAll_app, Bool.and_eq_true]; exact ⟨nr_Object _, rep_allO noRoC po rfl⟩), h.d, h.e, h.m⟩
end Go.Proofs.YtdpaijnbikclgaaDoorB
