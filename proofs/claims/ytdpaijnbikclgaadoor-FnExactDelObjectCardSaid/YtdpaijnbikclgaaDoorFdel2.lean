/- Part of the evaluator's contracts: del2. -/
import Derived.Test.YtdpaijnbikclgaaDoorFdel1
namespace Go.Proofs.YtdpaijnbikclgaaDoorB
open Go Go.Proofs.YtdpaijnbikclgaaDoorE
set_option linter.unusedVariables false
set_option linter.unusedSectionVars false
set_option linter.unusedSimpArgs false
set_option maxHeartbeats 4000000
set_option maxRecDepth 20000
def rowP (oi : Option Nat) (c : List Cell) (p : Nat) : List A := match oi with | some k => [.sl k 0 c.length (c.length + p)] | none => [.v (.slice none 0 0)]
def rowsP (ids : Nat → Option Nat) (l : List (List Cell)) (pd : Nat → Nat) : List (List A) := (List.range l.length).map fun i => rowP (ids i) (l.getD i []) (pd i)
def obP (c : List Cell) (p : Nat) : Ob := ⟨4, c.map Cell.c ++ List.replicate p zc, 0, false⟩
theorem rowsP_len (ids : Nat → Option Nat) (l : List (List Cell)) (pd : Nat → Nat) : (rowsP ids l pd).length = l.length := by simp [rowsP]
theorem rowsP_at (ids : Nat → Option Nat) (l : List (List Cell)) (pd : Nat → Nat) {i : Nat} (h : i < l.length) : (rowsP ids l pd)[i]? = some (rowP (ids i) l[i] (pd i)) := by simp [rowsP, h]
structure Nsp (S : Store) (id : Nat) (ids : Nat → Option Nat) (l : List (List Cell)) (pd : Nat → Nat) : Prop where
 ob : S[id]? = some ⟨1, rowsP ids l pd, 0, false⟩
 inn : ∀ i (h : i < l.length) k, ids i = some k → S[k]? = some (obP l[i] (pd i))
 nil : ∀ i (h : i < l.length), ids i = none → l[i] = []
 ne : ∀ i, i < l.length → ids i ≠ some id
 ap : ∀ i j k, i < l.length → j < l.length → ids i = some k → ids j = some k → i = j
theorem Nsp.id_lt {S : Store} {id : Nat} {ids : Nat → Option Nat} {l : List (List Cell)} {pd : Nat → Nat} (h : Nsp S id ids l pd) : id < S.length := (List.getElem?_eq_some_iff.1 h.ob).1
theorem Nsp.in_lt {S : Store} {id : Nat} {ids : Nat → Option Nat} {l : List (List Cell)} {pd : Nat → Nat} (h : Nsp S id ids l pd) {i k : Nat} (hi : i < l.length) (hk : ids i = some k) : k < S.length := (List.getElem?_eq_some_iff.1 (h.inn i hi k hk)).1
theorem Nsp.mono {S S' : Store} {id : Nat} {ids : Nat → Option Nat} {l : List (List Cell)} {pd : Nat → Nat} (h : Nsp S id ids l pd) (h1 : S'[id]? = S[id]?) (h2 : ∀ i k, i < l.length → ids i = some k → S'[k]? = S[k]?) : Nsp S' id ids l pd :=
 ⟨h1.trans h.ob, fun i hi k hk => (h2 i k hi hk).trans (h.inn i hi k hk), h.nil, h.ne, h.ap⟩
theorem Nst.pad {S : Store} {id : Nat} {ids : Nat → Option Nat} {l : List (List Cell)} (h : Nst S id ids l) : Nsp S id ids l (fun _ => 0) := by
 refine ⟨h.ob.trans ?_, fun i hi k hk => (h.inn i hi k hk).trans ?_, h.nil, h.ne, h.ap⟩
 ·unfold obK rowsK rowsP
  congr 2
 ·simp [obC, obP]
theorem Nsp.cut {S S' : Store} {id : Nat} {ids : Nat → Option Nat} {l : List (List Cell)} {pd : Nat → Nat} (h : Nsp S id ids l pd) {i : Nat} (hi : i < l.length) {k : Nat} (hk : ids i = some k) {c : List Cell} {p : Nat}
  (h1 : S'[id]? = some ⟨1, (rowsP ids l pd).set i [.sl k 0 c.length (c.length + p)], 0, false⟩) (h2 : S'[k]? = some (obP c p)) (h3 : ∀ j x, j < l.length → j ≠ i → ids j = some x → S'[x]? = S[x]?) : Nsp S' id ids (l.set i c) (fun j => if j = i then p else pd j) := by
 have hl : ∀ {j : Nat}, j < (l.set i c).length → j < l.length := fun hj => by simpa using hj
 refine ⟨h1.trans ?_, fun j hj x hx => ?_, fun j hj hn => ?_, fun j hj e => h.ne j (hl hj) e, fun j j' x hj hj' e e' => h.ap j j' x (hl hj) (hl hj') e e'⟩
 ·congr 2
  apply List.ext_getElem?
  intro j
  rcases Nat.lt_or_ge j l.length with hj | hj
  ·rw [rowsP_at _ _ _ (by simpa using hj), getElem?_set' _ _ _ _ (by rw [rowsP_len]; exact hi)]
   by_cases e : j = i
   ·subst e; simp [rowP, hk]
   ·rw [if_neg e, rowsP_at _ _ _ hj, if_neg e, List.getElem_set_ne (Ne.symm e)]
  ·rw [List.getElem?_eq_none (by simp [rowsP_len]; exact hj), List.getElem?_eq_none (by simp [rowsP_len]; exact hj)]
 ·by_cases e : j = i
  ·subst e; rw [hk] at hx; injection hx with hx; subst hx
   rw [if_pos rfl]; simpa using h2
  ·rw [if_neg e, List.getElem_set_ne (Ne.symm e)]
   exact (h3 j x (hl hj) e hx).trans (h.inn j (hl hj) x hx)
 ·by_cases e : j = i
  ·subst e; rw [hk] at hn; cases hn
  ·rw [List.getElem_set_ne (Ne.symm e)]; exact h.nil j (hl hj) hn
def stL (s : ByteArray) (l : List (List Cell)) (i : Nat) : List (List Cell) := (l.take i).map (flt s) ++ l.drop i
def stP (s : ByteArray) (l : List (List Cell)) (i : Nat) : Nat → Nat := fun j => if j < i then (l.getD j []).length - (flt s (l.getD j [])).length else 0
theorem stL_len (s : ByteArray) (l : List (List Cell)) {i : Nat} (h : i ≤ l.length) : (stL s l i).length = l.length := by simp [stL]; omega
theorem stL_at (s : ByteArray) (l : List (List Cell)) {i : Nat} (h : i < l.length) : (stL s l i)[i]? = some l[i] := by
 rw [stL, List.getElem?_append_right (by simp; omega)]
 simp [h, Nat.min_eq_left (Nat.le_of_lt h)]
theorem stL_step (s : ByteArray) (l : List (List Cell)) {i : Nat} (h : i < l.length) : (stL s l i).set i (flt s l[i]) = stL s l (i + 1) := by
 have hl : ((l.take i).map (flt s)).length = i := by simp; omega
 rw [stL, List.set_append, if_neg (by omega), hl, Nat.sub_self, List.drop_eq_getElem_cons h, List.set_cons_zero, stL, List.take_add_one, List.map_append, List.append_assoc, List.getElem?_eq_getElem h]
 rfl
theorem stP_step (s : ByteArray) (l : List (List Cell)) {i : Nat} (h : i < l.length) : (fun j => if j = i then l[i].length - (flt s l[i]).length else stP s l i j) = stP s l (i + 1) := by
 funext j
 unfold stP
 by_cases e : j = i
 ·subst e; simp [h]
 ·rw [if_neg e]
  by_cases e2 : j < i
  ·rw [if_pos e2, if_pos (by omega)]
  ·rw [if_neg e2, if_neg (by omega)]
theorem k49_2 (e : Env) : lpE (FI.K ⟨[true], false, [(2, [2, 3, 7, 8]), (1000, [2, 3]), (1001, [2, 3, 7, 8]), (1002, [2, 3, 7, 8, 9]), (1003, [2, 3, 4, 7, 8]), (1004, [2, 3, 7, 8]), (1005, [2, 3, 7, 8]), (999999, [])]⟩ 2) e = mkE [(2, e 2), (3, e 3), (7, e 7), (8, e 8)] := rfl
theorem c49 {k : Nat} {md : Md} {S : Store} {vs : List A} {D : List Nat} {id : Nat} {ids : Nat → Option Nat} {l : List (List Cell)} {kk mm : Int} {a3 : A} {s : ByteArray} (hd : dpArgs S [true] vs = some ([.ag [(.v (.int .i64 (kk))), (.v (.int .i64 (mm))), .sl id 0 l.length l.length, a3], (.v (.string (s)))], D)) (hD0 : D = [] := by first | assumption | omega | with_reducible rfl) (hN : Nst S id ids l := by first | assumption | omega | with_reducible rfl) (hall : ∀ i, i < l.length → ids i ≠ none := by first | assumption | omega | with_reducible rfl) (hw : ∀ i k, i < l.length → ids i = some k → md.wr k = true) (hwi : md.wr id = true) (hn : l.length ≤ 1048576 := by first | assumption | omega | with_reducible rfl) (hcs : ∀ c ∈ l, c.length ≤ 1048576 := by first | assumption | omega | with_reducible rfl) (hk : 12 ≤ k := by omega) :
  Cal (run k) md 49 vs S (fun r S' => r = .tu [] ∧ Nsp S' id ids (l.map (flt s)) (stP s l l.length) ∧ S.length ≤ S'.length ∧ ∀ j, j < S.length → j ≠ id → (∀ i, i < l.length → ids i ≠ some j) → S'[j]? = S[j]?) := by
 obtain ⟨k, rfl⟩ : ∃ j, k = j + 1 := ⟨k - 1, by omega⟩
 refine Cal.fnN (n := 25) (rs := []) (D := D) (Xof_none rfl) g49 (by delta Tryd.f49; exact rfl) (by delta Tryd.f49; exact rfl) (by delta Tryd.f49; exact rfl) hd rfl (by first | exact .inr (by assumption) | exact .inl rfl | exact .inl (by simp [idsV, idsC])) (by simp) ?_
 intro md' ow; have w := ow.w; have w0 := ow.w0; have fz : md'.fz = false := ow.fz
 subst hD0
 have hallw := ow.all rfl
 have hid0 := hN.id_lt
 (have F := an6 @yD @yF @yA @yB @yE @yC; (repeat' (first | refine' dA47 | ((with_reducible first | apply EvO.call (vs := ?_) | apply EvT.call (vs := ?_)); exact rfl; exact rfl; exact dE8; (first | (with_reducible apply Cal.hd (g := 69) (ms := [true]) (p := ?_)) | (with_reducible apply Cal.hd (ms := []) (p := ?_))); exact dE8) | exact dC6 | fail)); all_goals clear F)
 apply Ev.loop (fun j e S' => ∃ i : Nat, ∃ u : Store, e = mkE [(2, .pt S.length 0 0 1), (3, .pt (S.length + 1) 0 0 1), (7, (.v (.int .i64 ((l.length : Int))))), (8, (.v (.int .i64 ((i : Int)))))] ∧ S' = u ∧ j = l.length - i ∧ (i ≤ l.length) ∧ (Nsp u id ids (stL s l i) (stP s l i)) ∧ (u[S.length]? = some ⟨4, [[(.v (.int .i64 (kk))), (.v (.int .i64 (mm))), .sl id 0 l.length l.length, a3]], 0, true⟩) ∧ (u[S.length + 1]? = some ⟨1, [[(.v (.string (s)))]], 0, true⟩) ∧ (u.length = S.length + 2) ∧ (∀ j, j < S.length → j ≠ id → (∀ i, i < l.length → ids i ≠ some j) → u[j]? = S[j]?))
 ·exact ⟨0, _, (k49_2 _).trans dN15, (by first | rfl | (simp only [app_app, List.cons_append, List.nil_append]; done)), rfl, (by omega), (by (exact (hN.app _).pad.mono rfl fun _ _ _ _ => rfl)), (by (exact get_len0 _ _)), (by (exact get_len _ _ _)), (by simp), (by (intro j hj h1 h2; exact List.getElem?_append_left hj))⟩
 rintro j e S' ⟨i, u, rfl, rfl, hj, hi, hNu, fb0, fb1, hlu, hku⟩
 have hpl := stL_len s l hi
 have hob := hNu.ob
 have hrl := rowsP_len ids (stL s l i) (stP s l i)
 rw [hpl] at hrl
 have hwid := hallw id hwi
 by_cases hli : (i : Int) < (l.length : Int)
 ·have hlt : i < l.length := by omega
  have hat := stL_at s l hlt
  have hat2 : (stL s l i)[i]'(by rw [hpl]; exact hlt) = l[i] := by
   rw [List.getElem?_eq_getElem (by rw [hpl]; exact hlt)] at hat; injection hat
  have hp0 : stP s l i i = 0 := by unfold stP; rw [if_neg (by omega)]
  obtain ⟨k', hk'⟩ : ∃ k', ids i = some k' := by
   cases e : ids i with
   | none => exact absurd e (hall i hlt)
   | some k' => exact ⟨k', rfl⟩
  have hg := rowsP_at ids (stL s l i) (stP s l i) (i := i) (by rw [hpl]; exact hlt)
  rw [hat2, hk', hp0] at hg
  simp only [rowP, Nat.add_zero] at hg
  have hin := hNu.inn i (by rw [hpl]; exact hlt) k' hk'
  rw [hat2, hp0] at hin
  simp only [obP, List.replicate_zero, List.append_nil] at hin
  have hk0 : k' < S.length := hN.in_lt hlt hk'
  have hkid : k' ≠ id := fun e => hN.ne i hlt (e ▸ hk')
  have hwk := hallw k' (hw i k' hlt hk')
  have hkl : k' < S'.length := by omega
  have hcl := hcs l[i] (by simp)
  (have F := an21 @yD @yF @yA @yB @yE @yC @hli @fb0 @fb1 @hob @hrl @hg @hin @hwid @hwk @hkl @if_true.{0} @List.getElem?_set_self.{0} @List.getElem?_set_ne.{0} @List.set_set.{0} @List.length_set.{0}; (repeat' (first | refine' dA48 | ((with_reducible first | apply EvO.call (vs := ?_) | apply EvT.call (vs := ?_)); exact rfl; exact rfl; exact dE9; (first | (with_reducible apply Cal.hd (g := 69) (ms := [true]) (p := ?_)) | (with_reducible apply Cal.hd (ms := []) (p := ?_))); exact dE9) | ((with_reducible apply CalH.mk); intro hd; first | exact c69_strip (k := k) hd (hid := dH3) (hw := dH3) (hnb := dH3) (id := k') (nb := S.length + 1) (l := l[i]) (s := s)) | fail)); all_goals clear F)
  have hfl := flt_le s l[i]
  have hcut : Nsp ((S'.set k' ⟨4, (flt s l[i]).map Cell.c ++ List.replicate (l[i].length - (flt s l[i]).length) zc, 0, false⟩).set id ⟨1, (rowsP ids (stL s l i) (stP s l i)).set i [.sl k' 0 (flt s l[i]).length l[i].length], 0, false⟩) id ids (stL s l (i + 1)) (stP s l (i + 1)) := by
   rw [← stL_step s l hlt, ← stP_step s l hlt]
   refine hNu.cut (by rw [hpl]; exact hlt) hk' (c := flt s l[i]) (p := l[i].length - (flt s l[i]).length) ?_ ?_ fun j x hj hji hx => ?_
   ·rw [List.getElem?_set_self (by simpa using hNu.id_lt), show (flt s l[i]).length + (l[i].length - (flt s l[i]).length) = l[i].length by omega]
   ·rw [List.getElem?_set_ne (Ne.symm hkid), List.getElem?_set_self hkl]; rfl
   ·have h1 : x ≠ id := fun e => hNu.ne j hj (e ▸ hx)
    have h2 : x ≠ k' := fun e => hji (hNu.ap j i k' hj (by rw [hpl]; exact hlt) (e ▸ hx) hk')
    rw [List.getElem?_set_ne (Ne.symm h1), List.getElem?_set_ne (Ne.symm h2)]
  have hq : ∀ j, j ≠ id → j ≠ k' → ∀ o o', ((S'.set k' o).set id o')[j]? = S'[j]? := fun j h1 h2 o o' => by rw [List.getElem?_set_ne (Ne.symm h1), List.getElem?_set_ne (Ne.symm h2)]
  apply roundQ_m; refine ⟨_, ⟨i + 1, ((S'.set k' ⟨4, (flt s l[i]).map Cell.c ++ List.replicate (l[i].length - (flt s l[i]).length) zc, 0, false⟩).set id ⟨1, (rowsP ids (stL s l i) (stP s l i)).set i [.sl k' 0 (flt s l[i]).length l[i].length], 0, false⟩), (k49_2 _).trans dN15, ?_, rfl, ?_, ?_, ?_, ?_, ?_, ?_⟩, ?_⟩
  ·(exact lpG_len (by simp))
  ·omega
  ·(exact hcut)
  ·(exact (hq _ (by omega) (by omega) _ _).trans fb0)
  ·(exact (hq _ (by omega) (by omega) _ _).trans fb1)
  ·(simp [hlu])
  ·(intro j hj h1 h2; exact (hq j h1 (fun e => h2 i hlt (by rw [hk', e])) _ _).trans (hku j hj h1 h2))
  ·omega
 ·obtain rfl : i = l.length := by omega
  have he : stL s l l.length = l.map (flt s) := by simp [stL]
  rw [he] at hNu
  (have F := an11 @yD @yF @yA @yB @yE @yC @hli @fb0 @fb1 @hob @hrl; (repeat' (first | refine' dA47 | ((with_reducible first | apply EvO.call (vs := ?_) | apply EvT.call (vs := ?_)); exact rfl; exact rfl; exact dE8; (first | (with_reducible apply Cal.hd (g := 69) (ms := [true]) (p := ?_)) | (with_reducible apply Cal.hd (ms := []) (p := ?_))); exact dE8) | exact dC6 | fail)); all_goals clear F)
  refine ⟨.inl rfl, fun S₂ hk => ?_⟩
  rw [hk.nil]
  exact ⟨rfl, hNu, by omega, hku⟩
end Go.Proofs.YtdpaijnbikclgaaDoorB
