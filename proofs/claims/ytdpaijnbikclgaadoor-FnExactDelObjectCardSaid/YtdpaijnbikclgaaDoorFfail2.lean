/- Part of the evaluator's contracts: fail2. -/
import Derived.Test.YtdpaijnbikclgaaDoorFfail1
import Derived.Test.YtdpaijnbikclgaaDoorFelCell
import Derived.Test.YtdpaijnbikclgaaDoorFelObject
namespace Go.Proofs.YtdpaijnbikclgaaDoorB
open Go Go.Proofs.YtdpaijnbikclgaaDoorE
set_option linter.unusedVariables false
set_option linter.unusedSectionVars false
set_option linter.unusedSimpArgs false
set_option maxHeartbeats 4000000
set_option maxRecDepth 20000
theorem app_get {S : Store} {j : Nat} {o : Ob} (h : S[j]? = some o) (T : Store) : (S ++ T)[j]? = some o := by
 rw [List.getElem?_append_left (List.getElem?_eq_some_iff.1 h).1]; exact h
theorem Kept.get {S S' : Store} (k : Kept S S') {j : Nat} {o : Ob} (h : S[j]? = some o) : S'[j]? = some o := (k.2 _ (List.getElem?_eq_some_iff.1 h).1).trans h
def Bx (S : Store) (j : Nat) (o : Ob) : Prop := S[j]? = some o ∧ ∀ T, (S ++ T)[j]? = some o
theorem Kept.b {S S' : Store} (k : Kept S S') {j : Nat} {o : Ob} (h : S[j]? = some o) : Bx S' j o := ⟨k.get h, fun T => app_get (k.get h) T⟩
def Rd (S : Store) (a r : A) : Prop := ∃ D, dpC S a = some (r, D)
noncomputable def Rd.D {S : Store} {a r : A} (h : Rd S a r) : List Nat := Classical.choose h
theorem Rd.e {S : Store} {a r : A} (h : Rd S a r) : dpC S a = some (r, h.D) := Classical.choose_spec h
theorem rd_obj {S : Store} {id n m : Nat} {rows : List (List A)} (h : S[id]? = some ⟨n, rows, 0, false⟩) (hm : rows.length = m) (hf : flatRowsB rows = true) : Rd S (.sl id 0 m m) (.ro n rows) := by
 subst hm
 refine ⟨[id], ?_⟩
 simp only [dpC, h]
 rw [if_pos (by simp [hf])]
 simp
structure CluR (S : Store) (id id2 n m : Nat) (R : List (List A)) (q : List Object) : Prop where
 nd : Rd S (.sl id 0 n n) (.ro 1 R)
 ndT : ∀ T, Rd (S ++ T) (.sl id 0 n n) (.ro 1 R)
 od : Rd S (.sl id2 0 m m) (.ro 2 (q.map Object.c))
 odT : ∀ T, Rd (S ++ T) (.sl id2 0 m m) (.ro 2 (q.map Object.c))
theorem Clu.rd {S : Store} {m id id2 n k : Nat} {ids : Nat → Option Nat} {l : List (List Cell)} {q : List Object} (h : Clu S m id id2 ids l q) {b : Nat → Bool} (hb : ∀ i, i < l.length → (ids i).isSome = b i) (hn : l.length = n) (hk : q.length = k) : CluR S id id2 n k (rowsB b l) q := by
 subst hn hk
 refine ⟨h.n.readB hb, fun T => (h.keep (Kept.app S T)).n.readB hb, rd_obj h.o (by simp) (fl_Object q), fun T => rd_obj (h.keep (Kept.app S T)).o (by simp) (fl_Object q)⟩
theorem Clu.rdA {S : Store} {m id id2 n k : Nat} {ids : Nat → Option Nat} {l : List (List Cell)} {q : List Object} (h : Clu S m id id2 ids l q) (hb : ∀ i, i < l.length → ids i ≠ none) (hn : l.length = n) (hk : q.length = k) : CluR S id id2 n k (l.map nodeC) q := by
 rw [rowsB_map]
 refine h.rd (fun i hi => ?_) hn hk
 cases e : ids i with
 | none => exact absurd e (hb i hi)
 | some k => rfl
def KeptX (m M : Nat) (S S' : Store) : Prop := S.length ≤ S'.length ∧ ∀ j, j < S.length → j < m ∨ M ≤ j → S'[j]? = S[j]?
theorem KeptX.get {m M : Nat} {S S' : Store} (k : KeptX m M S S') {j : Nat} {o : Ob} (h : S[j]? = some o) (hj : j < m ∨ M ≤ j) : S'[j]? = some o := (k.2 _ (List.getElem?_eq_some_iff.1 h).1 hj).trans h
theorem KeptX.b {m M : Nat} {S S' : Store} (k : KeptX m M S S') {j : Nat} {o : Ob} (h : S[j]? = some o) (hj : j < m ∨ M ≤ j) : Bx S' j o := ⟨k.get h hj, fun T => app_get (k.get h hj) T⟩
theorem Clu.keepX {S S' : Store} {m m' M id id2 : Nat} {ids : Nat → Option Nat} {l : List (List Cell)} {q : List Object} (h : Clu S m' id id2 ids l q) (k : KeptX m M S S') (hj : m' ≥ M ∨ id < m ∧ id2 < m ∧ ∀ i k, i < l.length → ids i = some k → k < m) : Clu S' m' id id2 ids l q := by
 have h1 : id < m ∨ M ≤ id := by have := h.m.1; rcases hj with hj | hj; (right; omega); (left; omega)
 have h2 : id2 < m ∨ M ≤ id2 := by have := h.m.2.1; rcases hj with hj | hj; (right; omega); (left; omega)
 exact ⟨h.n.mono (k.2 _ h.n.id_lt h1) fun i j hi hk => k.2 _ (h.n.in_lt hi hk) (by have := h.m.2.2 i j hi hk; rcases hj with hj | hj; (right; omega); (left; exact hj.2.2 i j hi hk)), (k.2 _ h.id2_lt h2).trans h.o, h.d, h.e, h.m⟩
theorem keptX_of {S S' : Store} {m M id id2 : Nat} {ids : Nat → Option Nat} {l : List (List Cell)} {q : List Object} (h : Clu S m id id2 ids l q) (h1 : id < M ∧ id2 < M ∧ ∀ i k, i < l.length → ids i = some k → k < M) (hl : S.length ≤ S'.length) (hk : ∀ j, j < S.length → j ≠ id2 → (∀ i, i < l.length → ids i ≠ some j) → S'[j]? = S[j]?) : KeptX m M S S' :=
 ⟨hl, fun j hj hr => hk j hj (fun e => by have := h.m.2.1; omega) fun i hi e => by have := h.m.2.2 i j hi e; have := h1.2.2 i j hi e; omega⟩
theorem Clu.lt {S : Store} {m id id2 : Nat} {ids : Nat → Option Nat} {l : List (List Cell)} {q : List Object} (h : Clu S m id id2 ids l q) : id < S.length ∧ id2 < S.length ∧ ∀ i k, i < l.length → ids i = some k → k < S.length := ⟨h.n.id_lt, h.id2_lt, fun i k hi hk => h.n.in_lt hi hk⟩
theorem k43_2 (e : Env) : lpE (FI.K ⟨[true], false, [(2, [0, 1, 5]), (1000, [0, 1]), (1001, [0, 1, 5]), (1002, [0, 1, 5, 9]), (1003, [0, 1, 5]), (1004, [0, 1, 5]), (1005, [4]), (999999, [])]⟩ 2) e = mkE [(0, e 0), (1, e 1), (5, e 5)] := rfl
theorem c43_nil {k : Nat} {md : Md} {S : Store} {vs : List A} {D : List Nat} {x : Int} (hd : dpArgs S [true] vs = some ([.v (.slice none 0 0), (.v (.int .i64 (x)))], D)) (hD0 : D = [] := by first | assumption | omega | with_reducible rfl) (hk : 3 ≤ k := by omega) :
  Cal (run k) md 43 vs S (fun r S' => r = (.v (.int .i64 (x))) ∧ S' = S) := by
 obtain ⟨k, rfl⟩ : ∃ j, k = j + 1 := ⟨k - 1, by omega⟩
 refine Cal.fnN (n := 20) (rs := [.tmp 4]) (D := D) (Xof_none rfl) g43 (by delta Tryd.f43; exact rfl) (by delta Tryd.f43; exact rfl) (by delta Tryd.f43; exact rfl) hd rfl (by first | exact .inr (by assumption) | exact .inl rfl | exact .inl (by simp [idsV, idsC])) (by simp) ?_
 intro md' ow; have w := ow.w; have w0 := ow.w0; have fz : md'.fz = false := ow.fz
 subst hD0
 (have F := an6 @yD @yF @yA @yB @yE @yC; (repeat' (first | refine' dA24 | ((with_reducible apply EvO.call (vs := ?_)); exact rfl; exact rfl; exact dE8; (first | (with_reducible apply Cal.hd (g := 66) (ms := [true]) (p := ?_)) | (with_reducible apply Cal.hd (ms := []) (p := ?_))); exact dE8) | exact dC3 | fail)); all_goals clear F)
 apply Ev.loop (fun j e S' => ∃ i : Nat, e = mkE [(0, .v (.slice none 0 0)), (1, (.v (.int .i64 (x)))), (5, (.v (.int .i64 ((i : Int)))))] ∧ S' = S ∧ j = 0 ∧ (i = 0))
 ·exact ⟨0, (k43_2 _).trans dN15, (by first | rfl | (simp only [app_app, List.cons_append, List.nil_append]; done)), rfl, (by first | omega | rfl | (simp; done))⟩
 rintro j e S' ⟨i, rfl, rfl, hj, hi⟩
 subst hi
 (have F := an6 @yD @yF @yA @yB @yE @yC; (repeat' (first | refine' dA24 | ((with_reducible apply EvO.call (vs := ?_)); exact rfl; exact rfl; exact dE8; (first | (with_reducible apply Cal.hd (g := 66) (ms := [true]) (p := ?_)) | (with_reducible apply Cal.hd (ms := []) (p := ?_))); exact dE8) | exact dC3 | fail)); all_goals clear F)
 refine ⟨.inl rfl, fun S₂ hk => ?_⟩
 exact ⟨rfl, hk.nil⟩
theorem c15_nil {k : Nat} {md : Md} {S : Store} {vs : List A} {D : List Nat} {kk mm x : Int} (hd : dpArgs S [true] vs = some ([.ag [(.v (.int .i64 (kk))), (.v (.int .i64 (mm))), .v (.slice none 0 0), .v (.slice none 0 0)], (.v (.int .i64 (x)))], D)) (hD0 : D = [] := by first | assumption | omega | with_reducible rfl) (hk : 4 ≤ k := by omega) :
  Cal (run k) md 15 vs S (fun r S' => r = (.v (.int .i64 (x))) ∧ Kept S S') := by
 obtain ⟨k, rfl⟩ : ∃ j, k = j + 1 := ⟨k - 1, by omega⟩
 refine Cal.fnN (n := 14) (rs := [.tmp 4]) (D := D) (Xof_none rfl) g15 (by delta Tryd.f15; exact rfl) (by delta Tryd.f15; exact rfl) (by delta Tryd.f15; exact rfl) hd rfl (by first | exact .inr (by assumption) | exact .inl rfl | exact .inl (by simp [idsV, idsC])) (by simp) ?_
 intro md' ow; have w := ow.w; have w0 := ow.w0; have fz : md'.fz = false := ow.fz
 subst hD0
 (have F := an6 @yD @yF @yA @yB @yE @yC; (repeat' (first | refine' dA39 | ((with_reducible apply EvO.call (vs := ?_)); exact rfl; exact rfl; exact dE8; (first | (with_reducible apply Cal.hd (g := 43) (ms := [true]) (p := ?_)) | (with_reducible apply Cal.hd (g := 44) (ms := [true]) (p := ?_)) | (with_reducible apply Cal.hd (ms := []) (p := ?_))); exact dE8) | ((with_reducible apply CalH.mk); intro hd; first | exact c43_nil hd | exact c44_nil hd | exact c44 hd (hid := dH1) (hw := dH1)) | fail)); all_goals clear F)
 refine ⟨.inl rfl, fun S₂ hk => ?_⟩
 refine ⟨rfl, ?_⟩
 rw [hk.nil]
 exact Kept.app _ _
theorem c43_B {k : Nat} {md : Md} {S : Store} {vs : List A} {D : List Nat} {id n : Nat} {ids : Nat → Option Nat} {l : List (List Cell)} {x : Int} (hd : dpArgs S [true] vs = some ([.sl id 0 n n, (.v (.int .i64 (x)))], D)) (hD0 : D = [] := by first | assumption | omega | with_reducible rfl) (hln : l.length = n := by first | assumption | omega | with_reducible rfl) (hN : Nst S id ids l := by first | assumption | omega | with_reducible rfl) (hw : ∀ i k, i < l.length → ids i = some k → md.wr k = true) (hx : 0 ≤ x ∧ x ≤ 1048576 := by first | assumption | omega | with_reducible rfl) (hn : l.length ≤ 1048576 := by first | assumption | omega | with_reducible rfl) (ht : totN l ≤ 1048576 := by first | assumption | omega | with_reducible rfl) (hk : 3 ≤ k := by omega) :
  Cal (run k) md 43 vs S (fun r S' => r = (.v (.int .i64 (x + 4 * (totN l : Int)))) ∧ Nst S' id ids (mkN x l) ∧ S'.length = S.length ∧ ∀ j, (∀ i, i < l.length → ids i ≠ some j) → S'[j]? = S[j]?) := by
 obtain ⟨k, rfl⟩ : ∃ j, k = j + 1 := ⟨k - 1, by omega⟩
 refine Cal.fnN (n := 20) (rs := [.tmp 4]) (D := D) (Xof_none rfl) g43 (by delta Tryd.f43; exact rfl) (by delta Tryd.f43; exact rfl) (by delta Tryd.f43; exact rfl) hd rfl (by first | exact .inr (by assumption) | exact .inl rfl | exact .inl (by simp [idsV, idsC])) (by simp) ?_
 intro md' ow; have w := ow.w; have w0 := ow.w0; have fz : md'.fz = false := ow.fz
 subst hD0; subst hln
 have hall := ow.all rfl
 have hob0 := hN.ob
 unfold obK at hob0
 (have F := an6 @yD @yF @yA @yB @yE @yC; (repeat' (first | refine' dA24 | ((with_reducible apply EvO.call (vs := ?_)); exact rfl; exact rfl; exact dE8; (first | (with_reducible apply Cal.hd (g := 66) (ms := [true]) (p := ?_)) | (with_reducible apply Cal.hd (ms := []) (p := ?_))); exact dE8) | exact dC3 | fail)); all_goals clear F)
 apply Ev.loop (fun j e S' => ∃ i : Nat, ∃ u : Store, e = mkE [(0, .sl id 0 l.length l.length), (1, (.v (.int .i64 (x + 4 * (totN (l.take i) : Int))))), (5, (.v (.int .i64 ((i : Int)))))] ∧ S' = u ∧ j = l.length - i ∧ (i ≤ l.length) ∧ (Nst u id ids (mkN x (l.take i) ++ l.drop i)) ∧ (u.length = S.length) ∧ (∀ j, (∀ i, i < l.length → ids i ≠ some j) → u[j]? = S[j]?))
 ·exact ⟨0, S, (k43_2 _).trans dN15, (by first | rfl | (simp only [app_app, List.cons_append, List.nil_append]; done)), rfl, (by omega), (by (simpa [mkN] using hN)), (by rfl), (by (intro j hj; rfl))⟩
 rintro j e S' ⟨i, u, rfl, rfl, hj, hi, hNu, hlu, hku⟩
 have hpl := mkN_pre x l hi
 have hob := hNu.ob
 unfold obK at hob
 have hrl := rowsK_len ids (mkN x (l.take i) ++ l.drop i)
 rw [hpl] at hrl
 by_cases hli : (i : Int) < (l.length : Int)
 ·have hlt : i < l.length := by omega
  have hat := mkN_at x l hlt
  have hat2 : (mkN x (l.take i) ++ l.drop i)[i]'(by rw [hpl]; exact hlt) = l[i] := by
   rw [List.getElem?_eq_getElem (by rw [hpl]; exact hlt)] at hat; injection hat
  have hg := rowsK_at ids (mkN x (l.take i) ++ l.drop i) (i := i) (by rw [hpl]; exact hlt)
  rw [hat2] at hg
  have ht1 := totN_s l hlt
  have ht2 := totN_le l (i + 1)
  have ht3 : l[i].length ≤ 1048576 := by omega
  have hx1 : 0 ≤ x + 4 * (totN (l.take i) : Int) ∧ x + 4 * (totN (l.take i) : Int) ≤ 16777216 := by omega
  have hst := mkN_step x l hlt
  cases e1 : ids i with
  | none =>
   rw [e1] at hg
   have hg3 : rowK none l[i] = [.v (.slice none 0 0)] := rfl
   rw [hg3] at hg
   have hl0 : l[i].length = 0 := by rw [← hat2, hNu.nil i (by rw [hpl]; exact hlt) e1]; rfl
   have hx2 : x + 4 * (totN (l.take i) : Int) = x + 4 * (totN (l.take (i + 1)) : Int) := by omega
   have hL : mkN x (l.take (i + 1)) ++ l.drop (i + 1) = mkN x (l.take i) ++ l.drop i := by
    rw [← hst, hl0]
    apply List.ext_getElem?
    intro j
    by_cases e : j = i
    ·subst e; rw [List.getElem?_set_self (by rw [hpl]; exact hlt), hat]
     congr 1; rw [List.length_eq_zero_iff.1 hl0]; rfl
    ·rw [List.getElem?_set_ne (Ne.symm e)]
   (have F := an10 @yD @yF @yA @yB @yE @yC @hli @hob @hrl @hg; (repeat' (first | refine' dA24 | ((with_reducible apply EvO.call (vs := ?_)); exact rfl; exact rfl; exact dE8; (first | (with_reducible apply Cal.hd (g := 66) (ms := [true]) (p := ?_)) | (with_reducible apply Cal.hd (ms := []) (p := ?_))); exact dE8) | exact dC3 | fail)); all_goals clear F)
   apply roundQ_m; refine ⟨_, ⟨i + 1, S', (k43_2 _).trans dN16, ?_, rfl, ?_, ?_, ?_, ?_⟩, ?_⟩
   ·first | exact lpG_same | exact lpG_grow rfl | (refine (congrArg (fun K => lpG K _ _ _) (show _ = some _ from rfl)).trans (lpG_cut rfl ?_); simp [lowV, okC, mkE_at]; done) | (refine (congrArg (fun K => lpG K _ _ _) (show _ = some _ from rfl)).trans (lpG_mod rfl rfl ?_ ?_) <;> simp [lowV, okC, mkE_at, rowsAll_cons, rowsAll_nil, yD, yF, yA, yB, yE, yC]; done) | (refine (lpG_len ?_).trans ?_; (focus (simp only [len_app, List.length_cons, List.length_nil, List.length_set]; done)); first | rfl | (simp (disch := first | (intros; contradiction) | (as_aux_lemma => omega) | (as_aux_lemma => (simp only [LEN2]; first | done | omega)) | (as_aux_lemma => (simp only [LEN]; try omega))) only [hx2, EV, TT, w, w0, fz, yD, yF, yA, yB, yE, yC, Nat.reduceEqDiff, Nat.reduceBeqDiff, Nat.reduceAdd, Nat.reduceMul, Nat.reduceLeDiff, Nat.reduceLT, reduceCtorEq, Int.reduceEq, Int.reduceNeg]; first | done | rfl)) | (refine (congrArg (fun K => lpG K _ _ _) (show _ = some _ from rfl)).trans (lpG_grow ?_); simp only [lowV, okC, EV, Nat.reduceEqDiff, Nat.reduceBeqDiff, Nat.reduceAdd, Nat.reduceMul, Nat.reduceLeDiff, Nat.reduceLT, reduceCtorEq, Int.reduceEq, Int.reduceNeg]; done)
   ·omega
   ·(rw [hL]; exact hNu)
   ·(exact hlu)
   ·(exact hku)
   ·omega
  | some k' =>
   rw [e1] at hg
   have hg3 : rowK (some k') l[i] = [.sl k' 0 l[i].length l[i].length] := rfl
   rw [hg3] at hg
   have hin := hNu.inn i (by rw [hpl]; exact hlt) k' e1
   rw [hat2] at hin
   unfold obC at hin
   have hkl := (List.getElem?_eq_some_iff.1 hin).1
   have hwk := hall k' (hw i k' hlt e1)
   have hx2 : x + 4 * (totN (l.take i) : Int) + 4 * (l[i].length : Int) = x + 4 * (totN (l.take (i + 1)) : Int) := by omega
   (have F := an10 @yD @yF @yA @yB @yE @yC @hli @hob @hrl @hg; (repeat' (first | refine' dA24 | ((with_reducible apply EvO.call (vs := ?_)); exact rfl; exact rfl; exact dE8; (first | (with_reducible apply Cal.hd (g := 66) (ms := [true]) (p := ?_)) | (with_reducible apply Cal.hd (ms := []) (p := ?_))); exact dE8) | exact dC3 | fail)); all_goals clear F)
   apply roundQ_m; refine ⟨_, ⟨i + 1, (S'.set k' ⟨4, (mkCell (x + 4 * (totN (l.take i) : Int)) l[i].length).map Cell.c, 0, false⟩), (k43_2 _).trans dN16, ?_, rfl, ?_, ?_, ?_, ?_⟩, ?_⟩
   ·((refine (lpG_len ?_).trans ?_; (focus (simp only [List.length_set]; done)); rfl))
   ·omega
   ·(rw [← hst]; exact hNu.upd (by rw [hpl]; exact hlt) e1 (by rw [hat2, mkCell_len]) (by rw [List.getElem?_set_self hkl]; rfl) (fun j o hj ho => by rw [List.getElem?_set_ne (Ne.symm hj)]; exact ho))
   ·(rw [List.length_set]; exact hlu)
   ·(intro j hj; rw [List.getElem?_set_ne (fun e => hj i hlt (by rw [e1, e]))]; exact hku j hj)
   ·omega
 ·obtain rfl : i = l.length := by omega
  rw [List.take_length, List.drop_length, List.append_nil] at hNu
  rw [List.take_length]
  (have F := an9 @yD @yF @yA @yB @yE @yC @hli @hrl @hob; (repeat' (first | refine' dA24 | ((with_reducible apply EvO.call (vs := ?_)); exact rfl; exact rfl; exact dE8; (first | (with_reducible apply Cal.hd (g := 66) (ms := [true]) (p := ?_)) | (with_reducible apply Cal.hd (ms := []) (p := ?_))); exact dE8) | exact dC3 | fail)); all_goals clear F)
  refine ⟨.inl rfl, fun S₂ hk => ?_⟩
  rw [hk.nil]
  exact ⟨rfl, hNu, hlu, hku⟩
theorem c15_B {k : Nat} {md : Md} {S : Store} {vs : List A} {D : List Nat} {kk mm : Int} {m id id2 n n2 : Nat} {ids : Nat → Option Nat} {l : List (List Cell)} {q : List Object} {x : Int} (hd : dpArgs S [true] vs = some ([.ag [(.v (.int .i64 (kk))), (.v (.int .i64 (mm))), .sl id 0 n n, .sl id2 0 n2 n2], (.v (.int .i64 (x)))], D)) (hD0 : D = [] := by first | assumption | omega | with_reducible rfl) (hC : Clu S m id id2 ids l q := by first | assumption | omega | with_reducible rfl) (hln : l.length = n := by first | assumption | omega | with_reducible rfl) (hqn : q.length = n2 := by first | assumption | omega | with_reducible rfl) (hwo : md.wr id2 = true) (hw : ∀ i k, i < l.length → ids i = some k → md.wr k = true) (hx : 0 ≤ x ∧ x ≤ 1048576 := by first | assumption | omega | with_reducible rfl) (hn : l.length ≤ 1048576 := by first | assumption | omega | with_reducible rfl) (ht : totN l ≤ 1048576 := by first | assumption | omega | with_reducible rfl) (hq : q.length ≤ 1048576 := by first | assumption | omega | with_reducible rfl) (hk : 4 ≤ k := by omega) :
  Cal (run k) md 15 vs S (fun r S' => r = (.v (.int .i64 (x + 4 * (totN l : Int) + 2 * (q.length : Int)))) ∧ Clu S' m id id2 ids (mkN x l) (mkObject (x + 4 * (totN l : Int)) q.length) ∧ S.length ≤ S'.length ∧ ∀ j, j < S.length → j ≠ id2 → (∀ i, i < l.length → ids i ≠ some j) → S'[j]? = S[j]?) := by
 obtain ⟨k, rfl⟩ : ∃ j, k = j + 1 := ⟨k - 1, by omega⟩
 refine Cal.fnN (n := 14) (rs := [.tmp 4]) (D := D) (Xof_none rfl) g15 (by delta Tryd.f15; exact rfl) (by delta Tryd.f15; exact rfl) (by delta Tryd.f15; exact rfl) hd rfl (by first | exact .inr (by assumption) | exact .inl rfl | exact .inl (by simp [idsV, idsC])) (by simp) ?_
 intro md' ow; have w := ow.w; have w0 := ow.w0; have fz : md'.fz = false := ow.fz
 subst hD0; subst hln; subst hqn
 have hall := ow.all rfl
 have hN := hC.n
 have hNa : ∀ T, Nst (S ++ T) id ids l := fun T => hN.app T
 have hwa : ∀ i k, i < l.length → ids i = some k → md'.wr k = true := fun i k hi hk => hall _ (hw i k hi hk)
 have hwo2 := hall _ hwo
 (have F := an6 @yD @yF @yA @yB @yE @yC; (repeat' (first | refine' dA40 | ((with_reducible apply EvO.call (vs := ?_)); exact rfl; exact rfl; exact dE8; (first | (with_reducible apply Cal.hd (g := 43) (ms := [true]) (p := ?_)) | (with_reducible apply Cal.hd (g := 44) (ms := [true]) (p := ?_)) | (with_reducible apply Cal.hd (ms := []) (p := ?_))); exact dE8) | ((with_reducible apply CalH.mk); intro hd; first | exact c43_B (k := k) hd (ids := ids) (hN := hNa _) (hw := hwa) | exact c43_nil hd | exact c44_nil hd | exact c44 hd (hid := dH1) (hw := dH1)) | fail)); all_goals clear F)
 have i2 := hC.id2_lt
 have f0 := (hkm S.length (fun i hi e => by have := hN.in_lt hi e; omega)).trans (get_len0 S _)
 have fo := (hkm id2 (fun i hi e => hC.e i id2 hi e rfl)).trans ((List.getElem?_append_left i2).trans hC.o)
 simp only [List.getElem?_cons_zero] at f0
 simp only [List.length_append, List.length_cons, List.length_nil] at hlenm
 have hx1 : 0 ≤ x + 4 * (totN l : Int) ∧ x + 4 * (totN l : Int) ≤ 16777216 := by omega
 (have F := an9 @yD @yF @yA @yB @yE @yC @f0 @fo @hwo2; (repeat' (first | refine' dA40 | ((with_reducible apply EvO.call (vs := ?_)); exact rfl; exact rfl; exact dE8; (first | (with_reducible apply Cal.hd (g := 43) (ms := [true]) (p := ?_)) | (with_reducible apply Cal.hd (g := 44) (ms := [true]) (p := ?_)) | (with_reducible apply Cal.hd (ms := []) (p := ?_))); exact dE8) | ((with_reducible apply CalH.mk); intro hd; first | exact c43_nil hd | exact c43_B hd (hw := dH1) | exact c44_nil hd | exact c44 hd (hid := dH1) (hw := dH1)) | fail)); all_goals clear F)
 refine ⟨.inl rfl, fun S₂ hk => ?_⟩
 rw [hk.nil]
 have i3 : id2 < S'.length := by omega
 refine ⟨rfl, ⟨hNm.mono ?_ fun i k hi hk => ?_, ?_, hC.d, fun i k hi hk => hC.e i k (by rwa [mkN_len] at hi) hk, hC.m.1, hC.m.2.1, fun i k hi hk => hC.m.2.2 i k (by rwa [mkN_len] at hi) hk⟩, ?_, fun j hj h1 h2 => ?_⟩
 ·rw [List.getElem?_set_ne hC.d]
 ·rw [List.getElem?_set_ne (fun e => hC.e i k (by rwa [mkN_len] at hi) hk e.symm)]
 ·rw [List.getElem?_set_self i3]
 ·rw [List.length_set]; omega
 ·rw [List.getElem?_set_ne (Ne.symm h1), hkm j h2, List.getElem?_append_left hj]
end Go.Proofs.YtdpaijnbikclgaaDoorB
