/- Part of the evaluator's contracts: del4. -/
import Derived.Test.YtdpaijnbikclgaaDoorFdel3
import Derived.Test.YtdpaijnbikclgaaDoorFmark
import Derived.Test.YtdpaijnbikclgaaDoorFelCell
import Derived.Test.YtdpaijnbikclgaaDoorFfail2
import Derived.Test.YtdpaijnbikclgaaDoorFelObject
namespace Go.Proofs.YtdpaijnbikclgaaDoorB
open Go Go.Proofs.YtdpaijnbikclgaaDoorE
set_option linter.unusedVariables false
set_option linter.unusedSectionVars false
set_option linter.unusedSimpArgs false
set_option maxHeartbeats 4000000
set_option maxRecDepth 20000
theorem c66_P {k : Nat} {md : Md} {S : Store} {vs : List A} {D : List Nat} {id p n : Nat} {l : List Cell} {x : Int} (hd : dpArgs S [true] vs = some ([.sl id 0 l.length n, (.v (.int .i64 (x)))], D)) (hD : (D.all fun i => !([id] : List Nat).contains i) = true := by first | rfl | simp) (hx : 0 ≤ x ∧ x ≤ 16777216 := by first | assumption | omega | with_reducible rfl) (hnp : l.length + p = n := by first | assumption | omega | with_reducible rfl) (hn : n ≤ 1048576 := by first | assumption | omega | with_reducible rfl) (hid : S[id]? = some ⟨4, l.map Cell.c ++ List.replicate p zc, 0, false⟩) (hw : md.wr id = true) (hk : 2 ≤ k := by omega) :
  Cal (run k) md 66 vs S (fun r S' => r = (.v (.int .i64 (x + 4 * l.length))) ∧ S' = S.set id ⟨4, (mkCell x l.length).map Cell.c ++ List.replicate p zc, 0, false⟩) := by
 obtain ⟨k, rfl⟩ : ∃ j, k = j + 1 := ⟨k - 1, by omega⟩
 refine Cal.fn (n := 43) (rs := [.tmp 4]) (ids := [id]) (D := D) (Xof_none rfl) g66 (by delta Tryd.f66; exact rfl) (by delta Tryd.f66; exact rfl) (by delta Tryd.f66; exact rfl) hd rfl (by first | rfl | simp [idsV, idsC]) hD (by simp) ?_
 intro md' ow; have w := ow.w; have w0 := ow.w0; have fz : md'.fz = false := ow.fz
 subst hnp
 have hlt0 := (List.getElem?_eq_some_iff.1 hid).1
 have wi := ow.old id (by simp) hw
 have ho1 : ∀ m, rowsAll (okC m) (List.replicate p zc) = true := fun m => rep_all (okC m) p rfl
 have ho2 : rowsAll noRoC (List.replicate p zc) = true := rep_all noRoC p rfl
 (have F := an6 @yD @yF @yA @yB @yE @yC; (repeat' (first | refine' dA45 | ((with_reducible apply EvO.call (vs := ?_)); exact rfl; exact rfl; exact dE11; (with_reducible apply Cal.hd (ms := []) (p := ?_)); exact dE11) | ((with_reducible apply CalH.mk); intro hd; first | exact c67 hd) | fail)); all_goals clear F)
 apply Ev.loop (fun j e S' => ∃ i : Nat, e = mkE [(0, .sl id 0 l.length (l.length + p)), (1, (.v (.int .i64 (x + 4 * (i : Int))))), (5, (.v (.int .i64 ((i : Int)))))] ∧ S' = S.set id ⟨4, (mkCell x i ++ l.drop i).map Cell.c ++ List.replicate p zc, 0, false⟩ ∧ j = l.length - i ∧ (i ≤ l.length))
 ·exact ⟨0, (k66_2 _).trans dN15, (by rw [show mkCell x 0 ++ l.drop 0 = l by simp [mkCell]]; exact (set_self hid).symm), rfl, (by omega)⟩
 rintro j e S' ⟨i, rfl, rfl, hj, hi⟩
 have hml := mkCell_pre x l hi
 have hrl : ((mkCell x i ++ l.drop i).map Cell.c ++ List.replicate p zc).length = l.length + p := by rw [List.length_append, List.length_map, hml, List.length_replicate]
 by_cases hli : (i : Int) < (l.length : Int)
 ·have hlt : i < l.length := by omega
  have hg0 := mkCell_at x l hlt
  have hg : ((mkCell x i ++ l.drop i).map Cell.c ++ List.replicate p zc)[i]? = some (Cell.c l[i]) := by
   rw [List.getElem?_append_left (by rw [List.length_map, hml]; exact hlt), List.getElem?_map, hg0]; rfl
  simp only [Cell.c] at hg
  (have F := an15 @yD @yF @yA @yB @yE @yC @hli @wi @hlt @hlt0 @List.getElem?_set_self.{0} @List.set_set.{0} @List.length_set.{0} @hrl @hg; (repeat' (first | refine' dA45 | ((with_reducible apply EvO.call (vs := ?_)); exact rfl; exact rfl; exact dE11; (with_reducible apply Cal.hd (ms := []) (p := ?_)); exact dE11) | ((with_reducible apply CalH.mk); intro hd; first | exact c67 hd) | fail)); all_goals clear F)
  apply roundQ_m; refine ⟨_, ⟨i + 1, (k66_2 _).trans (by simp (disch := first | (intros; contradiction) | (as_aux_lemma => omega) | (as_aux_lemma => (simp only [LEN2]; first | done | omega)) | (as_aux_lemma => (simp only [LEN]; try omega))) only [nx4, EV, TT, w, w0, fz, yD, yF, yA, yB, yE, yC, Nat.reduceEqDiff, Nat.reduceBeqDiff, Nat.reduceAdd, Nat.reduceMul, Nat.reduceLeDiff, Nat.reduceLT, reduceCtorEq, Int.reduceEq, Int.reduceNeg]; first | done | rfl | (congr <;> omega)), ?_, rfl, ?_⟩, ?_⟩
  ·refine (lpG_len ?_).trans ?_; (focus (simp only [List.length_set]; done)); rw [← mkCell_step x l i hlt, ← List.set_append_left _ _ (by rw [List.length_map, hml]; exact hlt)]; first | rfl | (simp only [markU, markB]; first | done | rfl)
  ·omega
  ·omega
 ·obtain rfl : i = l.length := by omega
  rw [List.drop_length, List.append_nil]
  rw [List.drop_length, List.append_nil] at hrl
  (have F := an14 @yD @yF @yA @yB @yE @yC @hli @hlt0 @List.getElem?_set_self.{0} @List.length_set.{0} @hw @hrl @ho1 @ho2; (repeat' (first | refine' dA45 | ((with_reducible apply EvO.call (vs := ?_)); exact rfl; exact rfl; exact dE11; (with_reducible apply Cal.hd (ms := []) (p := ?_)); exact dE11) | ((with_reducible apply CalH.mk); intro hd; first | exact c67 hd) | fail)); all_goals clear F)
  exact ⟨rfl, rfl⟩
theorem Nsp.upd {S S' : Store} {id : Nat} {ids : Nat → Option Nat} {l : List (List Cell)} {pd : Nat → Nat} (h : Nsp S id ids l pd) {i : Nat} (hi : i < l.length) {k : Nat} (hk : ids i = some k) {c : List Cell} (hc : c.length = l[i].length) (hob : S'[id]? = S[id]?)
  (h2 : S'[k]? = some (obP c (pd i))) (h3 : ∀ j x, j < l.length → j ≠ i → ids j = some x → S'[x]? = S[x]?) : Nsp S' id ids (l.set i c) pd := by
 have e1 : (fun j => if j = i then pd i else pd j) = pd := by
  funext j
  split
  ·rename_i e; rw [e]
  ·rfl
 have e2 : (rowsP ids l pd).set i [.sl k 0 c.length (c.length + pd i)] = rowsP ids l pd := by
  apply List.ext_getElem?
  intro j
  rw [getElem?_set' _ _ _ _ (by rw [rowsP_len]; exact hi)]
  split
  ·rename_i e; subst e; rw [rowsP_at _ _ _ hi, hk]; simp [rowP, hc]
  ·rfl
 have := h.cut (S' := S') hi hk (c := c) (p := pd i) (by rw [hob, h.ob, e2]) h2 h3
 rwa [e1] at this
theorem c43_P {k : Nat} {md : Md} {S : Store} {vs : List A} {D : List Nat} {id n : Nat} {ids : Nat → Option Nat} {l : List (List Cell)} {pd : Nat → Nat} {x : Int} (hd : dpArgs S [true] vs = some ([.sl id 0 n n, (.v (.int .i64 (x)))], D)) (hD0 : D = [] := by first | assumption | omega | with_reducible rfl) (hln : l.length = n := by first | assumption | omega | with_reducible rfl) (hN : Nsp S id ids l pd := by first | assumption | omega | with_reducible rfl) (hall : ∀ i, i < l.length → ids i ≠ none := by first | assumption | omega | with_reducible rfl) (hw : ∀ i k, i < l.length → ids i = some k → md.wr k = true) (hx : 0 ≤ x ∧ x ≤ 1048576 := by first | assumption | omega | with_reducible rfl) (hn : l.length ≤ 1048576 := by first | assumption | omega | with_reducible rfl) (ht : totN l ≤ 1048576 := by first | assumption | omega | with_reducible rfl) (hpd : ∀ i (h : i < l.length), l[i].length + pd i ≤ 1048576 := by first | assumption | omega | with_reducible rfl) (hk : 3 ≤ k := by omega) :
  Cal (run k) md 43 vs S (fun r S' => r = (.v (.int .i64 (x + 4 * (totN l : Int)))) ∧ Nsp S' id ids (mkN x l) pd ∧ S'.length = S.length ∧ ∀ j, (∀ i, i < l.length → ids i ≠ some j) → S'[j]? = S[j]?) := by
 obtain ⟨k, rfl⟩ : ∃ j, k = j + 1 := ⟨k - 1, by omega⟩
 refine Cal.fnN (n := 20) (rs := [.tmp 4]) (D := D) (Xof_none rfl) g43 (by delta Tryd.f43; exact rfl) (by delta Tryd.f43; exact rfl) (by delta Tryd.f43; exact rfl) hd rfl (by first | exact .inr (by assumption) | exact .inl rfl | exact .inl (by simp [idsV, idsC])) (by simp) ?_
 intro md' ow; have w := ow.w; have w0 := ow.w0; have fz : md'.fz = false := ow.fz
 subst hD0; subst hln
 have hallw := ow.all rfl
 have hob0 := hN.ob
 have hrl0 := rowsP_len ids l pd
 (have F := an6 @yD @yF @yA @yB @yE @yC; (repeat' (first | refine' dA24 | ((with_reducible apply EvO.call (vs := ?_)); exact rfl; exact rfl; exact dE8; (first | (with_reducible apply Cal.hd (g := 66) (ms := [true]) (p := ?_)) | (with_reducible apply Cal.hd (ms := []) (p := ?_))); exact dE8) | exact dC7 | fail)); all_goals clear F)
 apply Ev.loop (fun j e S' => ∃ i : Nat, ∃ u : Store, e = mkE [(0, .sl id 0 l.length l.length), (1, (.v (.int .i64 (x + 4 * (totN (l.take i) : Int))))), (5, (.v (.int .i64 ((i : Int)))))] ∧ S' = u ∧ j = l.length - i ∧ (i ≤ l.length) ∧ (Nsp u id ids (mkN x (l.take i) ++ l.drop i) pd) ∧ (u.length = S.length) ∧ (∀ j, (∀ i, i < l.length → ids i ≠ some j) → u[j]? = S[j]?))
 ·exact ⟨0, S, (k43_2 _).trans dN15, (by first | rfl | (simp only [app_app, List.cons_append, List.nil_append]; done)), rfl, (by omega), (by (simpa [mkN] using hN)), (by rfl), (by (intro j hj; rfl))⟩
 rintro j e S' ⟨i, u, rfl, rfl, hj, hi, hNu, hlu, hku⟩
 have hpl := mkN_pre x l hi
 have hob := hNu.ob
 have hrl := rowsP_len ids (mkN x (l.take i) ++ l.drop i) pd
 rw [hpl] at hrl
 by_cases hli : (i : Int) < (l.length : Int)
 ·have hlt : i < l.length := by omega
  have hat := mkN_at x l hlt
  have hat2 : (mkN x (l.take i) ++ l.drop i)[i]'(by rw [hpl]; exact hlt) = l[i] := by
   rw [List.getElem?_eq_getElem (by rw [hpl]; exact hlt)] at hat; injection hat
  have hg := rowsP_at ids (mkN x (l.take i) ++ l.drop i) pd (i := i) (by rw [hpl]; exact hlt)
  rw [hat2] at hg
  have ht1 := totN_s l hlt
  have ht2 := totN_le l (i + 1)
  have ht3 := hpd i hlt
  have hx1 : 0 ≤ x + 4 * (totN (l.take i) : Int) ∧ x + 4 * (totN (l.take i) : Int) ≤ 16777216 := by omega
  have hst := mkN_step x l hlt
  obtain ⟨k', e1⟩ : ∃ k', ids i = some k' := by
   cases e : ids i with
   | none => exact absurd e (hall i hlt)
   | some k' => exact ⟨k', rfl⟩
  rw [e1] at hg
  simp only [rowP] at hg
  have hin := hNu.inn i (by rw [hpl]; exact hlt) k' e1
  rw [hat2] at hin
  unfold obP at hin
  have hkl := (List.getElem?_eq_some_iff.1 hin).1
  have hwk := hallw k' (hw i k' hlt e1)
  have hx2 : x + 4 * (totN (l.take i) : Int) + 4 * (l[i].length : Int) = x + 4 * (totN (l.take (i + 1)) : Int) := by omega
  (have F := an10 @yD @yF @yA @yB @yE @yC @hli @hob @hrl @hg; (repeat' (first | refine' dA24 | ((with_reducible apply EvO.call (vs := ?_)); exact rfl; exact rfl; exact dE8; (first | (with_reducible apply Cal.hd (g := 66) (ms := [true]) (p := ?_)) | (with_reducible apply Cal.hd (ms := []) (p := ?_))); exact dE8) | ((with_reducible apply CalH.mk); intro hd; first | exact c66_P (k := k) hd (id := k') (p := pd i) (l := l[i]) (hid := hin) (hw := hwk) | exact c66_nil hd | exact c66 hd (hid := dH1) (hw := dH1)) | fail)); all_goals clear F)
  apply roundQ_m; refine ⟨_, ⟨i + 1, (S'.set k' ⟨4, (mkCell (x + 4 * (totN (l.take i) : Int)) l[i].length).map Cell.c ++ List.replicate (pd i) zc, 0, false⟩), (k43_2 _).trans dN16, ?_, rfl, ?_, ?_, ?_, ?_⟩, ?_⟩
  ·((refine (lpG_len ?_).trans ?_; (focus (simp only [List.length_set]; done)); rfl))
  ·omega
  ·(rw [← hst]; exact hNu.upd (by rw [hpl]; exact hlt) e1 (by rw [hat2, mkCell_len]) (by rw [List.getElem?_set_ne (fun e => hNu.ne i (by rw [hpl]; exact hlt) (by rw [e1, e]))]) (by rw [List.getElem?_set_self hkl]; rfl) (fun j y hj hji hy => by rw [List.getElem?_set_ne (fun e => hji (hNu.ap j i k' hj (by rw [hpl]; exact hlt) (by rw [hy, e]) e1))]))
  ·(rw [List.length_set]; exact hlu)
  ·(intro j hj; rw [List.getElem?_set_ne (fun e => hj i hlt (by rw [e1, e]))]; exact hku j hj)
  ·omega
 ·obtain rfl : i = l.length := by omega
  rw [List.take_length, List.drop_length, List.append_nil] at hNu
  rw [List.take_length]
  (have F := an9 @yD @yF @yA @yB @yE @yC @hli @hrl @hob; (repeat' (first | refine' dA24 | ((with_reducible apply EvO.call (vs := ?_)); exact rfl; exact rfl; exact dE8; (first | (with_reducible apply Cal.hd (g := 66) (ms := [true]) (p := ?_)) | (with_reducible apply Cal.hd (ms := []) (p := ?_))); exact dE8) | exact dC7 | fail)); all_goals clear F)
  refine ⟨.inl rfl, fun S₂ hk => ?_⟩
  rw [hk.nil]
  exact ⟨rfl, hNu, hlu, hku⟩
def zo : List A := [.v (.string ⟨#[]⟩), (.v (.int .i64 (0)))]
theorem rep_allO (p : A → Bool) (n : Nat) (h : zo.all p = true) : rowsAll p (List.replicate n zo) = true := by
 unfold rowsAll
 rw [List.all_eq_true]
 intro r hr
 rw [List.eq_of_mem_replicate hr]; exact h
theorem c44_P {k : Nat} {md : Md} {S : Store} {vs : List A} {D : List Nat} {id p n : Nat} {l : List Object} {x : Int} (hd : dpArgs S [true] vs = some ([.sl id 0 l.length n, (.v (.int .i64 (x)))], D)) (hD : (D.all fun i => !([id] : List Nat).contains i) = true := by first | rfl | simp) (hx : 0 ≤ x ∧ x ≤ 16777216 := by first | assumption | omega | with_reducible rfl) (hnp : l.length + p = n := by first | assumption | omega | with_reducible rfl) (hn : n ≤ 1048576 := by first | assumption | omega | with_reducible rfl) (hid : S[id]? = some ⟨2, l.map Object.c ++ List.replicate p zo, 0, false⟩) (hw : md.wr id = true) (hk : 2 ≤ k := by omega) :
  Cal (run k) md 44 vs S (fun r S' => r = (.v (.int .i64 (x + 2 * l.length))) ∧ S' = S.set id ⟨2, (mkObject x l.length).map Object.c ++ List.replicate p zo, 0, false⟩) := by
 obtain ⟨k, rfl⟩ : ∃ j, k = j + 1 := ⟨k - 1, by omega⟩
 refine Cal.fn (n := 28) (rs := [.tmp 4]) (ids := [id]) (D := D) (Xof_none rfl) g44 (by delta Tryd.f44; exact rfl) (by delta Tryd.f44; exact rfl) (by delta Tryd.f44; exact rfl) hd rfl (by first | rfl | simp [idsV, idsC]) hD (by simp) ?_
 intro md' ow; have w := ow.w; have w0 := ow.w0; have fz : md'.fz = false := ow.fz
 subst hnp
 have hlt0 := (List.getElem?_eq_some_iff.1 hid).1
 have wi := ow.old id (by simp) hw
 have ho1 : ∀ m, rowsAll (okC m) (List.replicate p zo) = true := fun m => rep_allO (okC m) p rfl
 have ho2 : rowsAll noRoC (List.replicate p zo) = true := rep_allO noRoC p rfl
 (have F := an6 @yD @yF @yA @yB @yE @yC; (repeat' (first | refine' dA45 | ((with_reducible apply EvO.call (vs := ?_)); exact rfl; exact rfl; exact dE11; (with_reducible apply Cal.hd (ms := []) (p := ?_)); exact dE11) | ((with_reducible apply CalH.mk); intro hd; first | exact c67 hd) | fail)); all_goals clear F)
 apply Ev.loop (fun j e S' => ∃ i : Nat, e = mkE [(0, .sl id 0 l.length (l.length + p)), (1, (.v (.int .i64 (x + 2 * (i : Int))))), (5, (.v (.int .i64 ((i : Int)))))] ∧ S' = S.set id ⟨2, (mkObject x i ++ l.drop i).map Object.c ++ List.replicate p zo, 0, false⟩ ∧ j = l.length - i ∧ (i ≤ l.length))
 ·exact ⟨0, (k44_2 _).trans dN15, (by rw [show mkObject x 0 ++ l.drop 0 = l by simp [mkObject]]; exact (set_self hid).symm), rfl, (by omega)⟩
 rintro j e S' ⟨i, rfl, rfl, hj, hi⟩
 have hml := mkObject_pre x l hi
 have hrl : ((mkObject x i ++ l.drop i).map Object.c ++ List.replicate p zo).length = l.length + p := by rw [List.length_append, List.length_map, hml, List.length_replicate]
 by_cases hli : (i : Int) < (l.length : Int)
 ·have hlt : i < l.length := by omega
  have hg0 := mkObject_at x l hlt
  have hg : ((mkObject x i ++ l.drop i).map Object.c ++ List.replicate p zo)[i]? = some (Object.c l[i]) := by
   rw [List.getElem?_append_left (by rw [List.length_map, hml]; exact hlt), List.getElem?_map, hg0]; rfl
  simp only [Object.c] at hg
  (have F := an15 @yD @yF @yA @yB @yE @yC @hli @wi @hlt @hlt0 @List.getElem?_set_self.{0} @List.set_set.{0} @List.length_set.{0} @hrl @hg; (repeat' (first | refine' dA45 | ((with_reducible apply EvO.call (vs := ?_)); exact rfl; exact rfl; exact dE11; (with_reducible apply Cal.hd (ms := []) (p := ?_)); exact dE11) | ((with_reducible apply CalH.mk); intro hd; first | exact c67 hd) | fail)); all_goals clear F)
  apply roundQ_m; refine ⟨_, ⟨i + 1, (k44_2 _).trans (by simp (disch := first | (intros; contradiction) | (as_aux_lemma => omega) | (as_aux_lemma => (simp only [LEN2]; first | done | omega)) | (as_aux_lemma => (simp only [LEN]; try omega))) only [nx2, EV, TT, w, w0, fz, yD, yF, yA, yB, yE, yC, Nat.reduceEqDiff, Nat.reduceBeqDiff, Nat.reduceAdd, Nat.reduceMul, Nat.reduceLeDiff, Nat.reduceLT, reduceCtorEq, Int.reduceEq, Int.reduceNeg]; first | done | rfl | (congr <;> omega)), ?_, rfl, ?_⟩, ?_⟩
  ·refine (lpG_len ?_).trans ?_; (focus (simp only [List.length_set]; done)); rw [← mkObject_step x l i hlt, ← List.set_append_left _ _ (by rw [List.length_map, hml]; exact hlt)]; first | rfl | (simp only [markU, markB]; first | done | rfl)
  ·omega
  ·omega
 ·obtain rfl : i = l.length := by omega
  rw [List.drop_length, List.append_nil]
  rw [List.drop_length, List.append_nil] at hrl
  (have F := an14 @yD @yF @yA @yB @yE @yC @hli @hlt0 @List.getElem?_set_self.{0} @List.length_set.{0} @hw @hrl @ho1 @ho2; (repeat' (first | refine' dA45 | ((with_reducible apply EvO.call (vs := ?_)); exact rfl; exact rfl; exact dE11; (with_reducible apply Cal.hd (ms := []) (p := ?_)); exact dE11) | ((with_reducible apply CalH.mk); intro hd; first | exact c67 hd) | fail)); all_goals clear F)
  exact ⟨rfl, rfl⟩
structure Clp (S : Store) (m id id2 : Nat) (ids : Nat → Option Nat) (l : List (List Cell)) (pd : Nat → Nat) (q : List Object) (po : Nat) : Prop where
 n : Nsp S id ids l pd
 o : S[id2]? = some ⟨2, q.map Object.c ++ List.replicate po zo, 0, false⟩
 d : id2 ≠ id
 e : ∀ i k, i < l.length → ids i = some k → k ≠ id2
 m : m ≤ id ∧ m ≤ id2 ∧ ∀ i k, i < l.length → ids i = some k → m ≤ k
theorem Clp.id2_lt {S : Store} {m id id2 po : Nat} {ids : Nat → Option Nat} {l : List (List Cell)} {pd : Nat → Nat} {q : List Object} (h : Clp S m id id2 ids l pd q po) : id2 < S.length := (List.getElem?_eq_some_iff.1 h.o).1
theorem Clp.keep {S S' : Store} {m id id2 po : Nat} {ids : Nat → Option Nat} {l : List (List Cell)} {pd : Nat → Nat} {q : List Object} (h : Clp S m id id2 ids l pd q po) (k : Kept S S') : Clp S' m id id2 ids l pd q po :=
 ⟨h.n.mono (k.2 _ h.n.id_lt) fun i j hi hj => k.2 _ (h.n.in_lt hi hj), (k.2 _ h.id2_lt).trans h.o, h.d, h.e, h.m⟩
theorem c15_P {k : Nat} {md : Md} {S : Store} {vs : List A} {D : List Nat} {kk mm : Int} {m id id2 n n1 n2 po : Nat} {ids : Nat → Option Nat} {l : List (List Cell)} {pd : Nat → Nat} {q : List Object} {x : Int} (hd : dpArgs S [true] vs = some ([.ag [(.v (.int .i64 (kk))), (.v (.int .i64 (mm))), .sl id 0 n n, .sl id2 0 n1 n2], (.v (.int .i64 (x)))], D)) (hD0 : D = [] := by first | assumption | omega | with_reducible rfl) (hC : Clp S m id id2 ids l pd q po := by first | assumption | omega | with_reducible rfl) (hln : l.length = n := by first | assumption | omega | with_reducible rfl) (hq1 : q.length = n1 := by first | assumption | omega | with_reducible rfl) (hqn : n1 + po = n2 := by first | assumption | omega | with_reducible rfl) (hall : ∀ i, i < l.length → ids i ≠ none := by first | assumption | omega | with_reducible rfl) (hwo : md.wr id2 = true) (hw : ∀ i k, i < l.length → ids i = some k → md.wr k = true) (hx : 0 ≤ x ∧ x ≤ 1048576 := by first | assumption | omega | with_reducible rfl) (hn : l.length ≤ 1048576 := by first | assumption | omega | with_reducible rfl) (ht : totN l ≤ 1048576 := by first | assumption | omega | with_reducible rfl) (hpd : ∀ i (h : i < l.length), l[i].length + pd i ≤ 1048576 := by first | assumption | omega | with_reducible rfl) (hq : n2 ≤ 1048576 := by first | assumption | omega | with_reducible rfl) (hk : 4 ≤ k := by omega) :
  Cal (run k) md 15 vs S (fun r S' => r = (.v (.int .i64 (x + 4 * (totN l : Int) + 2 * (q.length : Int)))) ∧ Clp S' m id id2 ids (mkN x l) pd (mkObject (x + 4 * (totN l : Int)) q.length) po ∧ S.length ≤ S'.length ∧ ∀ j, j < S.length → j ≠ id2 → (∀ i, i < l.length → ids i ≠ some j) → S'[j]? = S[j]?) := by
 obtain ⟨k, rfl⟩ : ∃ j, k = j + 1 := ⟨k - 1, by omega⟩
 refine Cal.fnN (n := 14) (rs := [.tmp 4]) (D := D) (Xof_none rfl) g15 (by delta Tryd.f15; exact rfl) (by delta Tryd.f15; exact rfl) (by delta Tryd.f15; exact rfl) hd rfl (by first | exact .inr (by assumption) | exact .inl rfl | exact .inl (by simp [idsV, idsC])) (by simp) ?_
 intro md' ow; have w := ow.w; have w0 := ow.w0; have fz : md'.fz = false := ow.fz
 subst hD0; subst hln; subst hq1; subst hqn
 have hallw := ow.all rfl
 have hN := hC.n
 have hNa : ∀ T, Nsp (S ++ T) id ids l pd := fun T => (hC.keep (Kept.app S T)).n
 have hwa : ∀ i k, i < l.length → ids i = some k → md'.wr k = true := fun i k hi hk => hallw _ (hw i k hi hk)
 have hwo2 := hallw _ hwo
 (have F := an6 @yD @yF @yA @yB @yE @yC; (repeat' (first | refine' dA40 | ((with_reducible apply EvO.call (vs := ?_)); exact rfl; exact rfl; exact dE8; (first | (with_reducible apply Cal.hd (g := 43) (ms := [true]) (p := ?_)) | (with_reducible apply Cal.hd (g := 44) (ms := [true]) (p := ?_)) | (with_reducible apply Cal.hd (ms := []) (p := ?_))); exact dE8) | ((with_reducible apply CalH.mk); intro hd; first | exact c43_P (k := k) hd (ids := ids) (hN := hNa _) (hw := hwa) | exact c43_nil hd | exact c43_B hd (hw := dH1) | exact c44_nil hd | exact c44 hd (hid := dH1) (hw := dH1) | exact c44_P hd (hid := dH1) (hw := dH1)) | fail)); all_goals clear F)
 have i2 := hC.id2_lt
 have f0 := (hkm S.length (fun i hi e => by have := hN.in_lt hi e; omega)).trans (get_len0 S _)
 have fo := (hkm id2 (fun i hi e => hC.e i id2 hi e rfl)).trans ((List.getElem?_append_left i2).trans hC.o)
 simp only [List.getElem?_cons_zero] at f0
 simp only [List.length_append, List.length_cons, List.length_nil] at hlenm
 have hx1 : 0 ≤ x + 4 * (totN l : Int) ∧ x + 4 * (totN l : Int) ≤ 16777216 := by omega
 (have F := an9 @yD @yF @yA @yB @yE @yC @f0 @fo @hwo2; (repeat' (first | refine' dA40 | ((with_reducible apply EvO.call (vs := ?_)); exact rfl; exact rfl; exact dE8; (first | (with_reducible apply Cal.hd (g := 44) (ms := [true]) (p := ?_)) | (with_reducible apply Cal.hd (g := 43) (ms := [true]) (p := ?_)) | (with_reducible apply Cal.hd (ms := []) (p := ?_))); exact dE8) | ((with_reducible apply CalH.mk); intro hd; first | exact c44_P (k := k) hd (id := id2) (p := po) (l := q) (hid := fo) (hw := hwo2) | exact c43_nil hd | exact c43_B hd (hw := dH1) | exact c43_P hd (hw := dH1) | exact c44_nil hd | exact c44 hd (hid := dH1) (hw := dH1)) | fail)); all_goals clear F)
 refine ⟨.inl rfl, fun S₂ hk => ?_⟩
 rw [hk.nil]
 have i3 : id2 < S'.length := by omega
 refine ⟨rfl, ⟨hNm.mono ?_ fun i k hi hk => ?_, ?_, hC.d, fun i k hi hk => hC.e i k (by rwa [mkN_len] at hi) hk, hC.m.1, hC.m.2.1, fun i k hi hk => hC.m.2.2 i k (by rwa [mkN_len] at hi) hk⟩, ?_, fun j hj h1 h2 => ?_⟩
 ·rw [List.getElem?_set_ne hC.d]
 ·rw [List.getElem?_set_ne (fun e => hC.e i k (by rwa [mkN_len] at hi) hk e.symm)]
 ·rw [List.getElem?_set_self i3]
 ·rw [List.length_set]; omega
 ·rw [List.getElem?_set_ne (Ne.symm h1), hkm j h2, List.getElem?_append_left hj]
end Go.Proofs.YtdpaijnbikclgaaDoorB
