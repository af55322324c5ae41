/- Part of the evaluator's contracts: el_String. -/
import Derived.Test.YtomklniddinhnaaFbase
import Derived.Test.YtomklniddinhnaaFmark
namespace Go.Proofs.YtomklniddinhnaaB
open Go Go.Proofs.YtomklniddinhnaaE
set_option linter.unusedVariables false
set_option linter.unusedSectionVars false
set_option linter.unusedSimpArgs false
set_option maxHeartbeats 4000000
set_option maxRecDepth 20000
def szString (l : List ByteArray) : Nat := (l.map fun x => x.size).sum
theorem k17_4 (e : Env) : lpE (FI.K ⟨[], false, [(4, [0, 1, 5]), (1000, [0, 1]), (1001, [0, 1, 10]), (1002, [4]), (1003, [0, 1, 5]), (1004, [0, 1, 5, 14]), (1005, [0, 1, 5]), (1006, [0, 1, 5, 25]), (1007, [4]), (1008, [4])]⟩ 4) e = mkE [(0, e 0), (1, e 1), (5, e 5)] := rfl
theorem c17 {k : Nat} {md : Md} {S : Store} {vs : List A} {D : List Nat} {l l' : List ByteArray} (hd : dpArgs S [] vs = some ([.ro 1 (l.map strC), .ro 1 (l'.map strC)], D)) (he : l = l' := by first | assumption | omega | with_reducible rfl) (hn : l.length ≤ 1048576 := by first | assumption | omega | with_reducible rfl) (hk : 1 ≤ k := by omega) :
  Cal (run k) md 17 vs S (fun r S' => r = (.v (.bool (true))) ∧ S' = S) := by
 obtain ⟨k, rfl⟩ : ∃ j, k = j + 1 := ⟨k - 1, by omega⟩
 refine Cal.fn (n := 26) (rs := [.tmp 4]) (ids := []) (D := D) (Xof_none rfl) g17 (by delta Try.f17; exact rfl) (by delta Try.f17; exact rfl) (by delta Try.f17; exact rfl) hd rfl (by first | rfl | simp [idsV, idsC]) (by simp) (by simp) ?_
 intro md' ow; have w := ow.w; have w0 := ow.w0; have fz : md'.fz = false := ow.fz
 subst he
 (have F := an2 @yB @bne_self_eq_false.{0}; (repeat' (first | refine' dA45 | fail)); all_goals clear F)
 apply Ev.loop (fun j e S' => ∃ i : Nat, e = mkE [(0, .ro 1 (l.map strC)), (1, .ro 1 (l.map strC)), (5, (.v (.int .i64 ((i : Int)))))] ∧ S' = S ∧ j = l.length - i ∧ (i ≤ l.length))
 ·exact ⟨0, (k17_4 _).trans dN8, (by first | rfl | (simp only [app_app, List.cons_append, List.nil_append]; done)), rfl, (by first | omega | rfl | (simp; done))⟩
 rintro j e S' ⟨i, rfl, rfl, hj, hi⟩
 by_cases hli : (i : Int) < (l.length : Int)
 ·have hlt : i < l.length := by omega
  (have F := an4 @yB @hli @bne_self_eq_false.{0} @beq_self_eq_true.{0}; (repeat' (first | refine' dA45 | fail)); all_goals clear F)
  apply roundQ_m; refine ⟨_, ⟨i + 1, (k17_4 _).trans dN8, ?_, rfl, ?_⟩, ?_⟩
  ·first | exact lpG_same | exact lpG_grow rfl | (refine (congrArg (fun K => lpG K _ _ _) (show _ = some _ from rfl)).trans (lpG_cut rfl ?_); simp [lowV, okC, mkE_at]; done) | (refine (congrArg (fun K => lpG K _ _ _) (show _ = some _ from rfl)).trans (lpG_mod rfl rfl ?_ ?_) <;> simp [lowV, okC, mkE_at, rowsAll_cons, rowsAll_nil, yB]; done) | (refine (lpG_len ?_).trans ?_; (focus (simp only [len_app, List.length_cons, List.length_nil, List.length_set]; done)); first | rfl | (simp (disch := first | (intros; contradiction) | (as_aux_lemma => omega) | (as_aux_lemma => (simp only [LEN2]; first | done | omega)) | (as_aux_lemma => (simp only [LEN]; try omega))) only [EV, TT, w, w0, fz, yB, Nat.reduceEqDiff, Nat.reduceBeqDiff, Nat.reduceAdd, Nat.reduceMul, Nat.reduceLeDiff, Nat.reduceLT, reduceCtorEq, Int.reduceEq, Int.reduceNeg]; first | done | rfl)) | (refine (congrArg (fun K => lpG K _ _ _) (show _ = some _ from rfl)).trans (lpG_grow ?_); simp only [lowV, okC, EV, Nat.reduceEqDiff, Nat.reduceBeqDiff, Nat.reduceAdd, Nat.reduceMul, Nat.reduceLeDiff, Nat.reduceLT, reduceCtorEq, Int.reduceEq, Int.reduceNeg]; done)
  ·first | omega | rfl | assumption | (simp; done)
  ·omega
 ·obtain rfl : i = l.length := by omega
  (have F := an2 @yB @hli; (repeat' (first | refine' dA45 | fail)); all_goals clear F)
  exact ⟨rfl, rfl⟩
theorem c17_nn {k : Nat} {md : Md} {S : Store} {vs : List A} {D : List Nat}  (hd : dpArgs S [] vs = some ([.v (.slice none 0 0), .v (.slice none 0 0)], D))  (hk : 1 ≤ k := by omega) :
  Cal (run k) md 17 vs S (fun r S' => r = (.v (.bool (true))) ∧ S' = S) := by
 obtain ⟨k, rfl⟩ : ∃ j, k = j + 1 := ⟨k - 1, by omega⟩
 refine Cal.fn (n := 26) (rs := [.tmp 4]) (ids := []) (D := D) (Xof_none rfl) g17 (by delta Try.f17; exact rfl) (by delta Try.f17; exact rfl) (by delta Try.f17; exact rfl) hd rfl (by first | rfl | simp [idsV, idsC]) (by simp) (by simp) ?_
 intro md' ow; have w := ow.w; have w0 := ow.w0; have fz : md'.fz = false := ow.fz
 (have F := an2 @yB @bne_self_eq_false.{0}; (repeat' (first | refine' dA45 | fail)); all_goals clear F)
 apply Ev.loop (fun j e S' => ∃ i : Nat, e = mkE [(0, .v (.slice none 0 0)), (1, .v (.slice none 0 0)), (5, (.v (.int .i64 ((i : Int)))))] ∧ S' = S ∧ j = 0 ∧ (i = 0))
 ·exact ⟨0, (k17_4 _).trans dN8, (by first | rfl | (simp only [app_app, List.cons_append, List.nil_append]; done)), rfl, (by first | omega | rfl | (simp; done))⟩
 rintro j e S' ⟨i, rfl, rfl, hj, hi⟩
 subst hi
 (have F := @yB; (repeat' (first | refine' dA45 | fail)); all_goals clear F)
 exact ⟨rfl, rfl⟩
theorem k18_2 (e : Env) : lpE (FI.K ⟨[true], false, [(2, [0, 1, 5]), (1000, [0, 1]), (1001, [0, 1, 5]), (1002, [0, 1, 5, 9]), (1003, [0, 1, 5]), (1004, [0, 1, 5]), (1005, [0, 1, 5]), (1006, [4])]⟩ 2) e = mkE [(0, e 0), (1, e 1), (5, e 5)] := rfl
theorem c18_nil {k : Nat} {md : Md} {S : Store} {vs : List A} {D : List Nat} {x : Int} (hd : dpArgs S [true] vs = some ([.v (.slice none 0 0), (.v (.int .i64 (x)))], D))  (hk : 2 ≤ k := by omega) :
  Cal (run k) md 18 vs S (fun r S' => r = (.v (.int .i64 (x))) ∧ S' = S) := by
 obtain ⟨k, rfl⟩ : ∃ j, k = j + 1 := ⟨k - 1, by omega⟩
 refine Cal.fn (n := 20) (rs := [.tmp 4]) (ids := []) (D := D) (Xof_none rfl) g18 (by delta Try.f18; exact rfl) (by delta Try.f18; exact rfl) (by delta Try.f18; exact rfl) hd rfl (by first | rfl | simp [idsV, idsC]) (by simp) (by simp) ?_
 intro md' ow; have w := ow.w; have w0 := ow.w0; have fz : md'.fz = false := ow.fz
 (have F := @yB; (repeat' (first | refine' dA14 | ((with_reducible apply EvO.call (vs := ?_)); exact rfl; exact rfl; exact dE4; (with_reducible apply Cal.hd (ms := []) (p := ?_)); exact dE4) | ((with_reducible apply CalH.mk); intro hd; first | exact c48 hd) | fail)); all_goals clear F)
 apply Ev.loop (fun j e S' => ∃ i : Nat, e = mkE [(0, .v (.slice none 0 0)), (1, (.v (.int .i64 (x)))), (5, (.v (.int .i64 ((i : Int)))))] ∧ S' = S ∧ j = 0 ∧ (i = 0))
 ·exact ⟨0, (k18_2 _).trans dN8, (by first | rfl | (simp only [app_app, List.cons_append, List.nil_append]; done)), rfl, (by first | omega | rfl | (simp; done))⟩
 rintro j e S' ⟨i, rfl, rfl, hj, hi⟩
 subst hi
 (have F := @yB; (repeat' (first | refine' dA14 | ((with_reducible apply EvO.call (vs := ?_)); exact rfl; exact rfl; exact dE4; (with_reducible apply Cal.hd (ms := []) (p := ?_)); exact dE4) | ((with_reducible apply CalH.mk); intro hd; first | exact c48 hd) | fail)); all_goals clear F)
 exact ⟨rfl, rfl⟩
theorem k19_2 (e : Env) : lpE (FI.K ⟨[], false, [(2, [0, 1, 5]), (1000, [0, 1]), (1001, [0, 1, 5]), (1002, [0, 1, 5, 9]), (1003, [0, 1, 5]), (1004, [0, 1, 5, 18]), (1005, [4]), (1006, [0, 1, 5]), (1007, [4])]⟩ 2) e = mkE [(0, e 0), (1, e 1), (5, e 5)] := rfl
theorem c19_nil {k : Nat} {md : Md} {S : Store} {vs : List A} {D : List Nat} {x : Int} (hd : dpArgs S [] vs = some ([.v (.slice none 0 0), (.v (.int .i64 (x)))], D))  (hk : 2 ≤ k := by omega) :
  Cal (run k) md 19 vs S (fun r S' => r = (.v (.int .i64 (x))) ∧ S' = S) := by
 obtain ⟨k, rfl⟩ : ∃ j, k = j + 1 := ⟨k - 1, by omega⟩
 refine Cal.fn (n := 22) (rs := [.tmp 4]) (ids := []) (D := D) (Xof_none rfl) g19 (by delta Try.f19; exact rfl) (by delta Try.f19; exact rfl) (by delta Try.f19; exact rfl) hd rfl (by first | rfl | simp [idsV, idsC]) (by simp) (by simp) ?_
 intro md' ow; have w := ow.w; have w0 := ow.w0; have fz : md'.fz = false := ow.fz
 (have F := @yB; (repeat' (first | refine' dA46 | ((with_reducible first | apply EvO.call (vs := ?_) | apply EvT.call (vs := ?_)); exact rfl; exact rfl; exact dE4; (with_reducible apply Cal.hd (ms := []) (p := ?_)); exact dE4) | ((with_reducible apply CalH.mk); intro hd; first | exact c48 hd) | fail)); all_goals clear F)
 apply Ev.loop (fun j e S' => ∃ i : Nat, e = mkE [(0, .v (.slice none 0 0)), (1, (.v (.int .i64 (x)))), (5, (.v (.int .i64 ((i : Int)))))] ∧ S' = S ∧ j = 0 ∧ (i = 0))
 ·exact ⟨0, (k19_2 _).trans dN8, (by first | rfl | (simp only [app_app, List.cons_append, List.nil_append]; done)), rfl, (by first | omega | rfl | (simp; done))⟩
 rintro j e S' ⟨i, rfl, rfl, hj, hi⟩
 subst hi
 (have F := @yB; (repeat' (first | refine' dA46 | ((with_reducible first | apply EvO.call (vs := ?_) | apply EvT.call (vs := ?_)); exact rfl; exact rfl; exact dE4; (with_reducible apply Cal.hd (ms := []) (p := ?_)); exact dE4) | ((with_reducible apply CalH.mk); intro hd; first | exact c48 hd) | fail)); all_goals clear F)
 exact ⟨rfl, rfl⟩
def mkString (x : Int) (m : Nat) : List ByteArray := (List.range m).map fun (i : Nat) => mt (x + (i : Int))
theorem mkString_len (x : Int) (m : Nat) : (mkString x m).length = m := by simp [mkString]
theorem mkString_get (x : Int) {m i : Nat} (h : i < m) : (List.map strC (mkString x m))[i]? = some (strC (mt (x + (i : Int)))) := by simp [mkString, h]
theorem mkString_pre (x : Int) (l : List ByteArray) {i : Nat} (h : i ≤ l.length) : (mkString x i ++ l.drop i).length = l.length := by simp [mkString]; omega
theorem mkString_at (x : Int) (l : List ByteArray) {i : Nat} (h : i < l.length) : (mkString x i ++ l.drop i)[i]? = some l[i] := by rw [List.getElem?_append_right (by simp [mkString])]; simp [mkString, h]
theorem mkString_step (x : Int) (l : List ByteArray) (i : Nat) (h : i < l.length) : (List.map strC (mkString x i ++ l.drop i)).set i (strC (mt (x + (i : Int)))) = List.map strC (mkString x (i + 1) ++ l.drop (i + 1)) := by
 rw [← List.map_set]
 congr 1
 rw [List.set_append, if_neg (by simp [mkString]), show (mkString x i).length = i by simp [mkString], Nat.sub_self, List.drop_eq_getElem_cons h, List.set_cons_zero, mkString, mkString, List.range_succ, List.map_append, List.append_assoc]
 rfl
theorem tk_mkString (x : Int) (m : Nat) : List.take m (List.map strC (mkString x m)) = List.map strC (mkString x m) := List.take_of_length_le (by simp [mkString])
theorem c18 {k : Nat} {md : Md} {S : Store} {vs : List A} {D : List Nat} {id : Nat} {l : List ByteArray} {x : Int} (hd : dpArgs S [true] vs = some ([.sl id 0 l.length l.length, (.v (.int .i64 (x)))], D)) (hD : (D.all fun i => !([id] : List Nat).contains i) = true := by first | rfl | simp) (hx : 0 ≤ x ∧ x ≤ 16777216 := by first | assumption | omega | with_reducible rfl) (hn : l.length ≤ 1048576 := by first | assumption | omega | with_reducible rfl) (hid : S[id]? = some ⟨1, l.map strC, 0, false⟩) (hw : md.wr id = true) (hk : 2 ≤ k := by omega) :
  Cal (run k) md 18 vs S (fun r S' => r = (.v (.int .i64 (x + l.length))) ∧ S' = S.set id ⟨1, (mkString x l.length).map strC, 0, false⟩) := by
 obtain ⟨k, rfl⟩ : ∃ j, k = j + 1 := ⟨k - 1, by omega⟩
 refine Cal.fn (n := 20) (rs := [.tmp 4]) (ids := [id]) (D := D) (Xof_none rfl) g18 (by delta Try.f18; exact rfl) (by delta Try.f18; exact rfl) (by delta Try.f18; exact rfl) hd rfl (by first | rfl | simp [idsV, idsC]) hD (by simp) ?_
 intro md' ow; have w := ow.w; have w0 := ow.w0; have fz : md'.fz = false := ow.fz
 have hlt0 := (List.getElem?_eq_some_iff.1 hid).1
 have wi := ow.old id (by simp) hw
 (have F := an3 @yB @tk_mkString @mkString_len; (repeat' (first | refine' dA47 | ((with_reducible apply EvO.call (vs := ?_)); exact rfl; exact rfl; exact dE10; (with_reducible apply Cal.hd (ms := []) (p := ?_)); exact dE10) | ((with_reducible apply CalH.mk); intro hd; first | exact c48 hd) | fail)); all_goals clear F)
 apply Ev.loop (fun j e S' => ∃ i : Nat, e = mkE [(0, .sl id 0 l.length l.length), (1, (.v (.int .i64 (x + (i : Int))))), (5, (.v (.int .i64 ((i : Int)))))] ∧ S' = S.set id ⟨1, (mkString x i ++ l.drop i).map strC, 0, false⟩ ∧ j = l.length - i ∧ (i ≤ l.length))
 ·exact ⟨0, (k18_2 _).trans dN9, (by rw [show mkString x 0 ++ l.drop 0 = l by simp [mkString]]; exact (set_self hid).symm), rfl, (by omega)⟩
 rintro j e S' ⟨i, rfl, rfl, hj, hi⟩
 have hml := mkString_pre x l hi
 by_cases hli : (i : Int) < (l.length : Int)
 ·have hlt : i < l.length := by omega
  have hg := mkString_at x l hlt
  (have F := an11 @yB @tk_mkString @mkString_len @hli @hlt @hlt0 @List.getElem?_set_self.{0} @List.set_set.{0} @List.length_set.{0} @hml @hg; (repeat' (first | refine' dA48 | ((with_reducible apply EvO.call (vs := ?_)); exact rfl; exact rfl; exact dE15; (with_reducible apply Cal.hd (ms := []) (p := ?_)); exact dE15) | ((with_reducible apply CalH.mk); intro hd; first | exact c48 hd) | fail)); all_goals clear F)
  apply roundQ_m; refine ⟨_, ⟨i + 1, (k18_2 _).trans dN10, ?_, rfl, ?_⟩, ?_⟩
  ·refine (lpG_len ?_).trans ?_; (focus (simp only [List.length_set]; done)); rw [← mkString_step x l i hlt]; first | rfl | (simp only [markU, markB]; first | done | rfl)
  ·omega
  ·omega
 ·obtain rfl : i = l.length := by omega
  rw [List.drop_length, List.append_nil]
  (have F := an8 @yB @tk_mkString @mkString_len @hli @hlt0 @List.getElem?_set_self.{0} @List.length_set.{0} @hw; (repeat' (first | refine' dA47 | ((with_reducible apply EvO.call (vs := ?_)); exact rfl; exact rfl; exact dE10; (with_reducible apply Cal.hd (ms := []) (p := ?_)); exact dE10) | ((with_reducible apply CalH.mk); intro hd; first | exact c48 hd) | fail)); all_goals clear F)
  exact ⟨rfl, rfl⟩
theorem c19 {k : Nat} {md : Md} {S : Store} {vs : List A} {D : List Nat} {m : Nat} {x : Int} (hd : dpArgs S [] vs = some ([.ro 1 ((mkString x m).map strC), (.v (.int .i64 (x)))], D)) (hx : 0 ≤ x ∧ x ≤ 16777216 := by first | assumption | omega | with_reducible rfl) (hn : m ≤ 1048576 := by first | assumption | omega | with_reducible rfl) (hk : 2 ≤ k := by omega) :
  Cal (run k) md 19 vs S (fun r S' => r = (.v (.int .i64 (x + m))) ∧ S' = S) := by
 obtain ⟨k, rfl⟩ : ∃ j, k = j + 1 := ⟨k - 1, by omega⟩
 refine Cal.fn (n := 22) (rs := [.tmp 4]) (ids := []) (D := D) (Xof_none rfl) g19 (by delta Try.f19; exact rfl) (by delta Try.f19; exact rfl) (by delta Try.f19; exact rfl) hd rfl (by first | rfl | simp [idsV, idsC]) (by simp) (by simp) ?_
 intro md' ow; have w := ow.w; have w0 := ow.w0; have fz : md'.fz = false := ow.fz
 (have F := an3 @yB @tk_mkString @mkString_len; (repeat' (first | refine' dA46 | ((with_reducible first | apply EvO.call (vs := ?_) | apply EvT.call (vs := ?_)); exact rfl; exact rfl; exact dE4; (with_reducible apply Cal.hd (ms := []) (p := ?_)); exact dE4) | ((with_reducible apply CalH.mk); intro hd; first | exact c48 hd) | fail)); all_goals clear F)
 apply Ev.loop (fun j e S' => ∃ i : Nat, e = mkE [(0, .ro 1 ((mkString x m).map strC)), (1, (.v (.int .i64 (x + (i : Int))))), (5, (.v (.int .i64 ((i : Int)))))] ∧ S' = S ∧ j = m - i ∧ (i ≤ m))
 ·exact ⟨0, (k19_2 _).trans dN9, (by first | rfl | (simp only [app_app, List.cons_append, List.nil_append]; done)), rfl, (by first | omega | rfl | (simp; done))⟩
 rintro j e S' ⟨i, rfl, rfl, hj, hi⟩
 by_cases hli : (i : Int) < (m : Int)
 ·have hlt : i < m := by omega
  have hg := mkString_get x hlt
  (have F := an7 @yB @tk_mkString @mkString_len @hli @hg @mkString_len @bne_self_eq_false.{0}; (repeat' (first | refine' dA46 | ((with_reducible first | apply EvO.call (vs := ?_) | apply EvT.call (vs := ?_)); exact rfl; exact rfl; exact dE4; (with_reducible apply Cal.hd (ms := []) (p := ?_)); exact dE4) | ((with_reducible apply CalH.mk); intro hd; first | exact c48 hd) | fail)); all_goals clear F)
  apply roundQ_m; refine ⟨_, ⟨i + 1, (k19_2 _).trans dN10, ?_, rfl, ?_⟩, ?_⟩
  ·first | exact lpG_same | exact lpG_grow rfl | (refine (congrArg (fun K => lpG K _ _ _) (show _ = some _ from rfl)).trans (lpG_cut rfl ?_); simp [lowV, okC, mkE_at]; done) | (refine (congrArg (fun K => lpG K _ _ _) (show _ = some _ from rfl)).trans (lpG_mod rfl rfl ?_ ?_) <;> simp [lowV, okC, mkE_at, rowsAll_cons, rowsAll_nil, yB, tk_mkString, mkString_len]; done) | (refine (lpG_len ?_).trans ?_; (focus (simp only [len_app, List.length_cons, List.length_nil, List.length_set]; done)); first | rfl | (simp (disch := first | (intros; contradiction) | (as_aux_lemma => omega) | (as_aux_lemma => (simp only [LEN2]; first | done | omega)) | (as_aux_lemma => (simp only [LEN]; try omega))) only [nx1, EV, TT, w, w0, fz, yB, tk_mkString, mkString_len, Nat.reduceEqDiff, Nat.reduceBeqDiff, Nat.reduceAdd, Nat.reduceMul, Nat.reduceLeDiff, Nat.reduceLT, reduceCtorEq, Int.reduceEq, Int.reduceNeg]; first | done | rfl)) | (refine (congrArg (fun K => lpG K _ _ _) (show _ = some _ from rfl)).trans (lpG_grow ?_); simp only [lowV, okC, EV, Nat.reduceEqDiff, Nat.reduceBeqDiff, Nat.reduceAdd, Nat.reduceMul, Nat.reduceLeDiff, Nat.reduceLT, reduceCtorEq, Int.reduceEq, Int.reduceNeg]; done)
  ·first | omega | rfl | assumption | (simp; done)
  ·omega
 ·obtain rfl : i = m := by omega
  (have F := an5 @yB @tk_mkString @mkString_len @hli @mkString_len; (repeat' (first | refine' dA46 | ((with_reducible first | apply EvO.call (vs := ?_) | apply EvT.call (vs := ?_)); exact rfl; exact rfl; exact dE4; (with_reducible apply Cal.hd (ms := []) (p := ?_)); exact dE4) | ((with_reducible apply CalH.mk); intro hd; first | exact c48 hd) | fail)); all_goals clear F)
  exact ⟨rfl, rfl⟩
theorem yA : ((type_of% @tk_mkString) ∧ (type_of% @mkString_len)) := ⟨@tk_mkString, @mkString_len⟩
end Go.Proofs.YtomklniddinhnaaB
