/- Part of the evaluator's contracts: el_Part. -/
import Derived.Test.YtomklniddinhnaaFbase
import Derived.Test.YtomklniddinhnaaFmark
namespace Go.Proofs.YtomklniddinhnaaB
open Go Go.Proofs.YtomklniddinhnaaE
set_option linter.unusedVariables false
set_option linter.unusedSectionVars false
set_option linter.unusedSimpArgs false
set_option maxHeartbeats 4000000
set_option maxRecDepth 20000
structure Part where
 gen : Int
 no : Int
 data : ByteArray
 deriving DecidableEq
def Part.c (x : Part) : List A := [(.v (.int .i64 (x.gen))), (.v (.int .i64 (x.no))), (.v (.string (x.data)))]
theorem fl_Part (l : List Part) : flatRowsB (List.map Part.c l) = true := flat_map Part.c (fun _ => rfl) l
theorem ok_Part (m : Nat) (l : List Part) : rowsAll (okC m) (List.map Part.c l) = true := rowsAll_map (okC m) Part.c (fun _ => rfl) l
theorem nr_Part (l : List Part) : rowsAll noRoC (List.map Part.c l) = true := rowsAll_map noRoC Part.c (fun _ => rfl) l
theorem lf_Part (l : List Part) : leafRows (List.map Part.c l) = true := leaf_map Part.c (fun _ => rfl) l
def szPart (l : List Part) : Nat := (l.map fun x => x.data.size).sum
theorem c66 {k : Nat} {md : Md} {S : Store} {vs : List A} {D : List Nat} {a0 : Int} {a1 : Int} {a2 : ByteArray} {b0 : Int} {b1 : Int} {b2 : ByteArray} (hd : dpArgs S [] vs = some ([.ag [(.v (.int .i64 (a0))), (.v (.int .i64 (a1))), (.v (.string (a2)))], .ag [(.v (.int .i64 (b0))), (.v (.int .i64 (b1))), (.v (.string (b2)))]], D)) (h0 : a0 = b0 := by first | assumption | omega | with_reducible rfl) (h1 : a1 = b1 := by first | assumption | omega | with_reducible rfl) (h2 : a2 = b2 := by first | assumption | omega | with_reducible rfl) (hk : 1 ≤ k := by omega) :
  Cal (run k) md 66 vs S (fun r S' => r = (.v (.bool (true))) ∧ S' = S) := by
 obtain ⟨k, rfl⟩ : ∃ j, k = j + 1 := ⟨k - 1, by omega⟩
 refine Cal.fn (n := 20) (rs := [.tmp 4]) (ids := []) (D := D) (Xof_none rfl) g66 (by delta Try.f66; exact rfl) (by delta Try.f66; exact rfl) (by delta Try.f66; exact rfl) hd rfl (by first | rfl | simp [idsV, idsC]) (by simp) (by simp) ?_
 intro md' ow; have w := ow.w; have w0 := ow.w0; have fz : md'.fz = false := ow.fz
 subst h0; subst h1; subst h2
 (have F := an7 @yD @fl_Part @ok_Part @nr_Part @lf_Part @bne_self_eq_false.{0} @beq_self_eq_true.{0}; (repeat' (first | refine' dA4 | fail)); all_goals clear F)
 exact ⟨rfl, rfl⟩
theorem k38_4 (e : Env) : lpE (FI.K ⟨[], false, [(4, [0, 1, 5]), (1000, [0, 1]), (1001, [0, 1, 10]), (1002, [4]), (1003, [0, 1, 5]), (1004, [0, 1, 5, 14]), (1005, [0, 1, 5]), (1006, [0, 1, 5, 26]), (1007, [4]), (1008, [4])]⟩ 4) e = mkE [(0, e 0), (1, e 1), (5, e 5)] := rfl
theorem c38 {k : Nat} {md : Md} {S : Store} {vs : List A} {D : List Nat} {l l' : List Part} (hd : dpArgs S [] vs = some ([.ro 3 (l.map Part.c), .ro 3 (l'.map Part.c)], D)) (he : l = l' := by first | assumption | omega | with_reducible rfl) (hn : l.length ≤ 1048576 := by first | assumption | omega | with_reducible rfl) (hk : 2 ≤ k := by omega) :
  Cal (run k) md 38 vs S (fun r S' => r = (.v (.bool (true))) ∧ S' = S) := by
 obtain ⟨k, rfl⟩ : ∃ j, k = j + 1 := ⟨k - 1, by omega⟩
 refine Cal.fn (n := 27) (rs := [.tmp 4]) (ids := []) (D := D) (Xof_none rfl) g38 (by delta Try.f38; exact rfl) (by delta Try.f38; exact rfl) (by delta Try.f38; exact rfl) hd rfl (by first | rfl | simp [idsV, idsC]) (by simp) (by simp) ?_
 intro md' ow; have w := ow.w; have w0 := ow.w0; have fz : md'.fz = false := ow.fz
 subst he
 (have F := an6 @yD @fl_Part @ok_Part @nr_Part @lf_Part @bne_self_eq_false.{0}; (repeat' (first | refine' dA5 | ((with_reducible first | apply EvO.call (vs := ?_) | apply EvT.call (vs := ?_)); exact rfl; exact rfl; exact dE1; (with_reducible apply Cal.hd (ms := []) (p := ?_)); exact dE1) | ((with_reducible apply CalH.mk); intro hd; first | exact c66 hd) | fail)); all_goals clear F)
 apply Ev.loop (fun j e S' => ∃ i : Nat, e = mkE [(0, .ro 3 (l.map Part.c)), (1, .ro 3 (l.map Part.c)), (5, (.v (.int .i64 ((i : Int)))))] ∧ S' = S ∧ j = l.length - i ∧ (i ≤ l.length))
 ·exact ⟨0, (k38_4 _).trans dN2, (by first | rfl | (simp only [app_app, List.cons_append, List.nil_append]; done)), rfl, (by first | omega | rfl | (simp; done))⟩
 rintro j e S' ⟨i, rfl, rfl, hj, hi⟩
 by_cases hli : (i : Int) < (l.length : Int)
 ·have hlt : i < l.length := by omega
  (have F := an8 @yD @fl_Part @ok_Part @nr_Part @lf_Part @hli @bne_self_eq_false.{0} @beq_self_eq_true.{0}; (repeat' (first | refine' dA5 | ((with_reducible first | apply EvO.call (vs := ?_) | apply EvT.call (vs := ?_)); exact rfl; exact rfl; exact dE1; (with_reducible apply Cal.hd (ms := []) (p := ?_)); exact dE1) | ((with_reducible apply CalH.mk); intro hd; first | exact c66 hd) | fail)); all_goals clear F)
  apply roundQ_m; refine ⟨_, ⟨i + 1, (k38_4 _).trans dN2, ?_, rfl, ?_⟩, ?_⟩
  ·first | exact lpG_same | exact lpG_grow rfl | (refine (congrArg (fun K => lpG K _ _ _) (show _ = some _ from rfl)).trans (lpG_cut rfl ?_); simp [lowV, okC, mkE_at]; done) | (refine (congrArg (fun K => lpG K _ _ _) (show _ = some _ from rfl)).trans (lpG_mod rfl rfl ?_ ?_) <;> simp [lowV, okC, mkE_at, rowsAll_cons, rowsAll_nil, yD, fl_Part, ok_Part, nr_Part, lf_Part, Part.c]; done) | (refine (lpG_len ?_).trans ?_; (focus (simp only [len_app, List.length_cons, List.length_nil, List.length_set]; done)); first | rfl | (simp (disch := first | (intros; contradiction) | (as_aux_lemma => omega) | (as_aux_lemma => (simp only [LEN2]; first | done | omega)) | (as_aux_lemma => (simp only [LEN]; try omega))) only [EV, TT, w, w0, fz, yD, fl_Part, ok_Part, nr_Part, lf_Part, Part.c, Nat.reduceEqDiff, Nat.reduceBeqDiff, Nat.reduceAdd, Nat.reduceMul, Nat.reduceLeDiff, Nat.reduceLT, reduceCtorEq, Int.reduceEq, Int.reduceNeg]; first | done | rfl)) | (refine (congrArg (fun K => lpG K _ _ _) (show _ = some _ from rfl)).trans (lpG_grow ?_); simp only [lowV, okC, EV, Nat.reduceEqDiff, Nat.reduceBeqDiff, Nat.reduceAdd, Nat.reduceMul, Nat.reduceLeDiff, Nat.reduceLT, reduceCtorEq, Int.reduceEq, Int.reduceNeg]; done)
  ·first | omega | rfl | assumption | (simp; done)
  ·omega
 ·obtain rfl : i = l.length := by omega
  (have F := an6 @yD @fl_Part @ok_Part @nr_Part @lf_Part @hli; (repeat' (first | refine' dA5 | ((with_reducible first | apply EvO.call (vs := ?_) | apply EvT.call (vs := ?_)); exact rfl; exact rfl; exact dE1; (with_reducible apply Cal.hd (ms := []) (p := ?_)); exact dE1) | ((with_reducible apply CalH.mk); intro hd; first | exact c66 hd) | fail)); all_goals clear F)
  exact ⟨rfl, rfl⟩
theorem c38_nn {k : Nat} {md : Md} {S : Store} {vs : List A} {D : List Nat}  (hd : dpArgs S [] vs = some ([.v (.slice none 0 0), .v (.slice none 0 0)], D))  (hk : 2 ≤ k := by omega) :
  Cal (run k) md 38 vs S (fun r S' => r = (.v (.bool (true))) ∧ S' = S) := by
 obtain ⟨k, rfl⟩ : ∃ j, k = j + 1 := ⟨k - 1, by omega⟩
 refine Cal.fn (n := 27) (rs := [.tmp 4]) (ids := []) (D := D) (Xof_none rfl) g38 (by delta Try.f38; exact rfl) (by delta Try.f38; exact rfl) (by delta Try.f38; exact rfl) hd rfl (by first | rfl | simp [idsV, idsC]) (by simp) (by simp) ?_
 intro md' ow; have w := ow.w; have w0 := ow.w0; have fz : md'.fz = false := ow.fz
 (have F := an6 @yD @fl_Part @ok_Part @nr_Part @lf_Part @bne_self_eq_false.{0}; (repeat' (first | refine' dA5 | ((with_reducible first | apply EvO.call (vs := ?_) | apply EvT.call (vs := ?_)); exact rfl; exact rfl; exact dE1; (with_reducible apply Cal.hd (ms := []) (p := ?_)); exact dE1) | ((with_reducible apply CalH.mk); intro hd; first | exact c66 hd) | fail)); all_goals clear F)
 apply Ev.loop (fun j e S' => ∃ i : Nat, e = mkE [(0, .v (.slice none 0 0)), (1, .v (.slice none 0 0)), (5, (.v (.int .i64 ((i : Int)))))] ∧ S' = S ∧ j = 0 ∧ (i = 0))
 ·exact ⟨0, (k38_4 _).trans dN2, (by first | rfl | (simp only [app_app, List.cons_append, List.nil_append]; done)), rfl, (by first | omega | rfl | (simp; done))⟩
 rintro j e S' ⟨i, rfl, rfl, hj, hi⟩
 subst hi
 (have F := an5 @yD @fl_Part @ok_Part @nr_Part @lf_Part; (repeat' (first | refine' dA5 | ((with_reducible first | apply EvO.call (vs := ?_) | apply EvT.call (vs := ?_)); exact rfl; exact rfl; exact dE1; (with_reducible apply Cal.hd (ms := []) (p := ?_)); exact dE1) | ((with_reducible apply CalH.mk); intro hd; first | exact c66 hd) | fail)); all_goals clear F)
 exact ⟨rfl, rfl⟩
theorem k40_2 (e : Env) : lpE (FI.K ⟨[true], false, [(2, [0, 1, 5]), (1000, [0, 1]), (1001, [0, 1, 5]), (1002, [0, 1, 5, 9]), (1003, [0, 1, 5]), (1004, [0, 1, 5]), (1005, [0, 1, 5]), (1006, [0, 1, 5]), (1007, [0, 1, 5]), (1008, [0, 1, 5]), (1009, [0, 1, 5]), (1010, [4])]⟩ 2) e = mkE [(0, e 0), (1, e 1), (5, e 5)] := rfl
theorem c40_nil {k : Nat} {md : Md} {S : Store} {vs : List A} {D : List Nat} {x : Int} (hd : dpArgs S [true] vs = some ([.v (.slice none 0 0), (.v (.int .i64 (x)))], D))  (hk : 2 ≤ k := by omega) :
  Cal (run k) md 40 vs S (fun r S' => r = (.v (.int .i64 (x))) ∧ S' = S) := by
 obtain ⟨k, rfl⟩ : ∃ j, k = j + 1 := ⟨k - 1, by omega⟩
 refine Cal.fn (n := 35) (rs := [.tmp 4]) (ids := []) (D := D) (Xof_none rfl) g40 (by delta Try.f40; exact rfl) (by delta Try.f40; exact rfl) (by delta Try.f40; exact rfl) hd rfl (by first | rfl | simp [idsV, idsC]) (by simp) (by simp) ?_
 intro md' ow; have w := ow.w; have w0 := ow.w0; have fz : md'.fz = false := ow.fz
 (have F := an5 @yD @fl_Part @ok_Part @nr_Part @lf_Part; (repeat' (first | refine' dA6 | ((with_reducible apply EvO.call (vs := ?_)); exact rfl; exact rfl; exact dE1; (with_reducible apply Cal.hd (ms := []) (p := ?_)); exact dE1) | ((with_reducible apply CalH.mk); intro hd; first | exact c48 hd) | fail)); all_goals clear F)
 apply Ev.loop (fun j e S' => ∃ i : Nat, e = mkE [(0, .v (.slice none 0 0)), (1, (.v (.int .i64 (x)))), (5, (.v (.int .i64 ((i : Int)))))] ∧ S' = S ∧ j = 0 ∧ (i = 0))
 ·exact ⟨0, (k40_2 _).trans dN2, (by first | rfl | (simp only [app_app, List.cons_append, List.nil_append]; done)), rfl, (by first | omega | rfl | (simp; done))⟩
 rintro j e S' ⟨i, rfl, rfl, hj, hi⟩
 subst hi
 (have F := an5 @yD @fl_Part @ok_Part @nr_Part @lf_Part; (repeat' (first | refine' dA6 | ((with_reducible apply EvO.call (vs := ?_)); exact rfl; exact rfl; exact dE1; (with_reducible apply Cal.hd (ms := []) (p := ?_)); exact dE1) | ((with_reducible apply CalH.mk); intro hd; first | exact c48 hd) | fail)); all_goals clear F)
 exact ⟨rfl, rfl⟩
theorem k42_2 (e : Env) : lpE (FI.K ⟨[], false, [(2, [0, 1, 5]), (1000, [0, 1]), (1001, [0, 1, 5]), (1002, [0, 1, 5, 9]), (1003, [0, 1, 5]), (1004, [0, 1, 5, 18]), (1005, [4]), (1006, [0, 1, 5]), (1007, [0, 1, 5, 27]), (1008, [4]), (1009, [0, 1, 5]), (1010, [0, 1, 5, 37]), (1011, [4]), (1012, [0, 1, 5]), (1013, [4])]⟩ 2) e = mkE [(0, e 0), (1, e 1), (5, e 5)] := rfl
theorem c42_nil {k : Nat} {md : Md} {S : Store} {vs : List A} {D : List Nat} {x : Int} (hd : dpArgs S [] vs = some ([.v (.slice none 0 0), (.v (.int .i64 (x)))], D))  (hk : 2 ≤ k := by omega) :
  Cal (run k) md 42 vs S (fun r S' => r = (.v (.int .i64 (x))) ∧ S' = S) := by
 obtain ⟨k, rfl⟩ : ∃ j, k = j + 1 := ⟨k - 1, by omega⟩
 refine Cal.fn (n := 41) (rs := [.tmp 4]) (ids := []) (D := D) (Xof_none rfl) g42 (by delta Try.f42; exact rfl) (by delta Try.f42; exact rfl) (by delta Try.f42; exact rfl) hd rfl (by first | rfl | simp [idsV, idsC]) (by simp) (by simp) ?_
 intro md' ow; have w := ow.w; have w0 := ow.w0; have fz : md'.fz = false := ow.fz
 (have F := an5 @yD @fl_Part @ok_Part @nr_Part @lf_Part; (repeat' (first | refine' dA7 | ((with_reducible first | apply EvO.call (vs := ?_) | apply EvT.call (vs := ?_)); exact rfl; exact rfl; exact dE1; (with_reducible apply Cal.hd (ms := []) (p := ?_)); exact dE1) | ((with_reducible apply CalH.mk); intro hd; first | exact c48 hd) | fail)); all_goals clear F)
 apply Ev.loop (fun j e S' => ∃ i : Nat, e = mkE [(0, .v (.slice none 0 0)), (1, (.v (.int .i64 (x)))), (5, (.v (.int .i64 ((i : Int)))))] ∧ S' = S ∧ j = 0 ∧ (i = 0))
 ·exact ⟨0, (k42_2 _).trans dN2, (by first | rfl | (simp only [app_app, List.cons_append, List.nil_append]; done)), rfl, (by first | omega | rfl | (simp; done))⟩
 rintro j e S' ⟨i, rfl, rfl, hj, hi⟩
 subst hi
 (have F := an5 @yD @fl_Part @ok_Part @nr_Part @lf_Part; (repeat' (first | refine' dA7 | ((with_reducible first | apply EvO.call (vs := ?_) | apply EvT.call (vs := ?_)); exact rfl; exact rfl; exact dE1; (with_reducible apply Cal.hd (ms := []) (p := ?_)); exact dE1) | ((with_reducible apply CalH.mk); intro hd; first | exact c48 hd) | fail)); all_goals clear F)
 exact ⟨rfl, rfl⟩
def mkPart (x : Int) (m : Nat) : List Part := (List.range m).map fun (i : Nat) => ⟨(x + 3 * (i : Int)), (x + 3 * (i : Int) + 1), mt (x + 3 * (i : Int) + 1 + 1)⟩
theorem mkPart_len (x : Int) (m : Nat) : (mkPart x m).length = m := by simp [mkPart]
theorem mkPart_get (x : Int) {m i : Nat} (h : i < m) : (List.map Part.c (mkPart x m))[i]? = some (Part.c ⟨(x + 3 * (i : Int)), (x + 3 * (i : Int) + 1), mt (x + 3 * (i : Int) + 1 + 1)⟩) := by simp [mkPart, h]
theorem mkPart_pre (x : Int) (l : List Part) {i : Nat} (h : i ≤ l.length) : (mkPart x i ++ l.drop i).length = l.length := by simp [mkPart]; omega
theorem mkPart_at (x : Int) (l : List Part) {i : Nat} (h : i < l.length) : (mkPart x i ++ l.drop i)[i]? = some l[i] := by rw [List.getElem?_append_right (by simp [mkPart])]; simp [mkPart, h]
theorem mkPart_step (x : Int) (l : List Part) (i : Nat) (h : i < l.length) : (List.map Part.c (mkPart x i ++ l.drop i)).set i (Part.c ⟨(x + 3 * (i : Int)), (x + 3 * (i : Int) + 1), mt (x + 3 * (i : Int) + 1 + 1)⟩) = List.map Part.c (mkPart x (i + 1) ++ l.drop (i + 1)) := by
 rw [← List.map_set]
 congr 1
 rw [List.set_append, if_neg (by simp [mkPart]), show (mkPart x i).length = i by simp [mkPart], Nat.sub_self, List.drop_eq_getElem_cons h, List.set_cons_zero, mkPart, mkPart, List.range_succ, List.map_append, List.append_assoc]
 rfl
theorem tk_mkPart (x : Int) (m : Nat) : List.take m (List.map Part.c (mkPart x m)) = List.map Part.c (mkPart x m) := List.take_of_length_le (by simp [mkPart])
theorem c40 {k : Nat} {md : Md} {S : Store} {vs : List A} {D : List Nat} {id : Nat} {l : List Part} {x : Int} (hd : dpArgs S [true] vs = some ([.sl id 0 l.length l.length, (.v (.int .i64 (x)))], D)) (hD : (D.all fun i => !([id] : List Nat).contains i) = true := by first | rfl | simp) (hx : 0 ≤ x ∧ x ≤ 16777216 := by first | assumption | omega | with_reducible rfl) (hn : l.length ≤ 1048576 := by first | assumption | omega | with_reducible rfl) (hid : S[id]? = some ⟨3, l.map Part.c, 0, false⟩) (hw : md.wr id = true) (hk : 2 ≤ k := by omega) :
  Cal (run k) md 40 vs S (fun r S' => r = (.v (.int .i64 (x + 3 * l.length))) ∧ S' = S.set id ⟨3, (mkPart x l.length).map Part.c, 0, false⟩) := by
 obtain ⟨k, rfl⟩ : ∃ j, k = j + 1 := ⟨k - 1, by omega⟩
 refine Cal.fn (n := 35) (rs := [.tmp 4]) (ids := [id]) (D := D) (Xof_none rfl) g40 (by delta Try.f40; exact rfl) (by delta Try.f40; exact rfl) (by delta Try.f40; exact rfl) hd rfl (by first | rfl | simp [idsV, idsC]) hD (by simp) ?_
 intro md' ow; have w := ow.w; have w0 := ow.w0; have fz : md'.fz = false := ow.fz
 have hlt0 := (List.getElem?_eq_some_iff.1 hid).1
 have wi := ow.old id (by simp) hw
 (have F := an7 @yD @fl_Part @ok_Part @nr_Part @lf_Part @tk_mkPart @mkPart_len; (repeat' (first | refine' dA8 | ((with_reducible apply EvO.call (vs := ?_)); exact rfl; exact rfl; exact dE2; (with_reducible apply Cal.hd (ms := []) (p := ?_)); exact dE2) | ((with_reducible apply CalH.mk); intro hd; first | exact c48 hd) | fail)); all_goals clear F)
 apply Ev.loop (fun j e S' => ∃ i : Nat, e = mkE [(0, .sl id 0 l.length l.length), (1, (.v (.int .i64 (x + 3 * (i : Int))))), (5, (.v (.int .i64 ((i : Int)))))] ∧ S' = S.set id ⟨3, (mkPart x i ++ l.drop i).map Part.c, 0, false⟩ ∧ j = l.length - i ∧ (i ≤ l.length))
 ·exact ⟨0, (k40_2 _).trans dN3, (by rw [show mkPart x 0 ++ l.drop 0 = l by simp [mkPart]]; exact (set_self hid).symm), rfl, (by omega)⟩
 rintro j e S' ⟨i, rfl, rfl, hj, hi⟩
 have hml := mkPart_pre x l hi
 by_cases hli : (i : Int) < (l.length : Int)
 ·have hlt : i < l.length := by omega
  have hg := mkPart_at x l hlt
  (have F := an16 @yD @fl_Part @ok_Part @nr_Part @lf_Part @tk_mkPart @mkPart_len @hli @wi @hlt @hlt0 @List.getElem?_set_self.{0} @List.set_set.{0} @List.length_set.{0} @hml @hg; (repeat' (first | refine' dA9 | ((with_reducible apply EvO.call (vs := ?_)); exact rfl; exact rfl; exact dE3; (with_reducible apply Cal.hd (ms := []) (p := ?_)); exact dE3) | ((with_reducible apply CalH.mk); intro hd; first | exact c48 hd) | fail)); all_goals clear F)
  apply roundQ_m; refine ⟨_, ⟨i + 1, (k40_2 _).trans dN4, ?_, rfl, ?_⟩, ?_⟩
  ·refine (lpG_len ?_).trans ?_; (focus (simp only [List.length_set]; done)); rw [← mkPart_step x l i hlt]; first | rfl | (simp only [markU, markB]; first | done | rfl)
  ·omega
  ·omega
 ·obtain rfl : i = l.length := by omega
  rw [List.drop_length, List.append_nil]
  (have F := an11 @yD @fl_Part @ok_Part @nr_Part @lf_Part @tk_mkPart @mkPart_len @hli @hlt0 @List.getElem?_set_self.{0} @List.length_set.{0}; (repeat' (first | refine' dA10 | ((with_reducible apply EvO.call (vs := ?_)); exact rfl; exact rfl; exact dE4; (with_reducible apply Cal.hd (ms := []) (p := ?_)); exact dE4) | ((with_reducible apply CalH.mk); intro hd; first | exact c48 hd) | fail)); all_goals clear F)
  exact ⟨rfl, rfl⟩
theorem c42 {k : Nat} {md : Md} {S : Store} {vs : List A} {D : List Nat} {m : Nat} {x : Int} (hd : dpArgs S [] vs = some ([.ro 3 ((mkPart x m).map Part.c), (.v (.int .i64 (x)))], D)) (hx : 0 ≤ x ∧ x ≤ 16777216 := by first | assumption | omega | with_reducible rfl) (hn : m ≤ 1048576 := by first | assumption | omega | with_reducible rfl) (hk : 2 ≤ k := by omega) :
  Cal (run k) md 42 vs S (fun r S' => r = (.v (.int .i64 (x + 3 * m))) ∧ S' = S) := by
 obtain ⟨k, rfl⟩ : ∃ j, k = j + 1 := ⟨k - 1, by omega⟩
 refine Cal.fn (n := 41) (rs := [.tmp 4]) (ids := []) (D := D) (Xof_none rfl) g42 (by delta Try.f42; exact rfl) (by delta Try.f42; exact rfl) (by delta Try.f42; exact rfl) hd rfl (by first | rfl | simp [idsV, idsC]) (by simp) (by simp) ?_
 intro md' ow; have w := ow.w; have w0 := ow.w0; have fz : md'.fz = false := ow.fz
 (have F := an7 @yD @fl_Part @ok_Part @nr_Part @lf_Part @tk_mkPart @mkPart_len; (repeat' (first | refine' dA7 | ((with_reducible first | apply EvO.call (vs := ?_) | apply EvT.call (vs := ?_)); exact rfl; exact rfl; exact dE1; (with_reducible apply Cal.hd (ms := []) (p := ?_)); exact dE1) | ((with_reducible apply CalH.mk); intro hd; first | exact c48 hd) | fail)); all_goals clear F)
 apply Ev.loop (fun j e S' => ∃ i : Nat, e = mkE [(0, .ro 3 ((mkPart x m).map Part.c)), (1, (.v (.int .i64 (x + 3 * (i : Int))))), (5, (.v (.int .i64 ((i : Int)))))] ∧ S' = S ∧ j = m - i ∧ (i ≤ m))
 ·exact ⟨0, (k42_2 _).trans dN3, (by first | rfl | (simp only [app_app, List.cons_append, List.nil_append]; done)), rfl, (by first | omega | rfl | (simp; done))⟩
 rintro j e S' ⟨i, rfl, rfl, hj, hi⟩
 by_cases hli : (i : Int) < (m : Int)
 ·have hlt : i < m := by omega
  have hg := mkPart_get x hlt
  (have F := an11 @yD @fl_Part @ok_Part @nr_Part @lf_Part @tk_mkPart @mkPart_len @hli @hg @mkPart_len @bne_self_eq_false.{0}; (repeat' (first | refine' dA7 | ((with_reducible first | apply EvO.call (vs := ?_) | apply EvT.call (vs := ?_)); exact rfl; exact rfl; exact dE1; (with_reducible apply Cal.hd (ms := []) (p := ?_)); exact dE1) | ((with_reducible apply CalH.mk); intro hd; first | exact c48 hd) | fail)); all_goals clear F)
  apply roundQ_m; refine ⟨_, ⟨i + 1, (k42_2 _).trans dN4, ?_, rfl, ?_⟩, ?_⟩
  ·first | exact lpG_same | exact lpG_grow rfl | (refine (congrArg (fun K => lpG K _ _ _) (show _ = some _ from rfl)).trans (lpG_cut rfl ?_); simp [lowV, okC, mkE_at]; done) | (refine (congrArg (fun K => lpG K _ _ _) (show _ = some _ from rfl)).trans (lpG_mod rfl rfl ?_ ?_) <;> simp [lowV, okC, mkE_at, rowsAll_cons, rowsAll_nil, yD, fl_Part, ok_Part, nr_Part, lf_Part, Part.c, tk_mkPart, mkPart_len]; done) | (refine (lpG_len ?_).trans ?_; (focus (simp only [len_app, List.length_cons, List.length_nil, List.length_set]; done)); first | rfl | (simp (disch := first | (intros; contradiction) | (as_aux_lemma => omega) | (as_aux_lemma => (simp only [LEN2]; first | done | omega)) | (as_aux_lemma => (simp only [LEN]; try omega))) only [nx3, EV, TT, w, w0, fz, yD, fl_Part, ok_Part, nr_Part, lf_Part, Part.c, tk_mkPart, mkPart_len, Nat.reduceEqDiff, Nat.reduceBeqDiff, Nat.reduceAdd, Nat.reduceMul, Nat.reduceLeDiff, Nat.reduceLT, reduceCtorEq, Int.reduceEq, Int.reduceNeg]; first | done | rfl)) | (refine (congrArg (fun K => lpG K _ _ _) (show _ = some _ from rfl)).trans (lpG_grow ?_); simp only [lowV, okC, EV, Nat.reduceEqDiff, Nat.reduceBeqDiff, Nat.reduceAdd, Nat.reduceMul, Nat.reduceLeDiff, Nat.reduceLT, reduceCtorEq, Int.reduceEq, Int.reduceNeg]; done)
  ·first | omega | rfl | assumption | (simp; done)
  ·omega
 ·obtain rfl : i = m := by omega
  (have F := an9 @yD @fl_Part @ok_Part @nr_Part @lf_Part @tk_mkPart @mkPart_len @hli @mkPart_len; (repeat' (first | refine' dA7 | ((with_reducible first | apply EvO.call (vs := ?_) | apply EvT.call (vs := ?_)); exact rfl; exact rfl; exact dE1; (with_reducible apply Cal.hd (ms := []) (p := ?_)); exact dE1) | ((with_reducible apply CalH.mk); intro hd; first | exact c48 hd) | fail)); all_goals clear F)
  exact ⟨rfl, rfl⟩
theorem yB : (((type_of% @fl_Part) ∧ ((type_of% @ok_Part) ∧ (type_of% @nr_Part))) ∧ (((type_of% @lf_Part) ∧ (type_of% @Part.c.eq_1)) ∧ ((type_of% @tk_mkPart) ∧ (type_of% @mkPart_len)))) := ⟨⟨@fl_Part, ⟨@ok_Part, @nr_Part⟩⟩, ⟨⟨@lf_Part, @Part.c.eq_1⟩, ⟨@tk_mkPart, @mkPart_len⟩⟩⟩
end Go.Proofs.YtomklniddinhnaaB
