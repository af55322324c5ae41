/- Part of the evaluator's contracts: el_Kept. -/
import Derived.Test.YtomklniddinhnaaFbase
import Derived.Test.YtomklniddinhnaaFmark
namespace Go.Proofs.YtomklniddinhnaaB
open Go Go.Proofs.YtomklniddinhnaaE
set_option linter.unusedVariables false
set_option linter.unusedSectionVars false
set_option linter.unusedSimpArgs false
set_option maxHeartbeats 4000000
set_option maxRecDepth 20000
structure Tkp where
 tier : Int
 size : Int
 deriving DecidableEq
def Tkp.c (x : Tkp) : List A := [(.v (.int .i64 (x.tier))), (.v (.int .i64 (x.size)))]
theorem fl_Kept (l : List Tkp) : flatRowsB (List.map Tkp.c l) = true := flat_map Tkp.c (fun _ => rfl) l
theorem ok_Kept (m : Nat) (l : List Tkp) : rowsAll (okC m) (List.map Tkp.c l) = true := rowsAll_map (okC m) Tkp.c (fun _ => rfl) l
theorem nr_Kept (l : List Tkp) : rowsAll noRoC (List.map Tkp.c l) = true := rowsAll_map noRoC Tkp.c (fun _ => rfl) l
theorem lf_Kept (l : List Tkp) : leafRows (List.map Tkp.c l) = true := leaf_map Tkp.c (fun _ => rfl) l
theorem c67 {k : Nat} {md : Md} {S : Store} {vs : List A} {D : List Nat} {a0 : Int} {a1 : Int} {b0 : Int} {b1 : Int} (hd : dpArgs S [] vs = some ([.ag [(.v (.int .i64 (a0))), (.v (.int .i64 (a1)))], .ag [(.v (.int .i64 (b0))), (.v (.int .i64 (b1)))]], D)) (h0 : a0 = b0 := by first | assumption | omega | with_reducible rfl) (h1 : a1 = b1 := by first | assumption | omega | with_reducible rfl) (hk : 1 ≤ k := by omega) :
  Cal (run k) md 67 vs S (fun r S' => r = (.v (.bool (true))) ∧ S' = S) := by
 obtain ⟨k, rfl⟩ : ∃ j, k = j + 1 := ⟨k - 1, by omega⟩
 refine Cal.fn (n := 15) (rs := [.tmp 4]) (ids := []) (D := D) (Xof_none rfl) g67 (by delta Try.f67; exact rfl) (by delta Try.f67; exact rfl) (by delta Try.f67; exact rfl) hd rfl (by first | rfl | simp [idsV, idsC]) (by simp) (by simp) ?_
 intro md' ow; have w := ow.w; have w0 := ow.w0; have fz : md'.fz = false := ow.fz
 subst h0; subst h1
 (have F := an7 @yD @fl_Kept @ok_Kept @nr_Kept @lf_Kept @bne_self_eq_false.{0} @beq_self_eq_true.{0}; (repeat' (first | refine' dA11 | fail)); all_goals clear F)
 exact ⟨rfl, rfl⟩
theorem k39_4 (e : Env) : lpE (FI.K ⟨[], false, [(4, [0, 1, 5]), (1000, [0, 1]), (1001, [0, 1, 10]), (1002, [4]), (1003, [0, 1, 5]), (1004, [0, 1, 5, 14]), (1005, [0, 1, 5]), (1006, [0, 1, 5, 26]), (1007, [4]), (1008, [4])]⟩ 4) e = mkE [(0, e 0), (1, e 1), (5, e 5)] := rfl
theorem c39 {k : Nat} {md : Md} {S : Store} {vs : List A} {D : List Nat} {l l' : List Tkp} (hd : dpArgs S [] vs = some ([.ro 2 (l.map Tkp.c), .ro 2 (l'.map Tkp.c)], D)) (he : l = l' := by first | assumption | omega | with_reducible rfl) (hn : l.length ≤ 1048576 := by first | assumption | omega | with_reducible rfl) (hk : 2 ≤ k := by omega) :
  Cal (run k) md 39 vs S (fun r S' => r = (.v (.bool (true))) ∧ S' = S) := by
 obtain ⟨k, rfl⟩ : ∃ j, k = j + 1 := ⟨k - 1, by omega⟩
 refine Cal.fn (n := 27) (rs := [.tmp 4]) (ids := []) (D := D) (Xof_none rfl) g39 (by delta Try.f39; exact rfl) (by delta Try.f39; exact rfl) (by delta Try.f39; exact rfl) hd rfl (by first | rfl | simp [idsV, idsC]) (by simp) (by simp) ?_
 intro md' ow; have w := ow.w; have w0 := ow.w0; have fz : md'.fz = false := ow.fz
 subst he
 (have F := an6 @yD @fl_Kept @ok_Kept @nr_Kept @lf_Kept @bne_self_eq_false.{0}; (repeat' (first | refine' dA12 | ((with_reducible first | apply EvO.call (vs := ?_) | apply EvT.call (vs := ?_)); exact rfl; exact rfl; exact dE5; (with_reducible apply Cal.hd (ms := []) (p := ?_)); exact dE5) | ((with_reducible apply CalH.mk); intro hd; first | exact c67 hd) | fail)); all_goals clear F)
 apply Ev.loop (fun j e S' => ∃ i : Nat, e = mkE [(0, .ro 2 (l.map Tkp.c)), (1, .ro 2 (l.map Tkp.c)), (5, (.v (.int .i64 ((i : Int)))))] ∧ S' = S ∧ j = l.length - i ∧ (i ≤ l.length))
 ·exact ⟨0, (k39_4 _).trans dN5, (by first | rfl | (simp only [app_app, List.cons_append, List.nil_append]; done)), rfl, (by first | omega | rfl | (simp; done))⟩
 rintro j e S' ⟨i, rfl, rfl, hj, hi⟩
 by_cases hli : (i : Int) < (l.length : Int)
 ·have hlt : i < l.length := by omega
  (have F := an8 @yD @fl_Kept @ok_Kept @nr_Kept @lf_Kept @hli @bne_self_eq_false.{0} @beq_self_eq_true.{0}; (repeat' (first | refine' dA12 | ((with_reducible first | apply EvO.call (vs := ?_) | apply EvT.call (vs := ?_)); exact rfl; exact rfl; exact dE5; (with_reducible apply Cal.hd (ms := []) (p := ?_)); exact dE5) | ((with_reducible apply CalH.mk); intro hd; first | exact c67 hd) | fail)); all_goals clear F)
  apply roundQ_m; refine ⟨_, ⟨i + 1, (k39_4 _).trans dN5, ?_, rfl, ?_⟩, ?_⟩
  ·first | exact lpG_same | exact lpG_grow rfl | (refine (congrArg (fun K => lpG K _ _ _) (show _ = some _ from rfl)).trans (lpG_cut rfl ?_); simp [lowV, okC, mkE_at]; done) | (refine (congrArg (fun K => lpG K _ _ _) (show _ = some _ from rfl)).trans (lpG_mod rfl rfl ?_ ?_) <;> simp [lowV, okC, mkE_at, rowsAll_cons, rowsAll_nil, yD, fl_Kept, ok_Kept, nr_Kept, lf_Kept, Tkp.c]; done) | (refine (lpG_len ?_).trans ?_; (focus (simp only [len_app, List.length_cons, List.length_nil, List.length_set]; done)); first | rfl | (simp (disch := first | (intros; contradiction) | (as_aux_lemma => omega) | (as_aux_lemma => (simp only [LEN2]; first | done | omega)) | (as_aux_lemma => (simp only [LEN]; try omega))) only [EV, TT, w, w0, fz, yD, fl_Kept, ok_Kept, nr_Kept, lf_Kept, Tkp.c, Nat.reduceEqDiff, Nat.reduceBeqDiff, Nat.reduceAdd, Nat.reduceMul, Nat.reduceLeDiff, Nat.reduceLT, reduceCtorEq, Int.reduceEq, Int.reduceNeg]; first | done | rfl)) | (refine (congrArg (fun K => lpG K _ _ _) (show _ = some _ from rfl)).trans (lpG_grow ?_); simp only [lowV, okC, EV, Nat.reduceEqDiff, Nat.reduceBeqDiff, Nat.reduceAdd, Nat.reduceMul, Nat.reduceLeDiff, Nat.reduceLT, reduceCtorEq, Int.reduceEq, Int.reduceNeg]; done)
  ·first | omega | rfl | assumption | (simp; done)
  ·omega
 ·obtain rfl : i = l.length := by omega
  (have F := an6 @yD @fl_Kept @ok_Kept @nr_Kept @lf_Kept @hli; (repeat' (first | refine' dA12 | ((with_reducible first | apply EvO.call (vs := ?_) | apply EvT.call (vs := ?_)); exact rfl; exact rfl; exact dE5; (with_reducible apply Cal.hd (ms := []) (p := ?_)); exact dE5) | ((with_reducible apply CalH.mk); intro hd; first | exact c67 hd) | fail)); all_goals clear F)
  exact ⟨rfl, rfl⟩
theorem c39_nn {k : Nat} {md : Md} {S : Store} {vs : List A} {D : List Nat}  (hd : dpArgs S [] vs = some ([.v (.slice none 0 0), .v (.slice none 0 0)], D))  (hk : 2 ≤ k := by omega) :
  Cal (run k) md 39 vs S (fun r S' => r = (.v (.bool (true))) ∧ S' = S) := by
 obtain ⟨k, rfl⟩ : ∃ j, k = j + 1 := ⟨k - 1, by omega⟩
 refine Cal.fn (n := 27) (rs := [.tmp 4]) (ids := []) (D := D) (Xof_none rfl) g39 (by delta Try.f39; exact rfl) (by delta Try.f39; exact rfl) (by delta Try.f39; exact rfl) hd rfl (by first | rfl | simp [idsV, idsC]) (by simp) (by simp) ?_
 intro md' ow; have w := ow.w; have w0 := ow.w0; have fz : md'.fz = false := ow.fz
 (have F := an6 @yD @fl_Kept @ok_Kept @nr_Kept @lf_Kept @bne_self_eq_false.{0}; (repeat' (first | refine' dA12 | ((with_reducible first | apply EvO.call (vs := ?_) | apply EvT.call (vs := ?_)); exact rfl; exact rfl; exact dE5; (with_reducible apply Cal.hd (ms := []) (p := ?_)); exact dE5) | ((with_reducible apply CalH.mk); intro hd; first | exact c67 hd) | fail)); all_goals clear F)
 apply Ev.loop (fun j e S' => ∃ i : Nat, e = mkE [(0, .v (.slice none 0 0)), (1, .v (.slice none 0 0)), (5, (.v (.int .i64 ((i : Int)))))] ∧ S' = S ∧ j = 0 ∧ (i = 0))
 ·exact ⟨0, (k39_4 _).trans dN5, (by first | rfl | (simp only [app_app, List.cons_append, List.nil_append]; done)), rfl, (by first | omega | rfl | (simp; done))⟩
 rintro j e S' ⟨i, rfl, rfl, hj, hi⟩
 subst hi
 (have F := an5 @yD @fl_Kept @ok_Kept @nr_Kept @lf_Kept; (repeat' (first | refine' dA12 | ((with_reducible first | apply EvO.call (vs := ?_) | apply EvT.call (vs := ?_)); exact rfl; exact rfl; exact dE5; (with_reducible apply Cal.hd (ms := []) (p := ?_)); exact dE5) | ((with_reducible apply CalH.mk); intro hd; first | exact c67 hd) | fail)); all_goals clear F)
 exact ⟨rfl, rfl⟩
theorem k41_2 (e : Env) : lpE (FI.K ⟨[true], false, [(2, [0, 1, 5]), (1000, [0, 1]), (1001, [0, 1, 5]), (1002, [0, 1, 5, 9]), (1003, [0, 1, 5]), (1004, [0, 1, 5]), (1005, [0, 1, 5]), (1006, [0, 1, 5]), (1007, [0, 1, 5]), (1008, [4])]⟩ 2) e = mkE [(0, e 0), (1, e 1), (5, e 5)] := rfl
theorem c41_nil {k : Nat} {md : Md} {S : Store} {vs : List A} {D : List Nat} {x : Int} (hd : dpArgs S [true] vs = some ([.v (.slice none 0 0), (.v (.int .i64 (x)))], D))  (hk : 1 ≤ k := by omega) :
  Cal (run k) md 41 vs S (fun r S' => r = (.v (.int .i64 (x))) ∧ S' = S) := by
 obtain ⟨k, rfl⟩ : ∃ j, k = j + 1 := ⟨k - 1, by omega⟩
 refine Cal.fn (n := 27) (rs := [.tmp 4]) (ids := []) (D := D) (Xof_none rfl) g41 (by delta Try.f41; exact rfl) (by delta Try.f41; exact rfl) (by delta Try.f41; exact rfl) hd rfl (by first | rfl | simp [idsV, idsC]) (by simp) (by simp) ?_
 intro md' ow; have w := ow.w; have w0 := ow.w0; have fz : md'.fz = false := ow.fz
 (have F := an5 @yD @fl_Kept @ok_Kept @nr_Kept @lf_Kept; (repeat' (first | refine' dA13 | fail)); all_goals clear F)
 apply Ev.loop (fun j e S' => ∃ i : Nat, e = mkE [(0, .v (.slice none 0 0)), (1, (.v (.int .i64 (x)))), (5, (.v (.int .i64 ((i : Int)))))] ∧ S' = S ∧ j = 0 ∧ (i = 0))
 ·exact ⟨0, (k41_2 _).trans dN5, (by first | rfl | (simp only [app_app, List.cons_append, List.nil_append]; done)), rfl, (by first | omega | rfl | (simp; done))⟩
 rintro j e S' ⟨i, rfl, rfl, hj, hi⟩
 subst hi
 (have F := an5 @yD @fl_Kept @ok_Kept @nr_Kept @lf_Kept; (repeat' (first | refine' dA13 | fail)); all_goals clear F)
 exact ⟨rfl, rfl⟩
theorem k43_2 (e : Env) : lpE (FI.K ⟨[], false, [(2, [0, 1, 5]), (1000, [0, 1]), (1001, [0, 1, 5]), (1002, [0, 1, 5, 9]), (1003, [0, 1, 5]), (1004, [0, 1, 5, 18]), (1005, [4]), (1006, [0, 1, 5]), (1007, [0, 1, 5, 27]), (1008, [4]), (1009, [0, 1, 5]), (1010, [4])]⟩ 2) e = mkE [(0, e 0), (1, e 1), (5, e 5)] := rfl
theorem c43_nil {k : Nat} {md : Md} {S : Store} {vs : List A} {D : List Nat} {x : Int} (hd : dpArgs S [] vs = some ([.v (.slice none 0 0), (.v (.int .i64 (x)))], D))  (hk : 1 ≤ k := by omega) :
  Cal (run k) md 43 vs S (fun r S' => r = (.v (.int .i64 (x))) ∧ S' = S) := by
 obtain ⟨k, rfl⟩ : ∃ j, k = j + 1 := ⟨k - 1, by omega⟩
 refine Cal.fn (n := 31) (rs := [.tmp 4]) (ids := []) (D := D) (Xof_none rfl) g43 (by delta Try.f43; exact rfl) (by delta Try.f43; exact rfl) (by delta Try.f43; exact rfl) hd rfl (by first | rfl | simp [idsV, idsC]) (by simp) (by simp) ?_
 intro md' ow; have w := ow.w; have w0 := ow.w0; have fz : md'.fz = false := ow.fz
 (have F := an5 @yD @fl_Kept @ok_Kept @nr_Kept @lf_Kept; (repeat' (first | refine' dA13 | fail)); all_goals clear F)
 apply Ev.loop (fun j e S' => ∃ i : Nat, e = mkE [(0, .v (.slice none 0 0)), (1, (.v (.int .i64 (x)))), (5, (.v (.int .i64 ((i : Int)))))] ∧ S' = S ∧ j = 0 ∧ (i = 0))
 ·exact ⟨0, (k43_2 _).trans dN5, (by first | rfl | (simp only [app_app, List.cons_append, List.nil_append]; done)), rfl, (by first | omega | rfl | (simp; done))⟩
 rintro j e S' ⟨i, rfl, rfl, hj, hi⟩
 subst hi
 (have F := an5 @yD @fl_Kept @ok_Kept @nr_Kept @lf_Kept; (repeat' (first | refine' dA13 | fail)); all_goals clear F)
 exact ⟨rfl, rfl⟩
def mkKept (x : Int) (m : Nat) : List Tkp := (List.range m).map fun (i : Nat) => ⟨(x + 2 * (i : Int)), (x + 2 * (i : Int) + 1)⟩
theorem mkKept_len (x : Int) (m : Nat) : (mkKept x m).length = m := by simp [mkKept]
theorem mkKept_get (x : Int) {m i : Nat} (h : i < m) : (List.map Tkp.c (mkKept x m))[i]? = some (Tkp.c ⟨(x + 2 * (i : Int)), (x + 2 * (i : Int) + 1)⟩) := by simp [mkKept, h]
theorem mkKept_pre (x : Int) (l : List Tkp) {i : Nat} (h : i ≤ l.length) : (mkKept x i ++ l.drop i).length = l.length := by simp [mkKept]; omega
theorem mkKept_at (x : Int) (l : List Tkp) {i : Nat} (h : i < l.length) : (mkKept x i ++ l.drop i)[i]? = some l[i] := by rw [List.getElem?_append_right (by simp [mkKept])]; simp [mkKept, h]
theorem mkKept_step (x : Int) (l : List Tkp) (i : Nat) (h : i < l.length) : (List.map Tkp.c (mkKept x i ++ l.drop i)).set i (Tkp.c ⟨(x + 2 * (i : Int)), (x + 2 * (i : Int) + 1)⟩) = List.map Tkp.c (mkKept x (i + 1) ++ l.drop (i + 1)) := by
 rw [← List.map_set]
 congr 1
 rw [List.set_append, if_neg (by simp [mkKept]), show (mkKept x i).length = i by simp [mkKept], Nat.sub_self, List.drop_eq_getElem_cons h, List.set_cons_zero, mkKept, mkKept, List.range_succ, List.map_append, List.append_assoc]
 rfl
theorem tk_mkKept (x : Int) (m : Nat) : List.take m (List.map Tkp.c (mkKept x m)) = List.map Tkp.c (mkKept x m) := List.take_of_length_le (by simp [mkKept])
theorem c41 {k : Nat} {md : Md} {S : Store} {vs : List A} {D : List Nat} {id : Nat} {l : List Tkp} {x : Int} (hd : dpArgs S [true] vs = some ([.sl id 0 l.length l.length, (.v (.int .i64 (x)))], D)) (hD : (D.all fun i => !([id] : List Nat).contains i) = true := by first | rfl | simp) (hx : 0 ≤ x ∧ x ≤ 16777216 := by first | assumption | omega | with_reducible rfl) (hn : l.length ≤ 1048576 := by first | assumption | omega | with_reducible rfl) (hid : S[id]? = some ⟨2, l.map Tkp.c, 0, false⟩) (hw : md.wr id = true) (hk : 1 ≤ k := by omega) :
  Cal (run k) md 41 vs S (fun r S' => r = (.v (.int .i64 (x + 2 * l.length))) ∧ S' = S.set id ⟨2, (mkKept x l.length).map Tkp.c, 0, false⟩) := by
 obtain ⟨k, rfl⟩ : ∃ j, k = j + 1 := ⟨k - 1, by omega⟩
 refine Cal.fn (n := 27) (rs := [.tmp 4]) (ids := [id]) (D := D) (Xof_none rfl) g41 (by delta Try.f41; exact rfl) (by delta Try.f41; exact rfl) (by delta Try.f41; exact rfl) hd rfl (by first | rfl | simp [idsV, idsC]) hD (by simp) ?_
 intro md' ow; have w := ow.w; have w0 := ow.w0; have fz : md'.fz = false := ow.fz
 have hlt0 := (List.getElem?_eq_some_iff.1 hid).1
 have wi := ow.old id (by simp) hw
 (have F := an7 @yD @fl_Kept @ok_Kept @nr_Kept @lf_Kept @tk_mkKept @mkKept_len; (repeat' (first | refine' dA14 | fail)); all_goals clear F)
 apply Ev.loop (fun j e S' => ∃ i : Nat, e = mkE [(0, .sl id 0 l.length l.length), (1, (.v (.int .i64 (x + 2 * (i : Int))))), (5, (.v (.int .i64 ((i : Int)))))] ∧ S' = S.set id ⟨2, (mkKept x i ++ l.drop i).map Tkp.c, 0, false⟩ ∧ j = l.length - i ∧ (i ≤ l.length))
 ·exact ⟨0, (k41_2 _).trans dN6, (by rw [show mkKept x 0 ++ l.drop 0 = l by simp [mkKept]]; exact (set_self hid).symm), rfl, (by omega)⟩
 rintro j e S' ⟨i, rfl, rfl, hj, hi⟩
 have hml := mkKept_pre x l hi
 by_cases hli : (i : Int) < (l.length : Int)
 ·have hlt : i < l.length := by omega
  have hg := mkKept_at x l hlt
  (have F := an16 @yD @fl_Kept @ok_Kept @nr_Kept @lf_Kept @tk_mkKept @mkKept_len @hli @wi @hlt @hlt0 @List.getElem?_set_self.{0} @List.set_set.{0} @List.length_set.{0} @hml @hg; (repeat' (first | refine' dA15 | fail)); all_goals clear F)
  apply roundQ_m; refine ⟨_, ⟨i + 1, (k41_2 _).trans dN7, ?_, rfl, ?_⟩, ?_⟩
  ·refine (lpG_len ?_).trans ?_; (focus (simp only [List.length_set]; done)); rw [← mkKept_step x l i hlt]; first | rfl | (simp only [markU, markB]; first | done | rfl)
  ·omega
  ·omega
 ·obtain rfl : i = l.length := by omega
  rw [List.drop_length, List.append_nil]
  (have F := an11 @yD @fl_Kept @ok_Kept @nr_Kept @lf_Kept @tk_mkKept @mkKept_len @hli @hlt0 @List.getElem?_set_self.{0} @List.length_set.{0}; (repeat' (first | refine' dA16 | fail)); all_goals clear F)
  exact ⟨rfl, rfl⟩
theorem c43 {k : Nat} {md : Md} {S : Store} {vs : List A} {D : List Nat} {m : Nat} {x : Int} (hd : dpArgs S [] vs = some ([.ro 2 ((mkKept x m).map Tkp.c), (.v (.int .i64 (x)))], D)) (hx : 0 ≤ x ∧ x ≤ 16777216 := by first | assumption | omega | with_reducible rfl) (hn : m ≤ 1048576 := by first | assumption | omega | with_reducible rfl) (hk : 1 ≤ k := by omega) :
  Cal (run k) md 43 vs S (fun r S' => r = (.v (.int .i64 (x + 2 * m))) ∧ S' = S) := by
 obtain ⟨k, rfl⟩ : ∃ j, k = j + 1 := ⟨k - 1, by omega⟩
 refine Cal.fn (n := 31) (rs := [.tmp 4]) (ids := []) (D := D) (Xof_none rfl) g43 (by delta Try.f43; exact rfl) (by delta Try.f43; exact rfl) (by delta Try.f43; exact rfl) hd rfl (by first | rfl | simp [idsV, idsC]) (by simp) (by simp) ?_
 intro md' ow; have w := ow.w; have w0 := ow.w0; have fz : md'.fz = false := ow.fz
 (have F := an7 @yD @fl_Kept @ok_Kept @nr_Kept @lf_Kept @tk_mkKept @mkKept_len; (repeat' (first | refine' dA13 | fail)); all_goals clear F)
 apply Ev.loop (fun j e S' => ∃ i : Nat, e = mkE [(0, .ro 2 ((mkKept x m).map Tkp.c)), (1, (.v (.int .i64 (x + 2 * (i : Int))))), (5, (.v (.int .i64 ((i : Int)))))] ∧ S' = S ∧ j = m - i ∧ (i ≤ m))
 ·exact ⟨0, (k43_2 _).trans dN6, (by first | rfl | (simp only [app_app, List.cons_append, List.nil_append]; done)), rfl, (by first | omega | rfl | (simp; done))⟩
 rintro j e S' ⟨i, rfl, rfl, hj, hi⟩
 by_cases hli : (i : Int) < (m : Int)
 ·have hlt : i < m := by omega
  have hg := mkKept_get x hlt
  (have F := an11 @yD @fl_Kept @ok_Kept @nr_Kept @lf_Kept @tk_mkKept @mkKept_len @hli @hg @mkKept_len @bne_self_eq_false.{0}; (repeat' (first | refine' dA13 | fail)); all_goals clear F)
  apply roundQ_m; refine ⟨_, ⟨i + 1, (k43_2 _).trans dN7, ?_, rfl, ?_⟩, ?_⟩
  ·first | exact lpG_same | exact lpG_grow rfl | (refine (congrArg (fun K => lpG K _ _ _) (show _ = some _ from rfl)).trans (lpG_cut rfl ?_); simp [lowV, okC, mkE_at]; done) | (refine (congrArg (fun K => lpG K _ _ _) (show _ = some _ from rfl)).trans (lpG_mod rfl rfl ?_ ?_) <;> simp [lowV, okC, mkE_at, rowsAll_cons, rowsAll_nil, yD, fl_Kept, ok_Kept, nr_Kept, lf_Kept, Tkp.c, tk_mkKept, mkKept_len]; done) | (refine (lpG_len ?_).trans ?_; (focus (simp only [len_app, List.length_cons, List.length_nil, List.length_set]; done)); first | rfl | (simp (disch := first | (intros; contradiction) | (as_aux_lemma => omega) | (as_aux_lemma => (simp only [LEN2]; first | done | omega)) | (as_aux_lemma => (simp only [LEN]; try omega))) only [nx2, EV, TT, w, w0, fz, yD, fl_Kept, ok_Kept, nr_Kept, lf_Kept, Tkp.c, tk_mkKept, mkKept_len, Nat.reduceEqDiff, Nat.reduceBeqDiff, Nat.reduceAdd, Nat.reduceMul, Nat.reduceLeDiff, Nat.reduceLT, reduceCtorEq, Int.reduceEq, Int.reduceNeg]; first | done | rfl)) | (refine (congrArg (fun K => lpG K _ _ _) (show _ = some _ from rfl)).trans (lpG_grow ?_); simp only [lowV, okC, EV, Nat.reduceEqDiff, Nat.reduceBeqDiff, Nat.reduceAdd, Nat.reduceMul, Nat.reduceLeDiff, Nat.reduceLT, reduceCtorEq, Int.reduceEq, Int.reduceNeg]; done)
  ·first | omega | rfl | assumption | (simp; done)
  ·omega
 ·obtain rfl : i = m := by omega
  (have F := an9 @yD @fl_Kept @ok_Kept @nr_Kept @lf_Kept @tk_mkKept @mkKept_len @hli @mkKept_len; (repeat' (first | refine' dA13 | fail)); all_goals clear F)
  exact ⟨rfl, rfl⟩
theorem yA : (((type_of% @fl_Kept) ∧ ((type_of% @ok_Kept) ∧ (type_of% @nr_Kept))) ∧ (((type_of% @lf_Kept) ∧ (type_of% @Tkp.c.eq_1)) ∧ ((type_of% @tk_mkKept) ∧ (type_of% @mkKept_len)))) := ⟨⟨@fl_Kept, ⟨@ok_Kept, @nr_Kept⟩⟩, ⟨⟨@lf_Kept, @Tkp.c.eq_1⟩, ⟨@tk_mkKept, @mkKept_len⟩⟩⟩
end Go.Proofs.YtomklniddinhnaaB
