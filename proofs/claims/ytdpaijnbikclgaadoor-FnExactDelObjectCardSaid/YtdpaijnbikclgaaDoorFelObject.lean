/- Part of the evaluator's contracts: el_Object. -/
import Derived.Test.YtdpaijnbikclgaaDoorFbase
import Derived.Test.YtdpaijnbikclgaaDoorFmark
namespace Go.Proofs.YtdpaijnbikclgaaDoorB
open Go Go.Proofs.YtdpaijnbikclgaaDoorE
set_option linter.unusedVariables false
set_option linter.unusedSectionVars false
set_option linter.unusedSimpArgs false
set_option maxHeartbeats 4000000
set_option maxRecDepth 20000
structure Object where
 name : ByteArray
 size : Int
 deriving DecidableEq
def Object.c (x : Object) : List A := [(.v (.string (x.name))), (.v (.int .i64 (x.size)))]
theorem fl_Object (l : List Object) : flatRowsB (List.map Object.c l) = true := flat_map Object.c (fun _ => rfl) l
theorem ok_Object (m : Nat) (l : List Object) : rowsAll (okC m) (List.map Object.c l) = true := rowsAll_map (okC m) Object.c (fun _ => rfl) l
theorem nr_Object (l : List Object) : rowsAll noRoC (List.map Object.c l) = true := rowsAll_map noRoC Object.c (fun _ => rfl) l
theorem lf_Object (l : List Object) : leafRows (List.map Object.c l) = true := leaf_map Object.c (fun _ => rfl) l
theorem c53 {k : Nat} {md : Md} {S : Store} {vs : List A} {D : List Nat} {a0 : ByteArray} {a1 : Int} {l : Int} (hd : dpArgs S [] vs = some ([.ag [(.v (.string (a0))), (.v (.int .i64 (a1)))], (.v (.int .i64 (l)))], D)) (hl : 0 ≤ l ∧ l ≤ 1048576 := by first | assumption | omega | with_reducible rfl) (hs0 : a0.size ≤ 140737488351232 := by first | assumption | omega | with_reducible rfl) (hk : 1 ≤ k := by omega) :
  Cal (run k) md 53 vs S (fun r S' => ∃ n, r = .v (.int .i64 n) ∧ S' = S ∧ (n < 0 ∨ 0 ≤ n ∧ n = l - ((a0.size : Nat) : Int))) := by
 obtain ⟨k, rfl⟩ : ∃ j, k = j + 1 := ⟨k - 1, by omega⟩
 refine Cal.fn (n := 13) (rs := [.tmp 4]) (ids := []) (D := D) (Xof_none rfl) g53 (by delta Tryd.f53; exact rfl) (by delta Tryd.f53; exact rfl) (by delta Tryd.f53; exact rfl) hd rfl (by first | rfl | simp [idsV, idsC]) (by simp) (by simp) ?_
 intro md' ow; have w := ow.w; have w0 := ow.w0; have fz : md'.fz = false := ow.fz
 (have F := an5 @yD @fl_Object @ok_Object @nr_Object @lf_Object; (repeat' (first | refine' dA11 | fail)); all_goals clear F)
 all_goals refine ⟨_, rfl, rfl, ?_⟩
 all_goals omega
def szObject (l : List Object) : Nat := (l.map fun x => x.name.size).sum
theorem szObject_s (l : List Object) {i : Nat} (h : i < l.length) : szObject (l.take (i + 1)) = szObject (l.take i) + (l[i].name.size) := by unfold szObject; rw [List.take_add_one, List.map_append, List.sum_append, List.getElem?_eq_getElem h]; rfl
theorem k24_5 (e : Env) : lpE (FI.K ⟨[], false, [(5, [0, 1, 5]), (1000, [0, 1]), (1001, [0, 1]), (1002, [0, 1, 11]), (1003, [4]), (1004, [0, 1, 5]), (1005, [0, 1, 5, 15]), (1006, [0, 1, 5]), (1007, [0, 1, 5]), (1008, [0, 1, 5, 25]), (1009, [4]), (1010, [4])]⟩ 5) e = mkE [(0, e 0), (1, e 1), (5, e 5)] := rfl
theorem c24 {k : Nat} {md : Md} {S : Store} {vs : List A} {D : List Nat} {l : List Object} {left : Int} (hd : dpArgs S [] vs = some ([.ro 2 (l.map Object.c), (.v (.int .i64 (left)))], D)) (hl : 0 ≤ left ∧ left ≤ 1048576 := by first | assumption | omega | with_reducible rfl) (hn : l.length ≤ 9223372036854775807 := by first | assumption | omega | with_reducible rfl) (hs : ∀ x ∈ l, x.name.size ≤ 140737488351232 := by first | assumption | omega | with_reducible rfl) (hk : 2 ≤ k := by omega) :
  Cal (run k) md 24 vs S (fun r S' => ∃ n, r = .v (.int .i64 n) ∧ S' = S ∧ (n < 0 ∨ 0 ≤ n ∧ n = left - (l.length : Int) - (szObject l : Int))) := by
 obtain ⟨k, rfl⟩ : ∃ j, k = j + 1 := ⟨k - 1, by omega⟩
 refine Cal.fn (n := 27) (rs := [.tmp 4]) (ids := []) (D := D) (Xof_none rfl) g24 (by delta Tryd.f24; exact rfl) (by delta Tryd.f24; exact rfl) (by delta Tryd.f24; exact rfl) hd rfl (by first | rfl | simp [idsV, idsC]) (by simp) (by simp) ?_
 intro md' ow; have w := ow.w; have w0 := ow.w0; have fz : md'.fz = false := ow.fz
 (have F := an5 @yD @fl_Object @ok_Object @nr_Object @lf_Object; (repeat' (first | refine' dA12 | ((with_reducible apply EvO.call (vs := ?_)); exact rfl; exact rfl; exact dE4; (with_reducible apply Cal.hd (ms := []) (p := ?_)); exact dE4) | ((with_reducible apply CalH.mk); intro hd; first | exact c53 hd) | fail)); all_goals clear F)
 ·exact ⟨_, rfl, rfl, .inl (by decide)⟩
 apply Ev.loop (fun j e S' => ∃ i : Nat, ∃ y : Int, e = mkE [(0, .ro 2 (l.map Object.c)), (1, (.v (.int .i64 (y)))), (5, (.v (.int .i64 ((i : Int)))))] ∧ S' = S ∧ j = l.length - i ∧ (i ≤ l.length) ∧ (0 ≤ y ∧ y = left - (l.length : Int) - (szObject (l.take i) : Int)))
 ·exact ⟨0, left - (l.length : Int), (k24_5 _).trans dN5, (by first | rfl | (simp only [app_app, List.cons_append, List.nil_append]; done)), rfl, (by omega), (by simp [szObject]; omega)⟩
 rintro j e S' ⟨i, y, rfl, rfl, hj, hi, hy⟩
 by_cases hli : (i : Int) < (l.length : Int)
 ·have hlt : i < l.length := by omega
  have hz := hs l[i] (by simp)
  have ht := szObject_s l hlt
  (have F := an6 @yD @fl_Object @ok_Object @nr_Object @lf_Object @hli; (repeat' (first | refine' dA12 | ((with_reducible apply EvO.call (vs := ?_)); exact rfl; exact rfl; exact dE4; (with_reducible apply Cal.hd (ms := []) (p := ?_)); exact dE4) | ((with_reducible apply CalH.mk); intro hd; first | exact c53 hd) | fail)); all_goals clear F)
  ·exact ⟨_, rfl, rfl, .inl (by decide)⟩
  ·apply roundQ_m; refine ⟨_, ⟨i + 1, _, (k24_5 _).trans dN5, ?_, rfl, ?_, ?_⟩, ?_⟩
   ·exact dS2
   ·first | omega | rfl | assumption | (simp; done)
   ·first | omega | rfl | assumption | (simp; done)
   ·omega
 ·obtain rfl : i = l.length := by omega
  rw [List.take_length] at hy
  (have F := an6 @yD @fl_Object @ok_Object @nr_Object @lf_Object @hli; (repeat' (first | refine' dA12 | ((with_reducible apply EvO.call (vs := ?_)); exact rfl; exact rfl; exact dE4; (with_reducible apply Cal.hd (ms := []) (p := ?_)); exact dE4) | ((with_reducible apply CalH.mk); intro hd; first | exact c53 hd) | fail)); all_goals clear F)
  exact ⟨_, rfl, rfl, .inr hy⟩
theorem c55 {k : Nat} {md : Md} {S : Store} {vs : List A} {D : List Nat} {a0 : ByteArray} {a1 : Int} (hd : dpArgs S [] vs = some ([.ag [(.v (.string (a0))), (.v (.int .i64 (a1)))]], D))  (hk : 1 ≤ k := by omega) :
  Cal (run k) md 55 vs S (fun r S' => r = .ag [(.v (.string (a0))), (.v (.int .i64 (a1)))] ∧ S' = S) := by
 obtain ⟨k, rfl⟩ : ∃ j, k = j + 1 := ⟨k - 1, by omega⟩
 refine Cal.fn (n := 11) (rs := [.cell 2 50]) (ids := []) (D := D) (Xof_none rfl) g55 (by delta Tryd.f55; exact rfl) (by delta Tryd.f55; exact rfl) (by delta Tryd.f55; exact rfl) hd rfl (by first | rfl | simp [idsV, idsC]) (by simp) (by simp) ?_
 intro md' ow; have w := ow.w; have w0 := ow.w0; have fz : md'.fz = false := ow.fz
 (have F := an5 @yD @fl_Object @ok_Object @nr_Object @lf_Object; (repeat' (first | refine' dA13 | fail)); all_goals clear F)
 exact ⟨rfl, rfl⟩
theorem k32_3 (e : Env) : lpE (FI.K ⟨[], false, [(3, [0, 3, 4]), (1000, [0]), (1001, [0, 3]), (1002, [0, 3, 4]), (1003, [0, 3, 4, 11]), (1004, [0, 3, 4]), (1005, [0, 3, 4]), (1006, [2])]⟩ 3) e = mkE [(0, e 0), (3, e 3), (4, e 4)] := rfl
theorem c32 {k : Nat} {md : Md} {S : Store} {vs : List A} {D : List Nat} {l : List Object} (hd : dpArgs S [] vs = some ([.ro 2 (l.map Object.c)], D)) (hn : l.length ≤ 1048576 := by first | assumption | omega | with_reducible rfl) (hk : 2 ≤ k := by omega) :
  Cal (run k) md 32 vs S (fun r S' => r = .sl S.length 0 l.length l.length ∧ S' = S ++ [⟨2, l.map Object.c, 0, false⟩]) := by
 obtain ⟨k, rfl⟩ : ∃ j, k = j + 1 := ⟨k - 1, by omega⟩
 refine Cal.fn (n := 23) (rs := [.tmp 2]) (ids := []) (D := D) (Xof_none rfl) g32 (by delta Tryd.f32; exact rfl) (by delta Tryd.f32; exact rfl) (by delta Tryd.f32; exact rfl) hd rfl (by first | rfl | simp [idsV, idsC]) (by simp) (by simp) ?_
 intro md' ow; have w := ow.w; have w0 := ow.w0; have fz : md'.fz = false := ow.fz
 (have F := an5 @yD @fl_Object @ok_Object @nr_Object @lf_Object; (repeat' (first | refine' dA14 | ((with_reducible apply EvO.call (vs := ?_)); exact rfl; exact rfl; exact dE4; (with_reducible apply Cal.hd (ms := []) (p := ?_)); exact dE4) | ((with_reducible apply CalH.mk); intro hd; first | exact c55 hd) | fail)); all_goals clear F)
 apply Ev.loop (fun j e S' => ∃ i : Nat, e = mkE [(0, .ro 2 (l.map Object.c)), (3, .sl (S.length + 1) 0 l.length l.length), (4, (.v (.int .i64 ((i : Int)))))] ∧ S' = S ++ [⟨2, [], 0, false⟩, ⟨2, fillR Object.c [.v (.string ⟨#[]⟩), .v (.int .i64 0)] l i, 0, false⟩] ∧ j = l.length - i ∧ (i ≤ l.length))
 ·exact ⟨0, (k32_3 _).trans dN5, (by rw [fillR_0]), rfl, (by omega)⟩
 rintro j e S' ⟨i, rfl, rfl, hj, hi⟩
 have hlen := fillR_len Object.c [.v (.string ⟨#[]⟩), .v (.int .i64 0)] l i hi
 by_cases hli : (i : Int) < (l.length : Int)
 ·have hlt : i < l.length := by omega
  have hg2 := fillR_get Object.c [.v (.string ⟨#[]⟩), .v (.int .i64 0)] l i hlt
  have hset := fillR_set Object.c [.v (.string ⟨#[]⟩), .v (.int .i64 0)] l i hlt
  simp only [Object.c] at hset
  (have F := an9 @yD @fl_Object @ok_Object @nr_Object @lf_Object @hli @hlen @hg2 @hset; (repeat' (first | refine' dA14 | ((with_reducible apply EvO.call (vs := ?_)); exact rfl; exact rfl; exact dE4; (with_reducible apply Cal.hd (ms := []) (p := ?_)); exact dE4) | ((with_reducible apply CalH.mk); intro hd; first | exact c55 hd) | fail)); all_goals clear F)
  apply roundQ_m; refine ⟨_, ⟨i + 1, (k32_3 _).trans dN5, ?_, rfl, ?_⟩, ?_⟩
  ·exact dS2
  ·first | omega | rfl | assumption | (simp; done)
  ·omega
 ·obtain rfl : i = l.length := by omega
  rw [fillR_all]
  (have F := an6 @yD @fl_Object @ok_Object @nr_Object @lf_Object @hli; (repeat' (first | refine' dA14 | ((with_reducible apply EvO.call (vs := ?_)); exact rfl; exact rfl; exact dE4; (with_reducible apply Cal.hd (ms := []) (p := ?_)); exact dE4) | ((with_reducible apply CalH.mk); intro hd; first | exact c55 hd) | fail)); all_goals clear F)
  exact ⟨rfl, rfl⟩
theorem c63 {k : Nat} {md : Md} {S : Store} {vs : List A} {D : List Nat} {a0 : ByteArray} {a1 : Int} {b0 : ByteArray} {b1 : Int} (hd : dpArgs S [] vs = some ([.ag [(.v (.string (a0))), (.v (.int .i64 (a1)))], .ag [(.v (.string (b0))), (.v (.int .i64 (b1)))]], D)) (h0 : a0 = b0 := by first | assumption | omega | with_reducible rfl) (h1 : a1 = b1 := by first | assumption | omega | with_reducible rfl) (hk : 1 ≤ k := by omega) :
  Cal (run k) md 63 vs S (fun r S' => r = (.v (.bool (true))) ∧ S' = S) := by
 obtain ⟨k, rfl⟩ : ∃ j, k = j + 1 := ⟨k - 1, by omega⟩
 refine Cal.fn (n := 15) (rs := [.tmp 4]) (ids := []) (D := D) (Xof_none rfl) g63 (by delta Tryd.f63; exact rfl) (by delta Tryd.f63; exact rfl) (by delta Tryd.f63; exact rfl) hd rfl (by first | rfl | simp [idsV, idsC]) (by simp) (by simp) ?_
 intro md' ow; have w := ow.w; have w0 := ow.w0; have fz : md'.fz = false := ow.fz
 subst h0; subst h1
 (have F := an7 @yD @fl_Object @ok_Object @nr_Object @lf_Object @bne_self_eq_false.{0} @beq_self_eq_true.{0}; (repeat' (first | refine' dA11 | fail)); all_goals clear F)
 exact ⟨rfl, rfl⟩
theorem k40_4 (e : Env) : lpE (FI.K ⟨[], false, [(4, [0, 1, 5]), (1000, [0, 1]), (1001, [0, 1, 10]), (1002, [4]), (1003, [0, 1, 5]), (1004, [0, 1, 5, 14]), (1005, [0, 1, 5]), (1006, [0, 1, 5, 26]), (1007, [4]), (1008, [4])]⟩ 4) e = mkE [(0, e 0), (1, e 1), (5, e 5)] := rfl
theorem c40 {k : Nat} {md : Md} {S : Store} {vs : List A} {D : List Nat} {l l' : List Object} (hd : dpArgs S [] vs = some ([.ro 2 (l.map Object.c), .ro 2 (l'.map Object.c)], D)) (he : l = l' := by first | assumption | omega | with_reducible rfl) (hn : l.length ≤ 1048576 := by first | assumption | omega | with_reducible rfl) (hk : 2 ≤ k := by omega) :
  Cal (run k) md 40 vs S (fun r S' => r = (.v (.bool (true))) ∧ S' = S) := by
 obtain ⟨k, rfl⟩ : ∃ j, k = j + 1 := ⟨k - 1, by omega⟩
 refine Cal.fn (n := 27) (rs := [.tmp 4]) (ids := []) (D := D) (Xof_none rfl) g40 (by delta Tryd.f40; exact rfl) (by delta Tryd.f40; exact rfl) (by delta Tryd.f40; exact rfl) hd rfl (by first | rfl | simp [idsV, idsC]) (by simp) (by simp) ?_
 intro md' ow; have w := ow.w; have w0 := ow.w0; have fz : md'.fz = false := ow.fz
 subst he
 (have F := an6 @yD @fl_Object @ok_Object @nr_Object @lf_Object @bne_self_eq_false.{0}; (repeat' (first | refine' dA15 | ((with_reducible first | apply EvO.call (vs := ?_) | apply EvT.call (vs := ?_)); exact rfl; exact rfl; exact dE4; (with_reducible apply Cal.hd (ms := []) (p := ?_)); exact dE4) | ((with_reducible apply CalH.mk); intro hd; first | exact c63 hd) | fail)); all_goals clear F)
 apply Ev.loop (fun j e S' => ∃ i : Nat, e = mkE [(0, .ro 2 (l.map Object.c)), (1, .ro 2 (l.map Object.c)), (5, (.v (.int .i64 ((i : Int)))))] ∧ S' = S ∧ j = l.length - i ∧ (i ≤ l.length))
 ·exact ⟨0, (k40_4 _).trans dN5, (by first | rfl | (simp only [app_app, List.cons_append, List.nil_append]; done)), rfl, (by first | omega | rfl | (simp; done))⟩
 rintro j e S' ⟨i, rfl, rfl, hj, hi⟩
 by_cases hli : (i : Int) < (l.length : Int)
 ·have hlt : i < l.length := by omega
  (have F := an8 @yD @fl_Object @ok_Object @nr_Object @lf_Object @hli @bne_self_eq_false.{0} @beq_self_eq_true.{0}; (repeat' (first | refine' dA15 | ((with_reducible first | apply EvO.call (vs := ?_) | apply EvT.call (vs := ?_)); exact rfl; exact rfl; exact dE4; (with_reducible apply Cal.hd (ms := []) (p := ?_)); exact dE4) | ((with_reducible apply CalH.mk); intro hd; first | exact c63 hd) | fail)); all_goals clear F)
  apply roundQ_m; refine ⟨_, ⟨i + 1, (k40_4 _).trans dN5, ?_, rfl, ?_⟩, ?_⟩
  ·exact dS2
  ·first | omega | rfl | assumption | (simp; done)
  ·omega
 ·obtain rfl : i = l.length := by omega
  (have F := an6 @yD @fl_Object @ok_Object @nr_Object @lf_Object @hli; (repeat' (first | refine' dA15 | ((with_reducible first | apply EvO.call (vs := ?_) | apply EvT.call (vs := ?_)); exact rfl; exact rfl; exact dE4; (with_reducible apply Cal.hd (ms := []) (p := ?_)); exact dE4) | ((with_reducible apply CalH.mk); intro hd; first | exact c63 hd) | fail)); all_goals clear F)
  exact ⟨rfl, rfl⟩
theorem c40_nn {k : Nat} {md : Md} {S : Store} {vs : List A} {D : List Nat}  (hd : dpArgs S [] vs = some ([.v (.slice none 0 0), .v (.slice none 0 0)], D))  (hk : 2 ≤ k := by omega) :
  Cal (run k) md 40 vs S (fun r S' => r = (.v (.bool (true))) ∧ S' = S) := by
 obtain ⟨k, rfl⟩ : ∃ j, k = j + 1 := ⟨k - 1, by omega⟩
 refine Cal.fn (n := 27) (rs := [.tmp 4]) (ids := []) (D := D) (Xof_none rfl) g40 (by delta Tryd.f40; exact rfl) (by delta Tryd.f40; exact rfl) (by delta Tryd.f40; exact rfl) hd rfl (by first | rfl | simp [idsV, idsC]) (by simp) (by simp) ?_
 intro md' ow; have w := ow.w; have w0 := ow.w0; have fz : md'.fz = false := ow.fz
 (have F := an6 @yD @fl_Object @ok_Object @nr_Object @lf_Object @bne_self_eq_false.{0}; (repeat' (first | refine' dA15 | ((with_reducible first | apply EvO.call (vs := ?_) | apply EvT.call (vs := ?_)); exact rfl; exact rfl; exact dE4; (with_reducible apply Cal.hd (ms := []) (p := ?_)); exact dE4) | ((with_reducible apply CalH.mk); intro hd; first | exact c63 hd) | fail)); all_goals clear F)
 apply Ev.loop (fun j e S' => ∃ i : Nat, e = mkE [(0, .v (.slice none 0 0)), (1, .v (.slice none 0 0)), (5, (.v (.int .i64 ((i : Int)))))] ∧ S' = S ∧ j = 0 ∧ (i = 0))
 ·exact ⟨0, (k40_4 _).trans dN5, (by first | rfl | (simp only [app_app, List.cons_append, List.nil_append]; done)), rfl, (by first | omega | rfl | (simp; done))⟩
 rintro j e S' ⟨i, rfl, rfl, hj, hi⟩
 subst hi
 (have F := an5 @yD @fl_Object @ok_Object @nr_Object @lf_Object; (repeat' (first | refine' dA15 | ((with_reducible first | apply EvO.call (vs := ?_) | apply EvT.call (vs := ?_)); exact rfl; exact rfl; exact dE4; (with_reducible apply Cal.hd (ms := []) (p := ?_)); exact dE4) | ((with_reducible apply CalH.mk); intro hd; first | exact c63 hd) | fail)); all_goals clear F)
 exact ⟨rfl, rfl⟩
theorem k44_2 (e : Env) : lpE (FI.K ⟨[true], false, [(2, [0, 1, 5]), (1000, [0, 1]), (1001, [0, 1, 5]), (1002, [0, 1, 5, 9]), (1003, [0, 1, 5]), (1004, [0, 1, 5]), (1005, [0, 1, 5]), (1006, [0, 1, 5]), (1007, [0, 1, 5]), (1008, [4])]⟩ 2) e = mkE [(0, e 0), (1, e 1), (5, e 5)] := rfl
theorem c44_nil {k : Nat} {md : Md} {S : Store} {vs : List A} {D : List Nat} {x : Int} (hd : dpArgs S [true] vs = some ([.v (.slice none 0 0), (.v (.int .i64 (x)))], D))  (hk : 2 ≤ k := by omega) :
  Cal (run k) md 44 vs S (fun r S' => r = (.v (.int .i64 (x))) ∧ S' = S) := by
 obtain ⟨k, rfl⟩ : ∃ j, k = j + 1 := ⟨k - 1, by omega⟩
 refine Cal.fn (n := 28) (rs := [.tmp 4]) (ids := []) (D := D) (Xof_none rfl) g44 (by delta Tryd.f44; exact rfl) (by delta Tryd.f44; exact rfl) (by delta Tryd.f44; exact rfl) hd rfl (by first | rfl | simp [idsV, idsC]) (by simp) (by simp) ?_
 intro md' ow; have w := ow.w; have w0 := ow.w0; have fz : md'.fz = false := ow.fz
 (have F := an5 @yD @fl_Object @ok_Object @nr_Object @lf_Object; (repeat' (first | refine' dA14 | ((with_reducible apply EvO.call (vs := ?_)); exact rfl; exact rfl; exact dE4; (with_reducible apply Cal.hd (ms := []) (p := ?_)); exact dE4) | ((with_reducible apply CalH.mk); intro hd; first | exact c67 hd) | fail)); all_goals clear F)
 apply Ev.loop (fun j e S' => ∃ i : Nat, e = mkE [(0, .v (.slice none 0 0)), (1, (.v (.int .i64 (x)))), (5, (.v (.int .i64 ((i : Int)))))] ∧ S' = S ∧ j = 0 ∧ (i = 0))
 ·exact ⟨0, (k44_2 _).trans dN5, (by first | rfl | (simp only [app_app, List.cons_append, List.nil_append]; done)), rfl, (by first | omega | rfl | (simp; done))⟩
 rintro j e S' ⟨i, rfl, rfl, hj, hi⟩
 subst hi
 (have F := an5 @yD @fl_Object @ok_Object @nr_Object @lf_Object; (repeat' (first | refine' dA14 | ((with_reducible apply EvO.call (vs := ?_)); exact rfl; exact rfl; exact dE4; (with_reducible apply Cal.hd (ms := []) (p := ?_)); exact dE4) | ((with_reducible apply CalH.mk); intro hd; first | exact c67 hd) | fail)); all_goals clear F)
 exact ⟨rfl, rfl⟩
theorem k46_2 (e : Env) : lpE (FI.K ⟨[], false, [(2, [0, 1, 5]), (1000, [0, 1]), (1001, [0, 1, 5]), (1002, [0, 1, 5, 9]), (1003, [0, 1, 5]), (1004, [0, 1, 5, 19]), (1005, [4]), (1006, [0, 1, 5]), (1007, [0, 1, 5, 28]), (1008, [4]), (1009, [0, 1, 5]), (1010, [4])]⟩ 2) e = mkE [(0, e 0), (1, e 1), (5, e 5)] := rfl
theorem c46_nil {k : Nat} {md : Md} {S : Store} {vs : List A} {D : List Nat} {x : Int} (hd : dpArgs S [] vs = some ([.v (.slice none 0 0), (.v (.int .i64 (x)))], D))  (hk : 2 ≤ k := by omega) :
  Cal (run k) md 46 vs S (fun r S' => r = (.v (.int .i64 (x))) ∧ S' = S) := by
 obtain ⟨k, rfl⟩ : ∃ j, k = j + 1 := ⟨k - 1, by omega⟩
 refine Cal.fn (n := 32) (rs := [.tmp 4]) (ids := []) (D := D) (Xof_none rfl) g46 (by delta Tryd.f46; exact rfl) (by delta Tryd.f46; exact rfl) (by delta Tryd.f46; exact rfl) hd rfl (by first | rfl | simp [idsV, idsC]) (by simp) (by simp) ?_
 intro md' ow; have w := ow.w; have w0 := ow.w0; have fz : md'.fz = false := ow.fz
 (have F := an5 @yD @fl_Object @ok_Object @nr_Object @lf_Object; (repeat' (first | refine' dA16 | ((with_reducible first | apply EvO.call (vs := ?_) | apply EvT.call (vs := ?_)); exact rfl; exact rfl; exact dE4; (with_reducible apply Cal.hd (ms := []) (p := ?_)); exact dE4) | ((with_reducible apply CalH.mk); intro hd; first | exact c67 hd) | fail)); all_goals clear F)
 apply Ev.loop (fun j e S' => ∃ i : Nat, e = mkE [(0, .v (.slice none 0 0)), (1, (.v (.int .i64 (x)))), (5, (.v (.int .i64 ((i : Int)))))] ∧ S' = S ∧ j = 0 ∧ (i = 0))
 ·exact ⟨0, (k46_2 _).trans dN5, (by first | rfl | (simp only [app_app, List.cons_append, List.nil_append]; done)), rfl, (by first | omega | rfl | (simp; done))⟩
 rintro j e S' ⟨i, rfl, rfl, hj, hi⟩
 subst hi
 (have F := an5 @yD @fl_Object @ok_Object @nr_Object @lf_Object; (repeat' (first | refine' dA16 | ((with_reducible first | apply EvO.call (vs := ?_) | apply EvT.call (vs := ?_)); exact rfl; exact rfl; exact dE4; (with_reducible apply Cal.hd (ms := []) (p := ?_)); exact dE4) | ((with_reducible apply CalH.mk); intro hd; first | exact c67 hd) | fail)); all_goals clear F)
 exact ⟨rfl, rfl⟩
def mkObject (x : Int) (m : Nat) : List Object := (List.range m).map fun (i : Nat) => ⟨mt (x + 2 * (i : Int)), (x + 2 * (i : Int) + 1)⟩
theorem mkObject_len (x : Int) (m : Nat) : (mkObject x m).length = m := by simp [mkObject]
theorem mkObject_get (x : Int) {m i : Nat} (h : i < m) : (List.map Object.c (mkObject x m))[i]? = some (Object.c ⟨mt (x + 2 * (i : Int)), (x + 2 * (i : Int) + 1)⟩) := by simp [mkObject, h]
theorem mkObject_pre (x : Int) (l : List Object) {i : Nat} (h : i ≤ l.length) : (mkObject x i ++ l.drop i).length = l.length := by simp [mkObject]; omega
theorem mkObject_at (x : Int) (l : List Object) {i : Nat} (h : i < l.length) : (mkObject x i ++ l.drop i)[i]? = some l[i] := by rw [List.getElem?_append_right (by simp [mkObject])]; simp [mkObject, h]
theorem mkObject_step (x : Int) (l : List Object) (i : Nat) (h : i < l.length) : (List.map Object.c (mkObject x i ++ l.drop i)).set i (Object.c ⟨mt (x + 2 * (i : Int)), (x + 2 * (i : Int) + 1)⟩) = List.map Object.c (mkObject x (i + 1) ++ l.drop (i + 1)) := by
 rw [← List.map_set]
 congr 1
 rw [List.set_append, if_neg (by simp [mkObject]), show (mkObject x i).length = i by simp [mkObject], Nat.sub_self, List.drop_eq_getElem_cons h, List.set_cons_zero, mkObject, mkObject, List.range_succ, List.map_append, List.append_assoc]
 rfl
theorem tk_mkObject (x : Int) (m : Nat) : List.take m (List.map Object.c (mkObject x m)) = List.map Object.c (mkObject x m) := List.take_of_length_le (by simp [mkObject])
theorem c44 {k : Nat} {md : Md} {S : Store} {vs : List A} {D : List Nat} {id : Nat} {l : List Object} {x : Int} (hd : dpArgs S [true] vs = some ([.sl id 0 l.length l.length, (.v (.int .i64 (x)))], D)) (hD : (D.all fun i => !([id] : List Nat).contains i) = true := by first | rfl | simp) (hx : 0 ≤ x ∧ x ≤ 16777216 := by first | assumption | omega | with_reducible rfl) (hn : l.length ≤ 1048576 := by first | assumption | omega | with_reducible rfl) (hid : S[id]? = some ⟨2, l.map Object.c, 0, false⟩) (hw : md.wr id = true) (hk : 2 ≤ k := by omega) :
  Cal (run k) md 44 vs S (fun r S' => r = (.v (.int .i64 (x + 2 * l.length))) ∧ S' = S.set id ⟨2, (mkObject x l.length).map Object.c, 0, false⟩) := by
 obtain ⟨k, rfl⟩ : ∃ j, k = j + 1 := ⟨k - 1, by omega⟩
 refine Cal.fn (n := 28) (rs := [.tmp 4]) (ids := [id]) (D := D) (Xof_none rfl) g44 (by delta Tryd.f44; exact rfl) (by delta Tryd.f44; exact rfl) (by delta Tryd.f44; exact rfl) hd rfl (by first | rfl | simp [idsV, idsC]) hD (by simp) ?_
 intro md' ow; have w := ow.w; have w0 := ow.w0; have fz : md'.fz = false := ow.fz
 have hlt0 := (List.getElem?_eq_some_iff.1 hid).1
 have wi := ow.old id (by simp) hw
 (have F := an7 @yD @fl_Object @ok_Object @nr_Object @lf_Object @tk_mkObject @mkObject_len; (repeat' (first | refine' dA17 | ((with_reducible apply EvO.call (vs := ?_)); exact rfl; exact rfl; exact dE5; (with_reducible apply Cal.hd (ms := []) (p := ?_)); exact dE5) | ((with_reducible apply CalH.mk); intro hd; first | exact c67 hd) | fail)); all_goals clear F)
 apply Ev.loop (fun j e S' => ∃ i : Nat, e = mkE [(0, .sl id 0 l.length l.length), (1, (.v (.int .i64 (x + 2 * (i : Int))))), (5, (.v (.int .i64 ((i : Int)))))] ∧ S' = S.set id ⟨2, (mkObject x i ++ l.drop i).map Object.c, 0, false⟩ ∧ j = l.length - i ∧ (i ≤ l.length))
 ·exact ⟨0, (k44_2 _).trans dN6, (by rw [show mkObject x 0 ++ l.drop 0 = l by simp [mkObject]]; exact (set_self hid).symm), rfl, (by omega)⟩
 rintro j e S' ⟨i, rfl, rfl, hj, hi⟩
 have hml := mkObject_pre x l hi
 by_cases hli : (i : Int) < (l.length : Int)
 ·have hlt : i < l.length := by omega
  have hg := mkObject_at x l hlt
  (have F := an16 @yD @fl_Object @ok_Object @nr_Object @lf_Object @tk_mkObject @mkObject_len @hli @wi @hlt @hlt0 @List.getElem?_set_self.{0} @List.set_set.{0} @List.length_set.{0} @hml @hg; (repeat' (first | refine' dA18 | ((with_reducible apply EvO.call (vs := ?_)); exact rfl; exact rfl; exact dE6; (with_reducible apply Cal.hd (ms := []) (p := ?_)); exact dE6) | ((with_reducible apply CalH.mk); intro hd; first | exact c67 hd) | fail)); all_goals clear F)
  apply roundQ_m; refine ⟨_, ⟨i + 1, (k44_2 _).trans dN7, ?_, rfl, ?_⟩, ?_⟩
  ·refine (lpG_len ?_).trans ?_; (focus (simp only [List.length_set]; done)); rw [← mkObject_step x l i hlt]; first | rfl | (simp only [markU, markB]; first | done | rfl)
  ·omega
  ·omega
 ·obtain rfl : i = l.length := by omega
  rw [List.drop_length, List.append_nil]
  (have F := an12 @yD @fl_Object @ok_Object @nr_Object @lf_Object @tk_mkObject @mkObject_len @hli @hlt0 @List.getElem?_set_self.{0} @List.length_set.{0} @hw; (repeat' (first | refine' dA17 | ((with_reducible apply EvO.call (vs := ?_)); exact rfl; exact rfl; exact dE5; (with_reducible apply Cal.hd (ms := []) (p := ?_)); exact dE5) | ((with_reducible apply CalH.mk); intro hd; first | exact c67 hd) | fail)); all_goals clear F)
  exact ⟨rfl, rfl⟩
theorem c46 {k : Nat} {md : Md} {S : Store} {vs : List A} {D : List Nat} {m : Nat} {x : Int} (hd : dpArgs S [] vs = some ([.ro 2 ((mkObject x m).map Object.c), (.v (.int .i64 (x)))], D)) (hx : 0 ≤ x ∧ x ≤ 16777216 := by first | assumption | omega | with_reducible rfl) (hn : m ≤ 1048576 := by first | assumption | omega | with_reducible rfl) (hk : 2 ≤ k := by omega) :
  Cal (run k) md 46 vs S (fun r S' => r = (.v (.int .i64 (x + 2 * m))) ∧ S' = S) := by
 obtain ⟨k, rfl⟩ : ∃ j, k = j + 1 := ⟨k - 1, by omega⟩
 refine Cal.fn (n := 32) (rs := [.tmp 4]) (ids := []) (D := D) (Xof_none rfl) g46 (by delta Tryd.f46; exact rfl) (by delta Tryd.f46; exact rfl) (by delta Tryd.f46; exact rfl) hd rfl (by first | rfl | simp [idsV, idsC]) (by simp) (by simp) ?_
 intro md' ow; have w := ow.w; have w0 := ow.w0; have fz : md'.fz = false := ow.fz
 (have F := an7 @yD @fl_Object @ok_Object @nr_Object @lf_Object @tk_mkObject @mkObject_len; (repeat' (first | refine' dA16 | ((with_reducible first | apply EvO.call (vs := ?_) | apply EvT.call (vs := ?_)); exact rfl; exact rfl; exact dE4; (with_reducible apply Cal.hd (ms := []) (p := ?_)); exact dE4) | ((with_reducible apply CalH.mk); intro hd; first | exact c67 hd) | fail)); all_goals clear F)
 apply Ev.loop (fun j e S' => ∃ i : Nat, e = mkE [(0, .ro 2 ((mkObject x m).map Object.c)), (1, (.v (.int .i64 (x + 2 * (i : Int))))), (5, (.v (.int .i64 ((i : Int)))))] ∧ S' = S ∧ j = m - i ∧ (i ≤ m))
 ·exact ⟨0, (k46_2 _).trans dN6, (by first | rfl | (simp only [app_app, List.cons_append, List.nil_append]; done)), rfl, (by first | omega | rfl | (simp; done))⟩
 rintro j e S' ⟨i, rfl, rfl, hj, hi⟩
 by_cases hli : (i : Int) < (m : Int)
 ·have hlt : i < m := by omega
  have hg := mkObject_get x hlt
  (have F := an11 @yD @fl_Object @ok_Object @nr_Object @lf_Object @tk_mkObject @mkObject_len @hli @hg @mkObject_len @bne_self_eq_false.{0}; (repeat' (first | refine' dA16 | ((with_reducible first | apply EvO.call (vs := ?_) | apply EvT.call (vs := ?_)); exact rfl; exact rfl; exact dE4; (with_reducible apply Cal.hd (ms := []) (p := ?_)); exact dE4) | ((with_reducible apply CalH.mk); intro hd; first | exact c67 hd) | fail)); all_goals clear F)
  apply roundQ_m; refine ⟨_, ⟨i + 1, (k46_2 _).trans dN7, ?_, rfl, ?_⟩, ?_⟩
  ·first | exact lpG_same | exact lpG_grow rfl | (refine (congrArg (fun K => lpG K _ _ _) (show _ = some _ from rfl)).trans (lpG_cut rfl ?_); simp [lowV, okC, mkE_at]; done) | (refine (congrArg (fun K => lpG K _ _ _) (show _ = some _ from rfl)).trans (lpG_mod rfl rfl ?_ ?_) <;> simp [lowV, okC, mkE_at, rowsAll_cons, rowsAll_nil, yD, fl_Object, ok_Object, nr_Object, lf_Object, Object.c, tk_mkObject, mkObject_len]; done) | (refine (lpG_len ?_).trans ?_; (focus (simp only [len_app, List.length_cons, List.length_nil, List.length_set]; done)); first | rfl | (simp (disch := first | (intros; contradiction) | (as_aux_lemma => omega) | (as_aux_lemma => (simp only [LEN2]; first | done | omega)) | (as_aux_lemma => (simp only [LEN]; try omega))) only [nx2, EV, TT, w, w0, fz, yD, fl_Object, ok_Object, nr_Object, lf_Object, Object.c, tk_mkObject, mkObject_len, Nat.reduceEqDiff, Nat.reduceBeqDiff, Nat.reduceAdd, Nat.reduceMul, Nat.reduceLeDiff, Nat.reduceLT, reduceCtorEq, Int.reduceEq, Int.reduceNeg]; first | done | rfl)) | (refine (congrArg (fun K => lpG K _ _ _) (show _ = some _ from rfl)).trans (lpG_grow ?_); simp only [lowV, okC, EV, Nat.reduceEqDiff, Nat.reduceBeqDiff, Nat.reduceAdd, Nat.reduceMul, Nat.reduceLeDiff, Nat.reduceLT, reduceCtorEq, Int.reduceEq, Int.reduceNeg]; done)
  ·first | omega | rfl | assumption | (simp; done)
  ·omega
 ·obtain rfl : i = m := by omega
  (have F := an9 @yD @fl_Object @ok_Object @nr_Object @lf_Object @tk_mkObject @mkObject_len @hli @mkObject_len; (repeat' (first | refine' dA16 | ((with_reducible first | apply EvO.call (vs := ?_) | apply EvT.call (vs := ?_)); exact rfl; exact rfl; exact dE4; (with_reducible apply Cal.hd (ms := []) (p := ?_)); exact dE4) | ((with_reducible apply CalH.mk); intro hd; first | exact c67 hd) | fail)); all_goals clear F)
  exact ⟨rfl, rfl⟩
theorem yB : (((type_of% @fl_Object) ∧ ((type_of% @ok_Object) ∧ (type_of% @nr_Object))) ∧ (((type_of% @lf_Object) ∧ (type_of% @Object.c.eq_1)) ∧ ((type_of% @tk_mkObject) ∧ (type_of% @mkObject_len)))) := ⟨⟨@fl_Object, ⟨@ok_Object, @nr_Object⟩⟩, ⟨⟨@lf_Object, @Object.c.eq_1⟩, ⟨@tk_mkObject, @mkObject_len⟩⟩⟩
end Go.Proofs.YtdpaijnbikclgaaDoorB
