/- Part of the evaluator's contracts: el_Cell. -/
import Derived.Test.YtdpaijnbikclgaaDoorFbase
import Derived.Test.YtdpaijnbikclgaaDoorFmark
namespace Go.Proofs.YtdpaijnbikclgaaDoorB
open Go Go.Proofs.YtdpaijnbikclgaaDoorE
set_option linter.unusedVariables false
set_option linter.unusedSectionVars false
set_option linter.unusedSimpArgs false
set_option maxHeartbeats 4000000
set_option maxRecDepth 20000
structure Cell where
 name : ByteArray
 no : Int
 data : ByteArray
 sum : Int
 deriving DecidableEq
def Cell.c (x : Cell) : List A := [(.v (.string (x.name))), (.v (.int .i64 (x.no))), (.v (.string (x.data))), (.v (.int .i64 (x.sum)))]
theorem fl_Cell (l : List Cell) : flatRowsB (List.map Cell.c l) = true := flat_map Cell.c (fun _ => rfl) l
theorem ok_Cell (m : Nat) (l : List Cell) : rowsAll (okC m) (List.map Cell.c l) = true := rowsAll_map (okC m) Cell.c (fun _ => rfl) l
theorem nr_Cell (l : List Cell) : rowsAll noRoC (List.map Cell.c l) = true := rowsAll_map noRoC Cell.c (fun _ => rfl) l
theorem lf_Cell (l : List Cell) : leafRows (List.map Cell.c l) = true := leaf_map Cell.c (fun _ => rfl) l
theorem c90 {k : Nat} {md : Md} {S : Store} {vs : List A} {D : List Nat} {a0 : ByteArray} {a1 : Int} {a2 : ByteArray} {a3 : Int} {l : Int} (hd : dpArgs S [] vs = some ([.ag [(.v (.string (a0))), (.v (.int .i64 (a1))), (.v (.string (a2))), (.v (.int .i64 (a3)))], (.v (.int .i64 (l)))], D)) (hl : 0 ≤ l ∧ l ≤ 1048576 := by first | assumption | omega | with_reducible rfl) (hs0 : a0.size ≤ 140737488351232 := by first | assumption | omega | with_reducible rfl) (hs2 : a2.size ≤ 140737488351232 := by first | assumption | omega | with_reducible rfl) (hk : 1 ≤ k := by omega) :
  Cal (run k) md 90 vs S (fun r S' => ∃ n, r = .v (.int .i64 n) ∧ S' = S ∧ (n < 0 ∨ 0 ≤ n ∧ n = l - ((a0.size + a2.size : Nat) : Int))) := by
 obtain ⟨k, rfl⟩ : ∃ j, k = j + 1 := ⟨k - 1, by omega⟩
 refine Cal.fn (n := 20) (rs := [.tmp 4]) (ids := []) (D := D) (Xof_none rfl) g90 (by delta Tryd.f90; exact rfl) (by delta Tryd.f90; exact rfl) (by delta Tryd.f90; exact rfl) hd rfl (by first | rfl | simp [idsV, idsC]) (by simp) (by simp) ?_
 intro md' ow; have w := ow.w; have w0 := ow.w0; have fz : md'.fz = false := ow.fz
 (have F := an5 @yD @fl_Cell @ok_Cell @nr_Cell @lf_Cell; (repeat' (first | refine' dA3 | fail)); all_goals clear F)
 all_goals refine ⟨_, rfl, rfl, ?_⟩
 all_goals omega
def szCell (l : List Cell) : Nat := (l.map fun x => x.name.size + x.data.size).sum
theorem szCell_s (l : List Cell) {i : Nat} (h : i < l.length) : szCell (l.take (i + 1)) = szCell (l.take i) + (l[i].name.size + l[i].data.size) := by unfold szCell; rw [List.take_add_one, List.map_append, List.sum_append, List.getElem?_eq_getElem h]; rfl
theorem k75_5 (e : Env) : lpE (FI.K ⟨[], false, [(5, [0, 1, 5]), (1000, [0, 1]), (1001, [0, 1]), (1002, [0, 1, 11]), (1003, [4]), (1004, [0, 1, 5]), (1005, [0, 1, 5, 15]), (1006, [0, 1, 5]), (1007, [0, 1, 5]), (1008, [0, 1, 5, 25]), (1009, [4]), (1010, [4])]⟩ 5) e = mkE [(0, e 0), (1, e 1), (5, e 5)] := rfl
theorem c75 {k : Nat} {md : Md} {S : Store} {vs : List A} {D : List Nat} {l : List Cell} {left : Int} (hd : dpArgs S [] vs = some ([.ro 4 (l.map Cell.c), (.v (.int .i64 (left)))], D)) (hl : 0 ≤ left ∧ left ≤ 1048576 := by first | assumption | omega | with_reducible rfl) (hn : l.length ≤ 9223372036854775807 := by first | assumption | omega | with_reducible rfl) (hs : ∀ x ∈ l, x.name.size ≤ 140737488351232 ∧ x.data.size ≤ 140737488351232 := by first | assumption | omega | with_reducible rfl) (hk : 2 ≤ k := by omega) :
  Cal (run k) md 75 vs S (fun r S' => ∃ n, r = .v (.int .i64 n) ∧ S' = S ∧ (n < 0 ∨ 0 ≤ n ∧ n = left - (l.length : Int) - (szCell l : Int))) := by
 obtain ⟨k, rfl⟩ : ∃ j, k = j + 1 := ⟨k - 1, by omega⟩
 refine Cal.fn (n := 27) (rs := [.tmp 4]) (ids := []) (D := D) (Xof_none rfl) g75 (by delta Tryd.f75; exact rfl) (by delta Tryd.f75; exact rfl) (by delta Tryd.f75; exact rfl) hd rfl (by first | rfl | simp [idsV, idsC]) (by simp) (by simp) ?_
 intro md' ow; have w := ow.w; have w0 := ow.w0; have fz : md'.fz = false := ow.fz
 (have F := an5 @yD @fl_Cell @ok_Cell @nr_Cell @lf_Cell; (repeat' (first | refine' dA4 | ((with_reducible apply EvO.call (vs := ?_)); exact rfl; exact rfl; exact dE1; (with_reducible apply Cal.hd (ms := []) (p := ?_)); exact dE1) | ((with_reducible apply CalH.mk); intro hd; first | exact c90 hd) | fail)); all_goals clear F)
 ·exact ⟨_, rfl, rfl, .inl (by decide)⟩
 apply Ev.loop (fun j e S' => ∃ i : Nat, ∃ y : Int, e = mkE [(0, .ro 4 (l.map Cell.c)), (1, (.v (.int .i64 (y)))), (5, (.v (.int .i64 ((i : Int)))))] ∧ S' = S ∧ j = l.length - i ∧ (i ≤ l.length) ∧ (0 ≤ y ∧ y = left - (l.length : Int) - (szCell (l.take i) : Int)))
 ·exact ⟨0, left - (l.length : Int), (k75_5 _).trans dN2, (by first | rfl | (simp only [app_app, List.cons_append, List.nil_append]; done)), rfl, (by omega), (by simp [szCell]; omega)⟩
 rintro j e S' ⟨i, y, rfl, rfl, hj, hi, hy⟩
 by_cases hli : (i : Int) < (l.length : Int)
 ·have hlt : i < l.length := by omega
  have hz := hs l[i] (by simp)
  have ht := szCell_s l hlt
  (have F := an6 @yD @fl_Cell @ok_Cell @nr_Cell @lf_Cell @hli; (repeat' (first | refine' dA4 | ((with_reducible apply EvO.call (vs := ?_)); exact rfl; exact rfl; exact dE1; (with_reducible apply Cal.hd (ms := []) (p := ?_)); exact dE1) | ((with_reducible apply CalH.mk); intro hd; first | exact c90 hd) | fail)); all_goals clear F)
  ·exact ⟨_, rfl, rfl, .inl (by decide)⟩
  ·apply roundQ_m; refine ⟨_, ⟨i + 1, _, (k75_5 _).trans dN2, ?_, rfl, ?_, ?_⟩, ?_⟩
   ·exact dS1
   ·first | omega | rfl | assumption | (simp; done)
   ·first | omega | rfl | assumption | (simp; done)
   ·omega
 ·obtain rfl : i = l.length := by omega
  rw [List.take_length] at hy
  (have F := an6 @yD @fl_Cell @ok_Cell @nr_Cell @lf_Cell @hli; (repeat' (first | refine' dA4 | ((with_reducible apply EvO.call (vs := ?_)); exact rfl; exact rfl; exact dE1; (with_reducible apply Cal.hd (ms := []) (p := ?_)); exact dE1) | ((with_reducible apply CalH.mk); intro hd; first | exact c90 hd) | fail)); all_goals clear F)
  exact ⟨_, rfl, rfl, .inr hy⟩
theorem c91 {k : Nat} {md : Md} {S : Store} {vs : List A} {D : List Nat} {a0 : ByteArray} {a1 : Int} {a2 : ByteArray} {a3 : Int} (hd : dpArgs S [] vs = some ([.ag [(.v (.string (a0))), (.v (.int .i64 (a1))), (.v (.string (a2))), (.v (.int .i64 (a3)))]], D))  (hk : 1 ≤ k := by omega) :
  Cal (run k) md 91 vs S (fun r S' => r = .ag [(.v (.string (a0))), (.v (.int .i64 (a1))), (.v (.string (a2))), (.v (.int .i64 (a3)))] ∧ S' = S) := by
 obtain ⟨k, rfl⟩ : ∃ j, k = j + 1 := ⟨k - 1, by omega⟩
 refine Cal.fn (n := 17) (rs := [.cell 2 56]) (ids := []) (D := D) (Xof_none rfl) g91 (by delta Tryd.f91; exact rfl) (by delta Tryd.f91; exact rfl) (by delta Tryd.f91; exact rfl) hd rfl (by first | rfl | simp [idsV, idsC]) (by simp) (by simp) ?_
 intro md' ow; have w := ow.w; have w0 := ow.w0; have fz : md'.fz = false := ow.fz
 (have F := an5 @yD @fl_Cell @ok_Cell @nr_Cell @lf_Cell; (repeat' (first | refine' dA5 | fail)); all_goals clear F)
 exact ⟨rfl, rfl⟩
theorem k76_3 (e : Env) : lpE (FI.K ⟨[], false, [(3, [0, 3, 4]), (1000, [0]), (1001, [0, 3]), (1002, [0, 3, 4]), (1003, [0, 3, 4, 11]), (1004, [0, 3, 4]), (1005, [0, 3, 4]), (1006, [2])]⟩ 3) e = mkE [(0, e 0), (3, e 3), (4, e 4)] := rfl
theorem c76 {k : Nat} {md : Md} {S : Store} {vs : List A} {D : List Nat} {l : List Cell} (hd : dpArgs S [] vs = some ([.ro 4 (l.map Cell.c)], D)) (hn : l.length ≤ 1048576 := by first | assumption | omega | with_reducible rfl) (hk : 2 ≤ k := by omega) :
  Cal (run k) md 76 vs S (fun r S' => r = .sl S.length 0 l.length l.length ∧ S' = S ++ [⟨4, l.map Cell.c, 0, false⟩]) := by
 obtain ⟨k, rfl⟩ : ∃ j, k = j + 1 := ⟨k - 1, by omega⟩
 refine Cal.fn (n := 23) (rs := [.tmp 2]) (ids := []) (D := D) (Xof_none rfl) g76 (by delta Tryd.f76; exact rfl) (by delta Tryd.f76; exact rfl) (by delta Tryd.f76; exact rfl) hd rfl (by first | rfl | simp [idsV, idsC]) (by simp) (by simp) ?_
 intro md' ow; have w := ow.w; have w0 := ow.w0; have fz : md'.fz = false := ow.fz
 (have F := an5 @yD @fl_Cell @ok_Cell @nr_Cell @lf_Cell; (repeat' (first | refine' dA6 | ((with_reducible apply EvO.call (vs := ?_)); exact rfl; exact rfl; exact dE1; (with_reducible apply Cal.hd (ms := []) (p := ?_)); exact dE1) | ((with_reducible apply CalH.mk); intro hd; first | exact c91 hd) | fail)); all_goals clear F)
 apply Ev.loop (fun j e S' => ∃ i : Nat, e = mkE [(0, .ro 4 (l.map Cell.c)), (3, .sl (S.length + 1) 0 l.length l.length), (4, (.v (.int .i64 ((i : Int)))))] ∧ S' = S ++ [⟨4, [], 0, false⟩, ⟨4, fillR Cell.c [.v (.string ⟨#[]⟩), .v (.int .i64 0), .v (.string ⟨#[]⟩), .v (.int .i64 0)] l i, 0, false⟩] ∧ j = l.length - i ∧ (i ≤ l.length))
 ·exact ⟨0, (k76_3 _).trans dN2, (by rw [fillR_0]), rfl, (by omega)⟩
 rintro j e S' ⟨i, rfl, rfl, hj, hi⟩
 have hlen := fillR_len Cell.c [.v (.string ⟨#[]⟩), .v (.int .i64 0), .v (.string ⟨#[]⟩), .v (.int .i64 0)] l i hi
 by_cases hli : (i : Int) < (l.length : Int)
 ·have hlt : i < l.length := by omega
  have hg2 := fillR_get Cell.c [.v (.string ⟨#[]⟩), .v (.int .i64 0), .v (.string ⟨#[]⟩), .v (.int .i64 0)] l i hlt
  have hset := fillR_set Cell.c [.v (.string ⟨#[]⟩), .v (.int .i64 0), .v (.string ⟨#[]⟩), .v (.int .i64 0)] l i hlt
  simp only [Cell.c] at hset
  (have F := an9 @yD @fl_Cell @ok_Cell @nr_Cell @lf_Cell @hli @hlen @hg2 @hset; (repeat' (first | refine' dA6 | ((with_reducible apply EvO.call (vs := ?_)); exact rfl; exact rfl; exact dE1; (with_reducible apply Cal.hd (ms := []) (p := ?_)); exact dE1) | ((with_reducible apply CalH.mk); intro hd; first | exact c91 hd) | fail)); all_goals clear F)
  apply roundQ_m; refine ⟨_, ⟨i + 1, (k76_3 _).trans dN2, ?_, rfl, ?_⟩, ?_⟩
  ·exact dS1
  ·first | omega | rfl | assumption | (simp; done)
  ·omega
 ·obtain rfl : i = l.length := by omega
  rw [fillR_all]
  (have F := an6 @yD @fl_Cell @ok_Cell @nr_Cell @lf_Cell @hli; (repeat' (first | refine' dA6 | ((with_reducible apply EvO.call (vs := ?_)); exact rfl; exact rfl; exact dE1; (with_reducible apply Cal.hd (ms := []) (p := ?_)); exact dE1) | ((with_reducible apply CalH.mk); intro hd; first | exact c91 hd) | fail)); all_goals clear F)
  exact ⟨rfl, rfl⟩
theorem c97 {k : Nat} {md : Md} {S : Store} {vs : List A} {D : List Nat} {a0 : ByteArray} {a1 : Int} {a2 : ByteArray} {a3 : Int} {b0 : ByteArray} {b1 : Int} {b2 : ByteArray} {b3 : Int} (hd : dpArgs S [] vs = some ([.ag [(.v (.string (a0))), (.v (.int .i64 (a1))), (.v (.string (a2))), (.v (.int .i64 (a3)))], .ag [(.v (.string (b0))), (.v (.int .i64 (b1))), (.v (.string (b2))), (.v (.int .i64 (b3)))]], D)) (h0 : a0 = b0 := by first | assumption | omega | with_reducible rfl) (h1 : a1 = b1 := by first | assumption | omega | with_reducible rfl) (h2 : a2 = b2 := by first | assumption | omega | with_reducible rfl) (h3 : a3 = b3 := by first | assumption | omega | with_reducible rfl) (hk : 1 ≤ k := by omega) :
  Cal (run k) md 97 vs S (fun r S' => r = (.v (.bool (true))) ∧ S' = S) := by
 obtain ⟨k, rfl⟩ : ∃ j, k = j + 1 := ⟨k - 1, by omega⟩
 refine Cal.fn (n := 25) (rs := [.tmp 4]) (ids := []) (D := D) (Xof_none rfl) g97 (by delta Tryd.f97; exact rfl) (by delta Tryd.f97; exact rfl) (by delta Tryd.f97; exact rfl) hd rfl (by first | rfl | simp [idsV, idsC]) (by simp) (by simp) ?_
 intro md' ow; have w := ow.w; have w0 := ow.w0; have fz : md'.fz = false := ow.fz
 subst h0; subst h1; subst h2; subst h3
 (have F := an7 @yD @fl_Cell @ok_Cell @nr_Cell @lf_Cell @bne_self_eq_false.{0} @beq_self_eq_true.{0}; (repeat' (first | refine' dA3 | fail)); all_goals clear F)
 exact ⟨rfl, rfl⟩
theorem k86_4 (e : Env) : lpE (FI.K ⟨[], false, [(4, [0, 1, 5]), (1000, [0, 1]), (1001, [0, 1, 10]), (1002, [4]), (1003, [0, 1, 5]), (1004, [0, 1, 5, 14]), (1005, [0, 1, 5]), (1006, [0, 1, 5, 26]), (1007, [4]), (1008, [4])]⟩ 4) e = mkE [(0, e 0), (1, e 1), (5, e 5)] := rfl
theorem c86 {k : Nat} {md : Md} {S : Store} {vs : List A} {D : List Nat} {l l' : List Cell} (hd : dpArgs S [] vs = some ([.ro 4 (l.map Cell.c), .ro 4 (l'.map Cell.c)], D)) (he : l = l' := by first | assumption | omega | with_reducible rfl) (hn : l.length ≤ 1048576 := by first | assumption | omega | with_reducible rfl) (hk : 2 ≤ k := by omega) :
  Cal (run k) md 86 vs S (fun r S' => r = (.v (.bool (true))) ∧ S' = S) := by
 obtain ⟨k, rfl⟩ : ∃ j, k = j + 1 := ⟨k - 1, by omega⟩
 refine Cal.fn (n := 27) (rs := [.tmp 4]) (ids := []) (D := D) (Xof_none rfl) g86 (by delta Tryd.f86; exact rfl) (by delta Tryd.f86; exact rfl) (by delta Tryd.f86; exact rfl) hd rfl (by first | rfl | simp [idsV, idsC]) (by simp) (by simp) ?_
 intro md' ow; have w := ow.w; have w0 := ow.w0; have fz : md'.fz = false := ow.fz
 subst he
 (have F := an6 @yD @fl_Cell @ok_Cell @nr_Cell @lf_Cell @bne_self_eq_false.{0}; (repeat' (first | refine' dA7 | ((with_reducible first | apply EvO.call (vs := ?_) | apply EvT.call (vs := ?_)); exact rfl; exact rfl; exact dE1; (with_reducible apply Cal.hd (ms := []) (p := ?_)); exact dE1) | ((with_reducible apply CalH.mk); intro hd; first | exact c97 hd) | fail)); all_goals clear F)
 apply Ev.loop (fun j e S' => ∃ i : Nat, e = mkE [(0, .ro 4 (l.map Cell.c)), (1, .ro 4 (l.map Cell.c)), (5, (.v (.int .i64 ((i : Int)))))] ∧ S' = S ∧ j = l.length - i ∧ (i ≤ l.length))
 ·exact ⟨0, (k86_4 _).trans dN2, (by first | rfl | (simp only [app_app, List.cons_append, List.nil_append]; done)), rfl, (by first | omega | rfl | (simp; done))⟩
 rintro j e S' ⟨i, rfl, rfl, hj, hi⟩
 by_cases hli : (i : Int) < (l.length : Int)
 ·have hlt : i < l.length := by omega
  (have F := an8 @yD @fl_Cell @ok_Cell @nr_Cell @lf_Cell @hli @bne_self_eq_false.{0} @beq_self_eq_true.{0}; (repeat' (first | refine' dA7 | ((with_reducible first | apply EvO.call (vs := ?_) | apply EvT.call (vs := ?_)); exact rfl; exact rfl; exact dE1; (with_reducible apply Cal.hd (ms := []) (p := ?_)); exact dE1) | ((with_reducible apply CalH.mk); intro hd; first | exact c97 hd) | fail)); all_goals clear F)
  apply roundQ_m; refine ⟨_, ⟨i + 1, (k86_4 _).trans dN2, ?_, rfl, ?_⟩, ?_⟩
  ·exact dS1
  ·first | omega | rfl | assumption | (simp; done)
  ·omega
 ·obtain rfl : i = l.length := by omega
  (have F := an6 @yD @fl_Cell @ok_Cell @nr_Cell @lf_Cell @hli; (repeat' (first | refine' dA7 | ((with_reducible first | apply EvO.call (vs := ?_) | apply EvT.call (vs := ?_)); exact rfl; exact rfl; exact dE1; (with_reducible apply Cal.hd (ms := []) (p := ?_)); exact dE1) | ((with_reducible apply CalH.mk); intro hd; first | exact c97 hd) | fail)); all_goals clear F)
  exact ⟨rfl, rfl⟩
theorem c86_nn {k : Nat} {md : Md} {S : Store} {vs : List A} {D : List Nat}  (hd : dpArgs S [] vs = some ([.v (.slice none 0 0), .v (.slice none 0 0)], D))  (hk : 2 ≤ k := by omega) :
  Cal (run k) md 86 vs S (fun r S' => r = (.v (.bool (true))) ∧ S' = S) := by
 obtain ⟨k, rfl⟩ : ∃ j, k = j + 1 := ⟨k - 1, by omega⟩
 refine Cal.fn (n := 27) (rs := [.tmp 4]) (ids := []) (D := D) (Xof_none rfl) g86 (by delta Tryd.f86; exact rfl) (by delta Tryd.f86; exact rfl) (by delta Tryd.f86; exact rfl) hd rfl (by first | rfl | simp [idsV, idsC]) (by simp) (by simp) ?_
 intro md' ow; have w := ow.w; have w0 := ow.w0; have fz : md'.fz = false := ow.fz
 (have F := an6 @yD @fl_Cell @ok_Cell @nr_Cell @lf_Cell @bne_self_eq_false.{0}; (repeat' (first | refine' dA7 | ((with_reducible first | apply EvO.call (vs := ?_) | apply EvT.call (vs := ?_)); exact rfl; exact rfl; exact dE1; (with_reducible apply Cal.hd (ms := []) (p := ?_)); exact dE1) | ((with_reducible apply CalH.mk); intro hd; first | exact c97 hd) | fail)); all_goals clear F)
 apply Ev.loop (fun j e S' => ∃ i : Nat, e = mkE [(0, .v (.slice none 0 0)), (1, .v (.slice none 0 0)), (5, (.v (.int .i64 ((i : Int)))))] ∧ S' = S ∧ j = 0 ∧ (i = 0))
 ·exact ⟨0, (k86_4 _).trans dN2, (by first | rfl | (simp only [app_app, List.cons_append, List.nil_append]; done)), rfl, (by first | omega | rfl | (simp; done))⟩
 rintro j e S' ⟨i, rfl, rfl, hj, hi⟩
 subst hi
 (have F := an5 @yD @fl_Cell @ok_Cell @nr_Cell @lf_Cell; (repeat' (first | refine' dA7 | ((with_reducible first | apply EvO.call (vs := ?_) | apply EvT.call (vs := ?_)); exact rfl; exact rfl; exact dE1; (with_reducible apply Cal.hd (ms := []) (p := ?_)); exact dE1) | ((with_reducible apply CalH.mk); intro hd; first | exact c97 hd) | fail)); all_goals clear F)
 exact ⟨rfl, rfl⟩
theorem k66_2 (e : Env) : lpE (FI.K ⟨[true], false, [(2, [0, 1, 5]), (1000, [0, 1]), (1001, [0, 1, 5]), (1002, [0, 1, 5, 9]), (1003, [0, 1, 5]), (1004, [0, 1, 5]), (1005, [0, 1, 5]), (1006, [0, 1, 5]), (1007, [0, 1, 5]), (1008, [0, 1, 5]), (1009, [0, 1, 5]), (1010, [0, 1, 5]), (1011, [0, 1, 5]), (1012, [4])]⟩ 2) e = mkE [(0, e 0), (1, e 1), (5, e 5)] := rfl
theorem c66_nil {k : Nat} {md : Md} {S : Store} {vs : List A} {D : List Nat} {x : Int} (hd : dpArgs S [true] vs = some ([.v (.slice none 0 0), (.v (.int .i64 (x)))], D))  (hk : 2 ≤ k := by omega) :
  Cal (run k) md 66 vs S (fun r S' => r = (.v (.int .i64 (x))) ∧ S' = S) := by
 obtain ⟨k, rfl⟩ : ∃ j, k = j + 1 := ⟨k - 1, by omega⟩
 refine Cal.fn (n := 43) (rs := [.tmp 4]) (ids := []) (D := D) (Xof_none rfl) g66 (by delta Tryd.f66; exact rfl) (by delta Tryd.f66; exact rfl) (by delta Tryd.f66; exact rfl) hd rfl (by first | rfl | simp [idsV, idsC]) (by simp) (by simp) ?_
 intro md' ow; have w := ow.w; have w0 := ow.w0; have fz : md'.fz = false := ow.fz
 (have F := an5 @yD @fl_Cell @ok_Cell @nr_Cell @lf_Cell; (repeat' (first | refine' dA6 | ((with_reducible apply EvO.call (vs := ?_)); exact rfl; exact rfl; exact dE1; (with_reducible apply Cal.hd (ms := []) (p := ?_)); exact dE1) | ((with_reducible apply CalH.mk); intro hd; first | exact c67 hd) | fail)); all_goals clear F)
 apply Ev.loop (fun j e S' => ∃ i : Nat, e = mkE [(0, .v (.slice none 0 0)), (1, (.v (.int .i64 (x)))), (5, (.v (.int .i64 ((i : Int)))))] ∧ S' = S ∧ j = 0 ∧ (i = 0))
 ·exact ⟨0, (k66_2 _).trans dN2, (by first | rfl | (simp only [app_app, List.cons_append, List.nil_append]; done)), rfl, (by first | omega | rfl | (simp; done))⟩
 rintro j e S' ⟨i, rfl, rfl, hj, hi⟩
 subst hi
 (have F := an5 @yD @fl_Cell @ok_Cell @nr_Cell @lf_Cell; (repeat' (first | refine' dA6 | ((with_reducible apply EvO.call (vs := ?_)); exact rfl; exact rfl; exact dE1; (with_reducible apply Cal.hd (ms := []) (p := ?_)); exact dE1) | ((with_reducible apply CalH.mk); intro hd; first | exact c67 hd) | fail)); all_goals clear F)
 exact ⟨rfl, rfl⟩
theorem k68_2 (e : Env) : lpE (FI.K ⟨[], false, [(2, [0, 1, 5]), (1000, [0, 1]), (1001, [0, 1, 5]), (1002, [0, 1, 5, 9]), (1003, [0, 1, 5]), (1004, [0, 1, 5, 19]), (1005, [4]), (1006, [0, 1, 5]), (1007, [0, 1, 5, 28]), (1008, [4]), (1009, [0, 1, 5]), (1010, [0, 1, 5, 38]), (1011, [4]), (1012, [0, 1, 5]), (1013, [0, 1, 5, 47]), (1014, [4]), (1015, [0, 1, 5]), (1016, [4])]⟩ 2) e = mkE [(0, e 0), (1, e 1), (5, e 5)] := rfl
theorem c68_nil {k : Nat} {md : Md} {S : Store} {vs : List A} {D : List Nat} {x : Int} (hd : dpArgs S [] vs = some ([.v (.slice none 0 0), (.v (.int .i64 (x)))], D))  (hk : 2 ≤ k := by omega) :
  Cal (run k) md 68 vs S (fun r S' => r = (.v (.int .i64 (x))) ∧ S' = S) := by
 obtain ⟨k, rfl⟩ : ∃ j, k = j + 1 := ⟨k - 1, by omega⟩
 refine Cal.fn (n := 51) (rs := [.tmp 4]) (ids := []) (D := D) (Xof_none rfl) g68 (by delta Tryd.f68; exact rfl) (by delta Tryd.f68; exact rfl) (by delta Tryd.f68; exact rfl) hd rfl (by first | rfl | simp [idsV, idsC]) (by simp) (by simp) ?_
 intro md' ow; have w := ow.w; have w0 := ow.w0; have fz : md'.fz = false := ow.fz
 (have F := an5 @yD @fl_Cell @ok_Cell @nr_Cell @lf_Cell; (repeat' (first | refine' dA8 | ((with_reducible first | apply EvO.call (vs := ?_) | apply EvT.call (vs := ?_)); exact rfl; exact rfl; exact dE1; (with_reducible apply Cal.hd (ms := []) (p := ?_)); exact dE1) | ((with_reducible apply CalH.mk); intro hd; first | exact c67 hd) | fail)); all_goals clear F)
 apply Ev.loop (fun j e S' => ∃ i : Nat, e = mkE [(0, .v (.slice none 0 0)), (1, (.v (.int .i64 (x)))), (5, (.v (.int .i64 ((i : Int)))))] ∧ S' = S ∧ j = 0 ∧ (i = 0))
 ·exact ⟨0, (k68_2 _).trans dN2, (by first | rfl | (simp only [app_app, List.cons_append, List.nil_append]; done)), rfl, (by first | omega | rfl | (simp; done))⟩
 rintro j e S' ⟨i, rfl, rfl, hj, hi⟩
 subst hi
 (have F := an5 @yD @fl_Cell @ok_Cell @nr_Cell @lf_Cell; (repeat' (first | refine' dA8 | ((with_reducible first | apply EvO.call (vs := ?_) | apply EvT.call (vs := ?_)); exact rfl; exact rfl; exact dE1; (with_reducible apply Cal.hd (ms := []) (p := ?_)); exact dE1) | ((with_reducible apply CalH.mk); intro hd; first | exact c67 hd) | fail)); all_goals clear F)
 exact ⟨rfl, rfl⟩
def mkCell (x : Int) (m : Nat) : List Cell := (List.range m).map fun (i : Nat) => ⟨mt (x + 4 * (i : Int)), (x + 4 * (i : Int) + 1), mt (x + 4 * (i : Int) + 1 + 1), (x + 4 * (i : Int) + 1 + 1 + 1)⟩
theorem mkCell_len (x : Int) (m : Nat) : (mkCell x m).length = m := by simp [mkCell]
theorem mkCell_get (x : Int) {m i : Nat} (h : i < m) : (List.map Cell.c (mkCell x m))[i]? = some (Cell.c ⟨mt (x + 4 * (i : Int)), (x + 4 * (i : Int) + 1), mt (x + 4 * (i : Int) + 1 + 1), (x + 4 * (i : Int) + 1 + 1 + 1)⟩) := by simp [mkCell, h]
theorem mkCell_pre (x : Int) (l : List Cell) {i : Nat} (h : i ≤ l.length) : (mkCell x i ++ l.drop i).length = l.length := by simp [mkCell]; omega
theorem mkCell_at (x : Int) (l : List Cell) {i : Nat} (h : i < l.length) : (mkCell x i ++ l.drop i)[i]? = some l[i] := by rw [List.getElem?_append_right (by simp [mkCell])]; simp [mkCell, h]
theorem mkCell_step (x : Int) (l : List Cell) (i : Nat) (h : i < l.length) : (List.map Cell.c (mkCell x i ++ l.drop i)).set i (Cell.c ⟨mt (x + 4 * (i : Int)), (x + 4 * (i : Int) + 1), mt (x + 4 * (i : Int) + 1 + 1), (x + 4 * (i : Int) + 1 + 1 + 1)⟩) = List.map Cell.c (mkCell x (i + 1) ++ l.drop (i + 1)) := by
 rw [← List.map_set]
 congr 1
 rw [List.set_append, if_neg (by simp [mkCell]), show (mkCell x i).length = i by simp [mkCell], Nat.sub_self, List.drop_eq_getElem_cons h, List.set_cons_zero, mkCell, mkCell, List.range_succ, List.map_append, List.append_assoc]
 rfl
theorem tk_mkCell (x : Int) (m : Nat) : List.take m (List.map Cell.c (mkCell x m)) = List.map Cell.c (mkCell x m) := List.take_of_length_le (by simp [mkCell])
theorem c66 {k : Nat} {md : Md} {S : Store} {vs : List A} {D : List Nat} {id : Nat} {l : List Cell} {x : Int} (hd : dpArgs S [true] vs = some ([.sl id 0 l.length l.length, (.v (.int .i64 (x)))], D)) (hD : (D.all fun i => !([id] : List Nat).contains i) = true := by first | rfl | simp) (hx : 0 ≤ x ∧ x ≤ 16777216 := by first | assumption | omega | with_reducible rfl) (hn : l.length ≤ 1048576 := by first | assumption | omega | with_reducible rfl) (hid : S[id]? = some ⟨4, l.map Cell.c, 0, false⟩) (hw : md.wr id = true) (hk : 2 ≤ k := by omega) :
  Cal (run k) md 66 vs S (fun r S' => r = (.v (.int .i64 (x + 4 * l.length))) ∧ S' = S.set id ⟨4, (mkCell x l.length).map Cell.c, 0, false⟩) := by
 obtain ⟨k, rfl⟩ : ∃ j, k = j + 1 := ⟨k - 1, by omega⟩
 refine Cal.fn (n := 43) (rs := [.tmp 4]) (ids := [id]) (D := D) (Xof_none rfl) g66 (by delta Tryd.f66; exact rfl) (by delta Tryd.f66; exact rfl) (by delta Tryd.f66; exact rfl) hd rfl (by first | rfl | simp [idsV, idsC]) hD (by simp) ?_
 intro md' ow; have w := ow.w; have w0 := ow.w0; have fz : md'.fz = false := ow.fz
 have hlt0 := (List.getElem?_eq_some_iff.1 hid).1
 have wi := ow.old id (by simp) hw
 (have F := an7 @yD @fl_Cell @ok_Cell @nr_Cell @lf_Cell @tk_mkCell @mkCell_len; (repeat' (first | refine' dA9 | ((with_reducible apply EvO.call (vs := ?_)); exact rfl; exact rfl; exact dE2; (with_reducible apply Cal.hd (ms := []) (p := ?_)); exact dE2) | ((with_reducible apply CalH.mk); intro hd; first | exact c67 hd) | fail)); all_goals clear F)
 apply Ev.loop (fun j e S' => ∃ i : Nat, e = mkE [(0, .sl id 0 l.length l.length), (1, (.v (.int .i64 (x + 4 * (i : Int))))), (5, (.v (.int .i64 ((i : Int)))))] ∧ S' = S.set id ⟨4, (mkCell x i ++ l.drop i).map Cell.c, 0, false⟩ ∧ j = l.length - i ∧ (i ≤ l.length))
 ·exact ⟨0, (k66_2 _).trans dN3, (by rw [show mkCell x 0 ++ l.drop 0 = l by simp [mkCell]]; exact (set_self hid).symm), rfl, (by omega)⟩
 rintro j e S' ⟨i, rfl, rfl, hj, hi⟩
 have hml := mkCell_pre x l hi
 by_cases hli : (i : Int) < (l.length : Int)
 ·have hlt : i < l.length := by omega
  have hg := mkCell_at x l hlt
  (have F := an16 @yD @fl_Cell @ok_Cell @nr_Cell @lf_Cell @tk_mkCell @mkCell_len @hli @wi @hlt @hlt0 @List.getElem?_set_self.{0} @List.set_set.{0} @List.length_set.{0} @hml @hg; (repeat' (first | refine' dA10 | ((with_reducible apply EvO.call (vs := ?_)); exact rfl; exact rfl; exact dE3; (with_reducible apply Cal.hd (ms := []) (p := ?_)); exact dE3) | ((with_reducible apply CalH.mk); intro hd; first | exact c67 hd) | fail)); all_goals clear F)
  apply roundQ_m; refine ⟨_, ⟨i + 1, (k66_2 _).trans dN4, ?_, rfl, ?_⟩, ?_⟩
  ·refine (lpG_len ?_).trans ?_; (focus (simp only [List.length_set]; done)); rw [← mkCell_step x l i hlt]; first | rfl | (simp only [markU, markB]; first | done | rfl)
  ·omega
  ·omega
 ·obtain rfl : i = l.length := by omega
  rw [List.drop_length, List.append_nil]
  (have F := an12 @yD @fl_Cell @ok_Cell @nr_Cell @lf_Cell @tk_mkCell @mkCell_len @hli @hlt0 @List.getElem?_set_self.{0} @List.length_set.{0} @hw; (repeat' (first | refine' dA9 | ((with_reducible apply EvO.call (vs := ?_)); exact rfl; exact rfl; exact dE2; (with_reducible apply Cal.hd (ms := []) (p := ?_)); exact dE2) | ((with_reducible apply CalH.mk); intro hd; first | exact c67 hd) | fail)); all_goals clear F)
  exact ⟨rfl, rfl⟩
theorem c68 {k : Nat} {md : Md} {S : Store} {vs : List A} {D : List Nat} {m : Nat} {x : Int} (hd : dpArgs S [] vs = some ([.ro 4 ((mkCell x m).map Cell.c), (.v (.int .i64 (x)))], D)) (hx : 0 ≤ x ∧ x ≤ 16777216 := by first | assumption | omega | with_reducible rfl) (hn : m ≤ 1048576 := by first | assumption | omega | with_reducible rfl) (hk : 2 ≤ k := by omega) :
  Cal (run k) md 68 vs S (fun r S' => r = (.v (.int .i64 (x + 4 * m))) ∧ S' = S) := by
 obtain ⟨k, rfl⟩ : ∃ j, k = j + 1 := ⟨k - 1, by omega⟩
 refine Cal.fn (n := 51) (rs := [.tmp 4]) (ids := []) (D := D) (Xof_none rfl) g68 (by delta Tryd.f68; exact rfl) (by delta Tryd.f68; exact rfl) (by delta Tryd.f68; exact rfl) hd rfl (by first | rfl | simp [idsV, idsC]) (by simp) (by simp) ?_
 intro md' ow; have w := ow.w; have w0 := ow.w0; have fz : md'.fz = false := ow.fz
 (have F := an7 @yD @fl_Cell @ok_Cell @nr_Cell @lf_Cell @tk_mkCell @mkCell_len; (repeat' (first | refine' dA8 | ((with_reducible first | apply EvO.call (vs := ?_) | apply EvT.call (vs := ?_)); exact rfl; exact rfl; exact dE1; (with_reducible apply Cal.hd (ms := []) (p := ?_)); exact dE1) | ((with_reducible apply CalH.mk); intro hd; first | exact c67 hd) | fail)); all_goals clear F)
 apply Ev.loop (fun j e S' => ∃ i : Nat, e = mkE [(0, .ro 4 ((mkCell x m).map Cell.c)), (1, (.v (.int .i64 (x + 4 * (i : Int))))), (5, (.v (.int .i64 ((i : Int)))))] ∧ S' = S ∧ j = m - i ∧ (i ≤ m))
 ·exact ⟨0, (k68_2 _).trans dN3, (by first | rfl | (simp only [app_app, List.cons_append, List.nil_append]; done)), rfl, (by first | omega | rfl | (simp; done))⟩
 rintro j e S' ⟨i, rfl, rfl, hj, hi⟩
 by_cases hli : (i : Int) < (m : Int)
 ·have hlt : i < m := by omega
  have hg := mkCell_get x hlt
  (have F := an11 @yD @fl_Cell @ok_Cell @nr_Cell @lf_Cell @tk_mkCell @mkCell_len @hli @hg @mkCell_len @bne_self_eq_false.{0}; (repeat' (first | refine' dA8 | ((with_reducible first | apply EvO.call (vs := ?_) | apply EvT.call (vs := ?_)); exact rfl; exact rfl; exact dE1; (with_reducible apply Cal.hd (ms := []) (p := ?_)); exact dE1) | ((with_reducible apply CalH.mk); intro hd; first | exact c67 hd) | fail)); all_goals clear F)
  apply roundQ_m; refine ⟨_, ⟨i + 1, (k68_2 _).trans dN4, ?_, rfl, ?_⟩, ?_⟩
  ·first | exact lpG_same | exact lpG_grow rfl | (refine (congrArg (fun K => lpG K _ _ _) (show _ = some _ from rfl)).trans (lpG_cut rfl ?_); simp [lowV, okC, mkE_at]; done) | (refine (congrArg (fun K => lpG K _ _ _) (show _ = some _ from rfl)).trans (lpG_mod rfl rfl ?_ ?_) <;> simp [lowV, okC, mkE_at, rowsAll_cons, rowsAll_nil, yD, fl_Cell, ok_Cell, nr_Cell, lf_Cell, Cell.c, tk_mkCell, mkCell_len]; done) | (refine (lpG_len ?_).trans ?_; (focus (simp only [len_app, List.length_cons, List.length_nil, List.length_set]; done)); first | rfl | (simp (disch := first | (intros; contradiction) | (as_aux_lemma => omega) | (as_aux_lemma => (simp only [LEN2]; first | done | omega)) | (as_aux_lemma => (simp only [LEN]; try omega))) only [nx4, EV, TT, w, w0, fz, yD, fl_Cell, ok_Cell, nr_Cell, lf_Cell, Cell.c, tk_mkCell, mkCell_len, Nat.reduceEqDiff, Nat.reduceBeqDiff, Nat.reduceAdd, Nat.reduceMul, Nat.reduceLeDiff, Nat.reduceLT, reduceCtorEq, Int.reduceEq, Int.reduceNeg]; first | done | rfl)) | (refine (congrArg (fun K => lpG K _ _ _) (show _ = some _ from rfl)).trans (lpG_grow ?_); simp only [lowV, okC, EV, Nat.reduceEqDiff, Nat.reduceBeqDiff, Nat.reduceAdd, Nat.reduceMul, Nat.reduceLeDiff, Nat.reduceLT, reduceCtorEq, Int.reduceEq, Int.reduceNeg]; done)
  ·first | omega | rfl | assumption | (simp; done)
  ·omega
 ·obtain rfl : i = m := by omega
  (have F := an9 @yD @fl_Cell @ok_Cell @nr_Cell @lf_Cell @tk_mkCell @mkCell_len @hli @mkCell_len; (repeat' (first | refine' dA8 | ((with_reducible first | apply EvO.call (vs := ?_) | apply EvT.call (vs := ?_)); exact rfl; exact rfl; exact dE1; (with_reducible apply Cal.hd (ms := []) (p := ?_)); exact dE1) | ((with_reducible apply CalH.mk); intro hd; first | exact c67 hd) | fail)); all_goals clear F)
  exact ⟨rfl, rfl⟩
theorem yA : (((type_of% @fl_Cell) ∧ ((type_of% @ok_Cell) ∧ (type_of% @nr_Cell))) ∧ (((type_of% @lf_Cell) ∧ (type_of% @Cell.c.eq_1)) ∧ ((type_of% @tk_mkCell) ∧ (type_of% @mkCell_len)))) := ⟨⟨@fl_Cell, ⟨@ok_Cell, @nr_Cell⟩⟩, ⟨⟨@lf_Cell, @Cell.c.eq_1⟩, ⟨@tk_mkCell, @mkCell_len⟩⟩⟩
end Go.Proofs.YtdpaijnbikclgaaDoorB
