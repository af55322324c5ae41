/- Part of the evaluator's contracts: node0. -/
import Derived.Test.YtdpaijnbikclgaaDoorFelCell
import Derived.Test.YtdpaijnbikclgaaDoorFelObject
namespace Go.Proofs.YtdpaijnbikclgaaDoorB
open Go Go.Proofs.YtdpaijnbikclgaaDoorE
set_option linter.unusedVariables false
set_option linter.unusedSectionVars false
set_option linter.unusedSimpArgs false
set_option maxHeartbeats 4000000
set_option maxRecDepth 20000
def nodeC (l : List Cell) : List A := [.ro 4 (l.map Cell.c)]
theorem fl_node (l : List (List Cell)) : flatRowsB (List.map nodeC l) = true := flat_map nodeC (fun _ => rfl) l
theorem ok_node (m : Nat) (l : List (List Cell)) : rowsAll (okC m) (List.map nodeC l) = true := rowsAll_map (okC m) nodeC (fun _ => rfl) l
theorem lf_node (l : List (List Cell)) : leafRows (List.map nodeC l) = true := leaf_map nodeC (fun _ => rfl) l
theorem c52 {k : Nat} {md : Md} {S : Store} {vs : List A} {D : List Nat} {c : List Cell} {left : Int} (hd : dpArgs S [] vs = some ([.ag [.ro 4 (c.map Cell.c)], (.v (.int .i64 (left)))], D)) (hl : 0 ≤ left ∧ left ≤ 1048576 := by first | assumption | omega | with_reducible rfl) (hn : c.length ≤ 9223372036854775807 := by first | assumption | omega | with_reducible rfl) (hs : ∀ x ∈ c, x.name.size ≤ 140737488351232 ∧ x.data.size ≤ 140737488351232 := by first | assumption | omega | with_reducible rfl) (hk : 3 ≤ k := by omega) :
  Cal (run k) md 52 vs S (fun r S' => ∃ n, r = .v (.int .i64 n) ∧ S' = S ∧ (n < 0 ∨ 0 ≤ n ∧ n = left - (c.length : Int) - (szCell c : Int))) := by
 obtain ⟨k, rfl⟩ : ∃ j, k = j + 1 := ⟨k - 1, by omega⟩
 refine Cal.fn (n := 12) (rs := [.tmp 4]) (ids := []) (D := D) (Xof_none rfl) g52 (by delta Tryd.f52; exact rfl) (by delta Tryd.f52; exact rfl) (by delta Tryd.f52; exact rfl) hd rfl (by first | rfl | simp [idsV, idsC]) (by simp) (by simp) ?_
 intro md' ow; have w := ow.w; have w0 := ow.w0; have fz : md'.fz = false := ow.fz
 (have F := an6 @yD @yA @yB @fl_node @ok_node @lf_node; (repeat' (first | refine' dA19 | ((with_reducible apply EvO.call (vs := ?_)); exact rfl; exact rfl; exact dE7; (with_reducible apply Cal.hd (ms := []) (p := ?_)); exact dE7) | ((with_reducible apply CalH.mk); intro hd; first | exact c75 hd) | fail)); all_goals clear F)
 all_goals refine ⟨_, rfl, rfl, ?_⟩
 all_goals omega
def szN (l : List (List Cell)) : Nat := (l.map fun c => c.length + szCell c).sum
theorem szN_s (l : List (List Cell)) {i : Nat} (h : i < l.length) : szN (l.take (i + 1)) = szN (l.take i) + (l[i].length + szCell l[i]) := by unfold szN; rw [List.take_add_one, List.map_append, List.sum_append, List.getElem?_eq_getElem h]; rfl
theorem mem_le_sum : ∀ {l : List Nat} {x : Nat}, x ∈ l → x ≤ l.sum
 | [], x, h => by simp at h
 | a :: l, x, h => by
  rw [List.sum_cons]
  rcases List.mem_cons.1 h with h | h
  ·omega
  ·have := mem_le_sum h; omega
theorem szN_le {l : List (List Cell)} {b : Nat} (h : szN l ≤ b) : ∀ c ∈ l, c.length ≤ b := fun c hc => by
 have : c.length + szCell c ≤ szN l := mem_le_sum (List.mem_map.2 ⟨c, hc, rfl⟩)
 omega
theorem k23_5 (e : Env) : lpE (FI.K ⟨[], false, [(5, [0, 1, 5]), (1000, [0, 1]), (1001, [0, 1]), (1002, [0, 1, 11]), (1003, [4]), (1004, [0, 1, 5]), (1005, [0, 1, 5, 15]), (1006, [0, 1, 5]), (1007, [0, 1, 5]), (1008, [0, 1, 5, 25]), (1009, [4]), (1010, [4])]⟩ 5) e = mkE [(0, e 0), (1, e 1), (5, e 5)] := rfl
theorem c23 {k : Nat} {md : Md} {S : Store} {vs : List A} {D : List Nat} {l : List (List Cell)} {left : Int} (hd : dpArgs S [] vs = some ([.ro 1 (l.map nodeC), (.v (.int .i64 (left)))], D)) (hl : 0 ≤ left ∧ left ≤ 1048576 := by first | assumption | omega | with_reducible rfl) (hn : l.length ≤ 9223372036854775807 := by first | assumption | omega | with_reducible rfl) (hs : ∀ c ∈ l, c.length ≤ 9223372036854775807 ∧ ∀ x ∈ c, x.name.size ≤ 140737488351232 ∧ x.data.size ≤ 140737488351232 := by first | assumption | omega | with_reducible rfl) (hk : 4 ≤ k := by omega) :
  Cal (run k) md 23 vs S (fun r S' => ∃ n, r = .v (.int .i64 n) ∧ S' = S ∧ (n < 0 ∨ 0 ≤ n ∧ n = left - (l.length : Int) - (szN l : Int))) := by
 obtain ⟨k, rfl⟩ : ∃ j, k = j + 1 := ⟨k - 1, by omega⟩
 refine Cal.fn (n := 27) (rs := [.tmp 4]) (ids := []) (D := D) (Xof_none rfl) g23 (by delta Tryd.f23; exact rfl) (by delta Tryd.f23; exact rfl) (by delta Tryd.f23; exact rfl) hd rfl (by first | rfl | simp [idsV, idsC]) (by simp) (by simp) ?_
 intro md' ow; have w := ow.w; have w0 := ow.w0; have fz : md'.fz = false := ow.fz
 (have F := an6 @yD @yA @yB @fl_node @ok_node @lf_node; (repeat' (first | refine' dA20 | ((with_reducible apply EvO.call (vs := ?_)); exact rfl; exact rfl; exact dE7; (with_reducible apply Cal.hd (ms := []) (p := ?_)); exact dE7) | ((with_reducible apply CalH.mk); intro hd; first | exact c52 hd) | fail)); all_goals clear F)
 ·exact ⟨_, rfl, rfl, .inl (by decide)⟩
 apply Ev.loop (fun j e S' => ∃ i : Nat, ∃ y : Int, e = mkE [(0, .ro 1 (l.map nodeC)), (1, (.v (.int .i64 (y)))), (5, (.v (.int .i64 ((i : Int)))))] ∧ S' = S ∧ j = l.length - i ∧ (i ≤ l.length) ∧ (0 ≤ y ∧ y = left - (l.length : Int) - (szN (l.take i) : Int)))
 ·exact ⟨0, left - (l.length : Int), (k23_5 _).trans dN8, (by first | rfl | (simp only [app_app, List.cons_append, List.nil_append]; done)), rfl, (by omega), (by simp [szN]; omega)⟩
 rintro j e S' ⟨i, y, rfl, rfl, hj, hi, hy⟩
 by_cases hli : (i : Int) < (l.length : Int)
 ·have hlt : i < l.length := by omega
  have hz := hs l[i] (by simp)
  have hz1 := hz.1
  have hz2 := hz.2
  have ht := szN_s l hlt
  (have F := an7 @yD @yA @yB @fl_node @ok_node @lf_node @hli; (repeat' (first | refine' dA20 | ((with_reducible apply EvO.call (vs := ?_)); exact rfl; exact rfl; exact dE7; (with_reducible apply Cal.hd (ms := []) (p := ?_)); exact dE7) | ((with_reducible apply CalH.mk); intro hd; first | exact c52 hd) | fail)); all_goals clear F)
  ·exact ⟨_, rfl, rfl, .inl (by decide)⟩
  ·apply roundQ_m; refine ⟨_, ⟨i + 1, _, (k23_5 _).trans dN8, ?_, rfl, ?_, ?_⟩, ?_⟩
   ·exact dS3
   ·first | omega | rfl | assumption | (simp; done)
   ·first | omega | rfl | assumption | (simp; done)
   ·omega
 ·obtain rfl : i = l.length := by omega
  rw [List.take_length] at hy
  (have F := an7 @yD @yA @yB @fl_node @ok_node @lf_node @hli; (repeat' (first | refine' dA20 | ((with_reducible apply EvO.call (vs := ?_)); exact rfl; exact rfl; exact dE7; (with_reducible apply Cal.hd (ms := []) (p := ?_)); exact dE7) | ((with_reducible apply CalH.mk); intro hd; first | exact c52 hd) | fail)); all_goals clear F)
  exact ⟨_, rfl, rfl, .inr hy⟩
theorem c62 {k : Nat} {md : Md} {S : Store} {vs : List A} {D : List Nat} {c c' : List Cell} (hd : dpArgs S [] vs = some ([.ag [.ro 4 (c.map Cell.c)], .ag [.ro 4 (c'.map Cell.c)]], D)) (he : c = c' := by first | assumption | omega | with_reducible rfl) (hn : c.length ≤ 1048576 := by first | assumption | omega | with_reducible rfl) (hk : 3 ≤ k := by omega) :
  Cal (run k) md 62 vs S (fun r S' => r = (.v (.bool (true))) ∧ S' = S) := by
 obtain ⟨k, rfl⟩ : ∃ j, k = j + 1 := ⟨k - 1, by omega⟩
 refine Cal.fn (n := 11) (rs := [.tmp 4]) (ids := []) (D := D) (Xof_none rfl) g62 (by delta Tryd.f62; exact rfl) (by delta Tryd.f62; exact rfl) (by delta Tryd.f62; exact rfl) hd rfl (by first | rfl | simp [idsV, idsC]) (by simp) (by simp) ?_
 intro md' ow; have w := ow.w; have w0 := ow.w0; have fz : md'.fz = false := ow.fz
 subst he
 (have F := an8 @yD @yA @yB @fl_node @ok_node @lf_node @bne_self_eq_false.{0} @beq_self_eq_true.{0}; (repeat' (first | refine' dA21 | ((with_reducible apply EvO.call (vs := ?_)); exact rfl; exact rfl; exact dE7; (with_reducible apply Cal.hd (ms := []) (p := ?_)); exact dE7) | ((with_reducible apply CalH.mk); intro hd; first | exact c86 hd | exact c86_nn hd) | fail)); all_goals clear F)
 exact ⟨rfl, rfl⟩
theorem k39_4 (e : Env) : lpE (FI.K ⟨[], false, [(4, [0, 1, 5]), (1000, [0, 1]), (1001, [0, 1, 10]), (1002, [4]), (1003, [0, 1, 5]), (1004, [0, 1, 5, 14]), (1005, [0, 1, 5]), (1006, [0, 1, 5, 26]), (1007, [4]), (1008, [4])]⟩ 4) e = mkE [(0, e 0), (1, e 1), (5, e 5)] := rfl
theorem c39 {k : Nat} {md : Md} {S : Store} {vs : List A} {D : List Nat} {l l' : List (List Cell)} (hd : dpArgs S [] vs = some ([.ro 1 (l.map nodeC), .ro 1 (l'.map nodeC)], D)) (he : l = l' := by first | assumption | omega | with_reducible rfl) (hn : l.length ≤ 1048576 := by first | assumption | omega | with_reducible rfl) (hcs : ∀ c ∈ l, c.length ≤ 1048576 := by first | assumption | omega | with_reducible rfl) (hk : 4 ≤ k := by omega) :
  Cal (run k) md 39 vs S (fun r S' => r = (.v (.bool (true))) ∧ S' = S) := by
 obtain ⟨k, rfl⟩ : ∃ j, k = j + 1 := ⟨k - 1, by omega⟩
 refine Cal.fn (n := 27) (rs := [.tmp 4]) (ids := []) (D := D) (Xof_none rfl) g39 (by delta Tryd.f39; exact rfl) (by delta Tryd.f39; exact rfl) (by delta Tryd.f39; exact rfl) hd rfl (by first | rfl | simp [idsV, idsC]) (by simp) (by simp) ?_
 intro md' ow; have w := ow.w; have w0 := ow.w0; have fz : md'.fz = false := ow.fz
 subst he
 (have F := an7 @yD @yA @yB @fl_node @ok_node @lf_node @bne_self_eq_false.{0}; (repeat' (first | refine' dA22 | ((with_reducible first | apply EvO.call (vs := ?_) | apply EvT.call (vs := ?_)); exact rfl; exact rfl; exact dE7; (with_reducible apply Cal.hd (ms := []) (p := ?_)); exact dE7) | ((with_reducible apply CalH.mk); intro hd; first | exact c62 hd) | fail)); all_goals clear F)
 apply Ev.loop (fun j e S' => ∃ i : Nat, e = mkE [(0, .ro 1 (l.map nodeC)), (1, .ro 1 (l.map nodeC)), (5, (.v (.int .i64 ((i : Int)))))] ∧ S' = S ∧ j = l.length - i ∧ (i ≤ l.length))
 ·exact ⟨0, (k39_4 _).trans dN8, (by first | rfl | (simp only [app_app, List.cons_append, List.nil_append]; done)), rfl, (by first | omega | rfl | (simp; done))⟩
 rintro j e S' ⟨i, rfl, rfl, hj, hi⟩
 by_cases hli : (i : Int) < (l.length : Int)
 ·have hlt : i < l.length := by omega
  have hz := hcs l[i] (by simp)
  (have F := an9 @yD @yA @yB @fl_node @ok_node @lf_node @hli @bne_self_eq_false.{0} @beq_self_eq_true.{0}; (repeat' (first | refine' dA22 | ((with_reducible first | apply EvO.call (vs := ?_) | apply EvT.call (vs := ?_)); exact rfl; exact rfl; exact dE7; (with_reducible apply Cal.hd (ms := []) (p := ?_)); exact dE7) | ((with_reducible apply CalH.mk); intro hd; first | exact c62 hd) | fail)); all_goals clear F)
  apply roundQ_m; refine ⟨_, ⟨i + 1, (k39_4 _).trans dN8, ?_, rfl, ?_⟩, ?_⟩
  ·exact dS3
  ·first | omega | rfl | assumption | (simp; done)
  ·omega
 ·obtain rfl : i = l.length := by omega
  (have F := an7 @yD @yA @yB @fl_node @ok_node @lf_node @hli; (repeat' (first | refine' dA22 | ((with_reducible first | apply EvO.call (vs := ?_) | apply EvT.call (vs := ?_)); exact rfl; exact rfl; exact dE7; (with_reducible apply Cal.hd (ms := []) (p := ?_)); exact dE7) | ((with_reducible apply CalH.mk); intro hd; first | exact c62 hd) | fail)); all_goals clear F)
  exact ⟨rfl, rfl⟩
def cluA (kk mm : Int) (l : List (List Cell)) (q : List Object) : A := .ag [(.v (.int .i64 (kk))), (.v (.int .i64 (mm))), .ro 1 (l.map nodeC), .ro 2 (q.map Object.c)]
theorem c8 {k : Nat} {md : Md} {S : Store} {vs : List A} {D : List Nat} {kk mm : Int} {l : List (List Cell)} {q : List Object} {left : Int} (hd : dpArgs S [] vs = some ([.ag [(.v (.int .i64 (kk))), (.v (.int .i64 (mm))), .ro 1 (l.map nodeC), .ro 2 (q.map Object.c)], (.v (.int .i64 (left)))], D)) (hl : 0 ≤ left ∧ left ≤ 1048576 := by first | assumption | omega | with_reducible rfl) (hn : l.length ≤ 9223372036854775807 := by first | assumption | omega | with_reducible rfl) (hs : ∀ c ∈ l, c.length ≤ 9223372036854775807 ∧ ∀ x ∈ c, x.name.size ≤ 140737488351232 ∧ x.data.size ≤ 140737488351232 := by first | assumption | omega | with_reducible rfl) (hq : q.length ≤ 9223372036854775807 := by first | assumption | omega | with_reducible rfl) (hqs : ∀ x ∈ q, x.name.size ≤ 140737488351232 := by first | assumption | omega | with_reducible rfl) (hk : 5 ≤ k := by omega) :
  Cal (run k) md 8 vs S (fun r S' => ∃ n, r = .v (.int .i64 n) ∧ S' = S ∧ (n < 0 ∨ 0 ≤ n ∧ n = left - (l.length : Int) - (szN l : Int) - (q.length : Int) - (szObject q : Int))) := by
 obtain ⟨k, rfl⟩ : ∃ j, k = j + 1 := ⟨k - 1, by omega⟩
 refine Cal.fn (n := 18) (rs := [.tmp 4]) (ids := []) (D := D) (Xof_none rfl) g8 (by delta Tryd.f8; exact rfl) (by delta Tryd.f8; exact rfl) (by delta Tryd.f8; exact rfl) hd rfl (by first | rfl | simp [idsV, idsC]) (by simp) (by simp) ?_
 intro md' ow; have w := ow.w; have w0 := ow.w0; have fz : md'.fz = false := ow.fz
 (have F := an6 @yD @yA @yB @fl_node @ok_node @lf_node; (repeat' (first | refine' dA19 | ((with_reducible apply EvO.call (vs := ?_)); exact rfl; exact rfl; exact dE7; (with_reducible apply Cal.hd (ms := []) (p := ?_)); exact dE7) | ((with_reducible apply CalH.mk); intro hd; first | exact c23 hd | exact c24 hd) | fail)); all_goals clear F)
 all_goals refine ⟨_, rfl, rfl, ?_⟩
 all_goals omega
theorem c12 {k : Nat} {md : Md} {S : Store} {vs : List A} {D : List Nat} {kk mm : Int} {l l' : List (List Cell)} {q q' : List Object} (hd : dpArgs S [] vs = some ([.ag [(.v (.int .i64 (kk))), (.v (.int .i64 (mm))), .ro 1 (l.map nodeC), .ro 2 (q.map Object.c)], .ag [(.v (.int .i64 (kk))), (.v (.int .i64 (mm))), .ro 1 (l'.map nodeC), .ro 2 (q'.map Object.c)]], D)) (he : l = l' := by first | assumption | omega | with_reducible rfl) (hf : q = q' := by first | assumption | omega | with_reducible rfl) (hn : l.length ≤ 1048576 := by first | assumption | omega | with_reducible rfl) (hcs : ∀ c ∈ l, c.length ≤ 1048576 := by first | assumption | omega | with_reducible rfl) (hq : q.length ≤ 1048576 := by first | assumption | omega | with_reducible rfl) (hk : 5 ≤ k := by omega) :
  Cal (run k) md 12 vs S (fun r S' => r = (.v (.bool (true))) ∧ S' = S) := by
 obtain ⟨k, rfl⟩ : ∃ j, k = j + 1 := ⟨k - 1, by omega⟩
 refine Cal.fn (n := 27) (rs := [.tmp 4]) (ids := []) (D := D) (Xof_none rfl) g12 (by delta Tryd.f12; exact rfl) (by delta Tryd.f12; exact rfl) (by delta Tryd.f12; exact rfl) hd rfl (by first | rfl | simp [idsV, idsC]) (by simp) (by simp) ?_
 intro md' ow; have w := ow.w; have w0 := ow.w0; have fz : md'.fz = false := ow.fz
 subst he; subst hf
 (have F := an8 @yD @yA @yB @fl_node @ok_node @lf_node @bne_self_eq_false.{0} @beq_self_eq_true.{0}; (repeat' (first | refine' dA21 | ((with_reducible apply EvO.call (vs := ?_)); exact rfl; exact rfl; exact dE7; (with_reducible apply Cal.hd (ms := []) (p := ?_)); exact dE7) | ((with_reducible apply CalH.mk); intro hd; first | exact c39 hd | exact c40 hd | exact c40_nn hd) | fail)); all_goals clear F)
 exact ⟨rfl, rfl⟩
theorem yE : (((type_of% @fl_node) ∧ (type_of% @ok_node)) ∧ ((type_of% @lf_node) ∧ (type_of% @nodeC.eq_1))) := ⟨⟨@fl_node, @ok_node⟩, ⟨@lf_node, @nodeC.eq_1⟩⟩
end Go.Proofs.YtdpaijnbikclgaaDoorB
