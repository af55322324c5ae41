/- Part of the evaluator's contracts: poly. -/
import Derived.Test.YtomklniddinhnaaFgf2
import Derived.Test.YtomklniddinhnaaFmatN
import Derived.Test.YtomklniddinhnaaFgf
import Derived.Test.YtomklniddinhnaaFbase
namespace Go.Proofs.YtomklniddinhnaaB
open Go Go.Proofs.YtomklniddinhnaaE
set_option linter.unusedVariables false
set_option linter.unusedSectionVars false
set_option linter.unusedSimpArgs false
set_option maxHeartbeats 4000000
set_option maxRecDepth 20000
def hor (x : Nat) : List Nat → Nat
 | [] => 0
 | c :: l => tm (hor x l) x ^^^ c
theorem hor_lt (x : Nat) : ∀ l : List Nat, (∀ c ∈ l, c < 256) → hor x l < 256
 | [], _ => by simp [hor]
 | c :: l, h => xor_lt8 (tm_lt _ (hor_lt x l fun c hc => h c (List.mem_cons_of_mem _ hc))) (h c (List.mem_cons_self ..))
theorem hor_at (x : Nat) (l : List Nat) {i : Nat} (h : i < l.length) : hor x (l.drop i) = tm (hor x (l.drop (i + 1))) x ^^^ l[i] := by rw [List.drop_eq_getElem_cons h]; rfl
theorem hor_dlt (x : Nat) {l : List Nat} (h : ∀ c ∈ l, c < 256) (i : Nat) : hor x (l.drop i) < 256 := hor_lt x _ fun c hc => h c (List.mem_of_mem_drop hc)
def horI (x : Nat) (l : List Nat) : Nat → Nat
 | 0 => 0
 | j + 1 => tm (horI x l j) x ^^^ l.getD (l.length - 1 - j) 0
theorem horI_eq (x : Nat) (l : List Nat) : ∀ j, j ≤ l.length → horI x l j = hor x (l.drop (l.length - j))
 | 0, _ => by rw [Nat.sub_zero, List.drop_length]; rfl
 | j + 1, h => by
  have hi : l.length - 1 - j < l.length := by omega
  rw [horI, horI_eq x l j (by omega), show l.length - (j + 1) = l.length - 1 - j by omega, hor_at x l hi, show l.length - 1 - j + 1 = l.length - j by omega]
  congr 1
  simp [hi]
theorem horI_all (x : Nat) (l : List Nat) : horI x l l.length = hor x l := by rw [horI_eq x l _ (Nat.le_refl _), Nat.sub_self]; rfl
theorem horI_lt (x : Nat) {l : List Nat} (h : ∀ c ∈ l, c < 256) {j : Nat} (hj : j ≤ l.length) : horI x l j < 256 := by rw [horI_eq x l j hj]; exact hor_dlt x h _
def shC (p : Nat × Nat) : List A := [(.v (.int .u8 ((p.1 : Int)))), (.v (.int .u8 ((p.2 : Int))))]
theorem fl_sh (l : List (Nat × Nat)) : flatRowsB (l.map shC) = true := flat_map shC (fun _ => rfl) l
theorem ok_sh (m : Nat) (l : List (Nat × Nat)) : rowsAll (okC m) (l.map shC) = true := rowsAll_map (okC m) shC (fun _ => rfl) l
theorem nr_sh (l : List (Nat × Nat)) : rowsAll noRoC (l.map shC) = true := rowsAll_map noRoC shC (fun _ => rfl) l
theorem lf_sh (l : List (Nat × Nat)) : leafRows (l.map shC) = true := leaf_map shC (fun _ => rfl) l
def shL (p : List Nat) (n : Nat) : List (Nat × Nat) := (List.range n).map fun k => (k + 1, hor (k + 1) p)
theorem shL_len (p : List Nat) (n : Nat) : (shL p n).length = n := by simp [shL]
theorem shL_tk (p : List Nat) (n : Nat) : List.take n ((shL p n).map shC) = (shL p n).map shC := List.take_of_length_le (by simp [shL])
theorem shL_s (p : List Nat) (n : Nat) : (shL p (n + 1)).map shC = (shL p n).map shC ++ [[(.v (.int .u8 (((n + 1 : Nat) : Int)))), (.v (.int .u8 ((hor (n + 1) p : Int))))]] := by simp [shL, List.range_succ, shC]
theorem k93_3 (e : Env) : lpE (FI.K ⟨[], false, [(3, [0, 1, 5, 6]), (1000, [0, 1]), (1001, [0, 1, 5]), (1002, [0, 1, 5, 6]), (1003, [0, 1, 5, 6, 11]), (1004, [0, 1, 5, 6]), (1005, [0, 1, 5, 6]), (1006, [4])]⟩ 3) e = mkE [(0, e 0), (1, e 1), (5, e 5), (6, e 6)] := rfl
theorem c93 {k : Nat} {md : Md} {S : Store} {vs : List A} {D : List Nat} {l : List Nat} {x : Nat} (hd : dpArgs S [] vs = some ([.ro 1 (l.map bC), (.v (.int .u8 ((x : Int))))], D)) (hx : x < 256 := by first | assumption | omega | with_reducible rfl) (hl : ∀ c ∈ l, c < 256 := by first | assumption | omega | with_reducible rfl) (hn : l.length ≤ 1048576 := by first | assumption | omega | with_reducible rfl) (hk : 2 ≤ k := by omega) :
  Cal (run k) md 93 vs S (fun r S' => r = (.v (.int .u8 ((hor x l : Int)))) ∧ S' = S) := by
 obtain ⟨k, rfl⟩ : ∃ j, k = j + 1 := ⟨k - 1, by omega⟩
 refine Cal.fn (n := 23) (rs := [.tmp 4]) (ids := []) (D := D) (Xof_none rfl) g93 (by delta Try.f93; exact rfl) (by delta Try.f93; exact rfl) (by delta Try.f93; exact rfl) hd rfl (by first | rfl | simp [idsV, idsC]) (by simp) (by simp) ?_
 intro md' ow; have w := ow.w; have w0 := ow.w0; have fz : md'.fz = false := ow.fz
 (have F := an6 @yD @yE @fl_sh @ok_sh @nr_sh @lf_sh; (repeat' (first | refine' dA31 | ((with_reducible first | apply EvO.call (vs := ?_) | apply EvT.call (vs := ?_)); exact rfl; exact rfl; exact dE7; (with_reducible apply Cal.hd (ms := []) (p := ?_)); exact dE7) | ((with_reducible apply CalH.mk); intro hd; first | exact c90 hd) | fail)); all_goals clear F)
 apply Ev.loop (fun j e S' => ∃ i : Nat, e = mkE [(0, .ro 1 (l.map bC)), (1, (.v (.int .u8 ((x : Int))))), (5, (.v (.int .u8 ((horI x l i : Int))))), (6, (.v (.int .i64 (((l.length - i : Nat) : Int) - 1))))] ∧ S' = S ∧ j = l.length - i ∧ (i ≤ l.length))
 ·exact ⟨0, (k93_3 _).trans dN11, (by first | rfl | (simp only [app_app, List.cons_append, List.nil_append]; done)), rfl, (by omega)⟩
 rintro j e S' ⟨i, rfl, rfl, hj, hj1⟩
 have hb := horI_lt x hl hj1
 by_cases hli : (0 : Int) ≤ ((l.length - i : Nat) : Int) - 1
 ·have hlt : l.length - 1 - i < l.length := by omega
  have e1 : (((l.length - i : Nat) : Int) - 1).toNat = l.length - 1 - i := by omega
  have e2 : (l.map bC)[l.length - 1 - i]? = some [(.v (.int .u8 ((l[l.length - 1 - i] : Int))))] := by rw [List.getElem?_map, List.getElem?_eq_getElem hlt]; rfl
  have e5 : ((l.length - i : Nat) : Int) - 1 - 1 = ((l.length - (i + 1) : Nat) : Int) - 1 := by omega
  have e3 := xor8 (tm (horI x l i) x) l[l.length - 1 - i] (tm_lt _ hb) (hl _ (by simp))
  have e4 : horI x l (i + 1) = tm (horI x l i) x ^^^ l[l.length - 1 - i] := by rw [horI]; congr 1; simp [hlt]
  (have F := an11 @yD @yE @fl_sh @ok_sh @nr_sh @lf_sh @hli @e1 @e2 @e3 @e5; (repeat' (first | refine' dA31 | ((with_reducible first | apply EvO.call (vs := ?_) | apply EvT.call (vs := ?_)); exact rfl; exact rfl; exact dE7; (with_reducible apply Cal.hd (ms := []) (p := ?_)); exact dE7) | ((with_reducible apply CalH.mk); intro hd; first | exact c90 (k := k) hd (a := horI x l i) (b := x)) | fail)); all_goals clear F)
  apply roundQ_m; refine ⟨_, ⟨i + 1, (k93_3 _).trans dN12, ?_, rfl, ?_⟩, ?_⟩
  ·exact dS4
  ·omega
  ·omega
 ·obtain rfl : i = l.length := by omega
  (have F := an7 @yD @yE @fl_sh @ok_sh @nr_sh @lf_sh @hli; (repeat' (first | refine' dA31 | ((with_reducible first | apply EvO.call (vs := ?_) | apply EvT.call (vs := ?_)); exact rfl; exact rfl; exact dE7; (with_reducible apply Cal.hd (ms := []) (p := ?_)); exact dE7) | ((with_reducible apply CalH.mk); intro hd; first | exact c90 hd) | fail)); all_goals clear F)
  exact ⟨by rw [horI_all]; rfl, rfl⟩
theorem k99_3 (e : Env) : lpE (FI.K ⟨[], false, [(3, [0, 1, 5, 6]), (1000, [0, 1]), (1001, [0, 1, 5]), (1002, [0, 1, 5, 6]), (1003, [0, 1, 5, 6, 11]), (1004, [0, 1, 5, 6]), (1005, [0, 1, 5, 6]), (1006, [4])]⟩ 3) e = mkE [(0, e 0), (1, e 1), (5, e 5), (6, e 6)] := rfl
theorem c99 {k : Nat} {md : Md} {S : Store} {vs : List A} {D : List Nat} {l : List Nat} {x : Nat} (hd : dpArgs S [] vs = some ([.ro 1 (l.map bC), (.v (.int .u8 ((x : Int))))], D)) (hx : x < 256 := by first | assumption | omega | with_reducible rfl) (hl : ∀ c ∈ l, c < 256 := by first | assumption | omega | with_reducible rfl) (hn : l.length ≤ 1048576 := by first | assumption | omega | with_reducible rfl) (hk : 2 ≤ k := by omega) :
  Cal (run k) md 99 vs S (fun r S' => r = (.v (.int .u8 ((hor x l : Int)))) ∧ S' = S) := by
 obtain ⟨k, rfl⟩ : ∃ j, k = j + 1 := ⟨k - 1, by omega⟩
 refine Cal.fn (n := 23) (rs := [.tmp 4]) (ids := []) (D := D) (Xof_none rfl) g99 (by delta Try.f99; exact rfl) (by delta Try.f99; exact rfl) (by delta Try.f99; exact rfl) hd rfl (by first | rfl | simp [idsV, idsC]) (by simp) (by simp) ?_
 intro md' ow; have w := ow.w; have w0 := ow.w0; have fz : md'.fz = false := ow.fz
 (have F := an6 @yD @yE @fl_sh @ok_sh @nr_sh @lf_sh; (repeat' (first | refine' dA31 | ((with_reducible first | apply EvO.call (vs := ?_) | apply EvT.call (vs := ?_)); exact rfl; exact rfl; exact dE7; (with_reducible apply Cal.hd (ms := []) (p := ?_)); exact dE7) | ((with_reducible apply CalH.mk); intro hd; first | exact c112 hd) | fail)); all_goals clear F)
 apply Ev.loop (fun j e S' => ∃ i : Nat, e = mkE [(0, .ro 1 (l.map bC)), (1, (.v (.int .u8 ((x : Int))))), (5, (.v (.int .u8 ((horI x l i : Int))))), (6, (.v (.int .i64 (((l.length - i : Nat) : Int) - 1))))] ∧ S' = S ∧ j = l.length - i ∧ (i ≤ l.length))
 ·exact ⟨0, (k99_3 _).trans dN11, (by first | rfl | (simp only [app_app, List.cons_append, List.nil_append]; done)), rfl, (by omega)⟩
 rintro j e S' ⟨i, rfl, rfl, hj, hj1⟩
 have hb := horI_lt x hl hj1
 by_cases hli : (0 : Int) ≤ ((l.length - i : Nat) : Int) - 1
 ·have hlt : l.length - 1 - i < l.length := by omega
  have e1 : (((l.length - i : Nat) : Int) - 1).toNat = l.length - 1 - i := by omega
  have e2 : (l.map bC)[l.length - 1 - i]? = some [(.v (.int .u8 ((l[l.length - 1 - i] : Int))))] := by rw [List.getElem?_map, List.getElem?_eq_getElem hlt]; rfl
  have e5 : ((l.length - i : Nat) : Int) - 1 - 1 = ((l.length - (i + 1) : Nat) : Int) - 1 := by omega
  have e3 := xor8 (tm (horI x l i) x) l[l.length - 1 - i] (tm_lt _ hb) (hl _ (by simp))
  have e4 : horI x l (i + 1) = tm (horI x l i) x ^^^ l[l.length - 1 - i] := by rw [horI]; congr 1; simp [hlt]
  (have F := an11 @yD @yE @fl_sh @ok_sh @nr_sh @lf_sh @hli @e1 @e2 @e3 @e5; (repeat' (first | refine' dA31 | ((with_reducible first | apply EvO.call (vs := ?_) | apply EvT.call (vs := ?_)); exact rfl; exact rfl; exact dE7; (with_reducible apply Cal.hd (ms := []) (p := ?_)); exact dE7) | ((with_reducible apply CalH.mk); intro hd; first | exact c112 (k := k) hd (a := horI x l i) (b := x)) | fail)); all_goals clear F)
  apply roundQ_m; refine ⟨_, ⟨i + 1, (k99_3 _).trans dN12, ?_, rfl, ?_⟩, ?_⟩
  ·exact dS4
  ·omega
  ·omega
 ·obtain rfl : i = l.length := by omega
  (have F := an7 @yD @yE @fl_sh @ok_sh @nr_sh @lf_sh @hli; (repeat' (first | refine' dA31 | ((with_reducible first | apply EvO.call (vs := ?_) | apply EvT.call (vs := ?_)); exact rfl; exact rfl; exact dE7; (with_reducible apply Cal.hd (ms := []) (p := ?_)); exact dE7) | ((with_reducible apply CalH.mk); intro hd; first | exact c112 hd) | fail)); all_goals clear F)
  exact ⟨by rw [horI_all]; rfl, rfl⟩
theorem k71_6 (e : Env) : lpE (FI.K ⟨[], false, [(6, [2, 8, 9, 10]), (1000, [0, 1, 2]), (1001, [0, 1, 2, 18]), (1002, [6, 7]), (1003, [2, 8]), (1004, [2, 8, 9]), (1005, [2, 8, 9, 10]), (1006, [2, 8, 9, 10, 25]), (1007, [2, 8, 9, 10]), (1008, [2, 8, 9, 10]), (1009, [6, 7])]⟩ 6) e = mkE [(2, e 2), (8, e 8), (9, e 9), (10, e 10)] := rfl
theorem c71 {k : Nat} {md : Md} {S : Store} {vs : List A} {D : List Nat} {s : Nat} {rn : List Nat} {n : Nat} (hd : dpArgs S [] vs = some ([(.v (.int .u8 ((s : Int)))), .ro 1 (rn.map bC), (.v (.int .i64 ((n : Int))))], D)) (hs : s < 256 := by first | assumption | omega | with_reducible rfl) (hr : ∀ c ∈ rn, c < 256 := by first | assumption | omega | with_reducible rfl) (hrl : rn.length ≤ 8 := by first | assumption | omega | with_reducible rfl) (hn : 1 ≤ n ∧ n ≤ 20 := by first | assumption | omega | with_reducible rfl) (hk : 3 ≤ k := by omega) :
  Cal (run k) md 71 vs S (fun r S' => r = .tu [.sl S.length 0 n n, (.v (.bool (true)))] ∧ S' = S ++ [⟨2, (shL (s :: rn) n).map shC, 0, false⟩]) := by
 obtain ⟨k, rfl⟩ : ∃ j, k = j + 1 := ⟨k - 1, by omega⟩
 refine Cal.fn (n := 39) (rs := [.tmp 6, .tmp 7]) (ids := []) (D := D) (Xof_none rfl) g71 (by delta Try.f71; exact rfl) (by delta Try.f71; exact rfl) (by delta Try.f71; exact rfl) hd rfl (by first | rfl | simp [idsV, idsC]) (by simp) (by simp) ?_
 intro md' ow; have w := ow.w; have w0 := ow.w0; have fz : md'.fz = false := ow.fz
 have hin : inB (n : Int) 1 20 = true := by simp [inB]; omega
 have hl2 : ¬ (8 : Int) < (rn.length : Int) := by omega
 have hp : ∀ c ∈ s :: rn, c < 256 := fun c hc => by rcases List.mem_cons.1 hc with h | h; (rw [h]; exact hs); (exact hr c h)
 have hpm : [(.v (.int .u8 ((s : Int))))] :: rn.map bC = (s :: rn).map bC := rfl
 have hpl : 1 + rn.length = (s :: rn).length := by simp; omega
 (have F := an8 @yD @yE @fl_sh @ok_sh @nr_sh @lf_sh @hin @hl2; (repeat' (first | refine' dA32 | ((with_reducible apply EvO.call (vs := ?_)); exact rfl; exact rfl; exact dE7; (with_reducible apply Cal.hd (ms := []) (p := ?_)); exact dE7) | ((with_reducible apply CalH.mk); intro hd; first | exact c29 hd | exact c93 hd) | fail)); all_goals clear F)
 rw [hpm, hpl]
 generalize hpp : s :: rn = p at *
 apply Ev.loop (fun j e S' => ∃ i : Nat, e = mkE [(2, (.v (.int .i64 ((n : Int))))), (8, .sl (S.length + 1) 0 p.length p.length), (9, .sl (S.length + 2) 0 i i), (10, (.v (.int .i64 (((i + 1 : Nat) : Int)))))] ∧ S' = S ++ [⟨2, [], 0, false⟩, ⟨1, p.map bC, 0, false⟩, ⟨2, (shL p i).map shC, 0, false⟩] ∧ j = n - i ∧ (i ≤ n))
 ·exact ⟨0, (k71_6 _).trans dN11, (by first | rfl | (simp only [app_app, List.cons_append, List.nil_append]; done)), rfl, (by omega)⟩
 rintro j e S' ⟨i, rfl, rfl, hj, hi⟩
 have hsl := shL_len p i
 have hss := shL_s p i
 have hpn : p.length ≤ 9 := by rw [← hpp]; simp; omega
 by_cases hli : ((i + 1 : Nat) : Int) ≤ (n : Int)
 ·have hb := hor_lt (i + 1) p hp
  (have F := an9 @yD @yE @fl_sh @ok_sh @nr_sh @lf_sh @hli @hsl (Eq.symm hss); (repeat' (first | refine' dA32 | ((with_reducible apply EvO.call (vs := ?_)); exact rfl; exact rfl; exact dE7; (with_reducible apply Cal.hd (ms := []) (p := ?_)); exact dE7) | ((with_reducible apply CalH.mk); intro hd; first | exact c29 hd | exact c93 hd) | fail)); all_goals clear F)
  apply roundQ_m; refine ⟨_, ⟨i + 1, (k71_6 _).trans dN11, ?_, rfl, ?_⟩, ?_⟩
  ·exact dS5
  ·first | omega | rfl | assumption | (simp; done)
  ·omega
 ·obtain rfl : i = n := by omega
  have htk := shL_tk p i
  (have F := an8 @yD @yE @fl_sh @ok_sh @nr_sh @lf_sh @hli @hsl; (repeat' (first | refine' dA33 | ((with_reducible apply EvO.call (vs := ?_)); exact rfl; exact rfl; exact dE10; (with_reducible apply Cal.hd (ms := []) (p := ?_)); exact dE10) | ((with_reducible apply CalH.mk); intro hd; first | exact c29 hd | exact c93 hd) | fail)); all_goals clear F)
  exact ⟨rfl, rfl⟩
theorem k75_6 (e : Env) : lpE (FI.K ⟨[], false, [(6, [8, 9, 25, 26]), (1000, [0, 1, 2]), (1001, [0, 1, 2, 19]), (1002, [6, 7]), (1003, [2, 8]), (1004, [2, 8, 9]), (1005, [8, 9, 25, 26]), (1006, [8, 9, 25, 26, 27]), (1007, [8, 9, 10, 25, 26]), (1008, [8, 9, 11, 25, 26]), (1009, [8, 9, 25, 26]), (1010, [8, 9, 25, 26]), (1011, [6, 7])]⟩ 6) e = mkE [(8, e 8), (9, e 9), (25, e 25), (26, e 26)] := rfl
theorem c75 {k : Nat} {md : Md} {S : Store} {vs : List A} {D : List Nat} {s : Nat} {rn : List Nat} {n : Nat} (hd : dpArgs S [] vs = some ([(.v (.int .u8 ((s : Int)))), .ro 1 (rn.map bC), (.v (.int .i64 ((n : Int))))], D)) (hs : s < 256 := by first | assumption | omega | with_reducible rfl) (hr : ∀ c ∈ rn, c < 256 := by first | assumption | omega | with_reducible rfl) (hrl : rn.length ≤ 8 := by first | assumption | omega | with_reducible rfl) (hn : 1 ≤ n ∧ n ≤ 20 := by first | assumption | omega | with_reducible rfl) (hk : 3 ≤ k := by omega) :
  Cal (run k) md 75 vs S (fun r S' => r = .tu [.sl S.length 0 n n, (.v (.bool (true)))] ∧ S' = S ++ [⟨2, (shL (s :: rn) n).map shC, 0, false⟩]) := by
 obtain ⟨k, rfl⟩ : ∃ j, k = j + 1 := ⟨k - 1, by omega⟩
 refine Cal.fn (n := 42) (rs := [.tmp 6, .tmp 7]) (ids := []) (D := D) (Xof_none rfl) g75 (by delta Try.f75; exact rfl) (by delta Try.f75; exact rfl) (by delta Try.f75; exact rfl) hd rfl (by first | rfl | simp [idsV, idsC]) (by simp) (by simp) ?_
 intro md' ow; have w := ow.w; have w0 := ow.w0; have fz : md'.fz = false := ow.fz
 have hin : inB (n : Int) 1 20 = true := by simp [inB]; omega
 have hl2 : ¬ (8 : Int) < (rn.length : Int) := by omega
 have hp : ∀ c ∈ s :: rn, c < 256 := fun c hc => by rcases List.mem_cons.1 hc with h | h; (rw [h]; exact hs); (exact hr c h)
 have hpm : [(.v (.int .u8 ((s : Int))))] :: rn.map bC = (s :: rn).map bC := rfl
 have hpl : 1 + rn.length = (s :: rn).length := by simp; omega
 (have F := an8 @yD @yE @fl_sh @ok_sh @nr_sh @lf_sh @hin @hl2; (repeat' (first | refine' dA32 | ((with_reducible apply EvO.call (vs := ?_)); exact rfl; exact rfl; exact dE7; (with_reducible apply Cal.hd (ms := []) (p := ?_)); exact dE7) | ((with_reducible apply CalH.mk); intro hd; first | exact c34 hd | exact c99 hd) | fail)); all_goals clear F)
 rw [hpm, hpl]
 generalize hpp : s :: rn = p at *
 apply Ev.loop (fun j e S' => ∃ i : Nat, e = mkE [(8, .sl (S.length + 1) 0 p.length p.length), (9, .sl (S.length + 2) 0 i i), (25, (.v (.int .i64 ((n : Int))))), (26, (.v (.int .i64 ((i : Int)))))] ∧ S' = S ++ [⟨2, [], 0, false⟩, ⟨1, p.map bC, 0, false⟩, ⟨2, (shL p i).map shC, 0, false⟩] ∧ j = n - i ∧ (i ≤ n))
 ·exact ⟨0, (k75_6 _).trans dN11, (by first | rfl | (simp only [app_app, List.cons_append, List.nil_append]; done)), rfl, (by omega)⟩
 rintro j e S' ⟨i, rfl, rfl, hj, hi⟩
 have hsl := shL_len p i
 have hss := shL_s p i
 have hpn : p.length ≤ 9 := by rw [← hpp]; simp; omega
 by_cases hli : (i : Int) < (n : Int)
 ·have hb := hor_lt (i + 1) p hp
  have hc1 : (i : Int) + 1 = ((i + 1 : Nat) : Int) := by omega
  (have F := an10 @yD @yE @fl_sh @ok_sh @nr_sh @lf_sh @hli @hsl (Eq.symm hss) @hc1; (repeat' (first | refine' dA32 | ((with_reducible apply EvO.call (vs := ?_)); exact rfl; exact rfl; exact dE7; (with_reducible apply Cal.hd (ms := []) (p := ?_)); exact dE7) | ((with_reducible apply CalH.mk); intro hd; first | exact c34 hd | exact c99 hd) | fail)); all_goals clear F)
  apply roundQ_m; refine ⟨_, ⟨i + 1, (k75_6 _).trans dN11, ?_, rfl, ?_⟩, ?_⟩
  ·exact dS5
  ·first | omega | rfl | assumption | (simp; done)
  ·omega
 ·obtain rfl : i = n := by omega
  have htk := shL_tk p i
  (have F := an8 @yD @yE @fl_sh @ok_sh @nr_sh @lf_sh @hli @hsl; (repeat' (first | refine' dA33 | ((with_reducible apply EvO.call (vs := ?_)); exact rfl; exact rfl; exact dE10; (with_reducible apply Cal.hd (ms := []) (p := ?_)); exact dE10) | ((with_reducible apply CalH.mk); intro hd; first | exact c34 hd | exact c99 hd) | fail)); all_goals clear F)
  exact ⟨rfl, rfl⟩
theorem yF : (((type_of% @fl_sh) ∧ (type_of% @ok_sh)) ∧ ((type_of% @nr_sh) ∧ (type_of% @lf_sh))) := ⟨⟨@fl_sh, @ok_sh⟩, ⟨@nr_sh, @lf_sh⟩⟩
end Go.Proofs.YtomklniddinhnaaB
