/- Part of the evaluator's contracts: clu5. -/
import Derived.Test.YtdpaijnbikclgaaDoorFclu3
import Derived.Test.YtdpaijnbikclgaaDoorFclu1
import Derived.Test.YtdpaijnbikclgaaDoorFbase
import Derived.Test.YtdpaijnbikclgaaDoorFtrim
import Derived.Test.YtdpaijnbikclgaaDoorFplace
namespace Go.Proofs.YtdpaijnbikclgaaDoorB
open Go Go.Proofs.YtdpaijnbikclgaaDoorE
set_option linter.unusedVariables false
set_option linter.unusedSectionVars false
set_option linter.unusedSimpArgs false
set_option maxHeartbeats 4000000
set_option maxRecDepth 20000
theorem shp_bd2 {kk mm : Int} (h : shp kk mm = true) : 1 ≤ kk ∧ kk ≤ 8 ∧ 1 ≤ mm ∧ mm ≤ 6 := by
 have h1 := inB_t (Bool.and_eq_true_iff.1 h).1
 have h2 := inB_t (Bool.and_eq_true_iff.1 h).2
 exact ⟨h1.1, h1.2, h2.1, h2.2⟩
theorem cmpC_neg {a b : Cell} (h : lessC a b = true) : cmpC a b < 0 := by -- 59
 rcases Int.lt_or_le (cmpC a b) 0 with h1 | h1
 ·exact h1
 ·have := (cmpC_iff a b).1 h1; rw [h] at this; cases this
theorem cmpC_less {a b : Cell} (h : cmpC a b < 0) : lessC a b = true := by -- 59
 cases e : lessC a b with
 | true => rfl
 | false => have := (cmpC_iff a b).2 e; omega
theorem k11_4 (e : Env) : lpE (FI.K ⟨[], false, [(4, [1, 36, 37, 38]), (10, [1, 75, 76, 77]), (15, [1, 5, 6, 75, 76, 77, 87, 88, 89]), (1000, [1]), (1001, [1, 34]), (1002, [2]), (1003, [1, 36, 37, 38]), (1004, [1, 36, 37, 38, 39]), (1005, [1, 3, 4, 36, 37, 38]), (1006, [1, 36, 37, 38, 72]), (1007, [2]), (1008, [1, 36, 37, 38]), (1009, [1, 75, 76, 77]), (1010, [1, 75, 76, 77, 78]), (1011, [1, 5, 6, 75, 76, 77]), (1012, [1, 5, 6, 75, 76, 77, 85]), (1013, [2]), (1014, [1, 5, 6, 75, 76, 77, 87, 88, 89]), (1015, [1, 5, 6, 75, 76, 77, 87, 88, 89, 90]), (1016, [1, 5, 6, 7, 8, 75, 76, 77, 87, 88, 89]), (1017, [1, 5, 6, 7, 8, 10, 75, 76, 77, 87, 88, 89]), (1018, [1, 5, 6, 7, 8, 75, 76, 77, 87, 88, 89, 126]), (1019, [2]), (1020, [1, 5, 6, 75, 76, 77, 87, 88, 89, 151]), (1021, [2]), (1022, [1, 5, 6, 75, 76, 77, 87, 88, 89]), (1023, [1, 75, 76, 77]), (1024, [2])]⟩ 4) e = mkE [(1, e 1), (36, e 36), (37, e 37), (38, e 38)] := rfl
theorem k11_10 (e : Env) : lpE (FI.K ⟨[], false, [(4, [1, 36, 37, 38]), (10, [1, 75, 76, 77]), (15, [1, 5, 6, 75, 76, 77, 87, 88, 89]), (1000, [1]), (1001, [1, 34]), (1002, [2]), (1003, [1, 36, 37, 38]), (1004, [1, 36, 37, 38, 39]), (1005, [1, 3, 4, 36, 37, 38]), (1006, [1, 36, 37, 38, 72]), (1007, [2]), (1008, [1, 36, 37, 38]), (1009, [1, 75, 76, 77]), (1010, [1, 75, 76, 77, 78]), (1011, [1, 5, 6, 75, 76, 77]), (1012, [1, 5, 6, 75, 76, 77, 85]), (1013, [2]), (1014, [1, 5, 6, 75, 76, 77, 87, 88, 89]), (1015, [1, 5, 6, 75, 76, 77, 87, 88, 89, 90]), (1016, [1, 5, 6, 7, 8, 75, 76, 77, 87, 88, 89]), (1017, [1, 5, 6, 7, 8, 10, 75, 76, 77, 87, 88, 89]), (1018, [1, 5, 6, 7, 8, 75, 76, 77, 87, 88, 89, 126]), (1019, [2]), (1020, [1, 5, 6, 75, 76, 77, 87, 88, 89, 151]), (1021, [2]), (1022, [1, 5, 6, 75, 76, 77, 87, 88, 89]), (1023, [1, 75, 76, 77]), (1024, [2])]⟩ 10) e = mkE [(1, e 1), (75, e 75), (76, e 76), (77, e 77)] := rfl
theorem k11_15 (e : Env) : lpE (FI.K ⟨[], false, [(4, [1, 36, 37, 38]), (10, [1, 75, 76, 77]), (15, [1, 5, 6, 75, 76, 77, 87, 88, 89]), (1000, [1]), (1001, [1, 34]), (1002, [2]), (1003, [1, 36, 37, 38]), (1004, [1, 36, 37, 38, 39]), (1005, [1, 3, 4, 36, 37, 38]), (1006, [1, 36, 37, 38, 72]), (1007, [2]), (1008, [1, 36, 37, 38]), (1009, [1, 75, 76, 77]), (1010, [1, 75, 76, 77, 78]), (1011, [1, 5, 6, 75, 76, 77]), (1012, [1, 5, 6, 75, 76, 77, 85]), (1013, [2]), (1014, [1, 5, 6, 75, 76, 77, 87, 88, 89]), (1015, [1, 5, 6, 75, 76, 77, 87, 88, 89, 90]), (1016, [1, 5, 6, 7, 8, 75, 76, 77, 87, 88, 89]), (1017, [1, 5, 6, 7, 8, 10, 75, 76, 77, 87, 88, 89]), (1018, [1, 5, 6, 7, 8, 75, 76, 77, 87, 88, 89, 126]), (1019, [2]), (1020, [1, 5, 6, 75, 76, 77, 87, 88, 89, 151]), (1021, [2]), (1022, [1, 5, 6, 75, 76, 77, 87, 88, 89]), (1023, [1, 75, 76, 77]), (1024, [2])]⟩ 15) e = mkE [(1, e 1), (5, e 5), (6, e 6), (75, e 75), (76, e 76), (77, e 77), (87, e 87), (88, e 88), (89, e 89)] := rfl
theorem c11 {k : Nat} {md : Md} {S : Store} {vs : List A} {D : List Nat} {kk mm : Int} {l : List (List Cell)} {q : List Object} (hd : dpArgs S [] vs = some ([.ag [(.v (.int .i64 (kk))), (.v (.int .i64 (mm))), .ro 1 (l.map nodeC), .ro 2 (q.map Object.c)]], D)) (hl : l.length ≤ 1048576 := by first | assumption | omega | with_reducible rfl) (hq : q.length ≤ 1048576 := by first | assumption | omega | with_reducible rfl) (hcs : ∀ c ∈ l, c.length ≤ 1048576 := by first | assumption | omega | with_reducible rfl) (hns : ∀ c ∈ l, ∀ x ∈ c, x.name.size ≤ 1048576 := by first | assumption | omega | with_reducible rfl) (hqs : ∀ o ∈ q, o.name.size ≤ 9223372036854775807 := by first | assumption | omega | with_reducible rfl) (hk : 11 ≤ k := by omega) :
  Cal (run k) md 11 vs S (fun r S' => r = (.v (.bool (goodC kk mm l q))) ∧ S' = S) := by
 obtain ⟨k, rfl⟩ : ∃ j, k = j + 1 := ⟨k - 1, by omega⟩
 refine Cal.fn (n := 154) (rs := [.tmp 2]) (ids := []) (D := D) (Xof_none rfl) g11 (by delta Tryd.f11; exact rfl) (by delta Tryd.f11; exact rfl) (by delta Tryd.f11; exact rfl) hd rfl (by first | rfl | simp [idsV, idsC]) (by simp) (by simp) ?_
 intro md' ow; have w := ow.w; have w0 := ow.w0; have fz : md'.fz = false := ow.fz
 by_cases h1 : shp kk mm = true
 rotate_left
 ·have h1' : shp kk mm = false := by simpa using h1
  have hG := goodC_f (l := l) (q := q) (fun hG : GoodP kk mm l q => h1 hG.shape)
  (have F := an6 @yD @yF @yA @yB @yE @h1'; (repeat' (first | refine' dA53 | ((with_reducible first | apply EvO.call (vs := ?_) | apply EvT.call (vs := ?_)); exact rfl; exact rfl; exact dE8; (with_reducible apply Cal.hd (ms := []) (p := ?_)); exact dE8) | exact dC10 | fail)); all_goals clear F)
  all_goals (refine ⟨?_, rfl⟩; rw [resA, hG])
 have hbd := shp_bd2 h1
 by_cases h2 : inB (l.length : Int) (kk + mm) 12 = true
 rotate_left
 ·have h2' : inB (l.length : Int) (kk + mm) 12 = false := by simpa using h2
  have hG := goodC_f (l := l) (q := q) (fun hG : GoodP kk mm l q => h2 (inB_it.2 hG.nodes))
  (have F := an7 @yD @yF @yA @yB @yE @h1 @h2'; (repeat' (first | refine' dA53 | ((with_reducible first | apply EvO.call (vs := ?_) | apply EvT.call (vs := ?_)); exact rfl; exact rfl; exact dE8; (with_reducible apply Cal.hd (ms := []) (p := ?_)); exact dE8) | exact dC10 | fail)); all_goals clear F)
  all_goals (refine ⟨?_, rfl⟩; rw [resA, hG])
 have hnd := inB_t h2
 by_cases h3 : 8 < (q.length : Int)
 ·have hG := goodC_f (l := l) (q := q) (fun hG : GoodP kk mm l q => by have := hG.objs; omega)
  (have F := an8 @yD @yF @yA @yB @yE @h1 @h2 @h3; (repeat' (first | refine' dA53 | ((with_reducible first | apply EvO.call (vs := ?_) | apply EvT.call (vs := ?_)); exact rfl; exact rfl; exact dE8; (with_reducible apply Cal.hd (ms := []) (p := ?_)); exact dE8) | exact dC10 | fail)); all_goals clear F)
  all_goals first | (exfalso; omega) | (refine ⟨?_, rfl⟩; rw [resA, hG])
 (have F := an8 @yD @yF @yA @yB @yE @h1 @h2 @h3; (repeat' (first | refine' dA53 | ((with_reducible first | apply EvO.call (vs := ?_) | apply EvT.call (vs := ?_)); exact rfl; exact rfl; exact dE8; (with_reducible apply Cal.hd (ms := []) (p := ?_)); exact dE8) | exact dC10 | fail)); all_goals clear F)
 all_goals first | (exfalso; omega) | skip
 rename Store => S
 apply Ev.loop (fun j e S' => ∃ i : Nat, e = mkE [(1, .pt S.length 0 0 1), (36, .ro 2 (q.map Object.c)), (37, (.v (.int .i64 ((q.length : Int))))), (38, (.v (.int .i64 ((i : Int)))))] ∧ S' = S ++ [⟨4, [[(.v (.int .i64 (kk))), (.v (.int .i64 (mm))), .ro 1 (l.map nodeC), .ro 2 (q.map Object.c)]], 0, true⟩] ∧ j = q.length - i ∧ (i ≤ q.length) ∧ (∀ j (hj : j < q.length), j < i → ObP kk q j hj))
 ·exact ⟨0, (k11_4 _).trans dN18, (by first | rfl | (simp only [app_app, List.cons_append, List.nil_append]; done)), rfl, (by omega), (by (intro j hj hjj; omega))⟩
 rintro j e S' ⟨i, rfl, rfl, hj, hi, hp⟩
 by_cases hli : (i : Int) < (q.length : Int)
 ·have hlt : i < q.length := by omega
  have e0 : 0 < i → ((i : Int) - 1).toNat = i - 1 := by omega
  have hsz := hqs q[i] (by simp)
  by_cases hO : ObP kk q i hlt
  ·have b1 := hO.n
   have b2' := hO.s
   have b3 := hO.z
   have b2 : inB q[i].size 0 (min 60 (kk * 40)) = true := inB_it.2 ⟨hO.s.1, by omega⟩
   by_cases h0 : (0 : Int) < (i : Int)
   ·have e0 := e0 (by omega)
    have b4 : Op.bytesLess q[i - 1].name.toList q[i].name.toList = true := hO.o (by omega)
    (have F := an13 @yD @yF @yA @yB @yE @hli @b1 @b2 @h0 @e0 @le_lt @b4 @Bool.not_true; (repeat' (first | refine' dA53 | ((with_reducible first | apply EvO.call (vs := ?_) | apply EvT.call (vs := ?_)); exact rfl; exact rfl; exact dE8; (with_reducible apply Cal.hd (ms := []) (p := ?_)); exact dE8) | exact dC10 | fail)); all_goals clear F)
    all_goals first | (exfalso; omega) | skip
    all_goals
     apply roundQ_m; refine ⟨_, ⟨i + 1, (k11_4 _).trans dN18, ?_, rfl, ?_, ?_⟩, ?_⟩
     ·exact dS9
     ·omega
     ·(intro j hj hjj; by_cases e : j = i; (subst e; exact hO); exact hp j hj (by omega))
     ·omega
   ·(have F := an9 @yD @yF @yA @yB @yE @hli @b1 @b2 @h0; (repeat' (first | refine' dA53 | ((with_reducible first | apply EvO.call (vs := ?_) | apply EvT.call (vs := ?_)); exact rfl; exact rfl; exact dE8; (with_reducible apply Cal.hd (ms := []) (p := ?_)); exact dE8) | exact dC10 | fail)); all_goals clear F)
    all_goals first | (exfalso; omega) | skip
    all_goals
     apply roundQ_m; refine ⟨_, ⟨i + 1, (k11_4 _).trans dN18, ?_, rfl, ?_, ?_⟩, ?_⟩
     ·exact dS9
     ·omega
     ·(intro j hj hjj; by_cases e : j = i; (subst e; exact hO); exact hp j hj (by omega))
     ·omega
  ·have hG := goodC_f (l := l) (q := q) (fun hG : GoodP kk mm l q => hO (hG.ob i hlt))
   by_cases h0 : (0 : Int) < (i : Int)
   ·have e0 := e0 (by omega)
    (have F := an9 @yD @yF @yA @yB @yE @hli @h0 @e0 @le_lt; (repeat' (first | refine' dA53 | ((with_reducible first | apply EvO.call (vs := ?_) | apply EvT.call (vs := ?_)); exact rfl; exact rfl; exact dE8; (with_reducible apply Cal.hd (ms := []) (p := ?_)); exact dE8) | exact dC10 | fail)); all_goals clear F)
    any_goals (refine ⟨?_, rfl⟩; rw [resA, hG])
    all_goals (exfalso; exact hO ⟨by assumption, by omega, by omega, fun _ => by assumption⟩)
   ·(have F := an7 @yD @yF @yA @yB @yE @hli @h0; (repeat' (first | refine' dA53 | ((with_reducible first | apply EvO.call (vs := ?_) | apply EvT.call (vs := ?_)); exact rfl; exact rfl; exact dE8; (with_reducible apply Cal.hd (ms := []) (p := ?_)); exact dE8) | exact dC10 | fail)); all_goals clear F)
    any_goals (refine ⟨?_, rfl⟩; rw [resA, hG])
    all_goals (exfalso; exact hO ⟨by assumption, by omega, by omega, fun _ => by omega⟩)
 obtain rfl : i = q.length := by omega
 have hp' : ∀ j (hj : j < q.length), ObP kk q j hj := fun j hj => hp j hj hj
 have hsrt : srt q := fun a b hab hb => sorted hp' hab hb
 (have F := an6 @yD @yF @yA @yB @yE @hli; (repeat' (first | refine' dA53 | ((with_reducible first | apply EvO.call (vs := ?_) | apply EvT.call (vs := ?_)); exact rfl; exact rfl; exact dE8; (with_reducible apply Cal.hd (ms := []) (p := ?_)); exact dE8) | exact dC10 | fail)); all_goals clear F)
 apply Ev.loop (fun j e S' => ∃ a : Nat, e = mkE [(1, .pt S.length 0 0 1), (75, .ro 1 (l.map nodeC)), (76, (.v (.int .i64 ((l.length : Int))))), (77, (.v (.int .i64 ((a : Int)))))] ∧ S' = S ++ [⟨4, [[(.v (.int .i64 (kk))), (.v (.int .i64 (mm))), .ro 1 (l.map nodeC), .ro 2 (q.map Object.c)]], 0, true⟩] ∧ j = l.length - a ∧ (a ≤ l.length) ∧ (∀ b (hb : b < l.length), b < a → l[b].length ≤ 60 ∧ ∀ i (hi : i < l[b].length), CeP kk mm l.length q l[b] b i hi))
 ·exact ⟨0, (k11_10 _).trans dN18, (by first | rfl | (simp only [app_app, List.cons_append, List.nil_append]; done)), rfl, (by omega), (by (intro j hj hjj; omega))⟩
 rintro j e S' ⟨a, rfl, rfl, hj, ha, hf⟩
 by_cases hla : (a : Int) < (l.length : Int)
 rotate_left
 ·obtain rfl : a = l.length := by omega
  have hG := goodC_t (l := l) (q := q) ⟨h1, hnd, by omega, hp', fun b hb => (hf b hb hb).1, fun b hb => (hf b hb hb).2⟩
  (have F := an6 @yD @yF @yA @yB @yE @hla; (repeat' (first | refine' dA53 | ((with_reducible first | apply EvO.call (vs := ?_) | apply EvT.call (vs := ?_)); exact rfl; exact rfl; exact dE8; (with_reducible apply Cal.hd (ms := []) (p := ?_)); exact dE8) | exact dC10 | fail)); all_goals clear F)
  all_goals (refine ⟨?_, rfl⟩; rw [resA, hG])
 have hlt : a < l.length := by omega
 have hc1 := hcs l[a] (by simp)
 have hn1 := hns l[a] (by simp)
 by_cases h60 : 60 < (l[a].length : Int)
 ·have hG := goodC_f (l := l) (q := q) (fun hG : GoodP kk mm l q => by have := hG.few a hlt; omega)
  (have F := an7 @yD @yF @yA @yB @yE @hla @h60; (repeat' (first | refine' dA53 | ((with_reducible first | apply EvO.call (vs := ?_) | apply EvT.call (vs := ?_)); exact rfl; exact rfl; exact dE8; (with_reducible apply Cal.hd (ms := []) (p := ?_)); exact dE8) | exact dC10 | fail)); all_goals clear F)
  all_goals first | (exfalso; omega) | (refine ⟨?_, rfl⟩; rw [resA, hG])
 (have F := an7 @yD @yF @yA @yB @yE @hla @h60; (repeat' (first | refine' dA53 | ((with_reducible first | apply EvO.call (vs := ?_) | apply EvT.call (vs := ?_)); exact rfl; exact rfl; exact dE8; (with_reducible apply Cal.hd (ms := []) (p := ?_)); exact dE8) | exact dC10 | fail)); all_goals clear F)
 all_goals first | (exfalso; omega) | skip
 apply Ev.loop (fun j e S' => ∃ i : Nat, e = mkE [(1, .pt S.length 0 0 1), (5, (.v (.int .i64 ((a : Int))))), (6, .pt (S.length + 1) 0 0 1), (75, .ro 1 (l.map nodeC)), (76, (.v (.int .i64 ((l.length : Int))))), (77, (.v (.int .i64 ((a : Int))))), (87, .ro 4 (l[a].map Cell.c)), (88, (.v (.int .i64 ((l[a].length : Int))))), (89, (.v (.int .i64 ((i : Int)))))] ∧ S' = S ++ [⟨4, [[(.v (.int .i64 (kk))), (.v (.int .i64 (mm))), .ro 1 (l.map nodeC), .ro 2 (q.map Object.c)]], 0, true⟩, ⟨1, [[.ro 4 (l[a].map Cell.c)]], 0, true⟩] ∧ j = l[a].length - i ∧ (i ≤ l[a].length) ∧ (∀ j (hj : j < l[a].length), j < i → CeP kk mm l.length q l[a] a j hj))
 ·exact ⟨0, (k11_15 _).trans dN18, (by first | rfl | (simp only [app_app, List.cons_append, List.nil_append]; done)), rfl, (by omega), (by (intro j hj hjj; omega))⟩
 rintro j e S' ⟨i, rfl, rfl, hj, hi, hce⟩
 by_cases hli2 : (i : Int) < (l[a].length : Int)
 rotate_left
 ·obtain rfl : i = l[a].length := by omega
  (have F := an6 @yD @yF @yA @yB @yE @hli2; (repeat' (first | refine' dA53 | ((with_reducible first | apply EvO.call (vs := ?_) | apply EvT.call (vs := ?_)); exact rfl; exact rfl; exact dE8; (with_reducible apply Cal.hd (ms := []) (p := ?_)); exact dE8) | exact dC10 | fail)); all_goals clear F)
  all_goals first | (exfalso; omega) | skip
  all_goals
   apply roundQ_m; refine ⟨_, ⟨a + 1, (k11_10 _).trans dN18, ?_, rfl, ?_, ?_⟩, ?_⟩
   ·exact dS9
   ·omega
   ·(intro b hb hbb; by_cases e : b = a; (subst e; exact ⟨by omega, fun i hi => hce i hi hi⟩); exact hf b hb (by omega))
   ·omega
 have hlt2 : i < l[a].length := by omega
 have hnm := hn1 l[a][i] (by simp)
 have e0 : 0 < i → ((i : Int) - 1).toNat = i - 1 := by omega
 by_cases hC : CeP kk mm l.length q l[a] a i hlt2
 ·have b1 := hC.has
  have b2 := hC.no
  have b2' : inB l[a][i].no 0 (kk + mm - 1) = true := inB_it.2 b2
  have b3 := hC.pl
  have b4 := hC.dt
  have b5 : inB l[a][i].sum 0 65535 = true := inB_it.2 hC.sm
  by_cases h0 : (0 : Int) < (i : Int)
  ·have e0 := e0 (by omega)
   have b6 := cmpC_neg (hC.o (by omega))
   (have F := an12 @yD @yF @yA @yB @yE @hli2 @b1 @b2' @b3 @b5 @h0 @e0; (repeat' (first | refine' dA53 | ((with_reducible first | apply EvO.call (vs := ?_) | apply EvT.call (vs := ?_)); exact rfl; exact rfl; exact dE8; (with_reducible apply Cal.hd (ms := []) (p := ?_)); exact dE8) | exact dC10 | fail)); all_goals clear F)
   all_goals first | (exfalso; omega) | skip
   all_goals
    apply roundQ_m; refine ⟨_, ⟨i + 1, (k11_15 _).trans dN18, ?_, rfl, ?_, ?_⟩, ?_⟩
    ·exact dS9
    ·omega
    ·(intro j hj hjj; by_cases e : j = i; (subst e; exact hC); exact hce j hj (by omega))
    ·omega
  ·(have F := an11 @yD @yF @yA @yB @yE @hli2 @b1 @b2' @b3 @b5 @h0; (repeat' (first | refine' dA53 | ((with_reducible first | apply EvO.call (vs := ?_) | apply EvT.call (vs := ?_)); exact rfl; exact rfl; exact dE8; (with_reducible apply Cal.hd (ms := []) (p := ?_)); exact dE8) | exact dC10 | fail)); all_goals clear F)
   all_goals first | (exfalso; omega) | skip
   all_goals
    apply roundQ_m; refine ⟨_, ⟨i + 1, (k11_15 _).trans dN18, ?_, rfl, ?_, ?_⟩, ?_⟩
    ·exact dS9
    ·omega
    ·(intro j hj hjj; by_cases e : j = i; (subst e; exact hC); exact hce j hj (by omega))
    ·omega
 ·have hG := goodC_f (l := l) (q := q) (fun hG : GoodP kk mm l q => hC (hG.ce a hlt i hlt2))
  by_cases h0 : (0 : Int) < (i : Int)
  ·have e0 := e0 (by omega)
   (have F := an8 @yD @yF @yA @yB @yE @hli2 @h0 @e0; (repeat' (first | refine' dA53 | ((with_reducible first | apply EvO.call (vs := ?_) | apply EvT.call (vs := ?_)); exact rfl; exact rfl; exact dE8; (with_reducible apply Cal.hd (ms := []) (p := ?_)); exact dE8) | exact dC10 | fail)); all_goals clear F)
   any_goals (refine ⟨?_, rfl⟩; rw [resA, hG])
   all_goals (exfalso; exact hC ⟨by assumption, by omega, by omega, by omega, by omega, fun _ => cmpC_less (by omega)⟩)
  ·(have F := an7 @yD @yF @yA @yB @yE @hli2 @h0; (repeat' (first | refine' dA53 | ((with_reducible first | apply EvO.call (vs := ?_) | apply EvT.call (vs := ?_)); exact rfl; exact rfl; exact dE8; (with_reducible apply Cal.hd (ms := []) (p := ?_)); exact dE8) | exact dC10 | fail)); all_goals clear F)
   any_goals (refine ⟨?_, rfl⟩; rw [resA, hG])
   all_goals (exfalso; exact hC ⟨by assumption, by omega, by omega, by omega, by omega, fun _ => by omega⟩)
end Go.Proofs.YtdpaijnbikclgaaDoorB
