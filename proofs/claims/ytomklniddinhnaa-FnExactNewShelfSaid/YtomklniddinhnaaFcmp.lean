/- Part of the evaluator's contracts: cmp. -/
import Derived.Test.YtomklniddinhnaaFbase
namespace Go.Proofs.YtomklniddinhnaaB
open Go Go.Proofs.YtomklniddinhnaaE
set_option linter.unusedVariables false
set_option linter.unusedSectionVars false
set_option linter.unusedSimpArgs false
set_option maxHeartbeats 4000000
set_option maxRecDepth 20000
theorem c114 {k : Nat} {md : Md} {S : Store} {vs : List A} {D : List Nat} {a : Int} (hd : dpArgs S [] vs = some ([(.v (.int .i64 (a)))], D))  (hk : 1 ≤ k := by omega) :
  Cal (run k) md 114 vs S (fun r S' => r = (.v (.bool (false))) ∧ S' = S) := by
 obtain ⟨k, rfl⟩ : ∃ j, k = j + 1 := ⟨k - 1, by omega⟩
 refine Cal.fn (n := 6) (rs := [.tmp 2]) (ids := []) (D := D) (Xof_none rfl) g114 (by delta Try.f114; exact rfl) (by delta Try.f114; exact rfl) (by delta Try.f114; exact rfl) hd rfl (by first | rfl | simp [idsV, idsC]) (by simp) (by simp) ?_
 intro md' ow; have w := ow.w; have w0 := ow.w0; have fz : md'.fz = false := ow.fz
 (have F := @bne_self_eq_false.{0}; (repeat' (first | refine' dA18 | fail)); all_goals clear F)
 exact ⟨rfl, rfl⟩
def cmpI (a b : Int) : Int := if a < b then -1 else if b < a then 1 else 0
theorem c88 {k : Nat} {md : Md} {S : Store} {vs : List A} {D : List Nat} {a b : Int} (hd : dpArgs S [] vs = some ([(.v (.int .i64 (a))), (.v (.int .i64 (b)))], D))  (hk : 2 ≤ k := by omega) :
  Cal (run k) md 88 vs S (fun r S' => r = (.v (.int .i64 (cmpI a b))) ∧ S' = S) := by
 obtain ⟨k, rfl⟩ : ∃ j, k = j + 1 := ⟨k - 1, by omega⟩
 refine Cal.fn (n := 20) (rs := [.tmp 4]) (ids := []) (D := D) (Xof_none rfl) g88 (by delta Try.f88; exact rfl) (by delta Try.f88; exact rfl) (by delta Try.f88; exact rfl) hd rfl (by first | rfl | simp [idsV, idsC]) (by simp) (by simp) ?_
 intro md' ow; have w := ow.w; have w0 := ow.w0; have fz : md'.fz = false := ow.fz
 (repeat' (first | refine' dA19 | ((with_reducible apply EvO.call (vs := ?_)); exact rfl; exact rfl; exact dE6; (with_reducible apply Cal.hd (ms := []) (p := ?_)); exact dE6) | ((with_reducible apply CalH.mk); intro hd; first | exact c114 hd) | fail))
 all_goals (refine ⟨?_, rfl⟩; rw [resA, cmpI])
 all_goals (first | (rw [if_pos (by omega)]) | (rw [if_neg (by omega), if_pos (by omega)]) | (rw [if_neg (by omega), if_neg (by omega)]))
def orI (a b : Int) : Int := if a = 0 then b else a
theorem k87_3 (e : Env) : lpE (FI.K ⟨[], false, [(3, [3, 6, 7, 8]), (1000, [0]), (1001, [0, 3]), (1002, [3, 6, 7, 8]), (1003, [3, 6, 7, 8, 9]), (1004, [3, 5, 6, 7, 8]), (1005, [3, 5, 6, 7, 8, 14]), (1006, [2]), (1007, [3, 6, 7, 8]), (1008, [2])]⟩ 3) e = mkE [(3, e 3), (6, e 6), (7, e 7), (8, e 8)] := rfl
theorem c87 {k : Nat} {md : Md} {S : Store} {vs : List A} {D : List Nat} {a b : Int} (hd : dpArgs S [] vs = some ([.ro 1 [[(.v (.int .i64 (a)))], [(.v (.int .i64 (b)))]]], D))  (hk : 1 ≤ k := by omega) :
  Cal (run k) md 87 vs S (fun r S' => r = (.v (.int .i64 (orI a b))) ∧ S' = S) := by
 obtain ⟨k, rfl⟩ : ∃ j, k = j + 1 := ⟨k - 1, by omega⟩
 refine Cal.fn (n := 18) (rs := [.tmp 2]) (ids := []) (D := D) (Xof_none rfl) g87 (by delta Try.f87; exact rfl) (by delta Try.f87; exact rfl) (by delta Try.f87; exact rfl) hd rfl (by first | rfl | simp [idsV, idsC]) (by simp) (by simp) ?_
 intro md' ow; have w := ow.w; have w0 := ow.w0; have fz : md'.fz = false := ow.fz
 (repeat' (first | refine' dA20 | fail))
 apply Ev.loop (fun j e S' => ∃ i : Nat, e = mkE [(3, (.v (.int .i64 (0)))), (6, .ro 1 [[(.v (.int .i64 (a)))], [(.v (.int .i64 (b)))]]), (7, (.v (.int .i64 (2)))), (8, (.v (.int .i64 ((i : Int)))))] ∧ S' = S ∧ j = 2 - i ∧ (i ≤ 2) ∧ (1 ≤ i → a = 0) ∧ (2 ≤ i → b = 0))
 ·exact ⟨0, (k87_3 _).trans dN8, (by first | rfl | (simp only [app_app, List.cons_append, List.nil_append]; done)), rfl, (by first | omega | rfl | (simp; done)), (by first | omega | rfl | (simp; done)), (by first | omega | rfl | (simp; done))⟩
 rintro j e S' ⟨i, rfl, rfl, hj, hi, ha, hb⟩
 rcases (by omega : i = 0 ∨ i = 1 ∨ i = 2) with rfl | rfl | rfl
 ·(have F := @bne_self_eq_false.{0}; (repeat' (first | refine' dA21 | fail)); all_goals clear F)
  ·exact ⟨by rw [resA, orI, if_neg (by assumption)], rfl⟩
  ·apply roundQ_m; refine ⟨_, ⟨1, (k87_3 _).trans dN8, ?_, rfl, ?_, ?_, ?_⟩, ?_⟩
   ·exact dS1
   ·first | omega | rfl | assumption | (simp; done)
   ·first | omega | rfl | assumption | (simp; done)
   ·first | omega | rfl | assumption | (simp; done)
   ·omega
 ·have ha0 : a = 0 := ha (by omega)
  (have F := @bne_self_eq_false.{0}; (repeat' (first | refine' dA21 | fail)); all_goals clear F)
  ·exact ⟨by rw [resA, orI, if_pos ha0], rfl⟩
  ·apply roundQ_m; refine ⟨_, ⟨2, (k87_3 _).trans dN8, ?_, rfl, ?_, ?_, ?_⟩, ?_⟩
   ·exact dS1
   ·first | omega | rfl | assumption | (simp; done)
   ·first | omega | rfl | assumption | (simp; done)
   ·first | omega | rfl | assumption | (simp; done)
   ·omega
 ·have ha0 : a = 0 := ha (by omega)
  have hb0 : b = 0 := hb (by omega)
  (repeat' (first | refine' dA20 | fail))
  exact ⟨by rw [resA, orI, if_pos ha0, hb0], rfl⟩
end Go.Proofs.YtomklniddinhnaaB
