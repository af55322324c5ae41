/- Part of the evaluator's contracts: shelfT. -/
import Derived.Test.YtomklniddinhnaaFbase
namespace Go.Proofs.YtomklniddinhnaaB
open Go Go.Proofs.YtomklniddinhnaaE
set_option linter.unusedVariables false
set_option linter.unusedSectionVars false
set_option linter.unusedSimpArgs false
set_option maxHeartbeats 4000000
set_option maxRecDepth 20000
theorem c44 {k : Nat} {md : Md} {S : Store} {vs : List A} {D : List Nat} {n : Int} (hd : dpArgs S [] vs = some ([(.v (.int .i64 (n)))], D))  (hk : 2 ≤ k := by omega) :
  Cal (run k) md 44 vs S (fun r S' => r = (.v (.bool (inB n 1 3))) ∧ S' = S) := by
 obtain ⟨k, rfl⟩ : ∃ j, k = j + 1 := ⟨k - 1, by omega⟩
 refine Cal.fn (n := 5) (rs := [.tmp 2]) (ids := []) (D := D) (Xof_none rfl) g44 (by delta Try.f44; exact rfl) (by delta Try.f44; exact rfl) (by delta Try.f44; exact rfl) hd rfl (by first | rfl | simp [idsV, idsC]) (by simp) (by simp) ?_
 intro md' ow; have w := ow.w; have w0 := ow.w0; have fz : md'.fz = false := ow.fz
 (repeat' (first | refine' dA17 | ((with_reducible apply EvO.call (vs := ?_)); exact rfl; exact rfl; exact dE6; (with_reducible apply Cal.hd (ms := []) (p := ?_)); exact dE6) | ((with_reducible apply CalH.mk); intro hd; first | exact c29 hd) | fail))
 exact ⟨rfl, rfl⟩
theorem c46 {k : Nat} {md : Md} {S : Store} {vs : List A} {D : List Nat} {n : Int} (hd : dpArgs S [] vs = some ([(.v (.int .i64 (n)))], D))  (hk : 2 ≤ k := by omega) :
  Cal (run k) md 46 vs S (fun r S' => r = (.v (.bool (inB n 1 3))) ∧ S' = S) := by
 obtain ⟨k, rfl⟩ : ∃ j, k = j + 1 := ⟨k - 1, by omega⟩
 refine Cal.fn (n := 5) (rs := [.tmp 2]) (ids := []) (D := D) (Xof_none rfl) g46 (by delta Try.f46; exact rfl) (by delta Try.f46; exact rfl) (by delta Try.f46; exact rfl) hd rfl (by first | rfl | simp [idsV, idsC]) (by simp) (by simp) ?_
 intro md' ow; have w := ow.w; have w0 := ow.w0; have fz : md'.fz = false := ow.fz
 (repeat' (first | refine' dA17 | ((with_reducible apply EvO.call (vs := ?_)); exact rfl; exact rfl; exact dE6; (with_reducible apply Cal.hd (ms := []) (p := ?_)); exact dE6) | ((with_reducible apply CalH.mk); intro hd; first | exact c34 hd) | fail))
 exact ⟨rfl, rfl⟩
def many (t : Int) : Int := if t = 1 then 3 else if t = 2 then 5 else 4
def few (t : Int) : Int := if t = 1 then 1 else if t = 2 then 3 else 2
def long (t s : Int) : Int := if t = 2 then (s + 2) / 3 else s
def longW (t s : Int) : Int := if t = 2 then IntKind.i64.wrap ((IntKind.i64.wrap (s + 2)).tdiv 3) else s
end Go.Proofs.YtomklniddinhnaaB
