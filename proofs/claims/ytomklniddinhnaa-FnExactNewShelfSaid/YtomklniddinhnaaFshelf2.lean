/- Part of the evaluator's contracts: shelf2. -/
import Derived.Test.YtomklniddinhnaaFshelf1
import Derived.Test.YtomklniddinhnaaFcmp
namespace Go.Proofs.YtomklniddinhnaaB
open Go Go.Proofs.YtomklniddinhnaaE
set_option linter.unusedVariables false
set_option linter.unusedSectionVars false
set_option linter.unusedSimpArgs false
set_option maxHeartbeats 4000000
set_option maxRecDepth 20000
theorem c62 {k : Nat} {md : Md} {S : Store} {vs : List A} {D : List Nat} {a b c d : Int} {s t : ByteArray} (hd : dpArgs S [] vs = some ([.ag [(.v (.int .i64 (a))), (.v (.int .i64 (b))), (.v (.string (s)))], .ag [(.v (.int .i64 (c))), (.v (.int .i64 (d))), (.v (.string (t)))]], D))  (hk : 3 ≤ k := by omega) :
  Cal (run k) md 62 vs S (fun r S' => r = (.v (.int .i64 (orI (cmpI a c) (cmpI b d)))) ∧ S' = S) := by
 obtain ⟨k, rfl⟩ : ∃ j, k = j + 1 := ⟨k - 1, by omega⟩
 refine Cal.fn (n := 17) (rs := [.tmp 4]) (ids := []) (D := D) (Xof_none rfl) g62 (by delta Try.f62; exact rfl) (by delta Try.f62; exact rfl) (by delta Try.f62; exact rfl) hd rfl (by first | rfl | simp [idsV, idsC]) (by simp) (by simp) ?_
 intro md' ow; have w := ow.w; have w0 := ow.w0; have fz : md'.fz = false := ow.fz
 (have F := an3 @yD @yB @yA; (repeat' (first | refine' dA22 | ((with_reducible first | apply EvO.call (vs := ?_) | apply EvT.call (vs := ?_)); exact rfl; exact rfl; exact dE7; (with_reducible apply Cal.hd (ms := []) (p := ?_)); exact dE7) | ((with_reducible apply CalH.mk); intro hd; first | exact c88 hd | exact c87 hd) | fail)); all_goals clear F)
 exact ⟨rfl, rfl⟩
end Go.Proofs.YtomklniddinhnaaB
