/- Part of the evaluator's contracts: base. -/
import Derived.Test.YtomklniddinhnaaFL0
namespace Go.Proofs.YtomklniddinhnaaB
open Go Go.Proofs.YtomklniddinhnaaE
set_option linter.unusedVariables false
set_option linter.unusedSectionVars false
set_option linter.unusedSimpArgs false
set_option maxHeartbeats 4000000
set_option maxRecDepth 20000
def inB (n lo hi : Int) : Bool := decide (lo ≤ n) && decide (n ≤ hi)
theorem inB_t {n lo hi : Int} (h : inB n lo hi = true) : lo ≤ n ∧ n ≤ hi := by simpa [inB] using h
theorem inB_f {n lo hi : Int} (h : inB n lo hi = false) : n < lo ∨ hi < n := by simp [inB] at h; omega
theorem inB_it {n lo hi : Int} : (inB n lo hi = true) ↔ (lo ≤ n ∧ n ≤ hi) := ⟨inB_t, fun h => by simp [inB, h]⟩
theorem inB_if {n lo hi : Int} : (inB n lo hi = false) ↔ (n < lo ∨ hi < n) := ⟨inB_f, fun h => by simp [inB]; omega⟩
theorem c29 {k : Nat} {md : Md} {S : Store} {vs : List A} {D : List Nat} {n lo hi : Int} (hd : dpArgs S [] vs = some ([(.v (.int .i64 (n))), (.v (.int .i64 (lo))), (.v (.int .i64 (hi)))], D))  (hk : 1 ≤ k := by omega) :
  Cal (run k) md 29 vs S (fun r S' => r = (.v (.bool (inB n lo hi))) ∧ S' = S) := by
 obtain ⟨k, rfl⟩ : ∃ j, k = j + 1 := ⟨k - 1, by omega⟩
 refine Cal.fn (n := 15) (rs := [.tmp 6]) (ids := []) (D := D) (Xof_none rfl) g29 (by delta Try.f29; exact rfl) (by delta Try.f29; exact rfl) (by delta Try.f29; exact rfl) hd rfl (by first | rfl | simp [idsV, idsC]) (by simp) (by simp) ?_
 intro md' ow; have w := ow.w; have w0 := ow.w0; have fz : md'.fz = false := ow.fz
 (repeat' (first | refine' dA1 | fail))
 all_goals (refine ⟨?_, rfl⟩; simp only [resA, inB]; congr 2; simp [*]; try omega)
theorem c34 {k : Nat} {md : Md} {S : Store} {vs : List A} {D : List Nat} {n lo hi : Int} (hd : dpArgs S [] vs = some ([(.v (.int .i64 (n))), (.v (.int .i64 (lo))), (.v (.int .i64 (hi)))], D))  (hk : 1 ≤ k := by omega) :
  Cal (run k) md 34 vs S (fun r S' => r = (.v (.bool (inB n lo hi))) ∧ S' = S) := by
 obtain ⟨k, rfl⟩ : ∃ j, k = j + 1 := ⟨k - 1, by omega⟩
 refine Cal.fn (n := 15) (rs := [.tmp 6]) (ids := []) (D := D) (Xof_none rfl) g34 (by delta Try.f34; exact rfl) (by delta Try.f34; exact rfl) (by delta Try.f34; exact rfl) hd rfl (by first | rfl | simp [idsV, idsC]) (by simp) (by simp) ?_
 intro md' ow; have w := ow.w; have w0 := ow.w0; have fz : md'.fz = false := ow.fz
 (repeat' (first | refine' dA1 | fail))
 all_goals (refine ⟨?_, rfl⟩; simp only [resA, inB]; congr 2; simp [*]; try omega)
end Go.Proofs.YtomklniddinhnaaB
