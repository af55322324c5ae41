/- Part of the evaluator's contracts: kept. -/
import Derived.Test.YtomklniddinhnaaFbase
namespace Go.Proofs.YtomklniddinhnaaB
open Go Go.Proofs.YtomklniddinhnaaE
set_option linter.unusedVariables false
set_option linter.unusedSectionVars false
set_option linter.unusedSimpArgs false
set_option maxHeartbeats 4000000
set_option maxRecDepth 20000
def Kept (S S' : Store) : Prop := S.length ≤ S'.length ∧ ∀ j, j < S.length → S'[j]? = S[j]?
theorem Kept.refl (S : Store) : Kept S S := ⟨Nat.le_refl _, fun _ _ => rfl⟩
theorem Kept.trans {S S' S'' : Store} (h : Kept S S') (h' : Kept S' S'') : Kept S S'' := ⟨Nat.le_trans h.1 h'.1, fun j hj => (h'.2 j (Nat.lt_of_lt_of_le hj h.1)).trans (h.2 j hj)⟩
theorem Kept.app (S T : Store) : Kept S (S ++ T) := ⟨by simp, fun j hj => List.getElem?_append_left hj⟩
theorem wr_of {S : Store} {md : Md} (w : ∀ k, md.wr (S.length + k) = true) {k : Nat} (h : S.length ≤ k) : md.wr k = true := by
 have := w (k - S.length); rwa [show S.length + (k - S.length) = k by omega] at this
theorem app_get {S : Store} {j : Nat} {o : Ob} (h : S[j]? = some o) (T : Store) : (S ++ T)[j]? = some o := by
 rw [List.getElem?_append_left (List.getElem?_eq_some_iff.1 h).1]; exact h
theorem Kept.get {S S' : Store} (k : Kept S S') {j : Nat} {o : Ob} (h : S[j]? = some o) : S'[j]? = some o := (k.2 _ (List.getElem?_eq_some_iff.1 h).1).trans h
def Bx (S : Store) (j : Nat) (o : Ob) : Prop := S[j]? = some o ∧ ∀ T, (S ++ T)[j]? = some o
theorem Kept.b {S S' : Store} (k : Kept S S') {j : Nat} {o : Ob} (h : S[j]? = some o) : Bx S' j o := ⟨k.get h, fun T => app_get (k.get h) T⟩
end Go.Proofs.YtomklniddinhnaaB
