/- Part of the proof: an evaluator (YtomklniddinhnaaERow). -/
import Derived.Below
import Derived.Deep.Slices
import Derived.Lib.SmallJoins
import Derived.ChangeArms
import Derived.SizedLaws
import Derived.Test.YtomklniddinhnaaEWp
set_option linter.unusedVariables false
set_option linter.unusedSimpArgs false
set_option linter.unusedSectionVars false
namespace Go.Proofs.YtomklniddinhnaaE
open Go Go.RowKit
theorem bridge {P : Program} (hM : P.follows .mixedOrders = true) {fi : Nat → FI} {X : Cl} (hX : CallOk P X) {k g : Nat} {as : List A} {w : World} {vals : Array Value} (h : Cal (evF (tiOf P) regA (FsP P fi) X k) ⟨fun _ => true, 0, false⟩ g as [] fun r S' => r = .v (.bool true)) (hl : as.length = vals.size)
  (hr : ∀ j, j < as.length → Rel [] (fun _ => none) (fun b => b < w.heap.size) w.heap (as.getD j .dead) (vals.getD j undef)) : Calls P g vals w fun e w' => e = .returned (.bool true) ∧ Below w.heap.size w w' := by
 obtain ⟨r, S', h1, rfl⟩ := h
 have ok := evF_ok (TOk_ti P) (FsP_ok P fi) (fun C hC => regA_ok (TOk_ti P) hM hC) hX k
 obtain ⟨_, hc⟩ := ok _ _ _ _ _ _ h1
 have s : Sim ⟨fun _ => True, 0, w.heap.size⟩ [] (fun _ => none) (fun b => b < w.heap.size) (fun b => b < w.heap.size) w.heap :=
  ⟨fun id o ho => by simp at ho, fun id id' o o' ad ad' ho => by simp at ho, fun b hb => hb, fun b hb => hb, fun id o ad _ ho => by simp at ho, Nat.le_refl _⟩
 refine Calls.mono (hc _ _ _ _ w vals s ⟨fun _ _ => trivial, rfl⟩ hl hr) ?_
 rintro e w' ⟨x, rfl, σ', I', F', _, E, rx, e1, e2, e3⟩
 have := relv rx
 subst this
 exact ⟨rfl, e1, e2, e3, E.size, fun b hb => (E.imm b hb).2⟩
def OpensA {α : Type} (P : Program) (t : TypeId) (sz : Nat) (row : α → List A) (Fit : α → Prop) : Prop :=
 ∀ (H : Type) (enc : TypeId × Value → H) (w : World) (spare : Nat → Bool) (n : Nat) (cs : List Value) (x : DataW H × List MemPlace),
  DataW.trod enc P w 0 spare true n t cs = some x → (∀ m ∈ x.1.weights P t, m ≤ reachBytes) → ∃ v, (row v).length = sz ∧ cs.length = sz ∧
   (∀ j, j < sz → flatC ((row v).getD j .dead) = true ∧ Rel [] (fun _ => none) (fun b => b < w.heap.size) w.heap ((row v).getD j .dead) (cs.getD j undef)) ∧ Fit v
def FieldsA {α : Type} (P : Program) (sz : Nat) (row : α → List A) (Fit : α → Prop) (fs : List Field) (off : Nat) : Prop :=
 ∀ (H : Type) (enc : TypeId × Value → H) (w : World) (spare : Nat → Bool) (n : Nat) (cs : List Value) (xs : List (DataW H × List MemPlace)), cs.length = off + sz → xs.length = fs.length →
  (∀ (i : Nat) (f : Field), fs[i]? = some f → DataW.trod enc P w 0 spare true n f.type ((cs.drop f.offset).take (P.cellsOf f.type)) = xs[i]?) →
  (∀ m ∈ DataW.weightsEach P (fs.map (·.type)) (xs.map (·.1)), m ≤ reachBytes) → ∃ v, (row v).length = sz ∧
   (∀ j, j < sz → flatC ((row v).getD j .dead) = true ∧ Rel [] (fun _ => none) (fun b => b < w.heap.size) w.heap ((row v).getD j .dead) (cs.getD (off + j) undef)) ∧ Fit v
end Go.Proofs.YtomklniddinhnaaE
