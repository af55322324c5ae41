/- The law FnExactFrameText holds: for every argument within the row's bounds the printed function answers true. No further condition. -/
import Derived.Test.YtlfhbmbckgajiaaPFnExactFrameTextx1
set_option linter.unusedVariables false
namespace Go.Proofs.Ytlfhbmbckgajiaa.Pure
open Go.RowKit Go.Proofs.Ytlfhbmbckgajiaa.PFnExactFrameText Go.Proofs.YtlfhbmbckgajiaaW.PrintWords Go.Proofs.YtlfhbmbckgajiaaW.PrintLast
namespace QFnExactFrameText
/-! ### Rounds -/
theorem Ev.pos {α : Type} {c : Prop} [Decidable c] {g f : Nat → Option α} {r : α} (hc : c) (h : Ev g r) : Ev (fun k => if c then g k else f k) r :=
  Ev.congr (fun _ => if_pos hc) h
theorem Ev.neg {α : Type} {c : Prop} [Decidable c] {g f : Nat → Option α} {r : α} (hc : ¬ c) (h : Ev f r) : Ev (fun k => if c then g k else f k) r :=
  Ev.congr (fun _ => if_neg hc) h
theorem Ev.bindo {α β : Type} {o : Option α} {f : Nat → α → Option β} {a : α} {r : β} (h : o = some a) (k : Ev (fun n => f n a) r) : Ev (fun n => o.bind (f n)) r :=
  Ev.congr (fun n => by rw [h]; rfl) k
theorem Ev.eq {α : Type} {g : Nat → Option α} {r s : α} (h : Ev g r) (e : r = s) : Ev g s := e ▸ h
theorem wrap64_id {x : Int} (h1 : -9223372036854775808 ≤ x) (h2 : x ≤ 9223372036854775807) : wrap64 x = x := by
  unfold wrap64
  omega
theorem wrap64_lo (x : Int) : -9223372036854775808 ≤ wrap64 x ∧ wrap64 x ≤ 9223372036854775807 := by
  unfold wrap64
  omega
theorem wf_i64 {x : Int} (h : (Lit.int .i64 x).wf = true) : -9223372036854775808 ≤ x ∧ x ≤ 9223372036854775807 := by
  simp [Lit.wf, IntKind.min, IntKind.max, IntKind.signed, IntKind.bits] at h
  omega
/-- Is a number in a range? -/
def inB (a b c : Int) : Bool := decide (b ≤ a) && decide (a ≤ c)
theorem inB_iff {a b c : Int} : inB a b c = true ↔ b ≤ a ∧ a ≤ c := by simp [inB]
theorem inB_no {a b c : Int} : inB a b c = false ↔ ¬ (b ≤ a ∧ a ≤ c) := by rw [← inB_iff]; simp

theorem l1In_eq (a b c : Int) : spec_l1In.f a b c = some (inB a b c) := by
  unfold spec_l1In.f inB
  by_cases h : b ≤ a <;> simp [h]
theorem within_eq (a b c : Int) : impl_within.f a b c = some (inB a b c) := by
  unfold impl_within.f inB
  by_cases h : b ≤ a <;> simp [h]

def frameOk (a b c : Int) (s : ByteArray) (e : Int) : Bool := inB a 0 2 && inB b 0 100 && inB c 0 255 && inB e 0 65535 && decide (s.size ≤ 600)
def frameStr (a b c : Int) (s : ByteArray) (e : Int) : ByteArray := strOfNums [a % 256, b % 256, c % 256, e / 256 % 256, e % 256] ++ s
theorem strOfNums_size5 (a b c d e : Int) : (strOfNums [a, b, c, d, e]).size = 5 := rfl
theorem specText_eq (a b c : Int) (s : ByteArray) (e : Int) (hs : s.size ≤ 140737488351232) : spec_FrameText.f a b c s e = some (if frameOk a b c s e = true then (frameStr a b c s e, true) else (⟨#[]⟩, false)) := by
  unfold spec_FrameText.f spec_l15Text.f frameOk frameStr
  have hz : (strOfNums [a % 256, b % 256, c % 256, e / 256 % 256, e % 256]).size + s.size ≤ 9223372036854775807 := by rw [strOfNums_size5]; omega
  simp only [l1In_eq, Option.bind_some, if_pos hz]
  cases inB a 0 2 <;> cases inB b 0 100 <;> cases inB c 0 255 <;> cases inB e 0 65535 <;> simp
  split <;> rename_i h
  · rw [if_neg (by omega)]
  · rw [if_pos (by omega)]
theorem implText_eq (a b c : Int) (s : ByteArray) (e : Int) (hs : s.size ≤ 140737488351232) : impl_FrameText.f a b c s e = some (if frameOk a b c s e = true then (frameStr a b c s e, true) else (⟨#[]⟩, false)) := by
  unfold impl_FrameText.f frameOk frameStr
  have hz : (strOfNums [a % 256, b % 256, c % 256, e / 256 % 256, e % 256]).size + s.size ≤ 9223372036854775807 := by rw [strOfNums_size5]; omega
  simp only [within_eq, Option.bind_some, if_pos hz]
  cases inB a 0 2 <;> cases inB b 0 100 <;> cases inB c 0 255 <;> cases inB e 0 65535 <;> simp
  split <;> rename_i h
  · rw [if_neg (by omega)]
  · rw [if_pos (by omega)]

end QFnExactFrameText
open QFnExactFrameText
theorem FnExactFrameText (a b c : Int) (s : ByteArray) (e : Int) (h : (Lit.int .i64 a).wf = true ∧ (Lit.int .i64 b).wf = true ∧ (Lit.int .i64 c).wf = true ∧ s.size ≤ 140737488351232 ∧ (Lit.int .i64 e).wf = true) : laws_FnExactFrameText.f a b c s e = some true := by
  obtain ⟨_, _, _, hs, _⟩ := h
  unfold laws_FnExactFrameText.f laws_szFrame.f laws_toFrame.f
  rw [wrap64_id (by omega) (by omega)]
  by_cases h0 : (1048576 : Int) - (s.size : Int) < 0
  · rw [if_pos h0]; rfl
  · rw [if_neg h0]
    simp only [Option.bind_some, if_neg h0, specText_eq a b c s e hs, implText_eq a b c s e hs]
    simp

end Go.Proofs.Ytlfhbmbckgajiaa.Pure
