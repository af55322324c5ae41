/- The law FnExactReadFrame holds: for every argument within the row's bounds the printed function answers true. No further condition. -/
import Derived.Test.YtlfhbmbckgajiaaPFnExactReadFramex4
set_option linter.unusedVariables false
namespace Go.Proofs.Ytlfhbmbckgajiaa.Pure
open Go.RowKit Go.Proofs.Ytlfhbmbckgajiaa.PFnExactReadFrame Go.Proofs.YtlfhbmbckgajiaaW.PrintWords Go.Proofs.YtlfhbmbckgajiaaW.PrintLast
namespace QFnExactReadFrame
/-! ### Rounds -/
theorem Ev.pos {α : Type} {c : Prop} [Decidable c] {g f : Nat → Option α} {r : α} (hc : c) (h : Ev g r) : Ev (fun k => if c then g k else f k) r :=
  Ev.congr (fun _ => if_pos hc) h
theorem Ev.neg {α : Type} {c : Prop} [Decidable c] {g f : Nat → Option α} {r : α} (hc : ¬ c) (h : Ev f r) : Ev (fun k => if c then g k else f k) r :=
  Ev.congr (fun _ => if_neg hc) h
theorem Ev.bindo {α β : Type} {o : Option α} {f : Nat → α → Option β} {a : α} {r : β} (h : o = some a) (k : Ev (fun n => f n a) r) : Ev (fun n => o.bind (f n)) r :=
  Ev.congr (fun n => by rw [h]; rfl) k
theorem Ev.eq {α : Type} {g : Nat → Option α} {r s : α} (h : Ev g r) (e : r = s) : Ev g s := e ▸ h
theorem wrap64_id {x : Int} (h1 : -9223372036854775808 ≤ x) (h2 : x ≤ 9223372036854775807) : wrap64 x = x := by
  unfold wrap64
  omega
theorem wrap64_lo (x : Int) : -9223372036854775808 ≤ wrap64 x ∧ wrap64 x ≤ 9223372036854775807 := by
  unfold wrap64
  omega
theorem wf_i64 {x : Int} (h : (Lit.int .i64 x).wf = true) : -9223372036854775808 ≤ x ∧ x ≤ 9223372036854775807 := by
  simp [Lit.wf, IntKind.min, IntKind.max, IntKind.signed, IntKind.bits] at h
  omega
/-- Is a number in a range? -/
def inB (a b c : Int) : Bool := decide (b ≤ a) && decide (a ≤ c)
theorem inB_iff {a b c : Int} : inB a b c = true ↔ b ≤ a ∧ a ≤ c := by simp [inB]
theorem inB_no {a b c : Int} : inB a b c = false ↔ ¬ (b ≤ a ∧ a ≤ c) := by rw [← inB_iff]; simp

theorem l1In_eq (a b c : Int) : spec_l1In.f a b c = some (inB a b c) := by
  unfold spec_l1In.f inB
  by_cases h : b ≤ a <;> simp [h]
theorem within_eq (a b c : Int) : impl_within.f a b c = some (inB a b c) := by
  unfold impl_within.f inB
  by_cases h : b ≤ a <;> simp [h]

def frameOk (a b c : Int) (s : ByteArray) (e : Int) : Bool := inB a 0 2 && inB b 0 100 && inB c 0 255 && inB e 0 65535 && decide (s.size ≤ 600)
def frameStr (a b c : Int) (s : ByteArray) (e : Int) : ByteArray := strOfNums [a % 256, b % 256, c % 256, e / 256 % 256, e % 256] ++ s
theorem strOfNums_size5 (a b c d e : Int) : (strOfNums [a, b, c, d, e]).size = 5 := rfl
theorem specText_eq (a b c : Int) (s : ByteArray) (e : Int) (hs : s.size ≤ 140737488351232) : spec_FrameText.f a b c s e = some (if frameOk a b c s e = true then (frameStr a b c s e, true) else (⟨#[]⟩, false)) := by
  unfold spec_FrameText.f spec_l15Text.f frameOk frameStr
  have hz : (strOfNums [a % 256, b % 256, c % 256, e / 256 % 256, e % 256]).size + s.size ≤ 9223372036854775807 := by rw [strOfNums_size5]; omega
  simp only [l1In_eq, Option.bind_some, if_pos hz]
  cases inB a 0 2 <;> cases inB b 0 100 <;> cases inB c 0 255 <;> cases inB e 0 65535 <;> simp
  split <;> rename_i h
  · rw [if_neg (by omega)]
  · rw [if_pos (by omega)]
theorem implText_eq (a b c : Int) (s : ByteArray) (e : Int) (hs : s.size ≤ 140737488351232) : impl_FrameText.f a b c s e = some (if frameOk a b c s e = true then (frameStr a b c s e, true) else (⟨#[]⟩, false)) := by
  unfold impl_FrameText.f frameOk frameStr
  have hz : (strOfNums [a % 256, b % 256, c % 256, e / 256 % 256, e % 256]).size + s.size ≤ 9223372036854775807 := by rw [strOfNums_size5]; omega
  simp only [within_eq, Option.bind_some, if_pos hz]
  cases inB a 0 2 <;> cases inB b 0 100 <;> cases inB c 0 255 <;> cases inB e 0 65535 <;> simp
  split <;> rename_i h
  · rw [if_neg (by omega)]
  · rw [if_pos (by omega)]

theorem or_bytes (a b : Int) (ha : 0 ≤ a ∧ a ≤ 255) (hb : 0 ≤ b ∧ b ≤ 255) : Go.bits .or .i64 (wrap64 ((wrap64 a) * 256)) (wrap64 b) = a * 256 + b := by
  rw [wrap64_id (x := a) (by omega) (by omega), wrap64_id (x := b) (by omega) (by omega), wrap64_id (x := a * 256) (by omega) (by omega)]
  refine bits_join .i64 62 (by decide) (fun n h0 h1 => ?_) 8 _ _ (by omega) (by omega) (by omega) hb.1 (by omega) (by omega)
  rw [IntKind.wrap_i64]
  omega
theorem bt_byte (s : ByteArray) (i : Nat) (h : i < s.size) : UInt8.ofNat (bt s (i : Int)).toNat = s.data[i]'h := by
  unfold bt
  rw [dif_pos (by simpa using h)]
  simp
  rfl
theorem frame_whole (s : ByteArray) (h : 5 ≤ s.size) : frameStr (bt s 0) (bt s 1) (bt s 2) (s.extract 5 s.size) (bt s 3 * 256 + bt s 4) = s := by
  have r0 := bt_range s 0
  have r1 := bt_range s 1
  have r2 := bt_range s 2
  have r3 := bt_range s 3
  have r4 := bt_range s 4
  unfold frameStr
  rw [show bt s 0 % 256 = bt s 0 by omega, show bt s 1 % 256 = bt s 1 by omega, show bt s 2 % 256 = bt s 2 by omega, show (bt s 3 * 256 + bt s 4) / 256 % 256 = bt s 3 by omega, show (bt s 3 * 256 + bt s 4) % 256 = bt s 4 by omega]
  have e : strOfNums [bt s 0, bt s 1, bt s 2, bt s 3, bt s 4] = s.extract 0 5 := by
    have b0 := bt_byte s 0 (by omega)
    have b1 := bt_byte s 1 (by omega)
    have b2 := bt_byte s 2 (by omega)
    have b3 := bt_byte s 3 (by omega)
    have b4 := bt_byte s 4 (by omega)
    simp only [Int.cast_ofNat_Int] at b0 b1 b2 b3 b4
    unfold strOfNums
    apply ByteArray.ext
    apply Array.ext
    · simp; omega
    · intro i h1 h2
      simp at h1
      have : i = 0 ∨ i = 1 ∨ i = 2 ∨ i = 3 ∨ i = 4 := by omega
      rcases this with rfl | rfl | rfl | rfl | rfl
      · simpa using b0
      · simpa using b1
      · simpa using b2
      · simpa using b3
      · simpa using b4
  rw [e]
  simp
theorem readFrame_both (s : ByteArray) (hs : s.size ≤ 140737488351232) : ∃ r, spec_ReadFrame.f s = some r ∧ impl_ReadFrame.f s = some r := by
  have r0 := bt_range s 0
  have r1 := bt_range s 1
  have r2 := bt_range s 2
  have r3 := bt_range s 3
  have r4 := bt_range s 4
  have hx : (s.extract 5 s.size).size = s.size - 5 := by simp
  have o := or_bytes (bt s 3) (bt s 4) r3 r4
  have w0 := wrap64_id (x := bt s 0) (by omega) (by omega)
  have w1 := wrap64_id (x := bt s 1) (by omega) (by omega)
  have w2 := wrap64_id (x := bt s 2) (by omega) (by omega)
  unfold spec_ReadFrame.f impl_ReadFrame.f
  simp only [l1In_eq, Option.bind_some, o, w0, w1, w2]
  rw [specText_eq _ _ _ _ _ (by omega), implText_eq _ _ _ _ _ (by omega)]
  simp only [Option.bind_some]
  by_cases h5 : s.size < 5
  · rw [if_neg (by rw [inB_iff]; omega), if_pos (by omega)]
    exact ⟨_, rfl, rfl⟩
  have c0 : 0 < (s.size : Int) := by omega
  have c1 : 1 < (s.size : Int) := by omega
  have c2 : 2 < (s.size : Int) := by omega
  have c3 : 3 < (s.size : Int) := by omega
  have c4 : 4 < (s.size : Int) := by omega
  have c5 : 5 ≤ (s.size : Int) := by omega
  have c6 : ¬ (s.size : Int) < 5 := by omega
  simp only [if_pos c0, if_pos c1, if_pos c2, if_pos c3, if_pos c4, if_pos c5, if_neg c6]
  by_cases h605 : s.size ≤ 605
  · rw [if_pos (by rw [inB_iff]; omega)]
    by_cases hf : frameOk (bt s 0) (bt s 1) (bt s 2) (s.extract 5 s.size) (bt s 3 * 256 + bt s 4) = true
    · simp only [if_pos hf, if_true, frame_whole s (by omega)]
      exact ⟨_, rfl, rfl⟩
    · simp only [if_neg hf, Bool.false_eq_true, if_false]
      exact ⟨_, rfl, rfl⟩
  · rw [if_neg (by rw [inB_iff]; omega)]
    have hf : frameOk (bt s 0) (bt s 1) (bt s 2) (s.extract 5 s.size) (bt s 3 * 256 + bt s 4) = false := by
      unfold frameOk
      rw [hx]
      have : ¬ s.size - 5 ≤ 600 := by omega
      simp [this]
    simp only [hf, Bool.false_eq_true, if_false]
    exact ⟨_, rfl, rfl⟩
end QFnExactReadFrame
open QFnExactReadFrame
theorem FnExactReadFrame : laws_FnExactReadFrame.Pure := by
  intro s hs
  obtain ⟨r, h1, h2⟩ := readFrame_both s hs
  unfold laws_FnExactReadFrame.f laws_eqFrame.f
  by_cases hb : (s.size : Int) > 1048576
  · rw [if_pos hb]
  rw [if_neg hb, h1, h2]
  simp

end Go.Proofs.Ytlfhbmbckgajiaa.Pure
