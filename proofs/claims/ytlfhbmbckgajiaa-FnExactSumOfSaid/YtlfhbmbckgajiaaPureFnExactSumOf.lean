/- The law FnExactSumOf holds: for every argument within the row's bounds the printed function answers true. No further condition. -/
import Derived.Test.YtlfhbmbckgajiaaPFnExactSumOfx1
set_option linter.unusedVariables false
namespace Go.Proofs.Ytlfhbmbckgajiaa.Pure
open Go.RowKit Go.Proofs.Ytlfhbmbckgajiaa.PFnExactSumOf Go.Proofs.YtlfhbmbckgajiaaW.PrintWords Go.Proofs.YtlfhbmbckgajiaaW.PrintLast
namespace QFnExactSumOf
/-! ### Rounds -/
theorem Ev.pos {α : Type} {c : Prop} [Decidable c] {g f : Nat → Option α} {r : α} (hc : c) (h : Ev g r) : Ev (fun k => if c then g k else f k) r :=
  Ev.congr (fun _ => if_pos hc) h
theorem Ev.neg {α : Type} {c : Prop} [Decidable c] {g f : Nat → Option α} {r : α} (hc : ¬ c) (h : Ev f r) : Ev (fun k => if c then g k else f k) r :=
  Ev.congr (fun _ => if_neg hc) h
theorem Ev.bindo {α β : Type} {o : Option α} {f : Nat → α → Option β} {a : α} {r : β} (h : o = some a) (k : Ev (fun n => f n a) r) : Ev (fun n => o.bind (f n)) r :=
  Ev.congr (fun n => by rw [h]; rfl) k
theorem Ev.eq {α : Type} {g : Nat → Option α} {r s : α} (h : Ev g r) (e : r = s) : Ev g s := e ▸ h
theorem wrap64_id {x : Int} (h1 : -9223372036854775808 ≤ x) (h2 : x ≤ 9223372036854775807) : wrap64 x = x := by
  unfold wrap64
  omega
theorem wrap64_lo (x : Int) : -9223372036854775808 ≤ wrap64 x ∧ wrap64 x ≤ 9223372036854775807 := by
  unfold wrap64
  omega
theorem wf_i64 {x : Int} (h : (Lit.int .i64 x).wf = true) : -9223372036854775808 ≤ x ∧ x ≤ 9223372036854775807 := by
  simp [Lit.wf, IntKind.min, IntKind.max, IntKind.signed, IntKind.bits] at h
  omega
/-- Is a number in a range? -/
def inB (a b c : Int) : Bool := decide (b ≤ a) && decide (a ≤ c)
theorem inB_iff {a b c : Int} : inB a b c = true ↔ b ≤ a ∧ a ≤ c := by simp [inB]
theorem inB_no {a b c : Int} : inB a b c = false ↔ ¬ (b ≤ a ∧ a ≤ c) := by rw [← inB_iff]; simp

theorem sumOf_loop (s : ByteArray) : ∀ (k : Nat) (a b i : Int), impl_SumOf.l0 k s a b (s.size : Int) i = spec_SumOf.l0 k s a b i := by
  intro k
  induction k with
  | zero => intro a b i; rfl
  | succ k ih =>
    intro a b i
    rw [spec_SumOf.l0.eq_2, impl_SumOf.l0.eq_2]
    by_cases h : i < (s.size : Int)
    · by_cases h0 : 0 ≤ i
      · rw [if_pos h, if_pos h0, if_pos h, if_pos h, if_pos h0, ih]
      · rw [if_pos h, if_neg h0, if_pos h, if_neg h0]
    · rw [if_neg h, if_neg h]
theorem sumOf_ends (s : ByteArray) (hs : s.size ≤ 140737488351232) : ∀ (d i : Nat) (a b : Int), i + d = s.size → ∃ r, Ev (fun k => spec_SumOf.l0 k s a b (i : Int)) r := by
  intro d
  induction d with
  | zero =>
    intro i a b hi
    exact ⟨_, Ev.step (fun k => spec_SumOf.l0.eq_2 _ _ _ _ _) (Ev.neg (by omega) (Ev.now _))⟩
  | succ d ih =>
    intro i a b hi
    obtain ⟨r, hr⟩ := ih (i + 1) (Int.tmod (wrap64 (a + (wrap64 (bt s (i : Int))))) 251) (Int.tmod (wrap64 (b + (Int.tmod (wrap64 (a + (wrap64 (bt s (i : Int))))) 251))) 251) (by omega)
    refine ⟨r, Ev.step (fun k => spec_SumOf.l0.eq_2 _ _ _ _ _) (Ev.pos (by omega) (Ev.pos (by omega) ?_))⟩
    rw [wrap64_id (x := (i : Int) + 1) (by omega) (by omega)]
    exact hr
theorem sumOf_both (s : ByteArray) (hs : s.size ≤ 140737488351232) : ∃ r, Ev (fun k => spec_SumOf.f k s) r ∧ Ev (fun k => impl_SumOf.f k s) r := by
  obtain ⟨r, hr⟩ := sumOf_ends s hs s.size 0 1 0 (by omega)
  refine ⟨r, hr, Ev.congr (fun k => ?_) hr⟩
  exact sumOf_loop s k 1 0 0
end QFnExactSumOf
open QFnExactSumOf
theorem FnExactSumOf : laws_FnExactSumOf.Pure := by
  intro s hs
  obtain ⟨r, h1, h2⟩ := sumOf_both s hs
  refine Ev.rounds ?_
  unfold laws_FnExactSumOf.f
  by_cases hb : (s.size : Int) > 1048576
  · exact Ev.pos hb (Ev.now _)
  · exact Ev.neg hb (Ev.bind h1 (Ev.bind h2 (Ev.pos rfl (Ev.now _))))

end Go.Proofs.Ytlfhbmbckgajiaa.Pure
