/- The law FnExactGoodCounts holds: for every argument within the row's bounds the printed function answers true. No further condition. -/
import Derived.Test.YtlfhbmbckgajiaaPFnExactGoodCountsx1
set_option linter.unusedVariables false
namespace Go.Proofs.Ytlfhbmbckgajiaa.Pure
open Go.RowKit Go.Proofs.Ytlfhbmbckgajiaa.PFnExactGoodCounts Go.Proofs.YtlfhbmbckgajiaaW.PrintWords Go.Proofs.YtlfhbmbckgajiaaW.PrintLast
namespace QFnExactGoodCounts
/-! ### Rounds -/
theorem Ev.pos {α : Type} {c : Prop} [Decidable c] {g f : Nat → Option α} {r : α} (hc : c) (h : Ev g r) : Ev (fun k => if c then g k else f k) r :=
  Ev.congr (fun _ => if_pos hc) h
theorem Ev.neg {α : Type} {c : Prop} [Decidable c] {g f : Nat → Option α} {r : α} (hc : ¬ c) (h : Ev f r) : Ev (fun k => if c then g k else f k) r :=
  Ev.congr (fun _ => if_neg hc) h
theorem Ev.bindo {α β : Type} {o : Option α} {f : Nat → α → Option β} {a : α} {r : β} (h : o = some a) (k : Ev (fun n => f n a) r) : Ev (fun n => o.bind (f n)) r :=
  Ev.congr (fun n => by rw [h]; rfl) k
theorem Ev.eq {α : Type} {g : Nat → Option α} {r s : α} (h : Ev g r) (e : r = s) : Ev g s := e ▸ h
theorem wrap64_id {x : Int} (h1 : -9223372036854775808 ≤ x) (h2 : x ≤ 9223372036854775807) : wrap64 x = x := by
  unfold wrap64
  omega
theorem wrap64_lo (x : Int) : -9223372036854775808 ≤ wrap64 x ∧ wrap64 x ≤ 9223372036854775807 := by
  unfold wrap64
  omega
theorem wf_i64 {x : Int} (h : (Lit.int .i64 x).wf = true) : -9223372036854775808 ≤ x ∧ x ≤ 9223372036854775807 := by
  simp [Lit.wf, IntKind.min, IntKind.max, IntKind.signed, IntKind.bits] at h
  omega
/-- Is a number in a range? -/
def inB (a b c : Int) : Bool := decide (b ≤ a) && decide (a ≤ c)
theorem inB_iff {a b c : Int} : inB a b c = true ↔ b ≤ a ∧ a ≤ c := by simp [inB]
theorem inB_no {a b c : Int} : inB a b c = false ↔ ¬ (b ≤ a ∧ a ≤ c) := by rw [← inB_iff]; simp

theorem l1In_eq (a b c : Int) : spec_l1In.f a b c = some (inB a b c) := by
  unfold spec_l1In.f inB
  by_cases h : b ≤ a <;> simp [h]
theorem within_eq (a b c : Int) : impl_within.f a b c = some (inB a b c) := by
  unfold impl_within.f inB
  by_cases h : b ≤ a <;> simp [h]

/-! ### Lists of numbers: copied, compared, marked -/
theorem rd_nat (l : List Int) (i : Nat) (h : i < l.length) : rd l (i : Int) = l[i] := by
  simp [rd, List.getD_eq_getElem?_getD, List.getElem?_eq_getElem h]
theorem toIntS_loop (l : List Int) (hl : l.length ≤ 35184372088832) : ∀ (d i : Nat) (xs : List Int), i + d = l.length → xs.length = l.length → xs.take i = l.take i →
    Ev (fun k => laws_toIntS.l0 k l xs (i : Int)) l := by
  intro d
  induction d with
  | zero =>
    intro i xs hi hx hp
    refine Ev.step (fun k => laws_toIntS.l0.eq_2 _ _ _ _) (Ev.neg (by omega) ?_)
    have e : xs = l := by
      rw [List.take_of_length_le (by omega), List.take_of_length_le (by omega)] at hp
      exact hp
    rw [e]
    exact Ev.now l
  | succ d ih =>
    intro i xs hi hx hp
    refine Ev.step (fun k => laws_toIntS.l0.eq_2 _ _ _ _) (Ev.pos (by omega) (Ev.pos (by omega) (Ev.pos (by omega) ?_)))
    rw [wrap64_id (by omega) (by omega), rd_nat l i (by omega)]
    have := ih (i + 1) (xs.set (i : Int).toNat l[i]) (by omega) (by simp [hx]) (by
      rw [List.take_add_one, List.take_add_one]
      simp only [Int.toNat_natCast, List.take_set, hp]
      rw [List.getElem?_set_self (by omega), List.getElem?_eq_getElem (by omega : i < l.length), List.set_eq_of_length_le (by simp; omega)])
    exact this
theorem toIntS_ev (l : List Int) (hl : l.length ≤ 35184372088832) : Ev (fun k => laws_toIntS.f k l) l := by
  unfold laws_toIntS.f
  refine Ev.pos (by omega) (Ev.pos (by omega) ?_)
  exact toIntS_loop l hl l.length 0 _ (by omega) (by simp) (by simp)
theorem eqIntS_loop (l : List Int) (hl : l.length ≤ 35184372088832) : ∀ (d i : Nat), i + d = l.length → Ev (fun k => laws_eqIntS.l0 k l l (i : Int)) true := by
  intro d
  induction d with
  | zero =>
    intro i hi
    exact Ev.step (fun k => laws_eqIntS.l0.eq_2 _ _ _ _) (Ev.neg (by omega) (Ev.now _))
  | succ d ih =>
    intro i hi
    refine Ev.step (fun k => laws_eqIntS.l0.eq_2 _ _ _ _) (Ev.pos (by omega) (Ev.pos (by omega) (Ev.pos (by omega) (Ev.pos rfl ?_))))
    rw [wrap64_id (by omega) (by omega)]
    exact ih (i + 1) (by omega)
theorem eqIntS_self (l : List Int) (hl : l.length ≤ 35184372088832) : Ev (fun k => laws_eqIntS.f k l l) true := by
  unfold laws_eqIntS.f
  exact Ev.pos rfl (eqIntS_loop l hl l.length 0 (by omega))

theorem rd_mid (pre : List Int) (x : Int) (t : List Int) : rd (pre ++ x :: t) (pre.length : Int) = x := by
  rw [rd_nat _ _ (by simp)]
  simp
theorem snoc_len (pre : List Int) (x : Int) : (pre.length : Int) + 1 = ((pre ++ [x]).length : Int) := by simp

/-! ### Counts -/
/-- What the reference says of counts: the rest t behind the sum s; b: is the number of them right? -/
def specFrom (b : Bool) : List Int → Int → Bool
  | [], s => b && (s == 64)
  | x :: t, s => inB x 0 64 && specFrom b t (s + x)
def implFrom (b : Bool) : List Int → Int → Bool
  | [], s => b && (s == 64)
  | x :: t, s => inB x 0 (64 - s) && implFrom b t (s + x)
theorem specFrom_past (b : Bool) : ∀ (t : List Int) (s : Int), 64 < s → specFrom b t s = false := by
  intro t
  induction t with
  | nil => intro s hs; simp [specFrom]; intro _; omega
  | cons x t ih =>
    intro s hs
    unfold specFrom
    by_cases h : inB x 0 64 = true
    · rw [ih (s + x) (by have := inB_iff.1 h; omega)]; simp
    · simp only [Bool.not_eq_true] at h; rw [h]; rfl
theorem implFrom_eq (b : Bool) : ∀ (t : List Int) (s : Int), 0 ≤ s → s ≤ 64 → implFrom b t s = specFrom b t s := by
  intro t
  induction t with
  | nil => intro s _ _; rfl
  | cons x t ih =>
    intro s h0 h1
    unfold implFrom specFrom
    by_cases h : 0 ≤ x ∧ x ≤ 64 - s
    · rw [inB_iff.2 h, inB_iff.2 ⟨h.1, by omega⟩, ih (s + x) (by omega) (by omega)]
    · rw [inB_no.2 h]
      by_cases h2 : 0 ≤ x ∧ x ≤ 64
      · rw [specFrom_past b t (s + x) (by omega)]; simp
      · rw [inB_no.2 h2]; rfl
/-- Are counts valid? -/
def goodC (l : List Int) : Bool := specFrom (inB (l.length : Int) 1 12) l 0
theorem specGood_loop (t : List Int) : ∀ (pre : List Int) (s : Int), (pre ++ t).length ≤ 35184372088832 → 0 ≤ s → s ≤ 64 * pre.length →
    Ev (fun k => spec_GoodCounts.l0 k (pre ++ t) s (pre ++ t) ((pre ++ t).length : Int) (pre.length : Int)) (specFrom (inB ((pre ++ t).length : Int) 1 12) t s) := by
  induction t with
  | nil =>
    intro pre s hl h0 h1
    refine Ev.step (fun k => spec_GoodCounts.l0.eq_2 _ _ _ _ _ _) (Ev.neg (by simp) (Ev.bindo (l1In_eq _ _ _) ?_))
    unfold specFrom
    by_cases h : inB ((pre ++ []).length : Int) 1 12 = true
    · exact Ev.pos h (Ev.eq (Ev.now _) (by rw [h]; rfl))
    · exact Ev.neg h (Ev.eq (Ev.now _) (by simp only [Bool.not_eq_true] at h; rw [h]; rfl))
  | cons x t ih =>
    intro pre s hl h0 h1
    have hl' : pre.length + (t.length + 1) ≤ 35184372088832 := by simpa using hl
    refine Ev.step (fun k => spec_GoodCounts.l0.eq_2 _ _ _ _ _ _) (Ev.pos (by simp; omega) (Ev.pos (by omega) (Ev.pos (by simp; omega) (Ev.bindo (l1In_eq _ _ _) ?_))))
    rw [rd_mid]
    unfold specFrom
    by_cases h : inB x 0 64 = true
    · have hx := inB_iff.1 h
      refine Ev.pos h ?_
      rw [h, wrap64_id (by omega) (by omega), wrap64_id (by omega) (by omega), snoc_len pre x]
      have := ih (pre ++ [x]) (s + x) (by simpa using hl) (by omega) (by simp; omega)
      simpa using this
    · exact Ev.neg h (Ev.eq (Ev.now _) (by simp only [Bool.not_eq_true] at h; rw [h]; rfl))
theorem specGood_ev (l : List Int) (hl : l.length ≤ 35184372088832) : Ev (fun k => spec_GoodCounts.f k l) (goodC l) := by
  unfold spec_GoodCounts.f goodC
  have := specGood_loop l [] 0 (by simpa using hl) (by omega) (by simp)
  simpa using this
theorem implGood_loop (t : List Int) : ∀ (pre : List Int) (s : Int), (pre ++ t).length ≤ 35184372088832 → 0 ≤ s → s ≤ 64 →
    Ev (fun k => impl_GoodCounts.l0 k (pre ++ t) s (pre ++ t) ((pre ++ t).length : Int) (pre.length : Int)) (implFrom (inB ((pre ++ t).length : Int) 1 12) t s) := by
  induction t with
  | nil =>
    intro pre s hl h0 h1
    refine Ev.step (fun k => impl_GoodCounts.l0.eq_2 _ _ _ _ _ _) (Ev.neg (by simp) (Ev.bindo (within_eq _ _ _) ?_))
    unfold implFrom
    by_cases h : inB ((pre ++ []).length : Int) 1 12 = true
    · exact Ev.pos h (Ev.eq (Ev.now _) (by rw [h]; rfl))
    · exact Ev.neg h (Ev.eq (Ev.now _) (by simp only [Bool.not_eq_true] at h; rw [h]; rfl))
  | cons x t ih =>
    intro pre s hl h0 h1
    have hl' : pre.length + (t.length + 1) ≤ 35184372088832 := by simpa using hl
    refine Ev.step (fun k => impl_GoodCounts.l0.eq_2 _ _ _ _ _ _) (Ev.pos (by simp; omega) (Ev.pos (by omega) (Ev.pos (by simp; omega) (Ev.bindo (within_eq _ _ _) ?_))))
    rw [rd_mid, wrap64_id (by omega) (by omega)]
    unfold implFrom
    by_cases h : inB x 0 (64 - s) = true
    · have hx := inB_iff.1 h
      refine Ev.pos h ?_
      rw [h, wrap64_id (by omega) (by omega), wrap64_id (by omega) (by omega), snoc_len pre x]
      have := ih (pre ++ [x]) (s + x) (by simpa using hl) (by omega) (by omega)
      simpa using this
    · exact Ev.neg h (Ev.eq (Ev.now _) (by simp only [Bool.not_eq_true] at h; rw [h]; rfl))
theorem implGood_ev (l : List Int) (hl : l.length ≤ 35184372088832) : Ev (fun k => impl_GoodCounts.f k l) (goodC l) := by
  unfold impl_GoodCounts.f goodC
  rw [← implFrom_eq _ l 0 (by omega) (by omega)]
  have := implGood_loop l [] 0 (by simpa using hl) (by omega) (by omega)
  simpa using this
/-- What valid counts are. -/
theorem specFrom_pos (b : Bool) : ∀ (t : List Int) (s : Int), specFrom b t s = true → b = true ∧ (∀ x ∈ t, 0 ≤ x ∧ x ≤ 64) ∧ s + t.sum = 64 := by
  intro t
  induction t with
  | nil =>
    intro s h
    simp only [specFrom, Bool.and_eq_true, beq_iff_eq] at h
    exact ⟨h.1, by simp, by simpa using h.2⟩
  | cons x t ih =>
    intro s h
    simp only [specFrom, Bool.and_eq_true] at h
    obtain ⟨hb, ha, hs⟩ := ih _ h.2
    have hx := inB_iff.1 h.1
    refine ⟨hb, ?_, by rw [List.sum_cons]; omega⟩
    intro y hy
    rcases List.mem_cons.1 hy with rfl | hy
    · exact hx
    · exact ha y hy
theorem goodC_pos {l : List Int} (h : goodC l = true) : 1 ≤ l.length ∧ l.length ≤ 12 ∧ (∀ x ∈ l, 0 ≤ x ∧ x ≤ 64) ∧ l.sum = 64 := by
  obtain ⟨hb, ha, hs⟩ := specFrom_pos _ l 0 h
  have := inB_iff.1 hb
  exact ⟨by omega, by omega, ha, by omega⟩

end QFnExactGoodCounts
open QFnExactGoodCounts
theorem FnExactGoodCounts : laws_FnExactGoodCounts.Pure := by
  intro l hm hl hw
  refine Ev.rounds ?_
  unfold laws_FnExactGoodCounts.f
  by_cases hb : (l.length : Int) > 1048576
  · exact Ev.pos hb (Ev.now _)
  have hs : l.length ≤ 35184372088832 := by omega
  refine Ev.neg hb (Ev.bind (toIntS_ev l hs) (Ev.bind (specGood_ev l hs) (Ev.bind (toIntS_ev l hs) (Ev.bind (implGood_ev l hs) ?_))))
  refine Ev.neg (by simp) (Ev.bind (toIntS_ev l hs) (Ev.bind (eqIntS_self l hs) (Ev.pos rfl (Ev.now _))))

end Go.Proofs.Ytlfhbmbckgajiaa.Pure
