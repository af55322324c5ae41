/- The law FnExactSymbolAt holds: for every argument within the row's bounds the printed function answers true. No further condition. -/
import Derived.Test.YtlfhbmbckgajiaaPFnExactSymbolAtx2
set_option linter.unusedVariables false
namespace Go.Proofs.Ytlfhbmbckgajiaa.Pure
open Go.RowKit Go.Proofs.Ytlfhbmbckgajiaa.PFnExactSymbolAt Go.Proofs.YtlfhbmbckgajiaaW.PrintWords Go.Proofs.YtlfhbmbckgajiaaW.PrintLast
namespace QFnExactSymbolAt
/-! ### Rounds -/
theorem Ev.pos {α : Type} {c : Prop} [Decidable c] {g f : Nat → Option α} {r : α} (hc : c) (h : Ev g r) : Ev (fun k => if c then g k else f k) r :=
  Ev.congr (fun _ => if_pos hc) h
theorem Ev.neg {α : Type} {c : Prop} [Decidable c] {g f : Nat → Option α} {r : α} (hc : ¬ c) (h : Ev f r) : Ev (fun k => if c then g k else f k) r :=
  Ev.congr (fun _ => if_neg hc) h
theorem Ev.bindo {α β : Type} {o : Option α} {f : Nat → α → Option β} {a : α} {r : β} (h : o = some a) (k : Ev (fun n => f n a) r) : Ev (fun n => o.bind (f n)) r :=
  Ev.congr (fun n => by rw [h]; rfl) k
theorem Ev.eq {α : Type} {g : Nat → Option α} {r s : α} (h : Ev g r) (e : r = s) : Ev g s := e ▸ h
theorem wrap64_id {x : Int} (h1 : -9223372036854775808 ≤ x) (h2 : x ≤ 9223372036854775807) : wrap64 x = x := by
  unfold wrap64
  omega
theorem wrap64_lo (x : Int) : -9223372036854775808 ≤ wrap64 x ∧ wrap64 x ≤ 9223372036854775807 := by
  unfold wrap64
  omega
theorem wf_i64 {x : Int} (h : (Lit.int .i64 x).wf = true) : -9223372036854775808 ≤ x ∧ x ≤ 9223372036854775807 := by
  simp [Lit.wf, IntKind.min, IntKind.max, IntKind.signed, IntKind.bits] at h
  omega
/-- Is a number in a range? -/
def inB (a b c : Int) : Bool := decide (b ≤ a) && decide (a ≤ c)
theorem inB_iff {a b c : Int} : inB a b c = true ↔ b ≤ a ∧ a ≤ c := by simp [inB]
theorem inB_no {a b c : Int} : inB a b c = false ↔ ¬ (b ≤ a ∧ a ≤ c) := by rw [← inB_iff]; simp

theorem l1In_eq (a b c : Int) : spec_l1In.f a b c = some (inB a b c) := by
  unfold spec_l1In.f inB
  by_cases h : b ≤ a <;> simp [h]
theorem within_eq (a b c : Int) : impl_within.f a b c = some (inB a b c) := by
  unfold impl_within.f inB
  by_cases h : b ≤ a <;> simp [h]

/-! ### Lists of numbers: copied, compared, marked -/
theorem rd_nat (l : List Int) (i : Nat) (h : i < l.length) : rd l (i : Int) = l[i] := by
  simp [rd, List.getD_eq_getElem?_getD, List.getElem?_eq_getElem h]
theorem toIntS_loop (l : List Int) (hl : l.length ≤ 35184372088832) : ∀ (d i : Nat) (xs : List Int), i + d = l.length → xs.length = l.length → xs.take i = l.take i →
    Ev (fun k => laws_toIntS.l0 k l xs (i : Int)) l := by
  intro d
  induction d with
  | zero =>
    intro i xs hi hx hp
    refine Ev.step (fun k => laws_toIntS.l0.eq_2 _ _ _ _) (Ev.neg (by omega) ?_)
    have e : xs = l := by
      rw [List.take_of_length_le (by omega), List.take_of_length_le (by omega)] at hp
      exact hp
    rw [e]
    exact Ev.now l
  | succ d ih =>
    intro i xs hi hx hp
    refine Ev.step (fun k => laws_toIntS.l0.eq_2 _ _ _ _) (Ev.pos (by omega) (Ev.pos (by omega) (Ev.pos (by omega) ?_)))
    rw [wrap64_id (by omega) (by omega), rd_nat l i (by omega)]
    have := ih (i + 1) (xs.set (i : Int).toNat l[i]) (by omega) (by simp [hx]) (by
      rw [List.take_add_one, List.take_add_one]
      simp only [Int.toNat_natCast, List.take_set, hp]
      rw [List.getElem?_set_self (by omega), List.getElem?_eq_getElem (by omega : i < l.length), List.set_eq_of_length_le (by simp; omega)])
    exact this
theorem toIntS_ev (l : List Int) (hl : l.length ≤ 35184372088832) : Ev (fun k => laws_toIntS.f k l) l := by
  unfold laws_toIntS.f
  refine Ev.pos (by omega) (Ev.pos (by omega) ?_)
  exact toIntS_loop l hl l.length 0 _ (by omega) (by simp) (by simp)
theorem eqIntS_loop (l : List Int) (hl : l.length ≤ 35184372088832) : ∀ (d i : Nat), i + d = l.length → Ev (fun k => laws_eqIntS.l0 k l l (i : Int)) true := by
  intro d
  induction d with
  | zero =>
    intro i hi
    exact Ev.step (fun k => laws_eqIntS.l0.eq_2 _ _ _ _) (Ev.neg (by omega) (Ev.now _))
  | succ d ih =>
    intro i hi
    refine Ev.step (fun k => laws_eqIntS.l0.eq_2 _ _ _ _) (Ev.pos (by omega) (Ev.pos (by omega) (Ev.pos (by omega) (Ev.pos rfl ?_))))
    rw [wrap64_id (by omega) (by omega)]
    exact ih (i + 1) (by omega)
theorem eqIntS_self (l : List Int) (hl : l.length ≤ 35184372088832) : Ev (fun k => laws_eqIntS.f k l l) true := by
  unfold laws_eqIntS.f
  exact Ev.pos rfl (eqIntS_loop l hl l.length 0 (by omega))

theorem rd_mid (pre : List Int) (x : Int) (t : List Int) : rd (pre ++ x :: t) (pre.length : Int) = x := by
  rw [rd_nat _ _ (by simp)]
  simp
theorem snoc_len (pre : List Int) (x : Int) : (pre.length : Int) + 1 = ((pre ++ [x]).length : Int) := by simp

/-! ### Counts -/
/-- What the reference says of counts: the rest t behind the sum s; b: is the number of them right? -/
def specFrom (b : Bool) : List Int → Int → Bool
  | [], s => b && (s == 64)
  | x :: t, s => inB x 0 64 && specFrom b t (s + x)
def implFrom (b : Bool) : List Int → Int → Bool
  | [], s => b && (s == 64)
  | x :: t, s => inB x 0 (64 - s) && implFrom b t (s + x)
theorem specFrom_past (b : Bool) : ∀ (t : List Int) (s : Int), 64 < s → specFrom b t s = false := by
  intro t
  induction t with
  | nil => intro s hs; simp [specFrom]; intro _; omega
  | cons x t ih =>
    intro s hs
    unfold specFrom
    by_cases h : inB x 0 64 = true
    · rw [ih (s + x) (by have := inB_iff.1 h; omega)]; simp
    · simp only [Bool.not_eq_true] at h; rw [h]; rfl
theorem implFrom_eq (b : Bool) : ∀ (t : List Int) (s : Int), 0 ≤ s → s ≤ 64 → implFrom b t s = specFrom b t s := by
  intro t
  induction t with
  | nil => intro s _ _; rfl
  | cons x t ih =>
    intro s h0 h1
    unfold implFrom specFrom
    by_cases h : 0 ≤ x ∧ x ≤ 64 - s
    · rw [inB_iff.2 h, inB_iff.2 ⟨h.1, by omega⟩, ih (s + x) (by omega) (by omega)]
    · rw [inB_no.2 h]
      by_cases h2 : 0 ≤ x ∧ x ≤ 64
      · rw [specFrom_past b t (s + x) (by omega)]; simp
      · rw [inB_no.2 h2]; rfl
/-- Are counts valid? -/
def goodC (l : List Int) : Bool := specFrom (inB (l.length : Int) 1 12) l 0
theorem specGood_loop (t : List Int) : ∀ (pre : List Int) (s : Int), (pre ++ t).length ≤ 35184372088832 → 0 ≤ s → s ≤ 64 * pre.length →
    Ev (fun k => spec_GoodCounts.l0 k (pre ++ t) s (pre ++ t) ((pre ++ t).length : Int) (pre.length : Int)) (specFrom (inB ((pre ++ t).length : Int) 1 12) t s) := by
  induction t with
  | nil =>
    intro pre s hl h0 h1
    refine Ev.step (fun k => spec_GoodCounts.l0.eq_2 _ _ _ _ _ _) (Ev.neg (by simp) (Ev.bindo (l1In_eq _ _ _) ?_))
    unfold specFrom
    by_cases h : inB ((pre ++ []).length : Int) 1 12 = true
    · exact Ev.pos h (Ev.eq (Ev.now _) (by rw [h]; rfl))
    · exact Ev.neg h (Ev.eq (Ev.now _) (by simp only [Bool.not_eq_true] at h; rw [h]; rfl))
  | cons x t ih =>
    intro pre s hl h0 h1
    have hl' : pre.length + (t.length + 1) ≤ 35184372088832 := by simpa using hl
    refine Ev.step (fun k => spec_GoodCounts.l0.eq_2 _ _ _ _ _ _) (Ev.pos (by simp; omega) (Ev.pos (by omega) (Ev.pos (by simp; omega) (Ev.bindo (l1In_eq _ _ _) ?_))))
    rw [rd_mid]
    unfold specFrom
    by_cases h : inB x 0 64 = true
    · have hx := inB_iff.1 h
      refine Ev.pos h ?_
      rw [h, wrap64_id (by omega) (by omega), wrap64_id (by omega) (by omega), snoc_len pre x]
      have := ih (pre ++ [x]) (s + x) (by simpa using hl) (by omega) (by simp; omega)
      simpa using this
    · exact Ev.neg h (Ev.eq (Ev.now _) (by simp only [Bool.not_eq_true] at h; rw [h]; rfl))
theorem specGood_ev (l : List Int) (hl : l.length ≤ 35184372088832) : Ev (fun k => spec_GoodCounts.f k l) (goodC l) := by
  unfold spec_GoodCounts.f goodC
  have := specGood_loop l [] 0 (by simpa using hl) (by omega) (by simp)
  simpa using this
theorem implGood_loop (t : List Int) : ∀ (pre : List Int) (s : Int), (pre ++ t).length ≤ 35184372088832 → 0 ≤ s → s ≤ 64 →
    Ev (fun k => impl_GoodCounts.l0 k (pre ++ t) s (pre ++ t) ((pre ++ t).length : Int) (pre.length : Int)) (implFrom (inB ((pre ++ t).length : Int) 1 12) t s) := by
  induction t with
  | nil =>
    intro pre s hl h0 h1
    refine Ev.step (fun k => impl_GoodCounts.l0.eq_2 _ _ _ _ _ _) (Ev.neg (by simp) (Ev.bindo (within_eq _ _ _) ?_))
    unfold implFrom
    by_cases h : inB ((pre ++ []).length : Int) 1 12 = true
    · exact Ev.pos h (Ev.eq (Ev.now _) (by rw [h]; rfl))
    · exact Ev.neg h (Ev.eq (Ev.now _) (by simp only [Bool.not_eq_true] at h; rw [h]; rfl))
  | cons x t ih =>
    intro pre s hl h0 h1
    have hl' : pre.length + (t.length + 1) ≤ 35184372088832 := by simpa using hl
    refine Ev.step (fun k => impl_GoodCounts.l0.eq_2 _ _ _ _ _ _) (Ev.pos (by simp; omega) (Ev.pos (by omega) (Ev.pos (by simp; omega) (Ev.bindo (within_eq _ _ _) ?_))))
    rw [rd_mid, wrap64_id (by omega) (by omega)]
    unfold implFrom
    by_cases h : inB x 0 (64 - s) = true
    · have hx := inB_iff.1 h
      refine Ev.pos h ?_
      rw [h, wrap64_id (by omega) (by omega), wrap64_id (by omega) (by omega), snoc_len pre x]
      have := ih (pre ++ [x]) (s + x) (by simpa using hl) (by omega) (by omega)
      simpa using this
    · exact Ev.neg h (Ev.eq (Ev.now _) (by simp only [Bool.not_eq_true] at h; rw [h]; rfl))
theorem implGood_ev (l : List Int) (hl : l.length ≤ 35184372088832) : Ev (fun k => impl_GoodCounts.f k l) (goodC l) := by
  unfold impl_GoodCounts.f goodC
  rw [← implFrom_eq _ l 0 (by omega) (by omega)]
  have := implGood_loop l [] 0 (by simpa using hl) (by omega) (by omega)
  simpa using this
/-- What valid counts are. -/
theorem specFrom_pos (b : Bool) : ∀ (t : List Int) (s : Int), specFrom b t s = true → b = true ∧ (∀ x ∈ t, 0 ≤ x ∧ x ≤ 64) ∧ s + t.sum = 64 := by
  intro t
  induction t with
  | nil =>
    intro s h
    simp only [specFrom, Bool.and_eq_true, beq_iff_eq] at h
    exact ⟨h.1, by simp, by simpa using h.2⟩
  | cons x t ih =>
    intro s h
    simp only [specFrom, Bool.and_eq_true] at h
    obtain ⟨hb, ha, hs⟩ := ih _ h.2
    have hx := inB_iff.1 h.1
    refine ⟨hb, ?_, by rw [List.sum_cons]; omega⟩
    intro y hy
    rcases List.mem_cons.1 hy with rfl | hy
    · exact hx
    · exact ha y hy
theorem goodC_pos {l : List Int} (h : goodC l = true) : 1 ≤ l.length ∧ l.length ≤ 12 ∧ (∀ x ∈ l, 0 ≤ x ∧ x ≤ 64) ∧ l.sum = 64 := by
  obtain ⟨hb, ha, hs⟩ := specFrom_pos _ l 0 h
  have := inB_iff.1 hb
  exact ⟨by omega, by omega, ha, by omega⟩

/-! ### Starts -/
theorem sum_bd : ∀ (l : List Int), (∀ x ∈ l, 0 ≤ x ∧ x ≤ 64) → 0 ≤ l.sum ∧ l.sum ≤ 64 * l.length := by
  intro l
  induction l with
  | nil => intro _; simp
  | cons x t ih =>
    intro h
    have h1 := h x (by simp)
    have h2 := ih (fun y hy => h y (by simp [hy]))
    rw [List.sum_cons, List.length_cons]
    omega
/-- The sum of what stands ahead of each, from s on. -/
def starts : Int → List Int → List Int
  | _, [] => []
  | s, x :: t => s :: starts (s + x) t
theorem starts_length : ∀ (l : List Int) (s : Int), (starts s l).length = l.length := by
  intro l
  induction l with
  | nil => intro s; rfl
  | cons x t ih => intro s; simp [starts, ih]
theorem starts_append : ∀ (l m : List Int) (s : Int), starts s (l ++ m) = starts s l ++ starts (s + l.sum) m := by
  intro l
  induction l with
  | nil => intro m s; simp [starts]
  | cons x t ih => intro m s; simp [starts, ih, Int.add_assoc]
theorem rd_starts (pre : List Int) (x : Int) (t : List Int) : rd (starts 0 (pre ++ x :: t)) (pre.length : Int) = pre.sum := by
  rw [starts_append, ← starts_length pre 0]
  unfold starts
  rw [rd_mid]
  omega

theorem l14Starts_loop (t : List Int) : ∀ (pre : List Int), (∀ x ∈ pre ++ t, 0 ≤ x ∧ x ≤ 64) → (pre ++ t).length ≤ 12 →
    Ev (fun k => spec_l14Starts.l0 k (starts 0 pre) pre.sum (pre ++ t) ((pre ++ t).length : Int) (pre.length : Int)) (starts 0 (pre ++ t)) := by
  induction t with
  | nil =>
    intro pre ha hl
    refine Ev.step (fun k => spec_l14Starts.l0.eq_2 _ _ _ _ _ _) (Ev.neg (by simp) ?_)
    rw [List.append_nil]
    exact Ev.now _
  | cons x t ih =>
    intro pre ha hl
    have hp := sum_bd pre (fun y hy => ha y (by simp [hy]))
    have hx := ha x (by simp)
    have hl' : pre.length + (t.length + 1) ≤ 12 := by simpa using hl
    refine Ev.step (fun k => spec_l14Starts.l0.eq_2 _ _ _ _ _ _) (Ev.pos (by simp; omega) (Ev.pos (by omega) (Ev.pos (by simp; omega) (Ev.pos (by rw [starts_length]; omega) ?_))))
    rw [rd_mid, wrap64_id (by omega) (by omega), wrap64_id (by omega) (by omega), snoc_len pre x]
    have e1 : starts 0 pre ++ [pre.sum] = starts 0 (pre ++ [x]) := by rw [starts_append]; simp [starts]
    have e2 : pre.sum + x = (pre ++ [x]).sum := by simp
    rw [e1, e2]
    have := ih (pre ++ [x]) (by simpa using ha) (by simpa using hl)
    simpa using this
theorem l14Starts_ev (l : List Int) (ha : ∀ x ∈ l, 0 ≤ x ∧ x ≤ 64) (hl : l.length ≤ 12) : Ev (fun k => spec_l14Starts.f k l) (starts 0 l) := by
  unfold spec_l14Starts.f
  have := l14Starts_loop l [] (by simpa using ha) (by simpa using hl)
  simpa [starts] using this

/-- The symbol at a slot. -/
def symAt : List Int → Int → Nat
  | [], _ => 0
  | x :: t, s => if s < x then 0 else 1 + symAt t (s - x)
theorem specAt_loop (slot : Int) (t : List Int) : ∀ (pre : List Int), (∀ x ∈ pre ++ t, 0 ≤ x ∧ x ≤ 64) → (pre ++ t).length ≤ 12 → 0 ≤ slot - pre.sum → slot - pre.sum < t.sum →
    Ev (fun k => spec_l14At.l0 k (pre ++ t) slot (starts 0 (pre ++ t)) ((starts 0 (pre ++ t)).length : Int) (pre.length : Int)) ((pre.length : Int) + symAt t (slot - pre.sum)) := by
  induction t with
  | nil =>
    intro pre ha hl h0 h1
    simp only [List.sum_nil] at h1
    omega
  | cons x t ih =>
    intro pre ha hl h0 h1
    have hp := sum_bd pre (fun y hy => ha y (by simp [hy]))
    have hx := ha x (by simp)
    have hl' : pre.length + (t.length + 1) ≤ 12 := by simpa using hl
    have hs : (starts 0 (pre ++ x :: t)).length = pre.length + (t.length + 1) := by rw [starts_length]; simp
    rw [List.sum_cons] at h1
    refine Ev.step (fun k => spec_l14At.l0.eq_2 _ _ _ _ _ _) (Ev.pos (by omega) (Ev.pos (by omega) (Ev.pos (by omega) (Ev.pos (by simp; omega) ?_))))
    rw [rd_mid, rd_starts, wrap64_id (by omega) (by omega)]
    unfold symAt
    by_cases h : slot - pre.sum < x
    · rw [if_pos h]
      exact Ev.pos (by omega) (Ev.eq (Ev.now _) (by simp))
    · rw [if_neg h]
      refine Ev.neg (by omega) ?_
      rw [wrap64_id (by omega) (by omega), snoc_len pre x]
      have e : (pre ++ [x]).sum = pre.sum + x := by simp
      have := ih (pre ++ [x]) (by simpa using ha) (by simpa using hl) (by rw [e]; omega) (by rw [e]; omega)
      rw [e] at this
      refine Ev.eq (by simpa using this) ?_
      rw [show slot - (pre.sum + x) = slot - pre.sum - x by omega]
      simp
      omega
theorem specAt_ev (l : List Int) (slot : Int) (hg : goodC l = true) (h0 : 0 ≤ slot) (h1 : slot ≤ 63) : Ev (fun k => spec_l14At.f k l slot) (symAt l slot : Int) := by
  obtain ⟨_, h12, ha, hs⟩ := goodC_pos hg
  unfold spec_l14At.f
  refine Ev.bind (l14Starts_ev l ha h12) ?_
  have := specAt_loop slot l [] (by simpa using ha) (by simpa using h12) (by simpa using h0) (by simp; omega)
  simpa using this
theorem implAt_loop (t : List Int) : ∀ (pre : List Int) (s : Int), (∀ x ∈ pre ++ t, 0 ≤ x ∧ x ≤ 64) → (pre ++ t).length ≤ 12 → 0 ≤ s → s ≤ 63 → s < t.sum →
    Ev (fun k => impl_symbolAt.l0 k (pre ++ t) s (pre.length : Int)) ((pre.length : Int) + symAt t s) := by
  induction t with
  | nil =>
    intro pre s ha hl h0 h63 h1
    simp only [List.sum_nil] at h1
    omega
  | cons x t ih =>
    intro pre s ha hl h0 h63 h1
    have hx := ha x (by simp)
    have hl' : pre.length + (t.length + 1) ≤ 12 := by simpa using hl
    rw [List.sum_cons] at h1
    refine Ev.step (fun k => impl_symbolAt.l0.eq_2 _ _ _ _) (Ev.pos (by omega) (Ev.pos (by simp; omega) ?_))
    rw [rd_mid]
    unfold symAt
    by_cases h : s < x
    · rw [if_pos h]
      exact Ev.neg (by omega) (Ev.eq (Ev.now _) (by simp))
    · rw [if_neg h]
      refine Ev.pos (by omega) ?_
      rw [wrap64_id (by omega) (by omega), wrap64_id (by omega) (by omega), snoc_len pre x]
      have := ih (pre ++ [x]) (s - x) (by simpa using ha) (by simpa using hl) (by omega) (by omega) (by omega)
      refine Ev.eq (by simpa using this) ?_
      simp
      omega
theorem implAt_ev (l : List Int) (slot : Int) (hg : goodC l = true) (h0 : 0 ≤ slot) (h1 : slot ≤ 63) : Ev (fun k => impl_symbolAt.f k l slot) (symAt l slot : Int) := by
  obtain ⟨_, h12, ha, hs⟩ := goodC_pos hg
  unfold impl_symbolAt.f
  have := implAt_loop l [] slot (by simpa using ha) (by simpa using h12) h0 h1 (by omega)
  simpa using this

theorem symbolAt_both (l : List Int) (slot : Int) (hl : l.length ≤ 35184372088832) : ∃ r, Ev (fun k => spec_SymbolAt.f k l slot) r ∧ Ev (fun k => impl_SymbolAt.f k l slot) r := by
  unfold spec_SymbolAt.f impl_SymbolAt.f
  by_cases hg : goodC l = true
  · by_cases hs : inB slot 0 63 = true
    · have := inB_iff.1 hs
      exact ⟨_, Ev.bind (specGood_ev l hl) (Ev.pos hg (Ev.bindo (l1In_eq _ _ _) (Ev.pos hs (Ev.bind (specAt_ev l slot hg this.1 this.2) (Ev.now _))))),
        Ev.bind (implGood_ev l hl) (Ev.pos hg (Ev.bindo (within_eq _ _ _) (Ev.pos hs (Ev.bind (implAt_ev l slot hg this.1 this.2) (Ev.now _)))))⟩
    · exact ⟨_, Ev.bind (specGood_ev l hl) (Ev.pos hg (Ev.bindo (l1In_eq _ _ _) (Ev.neg hs (Ev.now _)))),
        Ev.bind (implGood_ev l hl) (Ev.pos hg (Ev.bindo (within_eq _ _ _) (Ev.neg hs (Ev.now _))))⟩
  · exact ⟨_, Ev.bind (specGood_ev l hl) (Ev.neg hg (Ev.now _)), Ev.bind (implGood_ev l hl) (Ev.neg hg (Ev.now _))⟩
end QFnExactSymbolAt
open QFnExactSymbolAt
theorem FnExactSymbolAt : laws_FnExactSymbolAt.Pure := by
  intro l slot hm hl hw hws
  refine Ev.rounds ?_
  unfold laws_FnExactSymbolAt.f
  by_cases hb : (l.length : Int) > 1048576
  · exact Ev.pos hb (Ev.now _)
  have hs : l.length ≤ 35184372088832 := by omega
  obtain ⟨r, h1, h2⟩ := symbolAt_both l slot hs
  refine Ev.neg hb (Ev.bind (toIntS_ev l hs) (Ev.bind h1 (Ev.bind (toIntS_ev l hs) (Ev.bind h2 (Ev.pos rfl ?_)))))
  exact Ev.step (fun k => laws_FnExactSymbolAt.j0.eq_2 _ _ _ _) (Ev.neg (by simp) (Ev.bind (toIntS_ev l hs) (Ev.bind (eqIntS_self l hs) (Ev.pos rfl (Ev.now _)))))

end Go.Proofs.Ytlfhbmbckgajiaa.Pure
