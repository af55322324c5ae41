/- The law FnCounts holds: for every argument within the row's bounds the printed function answers true. No further condition. -/
import Derived.Test.YtppgkkejddjacaaPFnCountsx8
import Derived.Lib.Zigzag
set_option linter.unusedVariables false
namespace Go.Proofs.Ytppgkkejddjacaa.Pure
open Go.RowKit Go.Proofs.Ytppgkkejddjacaa.PFnCounts Go.Proofs.YtppgkkejddjacaaW.PrintWords Go.Proofs.YtppgkkejddjacaaW.PrintLast
namespace QFnCounts
/-! ### Rounds -/
theorem Ev.pos {α : Type} {c : Prop} [Decidable c] {g f : Nat → Option α} {r : α} (hc : c) (h : Ev g r) : Ev (fun k => if c then g k else f k) r :=
  Ev.congr (fun _ => if_pos hc) h
theorem Ev.neg {α : Type} {c : Prop} [Decidable c] {g f : Nat → Option α} {r : α} (hc : ¬ c) (h : Ev f r) : Ev (fun k => if c then g k else f k) r :=
  Ev.congr (fun _ => if_neg hc) h
theorem Ev.bindo {α β : Type} {o : Option α} {f : Nat → α → Option β} {a : α} {r : β} (h : o = some a) (k : Ev (fun n => f n a) r) : Ev (fun n => o.bind (f n)) r :=
  Ev.congr (fun n => by rw [h]; rfl) k
theorem Ev.eq {α : Type} {g : Nat → Option α} {r s : α} (h : Ev g r) (e : r = s) : Ev g s := e ▸ h
theorem wrap64_id {x : Int} (h1 : -9223372036854775808 ≤ x) (h2 : x ≤ 9223372036854775807) : wrap64 x = x := by
  unfold wrap64
  omega
theorem wrap64_lo (x : Int) : -9223372036854775808 ≤ wrap64 x ∧ wrap64 x ≤ 9223372036854775807 := by
  unfold wrap64
  omega
theorem wf_i64 {x : Int} (h : (Lit.int .i64 x).wf = true) : -9223372036854775808 ≤ x ∧ x ≤ 9223372036854775807 := by
  simp [Lit.wf, IntKind.min, IntKind.max, IntKind.signed, IntKind.bits] at h
  omega
/-- Is a number in a range? -/
def inB (a b c : Int) : Bool := decide (b ≤ a) && decide (a ≤ c)
theorem inB_iff {a b c : Int} : inB a b c = true ↔ b ≤ a ∧ a ≤ c := by simp [inB]
theorem inB_no {a b c : Int} : inB a b c = false ↔ ¬ (b ≤ a ∧ a ≤ c) := by rw [← inB_iff]; simp

theorem l1In_eq (a b c : Int) : spec_l1In.f a b c = some (inB a b c) := by
  unfold spec_l1In.f inB
  by_cases h : b ≤ a <;> simp [h]
theorem within_eq (a b c : Int) : impl_within.f a b c = some (inB a b c) := by
  unfold impl_within.f inB
  by_cases h : b ≤ a <;> simp [h]

theorem rd_nat (l : List Int) (i : Nat) (h : i < l.length) : rd l (i : Int) = l[i] := by
  simp [rd, List.getD_eq_getElem?_getD, List.getElem?_eq_getElem h]

theorem rd_mid (pre : List Int) (x : Int) (t : List Int) : rd (pre ++ x :: t) (pre.length : Int) = x := by
  rw [rd_nat _ _ (by simp)]
  simp
theorem snoc_len (pre : List Int) (x : Int) : (pre.length : Int) + 1 = ((pre ++ [x]).length : Int) := by simp

/-! ### Counts -/
/-- What the reference says of counts: the rest t behind the sum s; b: is the number of them right? -/
def specFrom (b : Bool) : List Int → Int → Bool
  | [], s => b && (s == 64)
  | x :: t, s => inB x 0 64 && specFrom b t (s + x)
def implFrom (b : Bool) : List Int → Int → Bool
  | [], s => b && (s == 64)
  | x :: t, s => inB x 0 (64 - s) && implFrom b t (s + x)
theorem specFrom_past (b : Bool) : ∀ (t : List Int) (s : Int), 64 < s → specFrom b t s = false := by
  intro t
  induction t with
  | nil => intro s hs; simp [specFrom]; intro _; omega
  | cons x t ih =>
    intro s hs
    unfold specFrom
    by_cases h : inB x 0 64 = true
    · rw [ih (s + x) (by have := inB_iff.1 h; omega)]; simp
    · simp only [Bool.not_eq_true] at h; rw [h]; rfl
theorem implFrom_eq (b : Bool) : ∀ (t : List Int) (s : Int), 0 ≤ s → s ≤ 64 → implFrom b t s = specFrom b t s := by
  intro t
  induction t with
  | nil => intro s _ _; rfl
  | cons x t ih =>
    intro s h0 h1
    unfold implFrom specFrom
    by_cases h : 0 ≤ x ∧ x ≤ 64 - s
    · rw [inB_iff.2 h, inB_iff.2 ⟨h.1, by omega⟩, ih (s + x) (by omega) (by omega)]
    · rw [inB_no.2 h]
      by_cases h2 : 0 ≤ x ∧ x ≤ 64
      · rw [specFrom_past b t (s + x) (by omega)]; simp
      · rw [inB_no.2 h2]; rfl
/-- Are counts valid? -/
def goodC (l : List Int) : Bool := specFrom (inB (l.length : Int) 1 12) l 0
theorem specGood_loop (t : List Int) : ∀ (pre : List Int) (s : Int), (pre ++ t).length ≤ 35184372088832 → 0 ≤ s → s ≤ 64 * pre.length →
    Ev (fun k => spec_GoodCounts.l0 k (pre ++ t) s (pre ++ t) ((pre ++ t).length : Int) (pre.length : Int)) (specFrom (inB ((pre ++ t).length : Int) 1 12) t s) := by
  induction t with
  | nil =>
    intro pre s hl h0 h1
    refine Ev.step (fun k => spec_GoodCounts.l0.eq_2 _ _ _ _ _ _) (Ev.neg (by simp) (Ev.bindo (l1In_eq _ _ _) ?_))
    unfold specFrom
    by_cases h : inB ((pre ++ []).length : Int) 1 12 = true
    · exact Ev.pos h (Ev.eq (Ev.now _) (by rw [h]; rfl))
    · exact Ev.neg h (Ev.eq (Ev.now _) (by simp only [Bool.not_eq_true] at h; rw [h]; rfl))
  | cons x t ih =>
    intro pre s hl h0 h1
    have hl' : pre.length + (t.length + 1) ≤ 35184372088832 := by simpa using hl
    refine Ev.step (fun k => spec_GoodCounts.l0.eq_2 _ _ _ _ _ _) (Ev.pos (by simp; omega) (Ev.pos (by omega) (Ev.pos (by simp; omega) (Ev.bindo (l1In_eq _ _ _) ?_))))
    rw [rd_mid]
    unfold specFrom
    by_cases h : inB x 0 64 = true
    · have hx := inB_iff.1 h
      refine Ev.pos h ?_
      rw [h, wrap64_id (by omega) (by omega), wrap64_id (by omega) (by omega), snoc_len pre x]
      have := ih (pre ++ [x]) (s + x) (by simpa using hl) (by omega) (by simp; omega)
      simpa using this
    · exact Ev.neg h (Ev.eq (Ev.now _) (by simp only [Bool.not_eq_true] at h; rw [h]; rfl))
theorem specGood_ev (l : List Int) (hl : l.length ≤ 35184372088832) : Ev (fun k => spec_GoodCounts.f k l) (goodC l) := by
  unfold spec_GoodCounts.f goodC
  have := specGood_loop l [] 0 (by simpa using hl) (by omega) (by simp)
  simpa using this
theorem implGood_loop (t : List Int) : ∀ (pre : List Int) (s : Int), (pre ++ t).length ≤ 35184372088832 → 0 ≤ s → s ≤ 64 →
    Ev (fun k => impl_GoodCounts.l0 k (pre ++ t) s (pre ++ t) ((pre ++ t).length : Int) (pre.length : Int)) (implFrom (inB ((pre ++ t).length : Int) 1 12) t s) := by
  induction t with
  | nil =>
    intro pre s hl h0 h1
    refine Ev.step (fun k => impl_GoodCounts.l0.eq_2 _ _ _ _ _ _) (Ev.neg (by simp) (Ev.bindo (within_eq _ _ _) ?_))
    unfold implFrom
    by_cases h : inB ((pre ++ []).length : Int) 1 12 = true
    · exact Ev.pos h (Ev.eq (Ev.now _) (by rw [h]; rfl))
    · exact Ev.neg h (Ev.eq (Ev.now _) (by simp only [Bool.not_eq_true] at h; rw [h]; rfl))
  | cons x t ih =>
    intro pre s hl h0 h1
    have hl' : pre.length + (t.length + 1) ≤ 35184372088832 := by simpa using hl
    refine Ev.step (fun k => impl_GoodCounts.l0.eq_2 _ _ _ _ _ _) (Ev.pos (by simp; omega) (Ev.pos (by omega) (Ev.pos (by simp; omega) (Ev.bindo (within_eq _ _ _) ?_))))
    rw [rd_mid, wrap64_id (by omega) (by omega)]
    unfold implFrom
    by_cases h : inB x 0 (64 - s) = true
    · have hx := inB_iff.1 h
      refine Ev.pos h ?_
      rw [h, wrap64_id (by omega) (by omega), wrap64_id (by omega) (by omega), snoc_len pre x]
      have := ih (pre ++ [x]) (s + x) (by simpa using hl) (by omega) (by omega)
      simpa using this
    · exact Ev.neg h (Ev.eq (Ev.now _) (by simp only [Bool.not_eq_true] at h; rw [h]; rfl))
theorem implGood_ev (l : List Int) (hl : l.length ≤ 35184372088832) : Ev (fun k => impl_GoodCounts.f k l) (goodC l) := by
  unfold impl_GoodCounts.f goodC
  rw [← implFrom_eq _ l 0 (by omega) (by omega)]
  have := implGood_loop l [] 0 (by simpa using hl) (by omega) (by omega)
  simpa using this
/-- What valid counts are. -/
theorem specFrom_pos (b : Bool) : ∀ (t : List Int) (s : Int), specFrom b t s = true → b = true ∧ (∀ x ∈ t, 0 ≤ x ∧ x ≤ 64) ∧ s + t.sum = 64 := by
  intro t
  induction t with
  | nil =>
    intro s h
    simp only [specFrom, Bool.and_eq_true, beq_iff_eq] at h
    exact ⟨h.1, by simp, by simpa using h.2⟩
  | cons x t ih =>
    intro s h
    simp only [specFrom, Bool.and_eq_true] at h
    obtain ⟨hb, ha, hs⟩ := ih _ h.2
    have hx := inB_iff.1 h.1
    refine ⟨hb, ?_, by rw [List.sum_cons]; omega⟩
    intro y hy
    rcases List.mem_cons.1 hy with rfl | hy
    · exact hx
    · exact ha y hy
theorem goodC_pos {l : List Int} (h : goodC l = true) : 1 ≤ l.length ∧ l.length ≤ 12 ∧ (∀ x ∈ l, 0 ≤ x ∧ x ≤ 64) ∧ l.sum = 64 := by
  obtain ⟨hb, ha, hs⟩ := specFrom_pos _ l 0 h
  have := inB_iff.1 hb
  exact ⟨by omega, by omega, ha, by omega⟩

/-! ### Starts -/
theorem sum_bd : ∀ (l : List Int), (∀ x ∈ l, 0 ≤ x ∧ x ≤ 64) → 0 ≤ l.sum ∧ l.sum ≤ 64 * l.length := by
  intro l
  induction l with
  | nil => intro _; simp
  | cons x t ih =>
    intro h
    have h1 := h x (by simp)
    have h2 := ih (fun y hy => h y (by simp [hy]))
    rw [List.sum_cons, List.length_cons]
    omega
/-- The sum of what stands ahead of each, from s on. -/
def starts : Int → List Int → List Int
  | _, [] => []
  | s, x :: t => s :: starts (s + x) t
theorem starts_length : ∀ (l : List Int) (s : Int), (starts s l).length = l.length := by
  intro l
  induction l with
  | nil => intro s; rfl
  | cons x t ih => intro s; simp [starts, ih]
theorem starts_append : ∀ (l m : List Int) (s : Int), starts s (l ++ m) = starts s l ++ starts (s + l.sum) m := by
  intro l
  induction l with
  | nil => intro m s; simp [starts]
  | cons x t ih => intro m s; simp [starts, ih, Int.add_assoc]
theorem rd_starts (pre : List Int) (x : Int) (t : List Int) : rd (starts 0 (pre ++ x :: t)) (pre.length : Int) = pre.sum := by
  rw [starts_append, ← starts_length pre 0]
  unfold starts
  rw [rd_mid]
  omega

theorem l14Starts_loop (t : List Int) : ∀ (pre : List Int), (∀ x ∈ pre ++ t, 0 ≤ x ∧ x ≤ 64) → (pre ++ t).length ≤ 12 →
    Ev (fun k => spec_l14Starts.l0 k (starts 0 pre) pre.sum (pre ++ t) ((pre ++ t).length : Int) (pre.length : Int)) (starts 0 (pre ++ t)) := by
  induction t with
  | nil =>
    intro pre ha hl
    refine Ev.step (fun k => spec_l14Starts.l0.eq_2 _ _ _ _ _ _) (Ev.neg (by simp) ?_)
    rw [List.append_nil]
    exact Ev.now _
  | cons x t ih =>
    intro pre ha hl
    have hp := sum_bd pre (fun y hy => ha y (by simp [hy]))
    have hx := ha x (by simp)
    have hl' : pre.length + (t.length + 1) ≤ 12 := by simpa using hl
    refine Ev.step (fun k => spec_l14Starts.l0.eq_2 _ _ _ _ _ _) (Ev.pos (by simp; omega) (Ev.pos (by omega) (Ev.pos (by simp; omega) (Ev.pos (by rw [starts_length]; omega) ?_))))
    rw [rd_mid, wrap64_id (by omega) (by omega), wrap64_id (by omega) (by omega), snoc_len pre x]
    have e1 : starts 0 pre ++ [pre.sum] = starts 0 (pre ++ [x]) := by rw [starts_append]; simp [starts]
    have e2 : pre.sum + x = (pre ++ [x]).sum := by simp
    rw [e1, e2]
    have := ih (pre ++ [x]) (by simpa using ha) (by simpa using hl)
    simpa using this
theorem l14Starts_ev (l : List Int) (ha : ∀ x ∈ l, 0 ≤ x ∧ x ≤ 64) (hl : l.length ≤ 12) : Ev (fun k => spec_l14Starts.f k l) (starts 0 l) := by
  unfold spec_l14Starts.f
  have := l14Starts_loop l [] (by simpa using ha) (by simpa using hl)
  simpa [starts] using this

theorem startOf_loop (t : List Int) : ∀ (pre : List Int) (s : Int), (∀ x ∈ pre ++ t, 0 ≤ x ∧ x ≤ 64) → (pre ++ t).length ≤ 12 → 0 ≤ s → s ≤ 64 * pre.length →
    Ev (fun k => impl_startOf.l0 k s (pre ++ t) ((pre ++ t).length : Int) (pre.length : Int)) (s + t.sum) := by
  induction t with
  | nil =>
    intro pre s ha hl h0 h1
    refine Ev.step (fun k => impl_startOf.l0.eq_2 _ _ _ _ _) (Ev.neg (by simp) (Ev.eq (Ev.now _) (by simp)))
  | cons x t ih =>
    intro pre s ha hl h0 h1
    have hx := ha x (by simp)
    have hl' : pre.length + (t.length + 1) ≤ 12 := by simpa using hl
    refine Ev.step (fun k => impl_startOf.l0.eq_2 _ _ _ _ _) (Ev.pos (by simp; omega) (Ev.pos (by omega) (Ev.pos (by simp; omega) ?_)))
    rw [rd_mid, wrap64_id (by omega) (by omega), wrap64_id (by omega) (by omega), snoc_len pre x]
    have := ih (pre ++ [x]) (s + x) (by simpa using ha) (by simpa using hl) (by omega) (by simp; omega)
    refine Ev.eq (by simpa using this) ?_
    rw [List.sum_cons]
    omega
theorem startOf_ev (l : List Int) (i : Nat) (ha : ∀ x ∈ l, 0 ≤ x ∧ x ≤ 64) (hl : l.length ≤ 12) (hi : i ≤ l.length) : Ev (fun k => impl_startOf.f k l (i : Int)) (l.take i).sum := by
  unfold impl_startOf.f
  refine Ev.pos (by omega) (Ev.pos (by omega) ?_)
  rw [Int.toNat_natCast]
  have := startOf_loop (l.take i) [] 0 (by intro x hx; exact ha x (List.mem_of_mem_take (by simpa using hx))) (by simp; omega) (by omega) (by simp)
  simpa using this

/-- The symbol at a slot. -/
def symAt : List Int → Int → Nat
  | [], _ => 0
  | x :: t, s => if s < x then 0 else 1 + symAt t (s - x)
theorem implAt_loop (t : List Int) : ∀ (pre : List Int) (s : Int), (∀ x ∈ pre ++ t, 0 ≤ x ∧ x ≤ 64) → (pre ++ t).length ≤ 12 → 0 ≤ s → s ≤ 63 → s < t.sum →
    Ev (fun k => impl_symbolAt.l0 k (pre ++ t) s (pre.length : Int)) ((pre.length : Int) + symAt t s) := by
  induction t with
  | nil =>
    intro pre s ha hl h0 h63 h1
    simp only [List.sum_nil] at h1
    omega
  | cons x t ih =>
    intro pre s ha hl h0 h63 h1
    have hx := ha x (by simp)
    have hl' : pre.length + (t.length + 1) ≤ 12 := by simpa using hl
    rw [List.sum_cons] at h1
    refine Ev.step (fun k => impl_symbolAt.l0.eq_2 _ _ _ _) (Ev.pos (by omega) (Ev.pos (by simp; omega) ?_))
    rw [rd_mid]
    unfold symAt
    by_cases h : s < x
    · rw [if_pos h]
      exact Ev.neg (by omega) (Ev.eq (Ev.now _) (by simp))
    · rw [if_neg h]
      refine Ev.pos (by omega) ?_
      rw [wrap64_id (by omega) (by omega), wrap64_id (by omega) (by omega), snoc_len pre x]
      have := ih (pre ++ [x]) (s - x) (by simpa using ha) (by simpa using hl) (by omega) (by omega) (by omega)
      refine Ev.eq (by simpa using this) ?_
      simp
      omega
theorem implAt_ev (l : List Int) (slot : Int) (hg : goodC l = true) (h0 : 0 ≤ slot) (h1 : slot ≤ 63) : Ev (fun k => impl_symbolAt.f k l slot) (symAt l slot : Int) := by
  obtain ⟨_, h12, ha, hs⟩ := goodC_pos hg
  unfold impl_symbolAt.f
  have := implAt_loop l [] slot (by simpa using ha) (by simpa using h12) h0 h1 (by omega)
  simpa using this

/-! ### Starts and counts -/
theorem rd_starts_take (l : List Int) (y : Int) (h0 : 0 ≤ y) (h1 : y < (l.length : Int)) : rd (starts 0 l) y = (l.take y.toNat).sum := by
  have hy : y.toNat < l.length := by omega
  have e : l = l.take y.toNat ++ l[y.toNat] :: l.drop (y.toNat + 1) := by rw [← List.drop_eq_getElem_cons hy, List.take_append_drop]
  have hl : (l.take y.toNat).length = y.toNat := by rw [List.length_take]; omega
  have := rd_starts (l.take y.toNat) l[y.toNat] (l.drop (y.toNat + 1))
  rw [← e, hl, show ((y.toNat : Nat) : Int) = y by omega] at this
  exact this
theorem take_bd (l : List Int) (n : Nat) (ha : ∀ x ∈ l, 0 ≤ x ∧ x ≤ 64) (hl : l.length ≤ 12) : 0 ≤ (l.take n).sum ∧ (l.take n).sum ≤ 768 := by
  have := sum_bd (l.take n) (fun x hx => ha x (List.mem_of_mem_take hx))
  have h2 : (l.take n).length ≤ l.length := by rw [List.length_take]; omega
  omega
theorem rd_good {l : List Int} (hg : goodC l = true) (y : Int) (h0 : 0 ≤ y) (h1 : y < (l.length : Int)) : 0 ≤ rd l y ∧ rd l y ≤ 64 := by
  obtain ⟨_, _, ha, _⟩ := goodC_pos hg
  have hm : rd l y ∈ l := by
    unfold rd
    rw [List.getD_eq_getElem?_getD, List.getElem?_eq_getElem (by omega)]
    exact List.getElem_mem _
  exact ha _ hm

/-- The state goes out by words while it is too great; n: how often at most. -/
def spill (f : Int) : Nat → Int → List Int → Int × List Int
  | 0, s, w => (s, w)
  | n + 1, s, w => if 1024 * f ≤ s then spill f n (s / 16) (w ++ [s % 16]) else (s, w)
def joinS (l : List Int) (y : Int) (f : Int) (p : Int × List Int) : Int × List Int := (p.1 / f * 64 + p.1 % f + (l.take y.toNat).sum, p.2)
/-- What encoding a symbol y of the counts l gives from state s. -/
def putP (l : List Int) (s y : Int) : Int × List Int := joinS l y (rd l y) (spill (rd l y) 2 s [])
theorem spill_state (f s : Int) (hf : 1 ≤ f ∧ f ≤ 64) (h0 : 0 ≤ s) (h1 : s < 1024 * f) : 0 ≤ s / f ∧ s / f < 1024 ∧ 0 ≤ s % f ∧ s % f < f := by
  refine ⟨Int.ediv_nonneg h0 (by omega), ?_, Int.emod_nonneg _ (by omega), Int.emod_lt_of_pos _ (by omega)⟩
  rw [Int.ediv_lt_iff_lt_mul (by omega)]
  exact h1
theorem implPut_loop (l : List Int) (y f : Int) (ha : ∀ x ∈ l, 0 ≤ x ∧ x ≤ 64) (hl : l.length ≤ 12) (hy0 : 0 ≤ y) (hy1 : y < (l.length : Int)) (hf : 1 ≤ f ∧ f ≤ 64) : ∀ (n : Nat) (s : Int) (w : List Int), 0 ≤ s → s < 1024 * 16 ^ n → n ≤ 2 → w.length + n ≤ 2 →
    Ev (fun k => impl_put.l0 k l s y f w) (joinS l y f (spill f n s w)) := by
  have hst := startOf_ev l y.toNat ha hl (by omega)
  rw [show ((y.toNat : Nat) : Int) = y by omega] at hst
  intro n
  induction n with
  | zero =>
    intro s w h0 h1 hn hw
    have hlt : s < 1024 * f := by simp at h1; omega
    obtain ⟨b0, b1, b2, b3⟩ := spill_state f s hf h0 hlt
    have hs := take_bd l y.toNat ha hl
    refine Ev.step (fun k => impl_put.l0.eq_2 _ _ _ _ _ _) (Ev.neg (by rw [wrap64_id (by omega) (by omega)]; omega) (Ev.neg (by omega) (Ev.bind hst ?_)))
    rw [Int.tdiv_eq_ediv_of_nonneg h0, Int.tmod_eq_emod_of_nonneg h0, wrap64_id (x := s / f) (by omega) (by omega), wrap64_id (x := s / f * 64) (by omega) (by omega), wrap64_id (x := s / f * 64 + s % f) (by omega) (by omega), wrap64_id (by omega) (by omega)]
    exact Ev.now _
  | succ n ih =>
    intro s w h0 h1 hn hw
    have hs := take_bd l y.toNat ha hl
    have hp : (16 : Int) ^ (n + 1) = 16 ^ n * 16 := by rw [Int.pow_succ]
    have hp2 : (16 : Int) ^ n ≤ 256 := by
      have : n = 0 ∨ n = 1 := by omega
      rcases this with rfl | rfl <;> decide
    rw [hp] at h1
    unfold spill
    by_cases hc : 1024 * f ≤ s
    · rw [if_pos hc]
      refine Ev.step (fun k => impl_put.l0.eq_2 _ _ _ _ _ _) (Ev.pos (by rw [wrap64_id (by omega) (by omega)]; omega) (Ev.pos (by omega) ?_))
      rw [Int.tdiv_eq_ediv_of_nonneg h0, Int.tmod_eq_emod_of_nonneg h0, wrap64_id (x := s / 16) (by omega) (by omega)]
      exact ih (s / 16) (w ++ [s % 16]) (by omega) (by omega) (by omega) (by simp; omega)
    · rw [if_neg hc]
      obtain ⟨b0, b1, b2, b3⟩ := spill_state f s hf h0 (by omega)
      refine Ev.step (fun k => impl_put.l0.eq_2 _ _ _ _ _ _) (Ev.neg (by rw [wrap64_id (by omega) (by omega)]; omega) (Ev.neg (by omega) (Ev.bind hst ?_)))
      rw [Int.tdiv_eq_ediv_of_nonneg h0, Int.tmod_eq_emod_of_nonneg h0, wrap64_id (x := s / f) (by omega) (by omega), wrap64_id (x := s / f * 64) (by omega) (by omega), wrap64_id (x := s / f * 64 + s % f) (by omega) (by omega), wrap64_id (by omega) (by omega)]
      exact Ev.now _
/-- Is y a symbol with a positive count? -/
def hasB (l : List Int) (y : Int) : Bool := goodC l && inB y 0 ((l.length : Int) - 1) && decide (0 < rd l y)
theorem hasB_iff {l : List Int} {y : Int} : hasB l y = true ↔ goodC l = true ∧ 0 ≤ y ∧ y < (l.length : Int) ∧ 0 < rd l y := by
  unfold hasB
  simp only [Bool.and_eq_true, decide_eq_true_eq, inB_iff]
  constructor
  · rintro ⟨⟨h1, h2, h3⟩, h4⟩; exact ⟨h1, h2, by omega, h4⟩
  · rintro ⟨h1, h2, h3, h4⟩; exact ⟨⟨h1, h2, by omega⟩, h4⟩
theorem has_ev (l : List Int) (y : Int) (hl : l.length ≤ 35184372088832) : Ev (fun k => impl_has.f k l y) (hasB l y) := by
  unfold impl_has.f hasB
  by_cases hg : goodC l = true
  · refine Ev.bind (implGood_ev l hl) (Ev.pos hg (Ev.bindo (within_eq _ _ _) ?_))
    rw [wrap64_id (by omega) (by omega), hg]
    by_cases hy : inB y 0 ((l.length : Int) - 1) = true
    · have := inB_iff.1 hy
      rw [hy]
      refine Ev.pos rfl (Ev.pos this.1 (Ev.pos (by omega) ?_))
      simpa using Ev.now _
    · refine Ev.neg hy ?_
      simp only [Bool.not_eq_true] at hy
      rw [hy]
      simpa using Ev.now _
  · simp only [Bool.not_eq_true] at hg
    rw [hg]
    exact Ev.bind (implGood_ev l hl) (Ev.neg (by rw [hg]; simp) (Ev.now _))
theorem put_ev (l : List Int) (s y : Int) (hh : hasB l y = true) (hs : 0 ≤ s ∧ s ≤ 65535) : Ev (fun k => impl_put.f k l s y) (putP l s y) := by
  obtain ⟨hg, h0, h1, hr⟩ := hasB_iff.1 hh
  obtain ⟨_, h12, ha, _⟩ := goodC_pos hg
  have hr2 := rd_good hg y h0 h1
  unfold impl_put.f
  exact Ev.pos h0 (Ev.pos h1 (implPut_loop l y (rd l y) ha h12 h0 h1 (by omega) 2 s [] hs.1 (by simp; omega) (by omega) (by simp)))
theorem spill_len (f : Int) : ∀ (n : Nat) (s : Int) (w : List Int), (spill f n s w).2.length ≤ w.length + n := by
  intro n
  induction n with
  | zero => intro s w; simp [spill]
  | succ n ih =>
    intro s w
    unfold spill
    split
    · have := ih (s / 16) (w ++ [s % 16])
      simp only [List.length_append, List.length_cons, List.length_nil] at this
      omega
    · simp
theorem putP_len (l : List Int) (s y : Int) : (putP l s y).2.length ≤ 2 := by
  have := spill_len (rd l y) 2 s []
  simpa [putP, joinS] using this
/-- What PutSymbol gives. -/
def putR (l : List Int) (s y : Int) : Int × List Int × Bool := if hasB l y && inB s 4096 65535 then ((putP l s y).1, (putP l s y).2, true) else (0, [], false)
theorem putR_len (l : List Int) (s y : Int) : (putR l s y).2.1.length ≤ 2 := by
  unfold putR
  split
  · exact putP_len l s y
  · simp

/-! ### Is there one for which it holds -/
theorem anyO_ev {α : Type} {f : Nat → α → Option Bool} {b : α → Bool} : ∀ (l : List α), (∀ x ∈ l, Ev (fun k => f k x) (b x)) → Ev (fun k => anyO (f k) l) (l.any b) := by
  intro l
  induction l with
  | nil => intro _; exact Ev.now _
  | cons x t ih =>
    intro h
    have ht := ih (fun y hy => h y (by simp [hy]))
    rw [List.any_cons]
    refine Ev.bind (f := fun k (b : Bool) => if b = true then some true else anyO (f k) t) (h x (by simp)) ?_
    cases hb : b x
    · exact Ev.neg (by simp) (by simpa using ht)
    · exact Ev.pos rfl (Ev.now _)

/-! ### Counts for symbols -/
theorem set_bd {f : List Int} {B : Int} (hf : ∀ x ∈ f, 0 ≤ x ∧ x ≤ B) (i : Nat) (v : Int) (hv : 0 ≤ v ∧ v ≤ B + 1) : ∀ x ∈ f.set i v, 0 ≤ x ∧ x ≤ B + 1 := by
  intro x hx
  rcases List.mem_or_eq_of_mem_set hx with h | h
  · have := hf x h; omega
  · rw [h]; exact hv
theorem rd_mem (f : List Int) (s : Int) (h0 : 0 ≤ s) (h1 : s < (f.length : Int)) : rd f s ∈ f := by
  unfold rd
  rw [List.getD_eq_getElem?_getD, List.getElem?_eq_getElem (by omega)]
  exact List.getElem_mem _
/-- One more of each of these symbols. -/
def tally (f : List Int) : List Int → List Int
  | [] => f
  | s :: t => tally (f.set s.toNat (rd f s + 1)) t
theorem tally_ok : ∀ (t f : List Int) (B : Int), (∀ x ∈ f, 0 ≤ x ∧ x ≤ B) → (∀ s ∈ t, 0 ≤ s ∧ s < (f.length : Int)) → 0 ≤ B → (tally f t).length = f.length ∧ ∀ x ∈ tally f t, 0 ≤ x ∧ x ≤ B + t.length := by
  intro t
  induction t with
  | nil => intro f B hf _ _; exact ⟨rfl, by simpa [tally] using hf⟩
  | cons s t ih =>
    intro f B hf hs hB
    have h0 := hs s (by simp)
    have hm := hf _ (rd_mem f s h0.1 h0.2)
    obtain ⟨h1, h2⟩ := ih (f.set s.toNat (rd f s + 1)) (B + 1) (set_bd hf _ _ (by omega)) (by intro x hx; simpa using hs x (by simp [hx])) (by omega)
    refine ⟨by simpa [tally] using h1, fun x hx => ?_⟩
    have := h2 x hx
    simp only [List.length_cons]
    omega
/-- What a symbol gets beyond one. -/
def moreOf (len kinds n : Int) : Int := Int.tdiv (n * (64 - kinds)) (mx 1 len)
def finish (o : List Int) (l : Int) : List Int × Bool := (o.set 0 (rd o 0 + l), true)
theorem mx_pos (len : Int) : 1 ≤ mx 1 len := by unfold mx; split <;> omega
theorem moreOf_bd (len kinds n : Int) (hn : 0 ≤ n ∧ n ≤ 80) (hk : 1 ≤ kinds ∧ kinds ≤ 12) : 0 ≤ moreOf len kinds n ∧ moreOf len kinds n ≤ 5040 ∧ 0 ≤ n * (64 - kinds) ∧ n * (64 - kinds) ≤ 5040 := by
  have h1 : 0 ≤ n * (64 - kinds) := Int.mul_nonneg hn.1 (by omega)
  have h2 : n * (64 - kinds) ≤ 80 * 63 := Int.mul_le_mul hn.2 (by omega) (by omega) (by omega)
  have hp := mx_pos len
  have h3 : 0 ≤ moreOf len kinds n := Int.tdiv_nonneg h1 (by omega)
  have h4 : moreOf len kinds n ≤ n * (64 - kinds) := by
    unfold moreOf
    rw [Int.tdiv_eq_ediv_of_nonneg h1]
    exact Int.ediv_le_self _ h1
  exact ⟨h3, by omega, h1, by omega⟩
theorem finish_ev (o : List Int) (l : Int) (ho : 0 < o.length) (hb : ∀ x ∈ o, 0 ≤ x ∧ x ≤ 5041) (hl : -100000 ≤ l ∧ l ≤ 100000) : (o.set (0 : Int).toNat (wrap64 ((rd o 0) + l)), true) = finish o l := by
  have := hb _ (rd_mem o 0 (by omega) (by omega))
  rw [wrap64_id (by omega) (by omega)]
  rfl
theorem specL1 (l0 : List Int) (kinds : Int) (hk : 1 ≤ kinds ∧ kinds ≤ 12) (hl : l0.length ≤ 80) (h0 : l0 = [] → True) (t : List Int) : ∀ (pre o : List Int) (L : Int), (pre ++ t).length ≤ 12 → (∀ x ∈ t, 0 ≤ x ∧ x ≤ 80) → (l0.length = 0 → ∀ x ∈ t, x = 0) → o.length = pre.length → (∀ x ∈ o, 0 ≤ x ∧ x ≤ 5041) →
    -(5040 * pre.length : Int) ≤ L → L ≤ 64 → 0 < (pre ++ t).length →
    Ev (fun k => spec_CountsFor.l1 k l0 (64 - kinds) L o (pre ++ t) ((pre ++ t).length : Int) (pre.length : Int)) (finish (o ++ t.map (fun n => 1 + moreOf (l0.length : Int) kinds n)) (L - (t.map (moreOf (l0.length : Int) kinds)).sum)) := by
  induction t with
  | nil =>
    intro pre o L hp ht hz ho hob hL1 hL2 hpos
    simp only [List.append_nil] at hp hpos
    refine Ev.step (fun k => spec_CountsFor.l1.eq_2 _ _ _ _ _ _ _ _) (Ev.neg (by simp) (Ev.pos (by omega) ?_))
    rw [finish_ev o L (by omega) hob (by omega)]
    simpa using Ev.now _
  | cons x t ih =>
    intro pre o L hp ht hz ho hob hL1 hL2 hpos
    have hp' : pre.length + (t.length + 1) ≤ 12 := by simpa using hp
    have hx := ht x (by simp)
    obtain ⟨m1, m2, m3, m4⟩ := moreOf_bd (l0.length : Int) kinds x hx hk
    refine Ev.step (fun k => spec_CountsFor.l1.eq_2 _ _ _ _ _ _ _ _) (Ev.pos (by simp; omega) (Ev.pos (by omega) (Ev.pos (by simp; omega) ?_)))
    rw [rd_mid]
    have next := ih (pre ++ [x]) (o ++ [1 + moreOf (l0.length : Int) kinds x]) (L - moreOf (l0.length : Int) kinds x) (by simpa using hp) (fun y hy => ht y (by simp [hy])) (fun h y hy => hz h y (by simp [hy])) (by simp [ho])
      (by intro y hy; rcases List.mem_append.1 hy with h | h; exact hob y h; simp at h; omega) (by simp; omega) (by omega) (by simp; omega)
    have fin : Ev (fun k => spec_CountsFor.l1 k l0 (64 - kinds) (L - moreOf (l0.length : Int) kinds x) (o ++ [1 + moreOf (l0.length : Int) kinds x]) (pre ++ x :: t) ((pre ++ x :: t).length : Int) ((pre.length : Int) + 1))
        (finish (o ++ (x :: t).map (fun n => 1 + moreOf (l0.length : Int) kinds n)) (L - ((x :: t).map (moreOf (l0.length : Int) kinds)).sum)) := by
      rw [snoc_len pre x]
      refine Ev.eq (by simpa using next) ?_
      simp only [List.map_cons, List.sum_cons]
      congr 1
      omega
    by_cases hc : (l0.length : Int) > 0
    · have e : Int.tdiv (x * (64 - kinds)) (l0.length : Int) = moreOf (l0.length : Int) kinds x := by
        unfold moreOf mx
        split
        · rfl
        · rw [show (l0.length : Int) = 1 by omega]
      refine Ev.pos hc (Ev.neg (by omega) (Ev.pos (by omega) ?_))
      rw [wrap64_id (x := x * (64 - kinds)) (by omega) (by omega), e, wrap64_id (x := moreOf (l0.length : Int) kinds x) (by omega) (by omega), wrap64_id (x := L - _) (by omega) (by omega), wrap64_id (x := 1 + _) (by omega) (by omega), wrap64_id (x := (pre.length : Int) + 1) (by omega) (by omega)]
      exact fin
    · have e : moreOf (l0.length : Int) kinds x = 0 := by
        have := hz (by omega) x (by simp)
        subst this
        simp [moreOf]
      rw [e] at fin
      refine Ev.neg hc (Ev.pos (by omega) ?_)
      rw [wrap64_id (x := L - 0) (by omega) (by omega), wrap64_id (x := (pre.length : Int) + 1) (by omega) (by omega)]
      exact fin
theorem implL1 (l0 : List Int) (kinds : Int) (hk : 1 ≤ kinds ∧ kinds ≤ 12) (hl : l0.length ≤ 80) (t : List Int) : ∀ (pre o : List Int) (R : Int), (pre ++ t).length ≤ 12 → (∀ x ∈ t, 0 ≤ x ∧ x ≤ 80) → o.length = pre.length → (∀ x ∈ o, 0 ≤ x ∧ x ≤ 5041) →
    -(5041 * pre.length : Int) ≤ R → R ≤ 64 → 0 < (pre ++ t).length →
    Ev (fun k => impl_CountsFor.l1 k l0 o R (pre ++ t) ((pre ++ t).length : Int) (pre.length : Int) kinds) (finish (o ++ t.map (fun n => 1 + moreOf (l0.length : Int) kinds n)) (R - (t.map (fun n => 1 + moreOf (l0.length : Int) kinds n)).sum)) := by
  induction t with
  | nil =>
    intro pre o R hp ht ho hob hL1 hL2 hpos
    simp only [List.append_nil] at hp hpos
    refine Ev.step (fun k => impl_CountsFor.l1.eq_2 _ _ _ _ _ _ _ _) (Ev.neg (by simp) (Ev.pos (by omega) ?_))
    rw [finish_ev o R (by omega) hob (by omega)]
    simpa using Ev.now _
  | cons x t ih =>
    intro pre o R hp ht ho hob hL1 hL2 hpos
    have hp' : pre.length + (t.length + 1) ≤ 12 := by simpa using hp
    have hx := ht x (by simp)
    obtain ⟨m1, m2, m3, m4⟩ := moreOf_bd (l0.length : Int) kinds x hx hk
    have hm := mx_pos (l0.length : Int)
    refine Ev.step (fun k => impl_CountsFor.l1.eq_2 _ _ _ _ _ _ _ _) (Ev.pos (by simp; omega) (Ev.pos (by omega) (Ev.pos (by simp; omega) (Ev.neg (by omega) (Ev.pos (by omega) ?_)))))
    rw [rd_mid, wrap64_id (x := 64 - kinds) (by omega) (by omega), wrap64_id (x := x * (64 - kinds)) (by omega) (by omega)]
    have e : Int.tdiv (x * (64 - kinds)) (mx 1 (l0.length : Int)) = moreOf (l0.length : Int) kinds x := rfl
    rw [e, wrap64_id (x := moreOf (l0.length : Int) kinds x) (by omega) (by omega), wrap64_id (x := 1 + _) (by omega) (by omega), wrap64_id (x := R - _) (by omega) (by omega), wrap64_id (x := (pre.length : Int) + 1) (by omega) (by omega), snoc_len pre x]
    have next := ih (pre ++ [x]) (o ++ [1 + moreOf (l0.length : Int) kinds x]) (R - (1 + moreOf (l0.length : Int) kinds x)) (by simpa using hp) (fun y hy => ht y (by simp [hy])) (by simp [ho])
      (by intro y hy; rcases List.mem_append.1 hy with h | h; exact hob y h; simp at h; omega) (by simp; omega) (by omega) (by simp; omega)
    refine Ev.eq (by simpa using next) ?_
    simp only [List.map_cons, List.sum_cons]
    congr 1
    omega
theorem implL0 (l0 : List Int) (kinds : Int) (r : List Int × Bool) (t : List Int) : ∀ (pre f : List Int) (B : Int), l0 = pre ++ t → l0.length ≤ 80 → (∀ x ∈ f, 0 ≤ x ∧ x ≤ B) → 0 ≤ B → B ≤ pre.length → (∀ s ∈ t, 0 ≤ s ∧ s < (f.length : Int)) →
    Ev (fun k => impl_CountsFor.l1 k l0 [] 64 (tally f t) ((tally f t).length : Int) 0 kinds) r →
    Ev (fun k => impl_CountsFor.l0 k l0 f l0 (l0.length : Int) (pre.length : Int) kinds) r := by
  induction t with
  | nil =>
    intro pre f B he hl hf hB hB2 hs h
    subst he
    exact Ev.step (fun k => impl_CountsFor.l0.eq_2 _ _ _ _ _ _ _) (Ev.neg (by simp) h)
  | cons s t ih =>
    intro pre f B he hl hf hB hB2 hs h
    have h0 := hs s (by simp)
    have hm := hf _ (rd_mem f s h0.1 h0.2)
    have hlen : pre.length + (t.length + 1) ≤ 80 := by rw [he] at hl; simpa using hl
    have hr : rd l0 (pre.length : Int) = s := by rw [he]; exact rd_mid pre s t
    refine Ev.step (fun k => impl_CountsFor.l0.eq_2 _ _ _ _ _ _ _) (Ev.pos (by rw [he]; simp; omega) (Ev.pos (by omega) (Ev.pos (by rw [he]; simp; omega) (Ev.pos (by rw [hr]; exact h0.1) (Ev.pos (by rw [hr]; exact h0.2) ?_)))))
    rw [hr, wrap64_id (x := rd f s + 1) (by omega) (by omega), wrap64_id (x := (pre.length : Int) + 1) (by omega) (by omega), snoc_len pre s]
    exact ih (pre ++ [s]) (f.set s.toNat (rd f s + 1)) (B + 1) (by rw [he]; simp) hl (set_bd hf _ _ (by omega)) (by omega) (by simp; omega) (by intro x hx; simpa using hs x (by simp [hx])) h
theorem specL0 (l0 : List Int) (kinds : Int) (hk : 1 ≤ kinds ∧ kinds ≤ 12) (r : List Int × Bool) (t : List Int) : ∀ (pre f : List Int) (B : Int), l0 = pre ++ t → l0.length ≤ 80 → (∀ x ∈ f, 0 ≤ x ∧ x ≤ B) → 0 ≤ B → B ≤ pre.length → (f.length : Int) = kinds → (∀ s ∈ t, 0 ≤ s ∧ s < kinds) →
    Ev (fun k => spec_CountsFor.l1 k l0 (64 - kinds) (64 - kinds) [] (tally f t) ((tally f t).length : Int) 0) r →
    Ev (fun k => spec_CountsFor.l0 k l0 kinds f l0 (l0.length : Int) (pre.length : Int)) r := by
  induction t with
  | nil =>
    intro pre f B he hl hf hB hB2 hfl hs h
    subst he
    refine Ev.step (fun k => spec_CountsFor.l0.eq_2 _ _ _ _ _ _ _) (Ev.neg (by simp) ?_)
    rw [wrap64_id (x := 64 - kinds) (by omega) (by omega)]
    exact h
  | cons s t ih =>
    intro pre f B he hl hf hB hB2 hfl hs h
    have h0 := hs s (by simp)
    have hm := hf _ (rd_mem f s h0.1 (by omega))
    have hlen : pre.length + (t.length + 1) ≤ 80 := by rw [he] at hl; simpa using hl
    have hr : rd l0 (pre.length : Int) = s := by rw [he]; exact rd_mid pre s t
    have hin : inB s 0 (kinds - 1) = true := inB_iff.2 (by omega)
    refine Ev.step (fun k => spec_CountsFor.l0.eq_2 _ _ _ _ _ _ _) (Ev.pos (by rw [he]; simp; omega) (Ev.pos (by omega) (Ev.pos (by rw [he]; simp; omega) ?_)))
    rw [hr, wrap64_id (x := kinds - 1) (by omega) (by omega)]
    refine Ev.bindo (l1In_eq _ _ _) (Ev.pos hin (Ev.pos h0.1 (Ev.pos (by omega) ?_)))
    rw [wrap64_id (x := rd f s + 1) (by omega) (by omega), wrap64_id (x := (pre.length : Int) + 1) (by omega) (by omega), snoc_len pre s]
    exact ih (pre ++ [s]) (f.set s.toNat (rd f s + 1)) (B + 1) (by rw [he]; simp) hl (set_bd hf _ _ (by omega)) (by omega) (by simp; omega) (by simpa using hfl) (fun x hx => hs x (by simp [hx])) h
/-- A symbol that is none: the reference says no. -/
theorem specL0_no (l0 : List Int) (kinds : Int) (hk : 1 ≤ kinds ∧ kinds ≤ 12) (t : List Int) : ∀ (pre f : List Int) (B : Int), l0 = pre ++ t → l0.length ≤ 80 → (∀ x ∈ f, 0 ≤ x ∧ x ≤ B) → 0 ≤ B → B ≤ pre.length → (f.length : Int) = kinds → ¬ (∀ s ∈ t, 0 ≤ s ∧ s < kinds) →
    Ev (fun k => spec_CountsFor.l0 k l0 kinds f l0 (l0.length : Int) (pre.length : Int)) ([], false) := by
  induction t with
  | nil => intro pre f B he hl hf hB hB2 hfl hs; exact absurd (fun s h => by simp at h) hs
  | cons s t ih =>
    intro pre f B he hl hf hB hB2 hfl hs
    have hlen : pre.length + (t.length + 1) ≤ 80 := by rw [he] at hl; simpa using hl
    have hr : rd l0 (pre.length : Int) = s := by rw [he]; exact rd_mid pre s t
    refine Ev.step (fun k => spec_CountsFor.l0.eq_2 _ _ _ _ _ _ _) (Ev.pos (by rw [he]; simp; omega) (Ev.pos (by omega) (Ev.pos (by rw [he]; simp; omega) ?_)))
    rw [hr, wrap64_id (x := kinds - 1) (by omega) (by omega)]
    by_cases h0 : 0 ≤ s ∧ s < kinds
    · have hm := hf _ (rd_mem f s h0.1 (by omega))
      refine Ev.bindo (l1In_eq _ _ _) (Ev.pos (inB_iff.2 (by omega)) (Ev.pos h0.1 (Ev.pos (by omega) ?_)))
      rw [wrap64_id (x := rd f s + 1) (by omega) (by omega), wrap64_id (x := (pre.length : Int) + 1) (by omega) (by omega), snoc_len pre s]
      refine ih (pre ++ [s]) (f.set s.toNat (rd f s + 1)) (B + 1) (by rw [he]; simp) hl (set_bd hf _ _ (by omega)) (by omega) (by simp; omega) (by simpa using hfl) (fun h => hs ?_)
      intro x hx
      rcases List.mem_cons.1 hx with rfl | hx
      · exact h0
      · exact h x hx
    · exact Ev.bindo (l1In_eq _ _ _) (Ev.neg (by rw [inB_iff]; omega) (Ev.now _))
theorem tally_zero (f : List Int) : tally f [] = f := rfl
/-- The counts for symbols. -/
def cfR (l : List Int) (kinds : Int) : List Int := (finish (tally (List.replicate kinds.toNat 0) l |>.map (fun n => 1 + moreOf (l.length : Int) kinds n)) (64 - kinds - ((tally (List.replicate kinds.toNat 0) l).map (moreOf (l.length : Int) kinds)).sum)).1
theorem countsFor_full (l : List Int) (kinds : Int) (hl : l.length ≤ 35184372088832) : ∃ (xs : List Int) (b : Bool), xs.length ≤ 12 ∧ ((b = true ∧ xs = cfR l kinds ∧ 1 ≤ kinds ∧ kinds ≤ 12 ∧ l.length ≤ 80 ∧ ∀ s ∈ l, 0 ≤ s ∧ s < kinds) ∨ (b = false ∧ xs = [])) ∧ Ev (fun k => spec_CountsFor.f k l kinds) (xs, b) ∧ Ev (fun k => impl_CountsFor.f k l kinds) (xs, b) := by
  unfold spec_CountsFor.f impl_CountsFor.f
  by_cases hk : inB kinds 1 12 = true
  · have hk' := inB_iff.1 hk
    by_cases h80 : (l.length : Int) > 80
    · refine ⟨[], false, by simp, Or.inr ⟨rfl, rfl⟩, Ev.bindo (l1In_eq _ _ _) (Ev.pos hk ?_), Ev.pos h80 ?_⟩
      · exact Ev.step (fun k => spec_CountsFor.j0.eq_2 _ _ _ _) (Ev.pos (by simpa using h80) (Ev.now _))
      · exact Ev.step (fun k => impl_CountsFor.j0.eq_2 _ _ _ _) (Ev.pos rfl (Ev.now _))
    have h80' : l.length ≤ 80 := by omega
    have hrep : ∀ x ∈ List.replicate kinds.toNat (0 : Int), 0 ≤ x ∧ x ≤ 0 := by
      intro x hx
      rw [List.eq_of_mem_replicate hx]
      omega
    have hrl : ((List.replicate kinds.toNat (0 : Int)).length : Int) = kinds := by simp; omega
    by_cases hs : ∀ s ∈ l, 0 ≤ s ∧ s < kinds
    · obtain ⟨tl, tb⟩ := tally_ok l (List.replicate kinds.toNat 0) 0 hrep (by rw [hrl]; exact hs) (by omega)
      have tl' : ((tally (List.replicate kinds.toNat 0) l).length : Int) = kinds := by rw [tl]; exact hrl
      have hany : cf_impl_CountsFor_1.f l kinds = some false := by
        unfold cf_impl_CountsFor_1.f
        simp only [within_eq, Option.bind_some, anyO_some]
        congr 1
        rw [List.any_eq_false]
        intro x hx
        have := hs x hx
        rw [wrap64_id (by omega) (by omega), inB_iff.2 (by omega)]
        simp
      have tb' : ∀ x ∈ tally (List.replicate kinds.toNat 0) l, 0 ≤ x ∧ x ≤ 80 := fun x hx => by have := tb x hx; omega
      have tz : l.length = 0 → ∀ x ∈ tally (List.replicate kinds.toNat 0) l, x = 0 := by
        intro h x hx
        have := tb x hx
        rw [h] at this
        omega
      have s1 := specL1 l kinds hk' h80' (fun _ => trivial) (tally (List.replicate kinds.toNat 0) l) [] [] (64 - kinds) (by simp; omega) tb' tz rfl (by simp) (by simp; omega) (by omega) (by simp; omega)
      have i1 := implL1 l kinds hk' h80' (tally (List.replicate kinds.toNat 0) l) [] [] 64 (by simp; omega) tb' rfl (by simp) (by simp) (by omega) (by simp; omega)
      have esum : ∀ f : List Int, (f.map (fun n => 1 + moreOf (l.length : Int) kinds n)).sum = f.length + (f.map (moreOf (l.length : Int) kinds)).sum := by
        intro f
        induction f with
        | nil => rfl
        | cons x t ih => simp only [List.map_cons, List.sum_cons, List.length_cons, ih]; push_cast; omega
      rw [esum, tl', show (64 : Int) - (kinds + ((tally (List.replicate kinds.toNat 0) l).map (moreOf (l.length : Int) kinds)).sum) = 64 - kinds - ((tally (List.replicate kinds.toNat 0) l).map (moreOf (l.length : Int) kinds)).sum by omega] at i1
      refine ⟨cfR l kinds, true, by unfold cfR finish; simp; omega, Or.inl ⟨rfl, rfl, hk'.1, hk'.2, h80', hs⟩, Ev.bindo (l1In_eq _ _ _) (Ev.pos hk ?_), Ev.neg h80 (Ev.bindo (within_eq _ _ _) (Ev.pos hk (Ev.bindo hany ?_)))⟩
      · refine Ev.step (fun k => spec_CountsFor.j0.eq_2 _ _ _ _) (Ev.neg (by simpa using h80) (Ev.pos (by omega) (Ev.pos (by omega) ?_)))
        have := specL0 l kinds hk' _ l [] (List.replicate kinds.toNat 0) 0 rfl h80' hrep (by omega) (by simp) hrl hs (by simpa using s1)
        simpa [cfR, finish] using this
      · refine Ev.step (fun k => impl_CountsFor.j0.eq_2 _ _ _ _) (Ev.neg (by simp) (Ev.pos (by omega) (Ev.pos (by omega) ?_)))
        have := implL0 l kinds _ l [] (List.replicate kinds.toNat 0) 0 rfl h80' hrep (by omega) (by simp) (by rw [hrl]; exact hs) (by simpa using i1)
        simpa [cfR, finish] using this
    · have hany : cf_impl_CountsFor_1.f l kinds = some true := by
        unfold cf_impl_CountsFor_1.f
        simp only [within_eq, Option.bind_some, anyO_some]
        congr 1
        rw [List.any_eq_true]
        have : ∃ s, s ∈ l ∧ ¬ (0 ≤ s ∧ s < kinds) := by
          refine Classical.byContradiction fun hn => hs fun s hm => Classical.byContradiction fun h => hn ⟨s, hm, h⟩
        obtain ⟨s, hm, hn⟩ := this
        refine ⟨s, hm, ?_⟩
        rw [wrap64_id (by omega) (by omega), inB_no.2 (by omega)]
        rfl
      refine ⟨[], false, by simp, Or.inr ⟨rfl, rfl⟩, Ev.bindo (l1In_eq _ _ _) (Ev.pos hk ?_), Ev.neg h80 (Ev.bindo (within_eq _ _ _) (Ev.pos hk (Ev.bindo hany ?_)))⟩
      · refine Ev.step (fun k => spec_CountsFor.j0.eq_2 _ _ _ _) (Ev.neg (by simpa using h80) (Ev.pos (by omega) (Ev.pos (by omega) ?_)))
        exact specL0_no l kinds hk' l [] (List.replicate kinds.toNat 0) 0 rfl h80' hrep (by omega) (by simp) hrl hs
      · exact Ev.step (fun k => impl_CountsFor.j0.eq_2 _ _ _ _) (Ev.pos rfl (Ev.now _))
  · refine ⟨[], false, by simp, Or.inr ⟨rfl, rfl⟩, Ev.bindo (l1In_eq _ _ _) (Ev.neg hk ?_), ?_⟩
    · exact Ev.step (fun k => spec_CountsFor.j0.eq_2 _ _ _ _) (Ev.pos rfl (Ev.now _))
    · by_cases h80 : (l.length : Int) > 80
      · exact Ev.pos h80 (Ev.step (fun k => impl_CountsFor.j0.eq_2 _ _ _ _) (Ev.pos rfl (Ev.now _)))
      · exact Ev.neg h80 (Ev.bindo (within_eq _ _ _) (Ev.neg hk (Ev.step (fun k => impl_CountsFor.j0.eq_2 _ _ _ _) (Ev.pos rfl (Ev.now _)))))
theorem countsFor_both (l : List Int) (kinds : Int) (hl : l.length ≤ 35184372088832) : ∃ (xs : List Int) (b : Bool), xs.length ≤ 12 ∧ Ev (fun k => spec_CountsFor.f k l kinds) (xs, b) ∧ Ev (fun k => impl_CountsFor.f k l kinds) (xs, b) := by
  obtain ⟨xs, b, h, _, h1, h2⟩ := countsFor_full l kinds hl
  exact ⟨xs, b, h, h1, h2⟩

/-! ### Counts for symbols are valid -/
theorem goodC_of {l : List Int} (h1 : 1 ≤ l.length) (h2 : l.length ≤ 12) (ha : ∀ x ∈ l, 0 ≤ x) (hs : l.sum = 64) : goodC l = true := by
  have key : ∀ (b : Bool) (t : List Int) (s : Int), b = true → 0 ≤ s → (∀ x ∈ t, 0 ≤ x) → s + t.sum = 64 → specFrom b t s = true := by
    intro b t
    induction t with
    | nil => intro s hb h0 _ hs; simp only [List.sum_nil] at hs; simp [specFrom, hb]; omega
    | cons x t ih =>
      intro s hb h0 ha hs
      have hx := ha x (by simp)
      have pos : ∀ l : List Int, (∀ x ∈ l, 0 ≤ x) → 0 ≤ l.sum := by
        intro l
        induction l with
        | nil => intro _; simp
        | cons a b ih => intro h; have h1 := h a (by simp); have h2 := ih (fun z hz => h z (by simp [hz])); rw [List.sum_cons]; omega
      have ht := pos t (fun y hy => ha y (by simp [hy]))
      rw [List.sum_cons] at hs
      unfold specFrom
      rw [inB_iff.2 (show 0 ≤ x ∧ x ≤ 64 by omega), ih (s + x) hb (by omega) (fun y hy => ha y (by simp [hy])) (by omega)]; rfl
  exact key _ l 0 (inB_iff.2 (by omega)) (by omega) ha (by omega)
theorem sum_set : ∀ (f : List Int) (i : Nat) (v : Int), i < f.length → (f.set i v).sum = f.sum - f.getD i 0 + v := by
  intro f
  induction f with
  | nil => intro i v h; simp at h
  | cons x t ih =>
    intro i v h
    cases i with
    | zero => simp only [List.set_cons_zero, List.sum_cons, List.getD_cons_zero]; omega
    | succ i => simp only [List.set_cons_succ, List.sum_cons, List.getD_cons_succ, List.length_cons] at h ⊢; rw [ih i v (by omega)]; omega
theorem tally_sum : ∀ (t f : List Int), (∀ s ∈ t, 0 ≤ s ∧ s < (f.length : Int)) → (tally f t).sum = f.sum + t.length := by
  intro t
  induction t with
  | nil => intro f _; simp [tally]
  | cons s t ih =>
    intro f h
    have hs := h s (by simp)
    unfold tally
    rw [ih _ (by intro x hx; simpa using h x (by simp [hx])), sum_set f s.toNat _ (by omega)]
    unfold rd
    simp only [List.length_cons]
    omega
theorem more_sum (len R kinds : Int) (hk : R = 64 - kinds) (hR : 0 ≤ R) (h1 : 1 ≤ len) : ∀ f : List Int, (∀ x ∈ f, 0 ≤ x) → len * (f.map (moreOf len kinds)).sum ≤ f.sum * R ∧ ∀ x ∈ f.map (moreOf len kinds), 0 ≤ x := by
  intro f
  induction f with
  | nil => intro _; simp
  | cons x t ih =>
    intro h
    have hx := h x (by simp)
    obtain ⟨a, b⟩ := ih (fun y hy => h y (by simp [hy]))
    have hm : mx 1 len = len := by unfold mx; split <;> omega
    have hn : 0 ≤ x * R := Int.mul_nonneg hx hR
    have e : moreOf len kinds x = x * R / len := by unfold moreOf; rw [← hk, hm, Int.tdiv_eq_ediv_of_nonneg hn]
    have d := Int.mul_ediv_add_emod (x * R) len
    have d2 := Int.emod_nonneg (x * R) (show len ≠ 0 by omega)
    constructor
    · simp only [List.map_cons, List.sum_cons]
      rw [e, Int.mul_add, Int.add_mul]
      omega
    · intro y hy
      simp only [List.map_cons, List.mem_cons] at hy
      rcases hy with rfl | hy
      · rw [e]; exact Int.ediv_nonneg hn (by omega)
      · exact b y hy
theorem more_zero (kinds : Int) : ∀ f : List Int, (∀ x ∈ f, x = 0) → (f.map (moreOf 0 kinds)).sum = 0 ∧ ∀ x ∈ f.map (moreOf 0 kinds), 0 ≤ x := by
  intro f
  induction f with
  | nil => intro _; simp
  | cons x t ih =>
    intro h
    obtain ⟨a, b⟩ := ih (fun y hy => h y (by simp [hy]))
    have hx := h x (by simp)
    have e : moreOf 0 kinds x = 0 := by unfold moreOf; rw [hx]; simp
    constructor
    · simp only [List.map_cons, List.sum_cons]; omega
    · intro y hy
      simp only [List.map_cons, List.mem_cons] at hy
      rcases hy with rfl | hy
      · omega
      · exact b y hy
theorem cfR_ok (l : List Int) (kinds : Int) (h1 : 1 ≤ kinds) (h2 : kinds ≤ 12) (hn : l.length ≤ 80) (hs : ∀ s ∈ l, 0 ≤ s ∧ s < kinds) : ((cfR l kinds).length : Int) = kinds ∧ (∀ x ∈ cfR l kinds, 1 ≤ x) ∧ (cfR l kinds).sum = 64 := by
  have hrl : ((List.replicate kinds.toNat (0 : Int)).length : Int) = kinds := by simp; omega
  have hrep : ∀ x ∈ List.replicate kinds.toNat (0 : Int), 0 ≤ x ∧ x ≤ 0 := by
    intro x hx
    rw [List.eq_of_mem_replicate hx]
    omega
  obtain ⟨tl, tb⟩ := tally_ok l (List.replicate kinds.toNat 0) 0 hrep (by rw [hrl]; exact hs) (by omega)
  have ts := tally_sum l (List.replicate kinds.toNat 0) (by rw [hrl]; exact hs)
  have hz : (List.replicate kinds.toNat (0 : Int)).sum = 0 := by
    generalize kinds.toNat = n
    induction n with
    | zero => rfl
    | succ n ih => rw [List.replicate_succ, List.sum_cons, ih]; rfl
  unfold cfR finish
  revert tl tb ts
  generalize tally (List.replicate kinds.toNat 0) l = f
  intro tl tb ts
  have hfl : (f.length : Int) = kinds := by rw [tl]; exact hrl
  obtain ⟨m1, m2⟩ : (f.map (moreOf (l.length : Int) kinds)).sum ≤ 64 - kinds ∧ ∀ x ∈ f.map (moreOf (l.length : Int) kinds), 0 ≤ x := by
    rcases Nat.eq_zero_or_pos l.length with h0 | h0
    · have := more_zero kinds f (fun x hx => by have := tb x hx; omega)
      rw [h0]
      exact ⟨by rw [show ((0 : Nat) : Int) = 0 from rfl, this.1]; omega, this.2⟩
    · obtain ⟨a, b⟩ := more_sum (l.length : Int) (64 - kinds) kinds rfl (by omega) (by omega) f (fun x hx => (tb x hx).1)
      rw [ts, hz, Int.zero_add] at a
      exact ⟨Int.le_of_mul_le_mul_left a (by omega), b⟩
  have esum : (f.map (fun n => 1 + moreOf (l.length : Int) kinds n)).sum = f.length + (f.map (moreOf (l.length : Int) kinds)).sum := by
    clear tl tb ts hfl m1 m2
    induction f with
    | nil => rfl
    | cons x t ih => simp only [List.map_cons, List.sum_cons, List.length_cons, ih]; push_cast; omega
  have hge : ∀ x ∈ f.map (fun n => 1 + moreOf (l.length : Int) kinds n), 1 ≤ x := by
    intro x hx
    obtain ⟨n, hn, rfl⟩ := List.mem_map.1 hx
    have := m2 _ (List.mem_map.2 ⟨n, hn, rfl⟩)
    omega
  refine ⟨by simp; omega, ?_, ?_⟩
  · intro x hx
    rcases List.mem_or_eq_of_mem_set hx with h | h
    · exact hge x h
    · have hm : rd (f.map (fun n => 1 + moreOf (l.length : Int) kinds n)) 0 ∈ f.map (fun n => 1 + moreOf (l.length : Int) kinds n) := rd_mem _ 0 (by omega) (by simp; omega)
      have := hge _ hm
      omega
  · have e := sum_set (f.map (fun n => 1 + moreOf (l.length : Int) kinds n)) 0 (rd (f.map (fun n => 1 + moreOf (l.length : Int) kinds n)) 0 + (64 - kinds - (f.map (moreOf (l.length : Int) kinds)).sum)) (by simp; omega)
    simp only at e ⊢
    rw [e, esum]
    unfold rd
    simp only [Int.toNat_zero]
    omega
theorem cfR_good (l : List Int) (kinds : Int) (h1 : 1 ≤ kinds) (h2 : kinds ≤ 12) (hn : l.length ≤ 80) (hs : ∀ s ∈ l, 0 ≤ s ∧ s < kinds) : goodC (cfR l kinds) = true ∧ l.all (hasB (cfR l kinds)) = true := by
  obtain ⟨a, b, c⟩ := cfR_ok l kinds h1 h2 hn hs
  have hg := goodC_of (l := cfR l kinds) (by omega) (by omega) (fun x hx => by have := b x hx; omega) c
  refine ⟨hg, ?_⟩
  rw [List.all_eq_true]
  intro y hy
  have := hs y hy
  rw [hasB_iff]
  have := b _ (rd_mem (cfR l kinds) y (by omega) (by omega))
  exact ⟨hg, by omega, by omega, by omega⟩
/-! ### How many slots each symbol has below i -/
def seenL : List Int → Int → List Int
  | [], _ => []
  | x :: t, i => (if i < 0 then 0 else if i < x then i else x) :: seenL t (i - x)
theorem seenL_length : ∀ (l : List Int) (i : Int), (seenL l i).length = l.length := by
  intro l
  induction l with
  | nil => intro i; rfl
  | cons x t ih => intro i; simp [seenL, ih]
theorem seenL_low : ∀ (l : List Int) (i : Int), (∀ x ∈ l, 0 ≤ x) → i ≤ 0 → seenL l i = List.replicate l.length 0 := by
  intro l
  induction l with
  | nil => intro i _ _; rfl
  | cons x t ih =>
    intro i h hi
    have hx := h x (by simp)
    unfold seenL
    rw [ih (i - x) (fun y hy => h y (by simp [hy])) (by omega), List.length_cons, List.replicate_succ]
    congr 1
    split
    · rfl
    · split <;> omega
theorem seenL_high : ∀ (l : List Int) (i : Int), (∀ x ∈ l, 0 ≤ x) → l.sum ≤ i → seenL l i = l := by
  intro l
  induction l with
  | nil => intro i _ _; rfl
  | cons x t ih =>
    intro i h hi
    have hx := h x (by simp)
    rw [List.sum_cons] at hi
    have pos : ∀ l : List Int, (∀ x ∈ l, 0 ≤ x) → 0 ≤ l.sum := by
      intro l
      induction l with
      | nil => intro _; simp
      | cons a b ih => intro h; have h1 := h a (by simp); have h2 := ih (fun z hz => h z (by simp [hz])); rw [List.sum_cons]; omega
    have ht := pos t (fun y hy => h y (by simp [hy]))
    unfold seenL
    rw [ih (i - x) (fun y hy => h y (by simp [hy])) (by omega), if_neg (by omega), if_neg (by omega)]
theorem seenL_step : ∀ (l : List Int) (i : Int), (∀ x ∈ l, 0 ≤ x) → 0 ≤ i → i < l.sum → (seenL l i).set (symAt l i) ((seenL l i).getD (symAt l i) 0 + 1) = seenL l (i + 1) ∧ 0 ≤ (seenL l i).getD (symAt l i) 0 ∧ (seenL l i).getD (symAt l i) 0 ≤ i := by
  intro l
  induction l with
  | nil => intro i _ h0 h1; simp at h1; omega
  | cons x t ih =>
    intro i h h0 h1
    have hx := h x (by simp)
    rw [List.sum_cons] at h1
    have hsp : seenL (x :: t) i = (if i < 0 then 0 else if i < x then i else x) :: seenL t (i - x) := rfl
    have hsp2 : seenL (x :: t) (i + 1) = (if i + 1 < 0 then 0 else if i + 1 < x then i + 1 else x) :: seenL t (i + 1 - x) := rfl
    by_cases hi : i < x
    · have e : symAt (x :: t) i = 0 := by rw [show symAt (x :: t) i = if i < x then 0 else 1 + symAt t (i - x) from rfl, if_pos hi]
      rw [e, hsp, hsp2, List.getD_cons_zero, List.set_cons_zero, seenL_low t (i - x) (fun y hy => h y (by simp [hy])) (by omega), seenL_low t (i + 1 - x) (fun y hy => h y (by simp [hy])) (by omega)]
      refine ⟨?_, ?_, ?_⟩
      · congr 1
        rw [if_neg (by omega), if_pos hi, if_neg (by omega)]
        split <;> omega
      · rw [if_neg (by omega), if_pos hi]; omega
      · rw [if_neg (by omega), if_pos hi]; omega
    · have e : symAt (x :: t) i = symAt t (i - x) + 1 := by rw [show symAt (x :: t) i = if i < x then 0 else 1 + symAt t (i - x) from rfl, if_neg hi]; omega
      obtain ⟨a, b, c⟩ := ih (i - x) (fun y hy => h y (by simp [hy])) (by omega) (by omega)
      rw [e, hsp, hsp2, List.getD_cons_succ, List.set_cons_succ, a, show i - x + 1 = i + 1 - x by omega]
      refine ⟨?_, b, by omega⟩
      congr 1
      rw [if_neg (by omega), if_neg hi, if_neg (by omega), if_neg (by omega)]

/-! ### Encoding symbols -/
/-- The state stays a state. -/
theorem spill_lo (f : Int) (hf : 1 ≤ f ∧ f ≤ 64) : ∀ (n : Nat) (s : Int) (w : List Int), 64 * f ≤ s → s < 1024 * 16 ^ n → 64 * f ≤ (spill f n s w).1 ∧ (spill f n s w).1 < 1024 * f := by
  intro n
  induction n with
  | zero => intro s w h0 h1; simp only [spill]; omega
  | succ n ih =>
    intro s w h0 h1
    rw [Int.pow_succ] at h1
    unfold spill
    split
    · exact ih (s / 16) (w ++ [s % 16]) (by omega) (by omega)
    · exact ⟨h0, by simpa using (by omega : s < 1024 * f)⟩
theorem pre_sum (l : List Int) (y : Int) (ha : ∀ x ∈ l, 0 ≤ x ∧ x ≤ 64) (h0 : 0 ≤ y) (h1 : y < (l.length : Int)) : (l.take y.toNat).sum + rd l y ≤ l.sum := by
  have hy : y.toNat < l.length := by omega
  have e : l = l.take y.toNat ++ l[y.toNat] :: l.drop (y.toNat + 1) := by rw [← List.drop_eq_getElem_cons hy, List.take_append_drop]
  have hr : rd l y = l[y.toNat] := by
    have := rd_nat l y.toNat hy
    rwa [show ((y.toNat : Nat) : Int) = y by omega] at this
  have hs : l.sum = (l.take y.toNat).sum + (l[y.toNat] + (l.drop (y.toNat + 1)).sum) := by
    conv => lhs; rw [e]
    rw [List.sum_append, List.sum_cons]
  have := sum_bd (l.drop (y.toNat + 1)) (fun x hx => ha x (List.mem_of_mem_drop hx))
  omega
theorem putP_state (l : List Int) (s y : Int) (hh : hasB l y = true) (hs : 4096 ≤ s ∧ s ≤ 65535) : 4096 ≤ (putP l s y).1 ∧ (putP l s y).1 ≤ 65535 := by
  obtain ⟨hg, h0, h1, hr⟩ := hasB_iff.1 hh
  obtain ⟨_, h12, ha, hsum⟩ := goodC_pos hg
  have hr2 := rd_good hg y h0 h1
  have hp := pre_sum l y ha h0 h1
  have ht := take_bd l y.toNat ha h12
  obtain ⟨a, b⟩ := spill_lo (rd l y) (by omega) 2 s [] (by omega) (by simp; omega)
  simp only [putP, joinS]
  revert a b
  generalize (spill (rd l y) 2 s []).1 = v
  intro a b
  have d0 : 64 ≤ v / rd l y := (Int.le_ediv_iff_mul_le (by omega)).2 (by omega)
  have d1 : v / rd l y < 1024 := (Int.ediv_lt_iff_lt_mul (by omega)).2 (by omega)
  have m0 := Int.emod_nonneg v (show rd l y ≠ 0 by omega)
  have m1 := Int.emod_lt_of_pos v hr
  omega
/-- What encoding symbols gives: the last comes first. -/
def codeP (l : List Int) : List Int → Int × List Int
  | [] => (4096, [])
  | y :: t => ((putP l (codeP l t).1 y).1, (codeP l t).2 ++ (putP l (codeP l t).1 y).2)
theorem codeP_ok (l : List Int) : ∀ t, t.all (hasB l) = true → 4096 ≤ (codeP l t).1 ∧ (codeP l t).1 ≤ 65535 ∧ (codeP l t).2.length ≤ 2 * t.length := by
  intro t
  induction t with
  | nil => intro _; simp [codeP]
  | cons y t ih =>
    intro h
    simp only [List.all_cons, Bool.and_eq_true] at h
    obtain ⟨a, b, c⟩ := ih h.2
    have p := putP_state l (codeP l t).1 y h.1 ⟨a, b⟩
    have q := putP_len l (codeP l t).1 y
    simp only [codeP, List.length_append, List.length_cons]
    omega
/-- What CodeSymbols gives. -/
def codeR (l s : List Int) : Int × List Int × Bool := if goodC l && decide (s.length ≤ 80) && s.all (hasB l) then ((codeP l s).1, (codeP l s).2, true) else (0, [], false)
theorem putR_yes {l : List Int} {s y : Int} (h : hasB l y = true) (hs : 4096 ≤ s ∧ s ≤ 65535) : putR l s y = ((putP l s y).1, (putP l s y).2, true) := by
  unfold putR
  rw [h, inB_iff.2 hs]; rfl
theorem putR_no {l : List Int} {s y : Int} (h : hasB l y = false) : putR l s y = (0, [], false) := by
  unfold putR
  rw [h]; rfl
theorem getD_mid (pre t : List Int) (x : Int) : rd (pre ++ x :: t) ((pre.length : Nat) : Int) = x := by simp [rd]
theorem implCode_loop (l : List Int) : ∀ (r t : List Int), t.all (hasB l) = true → r.all (hasB l) = true → r.length + t.length ≤ 80 →
    Ev (fun k => impl_CodeSymbols.l0 k (r.reverse ++ t) ((r.length : Int) - 1) l (codeP l t).1 (codeP l t).2) ((codeP l (r.reverse ++ t)).1, (codeP l (r.reverse ++ t)).2, true) := by
  intro r
  induction r with
  | nil =>
    intro t ht _ hn
    exact Ev.step (fun k => impl_CodeSymbols.l0.eq_2 _ _ _ _ _ _) (Ev.neg (by simp) (by simpa using Ev.now _))
  | cons y r ih =>
    intro t ht hr hn
    simp only [List.all_cons, Bool.and_eq_true] at hr
    simp only [List.length_cons] at hn
    obtain ⟨a, b, c⟩ := codeP_ok l t ht
    have hm := getD_mid r.reverse t y
    rw [List.length_reverse] at hm
    have e : (y :: r).reverse ++ t = r.reverse ++ y :: t := by simp
    have e1 : ((y :: r).length : Int) - 1 = (r.length : Int) := by simp
    rw [e, e1]
    have q := putP_len l (codeP l t).1 y
    refine Ev.step (fun k => impl_CodeSymbols.l0.eq_2 _ _ _ _ _ _) (Ev.pos (by omega) (Ev.pos (by omega) (Ev.pos (by simp; omega) ?_)))
    rw [hm]
    refine Ev.bind (put_ev l (codeP l t).1 y hr.1 (by omega)) (Ev.pos (by omega) ?_)
    rw [wrap64_id (by omega) (by omega)]
    have := ih (y :: t) (by simp [hr.1, ht]) hr.2 (by simp; omega)
    simpa [codeP] using this
theorem any_not (p : Int → Bool) (s : List Int) : s.any (fun x => !p x) = !s.all p := by
  induction s with
  | nil => rfl
  | cons x t ih => simp [ih]
theorem implCodeSymbols_ev (l s : List Int) (hl : l.length ≤ 35184372088832) (hs : s.length ≤ 35184372088832) : Ev (fun k => impl_CodeSymbols.f k l s) (codeR l s) := by
  unfold impl_CodeSymbols.f codeR
  by_cases hg : goodC l = true
  case neg =>
    refine Ev.bind (implGood_ev l hl) (Ev.neg hg (Ev.step (fun k => impl_CodeSymbols.j0.eq_2 _ _ _ _) (Ev.pos rfl ?_)))
    simp only [Bool.not_eq_true] at hg
    rw [hg]
    exact Ev.now _
  refine Ev.bind (implGood_ev l hl) (Ev.pos hg ?_)
  by_cases hn : s.length ≤ 80
  · have ha : Ev (fun k => cf_impl_CodeSymbols_1.f k s l) (!s.all (hasB l)) := by
      rw [← any_not]
      unfold cf_impl_CodeSymbols_1.f
      exact anyO_ev s (fun x _ => Ev.bind (has_ev l x hl) (Ev.now _))
    refine Ev.neg (by omega) (Ev.bind ha ?_)
    by_cases hh : s.all (hasB l) = true
    · refine Ev.step (fun k => impl_CodeSymbols.j0.eq_2 _ _ _ _) (Ev.neg (by simp [hh]) ?_)
      rw [wrap64_id (by omega) (by omega)]
      have := implCode_loop l s.reverse [] (by simp) (by simpa using hh) (by simpa using hn)
      simpa [codeP, hg, hn, hh] using this
    · refine Ev.step (fun k => impl_CodeSymbols.j0.eq_2 _ _ _ _) (Ev.pos (by simp [hh]) ?_)
      simp only [Bool.not_eq_true] at hh
      rw [hg, hh]
      simpa using Ev.now _
  · refine Ev.pos (by omega) (Ev.step (fun k => impl_CodeSymbols.j0.eq_2 _ _ _ _) (Ev.pos rfl ?_))
    rw [hg, decide_eq_false hn]
    exact Ev.now _
theorem codeR_len (l s : List Int) : (codeR l s).2.1.length ≤ 160 := by
  unfold codeR
  split
  · rename_i h
    simp only [Bool.and_eq_true, decide_eq_true_eq] at h
    have := (codeP_ok l s h.2).2.2
    simp only
    omega
  · simp

/-! ### Decoding a symbol -/
/-- Words are taken from the end while the state is too small. -/
def fill : Int → List Int → Int × List Int
  | n, [] => (n, [])
  | n, x :: r => if n < 4096 then fill (16 * n + x) r else (n, x :: r)
theorem fill_ok : ∀ (r : List Int) (n : Int), 0 ≤ n → n ≤ 65535 → (∀ x ∈ r, 0 ≤ x ∧ x ≤ 15) → 0 ≤ (fill n r).1 ∧ (fill n r).1 ≤ 65535 ∧ (fill n r).2.length ≤ r.length ∧ ∀ x ∈ (fill n r).2, 0 ≤ x ∧ x ≤ 15 := by
  intro r
  induction r with
  | nil => intro n h0 h1 _; simp [fill, h0, h1]
  | cons x r ih =>
    intro n h0 h1 h
    have hx := h x (by simp)
    unfold fill
    split
    · obtain ⟨a, b, c, d⟩ := ih (16 * n + x) (by omega) (by omega) (fun y hy => h y (by simp [hy]))
      exact ⟨a, b, by simp only [List.length_cons]; omega, d⟩
    · exact ⟨h0, h1, Nat.le_refl _, h⟩
theorem symAt_ok : ∀ (l : List Int) (s : Int), 0 ≤ s → s < l.sum → symAt l s < l.length ∧ (l.take (symAt l s)).sum ≤ s ∧ s < (l.take (symAt l s)).sum + l.getD (symAt l s) 0 := by
  intro l
  induction l with
  | nil => intro s h0 h1; simp only [List.sum_nil] at h1; omega
  | cons x t ih =>
    intro s h0 h1
    rw [List.sum_cons] at h1
    unfold symAt
    by_cases h : s < x
    · rw [if_pos h]; simp [h0, h]
    · rw [if_neg h]
      obtain ⟨a, b, c⟩ := ih (s - x) (by omega) (by omega)
      rw [Nat.add_comm 1]
      simp only [List.length_cons, List.take_succ_cons, List.sum_cons, List.getD_cons_succ]
      omega
/-- The state before words are taken. -/
def takeN (l : List Int) (s : Int) : Int := rd l (symAt l (s % 64)) * (s / 64) + s % 64 - (l.take (symAt l (s % 64))).sum
theorem takeN_ok {l : List Int} {s : Int} (hg : goodC l = true) (h0 : 4096 ≤ s) (h1 : s ≤ 65535) : symAt l (s % 64) < l.length ∧ 0 ≤ rd l (symAt l (s % 64)) * (s / 64) ∧ rd l (symAt l (s % 64)) * (s / 64) ≤ 65472 ∧ 0 ≤ (l.take (symAt l (s % 64))).sum ∧ (l.take (symAt l (s % 64))).sum ≤ s % 64 := by
  obtain ⟨_, h12, ha, hsum⟩ := goodC_pos hg
  obtain ⟨a, b, c⟩ := symAt_ok l (s % 64) (by omega) (by omega)
  have hr := rd_good hg (symAt l (s % 64) : Int) (by omega) (by omega)
  have ht := take_bd l (symAt l (s % 64)) ha h12
  refine ⟨a, Int.mul_nonneg hr.1 (by omega), ?_, ht.1, b⟩
  have := Int.mul_le_mul hr.2 (show s / 64 ≤ 1023 by omega) (by omega) (by omega)
  omega
/-- Words, and a coded value, that are valid. -/
def wordsB (w : List Int) : Bool := w.all (fun x => inB x 0 15) && decide (w.length ≤ 320)
def codedB (s : Int) (w : List Int) : Bool := inB s 4096 65535 && wordsB w
theorem wordsB_iff {w : List Int} : wordsB w = true ↔ (∀ x ∈ w, 0 ≤ x ∧ x ≤ 15) ∧ w.length ≤ 320 := by
  unfold wordsB
  simp [inB]
def takeP (l : List Int) (s : Int) (w : List Int) : Int × Int × List Int := ((symAt l (s % 64) : Int), (fill (takeN l s) w.reverse).1, (fill (takeN l s) w.reverse).2.reverse)
/-- What TakeSymbol gives. -/
def takeR (l : List Int) (s : Int) (w : List Int) : Int × Int × List Int × Bool :=
  if goodC l && codedB s w && inB (takeP l s w).2.1 4096 65535 then ((takeP l s w).1, (takeP l s w).2.1, (takeP l s w).2.2, true) else (0, 0, [], false)
theorem takeP_ok {l : List Int} {s : Int} {w : List Int} (hg : goodC l = true) (hc : codedB s w = true) : 0 ≤ (takeP l s w).2.1 ∧ (takeP l s w).2.1 ≤ 65535 ∧ (takeP l s w).2.2.length ≤ w.length ∧ ∀ x ∈ (takeP l s w).2.2, 0 ≤ x ∧ x ≤ 15 := by
  unfold codedB at hc
  simp only [Bool.and_eq_true, inB_iff, wordsB_iff] at hc
  obtain ⟨⟨h0, h1⟩, hw, hn⟩ := hc
  obtain ⟨_, a, b, c, d⟩ := takeN_ok hg h0 h1
  obtain ⟨x, y, z, u⟩ := fill_ok w.reverse (takeN l s) (by unfold takeN; omega) (by unfold takeN; omega) (by simpa using hw)
  exact ⟨x, y, by simpa [takeP] using z, by simpa [takeP] using u⟩
theorem fill_stop {n : Int} {r : List Int} (h : ¬ n < 4096) : fill n r = (n, r) := by
  cases r
  · rfl
  · simp [fill, h]
theorem rd_last (r : List Int) (x : Int) : rd ((x :: r).reverse) ((r.length : Nat) : Int) = x := by simp [rd]
theorem take_last (r : List Int) (x : Int) : ((x :: r).reverse).take ((r.length : Nat) : Int).toNat = r.reverse := by
  rw [List.reverse_cons, Int.toNat_natCast, List.take_left' (by simp)]
theorem any_notI (p : Int → Bool) (s : List Int) : s.any (fun x => !p x) = !s.all p := by
  induction s with
  | nil => rfl
  | cons x t ih => simp [ih]
theorem isCoded_eq (s : Int) (w : List Int) : impl_isCoded.f s w = some (codedB s w) := by
  have hs : impl_isState.f s = some (inB s 4096 65535) := by unfold impl_isState.f; rw [within_eq]; rfl
  have ha : cf_impl_isCoded_1.f w = some (!w.all (fun x => inB x 0 15)) := by
    rw [← any_notI, ← anyO_some]
    unfold cf_impl_isCoded_1.f
    congr 1
    funext x
    rw [within_eq]; rfl
  unfold impl_isCoded.f codedB wordsB
  rw [hs]
  simp only [Option.bind_some]
  cases inB s 4096 65535
  · simp
  · simp only [if_true, Bool.true_and]
    by_cases hn : w.length ≤ 320
    · rw [if_pos (by omega), ha, decide_eq_true hn]; simp
    · rw [if_neg (by omega), decide_eq_false hn]; simp
theorem implTake_loop (y : Int) : ∀ (r : List Int) (n : Int), 0 ≤ n → n ≤ 65535 → r.length ≤ 320 → (∀ x ∈ r, 0 ≤ x ∧ x ≤ 15) →
    Ev (fun k => impl_taken.l0 k y n r.reverse) (y, (fill n r).1, (fill n r).2.reverse, inB (fill n r).1 4096 65535) := by
  have fin : ∀ (n : Int) (r : List Int), Ev (fun _ => (impl_isState.f n).bind fun t184 => (some (y, n, r, t184))) (y, n, r, inB n 4096 65535) := by
    intro n r
    have hs : impl_isState.f n = some (inB n 4096 65535) := by unfold impl_isState.f; rw [within_eq]; rfl
    exact Ev.bindo hs (Ev.now _)
  intro r
  induction r with
  | nil =>
    intro n h0 h1 hl hr
    refine Ev.step (fun k => impl_taken.l0.eq_2 _ _ _ _) ?_
    by_cases h : n < 4096
    · exact Ev.pos h (Ev.neg (by simp) (fin n _))
    · exact Ev.neg h (fin n _)
  | cons x r ih =>
    intro n h0 h1 hl hr
    have hx := hr x (by simp)
    have hl' : r.length + 1 ≤ 320 := by simpa using hl
    refine Ev.step (fun k => impl_taken.l0.eq_2 _ _ _ _) ?_
    by_cases h : n < 4096
    · have e1 : (((x :: r).reverse.length : Nat) : Int) - 1 = (r.length : Int) := by simp
      have e2 : wrap64 ((((x :: r).reverse.length : Nat) : Int) - 1) = ((r.length : Nat) : Int) := by rw [e1]; exact wrap64_id (by omega) (by omega)
      refine Ev.pos h (Ev.pos (by omega) ?_)
      simp only [e2]
      refine Ev.pos (by omega) (Ev.pos (by omega) (Ev.pos (by omega) ?_))
      rw [rd_last, take_last, wrap64_id (x := 16 * n) (by omega) (by omega), wrap64_id (by omega) (by omega)]
      have := ih (16 * n + x) (by omega) (by omega) (by omega) (fun y hy => hr y (by simp [hy]))
      simpa [fill, h] using this
    · rw [fill_stop h]
      exact Ev.neg h (fin n _)
theorem taken_ev {l : List Int} {s : Int} {w : List Int} (hg : goodC l = true) (hc : codedB s w = true) : Ev (fun k => impl_taken.f k l s w) ((takeP l s w).1, (takeP l s w).2.1, (takeP l s w).2.2, inB (takeP l s w).2.1 4096 65535) := by
  have hc' := hc
  unfold codedB at hc
  simp only [Bool.and_eq_true, inB_iff, wordsB_iff] at hc
  obtain ⟨⟨h0, h1⟩, hw, hn⟩ := hc
  obtain ⟨z, a, b, c, d⟩ := takeN_ok hg h0 h1
  obtain ⟨_, h12, ha, hsum⟩ := goodC_pos hg
  unfold impl_taken.f
  rw [Int.tmod_eq_emod_of_nonneg (by omega), Int.tdiv_eq_ediv_of_nonneg (by omega)]
  refine Ev.bind (implAt_ev l (s % 64) hg (by omega) (by omega)) (Ev.pos (by omega) (Ev.pos (by omega) (Ev.bind (startOf_ev l _ ha h12 (by omega)) ?_)))
  rw [wrap64_id (x := s / 64) (by omega) (by omega), wrap64_id (x := rd l _ * (s / 64)) (by omega) (by omega), wrap64_id (x := rd l _ * (s / 64) + s % 64) (by omega) (by omega), wrap64_id (by omega) (by omega)]
  have := implTake_loop (symAt l (s % 64)) w.reverse (takeN l s) (by unfold takeN; omega) (by unfold takeN; omega) (by simpa using hn) (by simpa using hw)
  simpa [takeP, takeN] using this

theorem clone_eq (w : List Int) (h : w.length < 17592186044416) : slices_Clone_int_int.f w = some w := by
  unfold slices_Clone_int_int.f
  exact if_pos h

/-! ### Decoding symbols -/
theorem codedB_take {l : List Int} {s : Int} {w : List Int} (hg : goodC l = true) (hc : codedB s w = true) (hi : inB (takeP l s w).2.1 4096 65535 = true) : codedB (takeP l s w).2.1 (takeP l s w).2.2 = true := by
  have h := takeP_ok hg hc
  unfold codedB at hc ⊢
  simp only [Bool.and_eq_true, inB_iff, wordsB_iff] at hc ⊢
  exact ⟨inB_iff.1 hi, h.2.2.2, by omega⟩
def decL (l : List Int) : Nat → List Int → Int → List Int → List Int × Bool
  | 0, out, s, w => if s = 4096 then (if (w.length : Int) > 0 then ([], false) else (out, true)) else ([], false)
  | n + 1, out, s, w => if inB (takeP l s w).2.1 4096 65535 = true then decL l n (out ++ [(takeP l s w).1]) (takeP l s w).2.1 (takeP l s w).2.2 else ([], false)
theorem decL_len (l : List Int) : ∀ (n : Nat) (out : List Int) (s : Int) (w : List Int), (decL l n out s w).1.length ≤ out.length + n := by
  intro n
  induction n with
  | zero => intro out s w; unfold decL; split <;> (try split) <;> simp
  | succ n ih =>
    intro out s w
    unfold decL
    split
    · have := ih (out ++ [(takeP l s w).1]) (takeP l s w).2.1 (takeP l s w).2.2
      simp only [List.length_append, List.length_cons, List.length_nil] at this
      omega
    · simp
/-- What DecodeSymbols gives. -/
def decR (l : List Int) (s : Int) (w : List Int) (m : Int) : List Int × Bool := if goodC l && codedB s w && inB m 0 80 then decL l m.toNat [] s w else ([], false)
theorem decR_len (l : List Int) (s : Int) (w : List Int) (m : Int) : (decR l s w m).1.length ≤ 80 := by
  unfold decR
  split
  · rename_i h
    simp only [Bool.and_eq_true, inB_iff] at h
    have := decL_len l m.toNat [] s w
    simp only [List.length_nil] at this
    omega
  · simp
theorem implDec_loop (l : List Int) (hg : goodC l = true) (m : Int) (hm : m ≤ 80) : ∀ (n : Nat) (out : List Int) (s : Int) (w : List Int), codedB s w = true → (out.length : Int) + n = m →
    Ev (fun k => impl_DecodeSymbols.l0 k l out m (out.length : Int) s w) (decL l n out s w) := by
  intro n
  induction n with
  | zero =>
    intro out s w hc hn
    refine Ev.step (fun k => impl_DecodeSymbols.l0.eq_2 _ _ _ _ _ _ _) (Ev.neg (by omega) ?_)
    by_cases h : s = 4096
    · by_cases h2 : (w.length : Int) > 0
      · exact Ev.eq (Ev.pos h (Ev.pos h2 (Ev.now _))) (by unfold decL; rw [if_pos h, if_pos h2])
      · exact Ev.eq (Ev.pos h (Ev.neg h2 (Ev.now _))) (by unfold decL; rw [if_pos h, if_neg h2])
    · exact Ev.eq (Ev.neg h (Ev.now _)) (by unfold decL; rw [if_neg h])
  | succ n ih =>
    intro out s w hc hn
    refine Ev.step (fun k => impl_DecodeSymbols.l0.eq_2 _ _ _ _ _ _ _) (Ev.pos (by omega) (Ev.bind (taken_ev hg hc) ?_))
    unfold decL
    by_cases h : inB (takeP l s w).2.1 4096 65535 = true
    · rw [if_pos h]
      refine Ev.pos h (Ev.pos (by omega) ?_)
      rw [wrap64_id (by omega) (by omega)]
      have := ih (out ++ [(takeP l s w).1]) _ _ (codedB_take hg hc h) (by simp; omega)
      simpa using this
    · rw [if_neg h]
      exact Ev.neg h (Ev.now _)
theorem implDecodeSymbols_ev (l : List Int) (s : Int) (w : List Int) (m : Int) (hl : l.length ≤ 35184372088832) : Ev (fun k => impl_DecodeSymbols.f k l s w m) (decR l s w m) := by
  unfold impl_DecodeSymbols.f
  have no : (goodC l && codedB s w && inB m 0 80) = false → Ev (fun k => impl_DecodeSymbols.j0 k l m true s w) (decR l s w m) := by
    intro h
    unfold decR
    rw [h]
    exact Ev.step (fun k => impl_DecodeSymbols.j0.eq_2 _ _ _ _ _ _) (Ev.pos rfl (Ev.now _))
  by_cases hg : goodC l = true
  case neg => exact Ev.bind (implGood_ev l hl) (Ev.neg hg (no (by simp [hg])))
  refine Ev.bind (implGood_ev l hl) (Ev.pos hg (Ev.bindo (isCoded_eq s w) ?_))
  by_cases hc : codedB s w = true
  case neg => exact Ev.neg hc (no (by simp [hc]))
  refine Ev.pos hc (Ev.bindo (within_eq _ _ _) ?_)
  by_cases hm : inB m 0 80 = true
  case neg =>
    simp only [Bool.not_eq_true] at hm
    rw [hm]
    exact no (by simp [hm])
  rw [hm]
  have hm' := inB_iff.1 hm
  have hn : w.length ≤ 320 := by
    unfold codedB at hc
    simp only [Bool.and_eq_true, inB_iff, wordsB_iff] at hc
    exact hc.2.2
  have ho : impl_ownCoded.f s w = some (s, w) := by unfold impl_ownCoded.f; rw [clone_eq w (by omega)]; rfl
  refine Ev.step (fun k => impl_DecodeSymbols.j0.eq_2 _ _ _ _ _ _) (Ev.neg (by simp) (Ev.bindo ho ?_))
  have := implDec_loop l hg m hm'.2 m.toNat [] s w hc (by simp; omega)
  refine Ev.eq (by simpa using this) ?_
  unfold decR
  rw [hg, hc, hm]; rfl

/-! ### Decoding gives back what was encoded -/
theorem fill_spill (f : Int) (rest : List Int) : ∀ (n : Nat) (s : Int) (w : List Int), 0 ≤ s → s ≤ 65535 → fill (spill f n s w).1 ((spill f n s w).2.reverse ++ rest) = fill s (w.reverse ++ rest) := by
  intro n
  induction n with
  | zero => intro s w _ _; rfl
  | succ n ih =>
    intro s w h0 h1
    unfold spill
    split
    · rw [ih (s / 16) (w ++ [s % 16]) (by omega) (by omega)]
      rw [List.reverse_append, List.reverse_singleton, List.singleton_append, List.cons_append]
      rw [show fill (s / 16) (s % 16 :: (w.reverse ++ rest)) = if s / 16 < 4096 then fill (16 * (s / 16) + s % 16) (w.reverse ++ rest) else (s / 16, s % 16 :: (w.reverse ++ rest)) from rfl]
      rw [if_pos (by omega), show 16 * (s / 16) + s % 16 = s by omega]
    · rfl
theorem spill_words (f : Int) : ∀ (n : Nat) (s : Int) (w : List Int), (∀ x ∈ w, 0 ≤ x ∧ x ≤ 15) → ∀ x ∈ (spill f n s w).2, 0 ≤ x ∧ x ≤ 15 := by
  intro n
  induction n with
  | zero => intro s w h; exact h
  | succ n ih =>
    intro s w h
    unfold spill
    split
    · refine ih (s / 16) (w ++ [s % 16]) ?_
      intro x hx
      rcases List.mem_append.1 hx with hx | hx
      · exact h x hx
      · rw [List.mem_singleton.1 hx]; omega
    · exact h
theorem symAt_eq : ∀ (l : List Int) (y : Nat) (s : Int), (∀ x ∈ l, 0 ≤ x) → y < l.length → (l.take y).sum ≤ s → s < (l.take y).sum + l.getD y 0 → symAt l s = y := by
  intro l
  induction l with
  | nil => intro y s _ h; simp at h
  | cons x t ih =>
    intro y s ha hy h0 h1
    have hx := ha x (by simp)
    cases y with
    | zero =>
      simp only [List.take_zero, List.sum_nil, List.getD_cons_zero] at h0 h1
      unfold symAt
      rw [if_pos (by omega)]
    | succ y =>
      simp only [List.take_succ_cons, List.sum_cons, List.getD_cons_succ, List.length_cons] at h0 h1 hy
      have hp : 0 ≤ (t.take y).sum := by
        have : ∀ l : List Int, (∀ x ∈ l, 0 ≤ x) → 0 ≤ l.sum := by
          intro l
          induction l with
          | nil => intro _; simp
          | cons a b ih => intro h; have h1 := h a (by simp); have h2 := ih (fun z hz => h z (by simp [hz])); rw [List.sum_cons]; omega
        exact this _ (fun z hz => ha z (by simp [List.mem_of_mem_take hz]))
      unfold symAt
      rw [if_neg (by omega), ih y (s - x) (fun z hz => ha z (by simp [hz])) (by omega) (by omega) (by omega)]
      omega
theorem take_put (l : List Int) (s y : Int) (w : List Int) (hh : hasB l y = true) (hs : 4096 ≤ s ∧ s ≤ 65535) : takeP l (putP l s y).1 (w ++ (putP l s y).2) = (y, s, w) := by
  obtain ⟨hg, h0, h1, hr⟩ := hasB_iff.1 hh
  obtain ⟨_, h12, ha, hsum⟩ := goodC_pos hg
  have hr2 := rd_good hg y h0 h1
  have hp := pre_sum l y ha h0 h1
  have ht := take_bd l y.toNat ha h12
  obtain ⟨a, b⟩ := spill_lo (rd l y) (by omega) 2 s [] (by omega) (by simp; omega)
  have hf := fill_spill (rd l y) w.reverse 2 s [] (by omega) hs.2
  rw [fill_stop (show ¬ s < 4096 by omega)] at hf
  simp only [List.reverse_nil, List.nil_append] at hf
  have hre : (w ++ (spill (rd l y) 2 s []).2).reverse = (spill (rd l y) 2 s []).2.reverse ++ w.reverse := List.reverse_append
  simp only [putP, joinS, takeP]
  rw [hre]
  revert a b hf
  generalize (spill (rd l y) 2 s []).1 = v
  generalize (spill (rd l y) 2 s []).2.reverse = ws
  intro a b hf
  have d1 : v / rd l y < 1024 := (Int.ediv_lt_iff_lt_mul (by omega)).2 (by omega)
  have d0 : 64 ≤ v / rd l y := (Int.le_ediv_iff_mul_le (by omega)).2 (by omega)
  have m0 := Int.emod_nonneg v (show rd l y ≠ 0 by omega)
  have m1 := Int.emod_lt_of_pos v hr
  have hd := Int.mul_ediv_add_emod v (rd l y)
  have e1 : (v / rd l y * 64 + v % rd l y + (l.take y.toNat).sum) % 64 = v % rd l y + (l.take y.toNat).sum := by omega
  have e2 : (v / rd l y * 64 + v % rd l y + (l.take y.toNat).sum) / 64 = v / rd l y := by omega
  have hget : l.getD y.toNat 0 = rd l y := rfl
  have e3 : symAt l (v % rd l y + (l.take y.toNat).sum) = y.toNat := symAt_eq l y.toNat _ (fun x hx => (ha x hx).1) (by omega) (by omega) (by rw [hget]; omega)
  have e4 : takeN l (v / rd l y * 64 + v % rd l y + (l.take y.toNat).sum) = v := by
    unfold takeN
    rw [e1, e2, e3, show ((y.toNat : Nat) : Int) = y by omega]
    omega
  rw [e1, e3, e4, hf]
  simp only [List.reverse_reverse, Prod.mk.injEq, and_true]
  omega
theorem putP_words (l : List Int) (s y : Int) : ∀ x ∈ (putP l s y).2, 0 ≤ x ∧ x ≤ 15 := by
  unfold putP joinS
  exact spill_words (rd l y) 2 s [] (by simp)
theorem codeP_coded (l : List Int) (t : List Int) (ht : t.all (hasB l) = true) (hn : t.length ≤ 80) : codedB (codeP l t).1 (codeP l t).2 = true := by
  obtain ⟨a, b, c⟩ := codeP_ok l t ht
  unfold codedB
  simp only [Bool.and_eq_true, inB_iff, wordsB_iff]
  refine ⟨⟨a, b⟩, ?_, by omega⟩
  clear a b c ht hn
  induction t with
  | nil => simp [codeP]
  | cons y t ih =>
    intro x hx
    simp only [codeP, List.mem_append] at hx
    rcases hx with hx | hx
    · exact ih x hx
    · exact putP_words _ _ _ x hx
theorem decL_code (l : List Int) : ∀ (t out : List Int), t.all (hasB l) = true → decL l t.length out (codeP l t).1 (codeP l t).2 = (out ++ t, true) := by
  intro t
  induction t with
  | nil => intro out _; simp [decL, codeP]
  | cons y t ih =>
    intro out h
    simp only [List.all_cons, Bool.and_eq_true] at h
    obtain ⟨a, b, c⟩ := codeP_ok l t h.2
    have e : takeP l (codeP l (y :: t)).1 (codeP l (y :: t)).2 = (y, (codeP l t).1, (codeP l t).2) := take_put l (codeP l t).1 y (codeP l t).2 h.1 ⟨a, b⟩
    rw [List.length_cons]
    unfold decL
    rw [if_pos (by rw [e]; exact inB_iff.2 ⟨a, b⟩), e]
    simp only
    rw [ih (out ++ [y]) h.2, List.append_assoc, List.singleton_append]
theorem decR_code (l t : List Int) (hg : goodC l = true) (ht : t.all (hasB l) = true) (hn : t.length ≤ 80) : decR l (codeP l t).1 (codeP l t).2 (t.length : Int) = (t, true) := by
  unfold decR
  rw [hg, codeP_coded l t ht hn, inB_iff.2 (show 0 ≤ ((t.length : Nat) : Int) ∧ ((t.length : Nat) : Int) ≤ 80 by omega)]
  simp only [Bool.and_self, if_true]
  have := decL_code l t [] ht
  rw [Int.toNat_natCast]
  simpa using this

/-! ### Draws -/
/-- The least that a draw says of itself: it comes to an end, and the place goes on by m at most. -/
theorem bits255 (x : Int) (h0 : 0 ≤ x) (h1 : x < 18446744073709551616) : bits .and .u64 x 255 = x % 256 := by
  have h := bits_mask .u64 64 (by decide) wraps_u64 8 (by decide) x h0 (by omega)
  simpa using h
theorem u64_ok (x : Int) : 0 ≤ IntKind.u64.wrap x ∧ IntKind.u64.wrap x < 18446744073709551616 := by
  rw [IntKind.wrap_u64]; omega
theorem next_ok (c : List Int) (hc : ∀ x ∈ c, 0 ≤ x ∧ x ≤ 255) (p h : Int) (h0 : 0 ≤ p) (h1 : p ≤ 1000000000) : ∃ v h', spec_l1Cur_next.f c p h = some (v, p + 1, h') ∧ 0 ≤ v ∧ v ≤ 255 := by
  unfold spec_l1Cur_next.f
  rw [wrap64_id (x := p + 1) (by omega) (by omega)]
  by_cases a : p < (c.length : Int)
  · rw [if_pos a, if_pos h0, if_pos (by omega)]
    have := hc _ (rd_mem c p h0 a)
    exact ⟨_, _, rfl, by rw [wrap64_id (by omega) (by omega)]; exact this.1, by rw [wrap64_id (by omega) (by omega)]; exact this.2⟩
  · rw [if_neg a]
    by_cases b : p + 1 ≤ (c.length : Int)
    · omega
    · rw [if_neg b]
      generalize hX : (IntKind.u64.wrap ((IntKind.u64.wrap ((IntKind.u64.wrap (h * 6364136223846793005)) + 0)) + 1442695040888963407)) = X
      have hX' := u64_ok ((IntKind.u64.wrap ((IntKind.u64.wrap (h * 6364136223846793005)) + 0)) + 1442695040888963407)
      rw [hX] at hX'
      rw [bits255 (X / 1099511627776) (by omega) (by omega)]
      exact ⟨_, _, rfl, by rw [wrap64_id (by omega) (by omega)]; omega, by rw [wrap64_id (by omega) (by omega)]; omega⟩
theorem pick_ok (c : List Int) (hc : ∀ x ∈ c, 0 ≤ x ∧ x ≤ 255) (n p h : Int) (h0 : 0 ≤ p) (h1 : p ≤ 900000000) : ∃ v p' h', spec_l1Cur_pick.f c p h n = some (v, p', h') ∧ 0 ≤ v ∧ (1 ≤ n → v < n) ∧ p ≤ p' ∧ p' ≤ p + 2 := by
  unfold spec_l1Cur_pick.f
  by_cases a : n ≤ 1
  · rw [if_pos a]
    exact ⟨0, p, h, rfl, by omega, by omega, by omega, by omega⟩
  rw [if_neg a]
  obtain ⟨v, h2, e, b1, b2⟩ := next_ok c hc p h h0 (by omega)
  rw [e]
  simp only [Option.bind_some]
  by_cases d : n > 200
  · rw [if_pos d]
    obtain ⟨v2, h3, e2, b3, b4⟩ := next_ok c hc (p + 1) h2 (by omega) (by omega)
    rw [e2]
    simp only [Option.bind_some]
    rw [if_neg (by omega), wrap64_id (x := v * 256) (by omega) (by omega), wrap64_id (by omega) (by omega), Int.tmod_eq_emod_of_nonneg (by omega)]
    exact ⟨_, _, _, rfl, Int.emod_nonneg _ (by omega), fun _ => Int.emod_lt_of_pos _ (by omega), by omega, by omega⟩
  · rw [if_neg d, if_neg (by omega), Int.tmod_eq_emod_of_nonneg (by omega)]
    exact ⟨_, _, _, rfl, Int.emod_nonneg _ (by omega), fun _ => Int.emod_lt_of_pos _ (by omega), by omega, by omega⟩
theorem one_ok (c : List Int) (hc : ∀ x ∈ c, 0 ≤ x ∧ x ≤ 255) (n p h : Int) (h0 : 0 ≤ p) (h1 : p ≤ 900000000) : ∃ b p' h', spec_l1Cur_one.f c p h n = some (b, p', h') ∧ p ≤ p' ∧ p' ≤ p + 2 := by
  obtain ⟨v, p', h', e, _, _, a, b⟩ := pick_ok c hc n p h h0 h1
  unfold spec_l1Cur_one.f
  rw [e]
  exact ⟨_, _, _, rfl, a, b⟩

theorem symbols_loop (c : List Int) (hc : ∀ x ∈ c, 0 ≤ x ∧ x ≤ 255) (K : Int) : ∀ (n : Nat) (l : List Int) (p h : Int), 0 ≤ p → p + 2 * n ≤ 800000000 → l.length + n ≤ 100 → (∀ x ∈ l, 0 ≤ x ∧ (1 ≤ K → x < K)) →
    ∃ (r : List Int) (p' h' : Int), Ev (fun k => spec_l1Cur_symbols.l0 k K l (n : Int) c p h) (r, p', h') ∧ r.length = l.length + n ∧ p ≤ p' ∧ p' ≤ p + 2 * n ∧ (∀ x ∈ r, 0 ≤ x ∧ (1 ≤ K → x < K)) := by
  intro n
  induction n with
  | zero =>
    intro l p h h0 h1 hn hl
    exact ⟨l, p, h, Ev.step (fun k => spec_l1Cur_symbols.l0.eq_2 _ _ _ _ _ _ _) (Ev.neg (by simp) (Ev.now _)), rfl, by omega, by omega, hl⟩
  | succ n ih =>
    intro l p h h0 h1 hn hl
    obtain ⟨v, p1, h2, e, b1, b2, b3, b4⟩ := pick_ok c hc K p h h0 (by omega)
    obtain ⟨r, p', h', e2, a1, a2, a3, a4⟩ := ih (l ++ [v]) p1 h2 (by omega) (by omega) (by simp; omega) (by
      intro x hx
      rcases List.mem_append.1 hx with hx | hx
      · exact hl x hx
      · rw [List.mem_singleton.1 hx]; exact ⟨b1, b2⟩)
    refine ⟨r, p', h', Ev.step (fun k => spec_l1Cur_symbols.l0.eq_2 _ _ _ _ _ _ _) (Ev.pos (by omega) (Ev.bindo e (Ev.pos (by omega) ?_))), by rw [a1]; simp; omega, by omega, by omega, a4⟩
    rw [wrap64_id (by omega) (by omega), show ((n + 1 : Nat) : Int) - 1 = (n : Int) by omega]
    exact e2
theorem symbols_ok (c : List Int) (hc : ∀ x ∈ c, 0 ≤ x ∧ x ≤ 255) (K p h : Int) (h0 : 0 ≤ p) (h1 : p ≤ 700000000) : ∃ (r : List Int) (p' h' : Int), Ev (fun k => spec_l1Cur_symbols.f k c p h K) (r, p', h') ∧ r.length ≤ 81 ∧ p ≤ p' ∧ p' ≤ p + 1000 ∧ (∀ x ∈ r, 0 ≤ x ∧ (1 ≤ K → x < K)) := by
  unfold spec_l1Cur_symbols.f
  obtain ⟨n, p1, h2, e, b1, b2, b3, b4⟩ := pick_ok c hc 14 p h h0 (by omega)
  have b2 := b2 (by omega)
  obtain ⟨b, p2, h3, e2, c1, c2⟩ := one_ok c hc 20 p1 h2 (by omega) (by omega)
  by_cases hb : b = true
  · obtain ⟨m, p3, h4, e3, d1, d2, d3, d4⟩ := pick_ok c hc 2 p2 h3 (by omega) (by omega)
    have d2 := d2 (by omega)
    obtain ⟨r, p', h', e4, a1, a2, a3, a4⟩ := symbols_loop c hc K (80 + m).toNat [] p3 h4 (by omega) (by omega) (by simp; omega) (by simp)
    rw [show (((80 + m).toNat : Nat) : Int) = 80 + m by omega] at e4
    simp only [List.length_nil] at a1
    refine ⟨r, p', h', Ev.bindo e (Ev.bindo e2 (Ev.pos hb (Ev.bindo e3 (Ev.step (fun k => spec_l1Cur_symbols.j0.eq_2 _ _ _ _ _ _ _) ?_)))), by omega, by omega, by omega, a4⟩
    rw [wrap64_id (by omega) (by omega)]
    exact e4
  · obtain ⟨r, p', h', e4, a1, a2, a3, a4⟩ := symbols_loop c hc K n.toNat [] p2 h3 (by omega) (by omega) (by simp; omega) (by simp)
    rw [show ((n.toNat : Nat) : Int) = n by omega] at e4
    simp only [List.length_nil] at a1
    exact ⟨r, p', h', Ev.bindo e (Ev.bindo e2 (Ev.neg hb (Ev.step (fun k => spec_l1Cur_symbols.j0.eq_2 _ _ _ _ _ _ _) e4))), by omega, by omega, by omega, a4⟩
theorem counts_end (c : List Int) (hc : ∀ x ∈ c, 0 ≤ x ∧ x ≤ 255) (x : List Int) (hx1 : 1 ≤ x.length) (hx2 : x.length ≤ 12) (b : Bool) (q g : Int) (h0 : 0 ≤ q) (h1 : q ≤ 700000000) (hb2 : b = true → 2 ≤ x.length) :
    ∃ (r : List Int) (p' h' : Int), Ev (fun k => spec_l1Cur_counts.j1 k x b c q g) (r, p', h') ∧ 1 ≤ r.length ∧ r.length ≤ 12 ∧ q ≤ p' ∧ p' ≤ q + 4 := by
  by_cases hb : b = true
  · have h2 := hb2 hb
    have e1 : wrap64 ((x.length : Int) - 1) = (x.length : Int) - 1 := wrap64_id (by omega) (by omega)
    obtain ⟨m, q1, g1, f1, m1, m2, m3, m4⟩ := pick_ok c hc (wrap64 ((x.length : Int) - 1)) q g (by omega) (by omega)
    have m2 := m2 (by omega)
    have e2 : wrap64 (1 + m) = 1 + m := wrap64_id (by omega) (by omega)
    obtain ⟨b5, q2, g2, f2, n1, n2⟩ := one_ok c hc 20 q1 g1 (by omega) (by omega)
    by_cases h5 : b5 = true
    · exact ⟨_, _, _, Ev.step (fun k => spec_l1Cur_counts.j1.eq_2 _ _ _ _ _ _) (Ev.pos hb (Ev.bindo f1 (Ev.pos (by omega) (Ev.pos (by simp only; omega) (Ev.pos (by simp only; omega) (Ev.bindo rfl (Ev.bindo f2 (Ev.pos h5 (Ev.now _))))))))), by simp; omega, by simp; omega, by simp only; omega, by simp only; omega⟩
    · exact ⟨_, _, _, Ev.step (fun k => spec_l1Cur_counts.j1.eq_2 _ _ _ _ _ _) (Ev.pos hb (Ev.bindo f1 (Ev.pos (by omega) (Ev.pos (by simp only; omega) (Ev.pos (by simp only; omega) (Ev.bindo rfl (Ev.bindo f2 (Ev.neg h5 (Ev.now _))))))))), by simp; omega, by simp; omega, by simp only; omega, by simp only; omega⟩
  · obtain ⟨b5, q2, g2, f2, n1, n2⟩ := one_ok c hc 20 q g (by omega) (by omega)
    by_cases h5 : b5 = true
    · exact ⟨_, _, _, Ev.step (fun k => spec_l1Cur_counts.j1.eq_2 _ _ _ _ _ _) (Ev.neg hb (Ev.bindo f2 (Ev.pos h5 (Ev.pos (by omega) (Ev.now _))))), by simp; omega, by simp; omega, by simp only; omega, by simp only; omega⟩
    · exact ⟨_, _, _, Ev.step (fun k => spec_l1Cur_counts.j1.eq_2 _ _ _ _ _ _) (Ev.neg hb (Ev.bindo f2 (Ev.neg h5 (Ev.now _)))), by simpa using hx1, by simpa using hx2, by simp only; omega, by simp only; omega⟩
theorem counts_mid (c : List Int) (hc : ∀ x ∈ c, 0 ≤ x ∧ x ≤ 255) (x : List Int) (hx1 : 1 ≤ x.length) (hx2 : x.length ≤ 12) (q g : Int) (h0 : 0 ≤ q) (h1 : q ≤ 650000000) :
    ∃ (r : List Int) (p' h' : Int), Ev (fun k => spec_l1Cur_counts.j0 k x c q g) (r, p', h') ∧ 1 ≤ r.length ∧ r.length ≤ 12 ∧ q ≤ p' ∧ p' ≤ q + 6 := by
  by_cases h : (x.length : Int) > 1
  · obtain ⟨b, q1, g1, f1, m1, m2⟩ := one_ok c hc 4 q g (by omega) (by omega)
    obtain ⟨r, p', h', e, a1, a2, a3, a4⟩ := counts_end c hc x hx1 hx2 b q1 g1 (by omega) (by omega) (fun _ => by omega)
    exact ⟨r, p', h', Ev.step (fun k => spec_l1Cur_counts.j0.eq_2 _ _ _ _ _) (Ev.pos h (Ev.bindo f1 e)), a1, a2, by omega, by omega⟩
  · obtain ⟨r, p', h', e, a1, a2, a3, a4⟩ := counts_end c hc x hx1 hx2 false q g (by omega) (by omega) (fun h => by cases h)
    exact ⟨r, p', h', Ev.step (fun k => spec_l1Cur_counts.j0.eq_2 _ _ _ _ _) (Ev.neg h e), a1, a2, by omega, by omega⟩
theorem counts_ok (c : List Int) (hc : ∀ x ∈ c, 0 ≤ x ∧ x ≤ 255) (p h : Int) (h0 : 0 ≤ p) (h1 : p ≤ 600000000) : ∃ (r : List Int) (p' h' : Int), Ev (fun k => spec_l1Cur_counts.f k c p h) (r, p', h') ∧ 1 ≤ r.length ∧ r.length ≤ 12 ∧ p ≤ p' ∧ p' ≤ p + 2000 := by
  unfold spec_l1Cur_counts.f
  obtain ⟨n, p1, h2, e, b1, b2, b3, b4⟩ := pick_ok c hc 6 p h h0 (by omega)
  have b2 := b2 (by omega)
  have e1 : wrap64 (1 + n) = 1 + n := wrap64_id (by omega) (by omega)
  obtain ⟨s, p2, h3, e2, c1, c2, c3, c4⟩ := symbols_ok c hc (wrap64 (1 + n)) p1 h2 (by omega) (by omega)
  obtain ⟨xs, b, hx, hb, e3, _⟩ := countsFor_full s (wrap64 (1 + n)) (by omega)
  by_cases hb1 : b = true
  · have hl : 1 ≤ xs.length := by
      rcases hb with ⟨_, rfl, k1, k2, k3, k4⟩ | ⟨hb, _⟩
      · have := (cfR_ok s (wrap64 (1 + n)) k1 k2 k3 k4).1
        omega
      · rw [hb] at hb1; cases hb1
    obtain ⟨r, p', h', e4, a1, a2, a3, a4⟩ := counts_mid c hc xs hl hx p2 h3 (by omega) (by omega)
    exact ⟨r, p', h', Ev.bindo e (Ev.bind e2 (Ev.bind e3 (Ev.pos hb1 e4))), a1, a2, by omega, by omega⟩
  · obtain ⟨r, p', h', e4, a1, a2, a3, a4⟩ := counts_mid c hc [64] (by simp) (by simp) p2 h3 (by omega) (by omega)
    exact ⟨r, p', h', Ev.bindo e (Ev.bind e2 (Ev.bind e3 (Ev.neg hb1 e4))), a1, a2, by omega, by omega⟩

/-! ### Starts of counts -/
theorem implStarts_loop (t : List Int) : ∀ (pre : List Int), (∀ x ∈ pre ++ t, 0 ≤ x ∧ x ≤ 64) → (pre ++ t).length ≤ 12 →
    Ev (fun k => impl_StartsOf.l0 k (pre ++ t) (starts 0 pre) ((pre ++ t).length : Int) (pre.length : Int)) (starts 0 (pre ++ t), true) := by
  induction t with
  | nil =>
    intro pre ha hl
    refine Ev.step (fun k => impl_StartsOf.l0.eq_2 _ _ _ _ _) (Ev.neg (by simp) ?_)
    rw [List.append_nil]
    exact Ev.now _
  | cons x t ih =>
    intro pre ha hl
    have hl' : pre.length + (t.length + 1) ≤ 12 := by simpa using hl
    refine Ev.step (fun k => impl_StartsOf.l0.eq_2 _ _ _ _ _) (Ev.pos (by simp; omega) (Ev.bind (startOf_ev (pre ++ x :: t) pre.length ha hl (by simp)) (Ev.pos (by rw [starts_length]; omega) ?_)))
    rw [List.take_left, wrap64_id (by omega) (by omega), snoc_len pre x]
    have e1 : starts 0 pre ++ [pre.sum] = starts 0 (pre ++ [x]) := by rw [starts_append]; simp [starts]
    rw [e1]
    have := ih (pre ++ [x]) (by simpa using ha) (by simpa using hl)
    simpa using this
def startsR (l : List Int) : List Int × Bool := if goodC l then (starts 0 l, true) else ([], false)
theorem implStartsOf_ev (l : List Int) (hl : l.length ≤ 35184372088832) : Ev (fun k => impl_StartsOf.f k l) (startsR l) := by
  unfold impl_StartsOf.f startsR
  by_cases hg : goodC l = true
  · obtain ⟨_, h12, ha, _⟩ := goodC_pos hg
    rw [if_pos hg]
    refine Ev.bind (implGood_ev l hl) (Ev.pos hg ?_)
    have := implStarts_loop l [] (by simpa using ha) (by simpa using h12)
    simpa [starts] using this
  · rw [if_neg hg]
    exact Ev.bind (implGood_ev l hl) (Ev.neg hg (Ev.now _))
theorem specStartsOf_ev (l : List Int) (hl : l.length ≤ 35184372088832) : Ev (fun k => spec_StartsOf.f k l) (startsR l) := by
  unfold spec_StartsOf.f startsR
  by_cases hg : goodC l = true
  · obtain ⟨_, h12, ha, _⟩ := goodC_pos hg
    rw [if_pos hg]
    exact Ev.bind (specGood_ev l hl) (Ev.pos hg (Ev.bind (l14Starts_ev l ha h12) (Ev.now _)))
  · rw [if_neg hg]
    exact Ev.bind (specGood_ev l hl) (Ev.neg hg (Ev.now _))
theorem startsR_len (l : List Int) : (startsR l).1.length ≤ 12 := by
  unfold startsR
  split
  · rename_i h
    simp only
    rw [starts_length]
    exact (goodC_pos h).2.1
  · simp

theorem sameInts_loop (l : List Int) (hl : l.length ≤ 35184372088832) : ∀ (d i : Nat), i + d = l.length → Ev (fun k => laws_sameInts.l0 k l l (l.length : Int) (i : Int)) true := by
  intro d
  induction d with
  | zero =>
    intro i hi
    exact Ev.step (fun k => laws_sameInts.l0.eq_2 _ _ _ _ _) (Ev.neg (by omega) (Ev.now _))
  | succ d ih =>
    intro i hi
    refine Ev.step (fun k => laws_sameInts.l0.eq_2 _ _ _ _ _) (Ev.pos (by omega) (Ev.pos (by omega) (Ev.pos (by omega) (Ev.pos (by omega) (Ev.pos rfl ?_)))))
    rw [wrap64_id (by omega) (by omega)]
    exact ih (i + 1) (by omega)
theorem sameInts_self (l : List Int) (hl : l.length ≤ 35184372088832) : Ev (fun k => laws_sameInts.f k l l) true := by
  unfold laws_sameInts.f
  exact Ev.pos rfl (sameInts_loop l hl l.length 0 (by omega))
theorem wf_u8 {x : Int} (h : (Lit.int .u8 x).wf = true) : 0 ≤ x ∧ x ≤ 255 := by
  simp [Lit.wf, IntKind.min, IntKind.max, IntKind.signed, IntKind.bits] at h
  omega

theorem drawStartsOf_ok (c : List Int) (hc : ∀ x ∈ c, 0 ≤ x ∧ x ≤ 255) : ∃ r : List Int, Ev (fun k => spec_DrawStartsOf.f k c) r ∧ r.length ≤ 12 := by
  unfold spec_DrawStartsOf.f spec_DrawGoodCounts.f
  obtain ⟨r, p', h', e, a1, a2, _⟩ := counts_ok c hc 0 0 (by omega) (by omega)
  exact ⟨r, Ev.bind (Ev.bindo rfl (Ev.bind e (Ev.now _))) (Ev.now _), a2⟩
theorem drawCountsFor_ok (c : List Int) (hc : ∀ x ∈ c, 0 ≤ x ∧ x ≤ 255) : ∃ (s : List Int) (K : Int), Ev (fun k => spec_DrawCountsFor.f k c) (s, K) ∧ s.length ≤ 81 := by
  unfold spec_DrawCountsFor.f
  obtain ⟨v, p1, h1, e1, b1, b2, b3, b4⟩ := pick_ok c hc 7 0 0 (by omega) (by omega)
  have b2 := b2 (by omega)
  have ea : spec_l1Cur_among.f c 0 0 [0, 1, 2, 3, 6, 12, 13] = some (rd [0, 1, 2, 3, 6, 12, 13] v, p1, h1) := by
    unfold spec_l1Cur_among.f
    rw [show (([0, 1, 2, 3, 6, 12, 13] : List Int).length : Int) = 7 from rfl, e1]
    simp only [Option.bind_some]
    rw [if_pos b1, if_pos b2]
  obtain ⟨b, p2, h2, e2, c1, c2⟩ := one_ok c hc 12 p1 h1 (by omega) (by omega)
  generalize rd [0, 1, 2, 3, 6, 12, 13] v = K at ea
  by_cases hb : b = true
  · obtain ⟨s, p', h', e3, d1, _⟩ := symbols_ok c hc (wrap64 (K + 1)) p2 h2 (by omega) (by omega)
    exact ⟨s, K, Ev.bindo rfl (Ev.bindo ea (Ev.bindo e2 (Ev.pos hb (Ev.bind e3 (Ev.now _))))), d1⟩
  · by_cases hk : K = 0
    · obtain ⟨s, p', h', e3, d1, _⟩ := symbols_ok c hc (wrap64 (K + 1)) p2 h2 (by omega) (by omega)
      exact ⟨s, K, Ev.bindo rfl (Ev.bindo ea (Ev.bindo e2 (Ev.neg hb (Ev.pos hk (Ev.bind e3 (Ev.now _)))))), d1⟩
    · obtain ⟨s, p', h', e3, d1, _⟩ := symbols_ok c hc K p2 h2 (by omega) (by omega)
      exact ⟨s, K, Ev.bindo rfl (Ev.bindo ea (Ev.bindo e2 (Ev.neg hb (Ev.neg hk (Ev.bind e3 (Ev.now _)))))), d1⟩
theorem least_loop (s x : List Int) (hx : ∀ y ∈ x, 1 ≤ y) (hn : x.length ≤ 12) (r : Bool) (h : Ev (fun k => (impl_CodeSymbols.f k x s).bind fun bt375 => ((impl_DecodeSymbols.f k x bt375.1 bt375.2.1 (s.length : Int)).bind fun bt381 => ((impl_GoodCounts.f k x).bind fun t385 => (if t385 = true then (if bt375.2.2 = true then (if bt381.2 = true then ((laws_sameInts.f k bt381.1 s).bind fun t386 => (some t386)) else (some false)) else (some false)) else (some false))))) r) :
    ∀ (d i : Nat), i + d = x.length → Ev (fun k => laws_FnCounts.l1 k s x x (x.length : Int) (i : Int)) r := by
  intro d
  induction d with
  | zero =>
    intro i hi
    exact Ev.step (fun k => laws_FnCounts.l1.eq_2 _ _ _ _ _ _) (Ev.neg (by omega) h)
  | succ d ih =>
    intro i hi
    have e := rd_nat x i (by omega)
    have hp := hx x[i] (List.getElem_mem _)
    refine Ev.step (fun k => laws_FnCounts.l1.eq_2 _ _ _ _ _ _) (Ev.pos (by omega) (Ev.pos (by omega) (Ev.pos (by omega) (Ev.neg (by rw [e]; omega) ?_))))
    rw [wrap64_id (by omega) (by omega)]
    exact ih (i + 1) (by omega)
theorem second_ev (c : List Int) (hc : ∀ x ∈ c, 0 ≤ x ∧ x ≤ 255) : Ev (fun k => laws_FnCounts.j2 k c) true := by
  obtain ⟨s, K, e1, hs⟩ := drawCountsFor_ok c hc
  obtain ⟨xs, b, hx, hb, e2, e3⟩ := countsFor_full s K (by omega)
  refine Ev.step (fun k => laws_FnCounts.j2.eq_2 _ _) (Ev.bind e1 (Ev.bind e3 (Ev.bind e2 (Ev.neg (by simp) (Ev.bind (sameInts_self xs (by omega)) ?_)))))
  refine Ev.step (fun k => laws_FnCounts.j3.eq_2 _ _ _ _ _) (Ev.neg (by simp) ?_)
  rcases hb with ⟨rfl, rfl, k1, k2, k3, k4⟩ | ⟨rfl, rfl⟩
  · obtain ⟨g1, g2⟩ := cfR_good s K k1 k2 k3 k4
    obtain ⟨_, g3, _⟩ := cfR_ok s K k1 k2 k3 k4
    refine Ev.pos rfl (least_loop s _ g3 hx true ?_ (cfR s K).length 0 (by omega))
    have hcode := implCodeSymbols_ev (cfR s K) s (by omega) (by omega)
    have ec : codeR (cfR s K) s = ((codeP (cfR s K) s).1, (codeP (cfR s K) s).2, true) := by
      unfold codeR
      rw [g1, g2, decide_eq_true k3]; rfl
    rw [ec] at hcode
    have hdec := implDecodeSymbols_ev (cfR s K) (codeP (cfR s K) s).1 (codeP (cfR s K) s).2 (s.length : Int) (by omega)
    rw [decR_code (cfR s K) s g1 g2 k3] at hdec
    have hgood := implGood_ev (cfR s K) (by omega)
    rw [g1] at hgood
    exact Ev.bind hcode (Ev.bind hdec (Ev.bind hgood (Ev.pos rfl (Ev.pos rfl (Ev.pos rfl (Ev.bind (sameInts_self s (by omega)) (Ev.now _)))))))
  · exact Ev.neg (by simp) (Ev.now _)
theorem implSymbolAt_ev (l : List Int) (slot : Int) (hg : goodC l = true) (h0 : 0 ≤ slot) (h1 : slot ≤ 63) : Ev (fun k => impl_SymbolAt.f k l slot) ((symAt l slot : Int), true) := by
  unfold impl_SymbolAt.f
  obtain ⟨_, h12, _, _⟩ := goodC_pos hg
  have hgood := implGood_ev l (by omega)
  exact Ev.bind hgood (Ev.pos hg (Ev.bindo (within_eq _ _ _) (Ev.pos (inB_iff.2 ⟨h0, h1⟩) (Ev.bind (implAt_ev l slot hg h0 h1) (Ev.now _)))))
theorem seen_loop (m l : List Int) (hg : goodC l = true) (r : Bool) (h : Ev (fun k => laws_FnCounts.j2 k m) r) : ∀ (d i : Nat), i + d = 64 → Ev (fun k => laws_FnCounts.l0 k m l (starts 0 l) (seenL l (i : Int)) (i : Int)) r := by
  obtain ⟨_, h12, ha, hsum⟩ := goodC_pos hg
  intro d
  induction d with
  | zero =>
    intro i hi
    have e : seenL l (i : Int) = l := seenL_high l _ (fun x hx => (ha x hx).1) (by omega)
    rw [e]
    exact Ev.step (fun k => laws_FnCounts.l0.eq_2 _ _ _ _ _ _) (Ev.neg (by omega) (Ev.bind (sameInts_self l (by omega)) (Ev.pos rfl h)))
  | succ d ih =>
    intro i hi
    obtain ⟨a, b, c⟩ := symAt_ok l (i : Int) (by omega) (by omega)
    obtain ⟨s1, s2, s3⟩ := seenL_step l (i : Int) (fun x hx => (ha x hx).1) (by omega) (by omega)
    have hst := rd_starts_take l (symAt l (i : Int)) (by omega) (by omega)
    rw [Int.toNat_natCast] at hst
    have hr : rd l (symAt l (i : Int) : Int) = l.getD (symAt l (i : Int)) 0 := by unfold rd; rw [Int.toNat_natCast]
    have hr2 : rd (seenL l (i : Int)) (symAt l (i : Int) : Int) = (seenL l (i : Int)).getD (symAt l (i : Int)) 0 := by unfold rd; rw [Int.toNat_natCast]
    have tb := take_bd l (symAt l (i : Int)) ha h12
    have hrb := rd_good hg (symAt l (i : Int) : Int) (by omega) (by omega)
    refine Ev.step (fun k => laws_FnCounts.l0.eq_2 _ _ _ _ _ _) (Ev.pos (by omega) (Ev.bind (implSymbolAt_ev l (i : Int) hg (by omega) (by omega)) (Ev.pos rfl (Ev.neg (by simp only; omega) (Ev.neg (by simp only; omega) (Ev.pos (by simp only; omega) (Ev.pos (by rw [starts_length]; simp only; omega) ?_)))))))
    simp only
    rw [hst, wrap64_id (x := (l.take (symAt l (i : Int))).sum + rd l (symAt l (i : Int) : Int)) (by omega) (by omega)]
    refine Ev.neg (by omega) (Ev.pos (by omega) (Ev.neg (by omega) (Ev.pos (by rw [seenL_length]; omega) ?_)))
    rw [hr2, wrap64_id (x := (seenL l (i : Int)).getD (symAt l (i : Int)) 0 + 1) (by omega) (by omega), wrap64_id (x := (i : Int) + 1) (by omega) (by omega), Int.toNat_natCast, s1]
    exact ih (i + 1) (by omega)
end QFnCounts
open QFnCounts
theorem FnCounts : laws_FnCounts.Pure := by
  intro l m h1 h2 hw h3 h4 hw2
  refine Ev.rounds ?_
  unfold laws_FnCounts.f
  rw [wrap64_id (by omega) (by omega)]
  by_cases hb : (l.length : Int) + (m.length : Int) > 1048576
  · exact Ev.pos hb (Ev.now _)
  obtain ⟨c, e1, hc⟩ := drawStartsOf_ok l (fun x hx => wf_u8 (hw x hx))
  have e2 := implStartsOf_ev c (by omega)
  have e3 := specStartsOf_ev c (by omega)
  have hl := startsR_len c
  have e4 := implGood_ev c (by omega)
  have nx := second_ev m (fun x hx => wf_u8 (hw2 x hx))
  refine Ev.neg hb (Ev.bind e1 (Ev.bind e2 (Ev.bind e3 (Ev.neg (by simp) (Ev.bind (sameInts_self _ (by omega)) (Ev.pos rfl (Ev.bind e4 ?_)))))))
  by_cases hg : goodC c = true
  · have e : startsR c = (starts 0 c, true) := by unfold startsR; rw [if_pos hg]
    rw [e, hg]
    obtain ⟨_, h12, ha, hsum⟩ := goodC_pos hg
    refine Ev.step (fun k => laws_FnCounts.j0.eq_2 _ _ _ _ _ _) (Ev.neg (by simp) (Ev.pos rfl (Ev.pos (by omega) (Ev.pos (by omega) ?_))))
    have := seen_loop m c hg true nx 64 0 (by omega)
    rw [seenL_low c _ (fun x hx => (ha x hx).1) (by omega)] at this
    simpa using this
  · have e : startsR c = ([], false) := by unfold startsR; rw [if_neg hg]
    simp only [Bool.not_eq_true] at hg
    rw [e, hg]
    exact Ev.step (fun k => laws_FnCounts.j0.eq_2 _ _ _ _ _ _) (Ev.neg (by simp) (Ev.neg (by simp) nx))

end Go.Proofs.Ytppgkkejddjacaa.Pure
