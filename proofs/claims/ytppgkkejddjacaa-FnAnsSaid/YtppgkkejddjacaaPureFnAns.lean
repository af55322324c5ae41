/- The law FnAns holds: for every argument within the row's bounds the printed function answers true. No further condition. -/
import Derived.Test.YtppgkkejddjacaaPFnAnsx12
import Derived.Lib.Zigzag
set_option linter.unusedVariables false
namespace Go.Proofs.Ytppgkkejddjacaa.Pure
open Go.RowKit Go.Proofs.Ytppgkkejddjacaa.PFnAns Go.Proofs.YtppgkkejddjacaaW.PrintWords Go.Proofs.YtppgkkejddjacaaW.PrintLast
namespace QFnAns
theorem Ev.pos {α : Type} {c : Prop} [Decidable c] {g f : Nat → Option α} {r : α} (hc : c) (h : Ev g r) : Ev (fun k => if c then g k else f k) r :=
  Ev.congr (fun _ => if_pos hc) h
theorem Ev.neg {α : Type} {c : Prop} [Decidable c] {g f : Nat → Option α} {r : α} (hc : ¬ c) (h : Ev f r) : Ev (fun k => if c then g k else f k) r :=
  Ev.congr (fun _ => if_neg hc) h
theorem Ev.bindo {α β : Type} {o : Option α} {f : Nat → α → Option β} {a : α} {r : β} (h : o = some a) (k : Ev (fun n => f n a) r) : Ev (fun n => o.bind (f n)) r :=
  Ev.congr (fun n => by rw [h]; rfl) k
theorem Ev.eq {α : Type} {g : Nat → Option α} {r s : α} (h : Ev g r) (e : r = s) : Ev g s := e ▸ h
theorem wrap64_id {x : Int} (h1 : -9223372036854775808 ≤ x) (h2 : x ≤ 9223372036854775807) : wrap64 x = x := by
  unfold wrap64
  omega
def inB (a b c : Int) : Bool := decide (b ≤ a) && decide (a ≤ c)
theorem inB_iff {a b c : Int} : inB a b c = true ↔ b ≤ a ∧ a ≤ c := by simp [inB]
theorem inB_no {a b c : Int} : inB a b c = false ↔ ¬ (b ≤ a ∧ a ≤ c) := by rw [← inB_iff]; simp

theorem l1In_eq (a b c : Int) : spec_l1In.f a b c = some (inB a b c) := by
  unfold spec_l1In.f inB
  by_cases h : b ≤ a <;> simp [h]
theorem within_eq (a b c : Int) : impl_within.f a b c = some (inB a b c) := by
  unfold impl_within.f inB
  by_cases h : b ≤ a <;> simp [h]

theorem rd_nat (l : List Int) (i : Nat) (h : i < l.length) : rd l (i : Int) = l[i] := by
  simp [rd, List.getD_eq_getElem?_getD, List.getElem?_eq_getElem h]

theorem rd_mid (pre : List Int) (x : Int) (t : List Int) : rd (pre ++ x :: t) (pre.length : Int) = x := by
  rw [rd_nat _ _ (by simp)]
  simp
theorem snoc_len (pre : List Int) (x : Int) : (pre.length : Int) + 1 = ((pre ++ [x]).length : Int) := by simp

def specFrom (b : Bool) : List Int → Int → Bool
  | [], s => b && (s == 64)
  | x :: t, s => inB x 0 64 && specFrom b t (s + x)
def implFrom (b : Bool) : List Int → Int → Bool
  | [], s => b && (s == 64)
  | x :: t, s => inB x 0 (64 - s) && implFrom b t (s + x)
theorem specFrom_past (b : Bool) : ∀ (t : List Int) (s : Int), 64 < s → specFrom b t s = false := by
  intro t
  induction t with
  | nil => intro s hs; simp [specFrom]; intro _; omega
  | cons x t ih =>
    intro s hs
    unfold specFrom
    by_cases h : inB x 0 64 = true
    · rw [ih (s + x) (by have := inB_iff.1 h; omega)]; simp
    · simp only [Bool.not_eq_true] at h; rw [h]; rfl
theorem implFrom_eq (b : Bool) : ∀ (t : List Int) (s : Int), 0 ≤ s → s ≤ 64 → implFrom b t s = specFrom b t s := by
  intro t
  induction t with
  | nil => intro s _ _; rfl
  | cons x t ih =>
    intro s h0 h1
    unfold implFrom specFrom
    by_cases h : 0 ≤ x ∧ x ≤ 64 - s
    · rw [inB_iff.2 h, inB_iff.2 ⟨h.1, by omega⟩, ih (s + x) (by omega) (by omega)]
    · rw [inB_no.2 h]
      by_cases h2 : 0 ≤ x ∧ x ≤ 64
      · rw [specFrom_past b t (s + x) (by omega)]; simp
      · rw [inB_no.2 h2]; rfl
def goodC (l : List Int) : Bool := specFrom (inB (l.length : Int) 1 12) l 0
theorem specGood_loop (t : List Int) : ∀ (pre : List Int) (s : Int), (pre ++ t).length ≤ 35184372088832 → 0 ≤ s → s ≤ 64 * pre.length →
    Ev (fun k => spec_GoodCounts.l0 k (pre ++ t) s (pre ++ t) ((pre ++ t).length : Int) (pre.length : Int)) (specFrom (inB ((pre ++ t).length : Int) 1 12) t s) := by
  induction t with
  | nil =>
    intro pre s hl h0 h1
    refine Ev.step (fun k => spec_GoodCounts.l0.eq_2 _ _ _ _ _ _) (Ev.neg (by simp) (Ev.bindo (l1In_eq _ _ _) ?_))
    unfold specFrom
    by_cases h : inB ((pre ++ []).length : Int) 1 12 = true
    · exact Ev.pos h (Ev.eq (Ev.now _) (by rw [h]; rfl))
    · exact Ev.neg h (Ev.eq (Ev.now _) (by simp only [Bool.not_eq_true] at h; rw [h]; rfl))
  | cons x t ih =>
    intro pre s hl h0 h1
    have hl' : pre.length + (t.length + 1) ≤ 35184372088832 := by simpa using hl
    refine Ev.step (fun k => spec_GoodCounts.l0.eq_2 _ _ _ _ _ _) (Ev.pos (by simp; omega) (Ev.pos (by omega) (Ev.pos (by simp; omega) (Ev.bindo (l1In_eq _ _ _) ?_))))
    rw [rd_mid]
    unfold specFrom
    by_cases h : inB x 0 64 = true
    · have hx := inB_iff.1 h
      refine Ev.pos h ?_
      rw [h, wrap64_id (by omega) (by omega), wrap64_id (by omega) (by omega), snoc_len pre x]
      have := ih (pre ++ [x]) (s + x) (by simpa using hl) (by omega) (by simp; omega)
      simpa using this
    · exact Ev.neg h (Ev.eq (Ev.now _) (by simp only [Bool.not_eq_true] at h; rw [h]; rfl))
theorem specGood_ev (l : List Int) (hl : l.length ≤ 35184372088832) : Ev (fun k => spec_GoodCounts.f k l) (goodC l) := by
  unfold spec_GoodCounts.f goodC
  have := specGood_loop l [] 0 (by simpa using hl) (by omega) (by simp)
  simpa using this
theorem implGood_loop (t : List Int) : ∀ (pre : List Int) (s : Int), (pre ++ t).length ≤ 35184372088832 → 0 ≤ s → s ≤ 64 →
    Ev (fun k => impl_GoodCounts.l0 k (pre ++ t) s (pre ++ t) ((pre ++ t).length : Int) (pre.length : Int)) (implFrom (inB ((pre ++ t).length : Int) 1 12) t s) := by
  induction t with
  | nil =>
    intro pre s hl h0 h1
    refine Ev.step (fun k => impl_GoodCounts.l0.eq_2 _ _ _ _ _ _) (Ev.neg (by simp) (Ev.bindo (within_eq _ _ _) ?_))
    unfold implFrom
    by_cases h : inB ((pre ++ []).length : Int) 1 12 = true
    · exact Ev.pos h (Ev.eq (Ev.now _) (by rw [h]; rfl))
    · exact Ev.neg h (Ev.eq (Ev.now _) (by simp only [Bool.not_eq_true] at h; rw [h]; rfl))
  | cons x t ih =>
    intro pre s hl h0 h1
    have hl' : pre.length + (t.length + 1) ≤ 35184372088832 := by simpa using hl
    refine Ev.step (fun k => impl_GoodCounts.l0.eq_2 _ _ _ _ _ _) (Ev.pos (by simp; omega) (Ev.pos (by omega) (Ev.pos (by simp; omega) (Ev.bindo (within_eq _ _ _) ?_))))
    rw [rd_mid, wrap64_id (by omega) (by omega)]
    unfold implFrom
    by_cases h : inB x 0 (64 - s) = true
    · have hx := inB_iff.1 h
      refine Ev.pos h ?_
      rw [h, wrap64_id (by omega) (by omega), wrap64_id (by omega) (by omega), snoc_len pre x]
      have := ih (pre ++ [x]) (s + x) (by simpa using hl) (by omega) (by omega)
      simpa using this
    · exact Ev.neg h (Ev.eq (Ev.now _) (by simp only [Bool.not_eq_true] at h; rw [h]; rfl))
theorem implGood_ev (l : List Int) (hl : l.length ≤ 35184372088832) : Ev (fun k => impl_GoodCounts.f k l) (goodC l) := by
  unfold impl_GoodCounts.f goodC
  rw [← implFrom_eq _ l 0 (by omega) (by omega)]
  have := implGood_loop l [] 0 (by simpa using hl) (by omega) (by omega)
  simpa using this
theorem specFrom_pos (b : Bool) : ∀ (t : List Int) (s : Int), specFrom b t s = true → b = true ∧ (∀ x ∈ t, 0 ≤ x ∧ x ≤ 64) ∧ s + t.sum = 64 := by
  intro t
  induction t with
  | nil =>
    intro s h
    simp only [specFrom, Bool.and_eq_true, beq_iff_eq] at h
    exact ⟨h.1, by simp, by simpa using h.2⟩
  | cons x t ih =>
    intro s h
    simp only [specFrom, Bool.and_eq_true] at h
    obtain ⟨hb, ha, hs⟩ := ih _ h.2
    have hx := inB_iff.1 h.1
    refine ⟨hb, ?_, by rw [List.sum_cons]; omega⟩
    intro y hy
    rcases List.mem_cons.1 hy with rfl | hy
    · exact hx
    · exact ha y hy
theorem goodC_pos {l : List Int} (h : goodC l = true) : 1 ≤ l.length ∧ l.length ≤ 12 ∧ (∀ x ∈ l, 0 ≤ x ∧ x ≤ 64) ∧ l.sum = 64 := by
  obtain ⟨hb, ha, hs⟩ := specFrom_pos _ l 0 h
  have := inB_iff.1 hb
  exact ⟨by omega, by omega, ha, by omega⟩

theorem sum_bd : ∀ (l : List Int), (∀ x ∈ l, 0 ≤ x ∧ x ≤ 64) → 0 ≤ l.sum ∧ l.sum ≤ 64 * l.length := by
  intro l
  induction l with
  | nil => intro _; simp
  | cons x t ih =>
    intro h
    have h1 := h x (by simp)
    have h2 := ih (fun y hy => h y (by simp [hy]))
    rw [List.sum_cons, List.length_cons]
    omega
def starts : Int → List Int → List Int
  | _, [] => []
  | s, x :: t => s :: starts (s + x) t
theorem starts_length : ∀ (l : List Int) (s : Int), (starts s l).length = l.length := by
  intro l
  induction l with
  | nil => intro s; rfl
  | cons x t ih => intro s; simp [starts, ih]
theorem starts_append : ∀ (l m : List Int) (s : Int), starts s (l ++ m) = starts s l ++ starts (s + l.sum) m := by
  intro l
  induction l with
  | nil => intro m s; simp [starts]
  | cons x t ih => intro m s; simp [starts, ih, Int.add_assoc]
theorem rd_starts (pre : List Int) (x : Int) (t : List Int) : rd (starts 0 (pre ++ x :: t)) (pre.length : Int) = pre.sum := by
  rw [starts_append, ← starts_length pre 0]
  unfold starts
  rw [rd_mid]
  omega

theorem l14Starts_loop (t : List Int) : ∀ (pre : List Int), (∀ x ∈ pre ++ t, 0 ≤ x ∧ x ≤ 64) → (pre ++ t).length ≤ 12 →
    Ev (fun k => spec_l14Starts.l0 k (starts 0 pre) pre.sum (pre ++ t) ((pre ++ t).length : Int) (pre.length : Int)) (starts 0 (pre ++ t)) := by
  induction t with
  | nil =>
    intro pre ha hl
    refine Ev.step (fun k => spec_l14Starts.l0.eq_2 _ _ _ _ _ _) (Ev.neg (by simp) ?_)
    rw [List.append_nil]
    exact Ev.now _
  | cons x t ih =>
    intro pre ha hl
    have hp := sum_bd pre (fun y hy => ha y (by simp [hy]))
    have hx := ha x (by simp)
    have hl' : pre.length + (t.length + 1) ≤ 12 := by simpa using hl
    refine Ev.step (fun k => spec_l14Starts.l0.eq_2 _ _ _ _ _ _) (Ev.pos (by simp; omega) (Ev.pos (by omega) (Ev.pos (by simp; omega) (Ev.pos (by rw [starts_length]; omega) ?_))))
    rw [rd_mid, wrap64_id (by omega) (by omega), wrap64_id (by omega) (by omega), snoc_len pre x]
    have e1 : starts 0 pre ++ [pre.sum] = starts 0 (pre ++ [x]) := by rw [starts_append]; simp [starts]
    have e2 : pre.sum + x = (pre ++ [x]).sum := by simp
    rw [e1, e2]
    have := ih (pre ++ [x]) (by simpa using ha) (by simpa using hl)
    simpa using this
theorem l14Starts_ev (l : List Int) (ha : ∀ x ∈ l, 0 ≤ x ∧ x ≤ 64) (hl : l.length ≤ 12) : Ev (fun k => spec_l14Starts.f k l) (starts 0 l) := by
  unfold spec_l14Starts.f
  have := l14Starts_loop l [] (by simpa using ha) (by simpa using hl)
  simpa [starts] using this

theorem startOf_loop (t : List Int) : ∀ (pre : List Int) (s : Int), (∀ x ∈ pre ++ t, 0 ≤ x ∧ x ≤ 64) → (pre ++ t).length ≤ 12 → 0 ≤ s → s ≤ 64 * pre.length →
    Ev (fun k => impl_startOf.l0 k s (pre ++ t) ((pre ++ t).length : Int) (pre.length : Int)) (s + t.sum) := by
  induction t with
  | nil =>
    intro pre s ha hl h0 h1
    refine Ev.step (fun k => impl_startOf.l0.eq_2 _ _ _ _ _) (Ev.neg (by simp) (Ev.eq (Ev.now _) (by simp)))
  | cons x t ih =>
    intro pre s ha hl h0 h1
    have hx := ha x (by simp)
    have hl' : pre.length + (t.length + 1) ≤ 12 := by simpa using hl
    refine Ev.step (fun k => impl_startOf.l0.eq_2 _ _ _ _ _) (Ev.pos (by simp; omega) (Ev.pos (by omega) (Ev.pos (by simp; omega) ?_)))
    rw [rd_mid, wrap64_id (by omega) (by omega), wrap64_id (by omega) (by omega), snoc_len pre x]
    have := ih (pre ++ [x]) (s + x) (by simpa using ha) (by simpa using hl) (by omega) (by simp; omega)
    refine Ev.eq (by simpa using this) ?_
    rw [List.sum_cons]
    omega
theorem startOf_ev (l : List Int) (i : Nat) (ha : ∀ x ∈ l, 0 ≤ x ∧ x ≤ 64) (hl : l.length ≤ 12) (hi : i ≤ l.length) : Ev (fun k => impl_startOf.f k l (i : Int)) (l.take i).sum := by
  unfold impl_startOf.f
  refine Ev.pos (by omega) (Ev.pos (by omega) ?_)
  rw [Int.toNat_natCast]
  have := startOf_loop (l.take i) [] 0 (by intro x hx; exact ha x (List.mem_of_mem_take (by simpa using hx))) (by simp; omega) (by omega) (by simp)
  simpa using this

def symAt : List Int → Int → Nat
  | [], _ => 0
  | x :: t, s => if s < x then 0 else 1 + symAt t (s - x)
theorem specAt_loop (slot : Int) (t : List Int) : ∀ (pre : List Int), (∀ x ∈ pre ++ t, 0 ≤ x ∧ x ≤ 64) → (pre ++ t).length ≤ 12 → 0 ≤ slot - pre.sum → slot - pre.sum < t.sum →
    Ev (fun k => spec_l14At.l0 k (pre ++ t) slot (starts 0 (pre ++ t)) ((starts 0 (pre ++ t)).length : Int) (pre.length : Int)) ((pre.length : Int) + symAt t (slot - pre.sum)) := by
  induction t with
  | nil =>
    intro pre ha hl h0 h1
    simp only [List.sum_nil] at h1
    omega
  | cons x t ih =>
    intro pre ha hl h0 h1
    have hp := sum_bd pre (fun y hy => ha y (by simp [hy]))
    have hx := ha x (by simp)
    have hl' : pre.length + (t.length + 1) ≤ 12 := by simpa using hl
    have hs : (starts 0 (pre ++ x :: t)).length = pre.length + (t.length + 1) := by rw [starts_length]; simp
    rw [List.sum_cons] at h1
    refine Ev.step (fun k => spec_l14At.l0.eq_2 _ _ _ _ _ _) (Ev.pos (by omega) (Ev.pos (by omega) (Ev.pos (by omega) (Ev.pos (by simp; omega) ?_))))
    rw [rd_mid, rd_starts, wrap64_id (by omega) (by omega)]
    unfold symAt
    by_cases h : slot - pre.sum < x
    · rw [if_pos h]
      exact Ev.pos (by omega) (Ev.eq (Ev.now _) (by simp))
    · rw [if_neg h]
      refine Ev.neg (by omega) ?_
      rw [wrap64_id (by omega) (by omega), snoc_len pre x]
      have e : (pre ++ [x]).sum = pre.sum + x := by simp
      have := ih (pre ++ [x]) (by simpa using ha) (by simpa using hl) (by rw [e]; omega) (by rw [e]; omega)
      rw [e] at this
      refine Ev.eq (by simpa using this) ?_
      rw [show slot - (pre.sum + x) = slot - pre.sum - x by omega]
      simp
      omega
theorem specAt_ev (l : List Int) (slot : Int) (hg : goodC l = true) (h0 : 0 ≤ slot) (h1 : slot ≤ 63) : Ev (fun k => spec_l14At.f k l slot) (symAt l slot : Int) := by
  obtain ⟨_, h12, ha, hs⟩ := goodC_pos hg
  unfold spec_l14At.f
  refine Ev.bind (l14Starts_ev l ha h12) ?_
  have := specAt_loop slot l [] (by simpa using ha) (by simpa using h12) (by simpa using h0) (by simp; omega)
  simpa using this
theorem implAt_loop (t : List Int) : ∀ (pre : List Int) (s : Int), (∀ x ∈ pre ++ t, 0 ≤ x ∧ x ≤ 64) → (pre ++ t).length ≤ 12 → 0 ≤ s → s ≤ 63 → s < t.sum →
    Ev (fun k => impl_symbolAt.l0 k (pre ++ t) s (pre.length : Int)) ((pre.length : Int) + symAt t s) := by
  induction t with
  | nil =>
    intro pre s ha hl h0 h63 h1
    simp only [List.sum_nil] at h1
    omega
  | cons x t ih =>
    intro pre s ha hl h0 h63 h1
    have hx := ha x (by simp)
    have hl' : pre.length + (t.length + 1) ≤ 12 := by simpa using hl
    rw [List.sum_cons] at h1
    refine Ev.step (fun k => impl_symbolAt.l0.eq_2 _ _ _ _) (Ev.pos (by omega) (Ev.pos (by simp; omega) ?_))
    rw [rd_mid]
    unfold symAt
    by_cases h : s < x
    · rw [if_pos h]
      exact Ev.neg (by omega) (Ev.eq (Ev.now _) (by simp))
    · rw [if_neg h]
      refine Ev.pos (by omega) ?_
      rw [wrap64_id (by omega) (by omega), wrap64_id (by omega) (by omega), snoc_len pre x]
      have := ih (pre ++ [x]) (s - x) (by simpa using ha) (by simpa using hl) (by omega) (by omega) (by omega)
      refine Ev.eq (by simpa using this) ?_
      simp
      omega
theorem implAt_ev (l : List Int) (slot : Int) (hg : goodC l = true) (h0 : 0 ≤ slot) (h1 : slot ≤ 63) : Ev (fun k => impl_symbolAt.f k l slot) (symAt l slot : Int) := by
  obtain ⟨_, h12, ha, hs⟩ := goodC_pos hg
  unfold impl_symbolAt.f
  have := implAt_loop l [] slot (by simpa using ha) (by simpa using h12) h0 h1 (by omega)
  simpa using this

theorem rd_starts_take (l : List Int) (y : Int) (h0 : 0 ≤ y) (h1 : y < (l.length : Int)) : rd (starts 0 l) y = (l.take y.toNat).sum := by
  have hy : y.toNat < l.length := by omega
  have e : l = l.take y.toNat ++ l[y.toNat] :: l.drop (y.toNat + 1) := by rw [← List.drop_eq_getElem_cons hy, List.take_append_drop]
  have hl : (l.take y.toNat).length = y.toNat := by rw [List.length_take]; omega
  have := rd_starts (l.take y.toNat) l[y.toNat] (l.drop (y.toNat + 1))
  rw [← e, hl, show ((y.toNat : Nat) : Int) = y by omega] at this
  exact this
theorem take_bd (l : List Int) (n : Nat) (ha : ∀ x ∈ l, 0 ≤ x ∧ x ≤ 64) (hl : l.length ≤ 12) : 0 ≤ (l.take n).sum ∧ (l.take n).sum ≤ 768 := by
  have := sum_bd (l.take n) (fun x hx => ha x (List.mem_of_mem_take hx))
  have h2 : (l.take n).length ≤ l.length := by rw [List.length_take]; omega
  omega
theorem rd_good {l : List Int} (hg : goodC l = true) (y : Int) (h0 : 0 ≤ y) (h1 : y < (l.length : Int)) : 0 ≤ rd l y ∧ rd l y ≤ 64 := by
  obtain ⟨_, _, ha, _⟩ := goodC_pos hg
  have hm : rd l y ∈ l := by
    unfold rd
    rw [List.getD_eq_getElem?_getD, List.getElem?_eq_getElem (by omega)]
    exact List.getElem_mem _
  exact ha _ hm

theorem state_eq (a : Int) : spec_l14State.f a = some (inB a 4096 65535) := by unfold spec_l14State.f; rw [l1In_eq]; rfl
def spill (f : Int) : Nat → Int → List Int → Int × List Int
  | 0, s, w => (s, w)
  | n + 1, s, w => if 1024 * f ≤ s then spill f n (s / 16) (w ++ [s % 16]) else (s, w)
def joinS (l : List Int) (y : Int) (f : Int) (p : Int × List Int) : Int × List Int := (p.1 / f * 64 + p.1 % f + (l.take y.toNat).sum, p.2)
def putP (l : List Int) (s y : Int) : Int × List Int := joinS l y (rd l y) (spill (rd l y) 2 s [])
theorem spill_state (f s : Int) (hf : 1 ≤ f ∧ f ≤ 64) (h0 : 0 ≤ s) (h1 : s < 1024 * f) : 0 ≤ s / f ∧ s / f < 1024 ∧ 0 ≤ s % f ∧ s % f < f := by
  refine ⟨Int.ediv_nonneg h0 (by omega), ?_, Int.emod_nonneg _ (by omega), Int.emod_lt_of_pos _ (by omega)⟩
  rw [Int.ediv_lt_iff_lt_mul (by omega)]
  exact h1
theorem specPut_loop (l : List Int) (y f : Int) (ha : ∀ x ∈ l, 0 ≤ x ∧ x ≤ 64) (hl : l.length ≤ 12) (hy0 : 0 ≤ y) (hy1 : y < (l.length : Int)) (hf : 1 ≤ f ∧ f ≤ 64) : ∀ (n : Nat) (s : Int) (w : List Int), 0 ≤ s → s < 1024 * 16 ^ n → n ≤ 2 → w.length + n ≤ 2 →
    Ev (fun k => spec_PutSymbol.l0 k l s y f w) ((joinS l y f (spill f n s w)).1, (joinS l y f (spill f n s w)).2, true) := by
  intro n
  induction n with
  | zero =>
    intro s w h0 h1 hn hw
    have hlt : s < 1024 * f := by simp at h1; omega
    obtain ⟨b0, b1, b2, b3⟩ := spill_state f s hf h0 hlt
    have hs := take_bd l y.toNat ha hl
    refine Ev.step (fun k => spec_PutSymbol.l0.eq_2 _ _ _ _ _ _) (Ev.neg (by rw [wrap64_id (by omega) (by omega)]; omega) (Ev.neg (by omega) (Ev.bind (l14Starts_ev l ha hl) (Ev.pos hy0 (Ev.pos (by rw [starts_length]; exact hy1) ?_)))))
    rw [rd_starts_take l y hy0 hy1, Int.tdiv_eq_ediv_of_nonneg h0, Int.tmod_eq_emod_of_nonneg h0, wrap64_id (x := s / f) (by omega) (by omega), wrap64_id (x := s / f * 64) (by omega) (by omega), wrap64_id (x := s / f * 64 + s % f) (by omega) (by omega), wrap64_id (by omega) (by omega)]
    exact Ev.now _
  | succ n ih =>
    intro s w h0 h1 hn hw
    have hs := take_bd l y.toNat ha hl
    have hp : (16 : Int) ^ (n + 1) = 16 ^ n * 16 := by rw [Int.pow_succ]
    have hp2 : (16 : Int) ^ n ≤ 256 := by
      have : n = 0 ∨ n = 1 := by omega
      rcases this with rfl | rfl <;> decide
    rw [hp] at h1
    unfold spill
    by_cases hc : 1024 * f ≤ s
    · rw [if_pos hc]
      refine Ev.step (fun k => spec_PutSymbol.l0.eq_2 _ _ _ _ _ _) (Ev.pos (by rw [wrap64_id (by omega) (by omega)]; omega) (Ev.pos (by omega) ?_))
      rw [Int.tdiv_eq_ediv_of_nonneg h0, Int.tmod_eq_emod_of_nonneg h0, wrap64_id (x := s / 16) (by omega) (by omega)]
      exact ih (s / 16) (w ++ [s % 16]) (by omega) (by omega) (by omega) (by simp; omega)
    · rw [if_neg hc]
      obtain ⟨b0, b1, b2, b3⟩ := spill_state f s hf h0 (by omega)
      refine Ev.step (fun k => spec_PutSymbol.l0.eq_2 _ _ _ _ _ _) (Ev.neg (by rw [wrap64_id (by omega) (by omega)]; omega) (Ev.neg (by omega) (Ev.bind (l14Starts_ev l ha hl) (Ev.pos hy0 (Ev.pos (by rw [starts_length]; exact hy1) ?_)))))
      rw [rd_starts_take l y hy0 hy1, Int.tdiv_eq_ediv_of_nonneg h0, Int.tmod_eq_emod_of_nonneg h0, wrap64_id (x := s / f) (by omega) (by omega), wrap64_id (x := s / f * 64) (by omega) (by omega), wrap64_id (x := s / f * 64 + s % f) (by omega) (by omega), wrap64_id (by omega) (by omega)]
      exact Ev.now _
theorem implPut_loop (l : List Int) (y f : Int) (ha : ∀ x ∈ l, 0 ≤ x ∧ x ≤ 64) (hl : l.length ≤ 12) (hy0 : 0 ≤ y) (hy1 : y < (l.length : Int)) (hf : 1 ≤ f ∧ f ≤ 64) : ∀ (n : Nat) (s : Int) (w : List Int), 0 ≤ s → s < 1024 * 16 ^ n → n ≤ 2 → w.length + n ≤ 2 →
    Ev (fun k => impl_put.l0 k l s y f w) (joinS l y f (spill f n s w)) := by
  have hst := startOf_ev l y.toNat ha hl (by omega)
  rw [show ((y.toNat : Nat) : Int) = y by omega] at hst
  intro n
  induction n with
  | zero =>
    intro s w h0 h1 hn hw
    have hlt : s < 1024 * f := by simp at h1; omega
    obtain ⟨b0, b1, b2, b3⟩ := spill_state f s hf h0 hlt
    have hs := take_bd l y.toNat ha hl
    refine Ev.step (fun k => impl_put.l0.eq_2 _ _ _ _ _ _) (Ev.neg (by rw [wrap64_id (by omega) (by omega)]; omega) (Ev.neg (by omega) (Ev.bind hst ?_)))
    rw [Int.tdiv_eq_ediv_of_nonneg h0, Int.tmod_eq_emod_of_nonneg h0, wrap64_id (x := s / f) (by omega) (by omega), wrap64_id (x := s / f * 64) (by omega) (by omega), wrap64_id (x := s / f * 64 + s % f) (by omega) (by omega), wrap64_id (by omega) (by omega)]
    exact Ev.now _
  | succ n ih =>
    intro s w h0 h1 hn hw
    have hs := take_bd l y.toNat ha hl
    have hp : (16 : Int) ^ (n + 1) = 16 ^ n * 16 := by rw [Int.pow_succ]
    have hp2 : (16 : Int) ^ n ≤ 256 := by
      have : n = 0 ∨ n = 1 := by omega
      rcases this with rfl | rfl <;> decide
    rw [hp] at h1
    unfold spill
    by_cases hc : 1024 * f ≤ s
    · rw [if_pos hc]
      refine Ev.step (fun k => impl_put.l0.eq_2 _ _ _ _ _ _) (Ev.pos (by rw [wrap64_id (by omega) (by omega)]; omega) (Ev.pos (by omega) ?_))
      rw [Int.tdiv_eq_ediv_of_nonneg h0, Int.tmod_eq_emod_of_nonneg h0, wrap64_id (x := s / 16) (by omega) (by omega)]
      exact ih (s / 16) (w ++ [s % 16]) (by omega) (by omega) (by omega) (by simp; omega)
    · rw [if_neg hc]
      obtain ⟨b0, b1, b2, b3⟩ := spill_state f s hf h0 (by omega)
      refine Ev.step (fun k => impl_put.l0.eq_2 _ _ _ _ _ _) (Ev.neg (by rw [wrap64_id (by omega) (by omega)]; omega) (Ev.neg (by omega) (Ev.bind hst ?_)))
      rw [Int.tdiv_eq_ediv_of_nonneg h0, Int.tmod_eq_emod_of_nonneg h0, wrap64_id (x := s / f) (by omega) (by omega), wrap64_id (x := s / f * 64) (by omega) (by omega), wrap64_id (x := s / f * 64 + s % f) (by omega) (by omega), wrap64_id (by omega) (by omega)]
      exact Ev.now _
def hasB (l : List Int) (y : Int) : Bool := goodC l && inB y 0 ((l.length : Int) - 1) && decide (0 < rd l y)
theorem hasB_iff {l : List Int} {y : Int} : hasB l y = true ↔ goodC l = true ∧ 0 ≤ y ∧ y < (l.length : Int) ∧ 0 < rd l y := by
  unfold hasB
  simp only [Bool.and_eq_true, decide_eq_true_eq, inB_iff]
  constructor
  · rintro ⟨⟨h1, h2, h3⟩, h4⟩; exact ⟨h1, h2, by omega, h4⟩
  · rintro ⟨h1, h2, h3, h4⟩; exact ⟨⟨h1, h2, by omega⟩, h4⟩
theorem has_ev (l : List Int) (y : Int) (hl : l.length ≤ 35184372088832) : Ev (fun k => impl_has.f k l y) (hasB l y) := by
  unfold impl_has.f hasB
  by_cases hg : goodC l = true
  · refine Ev.bind (implGood_ev l hl) (Ev.pos hg (Ev.bindo (within_eq _ _ _) ?_))
    rw [wrap64_id (by omega) (by omega), hg]
    by_cases hy : inB y 0 ((l.length : Int) - 1) = true
    · have := inB_iff.1 hy
      rw [hy]
      refine Ev.pos rfl (Ev.pos this.1 (Ev.pos (by omega) ?_))
      simpa using Ev.now _
    · refine Ev.neg hy ?_
      simp only [Bool.not_eq_true] at hy
      rw [hy]
      simpa using Ev.now _
  · simp only [Bool.not_eq_true] at hg
    rw [hg]
    exact Ev.bind (implGood_ev l hl) (Ev.neg (by rw [hg]; simp) (Ev.now _))
theorem put_ev (l : List Int) (s y : Int) (hh : hasB l y = true) (hs : 0 ≤ s ∧ s ≤ 65535) : Ev (fun k => impl_put.f k l s y) (putP l s y) := by
  obtain ⟨hg, h0, h1, hr⟩ := hasB_iff.1 hh
  obtain ⟨_, h12, ha, _⟩ := goodC_pos hg
  have hr2 := rd_good hg y h0 h1
  unfold impl_put.f
  exact Ev.pos h0 (Ev.pos h1 (implPut_loop l y (rd l y) ha h12 h0 h1 (by omega) 2 s [] hs.1 (by simp; omega) (by omega) (by simp)))
theorem spill_len (f : Int) : ∀ (n : Nat) (s : Int) (w : List Int), (spill f n s w).2.length ≤ w.length + n := by
  intro n
  induction n with
  | zero => intro s w; simp [spill]
  | succ n ih =>
    intro s w
    unfold spill
    split
    · have := ih (s / 16) (w ++ [s % 16])
      simp only [List.length_append, List.length_cons, List.length_nil] at this
      omega
    · simp
theorem putP_len (l : List Int) (s y : Int) : (putP l s y).2.length ≤ 2 := by
  have := spill_len (rd l y) 2 s []
  simpa [putP, joinS] using this
def putR (l : List Int) (s y : Int) : Int × List Int × Bool := if hasB l y && inB s 4096 65535 then ((putP l s y).1, (putP l s y).2, true) else (0, [], false)
theorem putR_len (l : List Int) (s y : Int) : (putR l s y).2.1.length ≤ 2 := by
  unfold putR
  split
  · exact putP_len l s y
  · simp
theorem specPutSymbol_ev (l : List Int) (s y : Int) (hl : l.length ≤ 35184372088832) : Ev (fun k => spec_PutSymbol.f k l s y) (putR l s y) := by
  unfold spec_PutSymbol.f putR
  have no : ∀ b, b = false → Ev (fun k => spec_PutSymbol.j0 k l s y true) (if b = true then ((putP l s y).1, (putP l s y).2, true) else (0, [], false)) := by
    intro b hb
    rw [hb]
    exact Ev.step (fun k => spec_PutSymbol.j0.eq_2 _ _ _ _ _) (Ev.pos rfl (Ev.now _))
  by_cases hg : goodC l = true
  case neg =>
    refine Ev.bind (specGood_ev l hl) (Ev.neg hg (no _ ?_))
    unfold hasB
    simp only [Bool.not_eq_true] at hg
    rw [hg]; simp
  refine Ev.bind (specGood_ev l hl) (Ev.pos hg ?_)
  by_cases hs : inB s 4096 65535 = true
  case neg =>
    refine Ev.bindo (state_eq s) (Ev.neg hs (no _ ?_))
    simp only [Bool.not_eq_true] at hs
    rw [hs]; simp
  refine Ev.bindo (state_eq s) (Ev.pos hs ?_)
  rw [wrap64_id (by omega) (by omega)]
  by_cases hy : inB y 0 ((l.length : Int) - 1) = true
  case neg =>
    refine Ev.bindo (l1In_eq _ _ _) (Ev.neg hy (no _ ?_))
    unfold hasB
    simp only [Bool.not_eq_true] at hy
    rw [hy]; simp
  have hy' := inB_iff.1 hy
  have hs' := inB_iff.1 hs
  refine Ev.bindo (l1In_eq _ _ _) (Ev.pos hy (Ev.pos hy'.1 (Ev.pos (by omega) ?_)))
  obtain ⟨_, h12, ha, _⟩ := goodC_pos hg
  have hr2 := rd_good hg y hy'.1 (by omega)
  by_cases hr : rd l y = 0
  · rw [hr]
    refine no _ ?_
    unfold hasB
    rw [hr]; simp
  · have hh : hasB l y = true := hasB_iff.2 ⟨hg, hy'.1, by omega, by omega⟩
    rw [hh, hs]
    refine Ev.step (fun k => spec_PutSymbol.j0.eq_2 _ _ _ _ _) (Ev.neg (by simpa using hr) (Ev.pos hy'.1 (Ev.pos (by omega) ?_)))
    exact specPut_loop l y (rd l y) ha h12 hy'.1 (by omega) (by omega) 2 s [] (by omega) (by simp; omega) (by omega) (by simp)

theorem isState_eq (a : Int) : impl_isState.f a = some (inB a 4096 65535) := by unfold impl_isState.f; rw [within_eq]; rfl
theorem implPutSymbol_ev (l : List Int) (s y : Int) (hl : l.length ≤ 35184372088832) : Ev (fun k => impl_PutSymbol.f k l s y) (putR l s y) := by
  unfold impl_PutSymbol.f putR
  by_cases hh : hasB l y = true
  · by_cases hs : inB s 4096 65535 = true
    · have := inB_iff.1 hs
      rw [hh, hs]
      exact Ev.bind (has_ev l y hl) (Ev.pos hh (Ev.bindo (isState_eq s) (Ev.pos hs (Ev.bind (put_ev l s y hh (by omega)) (Ev.now _)))))
    · refine Ev.bind (has_ev l y hl) (Ev.pos hh (Ev.bindo (isState_eq s) (Ev.neg hs ?_)))
      simp only [Bool.not_eq_true] at hs
      rw [hs, Bool.and_false]
      exact Ev.now _
  · refine Ev.bind (has_ev l y hl) (Ev.neg hh ?_)
    simp only [Bool.not_eq_true] at hh
    rw [hh, Bool.false_and]
    exact Ev.now _

theorem anyO_ev {α : Type} {f : Nat → α → Option Bool} {b : α → Bool} : ∀ (l : List α), (∀ x ∈ l, Ev (fun k => f k x) (b x)) → Ev (fun k => anyO (f k) l) (l.any b) := by
  intro l
  induction l with
  | nil => intro _; exact Ev.now _
  | cons x t ih =>
    intro h
    have ht := ih (fun y hy => h y (by simp [hy]))
    rw [List.any_cons]
    refine Ev.bind (f := fun k (b : Bool) => if b = true then some true else anyO (f k) t) (h x (by simp)) ?_
    cases hb : b x
    · exact Ev.neg (by simp) (by simpa using ht)
    · exact Ev.pos rfl (Ev.now _)

theorem set_bd {f : List Int} {B : Int} (hf : ∀ x ∈ f, 0 ≤ x ∧ x ≤ B) (i : Nat) (v : Int) (hv : 0 ≤ v ∧ v ≤ B + 1) : ∀ x ∈ f.set i v, 0 ≤ x ∧ x ≤ B + 1 := by
  intro x hx
  rcases List.mem_or_eq_of_mem_set hx with h | h
  · have := hf x h; omega
  · rw [h]; exact hv
theorem rd_mem (f : List Int) (s : Int) (h0 : 0 ≤ s) (h1 : s < (f.length : Int)) : rd f s ∈ f := by
  unfold rd
  rw [List.getD_eq_getElem?_getD, List.getElem?_eq_getElem (by omega)]
  exact List.getElem_mem _
def tally (f : List Int) : List Int → List Int
  | [] => f
  | s :: t => tally (f.set s.toNat (rd f s + 1)) t
theorem tally_ok : ∀ (t f : List Int) (B : Int), (∀ x ∈ f, 0 ≤ x ∧ x ≤ B) → (∀ s ∈ t, 0 ≤ s ∧ s < (f.length : Int)) → 0 ≤ B → (tally f t).length = f.length ∧ ∀ x ∈ tally f t, 0 ≤ x ∧ x ≤ B + t.length := by
  intro t
  induction t with
  | nil => intro f B hf _ _; exact ⟨rfl, by simpa [tally] using hf⟩
  | cons s t ih =>
    intro f B hf hs hB
    have h0 := hs s (by simp)
    have hm := hf _ (rd_mem f s h0.1 h0.2)
    obtain ⟨h1, h2⟩ := ih (f.set s.toNat (rd f s + 1)) (B + 1) (set_bd hf _ _ (by omega)) (by intro x hx; simpa using hs x (by simp [hx])) (by omega)
    refine ⟨by simpa [tally] using h1, fun x hx => ?_⟩
    have := h2 x hx
    simp only [List.length_cons]
    omega
def moreOf (len kinds n : Int) : Int := Int.tdiv (n * (64 - kinds)) (mx 1 len)
def finish (o : List Int) (l : Int) : List Int × Bool := (o.set 0 (rd o 0 + l), true)
theorem mx_pos (len : Int) : 1 ≤ mx 1 len := by unfold mx; split <;> omega
theorem moreOf_bd (len kinds n : Int) (hn : 0 ≤ n ∧ n ≤ 80) (hk : 1 ≤ kinds ∧ kinds ≤ 12) : 0 ≤ moreOf len kinds n ∧ moreOf len kinds n ≤ 5040 ∧ 0 ≤ n * (64 - kinds) ∧ n * (64 - kinds) ≤ 5040 := by
  have h1 : 0 ≤ n * (64 - kinds) := Int.mul_nonneg hn.1 (by omega)
  have h2 : n * (64 - kinds) ≤ 80 * 63 := Int.mul_le_mul hn.2 (by omega) (by omega) (by omega)
  have hp := mx_pos len
  have h3 : 0 ≤ moreOf len kinds n := Int.tdiv_nonneg h1 (by omega)
  have h4 : moreOf len kinds n ≤ n * (64 - kinds) := by
    unfold moreOf
    rw [Int.tdiv_eq_ediv_of_nonneg h1]
    exact Int.ediv_le_self _ h1
  exact ⟨h3, by omega, h1, by omega⟩
theorem finish_ev (o : List Int) (l : Int) (ho : 0 < o.length) (hb : ∀ x ∈ o, 0 ≤ x ∧ x ≤ 5041) (hl : -100000 ≤ l ∧ l ≤ 100000) : (o.set (0 : Int).toNat (wrap64 ((rd o 0) + l)), true) = finish o l := by
  have := hb _ (rd_mem o 0 (by omega) (by omega))
  rw [wrap64_id (by omega) (by omega)]
  rfl
theorem specL1 (l0 : List Int) (kinds : Int) (hk : 1 ≤ kinds ∧ kinds ≤ 12) (hl : l0.length ≤ 80) (h0 : l0 = [] → True) (t : List Int) : ∀ (pre o : List Int) (L : Int), (pre ++ t).length ≤ 12 → (∀ x ∈ t, 0 ≤ x ∧ x ≤ 80) → (l0.length = 0 → ∀ x ∈ t, x = 0) → o.length = pre.length → (∀ x ∈ o, 0 ≤ x ∧ x ≤ 5041) →
    -(5040 * pre.length : Int) ≤ L → L ≤ 64 → 0 < (pre ++ t).length →
    Ev (fun k => spec_CountsFor.l1 k l0 (64 - kinds) L o (pre ++ t) ((pre ++ t).length : Int) (pre.length : Int)) (finish (o ++ t.map (fun n => 1 + moreOf (l0.length : Int) kinds n)) (L - (t.map (moreOf (l0.length : Int) kinds)).sum)) := by
  induction t with
  | nil =>
    intro pre o L hp ht hz ho hob hL1 hL2 hpos
    simp only [List.append_nil] at hp hpos
    refine Ev.step (fun k => spec_CountsFor.l1.eq_2 _ _ _ _ _ _ _ _) (Ev.neg (by simp) (Ev.pos (by omega) ?_))
    rw [finish_ev o L (by omega) hob (by omega)]
    simpa using Ev.now _
  | cons x t ih =>
    intro pre o L hp ht hz ho hob hL1 hL2 hpos
    have hp' : pre.length + (t.length + 1) ≤ 12 := by simpa using hp
    have hx := ht x (by simp)
    obtain ⟨m1, m2, m3, m4⟩ := moreOf_bd (l0.length : Int) kinds x hx hk
    refine Ev.step (fun k => spec_CountsFor.l1.eq_2 _ _ _ _ _ _ _ _) (Ev.pos (by simp; omega) (Ev.pos (by omega) (Ev.pos (by simp; omega) ?_)))
    rw [rd_mid]
    have next := ih (pre ++ [x]) (o ++ [1 + moreOf (l0.length : Int) kinds x]) (L - moreOf (l0.length : Int) kinds x) (by simpa using hp) (fun y hy => ht y (by simp [hy])) (fun h y hy => hz h y (by simp [hy])) (by simp [ho])
      (by intro y hy; rcases List.mem_append.1 hy with h | h; exact hob y h; simp at h; omega) (by simp; omega) (by omega) (by simp; omega)
    have fin : Ev (fun k => spec_CountsFor.l1 k l0 (64 - kinds) (L - moreOf (l0.length : Int) kinds x) (o ++ [1 + moreOf (l0.length : Int) kinds x]) (pre ++ x :: t) ((pre ++ x :: t).length : Int) ((pre.length : Int) + 1))
        (finish (o ++ (x :: t).map (fun n => 1 + moreOf (l0.length : Int) kinds n)) (L - ((x :: t).map (moreOf (l0.length : Int) kinds)).sum)) := by
      rw [snoc_len pre x]
      refine Ev.eq (by simpa using next) ?_
      simp only [List.map_cons, List.sum_cons]
      congr 1
      omega
    by_cases hc : (l0.length : Int) > 0
    · have e : Int.tdiv (x * (64 - kinds)) (l0.length : Int) = moreOf (l0.length : Int) kinds x := by
        unfold moreOf mx
        split
        · rfl
        · rw [show (l0.length : Int) = 1 by omega]
      refine Ev.pos hc (Ev.neg (by omega) (Ev.pos (by omega) ?_))
      rw [wrap64_id (x := x * (64 - kinds)) (by omega) (by omega), e, wrap64_id (x := moreOf (l0.length : Int) kinds x) (by omega) (by omega), wrap64_id (x := L - _) (by omega) (by omega), wrap64_id (x := 1 + _) (by omega) (by omega), wrap64_id (x := (pre.length : Int) + 1) (by omega) (by omega)]
      exact fin
    · have e : moreOf (l0.length : Int) kinds x = 0 := by
        have := hz (by omega) x (by simp)
        subst this
        simp [moreOf]
      rw [e] at fin
      refine Ev.neg hc (Ev.pos (by omega) ?_)
      rw [wrap64_id (x := L - 0) (by omega) (by omega), wrap64_id (x := (pre.length : Int) + 1) (by omega) (by omega)]
      exact fin
theorem specL0 (l0 : List Int) (kinds : Int) (hk : 1 ≤ kinds ∧ kinds ≤ 12) (r : List Int × Bool) (t : List Int) : ∀ (pre f : List Int) (B : Int), l0 = pre ++ t → l0.length ≤ 80 → (∀ x ∈ f, 0 ≤ x ∧ x ≤ B) → 0 ≤ B → B ≤ pre.length → (f.length : Int) = kinds → (∀ s ∈ t, 0 ≤ s ∧ s < kinds) →
    Ev (fun k => spec_CountsFor.l1 k l0 (64 - kinds) (64 - kinds) [] (tally f t) ((tally f t).length : Int) 0) r →
    Ev (fun k => spec_CountsFor.l0 k l0 kinds f l0 (l0.length : Int) (pre.length : Int)) r := by
  induction t with
  | nil =>
    intro pre f B he hl hf hB hB2 hfl hs h
    subst he
    refine Ev.step (fun k => spec_CountsFor.l0.eq_2 _ _ _ _ _ _ _) (Ev.neg (by simp) ?_)
    rw [wrap64_id (x := 64 - kinds) (by omega) (by omega)]
    exact h
  | cons s t ih =>
    intro pre f B he hl hf hB hB2 hfl hs h
    have h0 := hs s (by simp)
    have hm := hf _ (rd_mem f s h0.1 (by omega))
    have hlen : pre.length + (t.length + 1) ≤ 80 := by rw [he] at hl; simpa using hl
    have hr : rd l0 (pre.length : Int) = s := by rw [he]; exact rd_mid pre s t
    have hin : inB s 0 (kinds - 1) = true := inB_iff.2 (by omega)
    refine Ev.step (fun k => spec_CountsFor.l0.eq_2 _ _ _ _ _ _ _) (Ev.pos (by rw [he]; simp; omega) (Ev.pos (by omega) (Ev.pos (by rw [he]; simp; omega) ?_)))
    rw [hr, wrap64_id (x := kinds - 1) (by omega) (by omega)]
    refine Ev.bindo (l1In_eq _ _ _) (Ev.pos hin (Ev.pos h0.1 (Ev.pos (by omega) ?_)))
    rw [wrap64_id (x := rd f s + 1) (by omega) (by omega), wrap64_id (x := (pre.length : Int) + 1) (by omega) (by omega), snoc_len pre s]
    exact ih (pre ++ [s]) (f.set s.toNat (rd f s + 1)) (B + 1) (by rw [he]; simp) hl (set_bd hf _ _ (by omega)) (by omega) (by simp; omega) (by simpa using hfl) (fun x hx => hs x (by simp [hx])) h
theorem specL0_no (l0 : List Int) (kinds : Int) (hk : 1 ≤ kinds ∧ kinds ≤ 12) (t : List Int) : ∀ (pre f : List Int) (B : Int), l0 = pre ++ t → l0.length ≤ 80 → (∀ x ∈ f, 0 ≤ x ∧ x ≤ B) → 0 ≤ B → B ≤ pre.length → (f.length : Int) = kinds → ¬ (∀ s ∈ t, 0 ≤ s ∧ s < kinds) →
    Ev (fun k => spec_CountsFor.l0 k l0 kinds f l0 (l0.length : Int) (pre.length : Int)) ([], false) := by
  induction t with
  | nil => intro pre f B he hl hf hB hB2 hfl hs; exact absurd (fun s h => by simp at h) hs
  | cons s t ih =>
    intro pre f B he hl hf hB hB2 hfl hs
    have hlen : pre.length + (t.length + 1) ≤ 80 := by rw [he] at hl; simpa using hl
    have hr : rd l0 (pre.length : Int) = s := by rw [he]; exact rd_mid pre s t
    refine Ev.step (fun k => spec_CountsFor.l0.eq_2 _ _ _ _ _ _ _) (Ev.pos (by rw [he]; simp; omega) (Ev.pos (by omega) (Ev.pos (by rw [he]; simp; omega) ?_)))
    rw [hr, wrap64_id (x := kinds - 1) (by omega) (by omega)]
    by_cases h0 : 0 ≤ s ∧ s < kinds
    · have hm := hf _ (rd_mem f s h0.1 (by omega))
      refine Ev.bindo (l1In_eq _ _ _) (Ev.pos (inB_iff.2 (by omega)) (Ev.pos h0.1 (Ev.pos (by omega) ?_)))
      rw [wrap64_id (x := rd f s + 1) (by omega) (by omega), wrap64_id (x := (pre.length : Int) + 1) (by omega) (by omega), snoc_len pre s]
      refine ih (pre ++ [s]) (f.set s.toNat (rd f s + 1)) (B + 1) (by rw [he]; simp) hl (set_bd hf _ _ (by omega)) (by omega) (by simp; omega) (by simpa using hfl) (fun h => hs ?_)
      intro x hx
      rcases List.mem_cons.1 hx with rfl | hx
      · exact h0
      · exact h x hx
    · exact Ev.bindo (l1In_eq _ _ _) (Ev.neg (by rw [inB_iff]; omega) (Ev.now _))
def cfR (l : List Int) (kinds : Int) : List Int := (finish (tally (List.replicate kinds.toNat 0) l |>.map (fun n => 1 + moreOf (l.length : Int) kinds n)) (64 - kinds - ((tally (List.replicate kinds.toNat 0) l).map (moreOf (l.length : Int) kinds)).sum)).1
theorem countsFor_spec (l : List Int) (kinds : Int) (hl : l.length ≤ 35184372088832) : ∃ (xs : List Int) (b : Bool), xs.length ≤ 12 ∧ ((b = true ∧ xs = cfR l kinds ∧ 1 ≤ kinds ∧ kinds ≤ 12 ∧ l.length ≤ 80 ∧ ∀ s ∈ l, 0 ≤ s ∧ s < kinds) ∨ (b = false ∧ xs = [])) ∧ Ev (fun k => spec_CountsFor.f k l kinds) (xs, b) := by
  unfold spec_CountsFor.f
  by_cases hk : inB kinds 1 12 = true
  · have hk' := inB_iff.1 hk
    by_cases h80 : (l.length : Int) > 80
    · refine ⟨[], false, by simp, Or.inr ⟨rfl, rfl⟩, Ev.bindo (l1In_eq _ _ _) (Ev.pos hk ?_)⟩
      exact Ev.step (fun k => spec_CountsFor.j0.eq_2 _ _ _ _) (Ev.pos (by simpa using h80) (Ev.now _))
    have h80' : l.length ≤ 80 := by omega
    have hrep : ∀ x ∈ List.replicate kinds.toNat (0 : Int), 0 ≤ x ∧ x ≤ 0 := by
      intro x hx
      rw [List.eq_of_mem_replicate hx]
      omega
    have hrl : ((List.replicate kinds.toNat (0 : Int)).length : Int) = kinds := by simp; omega
    by_cases hs : ∀ s ∈ l, 0 ≤ s ∧ s < kinds
    · obtain ⟨tl, tb⟩ := tally_ok l (List.replicate kinds.toNat 0) 0 hrep (by rw [hrl]; exact hs) (by omega)
      have tl' : ((tally (List.replicate kinds.toNat 0) l).length : Int) = kinds := by rw [tl]; exact hrl
      have tb' : ∀ x ∈ tally (List.replicate kinds.toNat 0) l, 0 ≤ x ∧ x ≤ 80 := fun x hx => by have := tb x hx; omega
      have tz : l.length = 0 → ∀ x ∈ tally (List.replicate kinds.toNat 0) l, x = 0 := by
        intro h x hx
        have := tb x hx
        rw [h] at this
        omega
      have s1 := specL1 l kinds hk' h80' (fun _ => trivial) (tally (List.replicate kinds.toNat 0) l) [] [] (64 - kinds) (by simp; omega) tb' tz rfl (by simp) (by simp; omega) (by omega) (by simp; omega)
      refine ⟨cfR l kinds, true, by unfold cfR finish; simp; omega, Or.inl ⟨rfl, rfl, hk'.1, hk'.2, h80', hs⟩, Ev.bindo (l1In_eq _ _ _) (Ev.pos hk ?_)⟩
      refine Ev.step (fun k => spec_CountsFor.j0.eq_2 _ _ _ _) (Ev.neg (by simpa using h80) (Ev.pos (by omega) (Ev.pos (by omega) ?_)))
      have := specL0 l kinds hk' _ l [] (List.replicate kinds.toNat 0) 0 rfl h80' hrep (by omega) (by simp) hrl hs (by simpa using s1)
      simpa [cfR, finish] using this
    · refine ⟨[], false, by simp, Or.inr ⟨rfl, rfl⟩, Ev.bindo (l1In_eq _ _ _) (Ev.pos hk ?_)⟩
      refine Ev.step (fun k => spec_CountsFor.j0.eq_2 _ _ _ _) (Ev.neg (by simpa using h80) (Ev.pos (by omega) (Ev.pos (by omega) ?_)))
      exact specL0_no l kinds hk' l [] (List.replicate kinds.toNat 0) 0 rfl h80' hrep (by omega) (by simp) hrl hs
  · refine ⟨[], false, by simp, Or.inr ⟨rfl, rfl⟩, Ev.bindo (l1In_eq _ _ _) (Ev.neg hk ?_)⟩
    exact Ev.step (fun k => spec_CountsFor.j0.eq_2 _ _ _ _) (Ev.pos rfl (Ev.now _))

theorem sum_set : ∀ (f : List Int) (i : Nat) (v : Int), i < f.length → (f.set i v).sum = f.sum - f.getD i 0 + v := by
  intro f
  induction f with
  | nil => intro i v h; simp at h
  | cons x t ih =>
    intro i v h
    cases i with
    | zero => simp only [List.set_cons_zero, List.sum_cons, List.getD_cons_zero]; omega
    | succ i => simp only [List.set_cons_succ, List.sum_cons, List.getD_cons_succ, List.length_cons] at h ⊢; rw [ih i v (by omega)]; omega
theorem tally_sum : ∀ (t f : List Int), (∀ s ∈ t, 0 ≤ s ∧ s < (f.length : Int)) → (tally f t).sum = f.sum + t.length := by
  intro t
  induction t with
  | nil => intro f _; simp [tally]
  | cons s t ih =>
    intro f h
    have hs := h s (by simp)
    unfold tally
    rw [ih _ (by intro x hx; simpa using h x (by simp [hx])), sum_set f s.toNat _ (by omega)]
    unfold rd
    simp only [List.length_cons]
    omega
theorem more_sum (len R kinds : Int) (hk : R = 64 - kinds) (hR : 0 ≤ R) (h1 : 1 ≤ len) : ∀ f : List Int, (∀ x ∈ f, 0 ≤ x) → len * (f.map (moreOf len kinds)).sum ≤ f.sum * R ∧ ∀ x ∈ f.map (moreOf len kinds), 0 ≤ x := by
  intro f
  induction f with
  | nil => intro _; simp
  | cons x t ih =>
    intro h
    have hx := h x (by simp)
    obtain ⟨a, b⟩ := ih (fun y hy => h y (by simp [hy]))
    have hm : mx 1 len = len := by unfold mx; split <;> omega
    have hn : 0 ≤ x * R := Int.mul_nonneg hx hR
    have e : moreOf len kinds x = x * R / len := by unfold moreOf; rw [← hk, hm, Int.tdiv_eq_ediv_of_nonneg hn]
    have d := Int.mul_ediv_add_emod (x * R) len
    have d2 := Int.emod_nonneg (x * R) (show len ≠ 0 by omega)
    constructor
    · simp only [List.map_cons, List.sum_cons]
      rw [e, Int.mul_add, Int.add_mul]
      omega
    · intro y hy
      simp only [List.map_cons, List.mem_cons] at hy
      rcases hy with rfl | hy
      · rw [e]; exact Int.ediv_nonneg hn (by omega)
      · exact b y hy
theorem more_zero (kinds : Int) : ∀ f : List Int, (∀ x ∈ f, x = 0) → (f.map (moreOf 0 kinds)).sum = 0 ∧ ∀ x ∈ f.map (moreOf 0 kinds), 0 ≤ x := by
  intro f
  induction f with
  | nil => intro _; simp
  | cons x t ih =>
    intro h
    obtain ⟨a, b⟩ := ih (fun y hy => h y (by simp [hy]))
    have hx := h x (by simp)
    have e : moreOf 0 kinds x = 0 := by unfold moreOf; rw [hx]; simp
    constructor
    · simp only [List.map_cons, List.sum_cons]; omega
    · intro y hy
      simp only [List.map_cons, List.mem_cons] at hy
      rcases hy with rfl | hy
      · omega
      · exact b y hy
theorem cfR_ok (l : List Int) (kinds : Int) (h1 : 1 ≤ kinds) (h2 : kinds ≤ 12) (hn : l.length ≤ 80) (hs : ∀ s ∈ l, 0 ≤ s ∧ s < kinds) : ((cfR l kinds).length : Int) = kinds ∧ (∀ x ∈ cfR l kinds, 1 ≤ x) ∧ (cfR l kinds).sum = 64 := by
  have hrl : ((List.replicate kinds.toNat (0 : Int)).length : Int) = kinds := by simp; omega
  have hrep : ∀ x ∈ List.replicate kinds.toNat (0 : Int), 0 ≤ x ∧ x ≤ 0 := by
    intro x hx
    rw [List.eq_of_mem_replicate hx]
    omega
  obtain ⟨tl, tb⟩ := tally_ok l (List.replicate kinds.toNat 0) 0 hrep (by rw [hrl]; exact hs) (by omega)
  have ts := tally_sum l (List.replicate kinds.toNat 0) (by rw [hrl]; exact hs)
  have hz : (List.replicate kinds.toNat (0 : Int)).sum = 0 := by
    generalize kinds.toNat = n
    induction n with
    | zero => rfl
    | succ n ih => rw [List.replicate_succ, List.sum_cons, ih]; rfl
  unfold cfR finish
  revert tl tb ts
  generalize tally (List.replicate kinds.toNat 0) l = f
  intro tl tb ts
  have hfl : (f.length : Int) = kinds := by rw [tl]; exact hrl
  obtain ⟨m1, m2⟩ : (f.map (moreOf (l.length : Int) kinds)).sum ≤ 64 - kinds ∧ ∀ x ∈ f.map (moreOf (l.length : Int) kinds), 0 ≤ x := by
    rcases Nat.eq_zero_or_pos l.length with h0 | h0
    · have := more_zero kinds f (fun x hx => by have := tb x hx; omega)
      rw [h0]
      exact ⟨by rw [show ((0 : Nat) : Int) = 0 from rfl, this.1]; omega, this.2⟩
    · obtain ⟨a, b⟩ := more_sum (l.length : Int) (64 - kinds) kinds rfl (by omega) (by omega) f (fun x hx => (tb x hx).1)
      rw [ts, hz, Int.zero_add] at a
      exact ⟨Int.le_of_mul_le_mul_left a (by omega), b⟩
  have esum : (f.map (fun n => 1 + moreOf (l.length : Int) kinds n)).sum = f.length + (f.map (moreOf (l.length : Int) kinds)).sum := by
    clear tl tb ts hfl m1 m2
    induction f with
    | nil => rfl
    | cons x t ih => simp only [List.map_cons, List.sum_cons, List.length_cons, ih]; push_cast; omega
  have hge : ∀ x ∈ f.map (fun n => 1 + moreOf (l.length : Int) kinds n), 1 ≤ x := by
    intro x hx
    obtain ⟨n, hn, rfl⟩ := List.mem_map.1 hx
    have := m2 _ (List.mem_map.2 ⟨n, hn, rfl⟩)
    omega
  refine ⟨by simp; omega, ?_, ?_⟩
  · intro x hx
    rcases List.mem_or_eq_of_mem_set hx with h | h
    · exact hge x h
    · have hm : rd (f.map (fun n => 1 + moreOf (l.length : Int) kinds n)) 0 ∈ f.map (fun n => 1 + moreOf (l.length : Int) kinds n) := rd_mem _ 0 (by omega) (by simp; omega)
      have := hge _ hm
      omega
  · have e := sum_set (f.map (fun n => 1 + moreOf (l.length : Int) kinds n)) 0 (rd (f.map (fun n => 1 + moreOf (l.length : Int) kinds n)) 0 + (64 - kinds - (f.map (moreOf (l.length : Int) kinds)).sum)) (by simp; omega)
    simp only at e ⊢
    rw [e, esum]
    unfold rd
    simp only [Int.toNat_zero]
    omega
theorem spill_lo (f : Int) (hf : 1 ≤ f ∧ f ≤ 64) : ∀ (n : Nat) (s : Int) (w : List Int), 64 * f ≤ s → s < 1024 * 16 ^ n → 64 * f ≤ (spill f n s w).1 ∧ (spill f n s w).1 < 1024 * f := by
  intro n
  induction n with
  | zero => intro s w h0 h1; simp only [spill]; omega
  | succ n ih =>
    intro s w h0 h1
    rw [Int.pow_succ] at h1
    unfold spill
    split
    · exact ih (s / 16) (w ++ [s % 16]) (by omega) (by omega)
    · exact ⟨h0, by simpa using (by omega : s < 1024 * f)⟩
theorem pre_sum (l : List Int) (y : Int) (ha : ∀ x ∈ l, 0 ≤ x ∧ x ≤ 64) (h0 : 0 ≤ y) (h1 : y < (l.length : Int)) : (l.take y.toNat).sum + rd l y ≤ l.sum := by
  have hy : y.toNat < l.length := by omega
  have e : l = l.take y.toNat ++ l[y.toNat] :: l.drop (y.toNat + 1) := by rw [← List.drop_eq_getElem_cons hy, List.take_append_drop]
  have hr : rd l y = l[y.toNat] := by
    have := rd_nat l y.toNat hy
    rwa [show ((y.toNat : Nat) : Int) = y by omega] at this
  have hs : l.sum = (l.take y.toNat).sum + (l[y.toNat] + (l.drop (y.toNat + 1)).sum) := by
    conv => lhs; rw [e]
    rw [List.sum_append, List.sum_cons]
  have := sum_bd (l.drop (y.toNat + 1)) (fun x hx => ha x (List.mem_of_mem_drop hx))
  omega
theorem putP_state (l : List Int) (s y : Int) (hh : hasB l y = true) (hs : 4096 ≤ s ∧ s ≤ 65535) : 4096 ≤ (putP l s y).1 ∧ (putP l s y).1 ≤ 65535 := by
  obtain ⟨hg, h0, h1, hr⟩ := hasB_iff.1 hh
  obtain ⟨_, h12, ha, hsum⟩ := goodC_pos hg
  have hr2 := rd_good hg y h0 h1
  have hp := pre_sum l y ha h0 h1
  have ht := take_bd l y.toNat ha h12
  obtain ⟨a, b⟩ := spill_lo (rd l y) (by omega) 2 s [] (by omega) (by simp; omega)
  simp only [putP, joinS]
  revert a b
  generalize (spill (rd l y) 2 s []).1 = v
  intro a b
  have d0 : 64 ≤ v / rd l y := (Int.le_ediv_iff_mul_le (by omega)).2 (by omega)
  have d1 : v / rd l y < 1024 := (Int.ediv_lt_iff_lt_mul (by omega)).2 (by omega)
  have m0 := Int.emod_nonneg v (show rd l y ≠ 0 by omega)
  have m1 := Int.emod_lt_of_pos v hr
  omega
def codeP (l : List Int) : List Int → Int × List Int
  | [] => (4096, [])
  | y :: t => ((putP l (codeP l t).1 y).1, (codeP l t).2 ++ (putP l (codeP l t).1 y).2)
theorem codeP_ok (l : List Int) : ∀ t, t.all (hasB l) = true → 4096 ≤ (codeP l t).1 ∧ (codeP l t).1 ≤ 65535 ∧ (codeP l t).2.length ≤ 2 * t.length := by
  intro t
  induction t with
  | nil => intro _; simp [codeP]
  | cons y t ih =>
    intro h
    simp only [List.all_cons, Bool.and_eq_true] at h
    obtain ⟨a, b, c⟩ := ih h.2
    have p := putP_state l (codeP l t).1 y h.1 ⟨a, b⟩
    have q := putP_len l (codeP l t).1 y
    simp only [codeP, List.length_append, List.length_cons]
    omega
def codeR (l s : List Int) : Int × List Int × Bool := if goodC l && decide (s.length ≤ 80) && s.all (hasB l) then ((codeP l s).1, (codeP l s).2, true) else (0, [], false)
theorem putR_yes {l : List Int} {s y : Int} (h : hasB l y = true) (hs : 4096 ≤ s ∧ s ≤ 65535) : putR l s y = ((putP l s y).1, (putP l s y).2, true) := by
  unfold putR
  rw [h, inB_iff.2 hs]; rfl
theorem putR_no {l : List Int} {s y : Int} (h : hasB l y = false) : putR l s y = (0, [], false) := by
  unfold putR
  rw [h]; rfl
theorem getD_mid (pre t : List Int) (x : Int) : rd (pre ++ x :: t) ((pre.length : Nat) : Int) = x := by simp [rd]
theorem specCode_loop (l : List Int) (hl : l.length ≤ 35184372088832) : ∀ (r t : List Int), t.all (hasB l) = true → r.length + t.length ≤ 80 →
    Ev (fun k => spec_CodeSymbols.l0 k l (r.reverse ++ t) ((r.length : Int) - 1) (codeP l t).1 (codeP l t).2) (if r.all (hasB l) then ((codeP l (r.reverse ++ t)).1, (codeP l (r.reverse ++ t)).2, true) else (0, [], false)) := by
  intro r
  induction r with
  | nil =>
    intro t ht hn
    exact Ev.step (fun k => spec_CodeSymbols.l0.eq_2 _ _ _ _ _ _) (Ev.neg (by simp) (by simpa using Ev.now _))
  | cons y r ih =>
    intro t ht hn
    simp only [List.length_cons] at hn
    obtain ⟨a, b, c⟩ := codeP_ok l t ht
    have hm := getD_mid r.reverse t y
    rw [List.length_reverse] at hm
    have e : (y :: r).reverse ++ t = r.reverse ++ y :: t := by simp
    have e1 : ((y :: r).length : Int) - 1 = (r.length : Int) := by simp
    rw [e, e1]
    have hp := specPutSymbol_ev l (codeP l t).1 y hl
    refine Ev.step (fun k => spec_CodeSymbols.l0.eq_2 _ _ _ _ _ _) (Ev.pos (by omega) (Ev.pos (by omega) (Ev.pos (by simp; omega) ?_)))
    rw [hm]
    by_cases hh : hasB l y = true
    · rw [putR_yes hh ⟨a, b⟩] at hp
      have q := putP_len l (codeP l t).1 y
      refine Ev.bind hp (Ev.pos rfl (Ev.pos (by simp only; omega) ?_))
      rw [wrap64_id (by omega) (by omega)]
      have := ih (y :: t) (by simp [hh, ht]) (by simp; omega)
      simpa [codeP, hh] using this
    · simp only [Bool.not_eq_true] at hh
      rw [putR_no hh] at hp
      exact Ev.bind hp (Ev.neg (by simp) (by simpa [hh] using Ev.now _))
theorem implCode_loop (l : List Int) : ∀ (r t : List Int), t.all (hasB l) = true → r.all (hasB l) = true → r.length + t.length ≤ 80 →
    Ev (fun k => impl_CodeSymbols.l0 k (r.reverse ++ t) ((r.length : Int) - 1) l (codeP l t).1 (codeP l t).2) ((codeP l (r.reverse ++ t)).1, (codeP l (r.reverse ++ t)).2, true) := by
  intro r
  induction r with
  | nil =>
    intro t ht _ hn
    exact Ev.step (fun k => impl_CodeSymbols.l0.eq_2 _ _ _ _ _ _) (Ev.neg (by simp) (by simpa using Ev.now _))
  | cons y r ih =>
    intro t ht hr hn
    simp only [List.all_cons, Bool.and_eq_true] at hr
    simp only [List.length_cons] at hn
    obtain ⟨a, b, c⟩ := codeP_ok l t ht
    have hm := getD_mid r.reverse t y
    rw [List.length_reverse] at hm
    have e : (y :: r).reverse ++ t = r.reverse ++ y :: t := by simp
    have e1 : ((y :: r).length : Int) - 1 = (r.length : Int) := by simp
    rw [e, e1]
    have q := putP_len l (codeP l t).1 y
    refine Ev.step (fun k => impl_CodeSymbols.l0.eq_2 _ _ _ _ _ _) (Ev.pos (by omega) (Ev.pos (by omega) (Ev.pos (by simp; omega) ?_)))
    rw [hm]
    refine Ev.bind (put_ev l (codeP l t).1 y hr.1 (by omega)) (Ev.pos (by omega) ?_)
    rw [wrap64_id (by omega) (by omega)]
    have := ih (y :: t) (by simp [hr.1, ht]) hr.2 (by simp; omega)
    simpa [codeP] using this
theorem specCodeSymbols_ev (l s : List Int) (hl : l.length ≤ 35184372088832) (hs : s.length ≤ 35184372088832) : Ev (fun k => spec_CodeSymbols.f k l s) (codeR l s) := by
  unfold spec_CodeSymbols.f codeR
  by_cases hg : goodC l = true
  case neg =>
    refine Ev.bind (specGood_ev l hl) (Ev.neg hg (Ev.step (fun k => spec_CodeSymbols.j0.eq_2 _ _ _ _) (Ev.pos rfl ?_)))
    simp only [Bool.not_eq_true] at hg
    rw [hg]
    exact Ev.now _
  refine Ev.bind (specGood_ev l hl) (Ev.pos hg ?_)
  by_cases hn : s.length ≤ 80
  · refine Ev.step (fun k => spec_CodeSymbols.j0.eq_2 _ _ _ _) (Ev.neg (by simp; omega) ?_)
    rw [wrap64_id (by omega) (by omega)]
    have := specCode_loop l hl s.reverse [] (by simp) (by simpa using hn)
    simpa [codeP, hg, hn] using this
  · refine Ev.step (fun k => spec_CodeSymbols.j0.eq_2 _ _ _ _) (Ev.pos (by simp; omega) ?_)
    rw [hg, decide_eq_false hn]
    exact Ev.now _
theorem any_not (p : Int → Bool) (s : List Int) : s.any (fun x => !p x) = !s.all p := by
  induction s with
  | nil => rfl
  | cons x t ih => simp [ih]
theorem implCodeSymbols_ev (l s : List Int) (hl : l.length ≤ 35184372088832) (hs : s.length ≤ 35184372088832) : Ev (fun k => impl_CodeSymbols.f k l s) (codeR l s) := by
  unfold impl_CodeSymbols.f codeR
  by_cases hg : goodC l = true
  case neg =>
    refine Ev.bind (implGood_ev l hl) (Ev.neg hg (Ev.step (fun k => impl_CodeSymbols.j0.eq_2 _ _ _ _) (Ev.pos rfl ?_)))
    simp only [Bool.not_eq_true] at hg
    rw [hg]
    exact Ev.now _
  refine Ev.bind (implGood_ev l hl) (Ev.pos hg ?_)
  by_cases hn : s.length ≤ 80
  · have ha : Ev (fun k => cf_impl_CodeSymbols_1.f k s l) (!s.all (hasB l)) := by
      rw [← any_not]
      unfold cf_impl_CodeSymbols_1.f
      exact anyO_ev s (fun x _ => Ev.bind (has_ev l x hl) (Ev.now _))
    refine Ev.neg (by omega) (Ev.bind ha ?_)
    by_cases hh : s.all (hasB l) = true
    · refine Ev.step (fun k => impl_CodeSymbols.j0.eq_2 _ _ _ _) (Ev.neg (by simp [hh]) ?_)
      rw [wrap64_id (by omega) (by omega)]
      have := implCode_loop l s.reverse [] (by simp) (by simpa using hh) (by simpa using hn)
      simpa [codeP, hg, hn, hh] using this
    · refine Ev.step (fun k => impl_CodeSymbols.j0.eq_2 _ _ _ _) (Ev.pos (by simp [hh]) ?_)
      simp only [Bool.not_eq_true] at hh
      rw [hg, hh]
      simpa using Ev.now _
  · refine Ev.pos (by omega) (Ev.step (fun k => impl_CodeSymbols.j0.eq_2 _ _ _ _) (Ev.pos rfl ?_))
    rw [hg, decide_eq_false hn]
    exact Ev.now _
theorem codeR_len (l s : List Int) : (codeR l s).2.1.length ≤ 160 := by
  unfold codeR
  split
  · rename_i h
    simp only [Bool.and_eq_true, decide_eq_true_eq] at h
    have := (codeP_ok l s h.2).2.2
    simp only
    omega
  · simp

def fill : Int → List Int → Int × List Int
  | n, [] => (n, [])
  | n, x :: r => if n < 4096 then fill (16 * n + x) r else (n, x :: r)
theorem fill_ok : ∀ (r : List Int) (n : Int), 0 ≤ n → n ≤ 65535 → (∀ x ∈ r, 0 ≤ x ∧ x ≤ 15) → 0 ≤ (fill n r).1 ∧ (fill n r).1 ≤ 65535 ∧ (fill n r).2.length ≤ r.length ∧ ∀ x ∈ (fill n r).2, 0 ≤ x ∧ x ≤ 15 := by
  intro r
  induction r with
  | nil => intro n h0 h1 _; simp [fill, h0, h1]
  | cons x r ih =>
    intro n h0 h1 h
    have hx := h x (by simp)
    unfold fill
    split
    · obtain ⟨a, b, c, d⟩ := ih (16 * n + x) (by omega) (by omega) (fun y hy => h y (by simp [hy]))
      exact ⟨a, b, by simp only [List.length_cons]; omega, d⟩
    · exact ⟨h0, h1, Nat.le_refl _, h⟩
theorem symAt_ok : ∀ (l : List Int) (s : Int), 0 ≤ s → s < l.sum → symAt l s < l.length ∧ (l.take (symAt l s)).sum ≤ s ∧ s < (l.take (symAt l s)).sum + l.getD (symAt l s) 0 := by
  intro l
  induction l with
  | nil => intro s h0 h1; simp only [List.sum_nil] at h1; omega
  | cons x t ih =>
    intro s h0 h1
    rw [List.sum_cons] at h1
    unfold symAt
    by_cases h : s < x
    · rw [if_pos h]; simp [h0, h]
    · rw [if_neg h]
      obtain ⟨a, b, c⟩ := ih (s - x) (by omega) (by omega)
      rw [Nat.add_comm 1]
      simp only [List.length_cons, List.take_succ_cons, List.sum_cons, List.getD_cons_succ]
      omega
def takeN (l : List Int) (s : Int) : Int := rd l (symAt l (s % 64)) * (s / 64) + s % 64 - (l.take (symAt l (s % 64))).sum
theorem takeN_ok {l : List Int} {s : Int} (hg : goodC l = true) (h0 : 4096 ≤ s) (h1 : s ≤ 65535) : symAt l (s % 64) < l.length ∧ 0 ≤ rd l (symAt l (s % 64)) * (s / 64) ∧ rd l (symAt l (s % 64)) * (s / 64) ≤ 65472 ∧ 0 ≤ (l.take (symAt l (s % 64))).sum ∧ (l.take (symAt l (s % 64))).sum ≤ s % 64 := by
  obtain ⟨_, h12, ha, hsum⟩ := goodC_pos hg
  obtain ⟨a, b, c⟩ := symAt_ok l (s % 64) (by omega) (by omega)
  have hr := rd_good hg (symAt l (s % 64) : Int) (by omega) (by omega)
  have ht := take_bd l (symAt l (s % 64)) ha h12
  refine ⟨a, Int.mul_nonneg hr.1 (by omega), ?_, ht.1, b⟩
  have := Int.mul_le_mul hr.2 (show s / 64 ≤ 1023 by omega) (by omega) (by omega)
  omega
def wordsB (w : List Int) : Bool := w.all (fun x => inB x 0 15) && decide (w.length ≤ 320)
def codedB (s : Int) (w : List Int) : Bool := inB s 4096 65535 && wordsB w
theorem wordsB_iff {w : List Int} : wordsB w = true ↔ (∀ x ∈ w, 0 ≤ x ∧ x ≤ 15) ∧ w.length ≤ 320 := by
  unfold wordsB
  simp [inB]
def takeP (l : List Int) (s : Int) (w : List Int) : Int × Int × List Int := ((symAt l (s % 64) : Int), (fill (takeN l s) w.reverse).1, (fill (takeN l s) w.reverse).2.reverse)
def takeR (l : List Int) (s : Int) (w : List Int) : Int × Int × List Int × Bool :=
  if goodC l && codedB s w && inB (takeP l s w).2.1 4096 65535 then ((takeP l s w).1, (takeP l s w).2.1, (takeP l s w).2.2, true) else (0, 0, [], false)
theorem takeP_ok {l : List Int} {s : Int} {w : List Int} (hg : goodC l = true) (hc : codedB s w = true) : 0 ≤ (takeP l s w).2.1 ∧ (takeP l s w).2.1 ≤ 65535 ∧ (takeP l s w).2.2.length ≤ w.length ∧ ∀ x ∈ (takeP l s w).2.2, 0 ≤ x ∧ x ≤ 15 := by
  unfold codedB at hc
  simp only [Bool.and_eq_true, inB_iff, wordsB_iff] at hc
  obtain ⟨⟨h0, h1⟩, hw, hn⟩ := hc
  obtain ⟨_, a, b, c, d⟩ := takeN_ok hg h0 h1
  obtain ⟨x, y, z, u⟩ := fill_ok w.reverse (takeN l s) (by unfold takeN; omega) (by unfold takeN; omega) (by simpa using hw)
  exact ⟨x, y, by simpa [takeP] using z, by simpa [takeP] using u⟩
theorem fill_stop {n : Int} {r : List Int} (h : ¬ n < 4096) : fill n r = (n, r) := by
  cases r
  · rfl
  · simp [fill, h]
theorem rd_last (r : List Int) (x : Int) : rd ((x :: r).reverse) ((r.length : Nat) : Int) = x := by simp [rd]
theorem take_last (r : List Int) (x : Int) : ((x :: r).reverse).take ((r.length : Nat) : Int).toNat = r.reverse := by
  rw [List.reverse_cons, Int.toNat_natCast, List.take_left' (by simp)]
theorem l14Words_loop (t : List Int) : ∀ (pre : List Int), (pre ++ t).length ≤ 35184372088832 →
    Ev (fun k => spec_l14Words.l0 k (pre ++ t) (pre ++ t) ((pre ++ t).length : Int) (pre.length : Int)) (t.all (fun x => inB x 0 15) && decide ((pre ++ t).length ≤ 320)) := by
  induction t with
  | nil =>
    intro pre hl
    refine Ev.step (fun k => spec_l14Words.l0.eq_2 _ _ _ _ _) (Ev.neg (by simp) (Ev.eq (Ev.now _) ?_))
    have e : decide (((pre ++ []).length : Int) ≤ 320) = decide ((pre ++ []).length ≤ 320) := decide_eq_decide.2 (by omega)
    rw [e]
    simp
  | cons x t ih =>
    intro pre hl
    have hl' : pre.length + (t.length + 1) ≤ 35184372088832 := by simpa using hl
    refine Ev.step (fun k => spec_l14Words.l0.eq_2 _ _ _ _ _) (Ev.pos (by simp; omega) (Ev.pos (by omega) (Ev.pos (by simp; omega) ?_)))
    rw [rd_mid, wrap64_id (by omega) (by omega), snoc_len pre x]
    refine Ev.bindo (l1In_eq _ _ _) ?_
    by_cases h : inB x 0 15 = true
    · have := ih (pre ++ [x]) (by simpa using hl)
      exact Ev.pos h (by simpa [h] using this)
    · simp only [Bool.not_eq_true] at h
      exact Ev.neg (by simp [h]) (by simpa [h] using Ev.now _)
theorem l14Words_ev (w : List Int) (hl : w.length ≤ 35184372088832) : Ev (fun k => spec_l14Words.f k w) (wordsB w) := by
  unfold spec_l14Words.f
  have := l14Words_loop w [] (by simpa using hl)
  simpa [wordsB] using this
theorem any_notI (p : Int → Bool) (s : List Int) : s.any (fun x => !p x) = !s.all p := by
  induction s with
  | nil => rfl
  | cons x t ih => simp [ih]
theorem isCoded_eq (s : Int) (w : List Int) : impl_isCoded.f s w = some (codedB s w) := by
  have hs : impl_isState.f s = some (inB s 4096 65535) := by unfold impl_isState.f; rw [within_eq]; rfl
  have ha : cf_impl_isCoded_1.f w = some (!w.all (fun x => inB x 0 15)) := by
    rw [← any_notI, ← anyO_some]
    unfold cf_impl_isCoded_1.f
    congr 1
    funext x
    rw [within_eq]; rfl
  unfold impl_isCoded.f codedB wordsB
  rw [hs]
  simp only [Option.bind_some]
  cases inB s 4096 65535
  · simp
  · simp only [if_true, Bool.true_and]
    by_cases hn : w.length ≤ 320
    · rw [if_pos (by omega), ha, decide_eq_true hn]; simp
    · rw [if_neg (by omega), decide_eq_false hn]; simp
theorem specTake_loop (y : Int) : ∀ (r : List Int) (n : Int), 0 ≤ n → n ≤ 65535 → r.length ≤ 320 → (∀ x ∈ r, 0 ≤ x ∧ x ≤ 15) →
    Ev (fun k => spec_TakeSymbol.l0 k y n r.reverse) (if inB (fill n r).1 4096 65535 then (y, (fill n r).1, (fill n r).2.reverse, true) else (0, 0, [], false)) := by
  have fin : ∀ (n : Int) (r : List Int), Ev (fun _ => (spec_l14State.f n).bind fun t156 => (if t156 = true then (some (y, n, r, true)) else (some (0, 0, ([] : List Int), false)))) (if inB n 4096 65535 then (y, n, r, true) else (0, 0, [], false)) := by
    intro n r
    have hs : spec_l14State.f n = some (inB n 4096 65535) := by unfold spec_l14State.f; rw [l1In_eq]; rfl
    refine Ev.bindo hs ?_
    cases inB n 4096 65535
    · exact Ev.neg (by simp) (Ev.now _)
    · exact Ev.pos rfl (Ev.now _)
  intro r
  induction r with
  | nil =>
    intro n h0 h1 hl hr
    refine Ev.step (fun k => spec_TakeSymbol.l0.eq_2 _ _ _ _) ?_
    by_cases h : n < 4096
    · exact Ev.pos h (Ev.neg (by simp) (fin n _))
    · exact Ev.neg h (fin n _)
  | cons x r ih =>
    intro n h0 h1 hl hr
    have hx := hr x (by simp)
    have hl' : r.length + 1 ≤ 320 := by simpa using hl
    refine Ev.step (fun k => spec_TakeSymbol.l0.eq_2 _ _ _ _) ?_
    by_cases h : n < 4096
    · have e1 : (((x :: r).reverse.length : Nat) : Int) - 1 = (r.length : Int) := by simp
      have e2 : wrap64 ((((x :: r).reverse.length : Nat) : Int) - 1) = ((r.length : Nat) : Int) := by rw [e1]; exact wrap64_id (by omega) (by omega)
      refine Ev.pos h (Ev.pos (by omega) ?_)
      simp only [e2]
      refine Ev.pos (by omega) (Ev.pos (by omega) (Ev.pos (by omega) ?_))
      rw [rd_last, take_last, wrap64_id (x := 16 * n) (by omega) (by omega), wrap64_id (by omega) (by omega)]
      have := ih (16 * n + x) (by omega) (by omega) (by omega) (fun y hy => hr y (by simp [hy]))
      simpa [fill, h] using this
    · rw [fill_stop h]
      exact Ev.neg h (fin n _)
theorem implTake_loop (y : Int) : ∀ (r : List Int) (n : Int), 0 ≤ n → n ≤ 65535 → r.length ≤ 320 → (∀ x ∈ r, 0 ≤ x ∧ x ≤ 15) →
    Ev (fun k => impl_taken.l0 k y n r.reverse) (y, (fill n r).1, (fill n r).2.reverse, inB (fill n r).1 4096 65535) := by
  have fin : ∀ (n : Int) (r : List Int), Ev (fun _ => (impl_isState.f n).bind fun t184 => (some (y, n, r, t184))) (y, n, r, inB n 4096 65535) := by
    intro n r
    have hs : impl_isState.f n = some (inB n 4096 65535) := by unfold impl_isState.f; rw [within_eq]; rfl
    exact Ev.bindo hs (Ev.now _)
  intro r
  induction r with
  | nil =>
    intro n h0 h1 hl hr
    refine Ev.step (fun k => impl_taken.l0.eq_2 _ _ _ _) ?_
    by_cases h : n < 4096
    · exact Ev.pos h (Ev.neg (by simp) (fin n _))
    · exact Ev.neg h (fin n _)
  | cons x r ih =>
    intro n h0 h1 hl hr
    have hx := hr x (by simp)
    have hl' : r.length + 1 ≤ 320 := by simpa using hl
    refine Ev.step (fun k => impl_taken.l0.eq_2 _ _ _ _) ?_
    by_cases h : n < 4096
    · have e1 : (((x :: r).reverse.length : Nat) : Int) - 1 = (r.length : Int) := by simp
      have e2 : wrap64 ((((x :: r).reverse.length : Nat) : Int) - 1) = ((r.length : Nat) : Int) := by rw [e1]; exact wrap64_id (by omega) (by omega)
      refine Ev.pos h (Ev.pos (by omega) ?_)
      simp only [e2]
      refine Ev.pos (by omega) (Ev.pos (by omega) (Ev.pos (by omega) ?_))
      rw [rd_last, take_last, wrap64_id (x := 16 * n) (by omega) (by omega), wrap64_id (by omega) (by omega)]
      have := ih (16 * n + x) (by omega) (by omega) (by omega) (fun y hy => hr y (by simp [hy]))
      simpa [fill, h] using this
    · rw [fill_stop h]
      exact Ev.neg h (fin n _)
theorem taken_ev {l : List Int} {s : Int} {w : List Int} (hg : goodC l = true) (hc : codedB s w = true) : Ev (fun k => impl_taken.f k l s w) ((takeP l s w).1, (takeP l s w).2.1, (takeP l s w).2.2, inB (takeP l s w).2.1 4096 65535) := by
  have hc' := hc
  unfold codedB at hc
  simp only [Bool.and_eq_true, inB_iff, wordsB_iff] at hc
  obtain ⟨⟨h0, h1⟩, hw, hn⟩ := hc
  obtain ⟨z, a, b, c, d⟩ := takeN_ok hg h0 h1
  obtain ⟨_, h12, ha, hsum⟩ := goodC_pos hg
  unfold impl_taken.f
  rw [Int.tmod_eq_emod_of_nonneg (by omega), Int.tdiv_eq_ediv_of_nonneg (by omega)]
  refine Ev.bind (implAt_ev l (s % 64) hg (by omega) (by omega)) (Ev.pos (by omega) (Ev.pos (by omega) (Ev.bind (startOf_ev l _ ha h12 (by omega)) ?_)))
  rw [wrap64_id (x := s / 64) (by omega) (by omega), wrap64_id (x := rd l _ * (s / 64)) (by omega) (by omega), wrap64_id (x := rd l _ * (s / 64) + s % 64) (by omega) (by omega), wrap64_id (by omega) (by omega)]
  have := implTake_loop (symAt l (s % 64)) w.reverse (takeN l s) (by unfold takeN; omega) (by unfold takeN; omega) (by simpa using hn) (by simpa using hw)
  simpa [takeP, takeN] using this
theorem specTakeSymbol_ev (l : List Int) (s : Int) (w : List Int) (hl : l.length ≤ 35184372088832) (hwl : w.length ≤ 35184372088832) : Ev (fun k => spec_TakeSymbol.f k l s w) (takeR l s w) := by
  unfold spec_TakeSymbol.f
  have no : (goodC l && codedB s w) = false → Ev (fun k => spec_TakeSymbol.j0 k l true s w) (takeR l s w) := by
    intro h
    unfold takeR
    rw [h]
    exact Ev.step (fun k => spec_TakeSymbol.j0.eq_2 _ _ _ _ _) (Ev.pos rfl (by simpa using Ev.now _))
  by_cases hg : goodC l = true
  case neg => exact Ev.bind (specGood_ev l hl) (Ev.neg hg (no (by simp [hg])))
  refine Ev.bind (specGood_ev l hl) (Ev.pos hg ?_)
  have hst : spec_l14State.f s = some (inB s 4096 65535) := by unfold spec_l14State.f; rw [l1In_eq]; rfl
  by_cases hs : inB s 4096 65535 = true
  case neg =>
    refine Ev.bindo hst (Ev.neg hs (no ?_))
    simp only [Bool.not_eq_true] at hs
    simp [codedB, hs]
  refine Ev.bindo hst (Ev.pos hs (Ev.bind (l14Words_ev w hwl) ?_))
  by_cases hw : wordsB w = true
  case neg =>
    simp only [Bool.not_eq_true] at hw
    rw [hw]
    exact no (by simp [codedB, hw])
  have hc : codedB s w = true := by simp [codedB, hs, hw]
  rw [hw]
  have hs' := inB_iff.1 hs
  have hw' := wordsB_iff.1 hw
  obtain ⟨z, a, b, c, d⟩ := takeN_ok hg hs'.1 hs'.2
  obtain ⟨_, h12, ha, hsum⟩ := goodC_pos hg
  have hy := rd_starts_take l (symAt l (s % 64)) (by omega) (by omega)
  rw [Int.toNat_natCast] at hy
  refine Ev.step (fun k => spec_TakeSymbol.j0.eq_2 _ _ _ _ _) (Ev.neg (by simp) ?_)
  rw [Int.tmod_eq_emod_of_nonneg (by omega), Int.tdiv_eq_ediv_of_nonneg (by omega)]
  refine Ev.bind (specAt_ev l (s % 64) hg (by omega) (by omega)) (Ev.pos (by omega) (Ev.pos (by omega) (Ev.bind (l14Starts_ev l ha h12) (Ev.pos (by rw [starts_length]; omega) (Ev.bindo rfl (Ev.pos (by simp; omega) ?_))))))
  rw [hy, wrap64_id (x := s / 64) (by omega) (by omega), wrap64_id (x := rd l _ * (s / 64)) (by omega) (by omega), wrap64_id (x := rd l _ * (s / 64) + s % 64) (by omega) (by omega), wrap64_id (by omega) (by omega)]
  have := specTake_loop (symAt l (s % 64)) w.reverse (takeN l s) (by unfold takeN; omega) (by unfold takeN; omega) (by simpa using hw'.2) (by simpa using hw'.1)
  rw [List.reverse_reverse] at this
  refine Ev.eq this ?_
  unfold takeR takeP
  rw [hg, hc]
  rfl

theorem clone_eq (w : List Int) (h : w.length < 17592186044416) : slices_Clone_int_int.f w = some w := by
  unfold slices_Clone_int_int.f
  exact if_pos h

theorem implTakeSymbol_ev (l : List Int) (s : Int) (w : List Int) (hl : l.length ≤ 35184372088832) : Ev (fun k => impl_TakeSymbol.f k l s w) (takeR l s w) := by
  unfold impl_TakeSymbol.f
  have no : (goodC l && codedB s w) = false → Ev (fun k => impl_TakeSymbol.j0 k l true s w) (takeR l s w) := by
    intro h
    unfold takeR
    rw [h]
    exact Ev.step (fun k => impl_TakeSymbol.j0.eq_2 _ _ _ _ _) (Ev.pos rfl (by simpa using Ev.now _))
  by_cases hg : goodC l = true
  case neg => exact Ev.bind (implGood_ev l hl) (Ev.neg hg (no (by simp [hg])))
  refine Ev.bind (implGood_ev l hl) (Ev.pos hg (Ev.bindo (isCoded_eq s w) ?_))
  by_cases hc : codedB s w = true
  case neg =>
    simp only [Bool.not_eq_true] at hc
    rw [hc]
    exact no (by simp [hc])
  rw [hc]
  have hn : w.length ≤ 320 := by
    unfold codedB at hc
    simp only [Bool.and_eq_true, inB_iff, wordsB_iff] at hc
    exact hc.2.2
  have ho : impl_ownCoded.f s w = some (s, w) := by unfold impl_ownCoded.f; rw [clone_eq w (by omega)]; rfl
  refine Ev.step (fun k => impl_TakeSymbol.j0.eq_2 _ _ _ _ _) (Ev.neg (by simp) (Ev.bindo ho (Ev.bind (taken_ev hg hc) ?_)))
  unfold takeR
  by_cases h : inB (takeP l s w).2.1 4096 65535 = true
  · exact Ev.pos h (by simpa [hg, hc, h] using Ev.now _)
  · simp only [Bool.not_eq_true] at h
    exact Ev.neg (by simp [h]) (by simpa [hg, hc, h] using Ev.now _)
theorem takeR_len (l : List Int) (s : Int) (w : List Int) : (takeR l s w).2.2.1.length ≤ 320 := by
  unfold takeR
  split
  · rename_i h
    simp only [Bool.and_eq_true] at h
    have hc := h.1.2
    have := (takeP_ok h.1.1 hc).2.2.1
    unfold codedB at hc
    simp only [Bool.and_eq_true, inB_iff, wordsB_iff] at hc
    simp only
    omega
  · simp

theorem codedB_take {l : List Int} {s : Int} {w : List Int} (hg : goodC l = true) (hc : codedB s w = true) (hi : inB (takeP l s w).2.1 4096 65535 = true) : codedB (takeP l s w).2.1 (takeP l s w).2.2 = true := by
  have h := takeP_ok hg hc
  unfold codedB at hc ⊢
  simp only [Bool.and_eq_true, inB_iff, wordsB_iff] at hc ⊢
  exact ⟨inB_iff.1 hi, h.2.2.2, by omega⟩
def decL (l : List Int) : Nat → List Int → Int → List Int → List Int × Bool
  | 0, out, s, w => if s = 4096 then (if (w.length : Int) > 0 then ([], false) else (out, true)) else ([], false)
  | n + 1, out, s, w => if inB (takeP l s w).2.1 4096 65535 = true then decL l n (out ++ [(takeP l s w).1]) (takeP l s w).2.1 (takeP l s w).2.2 else ([], false)
def decR (l : List Int) (s : Int) (w : List Int) (m : Int) : List Int × Bool := if goodC l && codedB s w && inB m 0 80 then decL l m.toNat [] s w else ([], false)
theorem implDec_loop (l : List Int) (hg : goodC l = true) (m : Int) (hm : m ≤ 80) : ∀ (n : Nat) (out : List Int) (s : Int) (w : List Int), codedB s w = true → (out.length : Int) + n = m →
    Ev (fun k => impl_DecodeSymbols.l0 k l out m (out.length : Int) s w) (decL l n out s w) := by
  intro n
  induction n with
  | zero =>
    intro out s w hc hn
    refine Ev.step (fun k => impl_DecodeSymbols.l0.eq_2 _ _ _ _ _ _ _) (Ev.neg (by omega) ?_)
    by_cases h : s = 4096
    · by_cases h2 : (w.length : Int) > 0
      · exact Ev.eq (Ev.pos h (Ev.pos h2 (Ev.now _))) (by unfold decL; rw [if_pos h, if_pos h2])
      · exact Ev.eq (Ev.pos h (Ev.neg h2 (Ev.now _))) (by unfold decL; rw [if_pos h, if_neg h2])
    · exact Ev.eq (Ev.neg h (Ev.now _)) (by unfold decL; rw [if_neg h])
  | succ n ih =>
    intro out s w hc hn
    refine Ev.step (fun k => impl_DecodeSymbols.l0.eq_2 _ _ _ _ _ _ _) (Ev.pos (by omega) (Ev.bind (taken_ev hg hc) ?_))
    unfold decL
    by_cases h : inB (takeP l s w).2.1 4096 65535 = true
    · rw [if_pos h]
      refine Ev.pos h (Ev.pos (by omega) ?_)
      rw [wrap64_id (by omega) (by omega)]
      have := ih (out ++ [(takeP l s w).1]) _ _ (codedB_take hg hc h) (by simp; omega)
      simpa using this
    · rw [if_neg h]
      exact Ev.neg h (Ev.now _)
theorem implDecodeSymbols_ev (l : List Int) (s : Int) (w : List Int) (m : Int) (hl : l.length ≤ 35184372088832) : Ev (fun k => impl_DecodeSymbols.f k l s w m) (decR l s w m) := by
  unfold impl_DecodeSymbols.f
  have no : (goodC l && codedB s w && inB m 0 80) = false → Ev (fun k => impl_DecodeSymbols.j0 k l m true s w) (decR l s w m) := by
    intro h
    unfold decR
    rw [h]
    exact Ev.step (fun k => impl_DecodeSymbols.j0.eq_2 _ _ _ _ _ _) (Ev.pos rfl (Ev.now _))
  by_cases hg : goodC l = true
  case neg => exact Ev.bind (implGood_ev l hl) (Ev.neg hg (no (by simp [hg])))
  refine Ev.bind (implGood_ev l hl) (Ev.pos hg (Ev.bindo (isCoded_eq s w) ?_))
  by_cases hc : codedB s w = true
  case neg => exact Ev.neg hc (no (by simp [hc]))
  refine Ev.pos hc (Ev.bindo (within_eq _ _ _) ?_)
  by_cases hm : inB m 0 80 = true
  case neg =>
    simp only [Bool.not_eq_true] at hm
    rw [hm]
    exact no (by simp [hm])
  rw [hm]
  have hm' := inB_iff.1 hm
  have hn : w.length ≤ 320 := by
    unfold codedB at hc
    simp only [Bool.and_eq_true, inB_iff, wordsB_iff] at hc
    exact hc.2.2
  have ho : impl_ownCoded.f s w = some (s, w) := by unfold impl_ownCoded.f; rw [clone_eq w (by omega)]; rfl
  refine Ev.step (fun k => impl_DecodeSymbols.j0.eq_2 _ _ _ _ _ _) (Ev.neg (by simp) (Ev.bindo ho ?_))
  have := implDec_loop l hg m hm'.2 m.toNat [] s w hc (by simp; omega)
  refine Ev.eq (by simpa using this) ?_
  unfold decR
  rw [hg, hc, hm]; rfl

theorem fill_spill (f : Int) (rest : List Int) : ∀ (n : Nat) (s : Int) (w : List Int), 0 ≤ s → s ≤ 65535 → fill (spill f n s w).1 ((spill f n s w).2.reverse ++ rest) = fill s (w.reverse ++ rest) := by
  intro n
  induction n with
  | zero => intro s w _ _; rfl
  | succ n ih =>
    intro s w h0 h1
    unfold spill
    split
    · rw [ih (s / 16) (w ++ [s % 16]) (by omega) (by omega)]
      rw [List.reverse_append, List.reverse_singleton, List.singleton_append, List.cons_append]
      rw [show fill (s / 16) (s % 16 :: (w.reverse ++ rest)) = if s / 16 < 4096 then fill (16 * (s / 16) + s % 16) (w.reverse ++ rest) else (s / 16, s % 16 :: (w.reverse ++ rest)) from rfl]
      rw [if_pos (by omega), show 16 * (s / 16) + s % 16 = s by omega]
    · rfl
theorem spill_words (f : Int) : ∀ (n : Nat) (s : Int) (w : List Int), (∀ x ∈ w, 0 ≤ x ∧ x ≤ 15) → ∀ x ∈ (spill f n s w).2, 0 ≤ x ∧ x ≤ 15 := by
  intro n
  induction n with
  | zero => intro s w h; exact h
  | succ n ih =>
    intro s w h
    unfold spill
    split
    · refine ih (s / 16) (w ++ [s % 16]) ?_
      intro x hx
      rcases List.mem_append.1 hx with hx | hx
      · exact h x hx
      · rw [List.mem_singleton.1 hx]; omega
    · exact h
theorem symAt_eq : ∀ (l : List Int) (y : Nat) (s : Int), (∀ x ∈ l, 0 ≤ x) → y < l.length → (l.take y).sum ≤ s → s < (l.take y).sum + l.getD y 0 → symAt l s = y := by
  intro l
  induction l with
  | nil => intro y s _ h; simp at h
  | cons x t ih =>
    intro y s ha hy h0 h1
    have hx := ha x (by simp)
    cases y with
    | zero =>
      simp only [List.take_zero, List.sum_nil, List.getD_cons_zero] at h0 h1
      unfold symAt
      rw [if_pos (by omega)]
    | succ y =>
      simp only [List.take_succ_cons, List.sum_cons, List.getD_cons_succ, List.length_cons] at h0 h1 hy
      have hp : 0 ≤ (t.take y).sum := by
        have : ∀ l : List Int, (∀ x ∈ l, 0 ≤ x) → 0 ≤ l.sum := by
          intro l
          induction l with
          | nil => intro _; simp
          | cons a b ih => intro h; have h1 := h a (by simp); have h2 := ih (fun z hz => h z (by simp [hz])); rw [List.sum_cons]; omega
        exact this _ (fun z hz => ha z (by simp [List.mem_of_mem_take hz]))
      unfold symAt
      rw [if_neg (by omega), ih y (s - x) (fun z hz => ha z (by simp [hz])) (by omega) (by omega) (by omega)]
      omega
theorem take_put (l : List Int) (s y : Int) (w : List Int) (hh : hasB l y = true) (hs : 4096 ≤ s ∧ s ≤ 65535) : takeP l (putP l s y).1 (w ++ (putP l s y).2) = (y, s, w) := by
  obtain ⟨hg, h0, h1, hr⟩ := hasB_iff.1 hh
  obtain ⟨_, h12, ha, hsum⟩ := goodC_pos hg
  have hr2 := rd_good hg y h0 h1
  have hp := pre_sum l y ha h0 h1
  have ht := take_bd l y.toNat ha h12
  obtain ⟨a, b⟩ := spill_lo (rd l y) (by omega) 2 s [] (by omega) (by simp; omega)
  have hf := fill_spill (rd l y) w.reverse 2 s [] (by omega) hs.2
  rw [fill_stop (show ¬ s < 4096 by omega)] at hf
  simp only [List.reverse_nil, List.nil_append] at hf
  have hre : (w ++ (spill (rd l y) 2 s []).2).reverse = (spill (rd l y) 2 s []).2.reverse ++ w.reverse := List.reverse_append
  simp only [putP, joinS, takeP]
  rw [hre]
  revert a b hf
  generalize (spill (rd l y) 2 s []).1 = v
  generalize (spill (rd l y) 2 s []).2.reverse = ws
  intro a b hf
  have d1 : v / rd l y < 1024 := (Int.ediv_lt_iff_lt_mul (by omega)).2 (by omega)
  have d0 : 64 ≤ v / rd l y := (Int.le_ediv_iff_mul_le (by omega)).2 (by omega)
  have m0 := Int.emod_nonneg v (show rd l y ≠ 0 by omega)
  have m1 := Int.emod_lt_of_pos v hr
  have hd := Int.mul_ediv_add_emod v (rd l y)
  have e1 : (v / rd l y * 64 + v % rd l y + (l.take y.toNat).sum) % 64 = v % rd l y + (l.take y.toNat).sum := by omega
  have e2 : (v / rd l y * 64 + v % rd l y + (l.take y.toNat).sum) / 64 = v / rd l y := by omega
  have hget : l.getD y.toNat 0 = rd l y := rfl
  have e3 : symAt l (v % rd l y + (l.take y.toNat).sum) = y.toNat := symAt_eq l y.toNat _ (fun x hx => (ha x hx).1) (by omega) (by omega) (by rw [hget]; omega)
  have e4 : takeN l (v / rd l y * 64 + v % rd l y + (l.take y.toNat).sum) = v := by
    unfold takeN
    rw [e1, e2, e3, show ((y.toNat : Nat) : Int) = y by omega]
    omega
  rw [e1, e3, e4, hf]
  simp only [List.reverse_reverse, Prod.mk.injEq, and_true]
  omega
theorem putP_words (l : List Int) (s y : Int) : ∀ x ∈ (putP l s y).2, 0 ≤ x ∧ x ≤ 15 := by
  unfold putP joinS
  exact spill_words (rd l y) 2 s [] (by simp)
theorem codeP_coded (l : List Int) (t : List Int) (ht : t.all (hasB l) = true) (hn : t.length ≤ 80) : codedB (codeP l t).1 (codeP l t).2 = true := by
  obtain ⟨a, b, c⟩ := codeP_ok l t ht
  unfold codedB
  simp only [Bool.and_eq_true, inB_iff, wordsB_iff]
  refine ⟨⟨a, b⟩, ?_, by omega⟩
  clear a b c ht hn
  induction t with
  | nil => simp [codeP]
  | cons y t ih =>
    intro x hx
    simp only [codeP, List.mem_append] at hx
    rcases hx with hx | hx
    · exact ih x hx
    · exact putP_words _ _ _ x hx
theorem decL_code (l : List Int) : ∀ (t out : List Int), t.all (hasB l) = true → decL l t.length out (codeP l t).1 (codeP l t).2 = (out ++ t, true) := by
  intro t
  induction t with
  | nil => intro out _; simp [decL, codeP]
  | cons y t ih =>
    intro out h
    simp only [List.all_cons, Bool.and_eq_true] at h
    obtain ⟨a, b, c⟩ := codeP_ok l t h.2
    have e : takeP l (codeP l (y :: t)).1 (codeP l (y :: t)).2 = (y, (codeP l t).1, (codeP l t).2) := take_put l (codeP l t).1 y (codeP l t).2 h.1 ⟨a, b⟩
    rw [List.length_cons]
    unfold decL
    rw [if_pos (by rw [e]; exact inB_iff.2 ⟨a, b⟩), e]
    simp only
    rw [ih (out ++ [y]) h.2, List.append_assoc, List.singleton_append]
theorem decR_code (l t : List Int) (hg : goodC l = true) (ht : t.all (hasB l) = true) (hn : t.length ≤ 80) : decR l (codeP l t).1 (codeP l t).2 (t.length : Int) = (t, true) := by
  unfold decR
  rw [hg, codeP_coded l t ht hn, inB_iff.2 (show 0 ≤ ((t.length : Nat) : Int) ∧ ((t.length : Nat) : Int) ≤ 80 by omega)]
  simp only [Bool.and_self, if_true]
  have := decL_code l t [] ht
  rw [Int.toNat_natCast]
  simpa using this

theorem bits255 (x : Int) (h0 : 0 ≤ x) (h1 : x < 18446744073709551616) : bits .and .u64 x 255 = x % 256 := by
  have h := bits_mask .u64 64 (by decide) wraps_u64 8 (by decide) x h0 (by omega)
  simpa using h
theorem u64_ok (x : Int) : 0 ≤ IntKind.u64.wrap x ∧ IntKind.u64.wrap x < 18446744073709551616 := by
  rw [IntKind.wrap_u64]; omega
theorem next_ok (c : List Int) (hc : ∀ x ∈ c, 0 ≤ x ∧ x ≤ 255) (p h : Int) (h0 : 0 ≤ p) (h1 : p ≤ 1000000000) : ∃ v h', spec_l1Cur_next.f c p h = some (v, p + 1, h') ∧ 0 ≤ v ∧ v ≤ 255 := by
  unfold spec_l1Cur_next.f
  rw [wrap64_id (x := p + 1) (by omega) (by omega)]
  by_cases a : p < (c.length : Int)
  · rw [if_pos a, if_pos h0, if_pos (by omega)]
    have := hc _ (rd_mem c p h0 a)
    exact ⟨_, _, rfl, by rw [wrap64_id (by omega) (by omega)]; exact this.1, by rw [wrap64_id (by omega) (by omega)]; exact this.2⟩
  · rw [if_neg a]
    by_cases b : p + 1 ≤ (c.length : Int)
    · omega
    · rw [if_neg b]
      generalize hX : (IntKind.u64.wrap ((IntKind.u64.wrap ((IntKind.u64.wrap (h * 6364136223846793005)) + 0)) + 1442695040888963407)) = X
      have hX' := u64_ok ((IntKind.u64.wrap ((IntKind.u64.wrap (h * 6364136223846793005)) + 0)) + 1442695040888963407)
      rw [hX] at hX'
      rw [bits255 (X / 1099511627776) (by omega) (by omega)]
      exact ⟨_, _, rfl, by rw [wrap64_id (by omega) (by omega)]; omega, by rw [wrap64_id (by omega) (by omega)]; omega⟩
theorem pick_ok (c : List Int) (hc : ∀ x ∈ c, 0 ≤ x ∧ x ≤ 255) (n p h : Int) (h0 : 0 ≤ p) (h1 : p ≤ 900000000) : ∃ v p' h', spec_l1Cur_pick.f c p h n = some (v, p', h') ∧ 0 ≤ v ∧ (1 ≤ n → v < n) ∧ p ≤ p' ∧ p' ≤ p + 2 := by
  unfold spec_l1Cur_pick.f
  by_cases a : n ≤ 1
  · rw [if_pos a]
    exact ⟨0, p, h, rfl, by omega, by omega, by omega, by omega⟩
  rw [if_neg a]
  obtain ⟨v, h2, e, b1, b2⟩ := next_ok c hc p h h0 (by omega)
  rw [e]
  simp only [Option.bind_some]
  by_cases d : n > 200
  · rw [if_pos d]
    obtain ⟨v2, h3, e2, b3, b4⟩ := next_ok c hc (p + 1) h2 (by omega) (by omega)
    rw [e2]
    simp only [Option.bind_some]
    rw [if_neg (by omega), wrap64_id (x := v * 256) (by omega) (by omega), wrap64_id (by omega) (by omega), Int.tmod_eq_emod_of_nonneg (by omega)]
    exact ⟨_, _, _, rfl, Int.emod_nonneg _ (by omega), fun _ => Int.emod_lt_of_pos _ (by omega), by omega, by omega⟩
  · rw [if_neg d, if_neg (by omega), Int.tmod_eq_emod_of_nonneg (by omega)]
    exact ⟨_, _, _, rfl, Int.emod_nonneg _ (by omega), fun _ => Int.emod_lt_of_pos _ (by omega), by omega, by omega⟩
theorem one_ok (c : List Int) (hc : ∀ x ∈ c, 0 ≤ x ∧ x ≤ 255) (n p h : Int) (h0 : 0 ≤ p) (h1 : p ≤ 900000000) : ∃ b p' h', spec_l1Cur_one.f c p h n = some (b, p', h') ∧ p ≤ p' ∧ p' ≤ p + 2 := by
  obtain ⟨v, p', h', e, _, _, a, b⟩ := pick_ok c hc n p h h0 h1
  unfold spec_l1Cur_one.f
  rw [e]
  exact ⟨_, _, _, rfl, a, b⟩

theorem symbols_loop (c : List Int) (hc : ∀ x ∈ c, 0 ≤ x ∧ x ≤ 255) (K : Int) : ∀ (n : Nat) (l : List Int) (p h : Int), 0 ≤ p → p + 2 * n ≤ 800000000 → l.length + n ≤ 100 → (∀ x ∈ l, 0 ≤ x ∧ (1 ≤ K → x < K)) →
    ∃ (r : List Int) (p' h' : Int), Ev (fun k => spec_l1Cur_symbols.l0 k K l (n : Int) c p h) (r, p', h') ∧ r.length = l.length + n ∧ p ≤ p' ∧ p' ≤ p + 2 * n ∧ (∀ x ∈ r, 0 ≤ x ∧ (1 ≤ K → x < K)) := by
  intro n
  induction n with
  | zero =>
    intro l p h h0 h1 hn hl
    exact ⟨l, p, h, Ev.step (fun k => spec_l1Cur_symbols.l0.eq_2 _ _ _ _ _ _ _) (Ev.neg (by simp) (Ev.now _)), rfl, by omega, by omega, hl⟩
  | succ n ih =>
    intro l p h h0 h1 hn hl
    obtain ⟨v, p1, h2, e, b1, b2, b3, b4⟩ := pick_ok c hc K p h h0 (by omega)
    obtain ⟨r, p', h', e2, a1, a2, a3, a4⟩ := ih (l ++ [v]) p1 h2 (by omega) (by omega) (by simp; omega) (by
      intro x hx
      rcases List.mem_append.1 hx with hx | hx
      · exact hl x hx
      · rw [List.mem_singleton.1 hx]; exact ⟨b1, b2⟩)
    refine ⟨r, p', h', Ev.step (fun k => spec_l1Cur_symbols.l0.eq_2 _ _ _ _ _ _ _) (Ev.pos (by omega) (Ev.bindo e (Ev.pos (by omega) ?_))), by rw [a1]; simp; omega, by omega, by omega, a4⟩
    rw [wrap64_id (by omega) (by omega), show ((n + 1 : Nat) : Int) - 1 = (n : Int) by omega]
    exact e2
theorem symbols_ok (c : List Int) (hc : ∀ x ∈ c, 0 ≤ x ∧ x ≤ 255) (K p h : Int) (h0 : 0 ≤ p) (h1 : p ≤ 700000000) : ∃ (r : List Int) (p' h' : Int), Ev (fun k => spec_l1Cur_symbols.f k c p h K) (r, p', h') ∧ r.length ≤ 81 ∧ p ≤ p' ∧ p' ≤ p + 1000 ∧ (∀ x ∈ r, 0 ≤ x ∧ (1 ≤ K → x < K)) := by
  unfold spec_l1Cur_symbols.f
  obtain ⟨n, p1, h2, e, b1, b2, b3, b4⟩ := pick_ok c hc 14 p h h0 (by omega)
  have b2 := b2 (by omega)
  obtain ⟨b, p2, h3, e2, c1, c2⟩ := one_ok c hc 20 p1 h2 (by omega) (by omega)
  by_cases hb : b = true
  · obtain ⟨m, p3, h4, e3, d1, d2, d3, d4⟩ := pick_ok c hc 2 p2 h3 (by omega) (by omega)
    have d2 := d2 (by omega)
    obtain ⟨r, p', h', e4, a1, a2, a3, a4⟩ := symbols_loop c hc K (80 + m).toNat [] p3 h4 (by omega) (by omega) (by simp; omega) (by simp)
    rw [show (((80 + m).toNat : Nat) : Int) = 80 + m by omega] at e4
    simp only [List.length_nil] at a1
    refine ⟨r, p', h', Ev.bindo e (Ev.bindo e2 (Ev.pos hb (Ev.bindo e3 (Ev.step (fun k => spec_l1Cur_symbols.j0.eq_2 _ _ _ _ _ _ _) ?_)))), by omega, by omega, by omega, a4⟩
    rw [wrap64_id (by omega) (by omega)]
    exact e4
  · obtain ⟨r, p', h', e4, a1, a2, a3, a4⟩ := symbols_loop c hc K n.toNat [] p2 h3 (by omega) (by omega) (by simp; omega) (by simp)
    rw [show ((n.toNat : Nat) : Int) = n by omega] at e4
    simp only [List.length_nil] at a1
    exact ⟨r, p', h', Ev.bindo e (Ev.bindo e2 (Ev.neg hb (Ev.step (fun k => spec_l1Cur_symbols.j0.eq_2 _ _ _ _ _ _ _) e4))), by omega, by omega, by omega, a4⟩
theorem counts_end (c : List Int) (hc : ∀ x ∈ c, 0 ≤ x ∧ x ≤ 255) (x : List Int) (hx1 : 1 ≤ x.length) (hx2 : x.length ≤ 12) (b : Bool) (q g : Int) (h0 : 0 ≤ q) (h1 : q ≤ 700000000) (hb2 : b = true → 2 ≤ x.length) :
    ∃ (r : List Int) (p' h' : Int), Ev (fun k => spec_l1Cur_counts.j1 k x b c q g) (r, p', h') ∧ 1 ≤ r.length ∧ r.length ≤ 12 ∧ q ≤ p' ∧ p' ≤ q + 4 := by
  by_cases hb : b = true
  · have h2 := hb2 hb
    have e1 : wrap64 ((x.length : Int) - 1) = (x.length : Int) - 1 := wrap64_id (by omega) (by omega)
    obtain ⟨m, q1, g1, f1, m1, m2, m3, m4⟩ := pick_ok c hc (wrap64 ((x.length : Int) - 1)) q g (by omega) (by omega)
    have m2 := m2 (by omega)
    have e2 : wrap64 (1 + m) = 1 + m := wrap64_id (by omega) (by omega)
    obtain ⟨b5, q2, g2, f2, n1, n2⟩ := one_ok c hc 20 q1 g1 (by omega) (by omega)
    by_cases h5 : b5 = true
    · exact ⟨_, _, _, Ev.step (fun k => spec_l1Cur_counts.j1.eq_2 _ _ _ _ _ _) (Ev.pos hb (Ev.bindo f1 (Ev.pos (by omega) (Ev.pos (by simp only; omega) (Ev.pos (by simp only; omega) (Ev.bindo rfl (Ev.bindo f2 (Ev.pos h5 (Ev.now _))))))))), by simp; omega, by simp; omega, by simp only; omega, by simp only; omega⟩
    · exact ⟨_, _, _, Ev.step (fun k => spec_l1Cur_counts.j1.eq_2 _ _ _ _ _ _) (Ev.pos hb (Ev.bindo f1 (Ev.pos (by omega) (Ev.pos (by simp only; omega) (Ev.pos (by simp only; omega) (Ev.bindo rfl (Ev.bindo f2 (Ev.neg h5 (Ev.now _))))))))), by simp; omega, by simp; omega, by simp only; omega, by simp only; omega⟩
  · obtain ⟨b5, q2, g2, f2, n1, n2⟩ := one_ok c hc 20 q g (by omega) (by omega)
    by_cases h5 : b5 = true
    · exact ⟨_, _, _, Ev.step (fun k => spec_l1Cur_counts.j1.eq_2 _ _ _ _ _ _) (Ev.neg hb (Ev.bindo f2 (Ev.pos h5 (Ev.pos (by omega) (Ev.now _))))), by simp; omega, by simp; omega, by simp only; omega, by simp only; omega⟩
    · exact ⟨_, _, _, Ev.step (fun k => spec_l1Cur_counts.j1.eq_2 _ _ _ _ _ _) (Ev.neg hb (Ev.bindo f2 (Ev.neg h5 (Ev.now _)))), by simpa using hx1, by simpa using hx2, by simp only; omega, by simp only; omega⟩
theorem counts_mid (c : List Int) (hc : ∀ x ∈ c, 0 ≤ x ∧ x ≤ 255) (x : List Int) (hx1 : 1 ≤ x.length) (hx2 : x.length ≤ 12) (q g : Int) (h0 : 0 ≤ q) (h1 : q ≤ 650000000) :
    ∃ (r : List Int) (p' h' : Int), Ev (fun k => spec_l1Cur_counts.j0 k x c q g) (r, p', h') ∧ 1 ≤ r.length ∧ r.length ≤ 12 ∧ q ≤ p' ∧ p' ≤ q + 6 := by
  by_cases h : (x.length : Int) > 1
  · obtain ⟨b, q1, g1, f1, m1, m2⟩ := one_ok c hc 4 q g (by omega) (by omega)
    obtain ⟨r, p', h', e, a1, a2, a3, a4⟩ := counts_end c hc x hx1 hx2 b q1 g1 (by omega) (by omega) (fun _ => by omega)
    exact ⟨r, p', h', Ev.step (fun k => spec_l1Cur_counts.j0.eq_2 _ _ _ _ _) (Ev.pos h (Ev.bindo f1 e)), a1, a2, by omega, by omega⟩
  · obtain ⟨r, p', h', e, a1, a2, a3, a4⟩ := counts_end c hc x hx1 hx2 false q g (by omega) (by omega) (fun h => by cases h)
    exact ⟨r, p', h', Ev.step (fun k => spec_l1Cur_counts.j0.eq_2 _ _ _ _ _) (Ev.neg h e), a1, a2, by omega, by omega⟩
theorem counts_ok (c : List Int) (hc : ∀ x ∈ c, 0 ≤ x ∧ x ≤ 255) (p h : Int) (h0 : 0 ≤ p) (h1 : p ≤ 600000000) : ∃ (r : List Int) (p' h' : Int), Ev (fun k => spec_l1Cur_counts.f k c p h) (r, p', h') ∧ 1 ≤ r.length ∧ r.length ≤ 12 ∧ p ≤ p' ∧ p' ≤ p + 2000 := by
  unfold spec_l1Cur_counts.f
  obtain ⟨n, p1, h2, e, b1, b2, b3, b4⟩ := pick_ok c hc 6 p h h0 (by omega)
  have b2 := b2 (by omega)
  have e1 : wrap64 (1 + n) = 1 + n := wrap64_id (by omega) (by omega)
  obtain ⟨s, p2, h3, e2, c1, c2, c3, c4⟩ := symbols_ok c hc (wrap64 (1 + n)) p1 h2 (by omega) (by omega)
  obtain ⟨xs, b, hx, hb, e3⟩ := countsFor_spec s (wrap64 (1 + n)) (by omega)
  by_cases hb1 : b = true
  · have hl : 1 ≤ xs.length := by
      rcases hb with ⟨_, rfl, k1, k2, k3, k4⟩ | ⟨hb, _⟩
      · have := (cfR_ok s (wrap64 (1 + n)) k1 k2 k3 k4).1
        omega
      · rw [hb] at hb1; cases hb1
    obtain ⟨r, p', h', e4, a1, a2, a3, a4⟩ := counts_mid c hc xs hl hx p2 h3 (by omega) (by omega)
    exact ⟨r, p', h', Ev.bindo e (Ev.bind e2 (Ev.bind e3 (Ev.pos hb1 e4))), a1, a2, by omega, by omega⟩
  · obtain ⟨r, p', h', e4, a1, a2, a3, a4⟩ := counts_mid c hc [64] (by simp) (by simp) p2 h3 (by omega) (by omega)
    exact ⟨r, p', h', Ev.bindo e (Ev.bind e2 (Ev.bind e3 (Ev.neg hb1 e4))), a1, a2, by omega, by omega⟩

theorem sameInts_loop (l : List Int) (hl : l.length ≤ 35184372088832) : ∀ (d i : Nat), i + d = l.length → Ev (fun k => laws_sameInts.l0 k l l (l.length : Int) (i : Int)) true := by
  intro d
  induction d with
  | zero =>
    intro i hi
    exact Ev.step (fun k => laws_sameInts.l0.eq_2 _ _ _ _ _) (Ev.neg (by omega) (Ev.now _))
  | succ d ih =>
    intro i hi
    refine Ev.step (fun k => laws_sameInts.l0.eq_2 _ _ _ _ _) (Ev.pos (by omega) (Ev.pos (by omega) (Ev.pos (by omega) (Ev.pos (by omega) (Ev.pos rfl ?_)))))
    rw [wrap64_id (by omega) (by omega)]
    exact ih (i + 1) (by omega)
theorem sameInts_self (l : List Int) (hl : l.length ≤ 35184372088832) : Ev (fun k => laws_sameInts.f k l l) true := by
  unfold laws_sameInts.f
  exact Ev.pos rfl (sameInts_loop l hl l.length 0 (by omega))
theorem wf_u8 {x : Int} (h : (Lit.int .u8 x).wf = true) : 0 ≤ x ∧ x ≤ 255 := by
  simp [Lit.wf, IntKind.min, IntKind.max, IntKind.signed, IntKind.bits] at h
  omega

theorem among_ok (c : List Int) (hc : ∀ x ∈ c, 0 ≤ x ∧ x ≤ 255) (l : List Int) (hl : 1 ≤ l.length ∧ l.length ≤ 100) (p h : Int) (h0 : 0 ≤ p) (h1 : p ≤ 800000000) : ∃ v p' h', spec_l1Cur_among.f c p h l = some (v, p', h') ∧ p ≤ p' ∧ p' ≤ p + 2 := by
  obtain ⟨v, p1, h2, e1, b1, b2, b3, b4⟩ := pick_ok c hc (l.length : Int) p h h0 (by omega)
  have b2 := b2 (by omega)
  unfold spec_l1Cur_among.f
  rw [e1]
  simp only [Option.bind_some]
  rw [if_pos b1, if_pos b2]
  exact ⟨_, _, _, rfl, b3, b4⟩
theorem drawCode_ok (c : List Int) (hc : ∀ x ∈ c, 0 ≤ x ∧ x ≤ 255) : ∃ (l s : List Int), Ev (fun k => spec_DrawCodeSymbols.f k c) (l, s) ∧ l.length ≤ 12 ∧ s.length ≤ 81 := by
  unfold spec_DrawCodeSymbols.f
  obtain ⟨l, p1, h1, e1, a1, a2, a3, a4⟩ := counts_ok c hc 0 0 (by omega) (by omega)
  obtain ⟨s, p2, h2, e2, b1, _⟩ := symbols_ok c hc (l.length : Int) p1 h1 (by omega) (by omega)
  exact ⟨l, s, Ev.bindo rfl (Ev.bind e1 (Ev.bind e2 (Ev.now _))), a2, b1⟩
theorem drawPut_ok (c : List Int) (hc : ∀ x ∈ c, 0 ≤ x ∧ x ≤ 255) : ∃ (l : List Int) (s y : Int), Ev (fun k => spec_DrawPutSymbol.f k c) (l, s, y) ∧ l.length ≤ 12 := by
  unfold spec_DrawPutSymbol.f
  obtain ⟨l, p1, h1, e1, a1, a2, a3, a4⟩ := counts_ok c hc 0 0 (by omega) (by omega)
  obtain ⟨v, p2, h2, e2, b1, b2⟩ := among_ok c hc [-1, 0, 1, 500, 40000, 61439, 61440] (by simp) p1 h1 (by omega) (by omega)
  obtain ⟨v3, p3, h3, e3, _, _, c3, c4⟩ := pick_ok c hc 3 p2 h2 (by omega) (by omega)
  obtain ⟨v4, p4, h4, e4, _⟩ := pick_ok c hc (wrap64 ((l.length : Int) + 1)) p3 h3 (by omega) (by omega)
  exact ⟨_, _, _, Ev.bindo rfl (Ev.bind e1 (Ev.bindo e2 (Ev.bindo e3 (Ev.bindo e4 (Ev.now _))))), a2⟩
theorem codedEnd_ok (c : List Int) (hc : ∀ x ∈ c, 0 ≤ x ∧ x ≤ 255) (l s : List Int) (p h st : Int) (w : List Int) (h0 : 0 ≤ p) (h1 : p ≤ 700000000) : ∃ (st' n p' h' : Int), Ev (fun k => spec_l1Cur_coded.j0 k l s c p h st w) (l, st', w, n, p', h') := by
  obtain ⟨b, p2, h2, e2, b1, b2⟩ := one_ok c hc 8 p h (by omega) (by omega)
  by_cases hb : b = true
  · obtain ⟨v, p3, h3, e3, _⟩ := pick_ok c hc 9 p2 h2 (by omega) (by omega)
    exact ⟨_, _, _, _, Ev.step (fun k => spec_l1Cur_coded.j0.eq_2 _ _ _ _ _ _ _ _) (Ev.bindo e2 (Ev.pos hb (Ev.bindo e3 (Ev.now _))))⟩
  · exact ⟨_, _, _, _, Ev.step (fun k => spec_l1Cur_coded.j0.eq_2 _ _ _ _ _ _ _ _) (Ev.bindo e2 (Ev.neg hb (Ev.now _)))⟩
theorem drawTake_ok (c : List Int) (hc : ∀ x ∈ c, 0 ≤ x ∧ x ≤ 255) : ∃ (l : List Int) (s : Int) (w : List Int), Ev (fun k => spec_DrawTakeSymbol.f k c) (l, s, w) ∧ l.length ≤ 12 ∧ w.length ≤ 200 := by
  unfold spec_DrawTakeSymbol.f spec_l1Cur_coded.f
  obtain ⟨l, p1, h1, e1, a1, a2, a3, a4⟩ := counts_ok c hc 0 0 (by omega) (by omega)
  obtain ⟨s, p2, h2, e2, b1, b2, b3, _⟩ := symbols_ok c hc (l.length : Int) p1 h1 (by omega) (by omega)
  have e3 := specCodeSymbols_ev l s (by omega) (by omega)
  have hx := codeR_len l s
  by_cases hb : (codeR l s).2.2 = true
  · obtain ⟨st', n, p', h', e⟩ := codedEnd_ok c hc l s p2 h2 (codeR l s).1 (codeR l s).2.1 (by omega) (by omega)
    exact ⟨l, st', _, Ev.bindo rfl (Ev.bind (Ev.bind e1 (Ev.bind e2 (Ev.bind e3 (Ev.pos hb e)))) (Ev.now _)), a2, by simp only; omega⟩
  · obtain ⟨v4, p4, h4, e4, _, _, c3, c4⟩ := pick_ok c hc 500 p2 h2 (by omega) (by omega)
    obtain ⟨v5, p5, h5, e5, _, _, d3, d4⟩ := pick_ok c hc 17 p4 h4 (by omega) (by omega)
    obtain ⟨st', n, p', h', e⟩ := codedEnd_ok c hc l s p5 h5 (wrap64 (4096 + v4)) [v5] (by omega) (by omega)
    exact ⟨l, st', _, Ev.bindo rfl (Ev.bind (Ev.bind e1 (Ev.bind e2 (Ev.bind e3 (Ev.neg hb (Ev.bindo e4 (Ev.bindo e5 e)))))) (Ev.now _)), a2, by simp⟩
theorem third_ev (c : List Int) (hc : ∀ x ∈ c, 0 ≤ x ∧ x ≤ 255) : Ev (fun k => laws_FnAns.j3 k c) true := by
  obtain ⟨l, s, w, e1, hl, hw⟩ := drawTake_ok c hc
  have e2 := implTakeSymbol_ev l s w (by omega)
  have e3 := specTakeSymbol_ev l s w (by omega) (by omega)
  have hx := takeR_len l s w
  exact Ev.step (fun k => laws_FnAns.j3.eq_2 _ _) (Ev.bind e1 (Ev.bind e2 (Ev.bind e3 (Ev.pos (by simp) (Ev.pos rfl (Ev.pos rfl (Ev.bind (sameInts_self _ (by omega)) (Ev.now _))))))))
theorem takeR_put (l : List Int) (s y : Int) (hh : hasB l y = true) (hs : 4096 ≤ s ∧ s ≤ 65535) : takeR l (putP l s y).1 (putP l s y).2 = (y, s, [], true) := by
  have e := take_put l s y [] hh hs
  rw [List.nil_append] at e
  have hc : codedB (putP l s y).1 (putP l s y).2 = true := by
    have a := putP_state l s y hh hs
    have b := putP_len l s y
    unfold codedB
    simp only [Bool.and_eq_true, inB_iff, wordsB_iff]
    exact ⟨a, putP_words l s y, by omega⟩
  unfold takeR
  rw [(hasB_iff.1 hh).1, hc, e, inB_iff.2 hs]
  rfl
theorem second_ev (c : List Int) (hc : ∀ x ∈ c, 0 ≤ x ∧ x ≤ 255) : Ev (fun k => laws_FnAns.j1 k c) true := by
  obtain ⟨l, s, y, e1, hl⟩ := drawPut_ok c hc
  have e2 := implPutSymbol_ev l s y (by omega)
  have e3 := specPutSymbol_ev l s y (by omega)
  have hx := putR_len l s y
  have nx := third_ev c hc
  refine Ev.step (fun k => laws_FnAns.j1.eq_2 _ _) (Ev.bind e1 (Ev.bind e2 (Ev.bind e3 (Ev.neg (by simp) (Ev.pos rfl (Ev.bind (sameInts_self _ (by omega)) ?_))))))
  refine Ev.step (fun k => laws_FnAns.j2.eq_2 _ _ _ _ _ _ _ _ _) (Ev.neg (by simp) ?_)
  by_cases hh : hasB l y = true ∧ inB s 4096 65535 = true
  · have hs := inB_iff.1 hh.2
    have e : putR l s y = ((putP l s y).1, (putP l s y).2, true) := putR_yes hh.1 hs
    rw [e]
    have e4 := implTakeSymbol_ev l (putP l s y).1 (putP l s y).2 (by omega)
    rw [takeR_put l s y hh.1 hs] at e4
    exact Ev.pos rfl (Ev.bind e4 (Ev.pos rfl (Ev.pos rfl (Ev.pos rfl (Ev.pos (by simp) nx)))))
  · have e : putR l s y = (0, [], false) := by
      unfold putR
      rw [if_neg (by simpa using hh)]
    rw [e]
    exact Ev.neg (by simp) nx
end QFnAns
open QFnAns
theorem FnAns : laws_FnAns.Pure := by
  intro l m h1 h2 hw h3 h4 hw2
  refine Ev.rounds ?_
  unfold laws_FnAns.f
  rw [wrap64_id (by omega) (by omega)]
  by_cases hb : (l.length : Int) + (m.length : Int) > 1048576
  · exact Ev.pos hb (Ev.now _)
  obtain ⟨c, s, e1, hc, hs⟩ := drawCode_ok l (fun x hx => wf_u8 (hw x hx))
  have e2 := implCodeSymbols_ev c s (by omega) (by omega)
  have e3 := specCodeSymbols_ev c s (by omega) (by omega)
  have hl := codeR_len c s
  have nx := second_ev m (fun x hx => wf_u8 (hw2 x hx))
  refine Ev.neg hb (Ev.bind e1 (Ev.bind e2 (Ev.bind e3 (Ev.neg (by simp) (Ev.pos rfl (Ev.bind (sameInts_self _ (by omega)) ?_))))))
  refine Ev.step (fun k => laws_FnAns.j0.eq_2 _ _ _ _ _ _ _ _) (Ev.neg (by simp) ?_)
  by_cases hg : (goodC c && decide (s.length ≤ 80) && s.all (hasB c)) = true
  · have e : codeR c s = ((codeP c s).1, (codeP c s).2, true) := by unfold codeR; rw [if_pos hg]
    rw [e]
    simp only [Bool.and_eq_true, decide_eq_true_eq] at hg
    have hdec := implDecodeSymbols_ev c (codeP c s).1 (codeP c s).2 (s.length : Int) (by omega)
    rw [decR_code c s hg.1.1 hg.2 hg.1.2] at hdec
    obtain ⟨a1, a2, a3⟩ := codeP_ok c s hg.2
    exact Ev.pos rfl (Ev.bind hdec (Ev.pos rfl (Ev.bind (sameInts_self s (by omega)) (Ev.pos rfl (Ev.neg (by simp only; omega) (Ev.neg (by simp only; omega) nx))))))
  · have e : codeR c s = (0, [], false) := by unfold codeR; rw [if_neg hg]
    rw [e]
    exact Ev.neg (by simp) nx

end Go.Proofs.Ytppgkkejddjacaa.Pure
