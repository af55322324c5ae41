/- The law FnExactCodeSymbols holds: for every argument within the row's bounds the printed function answers true. No further condition. -/
import Derived.Test.YtppgkkejddjacaaPFnExactCodeSymbolsx6
set_option linter.unusedVariables false
namespace Go.Proofs.Ytppgkkejddjacaa.Pure
open Go.RowKit Go.Proofs.Ytppgkkejddjacaa.PFnExactCodeSymbols Go.Proofs.YtppgkkejddjacaaW.PrintWords Go.Proofs.YtppgkkejddjacaaW.PrintLast
namespace QFnExactCodeSymbols
/-! ### Rounds -/
theorem Ev.pos {α : Type} {c : Prop} [Decidable c] {g f : Nat → Option α} {r : α} (hc : c) (h : Ev g r) : Ev (fun k => if c then g k else f k) r :=
  Ev.congr (fun _ => if_pos hc) h
theorem Ev.neg {α : Type} {c : Prop} [Decidable c] {g f : Nat → Option α} {r : α} (hc : ¬ c) (h : Ev f r) : Ev (fun k => if c then g k else f k) r :=
  Ev.congr (fun _ => if_neg hc) h
theorem Ev.bindo {α β : Type} {o : Option α} {f : Nat → α → Option β} {a : α} {r : β} (h : o = some a) (k : Ev (fun n => f n a) r) : Ev (fun n => o.bind (f n)) r :=
  Ev.congr (fun n => by rw [h]; rfl) k
theorem Ev.eq {α : Type} {g : Nat → Option α} {r s : α} (h : Ev g r) (e : r = s) : Ev g s := e ▸ h
theorem wrap64_id {x : Int} (h1 : -9223372036854775808 ≤ x) (h2 : x ≤ 9223372036854775807) : wrap64 x = x := by
  unfold wrap64
  omega
theorem wrap64_lo (x : Int) : -9223372036854775808 ≤ wrap64 x ∧ wrap64 x ≤ 9223372036854775807 := by
  unfold wrap64
  omega
theorem wf_i64 {x : Int} (h : (Lit.int .i64 x).wf = true) : -9223372036854775808 ≤ x ∧ x ≤ 9223372036854775807 := by
  simp [Lit.wf, IntKind.min, IntKind.max, IntKind.signed, IntKind.bits] at h
  omega
/-- Is a number in a range? -/
def inB (a b c : Int) : Bool := decide (b ≤ a) && decide (a ≤ c)
theorem inB_iff {a b c : Int} : inB a b c = true ↔ b ≤ a ∧ a ≤ c := by simp [inB]
theorem inB_no {a b c : Int} : inB a b c = false ↔ ¬ (b ≤ a ∧ a ≤ c) := by rw [← inB_iff]; simp

theorem l1In_eq (a b c : Int) : spec_l1In.f a b c = some (inB a b c) := by
  unfold spec_l1In.f inB
  by_cases h : b ≤ a <;> simp [h]
theorem within_eq (a b c : Int) : impl_within.f a b c = some (inB a b c) := by
  unfold impl_within.f inB
  by_cases h : b ≤ a <;> simp [h]

/-! ### Lists of numbers: copied, compared, marked -/
theorem rd_nat (l : List Int) (i : Nat) (h : i < l.length) : rd l (i : Int) = l[i] := by
  simp [rd, List.getD_eq_getElem?_getD, List.getElem?_eq_getElem h]
theorem toIntS_loop (l : List Int) (hl : l.length ≤ 35184372088832) : ∀ (d i : Nat) (xs : List Int), i + d = l.length → xs.length = l.length → xs.take i = l.take i →
    Ev (fun k => laws_toIntS.l0 k l xs (i : Int)) l := by
  intro d
  induction d with
  | zero =>
    intro i xs hi hx hp
    refine Ev.step (fun k => laws_toIntS.l0.eq_2 _ _ _ _) (Ev.neg (by omega) ?_)
    have e : xs = l := by
      rw [List.take_of_length_le (by omega), List.take_of_length_le (by omega)] at hp
      exact hp
    rw [e]
    exact Ev.now l
  | succ d ih =>
    intro i xs hi hx hp
    refine Ev.step (fun k => laws_toIntS.l0.eq_2 _ _ _ _) (Ev.pos (by omega) (Ev.pos (by omega) (Ev.pos (by omega) ?_)))
    rw [wrap64_id (by omega) (by omega), rd_nat l i (by omega)]
    have := ih (i + 1) (xs.set (i : Int).toNat l[i]) (by omega) (by simp [hx]) (by
      rw [List.take_add_one, List.take_add_one]
      simp only [Int.toNat_natCast, List.take_set, hp]
      rw [List.getElem?_set_self (by omega), List.getElem?_eq_getElem (by omega : i < l.length), List.set_eq_of_length_le (by simp; omega)])
    exact this
theorem toIntS_ev (l : List Int) (hl : l.length ≤ 35184372088832) : Ev (fun k => laws_toIntS.f k l) l := by
  unfold laws_toIntS.f
  refine Ev.pos (by omega) (Ev.pos (by omega) ?_)
  exact toIntS_loop l hl l.length 0 _ (by omega) (by simp) (by simp)
theorem eqIntS_loop (l : List Int) (hl : l.length ≤ 35184372088832) : ∀ (d i : Nat), i + d = l.length → Ev (fun k => laws_eqIntS.l0 k l l (i : Int)) true := by
  intro d
  induction d with
  | zero =>
    intro i hi
    exact Ev.step (fun k => laws_eqIntS.l0.eq_2 _ _ _ _) (Ev.neg (by omega) (Ev.now _))
  | succ d ih =>
    intro i hi
    refine Ev.step (fun k => laws_eqIntS.l0.eq_2 _ _ _ _) (Ev.pos (by omega) (Ev.pos (by omega) (Ev.pos (by omega) (Ev.pos rfl ?_))))
    rw [wrap64_id (by omega) (by omega)]
    exact ih (i + 1) (by omega)
theorem eqIntS_self (l : List Int) (hl : l.length ≤ 35184372088832) : Ev (fun k => laws_eqIntS.f k l l) true := by
  unfold laws_eqIntS.f
  exact Ev.pos rfl (eqIntS_loop l hl l.length 0 (by omega))

/-- The marks c, c + 1, .., as many as n. -/
def marks : Nat → Int → List Int
  | 0, _ => []
  | n + 1, c => c :: marks n (c + 1)
theorem marks_length (n : Nat) : ∀ c, (marks n c).length = n := by
  induction n with
  | zero => intro c; rfl
  | succ n ih => intro c; simp [marks, ih]
theorem markIntS_loop : ∀ (d i : Nat) (xs : List Int) (c : Nat), i + d = xs.length → c + d ≤ 70368744177664 → xs.length ≤ 35184372088832 →
    Ev (fun k => laws_markIntS.l0 k xs (c : Int) (i : Int)) (((c + d : Nat) : Int), xs.take i ++ marks d (c : Int)) := by
  intro d
  induction d with
  | zero =>
    intro i xs c hi hc hx
    refine Ev.step (fun k => laws_markIntS.l0.eq_2 _ _ _ _) (Ev.neg (by omega) ?_)
    rw [List.take_of_length_le (by omega)]
    simp only [marks, List.append_nil, Nat.add_zero]
    exact Ev.now _
  | succ d ih =>
    intro i xs c hi hc hx
    refine Ev.step (fun k => laws_markIntS.l0.eq_2 _ _ _ _) (Ev.pos (by omega) (Ev.pos (by omega) ?_))
    rw [wrap64_id (by omega) (by omega), wrap64_id (by omega) (by omega)]
    have h := ih (i + 1) (xs.set (i : Int).toNat (c : Int)) (c + 1) (by simp; omega) (by omega) (by simpa using hx)
    refine Ev.eq h ?_
    have e : List.take (i + 1) (xs.set (i : Int).toNat (c : Int)) = xs.take i ++ [(c : Int)] := by
      rw [List.take_add_one, Int.toNat_natCast, List.take_set, List.set_eq_of_length_le (by simp; omega), List.getElem?_set_self (by omega)]
      rfl
    rw [e, List.append_assoc]
    simp only [marks, List.singleton_append, Prod.mk.injEq]
    exact ⟨by omega, by push_cast; rfl⟩
theorem markIntS_ev (xs : List Int) (c : Nat) (hc : c + xs.length ≤ 70368744177664) (hx : xs.length ≤ 35184372088832) :
    Ev (fun k => laws_markIntS.f k xs (c : Int)) (((c + xs.length : Nat) : Int), marks xs.length (c : Int)) := by
  unfold laws_markIntS.f
  have h := markIntS_loop xs.length 0 xs c (by omega) hc hx
  simpa using h
theorem heldIntS_loop (n : Nat) : ∀ (pre : List Int) (c : Nat), pre.length + n ≤ 35184372088832 → c + n ≤ 70368744177664 →
    Ev (fun k => laws_heldIntS.l0 k (pre ++ marks n (c : Int)) (c : Int) (pre.length : Int)) ((c + n : Nat) : Int) := by
  induction n with
  | zero =>
    intro pre c hp hc
    refine Ev.step (fun k => laws_heldIntS.l0.eq_2 _ _ _ _) (Ev.neg (by simp [marks]) (Ev.now _))
  | succ n ih =>
    intro pre c hp hc
    refine Ev.step (fun k => laws_heldIntS.l0.eq_2 _ _ _ _) (Ev.pos (by simp [marks]; omega) (Ev.pos (by omega) ?_))
    have hm : marks (n + 1) (c : Int) = (c : Int) :: marks n ((c + 1 : Nat) : Int) := by simp [marks]
    have e : pre ++ marks (n + 1) (c : Int) = (pre ++ [(c : Int)]) ++ marks n ((c + 1 : Nat) : Int) := by rw [hm]; simp
    refine Ev.pos ?_ ?_
    · rw [hm, rd_nat _ _ (by simp)]
      simp
    rw [wrap64_id (by omega) (by omega), wrap64_id (by omega) (by omega), e]
    have h := ih (pre ++ [(c : Int)]) (c + 1) (by simp; omega) (by omega)
    simp only [List.length_append, List.length_cons, List.length_nil] at h
    refine Ev.eq (Ev.congr (fun k => ?_) h) (by omega)
    congr 1
theorem heldIntS_ev (n c : Nat) (h1 : n ≤ 35184372088832) (hc : c + n ≤ 70368744177664) :
    Ev (fun k => laws_heldIntS.f k (marks n (c : Int)) (c : Int)) ((c + n : Nat) : Int) := by
  unfold laws_heldIntS.f
  have h := heldIntS_loop n [] c (by simpa using h1) hc
  simpa using h

theorem rd_mid (pre : List Int) (x : Int) (t : List Int) : rd (pre ++ x :: t) (pre.length : Int) = x := by
  rw [rd_nat _ _ (by simp)]
  simp
theorem snoc_len (pre : List Int) (x : Int) : (pre.length : Int) + 1 = ((pre ++ [x]).length : Int) := by simp

/-! ### Counts -/
/-- What the reference says of counts: the rest t behind the sum s; b: is the number of them right? -/
def specFrom (b : Bool) : List Int → Int → Bool
  | [], s => b && (s == 64)
  | x :: t, s => inB x 0 64 && specFrom b t (s + x)
def implFrom (b : Bool) : List Int → Int → Bool
  | [], s => b && (s == 64)
  | x :: t, s => inB x 0 (64 - s) && implFrom b t (s + x)
theorem specFrom_past (b : Bool) : ∀ (t : List Int) (s : Int), 64 < s → specFrom b t s = false := by
  intro t
  induction t with
  | nil => intro s hs; simp [specFrom]; intro _; omega
  | cons x t ih =>
    intro s hs
    unfold specFrom
    by_cases h : inB x 0 64 = true
    · rw [ih (s + x) (by have := inB_iff.1 h; omega)]; simp
    · simp only [Bool.not_eq_true] at h; rw [h]; rfl
theorem implFrom_eq (b : Bool) : ∀ (t : List Int) (s : Int), 0 ≤ s → s ≤ 64 → implFrom b t s = specFrom b t s := by
  intro t
  induction t with
  | nil => intro s _ _; rfl
  | cons x t ih =>
    intro s h0 h1
    unfold implFrom specFrom
    by_cases h : 0 ≤ x ∧ x ≤ 64 - s
    · rw [inB_iff.2 h, inB_iff.2 ⟨h.1, by omega⟩, ih (s + x) (by omega) (by omega)]
    · rw [inB_no.2 h]
      by_cases h2 : 0 ≤ x ∧ x ≤ 64
      · rw [specFrom_past b t (s + x) (by omega)]; simp
      · rw [inB_no.2 h2]; rfl
/-- Are counts valid? -/
def goodC (l : List Int) : Bool := specFrom (inB (l.length : Int) 1 12) l 0
theorem specGood_loop (t : List Int) : ∀ (pre : List Int) (s : Int), (pre ++ t).length ≤ 35184372088832 → 0 ≤ s → s ≤ 64 * pre.length →
    Ev (fun k => spec_GoodCounts.l0 k (pre ++ t) s (pre ++ t) ((pre ++ t).length : Int) (pre.length : Int)) (specFrom (inB ((pre ++ t).length : Int) 1 12) t s) := by
  induction t with
  | nil =>
    intro pre s hl h0 h1
    refine Ev.step (fun k => spec_GoodCounts.l0.eq_2 _ _ _ _ _ _) (Ev.neg (by simp) (Ev.bindo (l1In_eq _ _ _) ?_))
    unfold specFrom
    by_cases h : inB ((pre ++ []).length : Int) 1 12 = true
    · exact Ev.pos h (Ev.eq (Ev.now _) (by rw [h]; rfl))
    · exact Ev.neg h (Ev.eq (Ev.now _) (by simp only [Bool.not_eq_true] at h; rw [h]; rfl))
  | cons x t ih =>
    intro pre s hl h0 h1
    have hl' : pre.length + (t.length + 1) ≤ 35184372088832 := by simpa using hl
    refine Ev.step (fun k => spec_GoodCounts.l0.eq_2 _ _ _ _ _ _) (Ev.pos (by simp; omega) (Ev.pos (by omega) (Ev.pos (by simp; omega) (Ev.bindo (l1In_eq _ _ _) ?_))))
    rw [rd_mid]
    unfold specFrom
    by_cases h : inB x 0 64 = true
    · have hx := inB_iff.1 h
      refine Ev.pos h ?_
      rw [h, wrap64_id (by omega) (by omega), wrap64_id (by omega) (by omega), snoc_len pre x]
      have := ih (pre ++ [x]) (s + x) (by simpa using hl) (by omega) (by simp; omega)
      simpa using this
    · exact Ev.neg h (Ev.eq (Ev.now _) (by simp only [Bool.not_eq_true] at h; rw [h]; rfl))
theorem specGood_ev (l : List Int) (hl : l.length ≤ 35184372088832) : Ev (fun k => spec_GoodCounts.f k l) (goodC l) := by
  unfold spec_GoodCounts.f goodC
  have := specGood_loop l [] 0 (by simpa using hl) (by omega) (by simp)
  simpa using this
theorem implGood_loop (t : List Int) : ∀ (pre : List Int) (s : Int), (pre ++ t).length ≤ 35184372088832 → 0 ≤ s → s ≤ 64 →
    Ev (fun k => impl_GoodCounts.l0 k (pre ++ t) s (pre ++ t) ((pre ++ t).length : Int) (pre.length : Int)) (implFrom (inB ((pre ++ t).length : Int) 1 12) t s) := by
  induction t with
  | nil =>
    intro pre s hl h0 h1
    refine Ev.step (fun k => impl_GoodCounts.l0.eq_2 _ _ _ _ _ _) (Ev.neg (by simp) (Ev.bindo (within_eq _ _ _) ?_))
    unfold implFrom
    by_cases h : inB ((pre ++ []).length : Int) 1 12 = true
    · exact Ev.pos h (Ev.eq (Ev.now _) (by rw [h]; rfl))
    · exact Ev.neg h (Ev.eq (Ev.now _) (by simp only [Bool.not_eq_true] at h; rw [h]; rfl))
  | cons x t ih =>
    intro pre s hl h0 h1
    have hl' : pre.length + (t.length + 1) ≤ 35184372088832 := by simpa using hl
    refine Ev.step (fun k => impl_GoodCounts.l0.eq_2 _ _ _ _ _ _) (Ev.pos (by simp; omega) (Ev.pos (by omega) (Ev.pos (by simp; omega) (Ev.bindo (within_eq _ _ _) ?_))))
    rw [rd_mid, wrap64_id (by omega) (by omega)]
    unfold implFrom
    by_cases h : inB x 0 (64 - s) = true
    · have hx := inB_iff.1 h
      refine Ev.pos h ?_
      rw [h, wrap64_id (by omega) (by omega), wrap64_id (by omega) (by omega), snoc_len pre x]
      have := ih (pre ++ [x]) (s + x) (by simpa using hl) (by omega) (by omega)
      simpa using this
    · exact Ev.neg h (Ev.eq (Ev.now _) (by simp only [Bool.not_eq_true] at h; rw [h]; rfl))
theorem implGood_ev (l : List Int) (hl : l.length ≤ 35184372088832) : Ev (fun k => impl_GoodCounts.f k l) (goodC l) := by
  unfold impl_GoodCounts.f goodC
  rw [← implFrom_eq _ l 0 (by omega) (by omega)]
  have := implGood_loop l [] 0 (by simpa using hl) (by omega) (by omega)
  simpa using this
/-- What valid counts are. -/
theorem specFrom_pos (b : Bool) : ∀ (t : List Int) (s : Int), specFrom b t s = true → b = true ∧ (∀ x ∈ t, 0 ≤ x ∧ x ≤ 64) ∧ s + t.sum = 64 := by
  intro t
  induction t with
  | nil =>
    intro s h
    simp only [specFrom, Bool.and_eq_true, beq_iff_eq] at h
    exact ⟨h.1, by simp, by simpa using h.2⟩
  | cons x t ih =>
    intro s h
    simp only [specFrom, Bool.and_eq_true] at h
    obtain ⟨hb, ha, hs⟩ := ih _ h.2
    have hx := inB_iff.1 h.1
    refine ⟨hb, ?_, by rw [List.sum_cons]; omega⟩
    intro y hy
    rcases List.mem_cons.1 hy with rfl | hy
    · exact hx
    · exact ha y hy
theorem goodC_pos {l : List Int} (h : goodC l = true) : 1 ≤ l.length ∧ l.length ≤ 12 ∧ (∀ x ∈ l, 0 ≤ x ∧ x ≤ 64) ∧ l.sum = 64 := by
  obtain ⟨hb, ha, hs⟩ := specFrom_pos _ l 0 h
  have := inB_iff.1 hb
  exact ⟨by omega, by omega, ha, by omega⟩

/-! ### Starts -/
theorem sum_bd : ∀ (l : List Int), (∀ x ∈ l, 0 ≤ x ∧ x ≤ 64) → 0 ≤ l.sum ∧ l.sum ≤ 64 * l.length := by
  intro l
  induction l with
  | nil => intro _; simp
  | cons x t ih =>
    intro h
    have h1 := h x (by simp)
    have h2 := ih (fun y hy => h y (by simp [hy]))
    rw [List.sum_cons, List.length_cons]
    omega
/-- The sum of what stands ahead of each, from s on. -/
def starts : Int → List Int → List Int
  | _, [] => []
  | s, x :: t => s :: starts (s + x) t
theorem starts_length : ∀ (l : List Int) (s : Int), (starts s l).length = l.length := by
  intro l
  induction l with
  | nil => intro s; rfl
  | cons x t ih => intro s; simp [starts, ih]
theorem starts_append : ∀ (l m : List Int) (s : Int), starts s (l ++ m) = starts s l ++ starts (s + l.sum) m := by
  intro l
  induction l with
  | nil => intro m s; simp [starts]
  | cons x t ih => intro m s; simp [starts, ih, Int.add_assoc]
theorem rd_starts (pre : List Int) (x : Int) (t : List Int) : rd (starts 0 (pre ++ x :: t)) (pre.length : Int) = pre.sum := by
  rw [starts_append, ← starts_length pre 0]
  unfold starts
  rw [rd_mid]
  omega

theorem l14Starts_loop (t : List Int) : ∀ (pre : List Int), (∀ x ∈ pre ++ t, 0 ≤ x ∧ x ≤ 64) → (pre ++ t).length ≤ 12 →
    Ev (fun k => spec_l14Starts.l0 k (starts 0 pre) pre.sum (pre ++ t) ((pre ++ t).length : Int) (pre.length : Int)) (starts 0 (pre ++ t)) := by
  induction t with
  | nil =>
    intro pre ha hl
    refine Ev.step (fun k => spec_l14Starts.l0.eq_2 _ _ _ _ _ _) (Ev.neg (by simp) ?_)
    rw [List.append_nil]
    exact Ev.now _
  | cons x t ih =>
    intro pre ha hl
    have hp := sum_bd pre (fun y hy => ha y (by simp [hy]))
    have hx := ha x (by simp)
    have hl' : pre.length + (t.length + 1) ≤ 12 := by simpa using hl
    refine Ev.step (fun k => spec_l14Starts.l0.eq_2 _ _ _ _ _ _) (Ev.pos (by simp; omega) (Ev.pos (by omega) (Ev.pos (by simp; omega) (Ev.pos (by rw [starts_length]; omega) ?_))))
    rw [rd_mid, wrap64_id (by omega) (by omega), wrap64_id (by omega) (by omega), snoc_len pre x]
    have e1 : starts 0 pre ++ [pre.sum] = starts 0 (pre ++ [x]) := by rw [starts_append]; simp [starts]
    have e2 : pre.sum + x = (pre ++ [x]).sum := by simp
    rw [e1, e2]
    have := ih (pre ++ [x]) (by simpa using ha) (by simpa using hl)
    simpa using this
theorem l14Starts_ev (l : List Int) (ha : ∀ x ∈ l, 0 ≤ x ∧ x ≤ 64) (hl : l.length ≤ 12) : Ev (fun k => spec_l14Starts.f k l) (starts 0 l) := by
  unfold spec_l14Starts.f
  have := l14Starts_loop l [] (by simpa using ha) (by simpa using hl)
  simpa [starts] using this

theorem startOf_loop (t : List Int) : ∀ (pre : List Int) (s : Int), (∀ x ∈ pre ++ t, 0 ≤ x ∧ x ≤ 64) → (pre ++ t).length ≤ 12 → 0 ≤ s → s ≤ 64 * pre.length →
    Ev (fun k => impl_startOf.l0 k s (pre ++ t) ((pre ++ t).length : Int) (pre.length : Int)) (s + t.sum) := by
  induction t with
  | nil =>
    intro pre s ha hl h0 h1
    refine Ev.step (fun k => impl_startOf.l0.eq_2 _ _ _ _ _) (Ev.neg (by simp) (Ev.eq (Ev.now _) (by simp)))
  | cons x t ih =>
    intro pre s ha hl h0 h1
    have hx := ha x (by simp)
    have hl' : pre.length + (t.length + 1) ≤ 12 := by simpa using hl
    refine Ev.step (fun k => impl_startOf.l0.eq_2 _ _ _ _ _) (Ev.pos (by simp; omega) (Ev.pos (by omega) (Ev.pos (by simp; omega) ?_)))
    rw [rd_mid, wrap64_id (by omega) (by omega), wrap64_id (by omega) (by omega), snoc_len pre x]
    have := ih (pre ++ [x]) (s + x) (by simpa using ha) (by simpa using hl) (by omega) (by simp; omega)
    refine Ev.eq (by simpa using this) ?_
    rw [List.sum_cons]
    omega
theorem startOf_ev (l : List Int) (i : Nat) (ha : ∀ x ∈ l, 0 ≤ x ∧ x ≤ 64) (hl : l.length ≤ 12) (hi : i ≤ l.length) : Ev (fun k => impl_startOf.f k l (i : Int)) (l.take i).sum := by
  unfold impl_startOf.f
  refine Ev.pos (by omega) (Ev.pos (by omega) ?_)
  rw [Int.toNat_natCast]
  have := startOf_loop (l.take i) [] 0 (by intro x hx; exact ha x (List.mem_of_mem_take (by simpa using hx))) (by simp; omega) (by omega) (by simp)
  simpa using this

/-! ### Encoding a symbol -/
theorem state_eq (a : Int) : spec_l14State.f a = some (inB a 4096 65535) := by unfold spec_l14State.f; rw [l1In_eq]; rfl
/-- The state goes out by words while it is too great; n: how often at most. -/
def spill (f : Int) : Nat → Int → List Int → Int × List Int
  | 0, s, w => (s, w)
  | n + 1, s, w => if 1024 * f ≤ s then spill f n (s / 16) (w ++ [s % 16]) else (s, w)
def joinS (l : List Int) (y : Int) (f : Int) (p : Int × List Int) : Int × List Int := (p.1 / f * 64 + p.1 % f + (l.take y.toNat).sum, p.2)
/-- What encoding a symbol y of the counts l gives from state s. -/
def putP (l : List Int) (s y : Int) : Int × List Int := joinS l y (rd l y) (spill (rd l y) 2 s [])
theorem rd_starts_take (l : List Int) (y : Int) (h0 : 0 ≤ y) (h1 : y < (l.length : Int)) : rd (starts 0 l) y = (l.take y.toNat).sum := by
  have hy : y.toNat < l.length := by omega
  have e : l = l.take y.toNat ++ l[y.toNat] :: l.drop (y.toNat + 1) := by rw [← List.drop_eq_getElem_cons hy, List.take_append_drop]
  have hl : (l.take y.toNat).length = y.toNat := by rw [List.length_take]; omega
  have := rd_starts (l.take y.toNat) l[y.toNat] (l.drop (y.toNat + 1))
  rw [← e, hl, show ((y.toNat : Nat) : Int) = y by omega] at this
  exact this
theorem take_bd (l : List Int) (n : Nat) (ha : ∀ x ∈ l, 0 ≤ x ∧ x ≤ 64) (hl : l.length ≤ 12) : 0 ≤ (l.take n).sum ∧ (l.take n).sum ≤ 768 := by
  have := sum_bd (l.take n) (fun x hx => ha x (List.mem_of_mem_take hx))
  have h2 : (l.take n).length ≤ l.length := by rw [List.length_take]; omega
  omega
theorem spill_state (f s : Int) (hf : 1 ≤ f ∧ f ≤ 64) (h0 : 0 ≤ s) (h1 : s < 1024 * f) : 0 ≤ s / f ∧ s / f < 1024 ∧ 0 ≤ s % f ∧ s % f < f := by
  refine ⟨Int.ediv_nonneg h0 (by omega), ?_, Int.emod_nonneg _ (by omega), Int.emod_lt_of_pos _ (by omega)⟩
  rw [Int.ediv_lt_iff_lt_mul (by omega)]
  exact h1
theorem specPut_loop (l : List Int) (y f : Int) (ha : ∀ x ∈ l, 0 ≤ x ∧ x ≤ 64) (hl : l.length ≤ 12) (hy0 : 0 ≤ y) (hy1 : y < (l.length : Int)) (hf : 1 ≤ f ∧ f ≤ 64) : ∀ (n : Nat) (s : Int) (w : List Int), 0 ≤ s → s < 1024 * 16 ^ n → n ≤ 2 → w.length + n ≤ 2 →
    Ev (fun k => spec_PutSymbol.l0 k l s y f w) ((joinS l y f (spill f n s w)).1, (joinS l y f (spill f n s w)).2, true) := by
  intro n
  induction n with
  | zero =>
    intro s w h0 h1 hn hw
    have hlt : s < 1024 * f := by simp at h1; omega
    obtain ⟨b0, b1, b2, b3⟩ := spill_state f s hf h0 hlt
    have hs := take_bd l y.toNat ha hl
    refine Ev.step (fun k => spec_PutSymbol.l0.eq_2 _ _ _ _ _ _) (Ev.neg (by rw [wrap64_id (by omega) (by omega)]; omega) (Ev.neg (by omega) (Ev.bind (l14Starts_ev l ha hl) (Ev.pos hy0 (Ev.pos (by rw [starts_length]; exact hy1) ?_)))))
    rw [rd_starts_take l y hy0 hy1, Int.tdiv_eq_ediv_of_nonneg h0, Int.tmod_eq_emod_of_nonneg h0, wrap64_id (x := s / f) (by omega) (by omega), wrap64_id (x := s / f * 64) (by omega) (by omega), wrap64_id (x := s / f * 64 + s % f) (by omega) (by omega), wrap64_id (by omega) (by omega)]
    exact Ev.now _
  | succ n ih =>
    intro s w h0 h1 hn hw
    have hs := take_bd l y.toNat ha hl
    have hp : (16 : Int) ^ (n + 1) = 16 ^ n * 16 := by rw [Int.pow_succ]
    have hp2 : (16 : Int) ^ n ≤ 256 := by
      have : n = 0 ∨ n = 1 := by omega
      rcases this with rfl | rfl <;> decide
    rw [hp] at h1
    unfold spill
    by_cases hc : 1024 * f ≤ s
    · rw [if_pos hc]
      refine Ev.step (fun k => spec_PutSymbol.l0.eq_2 _ _ _ _ _ _) (Ev.pos (by rw [wrap64_id (by omega) (by omega)]; omega) (Ev.pos (by omega) ?_))
      rw [Int.tdiv_eq_ediv_of_nonneg h0, Int.tmod_eq_emod_of_nonneg h0, wrap64_id (x := s / 16) (by omega) (by omega)]
      exact ih (s / 16) (w ++ [s % 16]) (by omega) (by omega) (by omega) (by simp; omega)
    · rw [if_neg hc]
      obtain ⟨b0, b1, b2, b3⟩ := spill_state f s hf h0 (by omega)
      refine Ev.step (fun k => spec_PutSymbol.l0.eq_2 _ _ _ _ _ _) (Ev.neg (by rw [wrap64_id (by omega) (by omega)]; omega) (Ev.neg (by omega) (Ev.bind (l14Starts_ev l ha hl) (Ev.pos hy0 (Ev.pos (by rw [starts_length]; exact hy1) ?_)))))
      rw [rd_starts_take l y hy0 hy1, Int.tdiv_eq_ediv_of_nonneg h0, Int.tmod_eq_emod_of_nonneg h0, wrap64_id (x := s / f) (by omega) (by omega), wrap64_id (x := s / f * 64) (by omega) (by omega), wrap64_id (x := s / f * 64 + s % f) (by omega) (by omega), wrap64_id (by omega) (by omega)]
      exact Ev.now _
theorem implPut_loop (l : List Int) (y f : Int) (ha : ∀ x ∈ l, 0 ≤ x ∧ x ≤ 64) (hl : l.length ≤ 12) (hy0 : 0 ≤ y) (hy1 : y < (l.length : Int)) (hf : 1 ≤ f ∧ f ≤ 64) : ∀ (n : Nat) (s : Int) (w : List Int), 0 ≤ s → s < 1024 * 16 ^ n → n ≤ 2 → w.length + n ≤ 2 →
    Ev (fun k => impl_put.l0 k l s y f w) (joinS l y f (spill f n s w)) := by
  have hst := startOf_ev l y.toNat ha hl (by omega)
  rw [show ((y.toNat : Nat) : Int) = y by omega] at hst
  intro n
  induction n with
  | zero =>
    intro s w h0 h1 hn hw
    have hlt : s < 1024 * f := by simp at h1; omega
    obtain ⟨b0, b1, b2, b3⟩ := spill_state f s hf h0 hlt
    have hs := take_bd l y.toNat ha hl
    refine Ev.step (fun k => impl_put.l0.eq_2 _ _ _ _ _ _) (Ev.neg (by rw [wrap64_id (by omega) (by omega)]; omega) (Ev.neg (by omega) (Ev.bind hst ?_)))
    rw [Int.tdiv_eq_ediv_of_nonneg h0, Int.tmod_eq_emod_of_nonneg h0, wrap64_id (x := s / f) (by omega) (by omega), wrap64_id (x := s / f * 64) (by omega) (by omega), wrap64_id (x := s / f * 64 + s % f) (by omega) (by omega), wrap64_id (by omega) (by omega)]
    exact Ev.now _
  | succ n ih =>
    intro s w h0 h1 hn hw
    have hs := take_bd l y.toNat ha hl
    have hp : (16 : Int) ^ (n + 1) = 16 ^ n * 16 := by rw [Int.pow_succ]
    have hp2 : (16 : Int) ^ n ≤ 256 := by
      have : n = 0 ∨ n = 1 := by omega
      rcases this with rfl | rfl <;> decide
    rw [hp] at h1
    unfold spill
    by_cases hc : 1024 * f ≤ s
    · rw [if_pos hc]
      refine Ev.step (fun k => impl_put.l0.eq_2 _ _ _ _ _ _) (Ev.pos (by rw [wrap64_id (by omega) (by omega)]; omega) (Ev.pos (by omega) ?_))
      rw [Int.tdiv_eq_ediv_of_nonneg h0, Int.tmod_eq_emod_of_nonneg h0, wrap64_id (x := s / 16) (by omega) (by omega)]
      exact ih (s / 16) (w ++ [s % 16]) (by omega) (by omega) (by omega) (by simp; omega)
    · rw [if_neg hc]
      obtain ⟨b0, b1, b2, b3⟩ := spill_state f s hf h0 (by omega)
      refine Ev.step (fun k => impl_put.l0.eq_2 _ _ _ _ _ _) (Ev.neg (by rw [wrap64_id (by omega) (by omega)]; omega) (Ev.neg (by omega) (Ev.bind hst ?_)))
      rw [Int.tdiv_eq_ediv_of_nonneg h0, Int.tmod_eq_emod_of_nonneg h0, wrap64_id (x := s / f) (by omega) (by omega), wrap64_id (x := s / f * 64) (by omega) (by omega), wrap64_id (x := s / f * 64 + s % f) (by omega) (by omega), wrap64_id (by omega) (by omega)]
      exact Ev.now _
theorem rd_good {l : List Int} (hg : goodC l = true) (y : Int) (h0 : 0 ≤ y) (h1 : y < (l.length : Int)) : 0 ≤ rd l y ∧ rd l y ≤ 64 := by
  obtain ⟨_, _, ha, _⟩ := goodC_pos hg
  have hm : rd l y ∈ l := by
    unfold rd
    rw [List.getD_eq_getElem?_getD, List.getElem?_eq_getElem (by omega)]
    exact List.getElem_mem _
  exact ha _ hm
/-- Is y a symbol with a positive count? -/
def hasB (l : List Int) (y : Int) : Bool := goodC l && inB y 0 ((l.length : Int) - 1) && decide (0 < rd l y)
theorem hasB_iff {l : List Int} {y : Int} : hasB l y = true ↔ goodC l = true ∧ 0 ≤ y ∧ y < (l.length : Int) ∧ 0 < rd l y := by
  unfold hasB
  simp only [Bool.and_eq_true, decide_eq_true_eq, inB_iff]
  constructor
  · rintro ⟨⟨h1, h2, h3⟩, h4⟩; exact ⟨h1, h2, by omega, h4⟩
  · rintro ⟨h1, h2, h3, h4⟩; exact ⟨⟨h1, h2, by omega⟩, h4⟩
theorem has_ev (l : List Int) (y : Int) (hl : l.length ≤ 35184372088832) : Ev (fun k => impl_has.f k l y) (hasB l y) := by
  unfold impl_has.f hasB
  by_cases hg : goodC l = true
  · refine Ev.bind (implGood_ev l hl) (Ev.pos hg (Ev.bindo (within_eq _ _ _) ?_))
    rw [wrap64_id (by omega) (by omega), hg]
    by_cases hy : inB y 0 ((l.length : Int) - 1) = true
    · have := inB_iff.1 hy
      rw [hy]
      refine Ev.pos rfl (Ev.pos this.1 (Ev.pos (by omega) ?_))
      simpa using Ev.now _
    · refine Ev.neg hy ?_
      simp only [Bool.not_eq_true] at hy
      rw [hy]
      simpa using Ev.now _
  · simp only [Bool.not_eq_true] at hg
    rw [hg]
    exact Ev.bind (implGood_ev l hl) (Ev.neg (by rw [hg]; simp) (Ev.now _))
theorem put_ev (l : List Int) (s y : Int) (hh : hasB l y = true) (hs : 0 ≤ s ∧ s ≤ 65535) : Ev (fun k => impl_put.f k l s y) (putP l s y) := by
  obtain ⟨hg, h0, h1, hr⟩ := hasB_iff.1 hh
  obtain ⟨_, h12, ha, _⟩ := goodC_pos hg
  have hr2 := rd_good hg y h0 h1
  unfold impl_put.f
  exact Ev.pos h0 (Ev.pos h1 (implPut_loop l y (rd l y) ha h12 h0 h1 (by omega) 2 s [] hs.1 (by simp; omega) (by omega) (by simp)))
theorem spill_len (f : Int) : ∀ (n : Nat) (s : Int) (w : List Int), (spill f n s w).2.length ≤ w.length + n := by
  intro n
  induction n with
  | zero => intro s w; simp [spill]
  | succ n ih =>
    intro s w
    unfold spill
    split
    · have := ih (s / 16) (w ++ [s % 16])
      simp only [List.length_append, List.length_cons, List.length_nil] at this
      omega
    · simp
theorem putP_len (l : List Int) (s y : Int) : (putP l s y).2.length ≤ 2 := by
  have := spill_len (rd l y) 2 s []
  simpa [putP, joinS] using this
/-- What PutSymbol gives. -/
def putR (l : List Int) (s y : Int) : Int × List Int × Bool := if hasB l y && inB s 4096 65535 then ((putP l s y).1, (putP l s y).2, true) else (0, [], false)
theorem putR_len (l : List Int) (s y : Int) : (putR l s y).2.1.length ≤ 2 := by
  unfold putR
  split
  · exact putP_len l s y
  · simp
theorem specPutSymbol_ev (l : List Int) (s y : Int) (hl : l.length ≤ 35184372088832) : Ev (fun k => spec_PutSymbol.f k l s y) (putR l s y) := by
  unfold spec_PutSymbol.f putR
  have no : ∀ b, b = false → Ev (fun k => spec_PutSymbol.j0 k l s y true) (if b = true then ((putP l s y).1, (putP l s y).2, true) else (0, [], false)) := by
    intro b hb
    rw [hb]
    exact Ev.step (fun k => spec_PutSymbol.j0.eq_2 _ _ _ _ _) (Ev.pos rfl (Ev.now _))
  by_cases hg : goodC l = true
  case neg =>
    refine Ev.bind (specGood_ev l hl) (Ev.neg hg (no _ ?_))
    unfold hasB
    simp only [Bool.not_eq_true] at hg
    rw [hg]; simp
  refine Ev.bind (specGood_ev l hl) (Ev.pos hg ?_)
  by_cases hs : inB s 4096 65535 = true
  case neg =>
    refine Ev.bindo (state_eq s) (Ev.neg hs (no _ ?_))
    simp only [Bool.not_eq_true] at hs
    rw [hs]; simp
  refine Ev.bindo (state_eq s) (Ev.pos hs ?_)
  rw [wrap64_id (by omega) (by omega)]
  by_cases hy : inB y 0 ((l.length : Int) - 1) = true
  case neg =>
    refine Ev.bindo (l1In_eq _ _ _) (Ev.neg hy (no _ ?_))
    unfold hasB
    simp only [Bool.not_eq_true] at hy
    rw [hy]; simp
  have hy' := inB_iff.1 hy
  have hs' := inB_iff.1 hs
  refine Ev.bindo (l1In_eq _ _ _) (Ev.pos hy (Ev.pos hy'.1 (Ev.pos (by omega) ?_)))
  obtain ⟨_, h12, ha, _⟩ := goodC_pos hg
  have hr2 := rd_good hg y hy'.1 (by omega)
  by_cases hr : rd l y = 0
  · rw [hr]
    refine no _ ?_
    unfold hasB
    rw [hr]; simp
  · have hh : hasB l y = true := hasB_iff.2 ⟨hg, hy'.1, by omega, by omega⟩
    rw [hh, hs]
    refine Ev.step (fun k => spec_PutSymbol.j0.eq_2 _ _ _ _ _) (Ev.neg (by simpa using hr) (Ev.pos hy'.1 (Ev.pos (by omega) ?_)))
    exact specPut_loop l y (rd l y) ha h12 hy'.1 (by omega) (by omega) 2 s [] (by omega) (by simp; omega) (by omega) (by simp)

/-! ### Is there one for which it holds -/
theorem anyO_ev {α : Type} {f : Nat → α → Option Bool} {b : α → Bool} : ∀ (l : List α), (∀ x ∈ l, Ev (fun k => f k x) (b x)) → Ev (fun k => anyO (f k) l) (l.any b) := by
  intro l
  induction l with
  | nil => intro _; exact Ev.now _
  | cons x t ih =>
    intro h
    have ht := ih (fun y hy => h y (by simp [hy]))
    rw [List.any_cons]
    refine Ev.bind (f := fun k (b : Bool) => if b = true then some true else anyO (f k) t) (h x (by simp)) ?_
    cases hb : b x
    · exact Ev.neg (by simp) (by simpa using ht)
    · exact Ev.pos rfl (Ev.now _)

/-! ### Encoding symbols -/
/-- The state stays a state. -/
theorem spill_lo (f : Int) (hf : 1 ≤ f ∧ f ≤ 64) : ∀ (n : Nat) (s : Int) (w : List Int), 64 * f ≤ s → s < 1024 * 16 ^ n → 64 * f ≤ (spill f n s w).1 ∧ (spill f n s w).1 < 1024 * f := by
  intro n
  induction n with
  | zero => intro s w h0 h1; simp only [spill]; omega
  | succ n ih =>
    intro s w h0 h1
    rw [Int.pow_succ] at h1
    unfold spill
    split
    · exact ih (s / 16) (w ++ [s % 16]) (by omega) (by omega)
    · exact ⟨h0, by simpa using (by omega : s < 1024 * f)⟩
theorem pre_sum (l : List Int) (y : Int) (ha : ∀ x ∈ l, 0 ≤ x ∧ x ≤ 64) (h0 : 0 ≤ y) (h1 : y < (l.length : Int)) : (l.take y.toNat).sum + rd l y ≤ l.sum := by
  have hy : y.toNat < l.length := by omega
  have e : l = l.take y.toNat ++ l[y.toNat] :: l.drop (y.toNat + 1) := by rw [← List.drop_eq_getElem_cons hy, List.take_append_drop]
  have hr : rd l y = l[y.toNat] := by
    have := rd_nat l y.toNat hy
    rwa [show ((y.toNat : Nat) : Int) = y by omega] at this
  have hs : l.sum = (l.take y.toNat).sum + (l[y.toNat] + (l.drop (y.toNat + 1)).sum) := by
    conv => lhs; rw [e]
    rw [List.sum_append, List.sum_cons]
  have := sum_bd (l.drop (y.toNat + 1)) (fun x hx => ha x (List.mem_of_mem_drop hx))
  omega
theorem putP_state (l : List Int) (s y : Int) (hh : hasB l y = true) (hs : 4096 ≤ s ∧ s ≤ 65535) : 4096 ≤ (putP l s y).1 ∧ (putP l s y).1 ≤ 65535 := by
  obtain ⟨hg, h0, h1, hr⟩ := hasB_iff.1 hh
  obtain ⟨_, h12, ha, hsum⟩ := goodC_pos hg
  have hr2 := rd_good hg y h0 h1
  have hp := pre_sum l y ha h0 h1
  have ht := take_bd l y.toNat ha h12
  obtain ⟨a, b⟩ := spill_lo (rd l y) (by omega) 2 s [] (by omega) (by simp; omega)
  simp only [putP, joinS]
  revert a b
  generalize (spill (rd l y) 2 s []).1 = v
  intro a b
  have d0 : 64 ≤ v / rd l y := (Int.le_ediv_iff_mul_le (by omega)).2 (by omega)
  have d1 : v / rd l y < 1024 := (Int.ediv_lt_iff_lt_mul (by omega)).2 (by omega)
  have m0 := Int.emod_nonneg v (show rd l y ≠ 0 by omega)
  have m1 := Int.emod_lt_of_pos v hr
  omega
/-- What encoding symbols gives: the last comes first. -/
def codeP (l : List Int) : List Int → Int × List Int
  | [] => (4096, [])
  | y :: t => ((putP l (codeP l t).1 y).1, (codeP l t).2 ++ (putP l (codeP l t).1 y).2)
theorem codeP_ok (l : List Int) : ∀ t, t.all (hasB l) = true → 4096 ≤ (codeP l t).1 ∧ (codeP l t).1 ≤ 65535 ∧ (codeP l t).2.length ≤ 2 * t.length := by
  intro t
  induction t with
  | nil => intro _; simp [codeP]
  | cons y t ih =>
    intro h
    simp only [List.all_cons, Bool.and_eq_true] at h
    obtain ⟨a, b, c⟩ := ih h.2
    have p := putP_state l (codeP l t).1 y h.1 ⟨a, b⟩
    have q := putP_len l (codeP l t).1 y
    simp only [codeP, List.length_append, List.length_cons]
    omega
/-- What CodeSymbols gives. -/
def codeR (l s : List Int) : Int × List Int × Bool := if goodC l && decide (s.length ≤ 80) && s.all (hasB l) then ((codeP l s).1, (codeP l s).2, true) else (0, [], false)
theorem putR_yes {l : List Int} {s y : Int} (h : hasB l y = true) (hs : 4096 ≤ s ∧ s ≤ 65535) : putR l s y = ((putP l s y).1, (putP l s y).2, true) := by
  unfold putR
  rw [h, inB_iff.2 hs]; rfl
theorem putR_no {l : List Int} {s y : Int} (h : hasB l y = false) : putR l s y = (0, [], false) := by
  unfold putR
  rw [h]; rfl
theorem getD_mid (pre t : List Int) (x : Int) : rd (pre ++ x :: t) ((pre.length : Nat) : Int) = x := by simp [rd]
theorem specCode_loop (l : List Int) (hl : l.length ≤ 35184372088832) : ∀ (r t : List Int), t.all (hasB l) = true → r.length + t.length ≤ 80 →
    Ev (fun k => spec_CodeSymbols.l0 k l (r.reverse ++ t) ((r.length : Int) - 1) (codeP l t).1 (codeP l t).2) (if r.all (hasB l) then ((codeP l (r.reverse ++ t)).1, (codeP l (r.reverse ++ t)).2, true) else (0, [], false)) := by
  intro r
  induction r with
  | nil =>
    intro t ht hn
    exact Ev.step (fun k => spec_CodeSymbols.l0.eq_2 _ _ _ _ _ _) (Ev.neg (by simp) (by simpa using Ev.now _))
  | cons y r ih =>
    intro t ht hn
    simp only [List.length_cons] at hn
    obtain ⟨a, b, c⟩ := codeP_ok l t ht
    have hm := getD_mid r.reverse t y
    rw [List.length_reverse] at hm
    have e : (y :: r).reverse ++ t = r.reverse ++ y :: t := by simp
    have e1 : ((y :: r).length : Int) - 1 = (r.length : Int) := by simp
    rw [e, e1]
    have hp := specPutSymbol_ev l (codeP l t).1 y hl
    refine Ev.step (fun k => spec_CodeSymbols.l0.eq_2 _ _ _ _ _ _) (Ev.pos (by omega) (Ev.pos (by omega) (Ev.pos (by simp; omega) ?_)))
    rw [hm]
    by_cases hh : hasB l y = true
    · rw [putR_yes hh ⟨a, b⟩] at hp
      have q := putP_len l (codeP l t).1 y
      refine Ev.bind hp (Ev.pos rfl (Ev.pos (by simp only; omega) ?_))
      rw [wrap64_id (by omega) (by omega)]
      have := ih (y :: t) (by simp [hh, ht]) (by simp; omega)
      simpa [codeP, hh] using this
    · simp only [Bool.not_eq_true] at hh
      rw [putR_no hh] at hp
      exact Ev.bind hp (Ev.neg (by simp) (by simpa [hh] using Ev.now _))
theorem implCode_loop (l : List Int) : ∀ (r t : List Int), t.all (hasB l) = true → r.all (hasB l) = true → r.length + t.length ≤ 80 →
    Ev (fun k => impl_CodeSymbols.l0 k (r.reverse ++ t) ((r.length : Int) - 1) l (codeP l t).1 (codeP l t).2) ((codeP l (r.reverse ++ t)).1, (codeP l (r.reverse ++ t)).2, true) := by
  intro r
  induction r with
  | nil =>
    intro t ht _ hn
    exact Ev.step (fun k => impl_CodeSymbols.l0.eq_2 _ _ _ _ _ _) (Ev.neg (by simp) (by simpa using Ev.now _))
  | cons y r ih =>
    intro t ht hr hn
    simp only [List.all_cons, Bool.and_eq_true] at hr
    simp only [List.length_cons] at hn
    obtain ⟨a, b, c⟩ := codeP_ok l t ht
    have hm := getD_mid r.reverse t y
    rw [List.length_reverse] at hm
    have e : (y :: r).reverse ++ t = r.reverse ++ y :: t := by simp
    have e1 : ((y :: r).length : Int) - 1 = (r.length : Int) := by simp
    rw [e, e1]
    have q := putP_len l (codeP l t).1 y
    refine Ev.step (fun k => impl_CodeSymbols.l0.eq_2 _ _ _ _ _ _) (Ev.pos (by omega) (Ev.pos (by omega) (Ev.pos (by simp; omega) ?_)))
    rw [hm]
    refine Ev.bind (put_ev l (codeP l t).1 y hr.1 (by omega)) (Ev.pos (by omega) ?_)
    rw [wrap64_id (by omega) (by omega)]
    have := ih (y :: t) (by simp [hr.1, ht]) hr.2 (by simp; omega)
    simpa [codeP] using this
theorem specCodeSymbols_ev (l s : List Int) (hl : l.length ≤ 35184372088832) (hs : s.length ≤ 35184372088832) : Ev (fun k => spec_CodeSymbols.f k l s) (codeR l s) := by
  unfold spec_CodeSymbols.f codeR
  by_cases hg : goodC l = true
  case neg =>
    refine Ev.bind (specGood_ev l hl) (Ev.neg hg (Ev.step (fun k => spec_CodeSymbols.j0.eq_2 _ _ _ _) (Ev.pos rfl ?_)))
    simp only [Bool.not_eq_true] at hg
    rw [hg]
    exact Ev.now _
  refine Ev.bind (specGood_ev l hl) (Ev.pos hg ?_)
  by_cases hn : s.length ≤ 80
  · refine Ev.step (fun k => spec_CodeSymbols.j0.eq_2 _ _ _ _) (Ev.neg (by simp; omega) ?_)
    rw [wrap64_id (by omega) (by omega)]
    have := specCode_loop l hl s.reverse [] (by simp) (by simpa using hn)
    simpa [codeP, hg, hn] using this
  · refine Ev.step (fun k => spec_CodeSymbols.j0.eq_2 _ _ _ _) (Ev.pos (by simp; omega) ?_)
    rw [hg, decide_eq_false hn]
    exact Ev.now _
theorem any_not (p : Int → Bool) (s : List Int) : s.any (fun x => !p x) = !s.all p := by
  induction s with
  | nil => rfl
  | cons x t ih => simp [ih]
theorem implCodeSymbols_ev (l s : List Int) (hl : l.length ≤ 35184372088832) (hs : s.length ≤ 35184372088832) : Ev (fun k => impl_CodeSymbols.f k l s) (codeR l s) := by
  unfold impl_CodeSymbols.f codeR
  by_cases hg : goodC l = true
  case neg =>
    refine Ev.bind (implGood_ev l hl) (Ev.neg hg (Ev.step (fun k => impl_CodeSymbols.j0.eq_2 _ _ _ _) (Ev.pos rfl ?_)))
    simp only [Bool.not_eq_true] at hg
    rw [hg]
    exact Ev.now _
  refine Ev.bind (implGood_ev l hl) (Ev.pos hg ?_)
  by_cases hn : s.length ≤ 80
  · have ha : Ev (fun k => cf_impl_CodeSymbols_1.f k s l) (!s.all (hasB l)) := by
      rw [← any_not]
      unfold cf_impl_CodeSymbols_1.f
      exact anyO_ev s (fun x _ => Ev.bind (has_ev l x hl) (Ev.now _))
    refine Ev.neg (by omega) (Ev.bind ha ?_)
    by_cases hh : s.all (hasB l) = true
    · refine Ev.step (fun k => impl_CodeSymbols.j0.eq_2 _ _ _ _) (Ev.neg (by simp [hh]) ?_)
      rw [wrap64_id (by omega) (by omega)]
      have := implCode_loop l s.reverse [] (by simp) (by simpa using hh) (by simpa using hn)
      simpa [codeP, hg, hn, hh] using this
    · refine Ev.step (fun k => impl_CodeSymbols.j0.eq_2 _ _ _ _) (Ev.pos (by simp [hh]) ?_)
      simp only [Bool.not_eq_true] at hh
      rw [hg, hh]
      simpa using Ev.now _
  · refine Ev.pos (by omega) (Ev.step (fun k => impl_CodeSymbols.j0.eq_2 _ _ _ _) (Ev.pos rfl ?_))
    rw [hg, decide_eq_false hn]
    exact Ev.now _
theorem codeR_len (l s : List Int) : (codeR l s).2.1.length ≤ 160 := by
  unfold codeR
  split
  · rename_i h
    simp only [Bool.and_eq_true, decide_eq_true_eq] at h
    have := (codeP_ok l s h.2).2.2
    simp only
    omega
  · simp

/-! ### A coded value: compared, marked -/
theorem eqCoded_self (s : Int) (w : List Int) (h : w.length ≤ 35184372088832) : Ev (fun k => laws_eqCoded.f k s w s w) true := by
  unfold laws_eqCoded.f
  exact Ev.pos rfl (Ev.bind (eqIntS_self w h) (Ev.pos rfl (Ev.now _)))
theorem markCoded_ev (s : Int) (w : List Int) (c : Nat) (hc : c + w.length ≤ 70368744177664) (h : w.length ≤ 35184372088832) : Ev (fun k => laws_markCoded.f k s w (c : Int)) (((c + w.length : Nat) : Int), marks w.length (c : Int)) := by
  unfold laws_markCoded.f
  exact Ev.bind (markIntS_ev w c hc h) (Ev.now _)
theorem heldCoded_ev (s : Int) (n c : Nat) (h1 : n ≤ 35184372088832) (hc : c + n ≤ 70368744177664) : Ev (fun k => laws_heldCoded.f k s (marks n (c : Int)) (c : Int)) ((c + n : Nat) : Int) := by
  unfold laws_heldCoded.f
  exact Ev.bind (heldIntS_ev n c h1 hc) (Ev.neg (by omega) (Ev.now _))

end QFnExactCodeSymbols
open QFnExactCodeSymbols
theorem FnExactCodeSymbols : laws_FnExactCodeSymbols.Pure := by
  intro l s hm hl hw hm2 hl2 hw2
  refine Ev.rounds ?_
  unfold laws_FnExactCodeSymbols.f
  by_cases hb : (l.length : Int) > 1048576
  · exact Ev.pos hb (Ev.now _)
  by_cases hb2 : (s.length : Int) > 1048576
  · exact Ev.neg hb (Ev.pos hb2 (Ev.now _))
  have hs : l.length ≤ 35184372088832 := by omega
  have hs2 : s.length ≤ 35184372088832 := by omega
  have h1 := specCodeSymbols_ev l s hs hs2
  have h2 := implCodeSymbols_ev l s hs hs2
  have hx := codeR_len l s
  obtain ⟨⟨v, xs, b⟩, hr⟩ : ∃ r, r = codeR l s := ⟨_, rfl⟩
  rw [← hr] at h1 h2 hx
  have hx' : xs.length ≤ 35184372088832 := by simp only at hx; omega
  have tl := toIntS_ev l hs
  have ts := toIntS_ev s hs2
  have ec := eqCoded_self v xs hx'
  refine Ev.neg hb (Ev.neg hb2 (Ev.bind tl (Ev.bind ts (Ev.bind h1 (Ev.bind tl (Ev.bind ts (Ev.bind h2 (Ev.bind ec (Ev.pos rfl ?_)))))))))
  have m1 := markIntS_ev l 1 (by omega) hs
  have m2 := markIntS_ev s (1 + l.length) (by omega) hs2
  have m3 := markCoded_ev v xs 1 (by omega) hx'
  have k1 := heldCoded_ev v xs.length 1 hx' (by omega)
  have n1 : ¬ ((1 + l.length + s.length : Nat) : Int) < 0 := by omega
  have n2 : ¬ ((1 + xs.length : Nat) : Int) < 0 := by omega
  refine Ev.step (fun k => laws_FnExactCodeSymbols.j0.eq_2 _ _ _ _ _ _ _ _ _ _ _ _) (Ev.neg (by simp) (Ev.bind tl (Ev.bind (eqIntS_self l hs) (Ev.pos rfl (Ev.bind ts (Ev.bind (eqIntS_self s hs2) (Ev.pos rfl (Ev.bind m1 (Ev.bind m2 (Ev.neg n1 (Ev.bind ec (Ev.pos rfl ?_))))))))))))
  refine Ev.step (fun k => laws_FnExactCodeSymbols.j1.eq_2 _ _ _ _ _ _ _ _ _) (Ev.neg (by simp) (Ev.bind m3 (Ev.bind k1 (Ev.neg n2 (Ev.pos rfl (Ev.bind tl (Ev.bind ts (Ev.bind h2 (Ev.bind ec (Ev.pos rfl ?_))))))))))
  exact Ev.step (fun k => laws_FnExactCodeSymbols.j2.eq_2 _ _ _ _ _) (Ev.neg (by simp) (Ev.bind k1 (Ev.neg n2 (Ev.pos rfl (Ev.now _)))))

end Go.Proofs.Ytppgkkejddjacaa.Pure
