/- The law FnExactDecodeSymbols holds: for every argument within the row's bounds the printed function answers true. No further condition. -/
import Derived.Test.YtppgkkejddjacaaPFnExactDecodeSymbolsx7
set_option linter.unusedVariables false
namespace Go.Proofs.Ytppgkkejddjacaa.Pure
open Go.RowKit Go.Proofs.Ytppgkkejddjacaa.PFnExactDecodeSymbols Go.Proofs.YtppgkkejddjacaaW.PrintWords Go.Proofs.YtppgkkejddjacaaW.PrintLast
namespace QFnExactDecodeSymbols
/-! ### Rounds -/
theorem Ev.pos {α : Type} {c : Prop} [Decidable c] {g f : Nat → Option α} {r : α} (hc : c) (h : Ev g r) : Ev (fun k => if c then g k else f k) r :=
  Ev.congr (fun _ => if_pos hc) h
theorem Ev.neg {α : Type} {c : Prop} [Decidable c] {g f : Nat → Option α} {r : α} (hc : ¬ c) (h : Ev f r) : Ev (fun k => if c then g k else f k) r :=
  Ev.congr (fun _ => if_neg hc) h
theorem Ev.bindo {α β : Type} {o : Option α} {f : Nat → α → Option β} {a : α} {r : β} (h : o = some a) (k : Ev (fun n => f n a) r) : Ev (fun n => o.bind (f n)) r :=
  Ev.congr (fun n => by rw [h]; rfl) k
theorem Ev.eq {α : Type} {g : Nat → Option α} {r s : α} (h : Ev g r) (e : r = s) : Ev g s := e ▸ h
theorem wrap64_id {x : Int} (h1 : -9223372036854775808 ≤ x) (h2 : x ≤ 9223372036854775807) : wrap64 x = x := by
  unfold wrap64
  omega
theorem wrap64_lo (x : Int) : -9223372036854775808 ≤ wrap64 x ∧ wrap64 x ≤ 9223372036854775807 := by
  unfold wrap64
  omega
theorem wf_i64 {x : Int} (h : (Lit.int .i64 x).wf = true) : -9223372036854775808 ≤ x ∧ x ≤ 9223372036854775807 := by
  simp [Lit.wf, IntKind.min, IntKind.max, IntKind.signed, IntKind.bits] at h
  omega
/-- Is a number in a range? -/
def inB (a b c : Int) : Bool := decide (b ≤ a) && decide (a ≤ c)
theorem inB_iff {a b c : Int} : inB a b c = true ↔ b ≤ a ∧ a ≤ c := by simp [inB]
theorem inB_no {a b c : Int} : inB a b c = false ↔ ¬ (b ≤ a ∧ a ≤ c) := by rw [← inB_iff]; simp

theorem l1In_eq (a b c : Int) : spec_l1In.f a b c = some (inB a b c) := by
  unfold spec_l1In.f inB
  by_cases h : b ≤ a <;> simp [h]
theorem within_eq (a b c : Int) : impl_within.f a b c = some (inB a b c) := by
  unfold impl_within.f inB
  by_cases h : b ≤ a <;> simp [h]

/-! ### Lists of numbers: copied, compared, marked -/
theorem rd_nat (l : List Int) (i : Nat) (h : i < l.length) : rd l (i : Int) = l[i] := by
  simp [rd, List.getD_eq_getElem?_getD, List.getElem?_eq_getElem h]
theorem toIntS_loop (l : List Int) (hl : l.length ≤ 35184372088832) : ∀ (d i : Nat) (xs : List Int), i + d = l.length → xs.length = l.length → xs.take i = l.take i →
    Ev (fun k => laws_toIntS.l0 k l xs (i : Int)) l := by
  intro d
  induction d with
  | zero =>
    intro i xs hi hx hp
    refine Ev.step (fun k => laws_toIntS.l0.eq_2 _ _ _ _) (Ev.neg (by omega) ?_)
    have e : xs = l := by
      rw [List.take_of_length_le (by omega), List.take_of_length_le (by omega)] at hp
      exact hp
    rw [e]
    exact Ev.now l
  | succ d ih =>
    intro i xs hi hx hp
    refine Ev.step (fun k => laws_toIntS.l0.eq_2 _ _ _ _) (Ev.pos (by omega) (Ev.pos (by omega) (Ev.pos (by omega) ?_)))
    rw [wrap64_id (by omega) (by omega), rd_nat l i (by omega)]
    have := ih (i + 1) (xs.set (i : Int).toNat l[i]) (by omega) (by simp [hx]) (by
      rw [List.take_add_one, List.take_add_one]
      simp only [Int.toNat_natCast, List.take_set, hp]
      rw [List.getElem?_set_self (by omega), List.getElem?_eq_getElem (by omega : i < l.length), List.set_eq_of_length_le (by simp; omega)])
    exact this
theorem toIntS_ev (l : List Int) (hl : l.length ≤ 35184372088832) : Ev (fun k => laws_toIntS.f k l) l := by
  unfold laws_toIntS.f
  refine Ev.pos (by omega) (Ev.pos (by omega) ?_)
  exact toIntS_loop l hl l.length 0 _ (by omega) (by simp) (by simp)
theorem eqIntS_loop (l : List Int) (hl : l.length ≤ 35184372088832) : ∀ (d i : Nat), i + d = l.length → Ev (fun k => laws_eqIntS.l0 k l l (i : Int)) true := by
  intro d
  induction d with
  | zero =>
    intro i hi
    exact Ev.step (fun k => laws_eqIntS.l0.eq_2 _ _ _ _) (Ev.neg (by omega) (Ev.now _))
  | succ d ih =>
    intro i hi
    refine Ev.step (fun k => laws_eqIntS.l0.eq_2 _ _ _ _) (Ev.pos (by omega) (Ev.pos (by omega) (Ev.pos (by omega) (Ev.pos rfl ?_))))
    rw [wrap64_id (by omega) (by omega)]
    exact ih (i + 1) (by omega)
theorem eqIntS_self (l : List Int) (hl : l.length ≤ 35184372088832) : Ev (fun k => laws_eqIntS.f k l l) true := by
  unfold laws_eqIntS.f
  exact Ev.pos rfl (eqIntS_loop l hl l.length 0 (by omega))

/-- The marks c, c + 1, .., as many as n. -/
def marks : Nat → Int → List Int
  | 0, _ => []
  | n + 1, c => c :: marks n (c + 1)
theorem marks_length (n : Nat) : ∀ c, (marks n c).length = n := by
  induction n with
  | zero => intro c; rfl
  | succ n ih => intro c; simp [marks, ih]
theorem markIntS_loop : ∀ (d i : Nat) (xs : List Int) (c : Nat), i + d = xs.length → c + d ≤ 70368744177664 → xs.length ≤ 35184372088832 →
    Ev (fun k => laws_markIntS.l0 k xs (c : Int) (i : Int)) (((c + d : Nat) : Int), xs.take i ++ marks d (c : Int)) := by
  intro d
  induction d with
  | zero =>
    intro i xs c hi hc hx
    refine Ev.step (fun k => laws_markIntS.l0.eq_2 _ _ _ _) (Ev.neg (by omega) ?_)
    rw [List.take_of_length_le (by omega)]
    simp only [marks, List.append_nil, Nat.add_zero]
    exact Ev.now _
  | succ d ih =>
    intro i xs c hi hc hx
    refine Ev.step (fun k => laws_markIntS.l0.eq_2 _ _ _ _) (Ev.pos (by omega) (Ev.pos (by omega) ?_))
    rw [wrap64_id (by omega) (by omega), wrap64_id (by omega) (by omega)]
    have h := ih (i + 1) (xs.set (i : Int).toNat (c : Int)) (c + 1) (by simp; omega) (by omega) (by simpa using hx)
    refine Ev.eq h ?_
    have e : List.take (i + 1) (xs.set (i : Int).toNat (c : Int)) = xs.take i ++ [(c : Int)] := by
      rw [List.take_add_one, Int.toNat_natCast, List.take_set, List.set_eq_of_length_le (by simp; omega), List.getElem?_set_self (by omega)]
      rfl
    rw [e, List.append_assoc]
    simp only [marks, List.singleton_append, Prod.mk.injEq]
    exact ⟨by omega, by push_cast; rfl⟩
theorem markIntS_ev (xs : List Int) (c : Nat) (hc : c + xs.length ≤ 70368744177664) (hx : xs.length ≤ 35184372088832) :
    Ev (fun k => laws_markIntS.f k xs (c : Int)) (((c + xs.length : Nat) : Int), marks xs.length (c : Int)) := by
  unfold laws_markIntS.f
  have h := markIntS_loop xs.length 0 xs c (by omega) hc hx
  simpa using h
theorem heldIntS_loop (n : Nat) : ∀ (pre : List Int) (c : Nat), pre.length + n ≤ 35184372088832 → c + n ≤ 70368744177664 →
    Ev (fun k => laws_heldIntS.l0 k (pre ++ marks n (c : Int)) (c : Int) (pre.length : Int)) ((c + n : Nat) : Int) := by
  induction n with
  | zero =>
    intro pre c hp hc
    refine Ev.step (fun k => laws_heldIntS.l0.eq_2 _ _ _ _) (Ev.neg (by simp [marks]) (Ev.now _))
  | succ n ih =>
    intro pre c hp hc
    refine Ev.step (fun k => laws_heldIntS.l0.eq_2 _ _ _ _) (Ev.pos (by simp [marks]; omega) (Ev.pos (by omega) ?_))
    have hm : marks (n + 1) (c : Int) = (c : Int) :: marks n ((c + 1 : Nat) : Int) := by simp [marks]
    have e : pre ++ marks (n + 1) (c : Int) = (pre ++ [(c : Int)]) ++ marks n ((c + 1 : Nat) : Int) := by rw [hm]; simp
    refine Ev.pos ?_ ?_
    · rw [hm, rd_nat _ _ (by simp)]
      simp
    rw [wrap64_id (by omega) (by omega), wrap64_id (by omega) (by omega), e]
    have h := ih (pre ++ [(c : Int)]) (c + 1) (by simp; omega) (by omega)
    simp only [List.length_append, List.length_cons, List.length_nil] at h
    refine Ev.eq (Ev.congr (fun k => ?_) h) (by omega)
    congr 1
theorem heldIntS_ev (n c : Nat) (h1 : n ≤ 35184372088832) (hc : c + n ≤ 70368744177664) :
    Ev (fun k => laws_heldIntS.f k (marks n (c : Int)) (c : Int)) ((c + n : Nat) : Int) := by
  unfold laws_heldIntS.f
  have h := heldIntS_loop n [] c (by simpa using h1) hc
  simpa using h

theorem rd_mid (pre : List Int) (x : Int) (t : List Int) : rd (pre ++ x :: t) (pre.length : Int) = x := by
  rw [rd_nat _ _ (by simp)]
  simp
theorem snoc_len (pre : List Int) (x : Int) : (pre.length : Int) + 1 = ((pre ++ [x]).length : Int) := by simp

/-! ### Counts -/
/-- What the reference says of counts: the rest t behind the sum s; b: is the number of them right? -/
def specFrom (b : Bool) : List Int → Int → Bool
  | [], s => b && (s == 64)
  | x :: t, s => inB x 0 64 && specFrom b t (s + x)
def implFrom (b : Bool) : List Int → Int → Bool
  | [], s => b && (s == 64)
  | x :: t, s => inB x 0 (64 - s) && implFrom b t (s + x)
theorem specFrom_past (b : Bool) : ∀ (t : List Int) (s : Int), 64 < s → specFrom b t s = false := by
  intro t
  induction t with
  | nil => intro s hs; simp [specFrom]; intro _; omega
  | cons x t ih =>
    intro s hs
    unfold specFrom
    by_cases h : inB x 0 64 = true
    · rw [ih (s + x) (by have := inB_iff.1 h; omega)]; simp
    · simp only [Bool.not_eq_true] at h; rw [h]; rfl
theorem implFrom_eq (b : Bool) : ∀ (t : List Int) (s : Int), 0 ≤ s → s ≤ 64 → implFrom b t s = specFrom b t s := by
  intro t
  induction t with
  | nil => intro s _ _; rfl
  | cons x t ih =>
    intro s h0 h1
    unfold implFrom specFrom
    by_cases h : 0 ≤ x ∧ x ≤ 64 - s
    · rw [inB_iff.2 h, inB_iff.2 ⟨h.1, by omega⟩, ih (s + x) (by omega) (by omega)]
    · rw [inB_no.2 h]
      by_cases h2 : 0 ≤ x ∧ x ≤ 64
      · rw [specFrom_past b t (s + x) (by omega)]; simp
      · rw [inB_no.2 h2]; rfl
/-- Are counts valid? -/
def goodC (l : List Int) : Bool := specFrom (inB (l.length : Int) 1 12) l 0
theorem specGood_loop (t : List Int) : ∀ (pre : List Int) (s : Int), (pre ++ t).length ≤ 35184372088832 → 0 ≤ s → s ≤ 64 * pre.length →
    Ev (fun k => spec_GoodCounts.l0 k (pre ++ t) s (pre ++ t) ((pre ++ t).length : Int) (pre.length : Int)) (specFrom (inB ((pre ++ t).length : Int) 1 12) t s) := by
  induction t with
  | nil =>
    intro pre s hl h0 h1
    refine Ev.step (fun k => spec_GoodCounts.l0.eq_2 _ _ _ _ _ _) (Ev.neg (by simp) (Ev.bindo (l1In_eq _ _ _) ?_))
    unfold specFrom
    by_cases h : inB ((pre ++ []).length : Int) 1 12 = true
    · exact Ev.pos h (Ev.eq (Ev.now _) (by rw [h]; rfl))
    · exact Ev.neg h (Ev.eq (Ev.now _) (by simp only [Bool.not_eq_true] at h; rw [h]; rfl))
  | cons x t ih =>
    intro pre s hl h0 h1
    have hl' : pre.length + (t.length + 1) ≤ 35184372088832 := by simpa using hl
    refine Ev.step (fun k => spec_GoodCounts.l0.eq_2 _ _ _ _ _ _) (Ev.pos (by simp; omega) (Ev.pos (by omega) (Ev.pos (by simp; omega) (Ev.bindo (l1In_eq _ _ _) ?_))))
    rw [rd_mid]
    unfold specFrom
    by_cases h : inB x 0 64 = true
    · have hx := inB_iff.1 h
      refine Ev.pos h ?_
      rw [h, wrap64_id (by omega) (by omega), wrap64_id (by omega) (by omega), snoc_len pre x]
      have := ih (pre ++ [x]) (s + x) (by simpa using hl) (by omega) (by simp; omega)
      simpa using this
    · exact Ev.neg h (Ev.eq (Ev.now _) (by simp only [Bool.not_eq_true] at h; rw [h]; rfl))
theorem specGood_ev (l : List Int) (hl : l.length ≤ 35184372088832) : Ev (fun k => spec_GoodCounts.f k l) (goodC l) := by
  unfold spec_GoodCounts.f goodC
  have := specGood_loop l [] 0 (by simpa using hl) (by omega) (by simp)
  simpa using this
theorem implGood_loop (t : List Int) : ∀ (pre : List Int) (s : Int), (pre ++ t).length ≤ 35184372088832 → 0 ≤ s → s ≤ 64 →
    Ev (fun k => impl_GoodCounts.l0 k (pre ++ t) s (pre ++ t) ((pre ++ t).length : Int) (pre.length : Int)) (implFrom (inB ((pre ++ t).length : Int) 1 12) t s) := by
  induction t with
  | nil =>
    intro pre s hl h0 h1
    refine Ev.step (fun k => impl_GoodCounts.l0.eq_2 _ _ _ _ _ _) (Ev.neg (by simp) (Ev.bindo (within_eq _ _ _) ?_))
    unfold implFrom
    by_cases h : inB ((pre ++ []).length : Int) 1 12 = true
    · exact Ev.pos h (Ev.eq (Ev.now _) (by rw [h]; rfl))
    · exact Ev.neg h (Ev.eq (Ev.now _) (by simp only [Bool.not_eq_true] at h; rw [h]; rfl))
  | cons x t ih =>
    intro pre s hl h0 h1
    have hl' : pre.length + (t.length + 1) ≤ 35184372088832 := by simpa using hl
    refine Ev.step (fun k => impl_GoodCounts.l0.eq_2 _ _ _ _ _ _) (Ev.pos (by simp; omega) (Ev.pos (by omega) (Ev.pos (by simp; omega) (Ev.bindo (within_eq _ _ _) ?_))))
    rw [rd_mid, wrap64_id (by omega) (by omega)]
    unfold implFrom
    by_cases h : inB x 0 (64 - s) = true
    · have hx := inB_iff.1 h
      refine Ev.pos h ?_
      rw [h, wrap64_id (by omega) (by omega), wrap64_id (by omega) (by omega), snoc_len pre x]
      have := ih (pre ++ [x]) (s + x) (by simpa using hl) (by omega) (by omega)
      simpa using this
    · exact Ev.neg h (Ev.eq (Ev.now _) (by simp only [Bool.not_eq_true] at h; rw [h]; rfl))
theorem implGood_ev (l : List Int) (hl : l.length ≤ 35184372088832) : Ev (fun k => impl_GoodCounts.f k l) (goodC l) := by
  unfold impl_GoodCounts.f goodC
  rw [← implFrom_eq _ l 0 (by omega) (by omega)]
  have := implGood_loop l [] 0 (by simpa using hl) (by omega) (by omega)
  simpa using this
/-- What valid counts are. -/
theorem specFrom_pos (b : Bool) : ∀ (t : List Int) (s : Int), specFrom b t s = true → b = true ∧ (∀ x ∈ t, 0 ≤ x ∧ x ≤ 64) ∧ s + t.sum = 64 := by
  intro t
  induction t with
  | nil =>
    intro s h
    simp only [specFrom, Bool.and_eq_true, beq_iff_eq] at h
    exact ⟨h.1, by simp, by simpa using h.2⟩
  | cons x t ih =>
    intro s h
    simp only [specFrom, Bool.and_eq_true] at h
    obtain ⟨hb, ha, hs⟩ := ih _ h.2
    have hx := inB_iff.1 h.1
    refine ⟨hb, ?_, by rw [List.sum_cons]; omega⟩
    intro y hy
    rcases List.mem_cons.1 hy with rfl | hy
    · exact hx
    · exact ha y hy
theorem goodC_pos {l : List Int} (h : goodC l = true) : 1 ≤ l.length ∧ l.length ≤ 12 ∧ (∀ x ∈ l, 0 ≤ x ∧ x ≤ 64) ∧ l.sum = 64 := by
  obtain ⟨hb, ha, hs⟩ := specFrom_pos _ l 0 h
  have := inB_iff.1 hb
  exact ⟨by omega, by omega, ha, by omega⟩

/-! ### Starts -/
theorem sum_bd : ∀ (l : List Int), (∀ x ∈ l, 0 ≤ x ∧ x ≤ 64) → 0 ≤ l.sum ∧ l.sum ≤ 64 * l.length := by
  intro l
  induction l with
  | nil => intro _; simp
  | cons x t ih =>
    intro h
    have h1 := h x (by simp)
    have h2 := ih (fun y hy => h y (by simp [hy]))
    rw [List.sum_cons, List.length_cons]
    omega
/-- The sum of what stands ahead of each, from s on. -/
def starts : Int → List Int → List Int
  | _, [] => []
  | s, x :: t => s :: starts (s + x) t
theorem starts_length : ∀ (l : List Int) (s : Int), (starts s l).length = l.length := by
  intro l
  induction l with
  | nil => intro s; rfl
  | cons x t ih => intro s; simp [starts, ih]
theorem starts_append : ∀ (l m : List Int) (s : Int), starts s (l ++ m) = starts s l ++ starts (s + l.sum) m := by
  intro l
  induction l with
  | nil => intro m s; simp [starts]
  | cons x t ih => intro m s; simp [starts, ih, Int.add_assoc]
theorem rd_starts (pre : List Int) (x : Int) (t : List Int) : rd (starts 0 (pre ++ x :: t)) (pre.length : Int) = pre.sum := by
  rw [starts_append, ← starts_length pre 0]
  unfold starts
  rw [rd_mid]
  omega

theorem l14Starts_loop (t : List Int) : ∀ (pre : List Int), (∀ x ∈ pre ++ t, 0 ≤ x ∧ x ≤ 64) → (pre ++ t).length ≤ 12 →
    Ev (fun k => spec_l14Starts.l0 k (starts 0 pre) pre.sum (pre ++ t) ((pre ++ t).length : Int) (pre.length : Int)) (starts 0 (pre ++ t)) := by
  induction t with
  | nil =>
    intro pre ha hl
    refine Ev.step (fun k => spec_l14Starts.l0.eq_2 _ _ _ _ _ _) (Ev.neg (by simp) ?_)
    rw [List.append_nil]
    exact Ev.now _
  | cons x t ih =>
    intro pre ha hl
    have hp := sum_bd pre (fun y hy => ha y (by simp [hy]))
    have hx := ha x (by simp)
    have hl' : pre.length + (t.length + 1) ≤ 12 := by simpa using hl
    refine Ev.step (fun k => spec_l14Starts.l0.eq_2 _ _ _ _ _ _) (Ev.pos (by simp; omega) (Ev.pos (by omega) (Ev.pos (by simp; omega) (Ev.pos (by rw [starts_length]; omega) ?_))))
    rw [rd_mid, wrap64_id (by omega) (by omega), wrap64_id (by omega) (by omega), snoc_len pre x]
    have e1 : starts 0 pre ++ [pre.sum] = starts 0 (pre ++ [x]) := by rw [starts_append]; simp [starts]
    have e2 : pre.sum + x = (pre ++ [x]).sum := by simp
    rw [e1, e2]
    have := ih (pre ++ [x]) (by simpa using ha) (by simpa using hl)
    simpa using this
theorem l14Starts_ev (l : List Int) (ha : ∀ x ∈ l, 0 ≤ x ∧ x ≤ 64) (hl : l.length ≤ 12) : Ev (fun k => spec_l14Starts.f k l) (starts 0 l) := by
  unfold spec_l14Starts.f
  have := l14Starts_loop l [] (by simpa using ha) (by simpa using hl)
  simpa [starts] using this

/-- The symbol at a slot. -/
def symAt : List Int → Int → Nat
  | [], _ => 0
  | x :: t, s => if s < x then 0 else 1 + symAt t (s - x)
theorem specAt_loop (slot : Int) (t : List Int) : ∀ (pre : List Int), (∀ x ∈ pre ++ t, 0 ≤ x ∧ x ≤ 64) → (pre ++ t).length ≤ 12 → 0 ≤ slot - pre.sum → slot - pre.sum < t.sum →
    Ev (fun k => spec_l14At.l0 k (pre ++ t) slot (starts 0 (pre ++ t)) ((starts 0 (pre ++ t)).length : Int) (pre.length : Int)) ((pre.length : Int) + symAt t (slot - pre.sum)) := by
  induction t with
  | nil =>
    intro pre ha hl h0 h1
    simp only [List.sum_nil] at h1
    omega
  | cons x t ih =>
    intro pre ha hl h0 h1
    have hp := sum_bd pre (fun y hy => ha y (by simp [hy]))
    have hx := ha x (by simp)
    have hl' : pre.length + (t.length + 1) ≤ 12 := by simpa using hl
    have hs : (starts 0 (pre ++ x :: t)).length = pre.length + (t.length + 1) := by rw [starts_length]; simp
    rw [List.sum_cons] at h1
    refine Ev.step (fun k => spec_l14At.l0.eq_2 _ _ _ _ _ _) (Ev.pos (by omega) (Ev.pos (by omega) (Ev.pos (by omega) (Ev.pos (by simp; omega) ?_))))
    rw [rd_mid, rd_starts, wrap64_id (by omega) (by omega)]
    unfold symAt
    by_cases h : slot - pre.sum < x
    · rw [if_pos h]
      exact Ev.pos (by omega) (Ev.eq (Ev.now _) (by simp))
    · rw [if_neg h]
      refine Ev.neg (by omega) ?_
      rw [wrap64_id (by omega) (by omega), snoc_len pre x]
      have e : (pre ++ [x]).sum = pre.sum + x := by simp
      have := ih (pre ++ [x]) (by simpa using ha) (by simpa using hl) (by rw [e]; omega) (by rw [e]; omega)
      rw [e] at this
      refine Ev.eq (by simpa using this) ?_
      rw [show slot - (pre.sum + x) = slot - pre.sum - x by omega]
      simp
      omega
theorem specAt_ev (l : List Int) (slot : Int) (hg : goodC l = true) (h0 : 0 ≤ slot) (h1 : slot ≤ 63) : Ev (fun k => spec_l14At.f k l slot) (symAt l slot : Int) := by
  obtain ⟨_, h12, ha, hs⟩ := goodC_pos hg
  unfold spec_l14At.f
  refine Ev.bind (l14Starts_ev l ha h12) ?_
  have := specAt_loop slot l [] (by simpa using ha) (by simpa using h12) (by simpa using h0) (by simp; omega)
  simpa using this
theorem implAt_loop (t : List Int) : ∀ (pre : List Int) (s : Int), (∀ x ∈ pre ++ t, 0 ≤ x ∧ x ≤ 64) → (pre ++ t).length ≤ 12 → 0 ≤ s → s ≤ 63 → s < t.sum →
    Ev (fun k => impl_symbolAt.l0 k (pre ++ t) s (pre.length : Int)) ((pre.length : Int) + symAt t s) := by
  induction t with
  | nil =>
    intro pre s ha hl h0 h63 h1
    simp only [List.sum_nil] at h1
    omega
  | cons x t ih =>
    intro pre s ha hl h0 h63 h1
    have hx := ha x (by simp)
    have hl' : pre.length + (t.length + 1) ≤ 12 := by simpa using hl
    rw [List.sum_cons] at h1
    refine Ev.step (fun k => impl_symbolAt.l0.eq_2 _ _ _ _) (Ev.pos (by omega) (Ev.pos (by simp; omega) ?_))
    rw [rd_mid]
    unfold symAt
    by_cases h : s < x
    · rw [if_pos h]
      exact Ev.neg (by omega) (Ev.eq (Ev.now _) (by simp))
    · rw [if_neg h]
      refine Ev.pos (by omega) ?_
      rw [wrap64_id (by omega) (by omega), wrap64_id (by omega) (by omega), snoc_len pre x]
      have := ih (pre ++ [x]) (s - x) (by simpa using ha) (by simpa using hl) (by omega) (by omega) (by omega)
      refine Ev.eq (by simpa using this) ?_
      simp
      omega
theorem implAt_ev (l : List Int) (slot : Int) (hg : goodC l = true) (h0 : 0 ≤ slot) (h1 : slot ≤ 63) : Ev (fun k => impl_symbolAt.f k l slot) (symAt l slot : Int) := by
  obtain ⟨_, h12, ha, hs⟩ := goodC_pos hg
  unfold impl_symbolAt.f
  have := implAt_loop l [] slot (by simpa using ha) (by simpa using h12) h0 h1 (by omega)
  simpa using this

theorem startOf_loop (t : List Int) : ∀ (pre : List Int) (s : Int), (∀ x ∈ pre ++ t, 0 ≤ x ∧ x ≤ 64) → (pre ++ t).length ≤ 12 → 0 ≤ s → s ≤ 64 * pre.length →
    Ev (fun k => impl_startOf.l0 k s (pre ++ t) ((pre ++ t).length : Int) (pre.length : Int)) (s + t.sum) := by
  induction t with
  | nil =>
    intro pre s ha hl h0 h1
    refine Ev.step (fun k => impl_startOf.l0.eq_2 _ _ _ _ _) (Ev.neg (by simp) (Ev.eq (Ev.now _) (by simp)))
  | cons x t ih =>
    intro pre s ha hl h0 h1
    have hx := ha x (by simp)
    have hl' : pre.length + (t.length + 1) ≤ 12 := by simpa using hl
    refine Ev.step (fun k => impl_startOf.l0.eq_2 _ _ _ _ _) (Ev.pos (by simp; omega) (Ev.pos (by omega) (Ev.pos (by simp; omega) ?_)))
    rw [rd_mid, wrap64_id (by omega) (by omega), wrap64_id (by omega) (by omega), snoc_len pre x]
    have := ih (pre ++ [x]) (s + x) (by simpa using ha) (by simpa using hl) (by omega) (by simp; omega)
    refine Ev.eq (by simpa using this) ?_
    rw [List.sum_cons]
    omega
theorem startOf_ev (l : List Int) (i : Nat) (ha : ∀ x ∈ l, 0 ≤ x ∧ x ≤ 64) (hl : l.length ≤ 12) (hi : i ≤ l.length) : Ev (fun k => impl_startOf.f k l (i : Int)) (l.take i).sum := by
  unfold impl_startOf.f
  refine Ev.pos (by omega) (Ev.pos (by omega) ?_)
  rw [Int.toNat_natCast]
  have := startOf_loop (l.take i) [] 0 (by intro x hx; exact ha x (List.mem_of_mem_take (by simpa using hx))) (by simp; omega) (by omega) (by simp)
  simpa using this

/-! ### Starts and counts -/
theorem rd_starts_take (l : List Int) (y : Int) (h0 : 0 ≤ y) (h1 : y < (l.length : Int)) : rd (starts 0 l) y = (l.take y.toNat).sum := by
  have hy : y.toNat < l.length := by omega
  have e : l = l.take y.toNat ++ l[y.toNat] :: l.drop (y.toNat + 1) := by rw [← List.drop_eq_getElem_cons hy, List.take_append_drop]
  have hl : (l.take y.toNat).length = y.toNat := by rw [List.length_take]; omega
  have := rd_starts (l.take y.toNat) l[y.toNat] (l.drop (y.toNat + 1))
  rw [← e, hl, show ((y.toNat : Nat) : Int) = y by omega] at this
  exact this
theorem take_bd (l : List Int) (n : Nat) (ha : ∀ x ∈ l, 0 ≤ x ∧ x ≤ 64) (hl : l.length ≤ 12) : 0 ≤ (l.take n).sum ∧ (l.take n).sum ≤ 768 := by
  have := sum_bd (l.take n) (fun x hx => ha x (List.mem_of_mem_take hx))
  have h2 : (l.take n).length ≤ l.length := by rw [List.length_take]; omega
  omega
theorem rd_good {l : List Int} (hg : goodC l = true) (y : Int) (h0 : 0 ≤ y) (h1 : y < (l.length : Int)) : 0 ≤ rd l y ∧ rd l y ≤ 64 := by
  obtain ⟨_, _, ha, _⟩ := goodC_pos hg
  have hm : rd l y ∈ l := by
    unfold rd
    rw [List.getD_eq_getElem?_getD, List.getElem?_eq_getElem (by omega)]
    exact List.getElem_mem _
  exact ha _ hm

/-! ### Is there one for which it holds -/
theorem anyO_ev {α : Type} {f : Nat → α → Option Bool} {b : α → Bool} : ∀ (l : List α), (∀ x ∈ l, Ev (fun k => f k x) (b x)) → Ev (fun k => anyO (f k) l) (l.any b) := by
  intro l
  induction l with
  | nil => intro _; exact Ev.now _
  | cons x t ih =>
    intro h
    have ht := ih (fun y hy => h y (by simp [hy]))
    rw [List.any_cons]
    refine Ev.bind (f := fun k (b : Bool) => if b = true then some true else anyO (f k) t) (h x (by simp)) ?_
    cases hb : b x
    · exact Ev.neg (by simp) (by simpa using ht)
    · exact Ev.pos rfl (Ev.now _)

/-! ### Decoding a symbol -/
/-- Words are taken from the end while the state is too small. -/
def fill : Int → List Int → Int × List Int
  | n, [] => (n, [])
  | n, x :: r => if n < 4096 then fill (16 * n + x) r else (n, x :: r)
theorem fill_ok : ∀ (r : List Int) (n : Int), 0 ≤ n → n ≤ 65535 → (∀ x ∈ r, 0 ≤ x ∧ x ≤ 15) → 0 ≤ (fill n r).1 ∧ (fill n r).1 ≤ 65535 ∧ (fill n r).2.length ≤ r.length ∧ ∀ x ∈ (fill n r).2, 0 ≤ x ∧ x ≤ 15 := by
  intro r
  induction r with
  | nil => intro n h0 h1 _; simp [fill, h0, h1]
  | cons x r ih =>
    intro n h0 h1 h
    have hx := h x (by simp)
    unfold fill
    split
    · obtain ⟨a, b, c, d⟩ := ih (16 * n + x) (by omega) (by omega) (fun y hy => h y (by simp [hy]))
      exact ⟨a, b, by simp only [List.length_cons]; omega, d⟩
    · exact ⟨h0, h1, Nat.le_refl _, h⟩
theorem symAt_ok : ∀ (l : List Int) (s : Int), 0 ≤ s → s < l.sum → symAt l s < l.length ∧ (l.take (symAt l s)).sum ≤ s ∧ s < (l.take (symAt l s)).sum + l.getD (symAt l s) 0 := by
  intro l
  induction l with
  | nil => intro s h0 h1; simp only [List.sum_nil] at h1; omega
  | cons x t ih =>
    intro s h0 h1
    rw [List.sum_cons] at h1
    unfold symAt
    by_cases h : s < x
    · rw [if_pos h]; simp [h0, h]
    · rw [if_neg h]
      obtain ⟨a, b, c⟩ := ih (s - x) (by omega) (by omega)
      rw [Nat.add_comm 1]
      simp only [List.length_cons, List.take_succ_cons, List.sum_cons, List.getD_cons_succ]
      omega
/-- The state before words are taken. -/
def takeN (l : List Int) (s : Int) : Int := rd l (symAt l (s % 64)) * (s / 64) + s % 64 - (l.take (symAt l (s % 64))).sum
theorem takeN_ok {l : List Int} {s : Int} (hg : goodC l = true) (h0 : 4096 ≤ s) (h1 : s ≤ 65535) : symAt l (s % 64) < l.length ∧ 0 ≤ rd l (symAt l (s % 64)) * (s / 64) ∧ rd l (symAt l (s % 64)) * (s / 64) ≤ 65472 ∧ 0 ≤ (l.take (symAt l (s % 64))).sum ∧ (l.take (symAt l (s % 64))).sum ≤ s % 64 := by
  obtain ⟨_, h12, ha, hsum⟩ := goodC_pos hg
  obtain ⟨a, b, c⟩ := symAt_ok l (s % 64) (by omega) (by omega)
  have hr := rd_good hg (symAt l (s % 64) : Int) (by omega) (by omega)
  have ht := take_bd l (symAt l (s % 64)) ha h12
  refine ⟨a, Int.mul_nonneg hr.1 (by omega), ?_, ht.1, b⟩
  have := Int.mul_le_mul hr.2 (show s / 64 ≤ 1023 by omega) (by omega) (by omega)
  omega
/-- Words, and a coded value, that are valid. -/
def wordsB (w : List Int) : Bool := w.all (fun x => inB x 0 15) && decide (w.length ≤ 320)
def codedB (s : Int) (w : List Int) : Bool := inB s 4096 65535 && wordsB w
theorem wordsB_iff {w : List Int} : wordsB w = true ↔ (∀ x ∈ w, 0 ≤ x ∧ x ≤ 15) ∧ w.length ≤ 320 := by
  unfold wordsB
  simp [inB]
def takeP (l : List Int) (s : Int) (w : List Int) : Int × Int × List Int := ((symAt l (s % 64) : Int), (fill (takeN l s) w.reverse).1, (fill (takeN l s) w.reverse).2.reverse)
/-- What TakeSymbol gives. -/
def takeR (l : List Int) (s : Int) (w : List Int) : Int × Int × List Int × Bool :=
  if goodC l && codedB s w && inB (takeP l s w).2.1 4096 65535 then ((takeP l s w).1, (takeP l s w).2.1, (takeP l s w).2.2, true) else (0, 0, [], false)
theorem takeP_ok {l : List Int} {s : Int} {w : List Int} (hg : goodC l = true) (hc : codedB s w = true) : 0 ≤ (takeP l s w).2.1 ∧ (takeP l s w).2.1 ≤ 65535 ∧ (takeP l s w).2.2.length ≤ w.length ∧ ∀ x ∈ (takeP l s w).2.2, 0 ≤ x ∧ x ≤ 15 := by
  unfold codedB at hc
  simp only [Bool.and_eq_true, inB_iff, wordsB_iff] at hc
  obtain ⟨⟨h0, h1⟩, hw, hn⟩ := hc
  obtain ⟨_, a, b, c, d⟩ := takeN_ok hg h0 h1
  obtain ⟨x, y, z, u⟩ := fill_ok w.reverse (takeN l s) (by unfold takeN; omega) (by unfold takeN; omega) (by simpa using hw)
  exact ⟨x, y, by simpa [takeP] using z, by simpa [takeP] using u⟩
theorem fill_stop {n : Int} {r : List Int} (h : ¬ n < 4096) : fill n r = (n, r) := by
  cases r
  · rfl
  · simp [fill, h]
theorem rd_last (r : List Int) (x : Int) : rd ((x :: r).reverse) ((r.length : Nat) : Int) = x := by simp [rd]
theorem take_last (r : List Int) (x : Int) : ((x :: r).reverse).take ((r.length : Nat) : Int).toNat = r.reverse := by
  rw [List.reverse_cons, Int.toNat_natCast, List.take_left' (by simp)]
theorem l14Words_loop (t : List Int) : ∀ (pre : List Int), (pre ++ t).length ≤ 35184372088832 →
    Ev (fun k => spec_l14Words.l0 k (pre ++ t) (pre ++ t) ((pre ++ t).length : Int) (pre.length : Int)) (t.all (fun x => inB x 0 15) && decide ((pre ++ t).length ≤ 320)) := by
  induction t with
  | nil =>
    intro pre hl
    refine Ev.step (fun k => spec_l14Words.l0.eq_2 _ _ _ _ _) (Ev.neg (by simp) (Ev.eq (Ev.now _) ?_))
    have e : decide (((pre ++ []).length : Int) ≤ 320) = decide ((pre ++ []).length ≤ 320) := decide_eq_decide.2 (by omega)
    rw [e]
    simp
  | cons x t ih =>
    intro pre hl
    have hl' : pre.length + (t.length + 1) ≤ 35184372088832 := by simpa using hl
    refine Ev.step (fun k => spec_l14Words.l0.eq_2 _ _ _ _ _) (Ev.pos (by simp; omega) (Ev.pos (by omega) (Ev.pos (by simp; omega) ?_)))
    rw [rd_mid, wrap64_id (by omega) (by omega), snoc_len pre x]
    refine Ev.bindo (l1In_eq _ _ _) ?_
    by_cases h : inB x 0 15 = true
    · have := ih (pre ++ [x]) (by simpa using hl)
      exact Ev.pos h (by simpa [h] using this)
    · simp only [Bool.not_eq_true] at h
      exact Ev.neg (by simp [h]) (by simpa [h] using Ev.now _)
theorem l14Words_ev (w : List Int) (hl : w.length ≤ 35184372088832) : Ev (fun k => spec_l14Words.f k w) (wordsB w) := by
  unfold spec_l14Words.f
  have := l14Words_loop w [] (by simpa using hl)
  simpa [wordsB] using this
theorem any_notI (p : Int → Bool) (s : List Int) : s.any (fun x => !p x) = !s.all p := by
  induction s with
  | nil => rfl
  | cons x t ih => simp [ih]
theorem isCoded_eq (s : Int) (w : List Int) : impl_isCoded.f s w = some (codedB s w) := by
  have hs : impl_isState.f s = some (inB s 4096 65535) := by unfold impl_isState.f; rw [within_eq]; rfl
  have ha : cf_impl_isCoded_1.f w = some (!w.all (fun x => inB x 0 15)) := by
    rw [← any_notI, ← anyO_some]
    unfold cf_impl_isCoded_1.f
    congr 1
    funext x
    rw [within_eq]; rfl
  unfold impl_isCoded.f codedB wordsB
  rw [hs]
  simp only [Option.bind_some]
  cases inB s 4096 65535
  · simp
  · simp only [if_true, Bool.true_and]
    by_cases hn : w.length ≤ 320
    · rw [if_pos (by omega), ha, decide_eq_true hn]; simp
    · rw [if_neg (by omega), decide_eq_false hn]; simp
theorem specTake_loop (y : Int) : ∀ (r : List Int) (n : Int), 0 ≤ n → n ≤ 65535 → r.length ≤ 320 → (∀ x ∈ r, 0 ≤ x ∧ x ≤ 15) →
    Ev (fun k => spec_TakeSymbol.l0 k y n r.reverse) (if inB (fill n r).1 4096 65535 then (y, (fill n r).1, (fill n r).2.reverse, true) else (0, 0, [], false)) := by
  have fin : ∀ (n : Int) (r : List Int), Ev (fun _ => (spec_l14State.f n).bind fun t156 => (if t156 = true then (some (y, n, r, true)) else (some (0, 0, ([] : List Int), false)))) (if inB n 4096 65535 then (y, n, r, true) else (0, 0, [], false)) := by
    intro n r
    have hs : spec_l14State.f n = some (inB n 4096 65535) := by unfold spec_l14State.f; rw [l1In_eq]; rfl
    refine Ev.bindo hs ?_
    cases inB n 4096 65535
    · exact Ev.neg (by simp) (Ev.now _)
    · exact Ev.pos rfl (Ev.now _)
  intro r
  induction r with
  | nil =>
    intro n h0 h1 hl hr
    refine Ev.step (fun k => spec_TakeSymbol.l0.eq_2 _ _ _ _) ?_
    by_cases h : n < 4096
    · exact Ev.pos h (Ev.neg (by simp) (fin n _))
    · exact Ev.neg h (fin n _)
  | cons x r ih =>
    intro n h0 h1 hl hr
    have hx := hr x (by simp)
    have hl' : r.length + 1 ≤ 320 := by simpa using hl
    refine Ev.step (fun k => spec_TakeSymbol.l0.eq_2 _ _ _ _) ?_
    by_cases h : n < 4096
    · have e1 : (((x :: r).reverse.length : Nat) : Int) - 1 = (r.length : Int) := by simp
      have e2 : wrap64 ((((x :: r).reverse.length : Nat) : Int) - 1) = ((r.length : Nat) : Int) := by rw [e1]; exact wrap64_id (by omega) (by omega)
      refine Ev.pos h (Ev.pos (by omega) ?_)
      simp only [e2]
      refine Ev.pos (by omega) (Ev.pos (by omega) (Ev.pos (by omega) ?_))
      rw [rd_last, take_last, wrap64_id (x := 16 * n) (by omega) (by omega), wrap64_id (by omega) (by omega)]
      have := ih (16 * n + x) (by omega) (by omega) (by omega) (fun y hy => hr y (by simp [hy]))
      simpa [fill, h] using this
    · rw [fill_stop h]
      exact Ev.neg h (fin n _)
theorem implTake_loop (y : Int) : ∀ (r : List Int) (n : Int), 0 ≤ n → n ≤ 65535 → r.length ≤ 320 → (∀ x ∈ r, 0 ≤ x ∧ x ≤ 15) →
    Ev (fun k => impl_taken.l0 k y n r.reverse) (y, (fill n r).1, (fill n r).2.reverse, inB (fill n r).1 4096 65535) := by
  have fin : ∀ (n : Int) (r : List Int), Ev (fun _ => (impl_isState.f n).bind fun t184 => (some (y, n, r, t184))) (y, n, r, inB n 4096 65535) := by
    intro n r
    have hs : impl_isState.f n = some (inB n 4096 65535) := by unfold impl_isState.f; rw [within_eq]; rfl
    exact Ev.bindo hs (Ev.now _)
  intro r
  induction r with
  | nil =>
    intro n h0 h1 hl hr
    refine Ev.step (fun k => impl_taken.l0.eq_2 _ _ _ _) ?_
    by_cases h : n < 4096
    · exact Ev.pos h (Ev.neg (by simp) (fin n _))
    · exact Ev.neg h (fin n _)
  | cons x r ih =>
    intro n h0 h1 hl hr
    have hx := hr x (by simp)
    have hl' : r.length + 1 ≤ 320 := by simpa using hl
    refine Ev.step (fun k => impl_taken.l0.eq_2 _ _ _ _) ?_
    by_cases h : n < 4096
    · have e1 : (((x :: r).reverse.length : Nat) : Int) - 1 = (r.length : Int) := by simp
      have e2 : wrap64 ((((x :: r).reverse.length : Nat) : Int) - 1) = ((r.length : Nat) : Int) := by rw [e1]; exact wrap64_id (by omega) (by omega)
      refine Ev.pos h (Ev.pos (by omega) ?_)
      simp only [e2]
      refine Ev.pos (by omega) (Ev.pos (by omega) (Ev.pos (by omega) ?_))
      rw [rd_last, take_last, wrap64_id (x := 16 * n) (by omega) (by omega), wrap64_id (by omega) (by omega)]
      have := ih (16 * n + x) (by omega) (by omega) (by omega) (fun y hy => hr y (by simp [hy]))
      simpa [fill, h] using this
    · rw [fill_stop h]
      exact Ev.neg h (fin n _)
theorem taken_ev {l : List Int} {s : Int} {w : List Int} (hg : goodC l = true) (hc : codedB s w = true) : Ev (fun k => impl_taken.f k l s w) ((takeP l s w).1, (takeP l s w).2.1, (takeP l s w).2.2, inB (takeP l s w).2.1 4096 65535) := by
  have hc' := hc
  unfold codedB at hc
  simp only [Bool.and_eq_true, inB_iff, wordsB_iff] at hc
  obtain ⟨⟨h0, h1⟩, hw, hn⟩ := hc
  obtain ⟨z, a, b, c, d⟩ := takeN_ok hg h0 h1
  obtain ⟨_, h12, ha, hsum⟩ := goodC_pos hg
  unfold impl_taken.f
  rw [Int.tmod_eq_emod_of_nonneg (by omega), Int.tdiv_eq_ediv_of_nonneg (by omega)]
  refine Ev.bind (implAt_ev l (s % 64) hg (by omega) (by omega)) (Ev.pos (by omega) (Ev.pos (by omega) (Ev.bind (startOf_ev l _ ha h12 (by omega)) ?_)))
  rw [wrap64_id (x := s / 64) (by omega) (by omega), wrap64_id (x := rd l _ * (s / 64)) (by omega) (by omega), wrap64_id (x := rd l _ * (s / 64) + s % 64) (by omega) (by omega), wrap64_id (by omega) (by omega)]
  have := implTake_loop (symAt l (s % 64)) w.reverse (takeN l s) (by unfold takeN; omega) (by unfold takeN; omega) (by simpa using hn) (by simpa using hw)
  simpa [takeP, takeN] using this
theorem specTakeSymbol_ev (l : List Int) (s : Int) (w : List Int) (hl : l.length ≤ 35184372088832) (hwl : w.length ≤ 35184372088832) : Ev (fun k => spec_TakeSymbol.f k l s w) (takeR l s w) := by
  unfold spec_TakeSymbol.f
  have no : (goodC l && codedB s w) = false → Ev (fun k => spec_TakeSymbol.j0 k l true s w) (takeR l s w) := by
    intro h
    unfold takeR
    rw [h]
    exact Ev.step (fun k => spec_TakeSymbol.j0.eq_2 _ _ _ _ _) (Ev.pos rfl (by simpa using Ev.now _))
  by_cases hg : goodC l = true
  case neg => exact Ev.bind (specGood_ev l hl) (Ev.neg hg (no (by simp [hg])))
  refine Ev.bind (specGood_ev l hl) (Ev.pos hg ?_)
  have hst : spec_l14State.f s = some (inB s 4096 65535) := by unfold spec_l14State.f; rw [l1In_eq]; rfl
  by_cases hs : inB s 4096 65535 = true
  case neg =>
    refine Ev.bindo hst (Ev.neg hs (no ?_))
    simp only [Bool.not_eq_true] at hs
    simp [codedB, hs]
  refine Ev.bindo hst (Ev.pos hs (Ev.bind (l14Words_ev w hwl) ?_))
  by_cases hw : wordsB w = true
  case neg =>
    simp only [Bool.not_eq_true] at hw
    rw [hw]
    exact no (by simp [codedB, hw])
  have hc : codedB s w = true := by simp [codedB, hs, hw]
  rw [hw]
  have hs' := inB_iff.1 hs
  have hw' := wordsB_iff.1 hw
  obtain ⟨z, a, b, c, d⟩ := takeN_ok hg hs'.1 hs'.2
  obtain ⟨_, h12, ha, hsum⟩ := goodC_pos hg
  have hy := rd_starts_take l (symAt l (s % 64)) (by omega) (by omega)
  rw [Int.toNat_natCast] at hy
  refine Ev.step (fun k => spec_TakeSymbol.j0.eq_2 _ _ _ _ _) (Ev.neg (by simp) ?_)
  rw [Int.tmod_eq_emod_of_nonneg (by omega), Int.tdiv_eq_ediv_of_nonneg (by omega)]
  refine Ev.bind (specAt_ev l (s % 64) hg (by omega) (by omega)) (Ev.pos (by omega) (Ev.pos (by omega) (Ev.bind (l14Starts_ev l ha h12) (Ev.pos (by rw [starts_length]; omega) (Ev.bindo rfl (Ev.pos (by simp; omega) ?_))))))
  rw [hy, wrap64_id (x := s / 64) (by omega) (by omega), wrap64_id (x := rd l _ * (s / 64)) (by omega) (by omega), wrap64_id (x := rd l _ * (s / 64) + s % 64) (by omega) (by omega), wrap64_id (by omega) (by omega)]
  have := specTake_loop (symAt l (s % 64)) w.reverse (takeN l s) (by unfold takeN; omega) (by unfold takeN; omega) (by simpa using hw'.2) (by simpa using hw'.1)
  rw [List.reverse_reverse] at this
  refine Ev.eq this ?_
  unfold takeR takeP
  rw [hg, hc]
  rfl

theorem clone_eq (w : List Int) (h : w.length < 17592186044416) : slices_Clone_int_int.f w = some w := by
  unfold slices_Clone_int_int.f
  exact if_pos h

/-! ### Decoding symbols -/
theorem codedB_take {l : List Int} {s : Int} {w : List Int} (hg : goodC l = true) (hc : codedB s w = true) (hi : inB (takeP l s w).2.1 4096 65535 = true) : codedB (takeP l s w).2.1 (takeP l s w).2.2 = true := by
  have h := takeP_ok hg hc
  unfold codedB at hc ⊢
  simp only [Bool.and_eq_true, inB_iff, wordsB_iff] at hc ⊢
  exact ⟨inB_iff.1 hi, h.2.2.2, by omega⟩
def decL (l : List Int) : Nat → List Int → Int → List Int → List Int × Bool
  | 0, out, s, w => if s = 4096 then (if (w.length : Int) > 0 then ([], false) else (out, true)) else ([], false)
  | n + 1, out, s, w => if inB (takeP l s w).2.1 4096 65535 = true then decL l n (out ++ [(takeP l s w).1]) (takeP l s w).2.1 (takeP l s w).2.2 else ([], false)
theorem decL_len (l : List Int) : ∀ (n : Nat) (out : List Int) (s : Int) (w : List Int), (decL l n out s w).1.length ≤ out.length + n := by
  intro n
  induction n with
  | zero => intro out s w; unfold decL; split <;> (try split) <;> simp
  | succ n ih =>
    intro out s w
    unfold decL
    split
    · have := ih (out ++ [(takeP l s w).1]) (takeP l s w).2.1 (takeP l s w).2.2
      simp only [List.length_append, List.length_cons, List.length_nil] at this
      omega
    · simp
/-- What DecodeSymbols gives. -/
def decR (l : List Int) (s : Int) (w : List Int) (m : Int) : List Int × Bool := if goodC l && codedB s w && inB m 0 80 then decL l m.toNat [] s w else ([], false)
theorem decR_len (l : List Int) (s : Int) (w : List Int) (m : Int) : (decR l s w m).1.length ≤ 80 := by
  unfold decR
  split
  · rename_i h
    simp only [Bool.and_eq_true, inB_iff] at h
    have := decL_len l m.toNat [] s w
    simp only [List.length_nil] at this
    omega
  · simp
theorem specDec_loop (l : List Int) (hg : goodC l = true) (hl : l.length ≤ 35184372088832) : ∀ (n : Nat) (out : List Int) (s : Int) (w : List Int), codedB s w = true → out.length + n ≤ 80 →
    Ev (fun k => spec_DecodeSymbols.l0 k l (n : Int) out s w) (decL l n out s w) := by
  intro n
  induction n with
  | zero =>
    intro out s w hc hn
    refine Ev.step (fun k => spec_DecodeSymbols.l0.eq_2 _ _ _ _ _ _) (Ev.neg (by simp) ?_)
    by_cases h : s = 4096
    · by_cases h2 : (w.length : Int) > 0
      · exact Ev.eq (Ev.pos h (Ev.pos h2 (Ev.now _))) (by unfold decL; rw [if_pos h, if_pos h2])
      · exact Ev.eq (Ev.pos h (Ev.neg h2 (Ev.now _))) (by unfold decL; rw [if_pos h, if_neg h2])
    · exact Ev.eq (Ev.neg h (Ev.now _)) (by unfold decL; rw [if_neg h])
  | succ n ih =>
    intro out s w hc hn
    have hwl : w.length ≤ 35184372088832 := by
      unfold codedB at hc
      simp only [Bool.and_eq_true, inB_iff, wordsB_iff] at hc
      omega
    have ht := specTakeSymbol_ev l s w hl hwl
    refine Ev.step (fun k => spec_DecodeSymbols.l0.eq_2 _ _ _ _ _ _) (Ev.pos (by omega) ?_)
    unfold decL
    by_cases h : inB (takeP l s w).2.1 4096 65535 = true
    · have e : takeR l s w = ((takeP l s w).1, (takeP l s w).2.1, (takeP l s w).2.2, true) := by unfold takeR; simp [hg, hc, h]
      rw [e] at ht
      rw [if_pos h]
      refine Ev.bind ht (Ev.pos rfl (Ev.pos (by omega) ?_))
      rw [wrap64_id (by omega) (by omega), show ((n + 1 : Nat) : Int) - 1 = (n : Int) by omega]
      exact ih _ _ _ (codedB_take hg hc h) (by simp; omega)
    · have e : takeR l s w = (0, 0, [], false) := by unfold takeR; simp [h]
      rw [e] at ht
      rw [if_neg h]
      exact Ev.bind ht (Ev.neg (by simp) (Ev.now _))
theorem implDec_loop (l : List Int) (hg : goodC l = true) (m : Int) (hm : m ≤ 80) : ∀ (n : Nat) (out : List Int) (s : Int) (w : List Int), codedB s w = true → (out.length : Int) + n = m →
    Ev (fun k => impl_DecodeSymbols.l0 k l out m (out.length : Int) s w) (decL l n out s w) := by
  intro n
  induction n with
  | zero =>
    intro out s w hc hn
    refine Ev.step (fun k => impl_DecodeSymbols.l0.eq_2 _ _ _ _ _ _ _) (Ev.neg (by omega) ?_)
    by_cases h : s = 4096
    · by_cases h2 : (w.length : Int) > 0
      · exact Ev.eq (Ev.pos h (Ev.pos h2 (Ev.now _))) (by unfold decL; rw [if_pos h, if_pos h2])
      · exact Ev.eq (Ev.pos h (Ev.neg h2 (Ev.now _))) (by unfold decL; rw [if_pos h, if_neg h2])
    · exact Ev.eq (Ev.neg h (Ev.now _)) (by unfold decL; rw [if_neg h])
  | succ n ih =>
    intro out s w hc hn
    refine Ev.step (fun k => impl_DecodeSymbols.l0.eq_2 _ _ _ _ _ _ _) (Ev.pos (by omega) (Ev.bind (taken_ev hg hc) ?_))
    unfold decL
    by_cases h : inB (takeP l s w).2.1 4096 65535 = true
    · rw [if_pos h]
      refine Ev.pos h (Ev.pos (by omega) ?_)
      rw [wrap64_id (by omega) (by omega)]
      have := ih (out ++ [(takeP l s w).1]) _ _ (codedB_take hg hc h) (by simp; omega)
      simpa using this
    · rw [if_neg h]
      exact Ev.neg h (Ev.now _)
theorem specDecodeSymbols_ev (l : List Int) (s : Int) (w : List Int) (m : Int) (hl : l.length ≤ 35184372088832) (hwl : w.length ≤ 35184372088832) : Ev (fun k => spec_DecodeSymbols.f k l s w m) (decR l s w m) := by
  unfold spec_DecodeSymbols.f
  have no : (goodC l && codedB s w && inB m 0 80) = false → Ev (fun k => spec_DecodeSymbols.j0 k l m true s w) (decR l s w m) := by
    intro h
    unfold decR
    rw [h]
    exact Ev.step (fun k => spec_DecodeSymbols.j0.eq_2 _ _ _ _ _ _) (Ev.pos rfl (Ev.now _))
  by_cases hg : goodC l = true
  case neg => exact Ev.bind (specGood_ev l hl) (Ev.neg hg (no (by simp [hg])))
  refine Ev.bind (specGood_ev l hl) (Ev.pos hg ?_)
  by_cases hm : inB m 0 80 = true
  case neg => exact Ev.bindo (l1In_eq _ _ _) (Ev.neg hm (no (by simp [hm])))
  refine Ev.bindo (l1In_eq _ _ _) (Ev.pos hm ?_)
  have hst : spec_l14State.f s = some (inB s 4096 65535) := by unfold spec_l14State.f; rw [l1In_eq]; rfl
  by_cases hs : inB s 4096 65535 = true
  case neg =>
    refine Ev.bindo hst (Ev.neg hs (no ?_))
    simp only [Bool.not_eq_true] at hs
    simp [codedB, hs]
  refine Ev.bindo hst (Ev.pos hs (Ev.bind (l14Words_ev w hwl) ?_))
  by_cases hw : wordsB w = true
  case neg =>
    simp only [Bool.not_eq_true] at hw
    rw [hw]
    exact no (by simp [codedB, hw])
  have hc : codedB s w = true := by simp [codedB, hs, hw]
  rw [hw]
  have hm' := inB_iff.1 hm
  refine Ev.step (fun k => spec_DecodeSymbols.j0.eq_2 _ _ _ _ _ _) (Ev.neg (by simp) ?_)
  have := specDec_loop l hg hl m.toNat [] s w hc (by simp; omega)
  rw [show ((m.toNat : Nat) : Int) = m by omega] at this
  refine Ev.eq this ?_
  unfold decR
  rw [hg, hc, hm]; rfl
theorem implDecodeSymbols_ev (l : List Int) (s : Int) (w : List Int) (m : Int) (hl : l.length ≤ 35184372088832) : Ev (fun k => impl_DecodeSymbols.f k l s w m) (decR l s w m) := by
  unfold impl_DecodeSymbols.f
  have no : (goodC l && codedB s w && inB m 0 80) = false → Ev (fun k => impl_DecodeSymbols.j0 k l m true s w) (decR l s w m) := by
    intro h
    unfold decR
    rw [h]
    exact Ev.step (fun k => impl_DecodeSymbols.j0.eq_2 _ _ _ _ _ _) (Ev.pos rfl (Ev.now _))
  by_cases hg : goodC l = true
  case neg => exact Ev.bind (implGood_ev l hl) (Ev.neg hg (no (by simp [hg])))
  refine Ev.bind (implGood_ev l hl) (Ev.pos hg (Ev.bindo (isCoded_eq s w) ?_))
  by_cases hc : codedB s w = true
  case neg => exact Ev.neg hc (no (by simp [hc]))
  refine Ev.pos hc (Ev.bindo (within_eq _ _ _) ?_)
  by_cases hm : inB m 0 80 = true
  case neg =>
    simp only [Bool.not_eq_true] at hm
    rw [hm]
    exact no (by simp [hm])
  rw [hm]
  have hm' := inB_iff.1 hm
  have hn : w.length ≤ 320 := by
    unfold codedB at hc
    simp only [Bool.and_eq_true, inB_iff, wordsB_iff] at hc
    exact hc.2.2
  have ho : impl_ownCoded.f s w = some (s, w) := by unfold impl_ownCoded.f; rw [clone_eq w (by omega)]; rfl
  refine Ev.step (fun k => impl_DecodeSymbols.j0.eq_2 _ _ _ _ _ _) (Ev.neg (by simp) (Ev.bindo ho ?_))
  have := implDec_loop l hg m hm'.2 m.toNat [] s w hc (by simp; omega)
  refine Ev.eq (by simpa using this) ?_
  unfold decR
  rw [hg, hc, hm]; rfl

/-! ### A coded value: compared, marked -/
theorem eqCoded_self (s : Int) (w : List Int) (h : w.length ≤ 35184372088832) : Ev (fun k => laws_eqCoded.f k s w s w) true := by
  unfold laws_eqCoded.f
  exact Ev.pos rfl (Ev.bind (eqIntS_self w h) (Ev.pos rfl (Ev.now _)))

theorem markCoded_ev (s : Int) (w : List Int) (c : Nat) (hc : c + w.length ≤ 70368744177664) (h : w.length ≤ 35184372088832) : Ev (fun k => laws_markCoded.f k s w (c : Int)) (((c + w.length : Nat) : Int), marks w.length (c : Int)) := by
  unfold laws_markCoded.f
  exact Ev.bind (markIntS_ev w c hc h) (Ev.now _)

theorem toCoded_ev (s : Int) (w : List Int) (h : w.length ≤ 35184372088832) : Ev (fun k => laws_toCoded.f k s w) (s, w) := by
  unfold laws_toCoded.f
  exact Ev.bind (toIntS_ev w h) (Ev.now _)
theorem szCoded_eq (s : Int) (w : List Int) (n : Int) (h : w.length ≤ 35184372088832) (hn : 0 ≤ n ∧ n ≤ 1048576) : laws_szCoded.f s w n = some (if n - (w.length : Int) < 0 then -1 else n - (w.length : Int)) := by
  unfold laws_szCoded.f laws_szIntS.f
  rw [wrap64_id (by omega) (by omega)]
  by_cases hb : n - (w.length : Int) < 0
  · rw [if_pos hb, if_pos hb]; simp
  · rw [if_neg hb, if_neg hb]; simp [hb]

end QFnExactDecodeSymbols
open QFnExactDecodeSymbols
theorem FnExactDecodeSymbols (l : List Int) (s : Int) (w : List Int) (m : Int) (hm : l.length ≤ maxLen) (hl : l.length * 8 ≤ 140737488351232) (hw : ∀ x ∈ l, (Lit.int .i64 x).wf = true) (G : (Lit.int .i64 s).wf = true ∧ (w.length ≤ maxLen ∧ w.length * 8 ≤ 140737488351232 ∧ (∀ x ∈ w, (Lit.int .i64 x).wf = true))) (hmw : (Lit.int .i64 m).wf = true) : ∃ k, laws_FnExactDecodeSymbols.f k l s w m = some true := by
  refine Ev.rounds ?_
  unfold laws_FnExactDecodeSymbols.f
  obtain ⟨hs, hm2, hl2, hw2⟩ := G
  by_cases hb : (l.length : Int) > 1048576
  · exact Ev.pos hb (Ev.now _)
  have hwl : w.length ≤ 35184372088832 := by omega
  refine Ev.neg hb (Ev.bindo (szCoded_eq s w 1048576 hwl (by omega)) ?_)
  by_cases hb2 : (1048576 : Int) - (w.length : Int) < 0
  · rw [if_pos hb2]; exact Ev.pos (by omega) (Ev.now _)
  rw [if_neg hb2]
  have hsl : l.length ≤ 35184372088832 := by omega
  have h1 := specDecodeSymbols_ev l s w m hsl hwl
  have h2 := implDecodeSymbols_ev l s w m hsl
  have hx := decR_len l s w m
  obtain ⟨⟨xs, b⟩, hr⟩ : ∃ r, r = decR l s w m := ⟨_, rfl⟩
  rw [← hr] at h1 h2 hx
  have hx' : xs.length ≤ 35184372088832 := by simp only at hx; omega
  have tl := toIntS_ev l hsl
  have tc := toCoded_ev s w hwl
  have ec := eqIntS_self xs hx'
  have ec2 := eqCoded_self s w hwl
  refine Ev.neg hb2 (Ev.bind tl (Ev.bind tc (Ev.bind h1 (Ev.bind tl (Ev.bind tc (Ev.bind h2 (Ev.bind ec (Ev.pos rfl ?_))))))))
  have m1 := markIntS_ev l 1 (by omega) hsl
  have m2 := markCoded_ev s w (1 + l.length) (by omega) hwl
  have m3 := markIntS_ev xs 1 (by omega) hx'
  have k1 := heldIntS_ev xs.length 1 hx' (by omega)
  have n1 : ¬ ((1 + l.length + w.length : Nat) : Int) < 0 := by omega
  have n2 : ¬ ((1 + xs.length : Nat) : Int) < 0 := by omega
  refine Ev.step (fun k => laws_FnExactDecodeSymbols.j0.eq_2 _ _ _ _ _ _ _ _ _ _ _ _ _) (Ev.neg (by simp) (Ev.bind tl (Ev.bind (eqIntS_self l hsl) (Ev.pos rfl (Ev.bind tc (Ev.bind ec2 (Ev.pos rfl (Ev.bind m1 (Ev.bind m2 (Ev.neg n1 (Ev.bind ec (Ev.pos rfl ?_))))))))))))
  refine Ev.step (fun k => laws_FnExactDecodeSymbols.j1.eq_2 _ _ _ _ _ _ _ _ _) (Ev.neg (by simp) (Ev.bind m3 (Ev.bind k1 (Ev.neg n2 (Ev.pos rfl (Ev.bind tl (Ev.bind tc (Ev.bind h2 (Ev.bind ec (Ev.pos rfl ?_))))))))))
  exact Ev.step (fun k => laws_FnExactDecodeSymbols.j2.eq_2 _ _ _ _) (Ev.neg (by simp) (Ev.bind k1 (Ev.neg n2 (Ev.pos rfl (Ev.now _)))))

end Go.Proofs.Ytppgkkejddjacaa.Pure
