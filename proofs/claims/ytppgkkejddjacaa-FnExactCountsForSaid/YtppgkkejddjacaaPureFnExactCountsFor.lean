/- The law FnExactCountsFor holds: for every argument within the row's bounds the printed function answers true. No further condition. -/
import Derived.Test.YtppgkkejddjacaaPFnExactCountsForx3
set_option linter.unusedVariables false
namespace Go.Proofs.Ytppgkkejddjacaa.Pure
open Go.RowKit Go.Proofs.Ytppgkkejddjacaa.PFnExactCountsFor Go.Proofs.YtppgkkejddjacaaW.PrintWords Go.Proofs.YtppgkkejddjacaaW.PrintLast
namespace QFnExactCountsFor
/-! ### Rounds -/
theorem Ev.pos {α : Type} {c : Prop} [Decidable c] {g f : Nat → Option α} {r : α} (hc : c) (h : Ev g r) : Ev (fun k => if c then g k else f k) r :=
  Ev.congr (fun _ => if_pos hc) h
theorem Ev.neg {α : Type} {c : Prop} [Decidable c] {g f : Nat → Option α} {r : α} (hc : ¬ c) (h : Ev f r) : Ev (fun k => if c then g k else f k) r :=
  Ev.congr (fun _ => if_neg hc) h
theorem Ev.bindo {α β : Type} {o : Option α} {f : Nat → α → Option β} {a : α} {r : β} (h : o = some a) (k : Ev (fun n => f n a) r) : Ev (fun n => o.bind (f n)) r :=
  Ev.congr (fun n => by rw [h]; rfl) k
theorem Ev.eq {α : Type} {g : Nat → Option α} {r s : α} (h : Ev g r) (e : r = s) : Ev g s := e ▸ h
theorem wrap64_id {x : Int} (h1 : -9223372036854775808 ≤ x) (h2 : x ≤ 9223372036854775807) : wrap64 x = x := by
  unfold wrap64
  omega
theorem wrap64_lo (x : Int) : -9223372036854775808 ≤ wrap64 x ∧ wrap64 x ≤ 9223372036854775807 := by
  unfold wrap64
  omega
theorem wf_i64 {x : Int} (h : (Lit.int .i64 x).wf = true) : -9223372036854775808 ≤ x ∧ x ≤ 9223372036854775807 := by
  simp [Lit.wf, IntKind.min, IntKind.max, IntKind.signed, IntKind.bits] at h
  omega
/-- Is a number in a range? -/
def inB (a b c : Int) : Bool := decide (b ≤ a) && decide (a ≤ c)
theorem inB_iff {a b c : Int} : inB a b c = true ↔ b ≤ a ∧ a ≤ c := by simp [inB]
theorem inB_no {a b c : Int} : inB a b c = false ↔ ¬ (b ≤ a ∧ a ≤ c) := by rw [← inB_iff]; simp

theorem l1In_eq (a b c : Int) : spec_l1In.f a b c = some (inB a b c) := by
  unfold spec_l1In.f inB
  by_cases h : b ≤ a <;> simp [h]
theorem within_eq (a b c : Int) : impl_within.f a b c = some (inB a b c) := by
  unfold impl_within.f inB
  by_cases h : b ≤ a <;> simp [h]

/-! ### Lists of numbers: copied, compared, marked -/
theorem rd_nat (l : List Int) (i : Nat) (h : i < l.length) : rd l (i : Int) = l[i] := by
  simp [rd, List.getD_eq_getElem?_getD, List.getElem?_eq_getElem h]
theorem toIntS_loop (l : List Int) (hl : l.length ≤ 35184372088832) : ∀ (d i : Nat) (xs : List Int), i + d = l.length → xs.length = l.length → xs.take i = l.take i →
    Ev (fun k => laws_toIntS.l0 k l xs (i : Int)) l := by
  intro d
  induction d with
  | zero =>
    intro i xs hi hx hp
    refine Ev.step (fun k => laws_toIntS.l0.eq_2 _ _ _ _) (Ev.neg (by omega) ?_)
    have e : xs = l := by
      rw [List.take_of_length_le (by omega), List.take_of_length_le (by omega)] at hp
      exact hp
    rw [e]
    exact Ev.now l
  | succ d ih =>
    intro i xs hi hx hp
    refine Ev.step (fun k => laws_toIntS.l0.eq_2 _ _ _ _) (Ev.pos (by omega) (Ev.pos (by omega) (Ev.pos (by omega) ?_)))
    rw [wrap64_id (by omega) (by omega), rd_nat l i (by omega)]
    have := ih (i + 1) (xs.set (i : Int).toNat l[i]) (by omega) (by simp [hx]) (by
      rw [List.take_add_one, List.take_add_one]
      simp only [Int.toNat_natCast, List.take_set, hp]
      rw [List.getElem?_set_self (by omega), List.getElem?_eq_getElem (by omega : i < l.length), List.set_eq_of_length_le (by simp; omega)])
    exact this
theorem toIntS_ev (l : List Int) (hl : l.length ≤ 35184372088832) : Ev (fun k => laws_toIntS.f k l) l := by
  unfold laws_toIntS.f
  refine Ev.pos (by omega) (Ev.pos (by omega) ?_)
  exact toIntS_loop l hl l.length 0 _ (by omega) (by simp) (by simp)
theorem eqIntS_loop (l : List Int) (hl : l.length ≤ 35184372088832) : ∀ (d i : Nat), i + d = l.length → Ev (fun k => laws_eqIntS.l0 k l l (i : Int)) true := by
  intro d
  induction d with
  | zero =>
    intro i hi
    exact Ev.step (fun k => laws_eqIntS.l0.eq_2 _ _ _ _) (Ev.neg (by omega) (Ev.now _))
  | succ d ih =>
    intro i hi
    refine Ev.step (fun k => laws_eqIntS.l0.eq_2 _ _ _ _) (Ev.pos (by omega) (Ev.pos (by omega) (Ev.pos (by omega) (Ev.pos rfl ?_))))
    rw [wrap64_id (by omega) (by omega)]
    exact ih (i + 1) (by omega)
theorem eqIntS_self (l : List Int) (hl : l.length ≤ 35184372088832) : Ev (fun k => laws_eqIntS.f k l l) true := by
  unfold laws_eqIntS.f
  exact Ev.pos rfl (eqIntS_loop l hl l.length 0 (by omega))

/-- The marks c, c + 1, .., as many as n. -/
def marks : Nat → Int → List Int
  | 0, _ => []
  | n + 1, c => c :: marks n (c + 1)
theorem marks_length (n : Nat) : ∀ c, (marks n c).length = n := by
  induction n with
  | zero => intro c; rfl
  | succ n ih => intro c; simp [marks, ih]
theorem markIntS_loop : ∀ (d i : Nat) (xs : List Int) (c : Nat), i + d = xs.length → c + d ≤ 70368744177664 → xs.length ≤ 35184372088832 →
    Ev (fun k => laws_markIntS.l0 k xs (c : Int) (i : Int)) (((c + d : Nat) : Int), xs.take i ++ marks d (c : Int)) := by
  intro d
  induction d with
  | zero =>
    intro i xs c hi hc hx
    refine Ev.step (fun k => laws_markIntS.l0.eq_2 _ _ _ _) (Ev.neg (by omega) ?_)
    rw [List.take_of_length_le (by omega)]
    simp only [marks, List.append_nil, Nat.add_zero]
    exact Ev.now _
  | succ d ih =>
    intro i xs c hi hc hx
    refine Ev.step (fun k => laws_markIntS.l0.eq_2 _ _ _ _) (Ev.pos (by omega) (Ev.pos (by omega) ?_))
    rw [wrap64_id (by omega) (by omega), wrap64_id (by omega) (by omega)]
    have h := ih (i + 1) (xs.set (i : Int).toNat (c : Int)) (c + 1) (by simp; omega) (by omega) (by simpa using hx)
    refine Ev.eq h ?_
    have e : List.take (i + 1) (xs.set (i : Int).toNat (c : Int)) = xs.take i ++ [(c : Int)] := by
      rw [List.take_add_one, Int.toNat_natCast, List.take_set, List.set_eq_of_length_le (by simp; omega), List.getElem?_set_self (by omega)]
      rfl
    rw [e, List.append_assoc]
    simp only [marks, List.singleton_append, Prod.mk.injEq]
    exact ⟨by omega, by push_cast; rfl⟩
theorem markIntS_ev (xs : List Int) (c : Nat) (hc : c + xs.length ≤ 70368744177664) (hx : xs.length ≤ 35184372088832) :
    Ev (fun k => laws_markIntS.f k xs (c : Int)) (((c + xs.length : Nat) : Int), marks xs.length (c : Int)) := by
  unfold laws_markIntS.f
  have h := markIntS_loop xs.length 0 xs c (by omega) hc hx
  simpa using h
theorem heldIntS_loop (n : Nat) : ∀ (pre : List Int) (c : Nat), pre.length + n ≤ 35184372088832 → c + n ≤ 70368744177664 →
    Ev (fun k => laws_heldIntS.l0 k (pre ++ marks n (c : Int)) (c : Int) (pre.length : Int)) ((c + n : Nat) : Int) := by
  induction n with
  | zero =>
    intro pre c hp hc
    refine Ev.step (fun k => laws_heldIntS.l0.eq_2 _ _ _ _) (Ev.neg (by simp [marks]) (Ev.now _))
  | succ n ih =>
    intro pre c hp hc
    refine Ev.step (fun k => laws_heldIntS.l0.eq_2 _ _ _ _) (Ev.pos (by simp [marks]; omega) (Ev.pos (by omega) ?_))
    have hm : marks (n + 1) (c : Int) = (c : Int) :: marks n ((c + 1 : Nat) : Int) := by simp [marks]
    have e : pre ++ marks (n + 1) (c : Int) = (pre ++ [(c : Int)]) ++ marks n ((c + 1 : Nat) : Int) := by rw [hm]; simp
    refine Ev.pos ?_ ?_
    · rw [hm, rd_nat _ _ (by simp)]
      simp
    rw [wrap64_id (by omega) (by omega), wrap64_id (by omega) (by omega), e]
    have h := ih (pre ++ [(c : Int)]) (c + 1) (by simp; omega) (by omega)
    simp only [List.length_append, List.length_cons, List.length_nil] at h
    refine Ev.eq (Ev.congr (fun k => ?_) h) (by omega)
    congr 1
theorem heldIntS_ev (n c : Nat) (h1 : n ≤ 35184372088832) (hc : c + n ≤ 70368744177664) :
    Ev (fun k => laws_heldIntS.f k (marks n (c : Int)) (c : Int)) ((c + n : Nat) : Int) := by
  unfold laws_heldIntS.f
  have h := heldIntS_loop n [] c (by simpa using h1) hc
  simpa using h

theorem rd_mid (pre : List Int) (x : Int) (t : List Int) : rd (pre ++ x :: t) (pre.length : Int) = x := by
  rw [rd_nat _ _ (by simp)]
  simp
theorem snoc_len (pre : List Int) (x : Int) : (pre.length : Int) + 1 = ((pre ++ [x]).length : Int) := by simp

/-! ### Counts for symbols -/
theorem set_bd {f : List Int} {B : Int} (hf : ∀ x ∈ f, 0 ≤ x ∧ x ≤ B) (i : Nat) (v : Int) (hv : 0 ≤ v ∧ v ≤ B + 1) : ∀ x ∈ f.set i v, 0 ≤ x ∧ x ≤ B + 1 := by
  intro x hx
  rcases List.mem_or_eq_of_mem_set hx with h | h
  · have := hf x h; omega
  · rw [h]; exact hv
theorem rd_mem (f : List Int) (s : Int) (h0 : 0 ≤ s) (h1 : s < (f.length : Int)) : rd f s ∈ f := by
  unfold rd
  rw [List.getD_eq_getElem?_getD, List.getElem?_eq_getElem (by omega)]
  exact List.getElem_mem _
/-- One more of each of these symbols. -/
def tally (f : List Int) : List Int → List Int
  | [] => f
  | s :: t => tally (f.set s.toNat (rd f s + 1)) t
theorem tally_ok : ∀ (t f : List Int) (B : Int), (∀ x ∈ f, 0 ≤ x ∧ x ≤ B) → (∀ s ∈ t, 0 ≤ s ∧ s < (f.length : Int)) → 0 ≤ B → (tally f t).length = f.length ∧ ∀ x ∈ tally f t, 0 ≤ x ∧ x ≤ B + t.length := by
  intro t
  induction t with
  | nil => intro f B hf _ _; exact ⟨rfl, by simpa [tally] using hf⟩
  | cons s t ih =>
    intro f B hf hs hB
    have h0 := hs s (by simp)
    have hm := hf _ (rd_mem f s h0.1 h0.2)
    obtain ⟨h1, h2⟩ := ih (f.set s.toNat (rd f s + 1)) (B + 1) (set_bd hf _ _ (by omega)) (by intro x hx; simpa using hs x (by simp [hx])) (by omega)
    refine ⟨by simpa [tally] using h1, fun x hx => ?_⟩
    have := h2 x hx
    simp only [List.length_cons]
    omega
/-- What a symbol gets beyond one. -/
def moreOf (len kinds n : Int) : Int := Int.tdiv (n * (64 - kinds)) (mx 1 len)
def finish (o : List Int) (l : Int) : List Int × Bool := (o.set 0 (rd o 0 + l), true)
theorem mx_pos (len : Int) : 1 ≤ mx 1 len := by unfold mx; split <;> omega
theorem moreOf_bd (len kinds n : Int) (hn : 0 ≤ n ∧ n ≤ 80) (hk : 1 ≤ kinds ∧ kinds ≤ 12) : 0 ≤ moreOf len kinds n ∧ moreOf len kinds n ≤ 5040 ∧ 0 ≤ n * (64 - kinds) ∧ n * (64 - kinds) ≤ 5040 := by
  have h1 : 0 ≤ n * (64 - kinds) := Int.mul_nonneg hn.1 (by omega)
  have h2 : n * (64 - kinds) ≤ 80 * 63 := Int.mul_le_mul hn.2 (by omega) (by omega) (by omega)
  have hp := mx_pos len
  have h3 : 0 ≤ moreOf len kinds n := Int.tdiv_nonneg h1 (by omega)
  have h4 : moreOf len kinds n ≤ n * (64 - kinds) := by
    unfold moreOf
    rw [Int.tdiv_eq_ediv_of_nonneg h1]
    exact Int.ediv_le_self _ h1
  exact ⟨h3, by omega, h1, by omega⟩
theorem finish_ev (o : List Int) (l : Int) (ho : 0 < o.length) (hb : ∀ x ∈ o, 0 ≤ x ∧ x ≤ 5041) (hl : -100000 ≤ l ∧ l ≤ 100000) : (o.set (0 : Int).toNat (wrap64 ((rd o 0) + l)), true) = finish o l := by
  have := hb _ (rd_mem o 0 (by omega) (by omega))
  rw [wrap64_id (by omega) (by omega)]
  rfl
theorem specL1 (l0 : List Int) (kinds : Int) (hk : 1 ≤ kinds ∧ kinds ≤ 12) (hl : l0.length ≤ 80) (h0 : l0 = [] → True) (t : List Int) : ∀ (pre o : List Int) (L : Int), (pre ++ t).length ≤ 12 → (∀ x ∈ t, 0 ≤ x ∧ x ≤ 80) → (l0.length = 0 → ∀ x ∈ t, x = 0) → o.length = pre.length → (∀ x ∈ o, 0 ≤ x ∧ x ≤ 5041) →
    -(5040 * pre.length : Int) ≤ L → L ≤ 64 → 0 < (pre ++ t).length →
    Ev (fun k => spec_CountsFor.l1 k l0 (64 - kinds) L o (pre ++ t) ((pre ++ t).length : Int) (pre.length : Int)) (finish (o ++ t.map (fun n => 1 + moreOf (l0.length : Int) kinds n)) (L - (t.map (moreOf (l0.length : Int) kinds)).sum)) := by
  induction t with
  | nil =>
    intro pre o L hp ht hz ho hob hL1 hL2 hpos
    simp only [List.append_nil] at hp hpos
    refine Ev.step (fun k => spec_CountsFor.l1.eq_2 _ _ _ _ _ _ _ _) (Ev.neg (by simp) (Ev.pos (by omega) ?_))
    rw [finish_ev o L (by omega) hob (by omega)]
    simpa using Ev.now _
  | cons x t ih =>
    intro pre o L hp ht hz ho hob hL1 hL2 hpos
    have hp' : pre.length + (t.length + 1) ≤ 12 := by simpa using hp
    have hx := ht x (by simp)
    obtain ⟨m1, m2, m3, m4⟩ := moreOf_bd (l0.length : Int) kinds x hx hk
    refine Ev.step (fun k => spec_CountsFor.l1.eq_2 _ _ _ _ _ _ _ _) (Ev.pos (by simp; omega) (Ev.pos (by omega) (Ev.pos (by simp; omega) ?_)))
    rw [rd_mid]
    have next := ih (pre ++ [x]) (o ++ [1 + moreOf (l0.length : Int) kinds x]) (L - moreOf (l0.length : Int) kinds x) (by simpa using hp) (fun y hy => ht y (by simp [hy])) (fun h y hy => hz h y (by simp [hy])) (by simp [ho])
      (by intro y hy; rcases List.mem_append.1 hy with h | h; exact hob y h; simp at h; omega) (by simp; omega) (by omega) (by simp; omega)
    have fin : Ev (fun k => spec_CountsFor.l1 k l0 (64 - kinds) (L - moreOf (l0.length : Int) kinds x) (o ++ [1 + moreOf (l0.length : Int) kinds x]) (pre ++ x :: t) ((pre ++ x :: t).length : Int) ((pre.length : Int) + 1))
        (finish (o ++ (x :: t).map (fun n => 1 + moreOf (l0.length : Int) kinds n)) (L - ((x :: t).map (moreOf (l0.length : Int) kinds)).sum)) := by
      rw [snoc_len pre x]
      refine Ev.eq (by simpa using next) ?_
      simp only [List.map_cons, List.sum_cons]
      congr 1
      omega
    by_cases hc : (l0.length : Int) > 0
    · have e : Int.tdiv (x * (64 - kinds)) (l0.length : Int) = moreOf (l0.length : Int) kinds x := by
        unfold moreOf mx
        split
        · rfl
        · rw [show (l0.length : Int) = 1 by omega]
      refine Ev.pos hc (Ev.neg (by omega) (Ev.pos (by omega) ?_))
      rw [wrap64_id (x := x * (64 - kinds)) (by omega) (by omega), e, wrap64_id (x := moreOf (l0.length : Int) kinds x) (by omega) (by omega), wrap64_id (x := L - _) (by omega) (by omega), wrap64_id (x := 1 + _) (by omega) (by omega), wrap64_id (x := (pre.length : Int) + 1) (by omega) (by omega)]
      exact fin
    · have e : moreOf (l0.length : Int) kinds x = 0 := by
        have := hz (by omega) x (by simp)
        subst this
        simp [moreOf]
      rw [e] at fin
      refine Ev.neg hc (Ev.pos (by omega) ?_)
      rw [wrap64_id (x := L - 0) (by omega) (by omega), wrap64_id (x := (pre.length : Int) + 1) (by omega) (by omega)]
      exact fin
theorem implL1 (l0 : List Int) (kinds : Int) (hk : 1 ≤ kinds ∧ kinds ≤ 12) (hl : l0.length ≤ 80) (t : List Int) : ∀ (pre o : List Int) (R : Int), (pre ++ t).length ≤ 12 → (∀ x ∈ t, 0 ≤ x ∧ x ≤ 80) → o.length = pre.length → (∀ x ∈ o, 0 ≤ x ∧ x ≤ 5041) →
    -(5041 * pre.length : Int) ≤ R → R ≤ 64 → 0 < (pre ++ t).length →
    Ev (fun k => impl_CountsFor.l1 k l0 o R (pre ++ t) ((pre ++ t).length : Int) (pre.length : Int) kinds) (finish (o ++ t.map (fun n => 1 + moreOf (l0.length : Int) kinds n)) (R - (t.map (fun n => 1 + moreOf (l0.length : Int) kinds n)).sum)) := by
  induction t with
  | nil =>
    intro pre o R hp ht ho hob hL1 hL2 hpos
    simp only [List.append_nil] at hp hpos
    refine Ev.step (fun k => impl_CountsFor.l1.eq_2 _ _ _ _ _ _ _ _) (Ev.neg (by simp) (Ev.pos (by omega) ?_))
    rw [finish_ev o R (by omega) hob (by omega)]
    simpa using Ev.now _
  | cons x t ih =>
    intro pre o R hp ht ho hob hL1 hL2 hpos
    have hp' : pre.length + (t.length + 1) ≤ 12 := by simpa using hp
    have hx := ht x (by simp)
    obtain ⟨m1, m2, m3, m4⟩ := moreOf_bd (l0.length : Int) kinds x hx hk
    have hm := mx_pos (l0.length : Int)
    refine Ev.step (fun k => impl_CountsFor.l1.eq_2 _ _ _ _ _ _ _ _) (Ev.pos (by simp; omega) (Ev.pos (by omega) (Ev.pos (by simp; omega) (Ev.neg (by omega) (Ev.pos (by omega) ?_)))))
    rw [rd_mid, wrap64_id (x := 64 - kinds) (by omega) (by omega), wrap64_id (x := x * (64 - kinds)) (by omega) (by omega)]
    have e : Int.tdiv (x * (64 - kinds)) (mx 1 (l0.length : Int)) = moreOf (l0.length : Int) kinds x := rfl
    rw [e, wrap64_id (x := moreOf (l0.length : Int) kinds x) (by omega) (by omega), wrap64_id (x := 1 + _) (by omega) (by omega), wrap64_id (x := R - _) (by omega) (by omega), wrap64_id (x := (pre.length : Int) + 1) (by omega) (by omega), snoc_len pre x]
    have next := ih (pre ++ [x]) (o ++ [1 + moreOf (l0.length : Int) kinds x]) (R - (1 + moreOf (l0.length : Int) kinds x)) (by simpa using hp) (fun y hy => ht y (by simp [hy])) (by simp [ho])
      (by intro y hy; rcases List.mem_append.1 hy with h | h; exact hob y h; simp at h; omega) (by simp; omega) (by omega) (by simp; omega)
    refine Ev.eq (by simpa using next) ?_
    simp only [List.map_cons, List.sum_cons]
    congr 1
    omega
theorem implL0 (l0 : List Int) (kinds : Int) (r : List Int × Bool) (t : List Int) : ∀ (pre f : List Int) (B : Int), l0 = pre ++ t → l0.length ≤ 80 → (∀ x ∈ f, 0 ≤ x ∧ x ≤ B) → 0 ≤ B → B ≤ pre.length → (∀ s ∈ t, 0 ≤ s ∧ s < (f.length : Int)) →
    Ev (fun k => impl_CountsFor.l1 k l0 [] 64 (tally f t) ((tally f t).length : Int) 0 kinds) r →
    Ev (fun k => impl_CountsFor.l0 k l0 f l0 (l0.length : Int) (pre.length : Int) kinds) r := by
  induction t with
  | nil =>
    intro pre f B he hl hf hB hB2 hs h
    subst he
    exact Ev.step (fun k => impl_CountsFor.l0.eq_2 _ _ _ _ _ _ _) (Ev.neg (by simp) h)
  | cons s t ih =>
    intro pre f B he hl hf hB hB2 hs h
    have h0 := hs s (by simp)
    have hm := hf _ (rd_mem f s h0.1 h0.2)
    have hlen : pre.length + (t.length + 1) ≤ 80 := by rw [he] at hl; simpa using hl
    have hr : rd l0 (pre.length : Int) = s := by rw [he]; exact rd_mid pre s t
    refine Ev.step (fun k => impl_CountsFor.l0.eq_2 _ _ _ _ _ _ _) (Ev.pos (by rw [he]; simp; omega) (Ev.pos (by omega) (Ev.pos (by rw [he]; simp; omega) (Ev.pos (by rw [hr]; exact h0.1) (Ev.pos (by rw [hr]; exact h0.2) ?_)))))
    rw [hr, wrap64_id (x := rd f s + 1) (by omega) (by omega), wrap64_id (x := (pre.length : Int) + 1) (by omega) (by omega), snoc_len pre s]
    exact ih (pre ++ [s]) (f.set s.toNat (rd f s + 1)) (B + 1) (by rw [he]; simp) hl (set_bd hf _ _ (by omega)) (by omega) (by simp; omega) (by intro x hx; simpa using hs x (by simp [hx])) h
theorem specL0 (l0 : List Int) (kinds : Int) (hk : 1 ≤ kinds ∧ kinds ≤ 12) (r : List Int × Bool) (t : List Int) : ∀ (pre f : List Int) (B : Int), l0 = pre ++ t → l0.length ≤ 80 → (∀ x ∈ f, 0 ≤ x ∧ x ≤ B) → 0 ≤ B → B ≤ pre.length → (f.length : Int) = kinds → (∀ s ∈ t, 0 ≤ s ∧ s < kinds) →
    Ev (fun k => spec_CountsFor.l1 k l0 (64 - kinds) (64 - kinds) [] (tally f t) ((tally f t).length : Int) 0) r →
    Ev (fun k => spec_CountsFor.l0 k l0 kinds f l0 (l0.length : Int) (pre.length : Int)) r := by
  induction t with
  | nil =>
    intro pre f B he hl hf hB hB2 hfl hs h
    subst he
    refine Ev.step (fun k => spec_CountsFor.l0.eq_2 _ _ _ _ _ _ _) (Ev.neg (by simp) ?_)
    rw [wrap64_id (x := 64 - kinds) (by omega) (by omega)]
    exact h
  | cons s t ih =>
    intro pre f B he hl hf hB hB2 hfl hs h
    have h0 := hs s (by simp)
    have hm := hf _ (rd_mem f s h0.1 (by omega))
    have hlen : pre.length + (t.length + 1) ≤ 80 := by rw [he] at hl; simpa using hl
    have hr : rd l0 (pre.length : Int) = s := by rw [he]; exact rd_mid pre s t
    have hin : inB s 0 (kinds - 1) = true := inB_iff.2 (by omega)
    refine Ev.step (fun k => spec_CountsFor.l0.eq_2 _ _ _ _ _ _ _) (Ev.pos (by rw [he]; simp; omega) (Ev.pos (by omega) (Ev.pos (by rw [he]; simp; omega) ?_)))
    rw [hr, wrap64_id (x := kinds - 1) (by omega) (by omega)]
    refine Ev.bindo (l1In_eq _ _ _) (Ev.pos hin (Ev.pos h0.1 (Ev.pos (by omega) ?_)))
    rw [wrap64_id (x := rd f s + 1) (by omega) (by omega), wrap64_id (x := (pre.length : Int) + 1) (by omega) (by omega), snoc_len pre s]
    exact ih (pre ++ [s]) (f.set s.toNat (rd f s + 1)) (B + 1) (by rw [he]; simp) hl (set_bd hf _ _ (by omega)) (by omega) (by simp; omega) (by simpa using hfl) (fun x hx => hs x (by simp [hx])) h
/-- A symbol that is none: the reference says no. -/
theorem specL0_no (l0 : List Int) (kinds : Int) (hk : 1 ≤ kinds ∧ kinds ≤ 12) (t : List Int) : ∀ (pre f : List Int) (B : Int), l0 = pre ++ t → l0.length ≤ 80 → (∀ x ∈ f, 0 ≤ x ∧ x ≤ B) → 0 ≤ B → B ≤ pre.length → (f.length : Int) = kinds → ¬ (∀ s ∈ t, 0 ≤ s ∧ s < kinds) →
    Ev (fun k => spec_CountsFor.l0 k l0 kinds f l0 (l0.length : Int) (pre.length : Int)) ([], false) := by
  induction t with
  | nil => intro pre f B he hl hf hB hB2 hfl hs; exact absurd (fun s h => by simp at h) hs
  | cons s t ih =>
    intro pre f B he hl hf hB hB2 hfl hs
    have hlen : pre.length + (t.length + 1) ≤ 80 := by rw [he] at hl; simpa using hl
    have hr : rd l0 (pre.length : Int) = s := by rw [he]; exact rd_mid pre s t
    refine Ev.step (fun k => spec_CountsFor.l0.eq_2 _ _ _ _ _ _ _) (Ev.pos (by rw [he]; simp; omega) (Ev.pos (by omega) (Ev.pos (by rw [he]; simp; omega) ?_)))
    rw [hr, wrap64_id (x := kinds - 1) (by omega) (by omega)]
    by_cases h0 : 0 ≤ s ∧ s < kinds
    · have hm := hf _ (rd_mem f s h0.1 (by omega))
      refine Ev.bindo (l1In_eq _ _ _) (Ev.pos (inB_iff.2 (by omega)) (Ev.pos h0.1 (Ev.pos (by omega) ?_)))
      rw [wrap64_id (x := rd f s + 1) (by omega) (by omega), wrap64_id (x := (pre.length : Int) + 1) (by omega) (by omega), snoc_len pre s]
      refine ih (pre ++ [s]) (f.set s.toNat (rd f s + 1)) (B + 1) (by rw [he]; simp) hl (set_bd hf _ _ (by omega)) (by omega) (by simp; omega) (by simpa using hfl) (fun h => hs ?_)
      intro x hx
      rcases List.mem_cons.1 hx with rfl | hx
      · exact h0
      · exact h x hx
    · exact Ev.bindo (l1In_eq _ _ _) (Ev.neg (by rw [inB_iff]; omega) (Ev.now _))
theorem tally_zero (f : List Int) : tally f [] = f := rfl
theorem countsFor_both (l : List Int) (kinds : Int) (hl : l.length ≤ 35184372088832) : ∃ (xs : List Int) (b : Bool), xs.length ≤ 12 ∧ Ev (fun k => spec_CountsFor.f k l kinds) (xs, b) ∧ Ev (fun k => impl_CountsFor.f k l kinds) (xs, b) := by
  unfold spec_CountsFor.f impl_CountsFor.f
  by_cases hk : inB kinds 1 12 = true
  · have hk' := inB_iff.1 hk
    by_cases h80 : (l.length : Int) > 80
    · refine ⟨[], false, by simp, Ev.bindo (l1In_eq _ _ _) (Ev.pos hk ?_), Ev.pos h80 ?_⟩
      · exact Ev.step (fun k => spec_CountsFor.j0.eq_2 _ _ _ _) (Ev.pos (by simpa using h80) (Ev.now _))
      · exact Ev.step (fun k => impl_CountsFor.j0.eq_2 _ _ _ _) (Ev.pos rfl (Ev.now _))
    have h80' : l.length ≤ 80 := by omega
    have hrep : ∀ x ∈ List.replicate kinds.toNat (0 : Int), 0 ≤ x ∧ x ≤ 0 := by
      intro x hx
      rw [List.eq_of_mem_replicate hx]
      omega
    have hrl : ((List.replicate kinds.toNat (0 : Int)).length : Int) = kinds := by simp; omega
    by_cases hs : ∀ s ∈ l, 0 ≤ s ∧ s < kinds
    · obtain ⟨tl, tb⟩ := tally_ok l (List.replicate kinds.toNat 0) 0 hrep (by rw [hrl]; exact hs) (by omega)
      have tl' : ((tally (List.replicate kinds.toNat 0) l).length : Int) = kinds := by rw [tl]; exact hrl
      have hany : cf_impl_CountsFor_1.f l kinds = some false := by
        unfold cf_impl_CountsFor_1.f
        simp only [within_eq, Option.bind_some, anyO_some]
        congr 1
        rw [List.any_eq_false]
        intro x hx
        have := hs x hx
        rw [wrap64_id (by omega) (by omega), inB_iff.2 (by omega)]
        simp
      have tb' : ∀ x ∈ tally (List.replicate kinds.toNat 0) l, 0 ≤ x ∧ x ≤ 80 := fun x hx => by have := tb x hx; omega
      have tz : l.length = 0 → ∀ x ∈ tally (List.replicate kinds.toNat 0) l, x = 0 := by
        intro h x hx
        have := tb x hx
        rw [h] at this
        omega
      have s1 := specL1 l kinds hk' h80' (fun _ => trivial) (tally (List.replicate kinds.toNat 0) l) [] [] (64 - kinds) (by simp; omega) tb' tz rfl (by simp) (by simp; omega) (by omega) (by simp; omega)
      have i1 := implL1 l kinds hk' h80' (tally (List.replicate kinds.toNat 0) l) [] [] 64 (by simp; omega) tb' rfl (by simp) (by simp) (by omega) (by simp; omega)
      have esum : ∀ f : List Int, (f.map (fun n => 1 + moreOf (l.length : Int) kinds n)).sum = f.length + (f.map (moreOf (l.length : Int) kinds)).sum := by
        intro f
        induction f with
        | nil => rfl
        | cons x t ih => simp only [List.map_cons, List.sum_cons, List.length_cons, ih]; push_cast; omega
      rw [esum, tl', show (64 : Int) - (kinds + ((tally (List.replicate kinds.toNat 0) l).map (moreOf (l.length : Int) kinds)).sum) = 64 - kinds - ((tally (List.replicate kinds.toNat 0) l).map (moreOf (l.length : Int) kinds)).sum by omega] at i1
      refine ⟨(finish (tally (List.replicate kinds.toNat 0) l |>.map (fun n => 1 + moreOf (l.length : Int) kinds n)) (64 - kinds - ((tally (List.replicate kinds.toNat 0) l).map (moreOf (l.length : Int) kinds)).sum)).1, true, by unfold finish; simp; omega, Ev.bindo (l1In_eq _ _ _) (Ev.pos hk ?_), Ev.neg h80 (Ev.bindo (within_eq _ _ _) (Ev.pos hk (Ev.bindo hany ?_)))⟩
      · refine Ev.step (fun k => spec_CountsFor.j0.eq_2 _ _ _ _) (Ev.neg (by simpa using h80) (Ev.pos (by omega) (Ev.pos (by omega) ?_)))
        have := specL0 l kinds hk' _ l [] (List.replicate kinds.toNat 0) 0 rfl h80' hrep (by omega) (by simp) hrl hs (by simpa using s1)
        simpa [finish] using this
      · refine Ev.step (fun k => impl_CountsFor.j0.eq_2 _ _ _ _) (Ev.neg (by simp) (Ev.pos (by omega) (Ev.pos (by omega) ?_)))
        have := implL0 l kinds _ l [] (List.replicate kinds.toNat 0) 0 rfl h80' hrep (by omega) (by simp) (by rw [hrl]; exact hs) (by simpa using i1)
        simpa [finish] using this
    · have hany : cf_impl_CountsFor_1.f l kinds = some true := by
        unfold cf_impl_CountsFor_1.f
        simp only [within_eq, Option.bind_some, anyO_some]
        congr 1
        rw [List.any_eq_true]
        have : ∃ s, s ∈ l ∧ ¬ (0 ≤ s ∧ s < kinds) := by
          refine Classical.byContradiction fun hn => hs fun s hm => Classical.byContradiction fun h => hn ⟨s, hm, h⟩
        obtain ⟨s, hm, hn⟩ := this
        refine ⟨s, hm, ?_⟩
        rw [wrap64_id (by omega) (by omega), inB_no.2 (by omega)]
        rfl
      refine ⟨[], false, by simp, Ev.bindo (l1In_eq _ _ _) (Ev.pos hk ?_), Ev.neg h80 (Ev.bindo (within_eq _ _ _) (Ev.pos hk (Ev.bindo hany ?_)))⟩
      · refine Ev.step (fun k => spec_CountsFor.j0.eq_2 _ _ _ _) (Ev.neg (by simpa using h80) (Ev.pos (by omega) (Ev.pos (by omega) ?_)))
        exact specL0_no l kinds hk' l [] (List.replicate kinds.toNat 0) 0 rfl h80' hrep (by omega) (by simp) hrl hs
      · exact Ev.step (fun k => impl_CountsFor.j0.eq_2 _ _ _ _) (Ev.pos rfl (Ev.now _))
  · refine ⟨[], false, by simp, Ev.bindo (l1In_eq _ _ _) (Ev.neg hk ?_), ?_⟩
    · exact Ev.step (fun k => spec_CountsFor.j0.eq_2 _ _ _ _) (Ev.pos rfl (Ev.now _))
    · by_cases h80 : (l.length : Int) > 80
      · exact Ev.pos h80 (Ev.step (fun k => impl_CountsFor.j0.eq_2 _ _ _ _) (Ev.pos rfl (Ev.now _)))
      · exact Ev.neg h80 (Ev.bindo (within_eq _ _ _) (Ev.neg hk (Ev.step (fun k => impl_CountsFor.j0.eq_2 _ _ _ _) (Ev.pos rfl (Ev.now _)))))

end QFnExactCountsFor
open QFnExactCountsFor
theorem FnExactCountsFor : laws_FnExactCountsFor.Pure := by
  intro l kinds hm hl hw hwk
  refine Ev.rounds ?_
  unfold laws_FnExactCountsFor.f
  by_cases hb : (l.length : Int) > 1048576
  · exact Ev.pos hb (Ev.now _)
  have hs : l.length ≤ 35184372088832 := by omega
  obtain ⟨xs, b, hx, h1, h2⟩ := countsFor_both l kinds hs
  have hx' : xs.length ≤ 35184372088832 := by omega
  refine Ev.neg hb (Ev.bind (toIntS_ev l hs) (Ev.bind h1 (Ev.bind (toIntS_ev l hs) (Ev.bind h2 (Ev.bind (eqIntS_self xs hx') (Ev.pos rfl ?_))))))
  have m1 := markIntS_ev l 1 (by omega) hs
  have m2 := markIntS_ev xs 1 (by omega) hx'
  have k1 := heldIntS_ev xs.length 1 hx' (by omega)
  have n1 : ¬ ((1 + l.length : Nat) : Int) < 0 := by omega
  have n2 : ¬ ((1 + xs.length : Nat) : Int) < 0 := by omega
  refine Ev.step (fun k => laws_FnExactCountsFor.j0.eq_2 _ _ _ _ _ _ _ _ _) (Ev.neg (by simp) (Ev.bind (toIntS_ev l hs) (Ev.bind (eqIntS_self l hs) (Ev.pos rfl (Ev.bind m1 (Ev.neg n1 (Ev.bind (eqIntS_self xs hx') (Ev.pos rfl ?_))))))))
  refine Ev.step (fun k => laws_FnExactCountsFor.j1.eq_2 _ _ _ _ _ _ _) (Ev.neg (by simp) (Ev.bind m2 (Ev.bind k1 (Ev.neg n2 (Ev.pos rfl (Ev.bind (toIntS_ev l hs) (Ev.bind h2 (Ev.bind (eqIntS_self xs hx') (Ev.pos rfl ?_)))))))))
  exact Ev.step (fun k => laws_FnExactCountsFor.j2.eq_2 _ _ _ _) (Ev.neg (by simp) (Ev.bind k1 (Ev.neg n2 (Ev.pos rfl (Ev.now _)))))

end Go.Proofs.Ytppgkkejddjacaa.Pure
