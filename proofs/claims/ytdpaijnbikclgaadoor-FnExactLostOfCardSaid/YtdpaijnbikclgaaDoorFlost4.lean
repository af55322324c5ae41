/- Part of the evaluator's contracts: lost4. -/
import Derived.Test.YtdpaijnbikclgaaDoorFlost3
import Derived.Test.YtdpaijnbikclgaaDoorFclu4
import Derived.Test.YtdpaijnbikclgaaDoorFclu5
namespace Go.Proofs.YtdpaijnbikclgaaDoorB
open Go Go.Proofs.YtdpaijnbikclgaaDoorE
set_option linter.unusedVariables false
set_option linter.unusedSectionVars false
set_option linter.unusedSimpArgs false
set_option maxHeartbeats 4000000
set_option maxRecDepth 20000
def sumN (f : Nat → Nat) : Nat → Nat
  | 0 => 0
  | n + 1 => sumN f n + f n
theorem sumN_congr {f g : Nat → Nat} : ∀ {n : Nat}, (∀ i, i < n → f i = g i) → sumN f n = sumN g n
  | 0, _ => rfl
  | n + 1, h => by rw [sumN, sumN, sumN_congr fun i hi => h i (by omega), h n (by omega)]
theorem sumN_zero {f : Nat → Nat} : ∀ {n : Nat}, (∀ i, i < n → f i = 0) → sumN f n = 0
  | 0, _ => rfl
  | n + 1, h => by rw [sumN, sumN_zero fun i hi => h i (by omega), h n (by omega)]
theorem sumN_le {f : Nat → Nat} : ∀ {n : Nat}, (∀ i, i < n → f i ≤ 1) → sumN f n ≤ n
  | 0, _ => Nat.le_refl _
  | n + 1, h => by
    have := sumN_le (f := f) (n := n) fun i hi => h i (by omega)
    have := h n (by omega)
    rw [sumN]; omega
theorem sumN_add (f g : Nat → Nat) : ∀ n : Nat, sumN (fun i => f i + g i) n = sumN f n + sumN g n
  | 0 => rfl
  | n + 1 => by rw [sumN, sumN, sumN, sumN_add f g n]; omega
theorem sumN_swap (h : Nat → Nat → Nat) (N : Nat) : ∀ n : Nat, sumN (fun a => sumN (fun b => h a b) N) n = sumN (fun b => sumN (fun a => h a b) n) N
  | 0 => by rw [sumN, sumN_zero]; intros; rfl
  | n + 1 => by
    rw [sumN, sumN_swap h N n, ← sumN_add]
    rfl
theorem sumN_one {f : Nat → Nat} {p : Nat} : ∀ {n : Nat}, p < n → (∀ i, i < n → i ≠ p → f i = 0) → sumN f n = f p
  | 0, h, _ => by omega
  | n + 1, h, hz => by
    rw [sumN]
    by_cases e : p = n
    · subst e; rw [sumN_zero fun i hi => hz i (by omega) (by omega)]; omega
    · rw [sumN_one (p := p) (by omega) fun i hi hp => hz i (by omega) hp, hz n (by omega) (by omega)]; omega
theorem intact_sum (kk : Int) (o : Object) (l : List (List Cell)) : ∀ n, n ≤ l.length → (intactL kk o (l.take n)).length = sumN (fun a => ((l.getD a []).filterMap (pickI kk o)).length) n
  | 0, _ => by simp [intactL, sumN]
  | n + 1, h => by
    have hlt : n < l.length := by omega
    rw [intactL_s kk o l hlt, List.length_append, intact_sum kk o l n (by omega), sumN, List.getD_eq_getElem?_getD, List.getElem?_eq_getElem hlt]; rfl
theorem whole_sum (kk : Int) (o : Object) (l : List (List Cell)) : ∀ n, (wholeL kk l o n).length = sumN (fun b => (nodeSh kk l o b).length) n
  | 0 => by simp [wholeL, sumN]
  | n + 1 => by rw [wholeL_s, List.length_append, whole_sum kk o l n, sumN]
theorem fm_len {α β : Type} (f : α → Option β) (x : α) (c : List α) : ((x :: c).filterMap f).length = (f x).toList.length + (c.filterMap f).length := by
  cases hf : f x <;> simp [hf]; omega
theorem pick_sum (kk : Int) (o : Object) (x : Cell) {N : Nat} (hn : MatchP kk o x → 0 ≤ x.no ∧ x.no < (N : Int)) : (pickI kk o x).toList.length = sumN (fun b => (pickS kk o b x).toList.length) N := by
  by_cases hM : MatchP kk o x
  · have hn := hn hM
    rw [sumN_one (p := x.no.toNat) (by omega)]
    · unfold pickI pickS; rw [if_pos hM, if_pos ⟨hM, by omega⟩]
    · intro i hi hp
      unfold pickS; rw [if_neg (fun h => hp (by have := h.2; omega))]; rfl
  · rw [sumN_zero]
    · unfold pickI; rw [if_neg hM]; rfl
    · intro i hi
      unfold pickS; rw [if_neg (fun h => hM h.1)]; rfl
theorem node_sum (kk : Int) (o : Object) {N : Nat} : ∀ c : List Cell, (∀ x ∈ c, MatchP kk o x → 0 ≤ x.no ∧ x.no < (N : Int)) → (c.filterMap (pickI kk o)).length = sumN (fun b => (c.filterMap (pickS kk o b)).length) N
  | [], _ => by rw [sumN_zero]; rfl; intros; rfl
  | x :: c, h => by
    rw [fm_len, pick_sum kk o x (h x (by simp)), node_sum kk o c fun y hy => h y (by simp [hy]), ← sumN_add]
    exact sumN_congr fun b _ => (fm_len _ _ _).symm
theorem nm_eq {a b : ByteArray} (h : (a.toList == b.toList) = true) : a = b := by
  have h := beq_iff_eq.1 h
  rw [toL, toL] at h
  exact ByteArray.ext (Array.toList_inj.1 h)
theorem whole_len {kk mm : Int} {l : List (List Cell)} {q : List Object} (hG : GoodP kk mm l q) (o : Object) : (intactL kk o l).length = (wholeL kk l o (kk + mm).toNat).length := by
  have hb := shp_bd2 hG.shape
  have hnd := hG.nodes
  have h1 := intact_sum kk o l l.length (Nat.le_refl _)
  rw [List.take_length] at h1
  rw [h1, whole_sum]
  have h2 : sumN (fun a => ((l.getD a []).filterMap (pickI kk o)).length) l.length = sumN (fun a => sumN (fun b => ((l.getD a []).filterMap (pickS kk o b)).length) (kk + mm).toNat) l.length := by
    refine sumN_congr fun a ha => node_sum kk o _ ?_
    rw [List.getD_eq_getElem?_getD, List.getElem?_eq_getElem ha]
    intro x hx _
    obtain ⟨i, hi, rfl⟩ := List.getElem_of_mem hx
    have := (hG.ce a ha i hi).no
    exact ⟨this.1, by simp; omega⟩
  rw [h2, sumN_swap]
  refine sumN_congr fun b hb2 => ?_
  have hp := plc_bd o.name (b : Int) (l.length : Int) (by omega) (by omega)
  rw [sumN_one (p := (plc o.name (b : Int) l.length).toNat) (by omega)]
  · rfl
  · intro a ha hne
    rw [List.getD_eq_getElem?_getD, List.getElem?_eq_getElem ha, Option.getD_some, List.length_eq_zero_iff, List.filterMap_eq_nil_iff]
    intro x hx
    obtain ⟨i, hi, rfl⟩ := List.getElem_of_mem hx
    have hpl := (hG.ce a ha i hi).pl
    unfold pickS
    refine if_neg fun h => hne ?_
    rw [nm_eq h.1.nm] at hpl
    have e : ((l[a]'ha)[i]'hi).no = (b : Int) := h.2
    rw [e] at hpl
    omega
theorem lessC_trans {a b c : Cell} (h1 : lessC a b = true) (h2 : lessC b c = true) : lessC a c = true := by
  unfold lessC lessN at *
  simp only [Bool.or_eq_true, Bool.and_eq_true, beq_iff_eq, decide_eq_true_eq] at *
  rcases h1 with h1 | ⟨h1, h1'⟩ <;> rcases h2 with h2 | ⟨h2, h2'⟩
  · exact .inl (less_trans h1 h2)
  · exact .inl (h2 ▸ h1)
  · exact .inl (h1 ▸ h2)
  · exact .inr ⟨h1.trans h2, by omega⟩
theorem csorted_lt {c : List Cell} (h : ∀ i (hi : i < c.length), ∀ h0 : 0 < i, lessC (c[i - 1]'(by omega)) c[i] = true) : ∀ (d a : Nat) (hb : a + d + 1 < c.length), lessC (c[a]'(by omega)) (c[a + d + 1]'hb) = true
  | 0, a, hb => h (a + 1) hb (by omega)
  | d + 1, a, hb => lessC_trans (csorted_lt h d a (by omega)) (h (a + (d + 1) + 1) hb (by omega))
theorem fm_one {α β : Type} {f : α → Option β} : ∀ {c : List α}, c.Pairwise (fun x y => f x = none ∨ f y = none) → (c.filterMap f).length ≤ 1
  | [], _ => by simp
  | x :: c, h => by
    rw [List.pairwise_cons] at h
    rw [fm_len]
    cases hf : f x with
    | none => have := fm_one h.2; simpa using this
    | some v =>
      have : c.filterMap f = [] := List.filterMap_eq_nil_iff.2 fun y hy => by
        rcases h.1 y hy with e | e
        · rw [hf] at e; cases e
        · exact e
      rw [this]; simp
theorem pickS_some {kk : Int} {o : Object} {b : Nat} {x : Cell} (h : pickS kk o b x ≠ none) : x.name = o.name ∧ x.no = (b : Int) := by
  unfold pickS at h
  split at h
  · rename_i e; exact ⟨nm_eq e.1.nm, e.2⟩
  · exact absurd rfl h
theorem whole_le {kk mm : Int} {l : List (List Cell)} {q : List Object} (hG : GoodP kk mm l q) (o : Object) : (wholeL kk l o (kk + mm).toNat).length ≤ (kk + mm).toNat := by
  have hb := shp_bd2 hG.shape
  have hnd := hG.nodes
  rw [whole_sum]
  refine sumN_le fun b hb2 => ?_
  have hp := plc_bd o.name (b : Int) (l.length : Int) (by omega) (by omega)
  have ha : (plc o.name (b : Int) l.length).toNat < l.length := by omega
  unfold nodeSh
  rw [List.getD_eq_getElem?_getD, List.getElem?_eq_getElem ha, Option.getD_some]
  refine fm_one (List.pairwise_iff_getElem.2 fun i j hi hj hij => ?_)
  obtain ⟨d, rfl⟩ : ∃ d, j = i + d + 1 := ⟨j - i - 1, by omega⟩
  have hl := csorted_lt (fun i hi h0 => (hG.ce _ ha i hi).o h0) d i hj
  rcases Classical.em (pickS kk o b ((l[(plc o.name (b : Int) l.length).toNat]'ha)[i]'hi) = none) with e | e
  · exact .inl e
  · refine .inr (Classical.byContradiction fun e2 => ?_)
    have e1 := pickS_some e
    have e2 := pickS_some e2
    unfold lessC lessN at hl
    rw [e1.1, e2.1, e1.2, e2.2, less_irr] at hl
    simp at hl
end Go.Proofs.YtdpaijnbikclgaaDoorB
