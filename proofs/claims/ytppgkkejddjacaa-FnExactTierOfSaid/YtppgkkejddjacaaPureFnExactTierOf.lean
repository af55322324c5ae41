/- The law FnExactTierOf holds: for every argument within the row's bounds the printed function answers true. No further condition. -/
import Derived.Test.YtppgkkejddjacaaPFnExactTierOfx7
set_option linter.unusedVariables false
namespace Go.Proofs.Ytppgkkejddjacaa.Pure
open Go.RowKit Go.Proofs.Ytppgkkejddjacaa.PFnExactTierOf Go.Proofs.YtppgkkejddjacaaW.PrintWords Go.Proofs.YtppgkkejddjacaaW.PrintLast
namespace QFnExactTierOf
/-! ### Rounds -/
theorem Ev.pos {α : Type} {c : Prop} [Decidable c] {g f : Nat → Option α} {r : α} (hc : c) (h : Ev g r) : Ev (fun k => if c then g k else f k) r :=
  Ev.congr (fun _ => if_pos hc) h
theorem Ev.neg {α : Type} {c : Prop} [Decidable c] {g f : Nat → Option α} {r : α} (hc : ¬ c) (h : Ev f r) : Ev (fun k => if c then g k else f k) r :=
  Ev.congr (fun _ => if_neg hc) h
theorem Ev.bindo {α β : Type} {o : Option α} {f : Nat → α → Option β} {a : α} {r : β} (h : o = some a) (k : Ev (fun n => f n a) r) : Ev (fun n => o.bind (f n)) r :=
  Ev.congr (fun n => by rw [h]; rfl) k
theorem Ev.eq {α : Type} {g : Nat → Option α} {r s : α} (h : Ev g r) (e : r = s) : Ev g s := e ▸ h
theorem wrap64_id {x : Int} (h1 : -9223372036854775808 ≤ x) (h2 : x ≤ 9223372036854775807) : wrap64 x = x := by
  unfold wrap64
  omega
theorem wrap64_lo (x : Int) : -9223372036854775808 ≤ wrap64 x ∧ wrap64 x ≤ 9223372036854775807 := by
  unfold wrap64
  omega
theorem wf_i64 {x : Int} (h : (Lit.int .i64 x).wf = true) : -9223372036854775808 ≤ x ∧ x ≤ 9223372036854775807 := by
  simp [Lit.wf, IntKind.min, IntKind.max, IntKind.signed, IntKind.bits] at h
  omega
/-- Is a number in a range? -/
def inB (a b c : Int) : Bool := decide (b ≤ a) && decide (a ≤ c)
theorem inB_iff {a b c : Int} : inB a b c = true ↔ b ≤ a ∧ a ≤ c := by simp [inB]
theorem inB_no {a b c : Int} : inB a b c = false ↔ ¬ (b ≤ a ∧ a ≤ c) := by rw [← inB_iff]; simp

theorem l1In_eq (a b c : Int) : spec_l1In.f a b c = some (inB a b c) := by
  unfold spec_l1In.f inB
  by_cases h : b ≤ a <;> simp [h]
theorem within_eq (a b c : Int) : impl_within.f a b c = some (inB a b c) := by
  unfold impl_within.f inB
  by_cases h : b ≤ a <;> simp [h]

/-! ### Is there one for which it holds -/
theorem anyO_ev {α : Type} {f : Nat → α → Option Bool} {b : α → Bool} : ∀ (l : List α), (∀ x ∈ l, Ev (fun k => f k x) (b x)) → Ev (fun k => anyO (f k) l) (l.any b) := by
  intro l
  induction l with
  | nil => intro _; exact Ev.now _
  | cons x t ih =>
    intro h
    have ht := ih (fun y hy => h y (by simp [hy]))
    rw [List.any_cons]
    refine Ev.bind (f := fun k (b : Bool) => if b = true then some true else anyO (f k) t) (h x (by simp)) ?_
    cases hb : b x
    · exact Ev.neg (by simp) (by simpa using ht)
    · exact Ev.pos rfl (Ev.now _)

/-! ### Shelves: copied, measured -/
abbrev LP := S134
abbrev LK := S137
abbrev IP := S101
abbrev IK := S99
def toP (p : LP) : IP := ⟨p.f0, p.f1, p.f2⟩
def toK (p : LK) : IK := ⟨p.f0, p.f1⟩
abbrev FitP (p : LP) : Prop := (Lit.int .i64 p.f0).wf = true ∧ (Lit.int .i64 p.f1).wf = true ∧ p.f2.size ≤ 140737488351232
abbrev FitK (p : LK) : Prop := (Lit.int .i64 p.f0).wf = true ∧ (Lit.int .i64 p.f1).wf = true
abbrev FitShelf (p : List LP) (q : List LK) : Prop := (p.length ≤ maxLen ∧ p.length * 32 ≤ 140737488351232 ∧ ∀ x ∈ p, FitP x) ∧ (q.length ≤ maxLen ∧ q.length * 16 ≤ 140737488351232 ∧ ∀ x ∈ q, FitK x)

/-! ### Records copied: PartS -/
theorem rd134_nat (l : List S134) (i : Nat) (h : i < l.length) : rd_T134 l (i : Int) = l[i] := by
  simp [rd_T134, List.getD_eq_getElem?_getD, List.getElem?_eq_getElem h]
theorem toPartS_loop (l : List S134) (hl : l.length ≤ 8796093022208) : ∀ (d i : Nat) (xs : List S101), i + d = l.length → xs.length = l.length → xs.take i = (l.map toP).take i →
    Ev (fun k => laws_toPartS.l0 k l xs (i : Int)) (l.map toP) := by
  intro d
  induction d with
  | zero =>
    intro i xs hi hx hp
    refine Ev.step (fun k => laws_toPartS.l0.eq_2 _ _ _ _) (Ev.neg (by omega) ?_)
    have e : xs = l.map toP := by
      rw [List.take_of_length_le (by omega), List.take_of_length_le (by simp; omega)] at hp
      exact hp
    rw [e]
    exact Ev.now _
  | succ d ih =>
    intro i xs hi hx hp
    refine Ev.step (fun k => laws_toPartS.l0.eq_2 _ _ _ _) (Ev.pos (by omega) (Ev.pos (by omega) (Ev.bindo rfl (Ev.pos (by omega) ?_))))
    rw [wrap64_id (by omega) (by omega)]
    show Ev (fun k => laws_toPartS.l0 k l (xs.set (i : Int).toNat (toP (rd_T134 l (i : Int)))) ((i : Int) + 1)) _
    rw [rd134_nat l i (by omega)]
    have := ih (i + 1) (xs.set (i : Int).toNat (toP l[i])) (by omega) (by simp [hx]) (by
      rw [List.take_add_one, List.take_add_one]
      simp only [Int.toNat_natCast, List.take_set, hp]
      rw [List.getElem?_set_self (by omega), List.getElem?_eq_getElem (by simp; omega : i < (l.map toP).length), List.set_eq_of_length_le (by simp; omega)]
      simp)
    exact this
theorem toPartS_ev (l : List S134) (hl : l.length ≤ 8796093022208) : Ev (fun k => laws_toPartS.f k l) (l.map toP) := by
  unfold laws_toPartS.f
  refine Ev.pos (by omega) (Ev.pos (by omega) ?_)
  exact toPartS_loop l hl l.length 0 _ (by omega) (by simp) (by simp)

/-! ### Records copied: KeptS -/
theorem rd137_nat (l : List S137) (i : Nat) (h : i < l.length) : rd_T137 l (i : Int) = l[i] := by
  simp [rd_T137, List.getD_eq_getElem?_getD, List.getElem?_eq_getElem h]
theorem toKeptS_loop (l : List S137) (hl : l.length ≤ 17592186044416) : ∀ (d i : Nat) (xs : List S99), i + d = l.length → xs.length = l.length → xs.take i = (l.map toK).take i →
    Ev (fun k => laws_toKeptS.l0 k l xs (i : Int)) (l.map toK) := by
  intro d
  induction d with
  | zero =>
    intro i xs hi hx hp
    refine Ev.step (fun k => laws_toKeptS.l0.eq_2 _ _ _ _) (Ev.neg (by omega) ?_)
    have e : xs = l.map toK := by
      rw [List.take_of_length_le (by omega), List.take_of_length_le (by simp; omega)] at hp
      exact hp
    rw [e]
    exact Ev.now _
  | succ d ih =>
    intro i xs hi hx hp
    refine Ev.step (fun k => laws_toKeptS.l0.eq_2 _ _ _ _) (Ev.pos (by omega) (Ev.pos (by omega) (Ev.bindo rfl (Ev.pos (by omega) ?_))))
    rw [wrap64_id (by omega) (by omega)]
    show Ev (fun k => laws_toKeptS.l0 k l (xs.set (i : Int).toNat (toK (rd_T137 l (i : Int)))) ((i : Int) + 1)) _
    rw [rd137_nat l i (by omega)]
    have := ih (i + 1) (xs.set (i : Int).toNat (toK l[i])) (by omega) (by simp [hx]) (by
      rw [List.take_add_one, List.take_add_one]
      simp only [Int.toNat_natCast, List.take_set, hp]
      rw [List.getElem?_set_self (by omega), List.getElem?_eq_getElem (by simp; omega : i < (l.map toK).length), List.set_eq_of_length_le (by simp; omega)]
      simp)
    exact this
theorem toKeptS_ev (l : List S137) (hl : l.length ≤ 17592186044416) : Ev (fun k => laws_toKeptS.f k l) (l.map toK) := by
  unfold laws_toKeptS.f
  refine Ev.pos (by omega) (Ev.pos (by omega) ?_)
  exact toKeptS_loop l hl l.length 0 _ (by omega) (by simp) (by simp)

/-! ### Records compared: PartS -/
theorem eqPartS_loop (l : List S101) (hl : l.length ≤ 35184372088832) : ∀ (d i : Nat), i + d = l.length → Ev (fun k => laws_eqPartS.l0 k l l (i : Int)) true := by
  intro d
  induction d with
  | zero =>
    intro i hi
    exact Ev.step (fun k => laws_eqPartS.l0.eq_2 _ _ _ _) (Ev.neg (by omega) (Ev.now _))
  | succ d ih =>
    intro i hi
    refine Ev.step (fun k => laws_eqPartS.l0.eq_2 _ _ _ _) (Ev.pos (by omega) (Ev.pos (by omega) (Ev.pos (by omega) (Ev.bindo (a := true) (by simp [laws_eqPart.f]) (Ev.pos rfl ?_)))))
    rw [wrap64_id (by omega) (by omega)]
    exact ih (i + 1) (by omega)
theorem eqPartS_self (l : List S101) (hl : l.length ≤ 35184372088832) : Ev (fun k => laws_eqPartS.f k l l) true := by
  unfold laws_eqPartS.f
  exact Ev.pos rfl (eqPartS_loop l hl l.length 0 (by omega))

/-! ### Records compared: KeptS -/
theorem eqKeptS_loop (l : List S99) (hl : l.length ≤ 35184372088832) : ∀ (d i : Nat), i + d = l.length → Ev (fun k => laws_eqKeptS.l0 k l l (i : Int)) true := by
  intro d
  induction d with
  | zero =>
    intro i hi
    exact Ev.step (fun k => laws_eqKeptS.l0.eq_2 _ _ _ _) (Ev.neg (by omega) (Ev.now _))
  | succ d ih =>
    intro i hi
    refine Ev.step (fun k => laws_eqKeptS.l0.eq_2 _ _ _ _) (Ev.pos (by omega) (Ev.pos (by omega) (Ev.pos (by omega) (Ev.bindo (a := true) (by simp [laws_eqKept.f]) (Ev.pos rfl ?_)))))
    rw [wrap64_id (by omega) (by omega)]
    exact ih (i + 1) (by omega)
theorem eqKeptS_self (l : List S99) (hl : l.length ≤ 35184372088832) : Ev (fun k => laws_eqKeptS.f k l l) true := by
  unfold laws_eqKeptS.f
  exact Ev.pos rfl (eqKeptS_loop l hl l.length 0 (by omega))

theorem szPartS_loop (l : List LP) (hl : l.length ≤ 35184372088832) (hs : ∀ x ∈ l, x.f2.size ≤ 140737488351232) : ∀ (d i : Nat) (n : Int), i + d = l.length → 0 ≤ n → n ≤ 1048576 → ∃ r : Int, Ev (fun k => laws_szPartS.l0 k l n (i : Int)) r ∧ -1 ≤ r ∧ r ≤ n := by
  intro d
  induction d with
  | zero =>
    intro i n hi h0 h1
    exact ⟨n, Ev.step (fun k => laws_szPartS.l0.eq_2 _ _ _ _) (Ev.neg (by omega) (Ev.now _)), by omega, by omega⟩
  | succ d ih =>
    intro i n hi h0 h1
    have hx := hs l[i] (List.getElem_mem _)
    have e := rd134_nat l i (by omega)
    by_cases h : n - (l[i].f2.size : Int) < 0
    · refine ⟨-1, Ev.step (fun k => laws_szPartS.l0.eq_2 _ _ _ _) (Ev.pos (by omega) (Ev.pos (by omega) (Ev.bindo (a := -1) ?_ (Ev.pos (by omega) (Ev.now _))))), by omega, by omega⟩
      unfold laws_szPart.f
      rw [e, wrap64_id (by omega) (by omega), if_pos h]
    · obtain ⟨r, hr, h2, h3⟩ := ih (i + 1) (n - (l[i].f2.size : Int)) (by omega) (by omega) (by omega)
      refine ⟨r, Ev.step (fun k => laws_szPartS.l0.eq_2 _ _ _ _) (Ev.pos (by omega) (Ev.pos (by omega) (Ev.bindo (a := n - (l[i].f2.size : Int)) ?_ (Ev.neg h ?_)))), h2, by omega⟩
      · unfold laws_szPart.f
        rw [e, wrap64_id (by omega) (by omega), if_neg h]
      · rw [wrap64_id (by omega) (by omega)]
        exact hr
theorem szShelf_ev (p : List LP) (q : List LK) (h : FitShelf p q) : ∃ r : Int, Ev (fun k => laws_szShelf.f k p q 1048576) r ∧ (0 ≤ r → p.length ≤ 1048576 ∧ q.length ≤ 1048576) := by
  obtain ⟨⟨h1, h2, h3⟩, h4, h5, h6⟩ := h
  unfold laws_szShelf.f laws_szPartS.f
  rw [wrap64_id (by omega) (by omega)]
  by_cases c : (1048576 : Int) - (p.length : Int) < 0
  · exact ⟨-1, Ev.bind (Ev.pos c (Ev.now _)) (Ev.pos (by omega) (Ev.now _)), by omega⟩
  obtain ⟨r, hr, k1, k2⟩ := szPartS_loop p (by omega) (fun x hx => (h3 x hx).2.2) p.length 0 (1048576 - (p.length : Int)) (by omega) (by omega) (by omega)
  by_cases c2 : r < 0
  · exact ⟨-1, Ev.bind (Ev.neg c hr) (Ev.pos c2 (Ev.now _)), by omega⟩
  have e : laws_szKeptS.f q r = some (if r - (q.length : Int) < 0 then -1 else r - (q.length : Int)) := by
    unfold laws_szKeptS.f
    rw [wrap64_id (by omega) (by omega)]
    split <;> rfl
  by_cases c3 : r - (q.length : Int) < 0
  · rw [if_pos c3] at e
    exact ⟨-1, Ev.bind (Ev.neg c hr) (Ev.neg c2 (Ev.bindo e (Ev.pos (by omega) (Ev.now _)))), by omega⟩
  · rw [if_neg c3] at e
    exact ⟨_, Ev.bind (Ev.neg c hr) (Ev.neg c2 (Ev.bindo e (Ev.neg c3 (Ev.now _)))), by omega⟩
theorem toShelf_ev (p : List LP) (q : List LK) (hp : p.length ≤ 8796093022208) (hq : q.length ≤ 8796093022208) : Ev (fun k => laws_toShelf.f k p q) (p.map toP, q.map toK) := by
  unfold laws_toShelf.f
  exact Ev.bind (toPartS_ev p hp) (Ev.bind (toKeptS_ev q (by omega)) (Ev.now _))
theorem eqShelf_self (p : List IP) (q : List IK) (hp : p.length ≤ 8796093022208) (hq : q.length ≤ 8796093022208) : Ev (fun k => laws_eqShelf.f k p q p q) true := by
  unfold laws_eqShelf.f
  exact Ev.bind (eqPartS_self p (by omega)) (Ev.pos rfl (Ev.bind (eqKeptS_self q (by omega)) (Ev.pos rfl (Ev.now _))))

theorem snocG {α : Type} (pre : List α) (x : α) : (pre.length : Int) + 1 = ((pre ++ [x]).length : Int) := by simp

/-! ### A shelf is valid -/
def manyOf (t : Int) : Int := if t = 1 then 3 else if t = 2 then 5 else 4
def needOf (t : Int) : Int := if t = 1 then 1 else if t = 2 then 3 else 2
def longOf (t s : Int) : Int := if t = 2 then (s + 2) / 3 else s
def keptB (k : IK) : Bool := inB k.f0 1 3 && inB k.f1 0 60
def partB (K : List IK) (p : IP) : Bool :=
  inB p.f0 1 ((K.length : Int) + 1) && (if p.f0 ≤ (K.length : Int) then decide (0 ≤ p.f1 ∧ p.f1 < manyOf (rd_T99 K (p.f0 - 1)).f0) && decide ((p.f2.size : Int) = longOf (rd_T99 K (p.f0 - 1)).f0 (rd_T99 K (p.f0 - 1)).f1) else inB p.f1 0 4 && decide ((p.f2.size : Int) ≤ 60))
def ltP (q p : IP) : Bool := decide (q.f0 < p.f0) || (decide (q.f0 = p.f0) && decide (q.f1 < p.f1))
def overP (o : Option IP) (p : IP) : Bool := match o with | none => true | some q => ltP q p
def partsB (K : List IK) : Option IP → List IP → Bool
  | _, [] => true
  | o, p :: t => overP o p && partB K p && partsB K (some p) t
def shelfB (P : List IP) (K : List IK) : Bool := decide (P.length ≤ 40) && inB (K.length : Int) 1 60 && K.all keptB && partsB K none P
theorem nthK_nat (l : List IK) (i : Nat) (h : i < l.length) : rd_T99 l (i : Int) = l[i] := by
  simp [rd_T99, List.getD_eq_getElem?_getD, List.getElem?_eq_getElem h]
theorem nthP_nat (l : List IP) (i : Nat) (h : i < l.length) : rd_T101 l (i : Int) = l[i] := by
  simp [rd_T101, List.getD_eq_getElem?_getD, List.getElem?_eq_getElem h]
theorem nthK_mid (a t : List IK) (x : IK) : rd_T99 (a ++ x :: t) (a.length : Int) = x := by simp [rd_T99]
theorem nthP_mid (a t : List IP) (x : IP) : rd_T101 (a ++ x :: t) (a.length : Int) = x := by simp [rd_T101]
theorem nthP_last (a : List IP) (t : List IP) (q x : IP) : rd_T101 ((a ++ [q]) ++ x :: t) ((((a ++ [q]).length : Nat) : Int) - 1) = q := by
  have : (((a ++ [q]).length : Nat) : Int) - 1 = (a.length : Int) := by simp
  rw [this, List.append_assoc, List.singleton_append, nthP_mid]
theorem nthK_ok {K : List IK} (h : K.all keptB = true) (i : Int) (h0 : 0 ≤ i) (h1 : i < (K.length : Int)) : 1 ≤ (rd_T99 K i).f0 ∧ (rd_T99 K i).f0 ≤ 3 ∧ 0 ≤ (rd_T99 K i).f1 ∧ (rd_T99 K i).f1 ≤ 60 := by
  have e := nthK_nat K i.toNat (by omega)
  rw [show ((i.toNat : Nat) : Int) = i by omega] at e
  have := List.all_eq_true.1 h (rd_T99 K i) (by rw [e]; exact List.getElem_mem _)
  unfold keptB at this
  simp only [Bool.and_eq_true, inB_iff] at this
  omega
theorem l17Tier_eq (a : Int) : spec_l17Tier.f a = some (inB a 1 3) := by unfold spec_l17Tier.f; rw [l1In_eq]; rfl
theorem isTier_eq (a : Int) : impl_isTier.f a = some (inB a 1 3) := by unfold impl_isTier.f; rw [within_eq]; rfl
theorem l17Many_eq (a : Int) : spec_l17Many.f a = some (manyOf a, needOf a) := by unfold spec_l17Many.f manyOf needOf; split <;> (try split) <;> rfl
theorem countFor_eq (a : Int) : impl_countFor.f a = some (manyOf a, needOf a) := by unfold impl_countFor.f manyOf needOf; split <;> (try split) <;> rfl
theorem l17Long_eq (a s : Int) (h : 0 ≤ s ∧ s ≤ 60) : spec_l17Long.f a s = some (longOf a s) := by
  unfold spec_l17Long.f longOf
  rw [wrap64_id (x := s + 2) (by omega) (by omega), Int.tdiv_eq_ediv_of_nonneg (by omega), wrap64_id (by omega) (by omega)]
  split <;> rfl
theorem manyOf_bd (a : Int) : 3 ≤ manyOf a ∧ manyOf a ≤ 5 := by unfold manyOf; split <;> (try split) <;> omega
theorem longOf_bd (a s : Int) (h : 0 ≤ s ∧ s ≤ 60) : 0 ≤ longOf a s ∧ longOf a s ≤ 60 := by unfold longOf; split <;> omega
theorem isPart_eq (P : List IP) (K : List IK) (p : IP) (hk : K.all keptB = true) (hn : K.length ≤ 60) : impl_isPart.f P K p.f0 p.f1 p.f2 = some (partB K p) := by
  unfold impl_isPart.f partB
  rw [within_eq, wrap64_id (by omega) (by omega)]
  simp only [Option.bind_some]
  by_cases h : inB p.f0 1 ((K.length : Int) + 1) = true
  · rw [h, if_pos rfl]
    have h' := inB_iff.1 h
    by_cases hg : p.f0 ≤ (K.length : Int)
    · rw [if_neg (by omega), if_pos hg, wrap64_id (x := p.f0 - 1) (by omega) (by omega), if_pos (by omega), if_pos (by omega), countFor_eq]
      obtain ⟨a, b, c, d⟩ := nthK_ok hk (p.f0 - 1) (by omega) (by omega)
      show _ = some (true && (decide (0 ≤ p.f1 ∧ p.f1 < manyOf (rd_T99 K (p.f0 - 1)).f0) && decide ((p.f2.size : Int) = longOf (rd_T99 K (p.f0 - 1)).f0 (rd_T99 K (p.f0 - 1)).f1)))
      revert a b c d
      generalize rd_T99 K (p.f0 - 1) = k
      intro a b c d
      have hm := manyOf_bd k.f0
      simp only [Option.bind_some, within_eq]
      rw [wrap64_id (x := manyOf k.f0 - 1) (by omega) (by omega)]
      have e : inB p.f1 0 (manyOf k.f0 - 1) = decide (0 ≤ p.f1 ∧ p.f1 < manyOf k.f0) := by
        rw [Bool.eq_iff_iff, inB_iff, decide_eq_true_eq]; omega
      rw [e]
      unfold longOf
      rw [wrap64_id (x := k.f1 + 2) (by omega) (by omega), Int.tdiv_eq_ediv_of_nonneg (by omega), wrap64_id (x := (k.f1 + 2) / 3) (by omega) (by omega)]
      by_cases e2 : k.f0 = 2
      · rw [if_pos e2, if_pos e2]
        cases decide (0 ≤ p.f1 ∧ p.f1 < manyOf k.f0) <;> rfl
      · rw [if_neg e2, if_neg e2]
        cases decide (0 ≤ p.f1 ∧ p.f1 < manyOf k.f0) <;> rfl
    · rw [if_pos (by omega), if_neg hg]
      simp only [within_eq, Option.bind_some]
      cases inB p.f1 0 4 <;> simp
  · simp only [Bool.not_eq_true] at h
    rw [h]; rfl
theorem compare_ev (q p : IP) : Ev (fun k => impl_compareParts.f k q.f0 q.f1 q.f2 p.f0 p.f1 p.f2) (if q.f0 < p.f0 then -1 else if p.f0 < q.f0 then 1 else if q.f1 < p.f1 then -1 else if p.f1 < q.f1 then 1 else 0) := by
  have cmp : ∀ a b : Int, cmp_Compare_int.f a b = some (if a < b then -1 else if b < a then 1 else 0) := by
    intro a b
    unfold cmp_Compare_int.f cmp_isNaN_int.f
    simp only [Option.bind_some, bne_self_eq_false, Bool.false_eq_true, if_false]
    split
    · rfl
    · split <;> rfl
  unfold impl_compareParts.f
  refine Ev.bindo (cmp _ _) (Ev.bindo (cmp _ _) ?_)
  have lp : ∀ a b : Int, Ev (fun k => (cmp_Or_int.f k [a, b]).bind fun t => some t) (if a = 0 then b else a) := by
    intro a b
    refine Ev.bind (a := if a = 0 then b else a) ?_ (Ev.now _)
    unfold cmp_Or_int.f
    refine Ev.step (fun k => cmp_Or_int.l0.eq_2 _ _ _ _ _) (Ev.pos (by simp) (Ev.pos (by simp) (Ev.pos (by simp) ?_)))
    by_cases ha : a = 0
    · refine Ev.pos (by simpa [rd] using ha) ?_
      refine Ev.step (fun k => cmp_Or_int.l0.eq_2 _ _ _ _ _) (Ev.pos (by simp [wrap64]) (Ev.pos (by simp [wrap64]) (Ev.pos (by simp [wrap64]) ?_)))
      rw [if_pos ha]
      by_cases hb : b = 0
      · refine Ev.pos (by simpa [rd, wrap64] using hb) ?_
        refine Ev.step (fun k => cmp_Or_int.l0.eq_2 _ _ _ _ _) (Ev.neg (by simp [wrap64]) ?_)
        rw [hb]
        exact Ev.now _
      · exact Ev.neg (by simpa [rd, wrap64] using hb) (by simpa [rd, wrap64] using Ev.now _)
    · rw [if_neg ha]
      exact Ev.neg (by simpa [rd] using ha) (by simpa [rd] using Ev.now _)
  refine Ev.eq (lp _ _) ?_
  by_cases h1 : q.f0 < p.f0
  · simp [h1]
  · by_cases h2 : p.f0 < q.f0
    · simp [h1, h2]
    · simp [h1, h2]
theorem specLog_loop (P : List IP) (t : List IK) : ∀ (pre : List IK) (r : Bool), (pre ++ t).length ≤ 60 → pre.all keptB = true → ((pre ++ t).all keptB = true → Ev (fun k => spec_GoodShelf.l1 k P (P.length : Int) 0 P (pre ++ t)) r) →
    Ev (fun k => spec_GoodShelf.l0 k (pre ++ t) ((pre ++ t).length : Int) (pre.length : Int) P (pre ++ t)) (t.all keptB && r) := by
  induction t with
  | nil =>
    intro pre r hl ha h
    exact Ev.step (fun k => spec_GoodShelf.l0.eq_2 _ _ _ _ _ _) (Ev.neg (by simp) (by simpa using h (by simpa using ha)))
  | cons x t ih =>
    intro pre r hl ha h
    have hl' : pre.length + (t.length + 1) ≤ 60 := by simpa using hl
    refine Ev.step (fun k => spec_GoodShelf.l0.eq_2 _ _ _ _ _ _) (Ev.pos (by simp; omega) (Ev.pos (by omega) (Ev.pos (by simp; omega) ?_)))
    have e : rd_T99 (pre ++ x :: t) (pre.length : Int) = x := nthK_mid pre t x
    rw [e, wrap64_id (by omega) (by omega), snocG pre x]
    refine Ev.bindo (l17Tier_eq _) ?_
    have hkB : keptB x = (inB x.f0 1 3 && inB x.f1 0 60) := rfl
    rw [List.all_cons, hkB]
    by_cases h1 : inB x.f0 1 3 = true
    · refine Ev.pos h1 (Ev.bindo (l1In_eq _ _ _) ?_)
      by_cases h2 : inB x.f1 0 60 = true
      · have := ih (pre ++ [x]) r (by simpa using hl) (by rw [List.all_append, ha]; simp [hkB, h1, h2]) (by simpa using h)
        exact Ev.pos h2 (by simpa [h1, h2] using this)
      · simp only [Bool.not_eq_true] at h2
        exact Ev.neg (by simp [h2]) (by simpa [h1, h2] using Ev.now _)
    · simp only [Bool.not_eq_true] at h1
      exact Ev.neg (by simp [h1]) (by simpa [h1] using Ev.now _)
def lastO (pre : List IP) : Option IP := pre.getLast?
theorem lastO_nil : lastO [] = none := rfl
theorem lastO_snoc (a : List IP) (q : IP) : lastO (a ++ [q]) = some q := by simp [lastO]
theorem specPart_step (K : List IK) (hk : K.all keptB = true) (hn : K.length ≤ 60) (A : List IP) (n i : Int) (P : List IP) (p : IP) (r : Bool) (hi : 0 ≤ i ∧ i ≤ 60) (h : Ev (fun k => spec_GoodShelf.l1 k A n (i + 1) P K) r) :
    Ev (fun k => spec_GoodShelf.j3 k A n i P K p.f0 p.f1 p.f2) (partB K p && r) := by
  refine Ev.step (fun k => spec_GoodShelf.j3.eq_2 _ _ _ _ _ _ _ _ _) (Ev.bindo (l1In_eq _ _ _) ?_)
  rw [wrap64_id (by omega) (by omega)]
  have no : partB K p = false → Ev (fun k => spec_GoodShelf.j4 k A n i true P K p.f0 p.f1 p.f2) (partB K p && r) := by
    intro e
    rw [e]
    exact Ev.step (fun k => spec_GoodShelf.j4.eq_2 _ _ _ _ _ _ _ _ _ _) (Ev.pos rfl (Ev.now _))
  by_cases h1 : inB p.f0 1 ((K.length : Int) + 1) = true
  case neg =>
    refine Ev.neg h1 (no ?_)
    simp only [Bool.not_eq_true] at h1
    unfold partB; rw [h1]; rfl
  have h1' := inB_iff.1 h1
  refine Ev.pos h1 (Ev.bindo (l1In_eq _ _ _) ?_)
  have bad : (inB p.f1 0 4 = false ∨ 60 < (p.f2.size : Int)) → partB K p = false := by
    intro hb
    unfold partB
    rw [h1]
    by_cases hg : p.f0 ≤ (K.length : Int)
    · rw [if_pos hg]
      obtain ⟨a, b, c, d⟩ := nthK_ok hk (p.f0 - 1) (by omega) (by omega)
      have hm := manyOf_bd (rd_T99 K (p.f0 - 1)).f0
      have hlo := longOf_bd (rd_T99 K (p.f0 - 1)).f0 (rd_T99 K (p.f0 - 1)).f1 ⟨c, d⟩
      rcases hb with hb | hb
      · have : decide (0 ≤ p.f1 ∧ p.f1 < manyOf (rd_T99 K (p.f0 - 1)).f0) = false := by
          rw [decide_eq_false_iff_not]
          intro hc
          rw [inB_no] at hb
          omega
        rw [this]; rfl
      · have : decide ((p.f2.size : Int) = longOf (rd_T99 K (p.f0 - 1)).f0 (rd_T99 K (p.f0 - 1)).f1) = false := by
          rw [decide_eq_false_iff_not]; omega
        rw [this]; simp
    · rw [if_neg hg]
      rcases hb with hb | hb
      · rw [hb]; rfl
      · have : decide ((p.f2.size : Int) ≤ 60) = false := by rw [decide_eq_false_iff_not]; omega
        rw [this]; simp
  by_cases h2 : inB p.f1 0 4 = true
  case neg =>
    refine Ev.neg h2 (no (bad (Or.inl ?_)))
    simpa using h2
  refine Ev.pos h2 ?_
  by_cases h3 : (p.f2.size : Int) > 60
  · rw [decide_eq_true h3]
    exact no (bad (Or.inr h3))
  rw [decide_eq_false h3]
  refine Ev.step (fun k => spec_GoodShelf.j4.eq_2 _ _ _ _ _ _ _ _ _ _) (Ev.neg (by simp) ?_)
  rw [wrap64_id (x := i + 1) (by omega) (by omega)]
  unfold partB
  rw [h1]
  by_cases hg : p.f0 ≤ (K.length : Int)
  · obtain ⟨a, b, c, d⟩ := nthK_ok hk (p.f0 - 1) (by omega) (by omega)
    rw [if_pos hg]
    refine Ev.pos hg ?_
    rw [wrap64_id (x := p.f0 - 1) (by omega) (by omega)]
    refine Ev.pos (by omega) (Ev.pos (by omega) (Ev.bindo (l17Many_eq _) ?_))
    have h2' := inB_iff.1 h2
    show Ev (fun n_ => if p.f1 ≥ manyOf (rd_T99 K (p.f0 - 1)).f0 then _ else _) _
    by_cases h4 : p.f1 ≥ manyOf (rd_T99 K (p.f0 - 1)).f0
    · refine Ev.pos h4 ?_
      have : decide (0 ≤ p.f1 ∧ p.f1 < manyOf (rd_T99 K (p.f0 - 1)).f0) = false := by rw [decide_eq_false_iff_not]; omega
      rw [this]
      exact Ev.now _
    · refine Ev.neg h4 (Ev.bindo (l17Long_eq _ _ ⟨c, d⟩) ?_)
      have : decide (0 ≤ p.f1 ∧ p.f1 < manyOf (rd_T99 K (p.f0 - 1)).f0) = true := by rw [decide_eq_true_iff]; omega
      rw [this]
      by_cases h5 : (p.f2.size : Int) = longOf (rd_T99 K (p.f0 - 1)).f0 (rd_T99 K (p.f0 - 1)).f1
      · rw [decide_eq_true h5]
        exact Ev.pos h5 (by simpa using h)
      · rw [decide_eq_false h5]
        exact Ev.neg h5 (by simpa using Ev.now _)
  · rw [if_neg hg, h2, decide_eq_true (by omega)]
    exact Ev.neg hg (by simpa using h)
theorem specParts_loop (K : List IK) (hk : K.all keptB = true) (hn : K.length ≤ 60) (t : List IP) : ∀ (pre : List IP), (pre ++ t).length ≤ 40 →
    Ev (fun k => spec_GoodShelf.l1 k (pre ++ t) ((pre ++ t).length : Int) (pre.length : Int) (pre ++ t) K) (partsB K (lastO pre) t) := by
  induction t with
  | nil =>
    intro pre hl
    exact Ev.step (fun k => spec_GoodShelf.l1.eq_2 _ _ _ _ _ _) (Ev.neg (by simp) (Ev.now _))
  | cons p t ih =>
    intro pre hl
    have hl' : pre.length + (t.length + 1) ≤ 40 := by simpa using hl
    have nx := ih (pre ++ [p]) (by simpa using hl)
    rw [lastO_snoc, List.append_assoc, List.singleton_append, ← snocG pre p] at nx
    have st := specPart_step K hk hn (pre ++ p :: t) ((pre ++ p :: t).length : Int) (pre.length : Int) (pre ++ p :: t) p _ (by omega) nx
    have e : rd_T101 (pre ++ p :: t) (pre.length : Int) = p := nthP_mid pre t p
    refine Ev.step (fun k => spec_GoodShelf.l1.eq_2 _ _ _ _ _ _) (Ev.pos (by simp; omega) (Ev.pos (by omega) (Ev.pos (by simp; omega) ?_)))
    rw [e]
    show Ev _ (overP (lastO pre) p && partB K p && partsB K (some p) t)
    rcases List.eq_nil_or_concat pre with rfl | ⟨a, q, rfl⟩
    · refine Ev.neg (by simp) ?_
      simpa [lastO_nil, overP] using st
    · rw [List.concat_eq_append] at *
      rw [lastO_snoc]
      have e2 : rd_T101 ((a ++ [q]) ++ p :: t) ((((a ++ [q]).length : Nat) : Int) - 1) = q := nthP_last a t q p
      have hp : 1 ≤ (a ++ [q]).length := by simp
      rw [wrap64_id (x := (((a ++ [q]).length : Nat) : Int) - 1) (by omega) (by omega)]
      refine Ev.pos (by omega) (Ev.pos (by omega) (Ev.pos (by simp only [List.length_append]; omega) ?_))
      rw [e2]
      rw [show overP (some q) p = (decide (q.f0 < p.f0) || (decide (q.f0 = p.f0) && decide (q.f1 < p.f1))) from rfl]
      by_cases h1 : q.f0 > p.f0
      · refine Ev.pos h1 ?_
        rw [decide_eq_false (show ¬ q.f0 < p.f0 by omega), decide_eq_false (show ¬ q.f0 = p.f0 by omega)]
        exact Ev.now _
      · refine Ev.neg h1 ?_
        by_cases h2 : q.f0 = p.f0
        · refine Ev.pos h2 ?_
          rw [decide_eq_false (show ¬ q.f0 < p.f0 by omega), decide_eq_true h2]
          by_cases h3 : q.f1 ≥ p.f1
          · rw [decide_eq_false (show ¬ q.f1 < p.f1 by omega)]
            exact Ev.pos h3 (Ev.now _)
          · rw [decide_eq_true (show q.f1 < p.f1 by omega)]
            exact Ev.neg h3 (by simpa using st)
        · rw [decide_eq_true (show q.f0 < p.f0 by omega)]
          exact Ev.neg h2 (by simpa using st)
theorem implParts_loop (K : List IK) (hk : K.all keptB = true) (hn : K.length ≤ 60) (t : List IP) : ∀ (pre : List IP), (pre ++ t).length ≤ 40 →
    Ev (fun k => impl_GoodShelf.l0 k (pre ++ t) ((pre ++ t).length : Int) (pre.length : Int) (pre ++ t) K) (partsB K (lastO pre) t) := by
  induction t with
  | nil =>
    intro pre hl
    exact Ev.step (fun k => impl_GoodShelf.l0.eq_2 _ _ _ _ _ _) (Ev.neg (by simp) (Ev.now _))
  | cons p t ih =>
    intro pre hl
    have hl' : pre.length + (t.length + 1) ≤ 40 := by simpa using hl
    have nx := ih (pre ++ [p]) (by simpa using hl)
    rw [lastO_snoc, List.append_assoc, List.singleton_append, ← snocG pre p] at nx
    have e : rd_T101 (pre ++ p :: t) (pre.length : Int) = p := nthP_mid pre t p
    refine Ev.step (fun k => impl_GoodShelf.l0.eq_2 _ _ _ _ _ _) (Ev.pos (by simp; omega) (Ev.pos (by omega) (Ev.pos (by simp; omega) ?_)))
    rw [e, wrap64_id (x := (pre.length : Int) + 1) (by omega) (by omega)]
    refine Ev.bindo (isPart_eq _ K p hk hn) ?_
    show Ev _ (overP (lastO pre) p && partB K p && partsB K (some p) t)
    by_cases hpb : partB K p = true
    case neg =>
      refine Ev.neg hpb ?_
      simp only [Bool.not_eq_true] at hpb
      rw [hpb]
      simpa using Ev.now _
    rw [hpb]
    refine Ev.pos rfl ?_
    rcases List.eq_nil_or_concat pre with rfl | ⟨a, q, rfl⟩
    · refine Ev.neg (by simp) ?_
      simpa [lastO_nil, overP] using nx
    · rw [List.concat_eq_append] at *
      rw [lastO_snoc]
      have e2 : rd_T101 ((a ++ [q]) ++ p :: t) ((((a ++ [q]).length : Nat) : Int) - 1) = q := nthP_last a t q p
      have hp : 1 ≤ (a ++ [q]).length := by simp
      rw [wrap64_id (x := (((a ++ [q]).length : Nat) : Int) - 1) (by omega) (by omega)]
      refine Ev.pos (by omega) (Ev.pos (by omega) (Ev.pos (by simp only [List.length_append]; omega) ?_))
      rw [e2]
      refine Ev.bind (compare_ev q p) ?_
      rw [show overP (some q) p = (decide (q.f0 < p.f0) || (decide (q.f0 = p.f0) && decide (q.f1 < p.f1))) from rfl]
      by_cases h1 : q.f0 < p.f0
      · rw [if_pos h1, decide_eq_true h1]
        exact Ev.neg (by omega) (by simpa using nx)
      · rw [if_neg h1, decide_eq_false h1]
        by_cases h2 : p.f0 < q.f0
        · rw [if_pos h2, decide_eq_false (show ¬ q.f0 = p.f0 by omega)]
          exact Ev.pos (by omega) (by simpa using Ev.now _)
        · rw [if_neg h2, decide_eq_true (show q.f0 = p.f0 by omega)]
          by_cases h3 : q.f1 < p.f1
          · rw [if_pos h3, decide_eq_true h3]
            exact Ev.neg (by omega) (by simpa using nx)
          · rw [if_neg h3, decide_eq_false h3]
            by_cases h4 : p.f1 < q.f1
            · rw [if_pos h4]
              exact Ev.pos (by omega) (by simpa using Ev.now _)
            · rw [if_neg h4]
              exact Ev.pos (by omega) (by simpa using Ev.now _)
theorem specShelf_ev (P : List IP) (K : List IK) (hP : P.length ≤ 35184372088832) (hK : K.length ≤ 35184372088832) : Ev (fun k => spec_GoodShelf.f k P K) (shelfB P K) := by
  unfold spec_GoodShelf.f
  have no : shelfB P K = false → Ev (fun k => spec_GoodShelf.j0 k true P K) (shelfB P K) := by
    intro e
    rw [e]
    exact Ev.step (fun k => spec_GoodShelf.j0.eq_2 _ _ _ _) (Ev.pos rfl (Ev.now _))
  by_cases h1 : (P.length : Int) > 40
  · refine Ev.pos h1 (no ?_)
    unfold shelfB
    rw [decide_eq_false (by omega)]; rfl
  refine Ev.neg h1 (Ev.bindo (l1In_eq _ _ _) ?_)
  by_cases h2 : inB (K.length : Int) 1 60 = true
  case neg =>
    simp only [Bool.not_eq_true] at h2
    rw [h2]
    refine no ?_
    unfold shelfB
    rw [h2]; simp
  rw [h2]
  have h2' := inB_iff.1 h2
  refine Ev.step (fun k => spec_GoodShelf.j0.eq_2 _ _ _ _) (Ev.neg (by simp) ?_)
  unfold shelfB
  rw [decide_eq_true (by omega), h2]
  have := specLog_loop P K [] (partsB K none P) (by simp; omega) rfl (fun hk => by
    have hp := specParts_loop K (by simpa using hk) (by omega) P [] (by simp; omega)
    simpa [lastO_nil] using hp)
  simpa using this
theorem noneKept_eq (K : List IK) : cf_impl_GoodShelf_1.f K = some (!K.all keptB) := by
  have e : ∀ x : IK, ((impl_isTier.f x.f0).bind fun b => if b = true then (impl_within.f x.f1 0 60).bind fun c => some (!c) else some true) = some (!keptB x) := by
    intro x
    rw [isTier_eq, within_eq]
    unfold keptB
    cases inB x.f0 1 3 <;> simp
  unfold cf_impl_GoodShelf_1.f
  rw [show (fun x : IK => (impl_isTier.f x.f0).bind fun b => if b = true then (impl_within.f x.f1 0 60).bind fun c => some (!c) else some true) = fun x => some (!keptB x) from funext e, anyO_some]
  congr 1
  induction K with
  | nil => rfl
  | cons x t ih => simp [ih]
theorem implShelf_ev (P : List IP) (K : List IK) (hP : P.length ≤ 35184372088832) (hK : K.length ≤ 35184372088832) : Ev (fun k => impl_GoodShelf.f k P K) (shelfB P K) := by
  unfold impl_GoodShelf.f
  have no : shelfB P K = false → Ev (fun k => impl_GoodShelf.j0 k true P K) (shelfB P K) := by
    intro e
    rw [e]
    exact Ev.step (fun k => impl_GoodShelf.j0.eq_2 _ _ _ _) (Ev.pos rfl (Ev.now _))
  by_cases h1 : (P.length : Int) > 40
  · refine Ev.pos h1 (no ?_)
    unfold shelfB
    rw [decide_eq_false (by omega)]; rfl
  refine Ev.neg h1 (Ev.bindo (within_eq _ _ _) ?_)
  by_cases h2 : inB (K.length : Int) 1 60 = true
  case neg =>
    simp only [Bool.not_eq_true] at h2
    rw [h2]
    refine no ?_
    unfold shelfB
    rw [h2]; simp
  rw [h2]
  have h2' := inB_iff.1 h2
  refine Ev.step (fun k => impl_GoodShelf.j0.eq_2 _ _ _ _) (Ev.neg (by simp) (Ev.bindo (noneKept_eq K) ?_))
  unfold shelfB
  rw [decide_eq_true (by omega), h2]
  by_cases hk : K.all keptB = true
  · rw [hk]
    have hp := implParts_loop K hk (by omega) P [] (by simp; omega)
    exact Ev.neg (by simp) (by simpa [lastO_nil] using hp)
  · simp only [Bool.not_eq_true] at hk
    rw [hk]
    exact Ev.pos rfl (Ev.now _)

theorem tierOf_both (P : List IP) (K : List IK) (hP : P.length ≤ 35184372088832) (hK : K.length ≤ 35184372088832) : ∃ v, Ev (fun k => spec_TierOf.f k P K) v ∧ Ev (fun k => impl_TierOf.f k P K) v := by
  unfold spec_TierOf.f impl_TierOf.f
  have a := specShelf_ev P K hP hK
  have b := implShelf_ev P K hP hK
  by_cases h : shelfB P K = true
  · have h' := h
    unfold shelfB at h'
    simp only [Bool.and_eq_true, inB_iff] at h'
    have h2 := h'.1.1.2
    have e : wrap64 ((K.length : Int) - 1) = (K.length : Int) - 1 := wrap64_id (by omega) (by omega)
    rw [e]
    exact ⟨_, Ev.bind a (Ev.pos h (Ev.pos (by omega) (Ev.pos (by omega) (Ev.now _)))), Ev.bind b (Ev.pos h (Ev.pos (by omega) (Ev.pos (by omega) (Ev.now _))))⟩
  · exact ⟨_, Ev.bind a (Ev.neg h (Ev.now _)), Ev.bind b (Ev.neg h (Ev.now _))⟩
end QFnExactTierOf
open QFnExactTierOf
theorem FnExactTierOf (p : List LP) (q : List LK) (F : FitShelf p q) : ∃ k, laws_FnExactTierOf.f k p q = some true := by
  refine Ev.rounds ?_
  unfold laws_FnExactTierOf.f
  obtain ⟨r, hr, hb⟩ := szShelf_ev p q F
  refine Ev.bind hr ?_
  by_cases c : r < 0
  · exact Ev.pos c (Ev.now _)
  obtain ⟨h1, h2⟩ := hb (by omega)
  have ts := toShelf_ev p q (by omega) (by omega)
  obtain ⟨⟨x, y, z⟩, a, b⟩ := tierOf_both (p.map toP) (q.map toK) (by simp; omega) (by simp; omega)
  refine Ev.neg c (Ev.bind ts (Ev.bind a (Ev.bind ts (Ev.bind b (Ev.pos rfl (Ev.pos rfl ?_))))))
  exact Ev.step (fun k => laws_FnExactTierOf.j0.eq_2 _ _ _ _ _ _) (Ev.neg (by simp) (Ev.bind ts (Ev.bind (eqShelf_self _ _ (by simp; omega) (by simp; omega)) (Ev.pos rfl (Ev.now _)))))

end Go.Proofs.Ytppgkkejddjacaa.Pure
