/- Part of the proof: an evaluator (YtdpaijnbikclgaaDoorEKeep). -/
import Derived.Test.YtdpaijnbikclgaaDoorEFin3
set_option linter.unusedVariables false
set_option linter.unusedSectionVars false
set_option linter.unusedSimpArgs false
namespace Go.Proofs.YtdpaijnbikclgaaDoorE
open Go
def clC (a : A) : A := if noRoC a = true then a else .dead
def clO (o : Ob) : Ob := ⟨o.n, o.rows.map fun r => r.map clC, o.st, o.bx⟩
def clS (m : Nat) (S₁ : Store) : Store := S₁.mapIdx fun i o => if i < m then o else clO o
def finK (md : Md) (S : Store) (mu D : List Nat) (S₁ : Store) (vs : List A) : Option (List A × Store) :=
 if D.isEmpty = true then some (vs, S₁)
 else if vs.all noRoV = true ∧ (mu.all fun id => !md.wr id || decide (S.length ≤ id) || muFlat S₁ id) = true then some (vs, clS S.length S₁) else none
section
variable {W : Fm} {S : Store} {σ : Place} {I F : Nat → Prop} {md : Md} {h h₁ : Array Obj} {S₁ S₂ : Store} {σ₁ : Place} {I₁ F₁ I₂ : Nat → Prop}
def Same (S₁ S₂ : Store) : Prop := ∀ (id : Nat) (o : Ob), S₁[id]? = some o → ∃ o' : Ob, S₂[id]? = some o' ∧ o'.n = o.n ∧ o'.rows.length = o.rows.length
theorem Rel.keepC (hS : Same S₁ S₂) {a : A} {x : Value} (hn : noRoC a = true) (r : Rel S₁ σ₁ I₁ h a x) : Rel S₂ σ₁ I₂ h a x := by
 cases r with
 | v x => exact .v x
 | dead x => exact .dead x
 | ag cs xs hl hc => cases hn
 | tu l vs hl hc => cases hn
 | ro0 n a c => exact .ro0 n a c
 | ro n rows ad c cs ty fr hs hI hb hn' hsz hcap hfl hc =>
  have : rows = [] := by simpa [noRoC] using hn
  subst this; exact .ro0 _ _ _
 | rp l ad cs ty fr hs hI hb hsz hfl hc => cases hn
 | sl id lo hi ver a c o ho h1 h2 h3 hf =>
  obtain ⟨o', k1, k2, k3⟩ := hS id o ho
  exact .sl id lo hi ver a c o' k1 h1 h2 (by rw [k3]; exact h3) (by rw [k2, k3]; exact hf)
 | pt id row off ver ad o ho h2 h3 hf =>
  obtain ⟨o', k1, k2, k3⟩ := hS id o ho
  exact .pt id row off ver ad o' k1 h2 (by rw [k3]; exact h3) (by rw [k2, k3]; exact hf)
 | fn f caps vs hl hc =>
  have : caps = [] := by simpa [noRoC] using hn
  subst this
  exact .fn f [] vs hl fun i hi => by simp at hi
theorem Rel.keepI (hS : Same S₁ S₂) (hi : ∀ b, I₁ b → I₂ b) {a : A} {x : Value} (r : Rel S₁ σ₁ I₁ h a x) : Rel S₂ σ₁ I₂ h a x := by
 induction r with
 | v x => exact .v x
 | dead x => exact .dead x
 | ag cs xs hl hc ih => exact .ag cs xs hl ih
 | tu l vs hl hc ih => exact .tu l vs hl ih
 | ro0 n a c => exact .ro0 n a c
 | ro n rows ad c cs ty fr hs hI hb hn hsz hcap hfl hc ih => exact .ro n rows ad c cs ty fr hs (hi _ hI) hb hn hsz hcap hfl ih
 | rp l ad cs ty fr hs hI hb hsz hfl hc ih => exact .rp l ad cs ty fr hs (hi _ hI) hb hsz hfl ih
 | sl id lo hi' ver a c o ho h1 h2 h3 hf =>
  obtain ⟨o', k1, k2, k3⟩ := hS id o ho
  exact .sl id lo hi' ver a c o' k1 h1 h2 (by rw [k3]; exact h3) (by rw [k2, k3]; exact hf)
 | pt id row off ver ad o ho h2 h3 hf =>
  obtain ⟨o', k1, k2, k3⟩ := hS id o ho
  exact .pt id row off ver ad o' k1 h2 (by rw [k3]; exact h3) (by rw [k2, k3]; exact hf)
 | fn f caps vs hl hc ih => exact .fn f caps vs hl ih
theorem Rel.keepV (hS : Same S₁ S₂) {a : A} {x : Value} (hn : noRoV a = true ∨ ∀ b, I₁ b → I₂ b) (r : Rel S₁ σ₁ I₁ h a x) : Rel S₂ σ₁ I₂ h a x := by
 rcases hn with hn | hn
 ·have r0 := r
  cases r with
  | ag cs xs hl hc => exact .ag cs xs hl fun i hi => (hc i hi).keepC hS (List.all_eq_true.1 hn _ (by simp [hi]))
  | v x => exact .v x
  | dead x => exact .dead x
  | tu l vs hl hc => cases hn
  | ro0 n a c => exact .ro0 n a c
  | ro => exact r0.keepC hS hn
  | rp => cases hn
  | sl => exact r0.keepC hS hn
  | pt => exact r0.keepC hS hn
  | fn => exact r0.keepC hS hn
 ·exact r.keepI hS hn
theorem keep_core (s : Sim W S σ I F h) {Wc : Fm} {Fc : Nat → Prop} {D : List Nat} (hWm : Wc.m = S.length) (hWN : Wc.N = h.size) (hWw : ∀ id, Wc.w id → id < S.length → W.w id)
  (hWn : ∀ id, S.length ≤ id → Wc.w id) (hD : ∀ i ∈ D, ∃ o, S[i]? = some o) (hDw : ∀ i ∈ D, ¬ Wc.w i)
  (s₁ : Sim Wc S₁ σ₁ I₁ F₁ h₁) (E₁ : Ext Wc S σ (fun b => I b ∨ DB σ D b) Fc h S₁ σ₁ I₁ F₁ h₁) (hFc : ∀ b, F b → Fc b) (hFo : ∀ (id : Nat) (o : Ob) (ad : Addr), S[id]? = some o → ¬ Wc.w id → σ id = some ad → Fc ad.block)
  (hS2 : ∀ (id : Nat) (o : Ob), S₁[id]? = some o → ∃ o' : Ob, S₂[id]? = some o' ∧ o'.n = o.n ∧ o'.rows.length = o.rows.length ∧ o'.st = o.st ∧ (id < S.length → o' = o) ∧
   (∀ i, i < o.rows.length → (o'.rows.getD i []).length = (o.rows.getD i []).length) ∧
   (Wc.w id → ∀ i j, i < o.rows.length → j < o.n → (o'.rows.getD i []).getD j .dead = .dead ∨ ((o'.rows.getD i []).getD j .dead = (o.rows.getD i []).getD j .dead ∧ (noRoC ((o.rows.getD i []).getD j .dead) = true ∨ D = []))))
  (hlen : S₂.length = S₁.length) :
  Sim W S₂ σ₁ (fun b => I b ∨ (I₁ b ∧ h.size ≤ b)) (fun b => F b ∨ (I₁ b ∧ h.size ≤ b)) h₁ ∧ Ext W S σ I F h S₂ σ₁ (fun b => I b ∨ (I₁ b ∧ h.size ≤ b)) (fun b => F b ∨ (I₁ b ∧ h.size ≤ b)) h₁ := by
 have lt : ∀ id o, S[id]? = some o → id < S.length := fun id o ho => (List.getElem?_eq_some_iff.1 ho).1
 have blt : ∀ id o ad, S[id]? = some o → σ id = some ad → ad.block < h.size := fun id o ad ho ha => by
  obtain ⟨_, _, _, cs, ty, fr, k4, _⟩ := (s.ob id o ho).there ad ha
  exact (Array.getElem?_eq_some_iff.1 k4).1
 have hSame : Same S₁ S₂ := fun id o ho => by obtain ⟨o', k1, k2, k3, _⟩ := hS2 id o ho; exact ⟨o', k1, k2, k3⟩
 have back : ∀ id o', S₂[id]? = some o' → ∃ o, S₁[id]? = some o := fun id o' ho => by
  have := (List.getElem?_eq_some_iff.1 ho).1
  exact ⟨_, List.getElem?_eq_getElem (show id < S₁.length by omega)⟩
 have same : ∀ id o, S[id]? = some o → ¬ Wc.w id → S₁[id]? = some o ∧ σ₁ id = σ id := fun id o ho hw => by
  obtain ⟨o', p1, p2, p3, p4, p5⟩ := E₁.ob id o ho
  have := p5 hw; subst this
  exact ⟨p1, (p4 rfl).1⟩
 have hI2 : D = [] → ∀ b, I₁ b → I b ∨ (I₁ b ∧ h.size ≤ b) := fun hd b hb => by
  rcases E₁.inew b hb with (q | ⟨i, hi, _⟩) | q
  ·exact .inl q
  ·rw [hd] at hi; simp at hi
  ·exact .inr ⟨hb, hWN ▸ q⟩
 have E : Ext W S σ I F h S₂ σ₁ (fun b => I b ∨ (I₁ b ∧ h.size ≤ b)) (fun b => F b ∨ (I₁ b ∧ h.size ≤ b)) h₁ := by
  refine ⟨fun id o ho => ?_, fun b hb => ⟨.inl hb, (E₁.imm b (hFc b hb)).2⟩, fun b hb => .inl hb, fun b hb => hb.imp _root_.id fun q => Nat.le_trans s.big q.2, fun id o ad ho ha => ?_, E₁.size⟩
  ·obtain ⟨o₁, p1, p2, p3, p4, p5⟩ := E₁.ob id o ho
   obtain ⟨o', k1, k2, k3, k4, k5, _⟩ := hS2 id o₁ p1
   have := k5 (lt id o ho); subst this
   exact ⟨o', k1, p2, p3, p4, fun nw => p5 fun hw => nw (hWw id hw (lt id o ho))⟩
  ·exact (E₁.pl id o ad ho ha).imp _root_.id fun hb => by have := s.big; omega
 refine ⟨⟨fun id o' ho' => ?_, fun id id' o o' ad ad' ho ho' ha ha' ne => ?_, fun b hb => ?_, fun b hb => hb.imp (s.sub b) _root_.id, fun id o' ad hm ho' ha => ?_, Nat.le_trans s.big E₁.size⟩, E⟩
 ·obtain ⟨o, ho⟩ := back id o' ho'
  obtain ⟨o'', k1, k2, k3, k4, k5, k6, k7⟩ := hS2 id o ho
  rw [ho'] at k1; injection k1 with k1; subst k1
  have q := s₁.ob id o ho
  refine ⟨fun e => List.length_eq_zero_iff.1 (by rw [k3, q.none_ e]; rfl), fun i hi => by rw [k3] at hi; rw [k6 i hi, k2]; exact q.len i hi, fun ad ha => ?_⟩
  obtain ⟨m1, m2, m3, cs, ty, fr, m4, m5, m6, m7⟩ := q.there ad ha
  refine ⟨m1, fun hw hst hF => ?_, fun hst => ?_, cs, ty, fr, m4, m5, by rw [k2, k3]; exact m6, fun i j hi hj => ?_⟩
  ·rw [k4] at hst
   by_cases hc : Wc.w id
   ·have := m2 hc hst
    rcases hF with hF | hF
    ·exact this (E₁.imm _ (hFc _ hF)).1
    ·exact this (s₁.sub _ hF.1)
   ·have hid : id < S.length := Nat.lt_of_not_le fun e => hc (hWn id e)
    obtain ⟨q1, q2⟩ := same id _ (List.getElem?_eq_getElem hid) hc
    have e0 : S[id]? = some o := by rw [List.getElem?_eq_getElem hid]; rw [ho] at q1; exact q1.symm
    rw [q2] at ha
    have := blt id o ad e0 ha
    rcases hF with hF | hF
    ·exact ((s.ob id o e0).there ad ha).2.1 hw hst hF
    ·have := hF.2; omega
  ·rw [k4] at hst
   by_cases hc : Wc.w id
   ·have hI := m3 hst
    rcases E₁.inew _ hI with (q | ⟨i, hi, ad', ha', e⟩) | q
    ·exact .inl q
    ·exfalso
     obtain ⟨o2, ho2⟩ := hD i hi
     obtain ⟨r1, r2⟩ := same i o2 ho2 (hDw i hi)
     have ne : id ≠ i := fun e => hDw i hi (e ▸ hc)
     exact s₁.inj id i o o2 ad ad' ho r1 ha (r2.trans ha') ne e.symm
    ·exact .inr ⟨hI, hWN ▸ q⟩
   ·have hid : id < S.length := Nat.lt_of_not_le fun e => hc (hWn id e)
    obtain ⟨q1, q2⟩ := same id _ (List.getElem?_eq_getElem hid) hc
    have e0 : S[id]? = some o := by rw [List.getElem?_eq_getElem hid]; rw [ho] at q1; exact q1.symm
    rw [q2] at ha
    exact .inl (((s.ob id o e0).there ad ha).2.2.1 hst)
  ·rw [k3] at hi; rw [k2] at hj ⊢
   by_cases hc : Wc.w id
   ·rcases k7 hc i j hi hj with e | ⟨e, hn⟩
    ·rw [e]; exact .dead _
    ·rw [e]
     rcases hn with hn | hn
     ·exact (m7 i j hi hj).keepC hSame hn
     ·exact (m7 i j hi hj).keepI hSame (hI2 hn)
   ·have hid : id < S.length := Nat.lt_of_not_le fun e => hc (hWn id e)
    obtain ⟨q1, q2⟩ := same id _ (List.getElem?_eq_getElem hid) hc
    have e0 : S[id]? = some o := by rw [List.getElem?_eq_getElem hid]; rw [ho] at q1; exact q1.symm
    have := k5 hid; subst this
    rw [q2] at ha
    obtain ⟨_, _, _, cs', ty', fr', z4, z5, z6, z7⟩ := (s.ob id o' e0).there ad ha
    have hbk := (E₁.imm _ (hFo id o' ad e0 hc ha)).2
    rw [m4] at hbk
    rw [← hbk] at z4; injection z4 with z4; injection z4 with f1 f2 f3; subst f1 f2 f3
    exact E.rel s.sub (z7 i j hi hj)
 ·obtain ⟨p, hp⟩ := back id o ho
  obtain ⟨p', hp'⟩ := back id' o' ho'
  exact s₁.inj id id' p p' ad ad' hp hp' ha ha' ne
 ·rcases hb with hb | hb
  ·exact s₁.imm b (E₁.imm b (hFc b hb)).1
  ·exact s₁.imm b (s₁.sub b hb.1)
 ·obtain ⟨o, ho⟩ := back id o' ho'
  by_cases hid : id < S.length
  ·rcases E₁.pl id _ ad (List.getElem?_eq_getElem hid) ha with q | q
   ·exact s.own id _ ad hm (List.getElem?_eq_getElem hid) q
   ·have := s.big; omega
  ·have := s₁.own id o ad (by omega) ho ha
   have := s.big; omega
theorem clC_eq {a : A} (h : noRoC a = true) : clC a = a := if_pos h
theorem clO_eq {o : Ob} (h : rowsAll noRoC o.rows = true) : clO o = o := by
 have : o.rows.map (fun r => r.map clC) = o.rows := by
  conv => rhs; rw [← List.map_id o.rows]
  refine List.map_congr_left fun r hr => ?_
  conv => rhs; rw [id, ← List.map_id r]
  exact List.map_congr_left fun a ha => clC_eq (List.all_eq_true.1 (List.all_eq_true.1 h r hr) a ha)
 unfold clO; rw [this]
theorem clO_cell (o : Ob) (i j : Nat) : ((clO o).rows.getD i []).getD j .dead = clC ((o.rows.getD i []).getD j .dead) := by
 simp only [clO, List.getD_eq_getElem?_getD, List.getElem?_map]
 cases h1 : o.rows[i]? with
 | none => simp [clC, noRoC]
 | some r =>
  simp only [Option.map_some, Option.getD_some, List.getElem?_map]
  cases h2 : r[j]? with
  | none => simp [clC, noRoC]
  | some a => rfl
theorem clS_len (m : Nat) (S₁ : Store) : (clS m S₁).length = S₁.length := by simp [clS]
theorem clS_get {m id : Nat} {o : Ob} (h : S₁[id]? = some o) : (clS m S₁)[id]? = some (if id < m then o else clO o) := by simp [clS, h]
theorem clS_ok {m id : Nat} {o : Ob} (h : S₁[id]? = some o) (hr : rowsAll noRoC o.rows = true) : (clS m S₁)[id]? = some o := by
 rw [clS_get h, clO_eq hr]; split <;> rfl
theorem finK_ok (s : Sim W S σ I F h) (hm : MdOk W md) {mu D : List Nat} (hD : ∀ i ∈ D, ∃ o, S[i]? = some o) (hdis : ∀ i ∈ D, i ∉ mu)
  (s₁ : Sim (calleeW S mu md h.size) S₁ σ₁ I₁ F₁ h₁) (E₁ : Ext (calleeW S mu md h.size) S σ (fun b => I b ∨ DB σ D b) (calleeF S σ F (calleeW S mu md h.size).w) h S₁ σ₁ I₁ F₁ h₁)
  {vs vs' : List A} {S₂ : Store} {xs : List Value} (hf : finK md S mu D S₁ vs = some (vs', S₂)) (hr : ∀ j, j < vs.length → Rel S₁ σ₁ I₁ h₁ (vs.getD j .dead) (xs.getD j undef)) :
  vs'.length = vs.length ∧ ∃ σ₂ I₂ F₂, Sim W S₂ σ₂ I₂ F₂ h₁ ∧ Ext W S σ I F h S₂ σ₂ I₂ F₂ h₁ ∧ ∀ j, j < vs.length → Rel S₂ σ₂ I₂ h₁ (vs'.getD j .dead) (xs.getD j undef) := by
 have lt : ∀ id o, S[id]? = some o → id < S.length := fun id o ho => (List.getElem?_eq_some_iff.1 ho).1
 have hWw : ∀ id, (calleeW S mu md h.size).w id → id < S.length → W.w id := fun id hw hid => by
  rcases hw with hw | ⟨_, hw⟩
  ·omega
  ·exact hm.wr _ hw
 have hFc : ∀ b, F b → calleeF S σ F (calleeW S mu md h.size).w b := fun b hb => .inl hb
 have hFo : ∀ id o ad, S[id]? = some o → ¬ (calleeW S mu md h.size).w id → σ id = some ad → calleeF S σ F (calleeW S mu md h.size).w ad.block := fun id o ad ho hw ha => .inr ⟨id, o, ad, ho, hw, ha, rfl⟩
 have hDw : ∀ i ∈ D, ¬ (calleeW S mu md h.size).w i := fun i hi hw => by
  obtain ⟨o, ho⟩ := hD i hi
  rcases hw with hw | ⟨hw, _⟩
  ·have := lt i o ho; have hw' : S.length ≤ i := hw; omega
  ·exact hdis i hi hw
 unfold finK at hf
 split at hf
 ·rename_i hDe
  injection hf with hf; injection hf with e1 e2; subst e1 e2
  have hD0 : D = [] := by simpa using hDe
  obtain ⟨k1, k2⟩ := keep_core (S₂ := S₁) s rfl rfl hWw (fun id hid => .inl hid) hD hDw s₁ E₁ hFc hFo (fun id o ho => ⟨o, ho, rfl, rfl, rfl, fun _ => rfl, fun _ _ => rfl, fun _ i j _ _ => .inr ⟨rfl, .inr hD0⟩⟩) rfl
  refine ⟨rfl, _, _, _, k1, k2, fun j hj => (hr j hj).keepI (fun id o ho => ⟨o, ho, rfl, rfl⟩) fun b hb => ?_⟩
  rcases E₁.inew b hb with (q | ⟨i, hi, _⟩) | q
  ·exact .inl q
  ·rw [hD0] at hi; simp at hi
  ·exact .inr ⟨hb, q⟩
 ·split at hf
  ·rename_i hu
   injection hf with hf; injection hf with e1 e2; subst e1 e2
   obtain ⟨u1, u2⟩ := hu
   have hsame : Same S₁ (clS S.length S₁) := fun id o ho => ⟨_, clS_get ho, by split <;> rfl, by split <;> simp [clO]⟩
   obtain ⟨k1, k2⟩ := keep_core (S₂ := clS S.length S₁) s rfl rfl hWw (fun id hid => .inl hid) hD hDw s₁ E₁ hFc hFo (fun id o ho => by
    refine ⟨_, clS_get ho, ?_⟩
    have q := s₁.ob id o ho
    by_cases hid : id < S.length
    ·rw [if_pos hid]
     refine ⟨rfl, rfl, rfl, fun _ => rfl, fun _ _ => rfl, fun hw i j hi hj => .inr ⟨rfl, .inl ?_⟩⟩
     rcases hw with hw | ⟨hw1, hw2⟩
     ·have hw' : S.length ≤ id := hw; omega
     ·have := List.all_eq_true.1 u2 id hw1
      simp only [hw2, Bool.not_true, Bool.false_or, muFlat, ho, Bool.or_eq_true, decide_eq_true_eq] at this
      rcases this with t | t
      ·omega
      ·exact rowsAll_get t hi (by rw [q.len i hi]; exact hj)
    ·rw [if_neg hid]
     refine ⟨rfl, by simp [clO], rfl, fun h => absurd h hid, fun i hi => ?_, fun _ i j hi hj => ?_⟩
     ·simp only [clO, List.getD_eq_getElem?_getD, List.getElem?_map]
      cases o.rows[i]? <;> simp
     ·rw [clO_cell]
      by_cases hn : noRoC ((o.rows.getD i []).getD j .dead) = true
      ·exact .inr ⟨clC_eq hn, .inl hn⟩
      ·exact .inl (if_neg hn)) (clS_len _ _)
   exact ⟨rfl, _, _, _, k1, k2, fun j hj => (hr j hj).keepV hsame (.inl (List.all_eq_true.1 u1 _ (by simp [hj])))⟩
  ·cases hf
end
end Go.Proofs.YtdpaijnbikclgaaDoorE
