/- Part of the proof: an evaluator (YtomklniddinhnaaEKeep). -/
import Derived.Test.YtomklniddinhnaaEFin3
set_option linter.unusedVariables false
set_option linter.unusedSectionVars false
set_option linter.unusedSimpArgs false
namespace Go.Proofs.YtomklniddinhnaaE
open Go
def clC (a : A) : A := if noRoC a = true then a else .dead
def clO (o : Ob) : Ob := ⟨o.n, o.rows.map fun r => r.map clC, o.st, o.bx⟩
def clS (m : Nat) (S₁ : Store) : Store := S₁.mapIdx fun i o => if i < m then o else clO o
def finK (md : Md) (S : Store) (mu D : List Nat) (S₁ : Store) (vs : List A) : Option (List A × Store) :=
 if D.isEmpty = true then some (vs, S₁)
 else if vs.all noRoV = true ∧ (mu.all fun id => !md.wr id || decide (S.length ≤ id) || muFlat S₁ id) = true then some (vs, clS S.length S₁) else none
section
variable {W : Fm} {S : Store} {σ : Place} {I F : Nat → Prop} {md : Md} {h h₁ : Array Obj} {S₁ S₂ : Store} {σ₁ : Place} {I₁ F₁ I₂ : Nat → Prop}
def Same (S₁ S₂ : Store) : Prop := ∀ (id : Nat) (o : Ob), S₁[id]? = some o → ∃ o' : Ob, S₂[id]? = some o' ∧ o'.n = o.n ∧ o'.rows.length = o.rows.length
theorem Rel.keepC (hS : Same S₁ S₂) {a : A} {x : Value} (hn : noRoC a = true) (r : Rel S₁ σ₁ I₁ h a x) : Rel S₂ σ₁ I₂ h a x := by
 cases r with
 | v x => exact .v x
 | dead x => exact .dead x
 | ag cs xs hl hc => cases hn
 | tu l vs hl hc => cases hn
 | ro0 n a c => exact .ro0 n a c
 | ro n rows ad c cs ty fr hs hI hb hn' hsz hcap hfl hc =>
  have : rows = [] := by simpa [noRoC] using hn
  subst this; exact .ro0 _ _ _
 | rp l ad cs ty fr hs hI hb hsz hfl hc => cases hn
 | sl id lo hi ver a c o ho h1 h2 h3 hf =>
  obtain ⟨o', k1, k2, k3⟩ := hS id o ho
  exact .sl id lo hi ver a c o' k1 h1 h2 (by rw [k3]; exact h3) (by rw [k2, k3]; exact hf)
 | pt id row off ver ad o ho h2 h3 hf =>
  obtain ⟨o', k1, k2, k3⟩ := hS id o ho
  exact .pt id row off ver ad o' k1 h2 (by rw [k3]; exact h3) (by rw [k2, k3]; exact hf)
 | fn f caps vs hl hc =>
  have : caps = [] := by simpa [noRoC] using hn
  subst this
  exact .fn f [] vs hl fun i hi => by simp at hi
theorem Rel.keepI (hS : Same S₁ S₂) (hi : ∀ b, I₁ b → I₂ b) {a : A} {x : Value} (r : Rel S₁ σ₁ I₁ h a x) : Rel S₂ σ₁ I₂ h a x := by
 induction r with
 | v x => exact .v x
 | dead x => exact .dead x
 | ag cs xs hl hc ih => exact .ag cs xs hl ih
 | tu l vs hl hc ih => exact .tu l vs hl ih
 | ro0 n a c => exact .ro0 n a c
 | ro n rows ad c cs ty fr hs hI hb hn hsz hcap hfl hc ih => exact .ro n rows ad c cs ty fr hs (hi _ hI) hb hn hsz hcap hfl ih
 | rp l ad cs ty fr hs hI hb hsz hfl hc ih => exact .rp l ad cs ty fr hs (hi _ hI) hb hsz hfl ih
 | sl id lo hi' ver a c o ho h1 h2 h3 hf =>
  obtain ⟨o', k1, k2, k3⟩ := hS id o ho
  exact .sl id lo hi' ver a c o' k1 h1 h2 (by rw [k3]; exact h3) (by rw [k2, k3]; exact hf)
 | pt id row off ver ad o ho h2 h3 hf =>
  obtain ⟨o', k1, k2, k3⟩ := hS id o ho
  exact .pt id row off ver ad o' k1 h2 (by rw [k3]; exact h3) (by rw [k2, k3]; exact hf)
 | fn f caps vs hl hc ih => exact .fn f caps vs hl ih
theorem Rel.keepV (hS : Same S₁ S₂) {a : A} {x : Value} (hn : noRoV a = true ∨ ∀ b, I₁ b → I₂ b) (r : Rel S₁ σ₁ I₁ h a x) : Rel S₂ σ₁ I₂ h a x := by
 rcases hn with hn | hn
 ·have r0 := r
  cases r with
  | ag cs xs hl hc => exact .ag cs xs hl fun i hi => (hc i hi).keepC hS (List.all_eq_true.1 hn _ (by simp [hi]))
  | v x => exact .v x
  | dead x => exact .dead x
  | tu l vs hl hc => cases hn
  | ro0 n a c => exact .ro0 n a c
  | ro => exact r0.keepC hS hn
  | rp => cases hn
  | sl => exact r0.keepC hS hn
  | pt => exact r0.keepC hS hn
  | fn => exact r0.keepC hS hn
 ·exact r.keepI hS hn
theorem keep_core (s : Sim W S σ I F h) {Wc : Fm} {Fc : Nat → Prop} {D : List Nat} (hWm : Wc.m = S.length) (hWN : Wc.N = h.size) (hWw : ∀ id, Wc.w id → id < S.length → W.w id)
  (hWn : ∀ id, S.length ≤ id → Wc.w id) (hD : ∀ i ∈ D, ∃ o, S[i]? = some o) (hDw : ∀ i ∈ D, ¬ Wc.w i)
  (s₁ : Sim Wc S₁ σ₁ I₁ F₁ h₁) (E₁ : Ext Wc S σ (fun b => I b ∨ DB σ D b) Fc h S₁ σ₁ I₁ F₁ h₁) (hFc : ∀ b, F b → Fc b) (hFo : ∀ (id : Nat) (o : Ob) (ad : Addr), S[id]? = some o → ¬ Wc.w id → σ id = some ad → Fc ad.block)
  (hS2 : ∀ (id : Nat) (o : Ob), S₁[id]? = some o → ∃ o' : Ob, S₂[id]? = some o' ∧ o'.n = o.n ∧ o'.rows.length = o.rows.length ∧ o'.st = o.st ∧ (id < S.length → o' = o) ∧
   (∀ i, i < o.rows.length → (o'.rows.getD i []).length = (o.rows.getD i []).length) ∧
   (Wc.w id → ∀ i j, i < o.rows.length → j < o.n → (o'.rows.getD i []).getD j .dead = .dead ∨ ((o'.rows.getD i []).getD j .dead = (o.rows.getD i []).getD j .dead ∧ (noRoC ((o.rows.getD i []).getD j .dead) = true ∨ D = []))))
  (hlen : S₂.length = S₁.length) :
  Sim W S₂ σ₁ (fun b => I b ∨ (I₁ b ∧ h.size ≤ b)) (fun b => F b ∨ (I₁ b ∧ h.size ≤ b)) h₁ ∧ Ext W S σ I F h S₂ σ₁ (fun b => I b ∨ (I₁ b ∧ h.size ≤ b)) (fun b => F b ∨ (I₁ b ∧ h.size ≤ b)) h₁ := by
 have lt : ∀ id o, S[id]? = some o → id < S.length := fun id o ho => (List.getElem?_eq_some_iff.1 ho).1
 have blt : ∀ id o ad, S[id]? = some o → σ id = some ad → ad.block < h.size := fun id o ad ho ha => by
  obtain ⟨_, _, _, cs, ty, fr, k4, _⟩ := (s.ob id o ho).there ad ha
  exact (Array.getElem?_eq_some_iff.1 k4).1
 have hSame : Same S₁ S₂ := fun id o ho => by obtain ⟨o', k1, k2, k3, _⟩ := hS2 id o ho; exact ⟨o', k1, k2, k3⟩
 have back : ∀ id o', S₂[id]? = some o' → ∃ o, S₁[id]? = some o := fun id o' ho => by
  have := (List.getElem?_eq_some_iff.1 ho).1
  exact ⟨_, List.getElem?_eq_getElem (show id < S₁.length by omega)⟩
 have same : ∀ id o, S[id]? = some o → ¬ Wc.w id → S₁[id]? = some o ∧ σ₁ id = σ id := fun id o ho hw => by
  obtain ⟨o', p1, p2, p3, p4, p5⟩ := E₁.ob id o ho
  have := p5 hw; subst this
  exact ⟨p1, (p4 rfl).1⟩
 have hI2 : D = [] → ∀ b, I₁ b → I b ∨ (I₁ b ∧ h.size ≤ b) := fun hd b hb => by
  rcases E₁.inew b hb with (q | ⟨i, hi, _⟩) | q
  ·exact .inl q
  ·rw [hd] at hi; simp at hi
  ·exact .inr ⟨hb, hWN ▸ q⟩
 have E : Ext W S σ I F h S₂ σ₁ (fun b => I b ∨ (I₁ b ∧ h.size ≤ b)) (fun b => F b ∨ (I₁ b ∧ h.size ≤ b)) h₁ := by
  refine ⟨fun id o ho => ?_, fun b hb => ⟨.inl hb, (E₁.imm b (hFc b hb)).2⟩, fun b hb => .inl hb, fun b hb => hb.imp _root_.id fun q => Nat.le_trans s.big q.2, fun id o ad ho ha => ?_, E₁.size⟩
  ·obtain ⟨o₁, p1, p2, p3, p4, p5⟩ := E₁.ob id o ho
   obtain ⟨o', k1, k2, k3, k4, k5, _⟩ := hS2 id o₁ p1
   have := k5 (lt id o ho); subst this
   exact ⟨o', k1, p2, p3, p4, fun nw => p5 fun hw => nw (hWw id hw (lt id o ho))⟩
  ·exact (E₁.pl id o ad ho ha).imp _root_.id fun hb => by have := s.big; omega
 refine ⟨⟨fun id o' ho' => ?_, fun id id' o o' ad ad' ho ho' ha ha' ne => ?_, fun b hb => ?_, fun b hb => hb.imp (s.sub b) _root_.id, fun id o' ad hm ho' ha => ?_, Nat.le_trans s.big E₁.size⟩, E⟩
 ·obtain ⟨o, ho⟩ := back id o' ho'
  obtain ⟨o'', k1, k2, k3, k4, k5, k6, k7⟩ := hS2 id o ho
  rw [ho'] at k1; injection k1 with k1; subst k1
  have q := s₁.ob id o ho
  refine ⟨fun e => List.length_eq_zero_iff.1 (by rw [k3, q.none_ e]; rfl), fun i hi => by rw [k3] at hi; rw [k6 i hi, k2]; exact q.len i hi, fun ad ha => ?_⟩
  obtain ⟨m1, m2, m3, cs, ty, fr, m4, m5, m6, m7⟩ := q.there ad ha
  refine ⟨m1, fun hw hst hF => ?_, fun hst => ?_, cs, ty, fr, m4, m5, by rw [k2, k3]; exact m6, fun i j hi hj => ?_⟩
  ·rw [k4] at hst
   by_cases hc : Wc.w id
   ·have := m2 hc hst
    rcases hF with hF | hF
    ·exact this (E₁.imm _ (hFc _ hF)).1
    ·exact this (s₁.sub _ hF.1)
   ·have hid : id < S.length := Nat.lt_of_not_le fun e => hc (hWn id e)
    obtain ⟨q1, q2⟩ := same id _ (List.getElem?_eq_getElem hid) hc
    have e0 : S[id]? = some o := by rw [List.getElem?_eq_getElem hid]; rw [ho] at q1; exact q1.symm
    rw [q2] at ha
    have := blt id o ad e0 ha
    rcases hF with hF | hF
    ·exact ((s.ob id o e0).there ad ha).2.1 hw hst hF
    ·have := hF.2; omega
  ·rw [k4] at hst
   by_cases hc : Wc.w id
   ·have hI := m3 hst
    rcases E₁.inew _ hI with (q | ⟨i, hi, ad', ha', e⟩) | q
    ·exact .inl q
    ·exfalso
     obtain ⟨o2, ho2⟩ := hD i hi
     obtain ⟨r1, r2⟩ := same i o2 ho2 (hDw i hi)
     have ne : id ≠ i := fun e => hDw i hi (e ▸ hc)
     exact s₁.inj id i o o2 ad ad' ho r1 ha (r2.trans ha') ne e.symm
    ·exact .inr ⟨hI, hWN ▸ q⟩
   ·have hid : id < S.length := Nat.lt_of_not_le fun e => hc (hWn id e)
    obtain ⟨q1, q2⟩ := same id _ (List.getElem?_eq_getElem hid) hc
    have e0 : S[id]? = some o := by rw [List.getElem?_eq_getElem hid]; rw [ho] at q1; exact q1.symm
    rw [q2] at ha
    exact .inl (((s.ob id o e0).there ad ha).2.2.1 hst)
  ·rw [k3] at hi; rw [k2] at hj ⊢
   by_cases hc : Wc.w id
   ·rcases k7 hc i j hi hj with e | ⟨e, hn⟩
    ·rw [e]; exact .dead _
    ·rw [e]
     rcases hn with hn | hn
     ·exact (m7 i j hi hj).keepC hSame hn
     ·exact (m7 i j hi hj).keepI hSame (hI2 hn)
   ·have hid : id < S.length := Nat.lt_of_not_le fun e => hc (hWn id e)
    obtain ⟨q1, q2⟩ := same id _ (List.getElem?_eq_getElem hid) hc
    have e0 : S[id]? = some o := by rw [List.getElem?_eq_getElem hid]; rw [ho] at q1; exact q1.symm
    have := k5 hid; subst this
    rw [q2] at ha
    obtain ⟨_, _, _, cs', ty', fr', z4, z5, z6, z7⟩ := (s.ob id o' e0).there ad ha
    have hbk := (E₁.imm _ (hFo id o' ad e0 hc ha)).2
    rw [m4] at hbk
    rw [← hbk] at z4; injection z4 with z4; injection z4 with f1 f2 f3; subst f1 f2 f3
    exact E.rel s.sub (z7 i j hi hj)
 ·obtain ⟨p, hp⟩ := back id o ho
  obtain ⟨p', hp'⟩ := back id' o' ho'
  exact s₁.inj id id' p p' ad ad' hp hp' ha ha' ne
 ·rcases hb with hb | hb
  ·exact s₁.imm b (E₁.imm b (hFc b hb)).1
  ·exact s₁.imm b (s₁.sub b hb.1)
 ·obtain ⟨o, ho⟩ := back id o' ho'
  by_cases hid : id < S.length
  ·rcases E₁.pl id _ ad (List.getElem?_eq_getElem hid) ha with q | q
   ·exact s.own id _ ad hm (List.getElem?_eq_getElem hid) q
   ·have := s.big; omega
  ·have := s₁.own id o ad (by omega) ho ha
   have := s.big; omega
theorem clC_eq {a : A} (h : noRoC a = true) : clC a = a := if_pos h
theorem clO_eq {o : Ob} (h : rowsAll noRoC o.rows = true) : clO o = o := by
 have : o.rows.map (fun r => r.map clC) = o.rows := by
  conv => rhs; rw [← List.map_id o.rows]
  refine List.map_congr_left fun r hr => ?_
  conv => rhs; rw [id, ← List.map_id r]
  exact List.map_congr_left fun a ha => clC_eq (List.all_eq_true.1 (List.all_eq_true.1 h r hr) a ha)
 unfold clO; rw [this]
theorem clO_cell (o : Ob) (i j : Nat) : ((clO o).rows.getD i []).getD j .dead = clC ((o.rows.getD i []).getD j .dead) := by
 simp only [clO, List.getD_eq_getElem?_getD, List.getElem?_map]
 cases h1 : o.rows[i]? with
 | none => simp [clC, noRoC]
 | some r =>
  simp only [Option.map_some, Option.getD_some, List.getElem?_map]
  cases h2 : r[j]? with
  | none => simp [clC, noRoC]
  | some a => rfl
theorem clS_len (m : Nat) (S₁ : Store) : (clS m S₁).length = S₁.length := by simp [clS]
theorem clS_get {m id : Nat} {o : Ob} (h : S₁[id]? = some o) : (clS m S₁)[id]? = some (if id < m then o else clO o) := by simp [clS, h]
theorem clS_ok {m id : Nat} {o : Ob} (h : S₁[id]? = some o) (hr : rowsAll noRoC o.rows = true) : (clS m S₁)[id]? = some o := by
 rw [clS_get h, clO_eq hr]; split <;> rfl
theorem finK_ok (s : Sim W S σ I F h) (hm : MdOk W md) {mu D : List Nat} (hD : ∀ i ∈ D, ∃ o, S[i]? = some o) (hdis : ∀ i ∈ D, i ∉ mu)
  (s₁ : Sim (calleeW S mu md h.size) S₁ σ₁ I₁ F₁ h₁) (E₁ : Ext (calleeW S mu md h.size) S σ (fun b => I b ∨ DB σ D b) (calleeF S σ F (calleeW S mu md h.size).w) h S₁ σ₁ I₁ F₁ h₁)
  {vs vs' : List A} {S₂ : Store} {xs : List Value} (hf : finK md S mu D S₁ vs = some (vs', S₂)) (hr : ∀ j, j < vs.length → Rel S₁ σ₁ I₁ h₁ (vs.getD j .dead) (xs.getD j undef)) :
  vs'.length = vs.length ∧ ∃ σ₂ I₂ F₂, Sim W S₂ σ₂ I₂ F₂ h₁ ∧ Ext W S σ I F h S₂ σ₂ I₂ F₂ h₁ ∧ ∀ j, j < vs.length → Rel S₂ σ₂ I₂ h₁ (vs'.getD j .dead) (xs.getD j undef) := by
 have lt : ∀ id o, S[id]? = some o → id < S.length := fun id o ho => (List.getElem?_eq_some_iff.1 ho).1
 have hWw : ∀ id, (calleeW S mu md h.size).w id → id < S.length → W.w id := fun id hw hid => by
  rcases hw with hw | ⟨_, hw⟩
  ·omega
  ·exact hm.wr _ hw
 have hFc : ∀ b, F b → calleeF S σ F (calleeW S mu md h.size).w b := fun b hb => .inl hb
 have hFo : ∀ id o ad, S[id]? = some o → ¬ (calleeW S mu md h.size).w id → σ id = some ad → calleeF S σ F (calleeW S mu md h.size).w ad.block := fun id o ad ho hw ha => .inr ⟨id, o, ad, ho, hw, ha, rfl⟩
 have hDw : ∀ i ∈ D, ¬ (calleeW S mu md h.size).w i := fun i hi hw => by
  obtain ⟨o, ho⟩ := hD i hi
  rcases hw with hw | ⟨hw, _⟩
  ·have := lt i o ho; have hw' : S.length ≤ i := hw; omega
  ·exact hdis i hi hw
 unfold finK at hf
 split at hf
 ·rename_i hDe
  injection hf with hf; injection hf with e1 e2; subst e1 e2
  have hD0 : D = [] := by simpa using hDe
  obtain ⟨k1, k2⟩ := keep_core (S₂ := S₁) s rfl rfl hWw (fun id hid => .inl hid) hD hDw s₁ E₁ hFc hFo (fun id o ho => ⟨o, ho, rfl, rfl, rfl, fun _ => rfl, fun _ _ => rfl, fun _ i j _ _ => .inr ⟨rfl, .inr hD0⟩⟩) rfl
  refine ⟨rfl, _, _, _, k1, k2, fun j hj => (hr j hj).keepI (fun id o ho => ⟨o, ho, rfl, rfl⟩) fun b hb => ?_⟩
  rcases E₁.inew b hb with (q | ⟨i, hi, _⟩) | q
  ·exact .inl q
  ·rw [hD0] at hi; simp at hi
  ·exact .inr ⟨hb, q⟩
 ·split at hf
  ·rename_i hu
   injection hf with hf; injection hf with e1 e2; subst e1 e2
   obtain ⟨u1, u2⟩ := hu
   have hsame : Same S₁ (clS S.length S₁) := fun id o ho => ⟨_, clS_get ho, by split <;> rfl, by split <;> simp [clO]⟩
   obtain ⟨k1, k2⟩ := keep_core (S₂ := clS S.length S₁) s rfl rfl hWw (fun id hid => .inl hid) hD hDw s₁ E₁ hFc hFo (fun id o ho => by
    refine ⟨_, clS_get ho, ?_⟩
    have q := s₁.ob id o ho
    by_cases hid : id < S.length
    ·rw [if_pos hid]
     refine ⟨rfl, rfl, rfl, fun _ => rfl, fun _ _ => rfl, fun hw i j hi hj => .inr ⟨rfl, .inl ?_⟩⟩
     rcases hw with hw | ⟨hw1, hw2⟩
     ·have hw' : S.length ≤ id := hw; omega
     ·have := List.all_eq_true.1 u2 id hw1
      simp only [hw2, Bool.not_true, Bool.false_or, muFlat, ho, Bool.or_eq_true, decide_eq_true_eq] at this
      rcases this with t | t
      ·omega
      ·exact rowsAll_get t hi (by rw [q.len i hi]; exact hj)
    ·rw [if_neg hid]
     refine ⟨rfl, by simp [clO], rfl, fun h => absurd h hid, fun i hi => ?_, fun _ i j hi hj => ?_⟩
     ·simp only [clO, List.getD_eq_getElem?_getD, List.getElem?_map]
      cases o.rows[i]? <;> simp
     ·rw [clO_cell]
      by_cases hn : noRoC ((o.rows.getD i []).getD j .dead) = true
      ·exact .inr ⟨clC_eq hn, .inl hn⟩
      ·exact .inl (if_neg hn)) (clS_len _ _)
   exact ⟨rfl, _, _, _, k1, k2, fun j hj => (hr j hj).keepV hsame (.inl (List.all_eq_true.1 u1 _ (by simp [hj])))⟩
  ·cases hf
end
end Go.Proofs.YtomklniddinhnaaE
set_option linter.unusedVariables false
set_option linter.unusedSectionVars false
set_option linter.unusedSimpArgs false
namespace Go.Proofs.YtomklniddinhnaaE
open Go
abbrev Env := Nat → A
def Env.set (e : Env) (d : Nat) (a : A) : Env := fun t => if t = d then a else e t
def lowV (m : Nat) : A → Bool
 | .ag cs => cs.all (okC m)
 | .fn _ caps => caps.all (okC m)
 | a => okC m a
def mkE : List (Nat × A) → Env
 | [], _ => .dead
 | (k, a) :: l, t => if t = k then a else mkE l t
def selE (ks : List Nat) (e : Env) : Env := mkE (ks.map fun t => (t, e t))
def GcOk (S S₁ : Store) : Prop := ∀ i o, i < S.length → S₁[i]? = some o → S[i]? = some o ∨ rowsAll (okC S.length) o.rows = true
def lpE : Option (List Nat) → Env → Env
 | none, e => e
 | some ks, e => selE ks e
open Classical in
noncomputable def lpG : Option (List Nat) → Store → Env → Store → Store
 | none, _, _, S₁ => S₁
 | some ks, S, e, S₁ => if (ks.all fun t => lowV S.length (e t)) = true ∧ GcOk S S₁ then S₁.take S.length else S₁
section
variable {W : Fm} {S S₁ : Store} {σ σ₁ : Place} {I F I₁ F₁ : Nat → Prop} {h h₁ : Array Obj}
theorem mkE_sel (ks : List Nat) (e : Env) (t : Nat) : selE ks e t = e t ∧ t ∈ ks ∨ selE ks e t = .dead := by
 unfold selE
 induction ks with
 | nil => exact .inr rfl
 | cons k ks ih =>
  simp only [List.map_cons, mkE]
  split
  ·rename_i h; subst h; exact .inl ⟨rfl, by simp⟩
  ·rcases ih with ⟨h1, h2⟩ | h1
   ·exact .inl ⟨h1, by simp [h2]⟩
   ·exact .inr h1
theorem Rel.take_old {m : Nat} (hm : S.length = m) {a : A} {x x₀ : Value} (r : Rel S₁ σ₁ I₁ h₁ a x) (r₀ : Rel S σ I h a x₀) : Rel (S₁.take m) σ₁ I₁ h₁ a x := by
 have lt : ∀ id o, S[id]? = some o → id < m := fun id o ho => hm ▸ (List.getElem?_eq_some_iff.1 ho).1
 have tk : ∀ id o, id < m → S₁[id]? = some o → (S₁.take m)[id]? = some o := fun id o hi ho => by rw [List.getElem?_take, if_pos hi]; exact ho
 induction r generalizing x₀ with
 | v x => exact .v x
 | dead x => exact .dead x
 | ag cs xs hl hc ih =>
  cases r₀ with
  | ag _ ys hl' hc' => exact .ag cs xs hl fun i hi => ih i hi (hc' i hi)
 | tu cs xs hl hc ih =>
  cases r₀ with
  | tu _ ys hl' hc' => exact .tu cs xs hl fun i hi => ih i hi (hc' i hi)
 | fn f cs xs hl hc ih =>
  cases r₀ with
  | fn _ _ ys hl' hc' => exact .fn f cs xs hl fun i hi => ih i hi (hc' i hi)
 | ro0 n a c => exact .ro0 n a c
 | ro n rows ad c cs ty fr hs hI hb hn hsz hcap hfl hc ih => exact (Rel.ro n rows ad c cs ty fr hs hI hb hn hsz hcap hfl hc).flat (fun _ h => h) rfl
 | rp l ad cs ty fr hs hI hb hsz hfl hc ih => exact (Rel.rp l ad cs ty fr hs hI hb hsz hfl hc).flat (fun _ h => h) rfl
 | sl id lo hi ver a c o ho h1 h2 h3 hf =>
  cases r₀ with
  | sl _ _ _ _ _ _ o' ho' => exact .sl id lo hi ver a c o (tk id o (lt id o' ho') ho) h1 h2 h3 hf
 | pt id row off ver ad o ho h2 h3 hf =>
  cases r₀ with
  | pt _ _ _ _ _ o' ho' => exact .pt id row off ver ad o (tk id o (lt id o' ho') ho) h2 h3 hf
theorem take_hS (m : Nat) : ∀ id o, id < m → S₁[id]? = some o → ∃ o', (S₁.take m)[id]? = some o' ∧ o'.n = o.n ∧ o'.rows = o.rows ∧ σ₁ id = σ₁ id := fun id o hi ho => ⟨o, by rw [List.getElem?_take, if_pos hi]; exact ho, rfl, rfl, rfl⟩
theorem lowV_rel {m : Nat} {a : A} {x : Value} (hl : lowV m a = true) (r : Rel S₁ σ₁ I₁ h₁ a x) : Rel (S₁.take m) σ₁ I₁ h₁ a x := by
 have one : ∀ {a : A} {x : Value}, okC m a = true → Rel S₁ σ₁ I₁ h₁ a x → Rel (S₁.take m) σ₁ I₁ h₁ a x := fun hk r => r.change hk (.inr fun _ h => h) (take_hS m)
 cases r with
 | ag cs xs hl' hc => exact .ag cs xs hl' fun i hi => one (List.all_eq_true.1 hl _ (by simp [hi])) (hc i hi)
 | fn f cs xs hl' hc => exact .fn f cs xs hl' fun i hi => one (List.all_eq_true.1 hl _ (by simp [hi])) (hc i hi)
 | v x => exact .v x
 | dead x => exact .dead x
 | tu => cases hl
 | ro0 n a c => exact .ro0 n a c
 | ro n rows ad c cs ty fr hs hI hb hn hsz hcap hfl hc => exact (Rel.ro n rows ad c cs ty fr hs hI hb hn hsz hcap hfl hc).flat (fun _ h => h) rfl
 | rp l ad cs ty fr hs hI hb hsz hfl hc => exact (Rel.rp l ad cs ty fr hs hI hb hsz hfl hc).flat (fun _ h => h) rfl
 | sl id lo hi ver a c o ho h1 h2 h3 hf => exact one hl (.sl id lo hi ver a c o ho h1 h2 h3 hf)
 | pt id row off ver ad o ho h2 h3 hf => exact one hl (.pt id row off ver ad o ho h2 h3 hf)
theorem gc_sim (s : Sim W S σ I F h) (s₁ : Sim W S₁ σ₁ I₁ F₁ h₁) (E : Ext W S σ I F h S₁ σ₁ I₁ F₁ h₁) (g : GcOk S S₁) :
  Sim W (S₁.take S.length) σ₁ I₁ F₁ h₁ ∧ Ext W S σ I F h (S₁.take S.length) σ₁ I₁ F₁ h₁ := by
 have tk : ∀ id o, (S₁.take S.length)[id]? = some o → id < S.length ∧ S₁[id]? = some o := fun id o ho => by
  rw [List.getElem?_take] at ho; split at ho
  ·exact ⟨by assumption, ho⟩
  ·cases ho
 refine ⟨⟨fun id o ho => ?_, fun id id' o o' ad ad' ho ho' => s₁.inj id id' o o' ad ad' (tk id o ho).2 (tk id' o' ho').2, s₁.imm, s₁.sub, fun id o ad hm ho => s₁.own id o ad hm (tk id o ho).2, s₁.big⟩,
  ⟨fun id o ho => ?_, E.imm, E.ii, E.inew, E.pl, E.size⟩⟩
 ·obtain ⟨hlt, ho₁⟩ := tk id o ho
  have q := s₁.ob id o ho₁
  refine ⟨q.none_, q.len, fun ad ha => ?_⟩
  obtain ⟨k1, k2, k3, cs, ty, fr, k4, k5, k6, k7⟩ := q.there ad ha
  refine ⟨k1, k2, k3, cs, ty, fr, k4, k5, k6, fun i j hi hj => ?_⟩
  rcases g id o hlt ho₁ with g | g
  ·have q₀ := s.ob id o g
   cases hσ : σ id with
   | none => have := q₀.none_ hσ; rw [this] at hi; simp at hi
   | some ad₀ =>
    obtain ⟨_, _, _, cs₀, _, _, _, _, _, r7⟩ := q₀.there ad₀ hσ
    exact (k7 i j hi hj).take_old rfl (r7 i j hi hj)
  ·exact (k7 i j hi hj).change (rowsAll_get g hi (by rw [q.len i hi]; exact hj)) (.inr fun _ h => h) (take_hS _)
 ·obtain ⟨o', p1, p2⟩ := E.ob id o ho
  exact ⟨o', by rw [List.getElem?_take, if_pos (List.getElem?_eq_some_iff.1 ho).1]; exact p1, p2⟩
end
end Go.Proofs.YtomklniddinhnaaE
set_option linter.unusedVariables false
set_option linter.unusedSectionVars false
set_option linter.unusedSimpArgs false
namespace Go.Proofs.YtomklniddinhnaaE
open Go
def rho (e : Env) : Operand → A
  | .tmp t => e t
  | .const x => .v x
  | .func f => .fn f []
  | .global _ => .dead
inductive Ex where
  | normal | exit (n : Nat) | ret
abbrev Cl := Md → Nat → List A → Store → Option (A × Store)
def evStep (T : Nat → Option TI) (C : Cl) (md : Md) (e : Env) (S : Store) (o : Oper) : Option (A × Store) :=
  match o.op with
  | .call { callee := .value f, args, .. } => match rho e f with
    | .fn g caps => C md g (args.toList.map (rho e) ++ caps) S
    | _ => none
  | _ => evOp T md (rho e) S o
def wantedA (all : List Oper) (e : Env) (o : Oper) : Option Bool :=
  match o.guard with
  | none => some true
  | some (g, b) => match (all[g]?).bind (·.dst) with
    | none => some false
    | some t => match e t with
      | .v (.bool c) => some (c == b)
      | .v _ => some false
      | _ => none
def putA (n : Nat) (e : Env) (d : Option Nat) (a : A) : Option Env := match d with
  | none => some e
  | some d => if d < n then some (e.set d a) else none
def evOps (T : Nat → Option TI) (C : Cl) (md : Md) (n : Nat) (all : List Oper) : List Oper → Env → Store → Option (Env × Store)
  | [], e, S => some (e, S)
  | o :: rest, e, S => match wantedA all e o with
    | some true => match evStep T C md e S o with
      | some (a, S') => match putA n e o.dst a with
        | some e' => evOps T C md n all rest e' S'
        | none => none
      | none => none
    | some false => match putA n e o.dst (.v undef) with
      | some e' => evOps T C md n all rest e' S
      | none => none
    | none => none
def iter (f : Env → Store → Option (Ex × Env × Store)) : Nat → Env → Store → Option (Ex × Env × Store)
  | 0, _, _ => none
  | k + 1, e, S => match f e S with
    | some (.normal, e', S') => iter f k e' S'
    | r => r
theorem iter_mono {f : Env → Store → Option (Ex × Env × Store)} : ∀ {k : Nat} {e : Env} {S : Store} {r}, iter f k e S = some r → iter f (k + 1) e S = some r
  | 0, e, S, r, h => by cases h
  | k + 1, e, S, r, h => by
    unfold iter at h ⊢
    split at h
    · exact iter_mono h
    · exact h
theorem iter_le {f : Env → Store → Option (Ex × Env × Store)} {k : Nat} {e : Env} {S : Store} {r} (h : iter f k e S = some r) : ∀ j, iter f (k + j) e S = some r
  | 0 => h
  | j + 1 => iter_mono (iter_le h j)
open Classical in
noncomputable def itL (f : Env → Store → Option (Ex × Env × Store)) (e : Env) (S : Store) : Option (Ex × Env × Store) :=
  if h : ∃ r k, iter f k e S = some r then some h.choose else none
theorem itL_run {f : Env → Store → Option (Ex × Env × Store)} {e : Env} {S : Store} {r} (h : itL f e S = some r) : ∃ k, iter f k e S = some r := by
  unfold itL at h
  split at h
  · rename_i hh; injection h with h; exact h ▸ hh.choose_spec
  · cases h
theorem itL_of {f : Env → Store → Option (Ex × Env × Store)} {e : Env} {S : Store} {k : Nat} {r} (h : iter f k e S = some r) : itL f e S = some r := by
  unfold itL
  rw [dif_pos ⟨r, k, h⟩]
  obtain ⟨j, hj⟩ := (⟨r, k, h⟩ : ∃ r k, iter f k e S = some r).choose_spec
  have h1 := iter_le hj k
  have h2 := iter_le h j
  rw [Nat.add_comm] at h2
  exact h1.symm.trans h2
theorem itL_end {f : Env → Store → Option (Ex × Env × Store)} {e e' : Env} {S S' : Store} {ex : Ex} (h : f e S = some (ex, e', S')) (hn : ex ≠ .normal) : itL f e S = some (ex, e', S') := by
  refine itL_of (k := 1) ?_
  unfold iter
  rw [h]
  cases ex <;> first | exact absurd rfl hn | rfl
theorem itL_next {f : Env → Store → Option (Ex × Env × Store)} {e e' : Env} {S S' : Store} {r} (h : f e S = some (.normal, e', S')) (hr : itL f e' S' = some r) : itL f e S = some r := by
  obtain ⟨k, hk⟩ := itL_run hr
  refine itL_of (k := k + 1) ?_
  unfold iter
  rw [h]
  exact hk
section
variable {P : Program} {T : Nat → Option TI} {W : Fm} {S : Store} {σ : Place} {I F : Nat → Prop} {w : World} {md : Md}
def CallOk (P : Program) (C : Cl) : Prop := ∀ md g as S r S', C md g as S = some (r, S') → (∃ fn, P.funcs[g]? = some fn ∧ fn.name ≠ "runtime.NumGoroutine" ∧ fn.body.isNone = false) ∧
  ∀ (W : Fm) σ I F w (vals : Array Value), Sim W S σ I F w.heap → MdOk W md → as.length = vals.size → (∀ j, j < as.length → Rel S σ I w.heap (as.getD j .dead) (vals.getD j undef)) →
    Calls P g vals w fun e w' => ∃ x, e = .returned x ∧ Step W S σ I F w r S' x w'
def EnvRel (S : Store) (σ : Place) (I : Nat → Prop) (h : Array Obj) (e : Env) (tmps : Array Value) : Prop := ∀ t, Rel S σ I h (e t) (tmps.getD t undef)
theorem rho_ok {e : Env} {a : Act} (he : EnvRel S σ I w.heap e a.tmps) (x : Operand) : Rel S σ I w.heap (rho e x) (a.eval x) := by
  cases x with
  | tmp t => exact he t
  | const x => exact .v x
  | func f => exact .fn f [] #[] rfl fun i hi => by simp at hi
  | global g => exact .dead _
theorem put_ok {e e' : Env} {a : Act} {d : Option Nat} {b : A} {x : Value} (he : EnvRel S σ I w.heap e a.tmps) (hb : Rel S σ I w.heap b x) (h : putA a.tmps.size e d b = some e') : EnvRel S σ I w.heap e' (a.put d x).tmps := by
  unfold putA at h
  cases d with
  | none => injection h with h; subst h; exact he
  | some d =>
    simp only at h
    split at h
    · rename_i hd
      injection h with h; subst h
      intro t
      simp only [Env.set, Act.put]
      split
      · rename_i e; subst e; simpa [hd] using hb
      · rename_i ne
        have := he t
        simpa [Array.getElem?_setIfInBounds_ne (Ne.symm ne)] using this
    · cases h
theorem put_size (a : Act) (d : Option Nat) (x : Value) : (a.put d x).tmps.size = a.tmps.size := by cases d <;> simp [Act.put]
theorem put_defers (a : Act) (d : Option Nat) (x : Value) : (a.put d x).defers = a.defers := by cases d <;> rfl
theorem EnvRel.ext {e : Env} {tmps : Array Value} {S' : Store} {σ' : Place} {I' F' : Nat → Prop} {h h' : Array Obj} (he : EnvRel S σ I h e tmps) (E : Ext W S σ I F h S' σ' I' F' h') (sub : ∀ b, I b → F b) : EnvRel S' σ' I' h' e tmps :=
  fun t => E.rel sub (he t)
theorem step_wp {C : Cl} (hC : CallOk P C) (hT : TOk P T) (s : Sim W S σ I F w.heap) (hm : MdOk W md) {e : Env} {act : Act} (he : EnvRel S σ I w.heap e act.tmps) {o : Oper} {a : A} {S' : Store} (h : evStep T C md e S o = some (a, S'))
    {K : Act → World → Prop} {Q : Exit → Act → World → Prop} (hK : ∀ x w', Step W S σ I F w a S' x w' → K (act.put o.dst x) w') : o.wp P act w K Q := by
  have plain : ∀ (h : evOp T md (rho e) S o = some (a, S')), o.wp P act w K Q := fun h => by
    obtain ⟨x, w', g, st⟩ := evOp_ok (ρ' := act.eval) s hT hm (fun x _ => rho_ok he x) (fun c => .v c) h
    unfold Oper.wp
    rcases g with g | ⟨g, rfl⟩
    · rw [g]; exact hK _ _ st
    · rw [g]; exact hK _ _ st
  unfold evStep at h
  split at h
  · rename_i f args at_ hop
    split at h
    · rename_i g caps hf
      obtain ⟨⟨fn, f1, f2, f3⟩, hc⟩ := hC _ _ _ _ _ _ h
      have rf := rho_ok he f
      rw [hf] at rf
      generalize hfv : act.eval f = fv at rf
      cases rf with
      | fn _ _ vs hl hcv =>
        have hrun : (execOp act.eval o).run P w = .ok (.enter g ((args.map act.eval) ++ vs)) w := by
          unfold execOp
          rw [hop]
          simp only [resolve, hfv, Deferred.ofValue, Sem.run_bind, Sem.run_pure, Result.andThen_ok, invoke, callFunc, run_program, f1]
          have e1 : (fn.name == "runtime.NumGoroutine") = false := by simpa using f2
          simp only [e1, Bool.false_eq_true, if_false, f3, Array.empty_append, Sem.run_pure]
        unfold Oper.wp
        rw [hrun]
        refine Calls.mono (hc W σ I F w _ s hm (by simp [hl]) fun j hj => ?_) ?_
        · simp only [List.length_append, List.length_map, Array.length_toList] at hj
          by_cases hja : j < args.size
          · have e1 : (args.toList.map (rho e) ++ caps).getD j .dead = rho e args[j] := by
              rw [List.getD_eq_getElem?_getD, List.getElem?_append_left (by simpa using hja)]; simp [hja]
            have e2 : (args.map act.eval ++ vs).getD j undef = act.eval args[j] := by
              rw [Array.getD_eq_getD_getElem?, Array.getElem?_append_left (by simpa using hja)]; simp [hja]
            rw [e1, e2]; exact rho_ok he _
          · have e1 : (args.toList.map (rho e) ++ caps).getD j .dead = caps.getD (j - args.size) .dead := by
              rw [List.getD_eq_getElem?_getD, List.getElem?_append_right (by simp; omega)]; simp
            have e2 : (args.map act.eval ++ vs).getD j undef = vs.getD (j - args.size) undef := by
              rw [Array.getD_eq_getD_getElem?, Array.getElem?_append_right (by simp; omega)]; simp
            rw [e1, e2]; exact hcv _ (by omega)
        · rintro en w' ⟨x, rfl, st⟩
          exact hK x w' st
    · cases h
  · exact plain h
theorem wanted_ok {ops : Array Oper} {e : Env} {act : Act} (he : EnvRel S σ I w.heap e act.tmps) {o : Oper} {b : Bool} (h : wantedA ops.toList e o = some b) : Region.wanted o (yielded ops act.tmps) = b := by
  unfold wantedA at h
  unfold Region.wanted
  split at h
  · rename_i hg; injection h with h; subst h; rw [hg]
  · rename_i g c hg
    rw [hg]
    have hl : (ops.toList[g]?) = ops[g]? := by simp
    rw [hl] at h
    simp only [yielded]
    split at h
    · rename_i hd; injection h with h; subst h
      rw [hd]; rfl
    · rename_i t hd
      rw [hd]
      have ht := he t
      split at h
      · rename_i cb hcb; injection h with h; subst h
        rw [hcb] at ht
        have := relv ht
        simp only [Option.bind_some]
        have e1 : act.tmps[t]? = some (.bool cb) := by
          rcases Nat.lt_or_ge t act.tmps.size with hlt | hge
          · rw [getElem?_getD hlt, this]
          · have : act.tmps.getD t undef = undef := by simp [hge]
            rw [this] at ht; cases ht
        rw [e1]
        cases cb <;> cases c <;> rfl
      · rename_i x hne hx; injection h with h; subst h
        rw [hx] at ht
        have := relv ht
        simp only [Option.bind_some]
        cases hq : act.tmps[t]? with
        | none => rfl
        | some v =>
          have e2 : act.tmps.getD t undef = v := by simp [hq]
          rw [e2] at this; subst this
          cases v <;> first | rfl | exact absurd rfl (hne _)
      · cases h
def Post (W : Fm) (S : Store) (σ : Place) (I F : Nat → Prop) (w : World) (act : Act) (e' : Env) (S' : Store) (act' : Act) (w' : World) : Prop :=
  ∃ σ' I' F', Sim W S' σ' I' F' w'.heap ∧ Ext W S σ I F w.heap S' σ' I' F' w'.heap ∧ EnvRel S' σ' I' w'.heap e' act'.tmps ∧ act'.tmps.size = act.tmps.size ∧ act'.defers = act.defers ∧ w'.os = w.os ∧ w'.tape = w.tape ∧ w'.output = w.output
theorem ops_wp {C : Cl} (hC : CallOk P C) (hT : TOk P T) (hm : MdOk W md) {ops : Array Oper} {Q : Exit → Act → World → Prop} : ∀ {l : List Oper} {e e' : Env} {S S' : Store} {σ : Place} {I F : Nat → Prop} {w : World} {act : Act}, Sim W S σ I F w.heap → EnvRel S σ I w.heap e act.tmps →
    evOps T C md act.tmps.size ops.toList l e S = some (e', S') → (∀ act' w', Post W S σ I F w act e' S' act' w' → Q .normal act' w') → wpList P ops Q l act w
  | [], e, e', S, S', σ, I, F, w, act, s, he, h, hQ => by
    injection h with h; injection h with e1 e2; subst e1 e2
    exact hQ act w ⟨σ, I, F, s, .refl, he, rfl, rfl, rfl, rfl, rfl⟩
  | o :: rest, e, e', S, S', σ, I, F, w, act, s, he, h, hQ => by
    simp only [evOps] at h
    unfold wpList
    split at h
    · rename_i hw
      rw [if_pos (wanted_ok he hw)]
      split at h
      · rename_i a S₁ hs
        split at h
        · rename_i e₁ hp
          refine .inl (step_wp hC hT s hm he hs fun x w₁ st => ?_)
          obtain ⟨σ₁, I₁, F₁, k1, k2, k3, k4, k5, k6⟩ := st
          have he₁ := put_ok (he.ext k2 s.sub) k3 hp
          refine ops_wp hC hT hm k1 he₁ (by rw [put_size]; exact h) fun act' w' hp' => hQ act' w' ?_
          obtain ⟨σ₂, I₂, F₂, b1, b2, b3, b4, b5, b6, b7, b8⟩ := hp'
          exact ⟨σ₂, I₂, F₂, b1, k2.trans b2, b3, b4.trans (put_size _ _ _), b5.trans (put_defers _ _ _), b6.trans k4, b7.trans k5, b8.trans k6⟩
        · cases h
      · cases h
    · rename_i hw
      rw [if_neg (by rw [wanted_ok he hw]; simp)]
      split at h
      · rename_i e₁ hp
        have he₁ := put_ok he (.v undef) hp
        refine ops_wp hC hT hm s he₁ (by rw [put_size]; exact h) fun act' w' hp' => hQ act' w' ?_
        obtain ⟨σ₂, I₂, F₂, b1, b2, b3, b4, b5, b6, b7, b8⟩ := hp'
        exact ⟨σ₂, I₂, F₂, b1, b2, b3, b4.trans (put_size _ _ _), b5.trans (put_defers _ _ _), b6, b7, b8⟩
      · cases h
    · cases h
end
def Ex.ex : Ex → Exit | .normal => .normal | .exit n => .exit n | .ret => .ret
def firstR : Code → Nat
  | .region id _ _ => id
  | .seq a _ => firstR a
  | .cond _ a _ => firstR a
  | .block _ a => firstR a
  | .loop a => firstR a
  | _ => 0
noncomputable def lpF (K : Option (List Nat)) (f : Env → Store → Option (Ex × Env × Store)) (e : Env) (S : Store) : Option (Ex × Env × Store) :=
  match f e S with
  | some (.normal, e', S') => some (.normal, lpE K e', lpG K S e' S')
  | r => r
noncomputable def evC (T : Nat → Option TI) (C : Cl) (R : Md → Nat → Array Oper → Env → Store → Option (Env × Store)) (K : Nat → Option (List Nat)) (md : Md) (n : Nat) : Code → Env → Store → Option (Ex × Env × Store)
  | .skip, e, S => some (.normal, e, S)
  | .region id ops dr, e, S => match (if dr then R md n ops e S else evOps T C md n ops.toList ops.toList e S) with
    | some (e', S') => some (.normal, lpE (K (id + 1000)) e', S')
    | none => none
  | .seq a b, e, S => match evC T C R K md n a e S with
    | some (.normal, e', S') => evC T C R K md n b e' S'
    | r => r
  | .cond c x y, e, S => match rho e c with
    | .v (.bool t) => if t then evC T C R K md n x e S else evC T C R K md n y e S
    | _ => none
  | .block id b, e, S => match evC T C R K md n b e S with
    | some (.exit m, e', S') => if m = id then some (.normal, e', S') else some (.exit m, e', S')
    | r => r
  | .loop b, e, S => itL (lpF (K (firstR b)) (evC T C R K md n b)) (lpE (K (firstR b)) e) S
  | .exit m, e, S => some (.exit m, e, S)
  | .ret, e, S => some (.ret, e, S)
  | _, _, _ => none
section
variable {P : Program} {T : Nat → Option TI} {W : Fm} {md : Md}
def RegOk (P : Program) (R : Md → Nat → Array Oper → Env → Store → Option (Env × Store)) : Prop :=
  ∀ (W : Fm) md ops e S e' S' id, MdOk W md → ∀ σ I F (w : World) (act : Act), R md act.tmps.size ops e S = some (e', S') → Sim W S σ I F w.heap → EnvRel S σ I w.heap e act.tmps →
    ∀ Q : Exit → Act → World → Prop, (∀ act' w', Post W S σ I F w act e' S' act' w' → Q .normal act' w') → (Code.region id ops true).wp P Q act w
theorem code_wp {C : Cl} {R : Md → Nat → Array Oper → Env → Store → Option (Env × Store)} (hC : CallOk P C) (hR : RegOk P R) (hT : TOk P T) (hm : MdOk W md) {K : Nat → Option (List Nat)} {n : Nat} : ∀ (c : Code) {ex : Ex} {e e' : Env} {S S' : Store} {σ : Place} {I F : Nat → Prop} {w : World} {act : Act} {Q : Exit → Act → World → Prop},
    act.tmps.size = n → Sim W S σ I F w.heap → EnvRel S σ I w.heap e act.tmps → evC T C R K md n c e S = some (ex, e', S') → (∀ act' w', Post W S σ I F w act e' S' act' w' → Q ex.ex act' w') → c.wp P Q act w := by
  intro c
  induction c with
  | skip =>
    intro ex e e' S S' σ I F w act Q hn s he h hQ
    injection h with h; injection h with e1 h; injection h with e2 e3; subst e1 e2 e3
    exact wp_skip (hQ act w ⟨σ, I, F, s, .refl, he, rfl, rfl, rfl, rfl, rfl⟩)
  | region id ops dr =>
    intro ex e e' S S' σ I F w act Q hn s he h hQ
    simp only [evC] at h
    split at h
    · rename_i e₁ S₁ h1
      injection h with h; injection h with e1 h; injection h with e2 e3; subst e1 e2 e3
      have sel : ∀ {K : Option (List Nat)} {e : Env} {S : Store} {σ : Place} {I : Nat → Prop} {h : Array Obj} {tmps : Array Value}, EnvRel S σ I h e tmps → EnvRel S σ I h (lpE K e) tmps := by
        intro K e S σ I h tmps he t
        cases K with
        | none => exact he t
        | some ks => rcases mkE_sel ks e t with ⟨e1, _⟩ | e1 <;> simp only [lpE, e1]
                     · exact he t
                     · exact .dead _
      have hQ' : ∀ act' w', Post W S σ I F w act e₁ S₁ act' w' → Q .normal act' w' := fun act' w' hp => by
        obtain ⟨σ₁, I₁, F₁, k1, k2, k3, k4⟩ := hp
        exact hQ act' w' ⟨σ₁, I₁, F₁, k1, k2, sel k3, k4⟩
      cases dr with
      | false =>
        simp only [Bool.false_eq_true, if_false] at h1
        exact wp_region_list (ops_wp hC hT hm s he (by rw [hn]; exact h1) hQ')
      | true =>
        simp only [if_true] at h1
        exact hR W md ops e S _ _ id hm σ I F w act (by rw [hn]; exact h1) s he Q hQ'
    · cases h
  | seq a b iha ihb =>
    intro ex e e' S S' σ I F w act Q hn s he h hQ
    simp only [evC] at h
    refine wp_seq ?_
    split at h
    · rename_i e₁ S₁ h1
      refine iha hn s he h1 fun act' w' hp => ?_
      simp only [Ex.ex, Exit.then]
      obtain ⟨σ₁, I₁, F₁, k1, k2, k3, k4, k5, k6, k7, k8⟩ := hp
      refine ihb (k4.trans hn) k1 k3 h fun act'' w'' hp' => hQ act'' w'' ?_
      obtain ⟨σ₂, I₂, F₂, b1, b2, b3, b4, b5, b6, b7, b8⟩ := hp'
      exact ⟨σ₂, I₂, F₂, b1, k2.trans b2, b3, b4.trans k4, b5.trans k5, b6.trans k6, b7.trans k7, b8.trans k8⟩
    · rename_i hne
      refine iha hn s he h fun act' w' hp => ?_
      have := hQ act' w' hp
      cases ex with
      | normal => exact absurd h (hne _ _)
      | exit m => exact this
      | ret => exact this
  | cond c x y ihx ihy =>
    intro ex e e' S S' σ I F w act Q hn s he h hQ
    simp only [evC] at h
    split at h
    · rename_i t ht
      have hc := rho_ok he c
      rw [ht] at hc
      have hv := relv hc
      refine wp_cond (t := t) hv ?_
      cases t
      · simp only [Bool.false_eq_true, if_false] at h ⊢; exact ihy hn s he h hQ
      · simp only [if_true] at h ⊢; exact ihx hn s he h hQ
    · cases h
  | block id b ih =>
    intro ex e e' S S' σ I F w act Q hn s he h hQ
    simp only [evC] at h
    refine wp_block ?_
    split at h
    · rename_i m e₁ S₁ h1
      refine ih hn s he h1 fun act' w' hp => ?_
      simp only [Ex.ex, Exit.inBlock]
      split at h
      · rename_i hmi; injection h with h; injection h with e1 h; injection h with e2 e3; subst e1 e2 e3
        rw [if_pos hmi]; exact hQ act' w' hp
      · rename_i hmi; injection h with h; injection h with e1 h; injection h with e2 e3; subst e1 e2 e3
        rw [if_neg hmi]; exact hQ act' w' hp
    · rename_i hne
      refine ih hn s he h fun act' w' hp => ?_
      have := hQ act' w' hp
      cases ex with
      | normal => exact this
      | exit m => exact absurd h (hne _ _ _)
      | ret => exact this
  | loop b ih =>
    intro ex e e' S S' σ I F w act Q hn s he h hQ
    simp only [evC] at h
    have sel : ∀ {K : Option (List Nat)} {e : Env} {S : Store} {σ : Place} {I : Nat → Prop} {h : Array Obj} {tmps : Array Value}, EnvRel S σ I h e tmps → EnvRel S σ I h (lpE K e) tmps := by
      intro K e S σ I h tmps he t
      cases K with
      | none => exact he t
      | some ks => rcases mkE_sel ks e t with ⟨e1, _⟩ | e1 <;> simp only [lpE, e1]
                   · exact he t
                   · exact .dead _
    have gcd : ∀ {K : Option (List Nat)} {e₁ : Env} {S S₁ : Store} {σ : Place} {I F : Nat → Prop} {w : World} {act act' : Act} {w' : World}, Sim W S σ I F w.heap → Post W S σ I F w act e₁ S₁ act' w' → Post W S σ I F w act (lpE K e₁) (lpG K S e₁ S₁) act' w' := by
      intro K e₁ S S₁ σ I F w act act' w' s hp
      obtain ⟨σ₁, I₁, F₁, k1, k2, k3, k4⟩ := hp
      cases K with
      | none => exact ⟨σ₁, I₁, F₁, k1, k2, k3, k4⟩
      | some ks =>
        simp only [lpG]
        split
        · rename_i hg
          obtain ⟨g1, g2⟩ := gc_sim s k1 k2 hg.2
          refine ⟨σ₁, I₁, F₁, g1, g2, fun t => ?_, k4⟩
          rcases mkE_sel ks e₁ t with ⟨e1, e2⟩ | e1 <;> simp only [lpE, e1]
          · exact lowV_rel (List.all_eq_true.1 hg.1 _ e2) (k3 t)
          · exact .dead _
        · exact ⟨σ₁, I₁, F₁, k1, k2, sel (K := some ks) k3, k4⟩
    generalize K (firstR b) = Kb at h
    have key : ∀ (j : Nat) {e : Env} {S : Store} {σ : Place} {I F : Nat → Prop} {w : World} {act : Act} (fr : Frame) (KK : List Item) (cs : List Frame), act.tmps.size = n → Sim W S σ I F w.heap → EnvRel S σ I w.heap e act.tmps → iter (lpF Kb (evC T C R K md n b)) j e S = some (ex, e', S') →
        (∀ act' w', Post W S σ I F w act e' S' act' w' → Q ex.ex act' w') → ∃ en a' w', Q en a' w' ∧ Arrives P (lone (fr.at act (.code b :: .inLoop b :: KK)) cs w) fr KK cs en a' w' := by
      intro j
      induction j with
      | zero => intro e S σ I F w act fr KK cs hn s he h hQ; cases h
      | succ j ihj =>
        intro e S σ I F w act fr KK cs hn s he h hQ
        simp only [iter, lpF] at h
        cases hev : evC T C R K md n b e S with
        | none => rw [hev] at h; cases h
        | some r =>
          obtain ⟨ex₁, e₁, S₁⟩ := r
          rw [hev] at h
          cases ex₁ with
          | normal =>
            simp only at h
            obtain ⟨en, a₁, w₁, hq, harr⟩ := ih (Q := fun en a' w' => en = .normal ∧ Post W S σ I F w act e₁ S₁ a' w') hn s he hev (fun act' w' hp => ⟨rfl, hp⟩) fr (.inLoop b :: KK) cs
            obtain ⟨rfl, hp⟩ := hq
            obtain ⟨σ₁, I₁, F₁, k1, k2, k3, k4, k5, k6, k7, k8⟩ := gcd (K := Kb) s hp
            obtain ⟨en, a₂, w₂, hq₂, harr₂⟩ := ihj fr KK cs (k4.trans hn) k1 k3 h fun act'' w'' hp' => hQ act'' w'' (by
              obtain ⟨σ₂, I₂, F₂, b1, b2, b3, b4, b5, b6, b7, b8⟩ := hp'
              exact ⟨σ₂, I₂, F₂, b1, k2.trans b2, b3, b4.trans k4, b5.trans k5, b6.trans k6, b7.trans k7, b8.trans k8⟩)
            exact ⟨en, a₂, w₂, hq₂, .of_steps (Steps.trans harr (.one step_inLoop)) harr₂⟩
          | exit m =>
            injection h with h; injection h with e1 h; injection h with e2 e3; subst e1 e2 e3
            obtain ⟨en, a₁, w₁, hq, harr⟩ := ih (Q := fun en a' w' => en = .exit m ∧ Q (.exit m) a' w') hn s he hev (fun act' w' hp => ⟨rfl, hQ act' w' hp⟩) fr (.inLoop b :: KK) cs
            obtain ⟨rfl, hq⟩ := hq
            exact ⟨_, a₁, w₁, hq, .pass (x := .inLoop b) rfl (fun _ _ => .inl (by simp)) harr⟩
          | ret =>
            injection h with h; injection h with e1 h; injection h with e2 e3; subst e1 e2 e3
            obtain ⟨en, a₁, w₁, hq, harr⟩ := ih (Q := fun en a' w' => en = .ret ∧ Q .ret a' w') hn s he hev (fun act' w' hp => ⟨rfl, hQ act' w' hp⟩) fr (.inLoop b :: KK) cs
            obtain ⟨rfl, hq⟩ := hq
            exact ⟨_, a₁, w₁, hq, .pass (x := .inLoop b) rfl (fun _ _ => .inl (by simp)) harr⟩
    intro fr KK cs
    obtain ⟨k, h⟩ := itL_run h
    obtain ⟨en, a', w', hq, harr⟩ := key k fr KK cs hn s (sel he) h hQ
    exact ⟨en, a', w', hq, .of_steps (.one step_loop) harr⟩
  | exit m =>
    intro ex e e' S S' σ I F w act Q hn s he h hQ
    injection h with h; injection h with e1 h; injection h with e2 e3; subst e1 e2 e3
    exact wp_exit (hQ act w ⟨σ, I, F, s, .refl, he, rfl, rfl, rfl, rfl, rfl⟩)
  | ret =>
    intro ex e e' S S' σ I F w act Q hn s he h hQ
    injection h with h; injection h with e1 h; injection h with e2 e3; subst e1 e2 e3
    exact wp_ret (hQ act w ⟨σ, I, F, s, .refl, he, rfl, rfl, rfl, rfl, rfl⟩)
  | _ => intro ex e e' S S' σ I F w act Q hn s he h hQ; simp [evC] at h
end
end Go.Proofs.YtomklniddinhnaaE
set_option linter.unusedVariables false
set_option linter.unusedSectionVars false
set_option linter.unusedSimpArgs false
namespace Go.Proofs.YtomklniddinhnaaE
open Go
structure FI where
 modes : List Bool
 fz : Bool
 keep : List (Nat × List Nat)
def FI.nest (fi : FI) : Bool := fi.keep.any fun p => p.1 == 999999
def FI.mu (fi : FI) (S : Store) (as' : List A) (D : List Nat) : List Nat := if fi.nest = true ∧ D.isEmpty = true then List.range S.length else as'.flatMap idsV
def FI.fin (fi : FI) (md : Md) (S : Store) (mu D : List Nat) (S₁ : Store) (vs : List A) : Option (List A × Store) := if fi.nest = true then finK md S mu D S₁ vs else finA md S mu D S₁ vs
theorem FI.fin_ok {W : Fm} {S : Store} {σ : Place} {I F : Nat → Prop} {md : Md} {h h₁ : Array Obj} {S₁ : Store} {σ₁ : Place} {I₁ F₁ : Nat → Prop} {fi : FI} (s : Sim W S σ I F h) (hm : MdOk W md) {mu D : List Nat} (hD : ∀ i ∈ D, ∃ o, S[i]? = some o) (hdis : ∀ i ∈ D, i ∉ mu)
  (s₁ : Sim (calleeW S mu md h.size) S₁ σ₁ I₁ F₁ h₁) (E₁ : Ext (calleeW S mu md h.size) S σ (fun b => I b ∨ DB σ D b) (calleeF S σ F (calleeW S mu md h.size).w) h S₁ σ₁ I₁ F₁ h₁)
  {vs vs' : List A} {S₂ : Store} {xs : List Value} (hf : fi.fin md S mu D S₁ vs = some (vs', S₂)) (hr : ∀ j, j < vs.length → Rel S₁ σ₁ I₁ h₁ (vs.getD j .dead) (xs.getD j undef)) :
  vs'.length = vs.length ∧ ∃ σ₂ I₂ F₂, Sim W S₂ σ₂ I₂ F₂ h₁ ∧ Ext W S σ I F h S₂ σ₂ I₂ F₂ h₁ ∧ ∀ j, j < vs.length → Rel S₂ σ₂ I₂ h₁ (vs'.getD j .dead) (xs.getD j undef) := by
 unfold FI.fin at hf
 split at hf
 ·exact finK_ok s hm hD hdis s₁ E₁ hf hr
 ·exact Go.Proofs.YtomklniddinhnaaE.fin_ok s hm hD hdis s₁ E₁ hf hr
def FI.K (fi : FI) (i : Nat) : Option (List Nat) := (fi.keep.find? fun p => p.1 == i).map (·.2)
def envOf (as : List A) : Env := fun t => as.getD t .dead
def resV (T : Nat → Option TI) (S : Store) (t : Nat) (a : A) : Option A := match T t with
 | some ti => match rdA S ti.sz a with
  | some cs => mkA ti.agg cs
  | none => none
 | none => none
def resT (T : Nat → Option TI) (S : Store) : List ResultVar → Env → Option (List A)
 | [], _ => some []
 | .tmp t :: l, e => match resT T S l e with | some r => some (e t :: r) | none => none
 | .cell a t :: l, e => match resV T S t (e a), resT T S l e with | some x, some r => some (x :: r) | _, _ => none
def resA : List A → A
 | [a] => a
 | l => .tu l
abbrev Reg := (Nat → Option TI) → Cl → Md → Nat → Array Oper → Env → Store → Option (Env × Store)
noncomputable def evF (T : Nat → Option TI) (R : Reg) (Fs : Nat → Option (Func × FI)) (X : Cl) : Nat → Cl
 | 0 => X
 | k + 1 => fun md g as S => match X md g as S with
  | some r => some r
  | none => match Fs g with
  | some (fn, fi) => match dpArgs S fi.modes as, fn.body with
   | some (as', D), some body =>
    if (D.all fun i => !(fi.mu S as' D).contains i) = true ∧ as'.length ≤ fn.ntmps then
     match evC T (evF T R Fs X k) (R T (evF T R Fs X k)) fi.K ⟨fun id => decide (S.length ≤ id) || ((fi.mu S as' D).contains id && md.wr id), S.length, fi.fz⟩ fn.ntmps body (envOf as') S with
     | some (ex, e', S₁) => match ex with
      | .exit _ => none
      | _ => match resT T S₁ fn.results.toList e' with
       | some vs => match fi.fin md S (fi.mu S as' D) D S₁ vs with
        | some (vs', S₂) => some (resA vs', S₂)
        | none => none
       | none => none
     | none => none
    else none
   | _, _ => none
  | none => none
section
variable {P : Program} {T : Nat → Option TI} {R : Reg} {Fs : Nat → Option (Func × FI)}
def FsOk (P : Program) (Fs : Nat → Option (Func × FI)) : Prop := ∀ g fn fi, Fs g = some (fn, fi) → P.funcs[g]? = some fn ∧ fn.name ≠ "runtime.NumGoroutine"
def RegsOk (P : Program) (T : Nat → Option TI) (R : Reg) : Prop := ∀ C, CallOk P C → RegOk P (R T C)
def resM (tmps : Array Value) : ResultVar → Sem Value
 | .tmp t => pure (tmps.getD t undef)
 | .cell a t => do loadVar t (← asAddr (tmps.getD a undef))
theorem results_run {fn : Func} {tmps : Array Value} {xs : List Value} (P : Program) (w : World) (h : (fn.results.toList.mapM (resM tmps)).run P w = .ok xs w) :
  (results fn tmps).run P w = .ok (if h : xs.toArray.size = 1 then xs.toArray[0] else .tuple xs.toArray) w := by
 have e : results fn tmps = (do let vs ← fn.results.mapM (resM tmps); pure (if h : vs.size = 1 then vs[0] else .tuple vs) : Sem Value) := by
  unfold results
  refine congrArg (fun m : Sem (Array Value) => (do let vs ← m; pure (if h : vs.size = 1 then vs[0] else .tuple vs) : Sem Value)) ?_
  refine congrArg (fun f : ResultVar → Sem Value => fn.results.mapM f) ?_
  funext x; cases x <;> rfl
 rw [e]
 cases hfr : fn.results with
 | mk l =>
  rw [hfr] at h
  simp only [Sem.run_bind, List.mapM_toArray, Sem.run_map]
  rw [h]
  simp only [Result.andThen_ok, Sem.run_pure]
theorem resT_tmps {W : Fm} {F : Nat → Prop} (hT : TOk P T) {tmps : Array Value} {S : Store} {σ : Place} {I : Nat → Prop} {w : World} {e : Env} (s : Sim W S σ I F w.heap) (he : EnvRel S σ I w.heap e tmps) : ∀ {l : List ResultVar} {vs : List A}, resT T S l e = some vs →
  ∃ xs : List Value, xs.length = vs.length ∧ ((l.mapM (resM tmps)).run P w = .ok xs w) ∧ ∀ j, j < vs.length → Rel S σ I w.heap (vs.getD j .dead) (xs.getD j undef)
 | [], vs, h1 => by injection h1 with h1; subst h1; exact ⟨[], rfl, rfl, fun j hj => by simp at hj⟩
 | .tmp t :: l, vs, h1 => by
  simp only [resT] at h1
  split at h1
  ·rename_i r hr
   injection h1 with h1; subst h1
   obtain ⟨xs, k1, k2, k3⟩ := resT_tmps hT s he hr
   refine ⟨tmps.getD t undef :: xs, by simp [k1], ?_, fun j hj => ?_⟩
   ·simp only [List.mapM_cons, resM, Sem.run_bind, Sem.run_pure, Result.andThen_ok, k2]
   ·cases j with
    | zero => exact he t
    | succ j => exact k3 j (by simp at hj; omega)
  ·cases h1
 | .cell a t :: l, vs, h1 => by
  simp only [resT] at h1
  split at h1
  ·rename_i x r hx hr
   injection h1 with h1; subst h1
   obtain ⟨xs, k1, k2, k3⟩ := resT_tmps hT s he hr
   unfold resV at hx
   split at hx
   ·rename_i ti ht
    split at hx
    ·rename_i cs hcs
     obtain ⟨ad, b, ty, fr, q0, q1, q2, q3, q4, q5⟩ := rdA_ok s hcs (he a)
     obtain ⟨y, y1, y2⟩ := run_loadVar_b hT ht q1 q2 q3 q4 hx q5
     refine ⟨y :: xs, by simp [k1], ?_, fun j hj => ?_⟩
     ·simp only [List.mapM_cons, resM, Sem.run_bind, q0, asAddr, Sem.run_pure, Result.andThen_ok, y1, k2]
     ·cases j with
      | zero => exact y2
      | succ j => exact k3 j (by simp at hj; omega)
    ·cases hx
   ·cases hx
  ·cases h1
theorem evF_ok {X : Cl} (hT : TOk P T) (hF : FsOk P Fs) (hR : RegsOk P T R) (hX : CallOk P X) : ∀ k, CallOk P (evF T R Fs X k)
 | 0 => hX
 | k + 1 => fun md g as S r S' h => by
  have ih := evF_ok hT hF hR hX k
  simp only [evF] at h
  split at h
  ·rename_i r' hx; injection h with h; subst h; exact hX md g as S r S' hx
  split at h
  ·rename_i fn fi hg
   obtain ⟨f1, f2⟩ := hF g fn fi hg
   split at h
   ·rename_i as' D body hd hbody
    split at h
    ·rename_i hh
     split at h
     ·rename_i ex e' S₁ hc
      refine ⟨⟨fn, f1, f2, by rw [hbody]; rfl⟩, fun W σ I F w vals s hm hl hr => ?_⟩
      have hD := dpArgs_ids hd
      have hdis : ∀ i ∈ D, i ∉ fi.mu S as' D := fun i hi hmem => by
       have := List.all_eq_true.1 hh.1 i hi
       simp only [Bool.not_eq_true', List.contains_eq_mem, decide_eq_false_iff_not] at this
       exact this hmem
      obtain ⟨al, ar⟩ := dpArgs_ok s (D := D) (xs := vals.toList) hd (fun i hi => hi) (fun j hj => by have := hr j hj; simpa [show j < vals.size by omega] using this)
      have s' := callee_sim s hm hD hdis
      have hm' := callee_md (S := S) (md := md) (fi.mu S as' D) w.heap.size fi.fz
      refine calls_of_wp f1 hbody ?_
      have hsz : vals.size ≤ fn.ntmps := by omega
      have he : EnvRel S σ (fun b => I b ∨ DB σ D b) w.heap (envOf as') (vals ++ Array.replicate (fn.ntmps - vals.size) undef) := fun t => by
       simp only [envOf]
       by_cases ht : t < as'.length
       ·have := ar t (by omega)
        have e1 : (vals ++ Array.replicate (fn.ntmps - vals.size) undef).getD t undef = vals.toList.getD t undef := by
         rw [Array.getD_eq_getD_getElem?, Array.getElem?_append_left (by omega)]; simp [show t < vals.size by omega]
        rw [e1]; exact this
       ·have : as'.getD t .dead = .dead := by simp [show as'.length ≤ t by omega]
        rw [this]; exact .dead _
      refine code_wp ih (hR _ ih) hT hm' body (act := { tmps := vals ++ Array.replicate (fn.ntmps - vals.size) undef, defers := [] }) (by simp; omega) s' he hc fun act' w' hp => ?_
      obtain ⟨σ₁, I₁, F₁, k1, k2, k3, k4, k5, k6, k7, k8⟩ := hp
      have fin : ∀ vs, resT T S₁ fn.results.toList e' = some vs → (match fi.fin md S (fi.mu S as' D) D S₁ vs with | some (vs', S₂) => some (resA vs', S₂) | none => none) = some (r, S') →
        act'.defers = [] ∧ ∃ v, (results fn act'.tmps).run P w' = .ok v w' ∧ ∃ x, (Ending.returned v) = .returned x ∧ Step W S σ I F w r S' x w' := fun vs hvs hfin => by
       refine ⟨k5, ?_⟩
       obtain ⟨xs, x1, x2, x3⟩ := resT_tmps hT k1 k3 hvs
       split at hfin
       ·rename_i vs' S₂ hfa
        injection hfin with hfin; injection hfin with e1 e2; subst e1 e2
        obtain ⟨l1, σ₂, I₂, F₂, q1, q2, q3⟩ := FI.fin_ok s hm hD hdis k1 k2 hfa x3
        have hrun := results_run P w' x2
        refine ⟨_, hrun, _, rfl, σ₂, I₂, F₂, q1, q2, ?_, k6, k7, k8⟩
        have hlen : vs'.length = xs.length := by omega
        unfold resA
        split
        ·rename_i a
         have hx : xs.toArray.size = 1 := by simp at hlen ⊢; omega
         rw [dif_pos hx]
         have := q3 0 (by simp at l1; omega)
         have e3 : xs.getD 0 undef = xs.toArray[0] := by simp at hx; simp [hx]
         rw [e3] at this
         simpa using this
        ·rename_i hne
         have hx : ¬ xs.toArray.size = 1 := fun hx => by
          simp at hx
          rw [hx] at hlen
          obtain ⟨a, ha⟩ := List.length_eq_one_iff.1 hlen
          exact hne a ha
         rw [dif_neg hx]
         exact .tu vs' _ (by simp [hlen]) fun j hj => by have := q3 j (by omega); simpa using this
       ·cases hfin
      cases ex with
      | exit m => simp at h
      | normal =>
       simp only at h
       split at h
       ·rename_i vs hvs; exact fin vs hvs h
       ·cases h
      | ret =>
       simp only at h
       split at h
       ·rename_i vs hvs; exact fin vs hvs h
       ·cases h
     ·cases h
    ·cases h
   ·cases h
  ·cases h
end
end Go.Proofs.YtomklniddinhnaaE
