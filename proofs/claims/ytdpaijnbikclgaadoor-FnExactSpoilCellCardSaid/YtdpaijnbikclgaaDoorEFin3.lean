/- Part of the proof: an evaluator (YtdpaijnbikclgaaDoorEFin3). -/
import Derived.Test.YtdpaijnbikclgaaDoorEFin2
set_option linter.unusedVariables false
set_option linter.unusedSectionVars false
set_option linter.unusedSimpArgs false
namespace Go.Proofs.YtdpaijnbikclgaaDoorE
open Go
def rowsAll (p : A → Bool) (l : List (List A)) : Bool := l.all (·.all p)
theorem rowsAll_get {p : A → Bool} {l : List (List A)} (h : rowsAll p l = true) {i j : Nat} (hi : i < l.length) (hj : j < (l.getD i []).length) : p ((l.getD i []).getD j .dead) = true := by
 have h1 := List.all_eq_true.1 h (l.getD i []) (by simp [hi])
 exact List.all_eq_true.1 h1 _ (by rw [List.getD_eq_getElem?_getD (a := A.dead), List.getElem?_eq_getElem hj]; exact List.getElem_mem hj)
theorem rowsAll_any {p : A → Bool} (hd : p .dead = true) {l : List (List A)} (h : rowsAll p l = true) (i j : Nat) : p ((l.getD i []).getD j .dead) = true := by
 rcases Nat.lt_or_ge i l.length with hi | hi
 ·rcases Nat.lt_or_ge j (l.getD i []).length with hj | hj
  ·exact rowsAll_get h hi hj
  ·rw [List.getD_eq_getElem?_getD (a := A.dead), List.getElem?_eq_none hj]; exact hd
 ·have : l.getD i [] = [] := by simp [hi]
  rw [this]; exact hd
def muOk (S₁ : Store) (m : Nat) (id : Nat) : Bool := match S₁[id]? with
 | some o => o.st == 0 && rowsAll (okC m) o.rows
 | none => true
def muFlat (S₁ : Store) (id : Nat) : Bool := match S₁[id]? with
 | some o => rowsAll noRoC o.rows
 | none => true
def closeD (S : Store) (D : List Nat) : Store := S.mapIdx fun i o => if D.contains i then ⟨o.n, o.rows, 1, o.bx⟩ else o
def finA (md : Md) (S : Store) (mu D : List Nat) (S₁ : Store) (vs : List A) : Option (List A × Store) :=
 match rlVs S₁ S.length vs [] with
 | some (vs', news) =>
  if (mu.all fun id => !md.wr id || decide (S.length ≤ id) || muOk S₁ S.length id) = true then
   if D.isEmpty then some (vs', S₁.take S.length ++ news.map (·.1))
   else if vs'.all noRoV = true ∧ (news.all fun p => p.1.st == 0 && rowsAll noRoC p.1.rows) = true ∧ (mu.all fun id => !md.wr id || muFlat S₁ id) = true then some (vs', S₁.take S.length ++ news.map (·.1))
   else if (D.all fun id => md.wr id && decide (md.m ≤ id)) = true then some (vs', closeD (S₁.take S.length) D ++ news.map (·.1)) else none
  else none
 | none => none
section
variable {W : Fm} {S : Store} {σ : Place} {I F : Nat → Prop} {md : Md} {h h₁ : Array Obj} {S₁ : Store} {σ₁ : Place} {I₁ F₁ : Nat → Prop}
theorem fin_ok (s : Sim W S σ I F h) (hm : MdOk W md) {mu D : List Nat} (hD : ∀ i ∈ D, ∃ o, S[i]? = some o) (hdis : ∀ i ∈ D, i ∉ mu)
  (s₁ : Sim (calleeW S mu md h.size) S₁ σ₁ I₁ F₁ h₁) (E₁ : Ext (calleeW S mu md h.size) S σ (fun b => I b ∨ DB σ D b) (calleeF S σ F (calleeW S mu md h.size).w) h S₁ σ₁ I₁ F₁ h₁)
  {vs vs' : List A} {S₂ : Store} {xs : List Value} (hf : finA md S mu D S₁ vs = some (vs', S₂)) (hr : ∀ j, j < vs.length → Rel S₁ σ₁ I₁ h₁ (vs.getD j .dead) (xs.getD j undef)) :
  vs'.length = vs.length ∧ ∃ σ₂ I₂ F₂, Sim W S₂ σ₂ I₂ F₂ h₁ ∧ Ext W S σ I F h S₂ σ₂ I₂ F₂ h₁ ∧ ∀ j, j < vs.length → Rel S₂ σ₂ I₂ h₁ (vs'.getD j .dead) (xs.getD j undef) := by
 unfold finA at hf
 split at hf
 ·rename_i vs0 news hrl
  obtain ⟨ok, _, hlen⟩ := rlVs_news hrl hr ⟨fun k o i lo hk => by simp at hk, fun k k' o o' i lo lo' hk => by simp at hk⟩
  have lt : ∀ id o, S[id]? = some o → id < S.length := fun id o ho => (List.getElem?_eq_some_iff.1 ho).1
  have hS1 : S.length ≤ S₁.length := by
   rcases Nat.eq_zero_or_pos S.length with h0 | h0
   ·omega
   ·obtain ⟨o', p, _⟩ := E₁.ob (S.length - 1) _ (List.getElem?_eq_getElem (by omega))
    have := (List.getElem?_eq_some_iff.1 p).1; omega
  have take : ∀ id, id < S.length → (S₁.take S.length)[id]? = S₁[id]? := fun id hid => by rw [List.getElem?_take, if_pos hid]
  have tl : (S₁.take S.length).length = S.length := by simp; omega
  have hWw : ∀ id, (calleeW S mu md h.size).w id → id < S.length → W.w id := fun id hw hid => by
   rcases hw with hw | ⟨_, hw⟩
   ·omega
   ·exact hm.wr _ hw
  have hFc : ∀ b, F b → calleeF S σ F (calleeW S mu md h.size).w b := fun b hb => .inl hb
  have hFo : ∀ id o ad, S[id]? = some o → ¬ (calleeW S mu md h.size).w id → σ id = some ad → calleeF S σ F (calleeW S mu md h.size).w ad.block := fun id o ad ho hw ha => .inr ⟨id, o, ad, ho, hw, ha, rfl⟩
  have same : ∀ id o, S[id]? = some o → ¬ (calleeW S mu md h.size).w id → S₁[id]? = some o ∧ σ₁ id = σ id := fun id o ho hw => by
   obtain ⟨o', p1, p2, p3, p4, p5⟩ := E₁.ob id o ho
   have := p5 hw; subst this
   exact ⟨p1, (p4 rfl).1⟩
  have blt : ∀ id o ad, S[id]? = some o → σ id = some ad → ad.block < h.size := fun id o ad ho ha => by
   obtain ⟨_, _, _, cs, ty, fr, k4, _⟩ := (s.ob id o ho).there ad ha
   exact (Array.getElem?_eq_some_iff.1 k4).1
  split at hf
  ·rename_i hmu
   have mu1 : ∀ id o, id < S.length → S₁[id]? = some o → (calleeW S mu md h.size).w id → o.st = 0 ∧ rowsAll (okC S.length) o.rows = true := fun id o hid ho hw => by
    rcases hw with hw | ⟨hw1, hw2⟩
    ·omega
    ·have := List.all_eq_true.1 hmu id hw1
     simp only [hw2, Bool.not_true, Bool.false_or, Bool.or_eq_true, decide_eq_true_eq] at this
     rcases this with q | q
     ·omega
     ·simp only [muOk, ho, Bool.and_eq_true, beq_iff_eq] at q; exact q
   have closed : ∀ (B : Store) (Dz : List Nat), B.length = S.length → (∀ i ∈ Dz, i ∈ D) → (∀ i ∈ D, i ∈ Dz) → (∀ i ∈ Dz, W.w i ∧ W.m ≤ i) →
     (∀ id o, id < S.length → S₁[id]? = some o → B[id]? = some (if id ∈ Dz then ⟨o.n, o.rows, 1, o.bx⟩ else o)) →
     ∃ σ₂ I₂ F₂, Sim W (B ++ news.map (·.1)) σ₂ I₂ F₂ h₁ ∧ Ext W S σ I F h (B ++ news.map (·.1)) σ₂ I₂ F₂ h₁ ∧ ∀ j, j < vs.length → Rel (B ++ news.map (·.1)) σ₂ I₂ h₁ (vs0.getD j .dead) (xs.getD j undef) := fun B Dz hBl hDz1 hDz2 hDW hB => by
    have getB : ∀ id o', id < S.length → B[id]? = some o' → ∃ o₀ o, S[id]? = some o₀ ∧ S₁[id]? = some o ∧ o' = if id ∈ Dz then ⟨o.n, o.rows, 1, o.bx⟩ else o := fun id o' hid hb => by
     have e : S[id]? = some S[id] := List.getElem?_eq_getElem hid
     obtain ⟨o, p, _⟩ := E₁.ob id _ e
     have := hB id o hid p
     rw [hb] at this; injection this with this
     exact ⟨_, o, e, p, this⟩
    obtain ⟨k1, k2, k3, k4⟩ := fin_core s (Wc := calleeW S mu md h.size) rfl rfl hWw s₁ E₁ hFc hFo ok hBl (fun id o hid ho => ⟨_, hB id o hid ho, by split <;> rfl, by split <;> rfl, fun nw => by
      split
      ·rename_i hd; exact absurd (hDW id hd).1 nw
      ·rfl⟩) (I₂ := I₁) (F₂ := fun b => F b ∨ I₁ b)
     (fun b hb => E₁.ii b (.inl hb))
     (fun b hb => by
      rcases E₁.inew b hb with q | q
      ·rcases q with q | ⟨id, hid, ad, ha, e⟩
       ·exact .inl q
       ·obtain ⟨o, ho⟩ := hD id hid
        exact .inr (e ▸ s.own id o ad (hDW id (hDz2 id hid)).2 ho ha)
      ·have := s.big; exact .inr (Nat.le_trans this q))
     (fun b hb => .inl hb) (fun b hb => .inr hb)
     (fun b hb => hb.elim (fun hb => s₁.imm b (E₁.imm b (hFc b hb)).1) (fun hb => s₁.imm b (s₁.sub b hb)))
     (fun id o' ad hid hb hw hst ha => by
      obtain ⟨o₀, o, p0, p1, e⟩ := getB id o' hid hb
      split at e
      ·subst e; cases hst
      ·rename_i hnd; subst e
       by_cases hc : (calleeW S mu md h.size).w id
       ·have := ((s₁.ob id o' p1).there ad ha).2.1 hc hst
        exact fun hF => this (hF.elim (fun hF => (E₁.imm _ (hFc _ hF)).1) (s₁.sub _))
       ·obtain ⟨q1, q2⟩ := same id o₀ p0 hc
        rw [p1] at q1; injection q1 with q1; subst q1
        rw [q2] at ha
        have hnF := ((s.ob id o' p0).there ad ha).2.1 hw hst
        refine fun hF => hF.elim hnF fun hI => ?_
        rcases E₁.inew _ hI with q | q
        ·rcases q with q | ⟨id', hid', ad', ha', e'⟩
         ·exact hnF (s.sub _ q)
         ·obtain ⟨o2, ho2⟩ := hD id' hid'
          by_cases ei : id = id'
          ·subst ei; exact hnd (hDz2 id hid')
          ·exact s.inj id id' o' o2 ad ad' p0 ho2 ha ha' ei e'.symm
        ·have := blt id o' ad p0 ha
         have hq : h.size ≤ ad.block := q
         omega)
     (fun id o' ad hid hb hst ha => by
      obtain ⟨o₀, o, p0, p1, e⟩ := getB id o' hid hb
      split at e
      ·rename_i hd
       have hid' := hDz1 id hd
       have hc : ¬ (calleeW S mu md h.size).w id := fun hw => by
        rcases hw with hw | ⟨hw, _⟩
        ·omega
        ·exact hdis id hid' hw
       obtain ⟨q1, q2⟩ := same id o₀ p0 hc
       rw [q2] at ha
       exact E₁.ii _ (.inr ⟨id, hid', ad, ha, rfl⟩)
      ·subst e
       exact ((s₁.ob id o' p1).there ad ha).2.2.1 hst)
     (fun id o hid ho hw i j hi hj => ⟨rowsAll_get (mu1 id o hid ho hw).2 hi (by rw [(s₁.ob id o ho).len i hi]; exact hj), .inr fun b hb => hb⟩)
     (fun k o i lo hk => by
      obtain ⟨hi1, hfl, o₁, hi, so, sn, sst, _⟩ := ok.src k o i lo hk
      refine ⟨fun ad ha => ?_, .inr fun b hb => hb⟩
      have q := (s₁.ob i o₁ so).there ad ha
      refine ⟨fun hst hF => ?_, fun hst => q.2.2.1 (by omega)⟩
      have := q.2.1 (.inl hi1) (by omega)
      exact this (hF.elim (fun hF => (E₁.imm _ (hFc _ hF)).1) (s₁.sub _)))
    exact ⟨_, _, _, k1, k2, rlVs_rel k3 k4 hrl hr ⟨[], by simp⟩ ⟨fun k o i lo hk => by simp at hk, fun k k' o o' i lo lo' hk => by simp at hk⟩ (.inr fun b hb => hb)⟩
   split at hf
   ·rename_i hDe
    injection hf with hf; injection hf with e1 e2; subst e1 e2
    have hD0 : D = [] := by simpa using hDe
    subst hD0
    exact ⟨hlen, closed _ [] tl (fun i hi => hi) (fun i hi => hi) (fun i hi => by simp at hi) (fun id o hid ho => by rw [take id hid]; simpa using ho)⟩
   ·split at hf
    ·rename_i hu
     injection hf with hf; injection hf with e1 e2; subst e1 e2
     refine ⟨hlen, ?_⟩
     obtain ⟨u1, u2, u3⟩ := hu
     have news1 : ∀ (k : Nat) (o : Ob) (i lo : Nat), news[k]? = some (o, i, lo) → o.st = 0 ∧ rowsAll noRoC o.rows = true := fun k o i lo hk => by
      have := List.all_eq_true.1 u2 _ (List.mem_of_getElem? hk)
      simpa using this
     obtain ⟨k1, k2, k3, k4⟩ := fin_core s (Wc := calleeW S mu md h.size) rfl rfl hWw s₁ E₁ hFc hFo ok tl (fun id o hid ho => ⟨o, by rw [take id hid]; exact ho, rfl, rfl, fun _ => rfl⟩) (I₂ := I) (F₂ := F)
      (fun b hb => hb) (fun b hb => .inl hb) (fun b hb => hb) s.sub (fun b hb => s₁.imm b (E₁.imm b (hFc b hb)).1)
      (fun id o' ad hid hb hw hst ha => by
       rw [take id hid] at hb
       have e : S[id]? = some S[id] := List.getElem?_eq_getElem hid
       by_cases hc : (calleeW S mu md h.size).w id
       ·have := ((s₁.ob id o' hb).there ad ha).2.1 hc hst
        exact fun hF => this (E₁.imm _ (hFc _ hF)).1
       ·obtain ⟨q1, q2⟩ := same id _ e hc
        rw [hb] at q1; injection q1 with q1; rw [← q1] at e
        rw [q2] at ha
        exact ((s.ob id o' e).there ad ha).2.1 hw hst)
      (fun id o' ad hid hb hst ha => by
       rw [take id hid] at hb
       have e : S[id]? = some S[id] := List.getElem?_eq_getElem hid
       by_cases hc : (calleeW S mu md h.size).w id
       ·exact absurd (mu1 id o' hid hb hc).1 hst
       ·obtain ⟨q1, q2⟩ := same id _ e hc
        rw [hb] at q1; injection q1 with q1; rw [← q1] at e
        rw [q2] at ha
        exact ((s.ob id o' e).there ad ha).2.2.1 hst)
      (fun id o hid ho hw i j hi hj => by
       have hl : j < (o.rows.getD i []).length := by rw [(s₁.ob id o ho).len i hi]; exact hj
       refine ⟨rowsAll_get (mu1 id o hid ho hw).2 hi hl, .inl ?_⟩
       rcases hw with hw | ⟨hw1, hw2⟩
       ·omega
       ·have := List.all_eq_true.1 u3 id hw1
        simp only [hw2, Bool.not_true, Bool.false_or, muFlat, ho] at this
        exact rowsAll_get this hi hl)
      (fun k o i lo hk => by
       obtain ⟨hi1, hfl, o₁, hi, so, sn, sst, _⟩ := ok.src k o i lo hk
       obtain ⟨n1, n2⟩ := news1 k o i lo hk
       refine ⟨fun ad ha => ⟨fun hst hF => ?_, fun hst => absurd n1 hst⟩, .inl fun i j => rowsAll_any rfl n2 i j⟩
       have q := (s₁.ob i o₁ so).there ad ha
       exact q.2.1 (.inl hi1) (by omega) (E₁.imm _ (hFc _ hF)).1)
     exact ⟨_, _, _, k1, k2, rlVs_rel k3 k4 hrl hr ⟨[], by simp⟩ ⟨fun k o i lo hk => by simp at hk, fun k k' o o' i lo lo' hk => by simp at hk⟩ (.inl u1)⟩
    ·split at hf
     ·rename_i hda
      injection hf with hf; injection hf with e1 e2; subst e1 e2
      refine ⟨hlen, closed _ D (by simp [closeD, tl]) (fun i hi => hi) (fun i hi => hi) (fun i hi => ?_) (fun id o hid ho => ?_)⟩
      ·have := List.all_eq_true.1 hda i hi
       simp only [Bool.and_eq_true, decide_eq_true_eq] at this
       exact ⟨hm.wr _ this.1, hm.m ▸ this.2⟩
      ·simp only [closeD, List.getElem?_mapIdx, take id hid, ho, Option.map_some]
       by_cases hd : id ∈ D
       ·simp [hd]
       ·simp [hd]
     ·cases hf
  ·cases hf
 ·cases hf
end
end Go.Proofs.YtdpaijnbikclgaaDoorE
