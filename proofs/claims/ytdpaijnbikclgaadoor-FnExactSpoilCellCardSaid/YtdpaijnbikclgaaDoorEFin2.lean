/- Part of the proof: an evaluator (YtdpaijnbikclgaaDoorEFin2). -/
import Derived.Test.YtdpaijnbikclgaaDoorEFin
set_option linter.unusedVariables false
set_option linter.unusedSectionVars false
set_option linter.unusedSimpArgs false
namespace Go.Proofs.YtdpaijnbikclgaaDoorE
open Go
section
variable {P : Program} {T : Nat → Option TI} {W : Fm} {S : Store} {σ : Place} {I F : Nat → Prop} {md : Md} {h h₁ : Array Obj} {S₁ : Store} {σ₁ : Place} {I₁ F₁ : Nat → Prop}
def noRoV : A → Bool
 | .ag cs => cs.all noRoC
 | a => noRoC a
theorem rlC_shape {m : Nat} {a r : A} {acc acc' : News} (h1 : rlC S₁ m a acc = some (r, acc')) : ∀ cs, r ≠ .ag cs := by
 intro cs e; subst e
 unfold rlC at h1
 split at h1
 ·split at h1
  ·simp at h1
  ·split at h1
   ·split at h1 <;> simp at h1
   ·cases h1
 ·split at h1 <;> simp at h1
 ·split at h1 <;> simp at h1
 all_goals simp at h1
theorem rlL_news {m : Nat} : ∀ {l r : List A} {acc acc' : News} {xs : List Value}, rlL S₁ m l acc = some (r, acc') → (∀ j, j < l.length → Rel S₁ σ₁ I₁ h (l.getD j .dead) (xs.getD j undef)) → NewsOk S₁ m acc → NewsOk S₁ m acc' ∧ (∃ l, acc' = acc ++ l) ∧ r.length = l.length
 | [], r, acc, acc', xs, h1, hr, ok => by injection h1 with h1; injection h1 with e1 e2; subst e1 e2; exact ⟨ok, ⟨[], by simp⟩, rfl⟩
 | a :: l, r, acc, acc', xs, h1, hr, ok => by
  simp only [rlL] at h1
  split at h1
  ·rename_i a' acc₁ h2
   split at h1
   ·rename_i l' acc₂ h3
    injection h1 with h1; injection h1 with e1 e2; subst e1 e2
    obtain ⟨k1, l1, rfl⟩ := rlC_news h2 (hr 0 (by simp)) ok
    obtain ⟨k2, ⟨l2, rfl⟩, k3⟩ := rlL_news (xs := xs.tail) h3 (fun j hj => by have := hr (j + 1) (by simp; omega); simpa [List.getD_eq_getElem?_getD] using this) k1
    exact ⟨k2, ⟨l1 ++ l2, by simp⟩, by simp [k3]⟩
   ·cases h1
  ·cases h1
theorem rlV_news {m : Nat} {a r : A} {x : Value} {acc acc' : News} (h1 : rlV S₁ m a acc = some (r, acc')) (ra : Rel S₁ σ₁ I₁ h a x) (ok : NewsOk S₁ m acc) : NewsOk S₁ m acc' ∧ ∃ l, acc' = acc ++ l := by
 unfold rlV at h1
 split at h1
 ·split at h1
  ·rename_i l acc₁ h2
   injection h1 with h1; injection h1 with e1 e2; subst e1 e2
   cases ra with
   | ag cs xs hl hc =>
    obtain ⟨k1, k2, k3⟩ := rlL_news (xs := xs.toList) h2 (fun j hj => by have := hc j hj; simpa [show j < xs.size by omega] using this) ok
    exact ⟨k1, k2⟩
  ·cases h1
 ·exact rlC_news h1 ra ok
theorem rlVs_news {m : Nat} : ∀ {l r : List A} {acc acc' : News} {xs : List Value}, rlVs S₁ m l acc = some (r, acc') → (∀ j, j < l.length → Rel S₁ σ₁ I₁ h (l.getD j .dead) (xs.getD j undef)) → NewsOk S₁ m acc → NewsOk S₁ m acc' ∧ (∃ l, acc' = acc ++ l) ∧ r.length = l.length
 | [], r, acc, acc', xs, h1, hr, ok => by injection h1 with h1; injection h1 with e1 e2; subst e1 e2; exact ⟨ok, ⟨[], by simp⟩, rfl⟩
 | a :: l, r, acc, acc', xs, h1, hr, ok => by
  simp only [rlVs] at h1
  split at h1
  ·rename_i a' acc₁ h2
   split at h1
   ·rename_i l' acc₂ h3
    injection h1 with h1; injection h1 with e1 e2; subst e1 e2
    obtain ⟨k1, l1, rfl⟩ := rlV_news h2 (hr 0 (by simp)) ok
    obtain ⟨k2, ⟨l2, rfl⟩, k3⟩ := rlVs_news (xs := xs.tail) h3 (fun j hj => by have := hr (j + 1) (by simp; omega); simpa [List.getD_eq_getElem?_getD] using this) k1
    exact ⟨k2, ⟨l1 ++ l2, by simp⟩, by simp [k3]⟩
   ·cases h1
  ·cases h1
section
variable {S₂ : Store} {I₂ : Nat → Prop} {m : Nat} {news : News}
theorem rlL_rel (hS : ∀ id o, id < m → S₁[id]? = some o → ∃ o', S₂[id]? = some o' ∧ o'.n = o.n ∧ o'.rows = o.rows ∧ newPlace σ₁ m news S₁ id = σ₁ id)
 (hN : ∀ (k : Nat) (o : Ob) (i lo : Nat), news[k]? = some (o, i, lo) → S₂[m + k]? = some o) : ∀ {l r : List A} {acc acc' : News} {xs : List Value}, rlL S₁ m l acc = some (r, acc') → (∀ j, j < l.length → Rel S₁ σ₁ I₁ h (l.getD j .dead) (xs.getD j undef)) → (∃ l, news = acc' ++ l) → NewsOk S₁ m acc → (r.all noRoC = true ∨ ∀ b, I₁ b → I₂ b) →
  ∀ j, j < l.length → Rel S₂ (newPlace σ₁ m news S₁) I₂ h (r.getD j .dead) (xs.getD j undef)
 | [], r, acc, acc', xs, h1, hr, hl, ok, hro => fun j hj => by simp at hj
 | a :: l, r, acc, acc', xs, h1, hr, hl, ok, hro => by
  simp only [rlL] at h1
  split at h1
  ·rename_i a' acc₁ h2
   split at h1
   ·rename_i l' acc₂ h3
    injection h1 with h1; injection h1 with e1 e2; subst e1 e2
    have tl : ∀ j, j < l.length → Rel S₁ σ₁ I₁ h (l.getD j .dead) (xs.tail.getD j undef) := fun j hj => by have := hr (j + 1) (by simp; omega); simpa [List.getD_eq_getElem?_getD] using this
    obtain ⟨k1, l1, k0⟩ := rlC_news h2 (hr 0 (by simp)) ok
    obtain ⟨k2, ⟨l2, rfl⟩, k3⟩ := rlL_news (xs := xs.tail) h3 tl k1
    obtain ⟨l3, hl⟩ := hl
    have rec_ := rlL_rel hS hN (xs := xs.tail) h3 tl ⟨l3, hl⟩ k1 (hro.imp (fun h => by simp at h ⊢; exact h.2) id)
    intro j hj
    cases j with
    | zero => exact rlC_rel h2 (hr 0 (by simp)) ⟨l2 ++ l3, by rw [hl]; simp⟩ hS hN (hro.imp (fun h => by simp at h; exact h.1) id)
    | succ j =>
     have := rec_ j (by simp at hj; omega)
     simpa [List.getD_eq_getElem?_getD] using this
   ·cases h1
  ·cases h1
theorem rlV_rel (hS : ∀ id o, id < m → S₁[id]? = some o → ∃ o', S₂[id]? = some o' ∧ o'.n = o.n ∧ o'.rows = o.rows ∧ newPlace σ₁ m news S₁ id = σ₁ id)
 (hN : ∀ (k : Nat) (o : Ob) (i lo : Nat), news[k]? = some (o, i, lo) → S₂[m + k]? = some o) {a r : A} {x : Value} {acc acc' : News} (h1 : rlV S₁ m a acc = some (r, acc')) (ra : Rel S₁ σ₁ I₁ h a x) (hl : ∃ l, news = acc' ++ l) (ok : NewsOk S₁ m acc) (hro : noRoV r = true ∨ ∀ b, I₁ b → I₂ b) :
  Rel S₂ (newPlace σ₁ m news S₁) I₂ h r x := by
 unfold rlV at h1
 split at h1
 ·split at h1
  ·rename_i l acc₁ h2
   injection h1 with h1; injection h1 with e1 e2; subst e1 e2
   cases ra with
   | ag cs xs hl' hc =>
    have hr : ∀ j, j < _ → Rel S₁ σ₁ I₁ h (_) (xs.toList.getD j undef) := fun j hj => by have := hc j hj; simpa [show j < xs.size by omega] using this
    obtain ⟨k1, k2, k3⟩ := rlL_news (xs := xs.toList) h2 hr ok
    have := rlL_rel hS hN (xs := xs.toList) h2 hr hl ok hro
    refine .ag l xs (by omega) fun j hj => ?_
    have := this j (by omega)
    simpa [show j < xs.size by omega] using this
  ·cases h1
 ·rename_i hna
  refine rlC_rel h1 ra hl hS hN (hro.imp (fun hh => ?_) id)
  cases r <;> first | exact hh | skip
  exact absurd rfl (rlC_shape h1 _)
theorem rlVs_rel (hS : ∀ id o, id < m → S₁[id]? = some o → ∃ o', S₂[id]? = some o' ∧ o'.n = o.n ∧ o'.rows = o.rows ∧ newPlace σ₁ m news S₁ id = σ₁ id)
 (hN : ∀ (k : Nat) (o : Ob) (i lo : Nat), news[k]? = some (o, i, lo) → S₂[m + k]? = some o) : ∀ {l r : List A} {acc acc' : News} {xs : List Value}, rlVs S₁ m l acc = some (r, acc') → (∀ j, j < l.length → Rel S₁ σ₁ I₁ h (l.getD j .dead) (xs.getD j undef)) → (∃ l, news = acc' ++ l) → NewsOk S₁ m acc → (r.all noRoV = true ∨ ∀ b, I₁ b → I₂ b) →
  ∀ j, j < l.length → Rel S₂ (newPlace σ₁ m news S₁) I₂ h (r.getD j .dead) (xs.getD j undef)
 | [], r, acc, acc', xs, h1, hr, hl, ok, hro => fun j hj => by simp at hj
 | a :: l, r, acc, acc', xs, h1, hr, hl, ok, hro => by
  simp only [rlVs] at h1
  split at h1
  ·rename_i a' acc₁ h2
   split at h1
   ·rename_i l' acc₂ h3
    injection h1 with h1; injection h1 with e1 e2; subst e1 e2
    have tl : ∀ j, j < l.length → Rel S₁ σ₁ I₁ h (l.getD j .dead) (xs.tail.getD j undef) := fun j hj => by have := hr (j + 1) (by simp; omega); simpa [List.getD_eq_getElem?_getD] using this
    obtain ⟨k1, l1, k0⟩ := rlV_news h2 (hr 0 (by simp)) ok
    obtain ⟨k2, ⟨l2, rfl⟩, k3⟩ := rlVs_news (xs := xs.tail) h3 tl k1
    obtain ⟨l3, hl⟩ := hl
    have rec_ := rlVs_rel hS hN (xs := xs.tail) h3 tl ⟨l3, hl⟩ k1 (hro.imp (fun h => by simp at h ⊢; exact h.2) id)
    intro j hj
    cases j with
    | zero => exact rlV_rel hS hN h2 (hr 0 (by simp)) ⟨l2 ++ l3, by rw [hl]; simp⟩ ok (hro.imp (fun h => by simp at h; exact h.1) id)
    | succ j =>
     have := rec_ j (by simp at hj; omega)
     simpa [List.getD_eq_getElem?_getD] using this
   ·cases h1
  ·cases h1
end
theorem fin_core (s : Sim W S σ I F h) {Wc : Fm} {Ic Fc : Nat → Prop} (hWm : Wc.m = S.length) (hWN : Wc.N = h.size) (hWw : ∀ id, Wc.w id → id < S.length → W.w id)
  (s₁ : Sim Wc S₁ σ₁ I₁ F₁ h₁) (E₁ : Ext Wc S σ Ic Fc h S₁ σ₁ I₁ F₁ h₁) (hFc : ∀ b, F b → Fc b) (hFo : ∀ id o ad, S[id]? = some o → ¬ Wc.w id → σ id = some ad → Fc ad.block)
  {news : News} (ok : NewsOk S₁ S.length news) {B : Store} (hBl : B.length = S.length)
  (hB : ∀ id o, id < S.length → S₁[id]? = some o → ∃ o', B[id]? = some o' ∧ o'.n = o.n ∧ o'.rows = o.rows ∧ (¬ W.w id → o' = o)) {I₂ F₂ : Nat → Prop}
  (fI : ∀ b, I b → I₂ b) (fnew : ∀ b, I₂ b → I b ∨ W.N ≤ b) (fF : ∀ b, F b → F₂ b) (fsub : ∀ b, I₂ b → F₂ b) (fimm : ∀ b, F₂ b → b < h₁.size)
  (fopen : ∀ id o' ad, id < S.length → B[id]? = some o' → W.w id → o'.st = 0 → σ₁ id = some ad → ¬ F₂ ad.block)
  (fclosed : ∀ id o' ad, id < S.length → B[id]? = some o' → o'.st ≠ 0 → σ₁ id = some ad → I₂ ad.block)
  (fcells : ∀ id o, id < S.length → S₁[id]? = some o → Wc.w id → ∀ i j, i < o.rows.length → j < o.n → okC S.length ((o.rows.getD i []).getD j .dead) = true ∧ (noRoC ((o.rows.getD i []).getD j .dead) = true ∨ ∀ b, I₁ b → I₂ b))
  (fnews : ∀ (k : Nat) (o : Ob) (i lo : Nat), news[k]? = some (o, i, lo) → (∀ ad, σ₁ i = some ad → (o.st = 0 → ¬ F₂ ad.block) ∧ (o.st ≠ 0 → I₂ ad.block)) ∧ ((∀ i j, noRoC ((o.rows.getD i []).getD j .dead) = true) ∨ ∀ b, I₁ b → I₂ b)) :
  Sim W (B ++ news.map (·.1)) (newPlace σ₁ S.length news S₁) I₂ F₂ h₁ ∧ Ext W S σ I F h (B ++ news.map (·.1)) (newPlace σ₁ S.length news S₁) I₂ F₂ h₁ ∧
   (∀ id o, id < S.length → S₁[id]? = some o → ∃ o', (B ++ news.map (·.1))[id]? = some o' ∧ o'.n = o.n ∧ o'.rows = o.rows ∧ newPlace σ₁ S.length news S₁ id = σ₁ id) ∧
   (∀ (k : Nat) (o : Ob) (i lo : Nat), news[k]? = some (o, i, lo) → (B ++ news.map (·.1))[S.length + k]? = some o) := by
 have pOld : ∀ id, id < S.length → newPlace σ₁ S.length news S₁ id = σ₁ id := fun id hid => by simp [newPlace, hid]
 have gOld : ∀ id, id < S.length → (B ++ news.map (·.1))[id]? = B[id]? := fun id hid => List.getElem?_append_left (by omega)
 have gNew : ∀ (k : Nat) (o : Ob) (i lo : Nat), news[k]? = some (o, i, lo) → (B ++ news.map (·.1))[S.length + k]? = some o := fun k o i lo hk => by
  rw [List.getElem?_append_right (by omega), hBl, Nat.add_sub_cancel_left, List.getElem?_map, hk]; rfl
 have pNew : ∀ (k : Nat) (o : Ob) (i lo : Nat), news[k]? = some (o, i, lo) → newPlace σ₁ S.length news S₁ (S.length + k) = (σ₁ i).map fun ad => ⟨ad.block, ad.off + lo * o.n, none⟩ := fun k o i lo hk => by
  simp only [newPlace]; rw [if_neg (by omega), Nat.add_sub_cancel_left, hk]
 have hS : ∀ id o, id < S.length → S₁[id]? = some o → ∃ o', (B ++ news.map (·.1))[id]? = some o' ∧ o'.n = o.n ∧ o'.rows = o.rows ∧ newPlace σ₁ S.length news S₁ id = σ₁ id := fun id o hid ho => by
  obtain ⟨o', k1, k2, k3, _⟩ := hB id o hid ho
  exact ⟨o', (gOld id hid).trans k1, k2, k3, pOld id hid⟩
 have lt : ∀ id o, S[id]? = some o → id < S.length := fun id o ho => (List.getElem?_eq_some_iff.1 ho).1
 have back : ∀ id o', id < S.length → B[id]? = some o' → ∃ o, S[id]? = some o ∧ ∃ o₁, S₁[id]? = some o₁ ∧ o'.n = o₁.n ∧ o'.rows = o₁.rows := fun id o' hid hb => by
  have e : S[id]? = some S[id] := List.getElem?_eq_getElem hid
  obtain ⟨o₁, p1, p2⟩ := E₁.ob id _ e
  obtain ⟨o'', k1, k2, k3, _⟩ := hB id o₁ hid p1
  rw [hb] at k1; injection k1 with k1; subst k1
  exact ⟨_, e, o₁, p1, k2, k3⟩
 have E : Ext W S σ I F h (B ++ news.map (·.1)) (newPlace σ₁ S.length news S₁) I₂ F₂ h₁ := by
  refine ⟨fun id o ho => ?_, fun b hb => ⟨fF b hb, (E₁.imm b (hFc b hb)).2⟩, fI, fnew, fun id o ad ho ha => ?_, E₁.size⟩
  ·obtain ⟨o₁, p1, p2, p3, p4, p5⟩ := E₁.ob id o ho
   obtain ⟨o', k1, k2, k3, k4⟩ := hB id o₁ (lt id o ho) p1
   refine ⟨o', (gOld id (lt id o ho)).trans k1, k2.trans p2, by rw [k3]; exact p3, fun e => ?_, fun nw => (k4 nw).trans (p5 fun hw => nw (hWw id hw (lt id o ho)))⟩
   rw [k3] at e
   have := p4 e
   exact ⟨(pOld id (lt id o ho)).trans this.1, this.2⟩
  ·rw [pOld id (lt id o ho)] at ha
   exact (E₁.pl id o ad ho ha).imp _root_.id fun hb => by have := s.big; omega
 refine ⟨⟨fun id o' ho => ?_, fun id id' o o' ad ad' ho ho' ha ha' ne => ?_, fimm, fsub, fun id o ad hm ho ha => ?_, Nat.le_trans s.big E₁.size⟩, E, hS, gNew⟩
 ·by_cases hid : id < S.length
  ·rw [gOld id hid] at ho
   obtain ⟨o, p0, o₁, p1, p2, p3⟩ := back id o' hid ho
   have q := s₁.ob id o₁ p1
   refine ⟨fun e => by rw [p3]; exact q.none_ (by rw [pOld id hid] at e; exact e), fun i hi => by rw [p2]; rw [p3] at hi ⊢; exact q.len i hi, fun ad ha => ?_⟩
   rw [pOld id hid] at ha
   obtain ⟨k1, k2, k3, cs, ty, fr, k4, k5, k6, k7⟩ := q.there ad ha
   refine ⟨k1, fun hw hst => fopen id o' ad hid ho hw hst ha, fun hst => fclosed id o' ad hid ho hst ha, cs, ty, fr, k4, k5, by rw [p2, p3]; exact k6, ?_⟩
   rw [p2, p3]
   intro i j hi hj
   by_cases hw : Wc.w id
   ·obtain ⟨c1, c2⟩ := fcells id o₁ hid p1 hw i j hi hj
    exact (k7 i j hi hj).change c1 c2 hS
   ·obtain ⟨o₁', r1, r2, r3, r4, r5⟩ := E₁.ob id o p0
    rw [p1] at r1; injection r1 with r1; subst r1
    have e := r5 hw; subst e
    have hσ := (r4 rfl).1
    rw [hσ] at ha
    obtain ⟨_, _, _, cs', ty', fr', z4, z5, z6, z7⟩ := (s.ob id o₁ p0).there ad ha
    have hbk := (E₁.imm _ (hFo id o₁ ad p0 hw ha)).2
    rw [k4] at hbk
    rw [← hbk] at z4; injection z4 with z4; injection z4 with f1 f2 f3; subst f1 f2 f3
    exact E.rel s.sub (z7 i j hi hj)
  ·obtain ⟨k, rfl⟩ : ∃ k, id = S.length + k := ⟨id - S.length, by omega⟩
   rw [List.getElem?_append_right (by omega), hBl, Nat.add_sub_cancel_left, List.getElem?_map] at ho
   obtain ⟨⟨on, i, lo⟩, hk, rfl⟩ := Option.map_eq_some_iff.1 ho
   obtain ⟨hi1, hfl, o₁, hi, so, sn, sst, sl1, sl2, sr⟩ := ok.src k on i lo hk
   have q := s₁.ob i o₁ so
   have hlen : on.rows.length = hi - lo := by rw [sr]; simp; omega
   have hg : ∀ a, a < hi - lo → on.rows.getD a [] = o₁.rows.getD (lo + a) [] := fun a ha => by
    rw [sr]
    simp only [List.getD_eq_getElem?_getD, List.getElem?_drop, List.getElem?_take]
    rw [if_pos (by omega)]
   refine ⟨fun e => ?_, fun a ha => ?_, fun ad ha => ?_⟩
   ·rw [pNew k on i lo hk] at e
    have e1 : σ₁ i = none := by simpa using e
    have := q.none_ e1
    rw [sr, this]; simp
   ·simp only at ha ⊢
    rw [hg a (by omega), sn]; exact q.len _ (by omega)
   ·rw [pNew k on i lo hk] at ha
    obtain ⟨ad₀, ha₀, rfl⟩ := Option.map_eq_some_iff.1 ha
    obtain ⟨k1, k2, k3, cs, ty, fr, k4, k5, k6, k7⟩ := q.there ad₀ ha₀
    have f := fnews k on i lo hk
    have f1 := f.1 ad₀ ha₀
    have m1 : hi * o₁.n ≤ o₁.rows.length * o₁.n := Nat.mul_le_mul_right _ sl2
    have m2 : hi * o₁.n = lo * o₁.n + (hi - lo) * o₁.n := by rw [← Nat.add_mul]; congr 1; omega
    refine ⟨rfl, fun _ hst => f1.1 hst, fun hst => f1.2 hst, cs, ty, fr, k4, k5, by simp only [hlen, sn]; omega, fun a j ha hj => ?_⟩
    simp only at ha hj ⊢
    rw [sn] at hj
    have r := k7 (lo + a) j (by omega) hj
    rw [← hg a (by omega)] at r
    have e3 : ad₀.off + lo * on.n + a * on.n + j = ad₀.off + (lo + a) * o₁.n + j := by rw [sn, Nat.add_mul]; omega
    rw [e3]
    have hfc := hfl a j
    rcases f.2 with hz | hz
    ·refine r.change (m := S.length) ?_ (.inl (hz a j)) hS
     revert hfc; cases (on.rows.getD a []).getD j .dead <;> intro hfc <;> first | rfl | cases hfc
    ·exact r.flat hz hfc
 ·-- apart
  have place : ∀ id o ad, (B ++ news.map (·.1))[id]? = some o → newPlace σ₁ S.length news S₁ id = some ad → ∃ i o₁ ad₁, S₁[i]? = some o₁ ∧ σ₁ i = some ad₁ ∧ ad₁.block = ad.block ∧ ((id < S.length ∧ i = id) ∨ (S.length ≤ id ∧ S.length ≤ i ∧ ∃ (o : Ob) (lo : Nat), news[id - S.length]? = some (o, i, lo))) := fun id o ad ho ha => by
   by_cases hid : id < S.length
   ·rw [gOld id hid] at ho
    obtain ⟨o, p0, o₁, p1, _⟩ := back id o hid ho
    rw [pOld id hid] at ha
    exact ⟨id, o₁, ad, p1, ha, rfl, .inl ⟨hid, rfl⟩⟩
   ·obtain ⟨k, rfl⟩ : ∃ k, id = S.length + k := ⟨id - S.length, by omega⟩
    rw [List.getElem?_append_right (by omega), hBl, Nat.add_sub_cancel_left, List.getElem?_map] at ho
    obtain ⟨⟨on, i, lo⟩, hk, rfl⟩ := Option.map_eq_some_iff.1 ho
    obtain ⟨hi1, hfl, o₁, hi, so, _⟩ := ok.src k on i lo hk
    rw [pNew k on i lo hk] at ha
    obtain ⟨ad₀, ha₀, rfl⟩ := Option.map_eq_some_iff.1 ha
    exact ⟨i, o₁, ad₀, so, ha₀, rfl, .inr ⟨by omega, hi1, on, lo, by rw [Nat.add_sub_cancel_left]; exact hk⟩⟩
  obtain ⟨i, o₁, ad₁, a1, a2, a3, a4⟩ := place id o ad ho ha
  obtain ⟨i', o₁', ad₁', b1, b2, b3, b4⟩ := place id' o' ad' ho' ha'
  rw [← a3, ← b3]
  refine s₁.inj i i' o₁ o₁' ad₁ ad₁' a1 b1 a2 b2 fun e => ?_
  subst e
  rcases a4 with ⟨c1, c2⟩ | ⟨c1, c2, on, lo, c3⟩ <;> rcases b4 with ⟨d1, d2⟩ | ⟨d1, d2, on', lo', d3⟩
  ·exact ne (c2.symm.trans d2)
  ·omega
  ·omega
  ·have := ok.inj _ _ _ _ _ _ _ c3 d3; omega
 ·by_cases hid : id < S.length
  ·rw [gOld id hid] at ho
   obtain ⟨o₀, p0, o₁, p1, _⟩ := back id o hid ho
   rw [pOld id hid] at ha
   rcases E₁.pl id o₀ ad p0 ha with q | q
   ·exact s.own id o₀ ad hm p0 q
   ·have := s.big; omega
  ·obtain ⟨k, rfl⟩ : ∃ k, id = S.length + k := ⟨id - S.length, by omega⟩
   rw [List.getElem?_append_right (by omega), hBl, Nat.add_sub_cancel_left, List.getElem?_map] at ho
   obtain ⟨⟨on, i, lo⟩, hk, rfl⟩ := Option.map_eq_some_iff.1 ho
   obtain ⟨hi1, hfl, o₁, hi, so, _⟩ := ok.src k on i lo hk
   rw [pNew k on i lo hk] at ha
   obtain ⟨ad₀, ha₀, rfl⟩ := Option.map_eq_some_iff.1 ha
   have := s₁.own i o₁ ad₀ (by omega) so ha₀
   have := s.big; simp only; omega
end
end Go.Proofs.YtdpaijnbikclgaaDoorE
