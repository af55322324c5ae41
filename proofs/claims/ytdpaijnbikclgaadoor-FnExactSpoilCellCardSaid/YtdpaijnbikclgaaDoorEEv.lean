/- Part of the proof: an evaluator (YtdpaijnbikclgaaDoorEEv). -/
import Derived.Test.YtdpaijnbikclgaaDoorEMem
set_option linter.unusedVariables false
set_option linter.unusedSectionVars false
set_option linter.unusedSimpArgs false
namespace Go.Proofs.YtdpaijnbikclgaaDoorE
open Go
structure Md where
 wr : Nat → Bool
 m : Nat
 fz : Bool
def flatRowsB (l : List (List A)) : Bool := l.all (·.all flatC)
theorem flatRowsB_ok {l : List (List A)} (h : flatRowsB l = true) : flatRows l := fun i j => by
 rcases Nat.lt_or_ge i l.length with hi | hi
 ·have h1 := List.all_eq_true.1 h (l.getD i []) (by simp [hi])
  rcases Nat.lt_or_ge j (l.getD i []).length with hj | hj
  ·exact List.all_eq_true.1 h1 _ (by rw [List.getD_eq_getElem?_getD (a := A.dead), List.getElem?_eq_getElem hj]; exact List.getElem_mem hj)
  ·rw [List.getD_eq_getElem?_getD (a := A.dead), List.getElem?_eq_none hj]; rfl
 ·have : l.getD i [] = [] := by simp [hi]
  rw [this]; rfl
def frzC (S : Store) (md : Md) : A → Option (A × Store)
 | .sl id lo hi ver => match S[id]? with
  | some o => if o.rows.length = ver ∧ flatRowsB o.rows = true then
    if o.st ≠ 0 then some (.ro o.n ((o.rows.take hi).drop lo), S)
    else if md.wr id = true ∧ md.m ≤ id then some (.ro o.n ((o.rows.take hi).drop lo), S.set id ⟨o.n, o.rows, 1, o.bx⟩) else none
   else none
  | none => none
 | a => some (a, S)
def frzL (md : Md) : List A → Store → Option (List A × Store)
 | [], S => some ([], S)
 | a :: l, S => match frzC S md a with
  | some (a', S₁) => match frzL md l S₁ with
   | some (l', S₂) => some (a' :: l', S₂)
   | none => none
  | none => none
def frzV (md : Md) (S : Store) : A → Option (A × Store)
 | .ag cs => (frzL md cs S).map fun (cs, S) => (.ag cs, S)
 | a => frzC S md a
def frzPs (md : Md) : List (Nat × A) → Store → Option (List (Nat × A) × Store)
 | [], S => some ([], S)
 | (i, a) :: l, S => match frzV md S a with
  | some (a', S₁) => match frzPs md l S₁ with
   | some (l', S₂) => some ((i, a') :: l', S₂)
   | none => none
  | none => none
section
variable {P : Program} {T : Nat → Option TI} {W : Fm} {S : Store} {σ : Place} {I F : Nat → Prop} {w : World} {md : Md}
structure MdOk (W : Fm) (md : Md) : Prop where
 wr : ∀ id, md.wr id = true → W.w id
 m : md.m = W.m
theorem ro_of_obj (s : Sim W S σ I F w.heap) {id lo hi ver : Nat} {o : Ob} (ho : S[id]? = some o) (hv : o.rows.length = ver) {x : Value} (ra : Rel S σ I w.heap (.sl id lo hi ver) x) (hfl : flatRows o.rows) {S' : Store} {I' : Nat → Prop} {h' : Array Obj}
  (hI : ∀ ad, σ id = some ad → I' ad.block) (hh : ∀ ad, σ id = some ad → h'[ad.block]? = w.heap[ad.block]?) (tr : ∀ a x, flatC a = true → Rel S σ I w.heap a x → Rel S' σ I' h' a x) : Rel S' σ I' h' (.ro o.n ((o.rows.take hi).drop lo)) x := by
 cases ra with
 | sl _ _ _ _ a c o₁ ho₁ h1 h2 h3 hf =>
  rw [ho] at ho₁; injection ho₁ with ho₁; subst ho₁
  have hff := hf hv.symm
  clear hf
  have hl : ((o.rows.take hi).drop lo).length = hi - lo := by simp; omega
  have hg : ∀ i, i < hi - lo → ((o.rows.take hi).drop lo).getD i [] = o.rows.getD (lo + i) [] := fun i hi' => by
   simp only [List.getD_eq_getElem?_getD, List.getElem?_drop, List.getElem?_take]
   rw [if_pos (by omega)]
  have emp : hi - lo = 0 → Rel S' σ I' h' (.ro o.n ((o.rows.take hi).drop lo)) (.slice a (hi - lo) c) := fun hz => by
   have e5 : (o.rows.take hi).drop lo = [] := List.length_eq_zero_iff.1 (by omega)
   rw [e5, hz]; exact .ro0 _ _ _
  rcases hff with ⟨q1, q2, q3⟩ | ⟨ad, b, ty, fr, q1, q2, q3, q4, q5, q6⟩
  ·have z0 := (s.ob id o ho).none_ q1; have z1 : o.rows.length = 0 := (by rw [z0]; rfl)
   exact emp (by omega)
  ·rcases Nat.eq_zero_or_pos (hi - lo) with hz | hz
   ·exact emp hz
   ·have := q3 (by omega); subst this
    obtain ⟨k1, k2, k3, b', ty', fr', k4, k5, k6, k7⟩ := (s.ob id o ho).there ad q1
    rw [q4] at k4; injection k4 with k4; injection k4 with f1 f2 f3; subst f1 f2 f3
    rw [← hl]
    have m1 : hi * o.n ≤ o.rows.length * o.n := Nat.mul_le_mul_right _ (by omega)
    have m2 : hi * o.n = lo * o.n + (hi - lo) * o.n := by rw [← Nat.add_mul]; congr 1; omega
    refine .ro o.n _ _ c b ty fr rfl (hI ad q1) (by rw [hh ad q1]; exact q4) (fun i hi' => ?_) (by rw [hl]; simp only; omega) (by omega) (flatRows_cut hfl hi lo) (fun i j hi' hj => ?_)
    ·rw [hl] at hi'; rw [hg i hi']; exact (s.ob id o ho).len _ (by omega)
    ·rw [hl] at hi'; rw [hg i hi']
     have := k7 (lo + i) j (by omega) hj
     rw [Nat.add_mul] at this
     have := tr _ _ (hfl (lo + i) j) this
     simpa only [Nat.add_assoc] using this
theorem frzC_ok (s : Sim W S σ I F w.heap) (hm : MdOk W md) {a r : A} {x : Value} {S' : Store} (h : frzC S md a = some (r, S')) (ra : Rel S σ I w.heap a x) :
  ∃ I' F', Sim W S' σ I' F' w.heap ∧ Ext W S σ I F w.heap S' σ I' F' w.heap ∧ Rel S' σ I' w.heap r x := by
 unfold frzC at h
 split at h
 ·rename_i id lo hi ver
  split at h
  ·rename_i o ho
   split at h
   ·rename_i hv
    have q := s.ob id o ho
    have hfl := flatRowsB_ok hv.2
    split at h
    ·rename_i hst; injection h with h; injection h with e1 e2; subst e1 e2
     exact ⟨I, F, s, .refl, ro_of_obj s ho hv.1 ra hfl (fun ad ha => (q.there ad ha).2.2.1 hst) (fun _ _ => rfl) (fun _ _ _ h => h)⟩
    ·rename_i hst
     have hst : o.st = 0 := by simpa using hst
     split at h
     ·rename_i hw
      injection h with h; injection h with e1 e2; subst e1 e2
      have gW := hm.wr _ hw.1
      have hlt := (List.getElem?_eq_some_iff.1 ho).1
      let B : Nat → Prop := fun b => ∃ ad, σ id = some ad ∧ ad.block = b
      have E : Ext W S σ I F w.heap (S.set id ⟨o.n, o.rows, 1, o.bx⟩) σ (fun b => I b ∨ B b) (fun b => F b ∨ B b) w.heap := by
       refine ⟨fun i1 o₁ ho₁ => ?_, fun b hb => ⟨.inl hb, rfl⟩, fun b hb => .inl hb, fun b hb => hb.elim .inl fun ⟨ad, ha, e⟩ => .inr (e ▸ s.own id o ad (hm.m ▸ hw.2) ho ha), fun i1 o₁ ad ho₁ ha => .inl ha, Nat.le_refl _⟩
       by_cases e : i1 = id
       ·subst e; rw [ho] at ho₁; injection ho₁ with ho₁; subst ho₁
        exact ⟨⟨o.n, o.rows, 1, o.bx⟩, by rw [getElem?_set' _ _ _ _ hlt, if_pos rfl], rfl, Nat.le_refl _, fun _ => ⟨rfl, fun ad cs ty fr _ hb => ⟨cs, hb, rfl⟩⟩, fun nw => absurd gW nw⟩
       ·exact ⟨o₁, by rw [getElem?_set' _ _ _ _ hlt, if_neg e]; exact ho₁, rfl, Nat.le_refl _, fun _ => ⟨rfl, fun ad cs ty fr _ hb => ⟨cs, hb, rfl⟩⟩, fun _ => rfl⟩
      have blt : ∀ b, B b → b < w.heap.size := fun b ⟨ad, ha, e⟩ => by
       obtain ⟨_, _, _, cs, ty, fr, k4, _⟩ := q.there ad ha
       exact e ▸ (Array.getElem?_eq_some_iff.1 k4).1
      have old : ∀ i o₁, (S.set id ⟨o.n, o.rows, 1, o.bx⟩)[i]? = some o₁ → ∃ o₂, S[i]? = some o₂ := fun i o₁ hi => by
       rw [getElem?_set' _ _ _ _ hlt] at hi; split at hi
       ·rename_i e; subst e; exact ⟨o, ho⟩
       ·exact ⟨o₁, hi⟩
      refine ⟨_, _, ⟨fun i1 o₁ ho₁ => ?_, fun i1 i2 o₁ o₂ ad₁ ad₂ ho₁ ho₂ ha₁ ha₂ ne => ?_, fun b hb => hb.elim (s.imm b) (blt b), fun b hb => hb.elim (fun h => .inl (s.sub b h)) .inr, fun i1 o₁ ad hm' ho₁ ha => ?_, s.big⟩, E, ?_⟩
      ·rw [getElem?_set' _ _ _ _ hlt] at ho₁
       split at ho₁
       ·rename_i e; subst e; injection ho₁ with ho₁; subst ho₁
        refine ⟨q.none_, q.len, fun ad ha => ?_⟩
        obtain ⟨k1, k2, k3, cs, ty, fr, k4, k5, k6, k7⟩ := q.there ad ha
        exact ⟨k1, fun _ h => (by cases h), fun _ => .inr ⟨ad, ha, rfl⟩, cs, ty, fr, k4, k5, k6, E.ob_rel s.sub k7⟩
       ·rename_i ne
        have q₁ := s.ob i1 o₁ ho₁
        refine ⟨q₁.none_, q₁.len, fun ad ha => ?_⟩
        obtain ⟨k1, k2, k3, cs, ty, fr, k4, k5, k6, k7⟩ := q₁.there ad ha
        exact ⟨k1, fun h1 h2 hF => hF.elim (k2 h1 h2) fun ⟨ad', ha', e'⟩ => s.inj i1 id o₁ o ad ad' ho₁ ho ha ha' ne e'.symm, fun h => .inl (k3 h), cs, ty, fr, k4, k5, k6, E.ob_rel s.sub k7⟩
      ·obtain ⟨p₁, hp₁⟩ := old _ _ ho₁; obtain ⟨p₂, hp₂⟩ := old _ _ ho₂
       exact s.inj i1 i2 p₁ p₂ ad₁ ad₂ hp₁ hp₂ ha₁ ha₂ ne
      ·obtain ⟨p₁, hp₁⟩ := old _ _ ho₁
       exact s.own i1 p₁ ad hm' hp₁ ha
      ·exact ro_of_obj s ho hv.1 ra hfl (fun ad ha => .inr ⟨ad, ha, rfl⟩) (fun _ _ => rfl) (fun a x _ h => E.rel s.sub h)
     ·cases h
   ·cases h
  ·cases h
 ·injection h with h; injection h with e1 e2; subst e1 e2; exact ⟨I, F, s, .refl, ra⟩
theorem frzL_ok (hm : MdOk W md) : ∀ {cs l : List A} {S S' : Store} {I F : Nat → Prop} {xs : List Value}, Sim W S σ I F w.heap → frzL md cs S = some (l, S') → xs.length = cs.length → (∀ j, j < cs.length → Rel S σ I w.heap (cs.getD j .dead) (xs.getD j undef)) →
  ∃ I' F', Sim W S' σ I' F' w.heap ∧ Ext W S σ I F w.heap S' σ I' F' w.heap ∧ l.length = cs.length ∧ ∀ j, j < cs.length → Rel S' σ I' w.heap (l.getD j .dead) (xs.getD j undef)
 | [], l, S, S', I, F, xs, s, h, hl, hr => by injection h with h; injection h with e1 e2; subst e1 e2; exact ⟨I, F, s, .refl, rfl, fun j hj => by simp at hj⟩
 | a :: cs, l, S, S', I, F, [], s, h, hl, hr => by simp at hl
 | a :: cs, l, S, S', I, F, x :: xs, s, h, hl, hr => by
  simp only [frzL] at h
  split at h
  ·rename_i a' S₁ h1
   split at h
   ·rename_i l' S₂ h2
    injection h with h; injection h with e1 e2; subst e1 e2
    obtain ⟨I₁, F₁, s₁, E₁, r₁⟩ := frzC_ok s hm h1 (hr 0 (by simp))
    obtain ⟨I₂, F₂, s₂, E₂, l₂, r₂⟩ := frzL_ok hm s₁ h2 (by simpa using hl) (fun j hj => E₁.rel s.sub (hr (j + 1) (by simp; omega)))
    refine ⟨I₂, F₂, s₂, E₁.trans E₂, by simp [l₂], fun j hj => ?_⟩
    cases j with
    | zero => exact E₂.rel s₁.sub r₁
    | succ j => exact r₂ j (by simp at hj; omega)
   ·cases h
  ·cases h
theorem frzV_ok (s : Sim W S σ I F w.heap) (hm : MdOk W md) {a r : A} {x : Value} {S' : Store} (h : frzV md S a = some (r, S')) (ra : Rel S σ I w.heap a x) :
  ∃ I' F', Sim W S' σ I' F' w.heap ∧ Ext W S σ I F w.heap S' σ I' F' w.heap ∧ Rel S' σ I' w.heap r x := by
 unfold frzV at h
 split at h
 ·obtain ⟨⟨l, S₁⟩, h1, h2⟩ := Option.map_eq_some_iff.1 h
  injection h2 with e1 e2; subst e1 e2
  cases ra with
  | ag cs xs hl hc =>
   obtain ⟨I', F', s', E', l', r'⟩ := frzL_ok hm s h1 (xs := xs.toList) (by simp [hl]) (fun j hj => by have := hc j hj; simpa [show j < xs.size by omega] using this)
   refine ⟨I', F', s', E', .ag l xs (by omega) fun j hj => ?_⟩
   have := r' j (by omega)
   simpa [show j < xs.size by omega] using this
 ·exact frzC_ok s hm h ra
theorem frzPs_ok (hm : MdOk W md) : ∀ {ps l : List (Nat × A)} {S S' : Store} {I F : Nat → Prop} {pv : List (Nat × Value)}, Sim W S σ I F w.heap → frzPs md ps S = some (l, S') → pv.length = ps.length → (∀ k, k < ps.length → Rel S σ I w.heap (ps.getD k (0, .dead)).2 (pv.getD k (0, undef)).2) →
  ∃ I' F', Sim W S' σ I' F' w.heap ∧ Ext W S σ I F w.heap S' σ I' F' w.heap ∧ l.map (·.1) = ps.map (·.1) ∧ ∀ k, k < ps.length → Rel S' σ I' w.heap (l.getD k (0, .dead)).2 (pv.getD k (0, undef)).2
 | [], l, S, S', I, F, pv, s, h, hl, hr => by injection h with h; injection h with e1 e2; subst e1 e2; exact ⟨I, F, s, .refl, rfl, fun j hj => by simp at hj⟩
 | (i, a) :: ps, l, S, S', I, F, [], s, h, hl, hr => by simp at hl
 | (i, a) :: ps, l, S, S', I, F, (i', x) :: pv, s, h, hl, hr => by
  simp only [frzPs] at h
  split at h
  ·rename_i a' S₁ h1
   split at h
   ·rename_i l' S₂ h2
    injection h with h; injection h with e1 e2; subst e1 e2
    obtain ⟨I₁, F₁, s₁, E₁, r₁⟩ := frzV_ok s hm h1 (hr 0 (by simp))
    obtain ⟨I₂, F₂, s₂, E₂, l₂, r₂⟩ := frzPs_ok hm s₁ h2 (by simpa using hl) (fun j hj => E₁.rel s.sub (hr (j + 1) (by simp; omega)))
    refine ⟨I₂, F₂, s₂, E₁.trans E₂, by simp [l₂], fun j hj => ?_⟩
    cases j with
    | zero => exact E₂.rel s₁.sub r₁
    | succ j => exact r₂ j (by simp at hj; omega)
   ·cases h
  ·cases h
end
end Go.Proofs.YtdpaijnbikclgaaDoorE
