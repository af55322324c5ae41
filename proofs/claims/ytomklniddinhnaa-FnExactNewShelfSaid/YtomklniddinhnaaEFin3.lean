/- Part of the proof: an evaluator (YtomklniddinhnaaEFin). -/
import Derived.Test.YtomklniddinhnaaEEvOp
set_option linter.unusedVariables false
set_option linter.unusedSectionVars false
set_option linter.unusedSimpArgs false
namespace Go.Proofs.YtomklniddinhnaaE
open Go
def dpC1 (S : Store) : A → Option (A × List Nat)
 | .sl id lo hi ver => match S[id]? with
  | some o => if o.rows.length = ver ∧ flatRowsB o.rows = true then some (.ro o.n ((o.rows.take hi).drop lo), if o.st = 0 then [id] else []) else none
  | none => none
 | a => some (a, [])
def dpL1 (S : Store) : List A → Option (List A × List Nat)
 | [] => some ([], [])
 | a :: l => match dpC1 S a with
  | some (a', d) => match dpL1 S l with
   | some (l', d') => some (a' :: l', d ++ d')
   | none => none
  | none => none
def dpR (S : Store) : List (List A) → Option (List (List A) × List Nat)
 | [] => some ([], [])
 | r :: l => match dpL1 S r with
  | some (r', d) => match dpR S l with
   | some (l', d') => some (r' :: l', d ++ d')
   | none => none
  | none => none
def dpC (S : Store) : A → Option (A × List Nat)
 | .sl id lo hi ver => match S[id]? with
  | some o => if o.rows.length = ver ∧ flatRowsB o.rows = true then some (.ro o.n ((o.rows.take hi).drop lo), if o.st = 0 then [id] else [])
   else match dpR S o.rows with
    | some (rs, d) => if o.rows.length = ver ∧ flatRowsB rs = true then some (.ro o.n ((rs.take hi).drop lo), (if o.st = 0 then [id] else []) ++ d) else none
    | none => none
  | none => none
 | a => some (a, [])
def dpL (S : Store) : List A → Option (List A × List Nat)
 | [] => some ([], [])
 | a :: l => match dpC S a with
  | some (a', d) => match dpL S l with
   | some (l', d') => some (a' :: l', d ++ d')
   | none => none
  | none => none
def dpV (S : Store) : A → Option (A × List Nat)
 | .ag cs => match dpL S cs with | some (cs, d) => some (.ag cs, d) | none => none
 | a => dpC S a
def dpArgs (S : Store) : List Bool → List A → Option (List A × List Nat)
 | _, [] => some ([], [])
 | ms, a :: l => match (if ms.headD false then some (a, []) else dpV S a) with
  | some (a', d) => match dpArgs S ms.tail l with
   | some (l', d') => some (a' :: l', d ++ d')
   | none => none
  | none => none
def idsC : A → List Nat
 | .sl id .. => [id]
 | .pt id .. => [id]
 | _ => []
def idsV : A → List Nat
 | .ag cs => cs.flatMap idsC
 | .fn _ caps => caps.flatMap idsC
 | a => idsC a
section
variable {P : Program} {T : Nat → Option TI} {W : Fm} {S : Store} {σ : Place} {I F : Nat → Prop} {w : World} {md : Md} {h : Array Obj}
theorem Rel.mono {I' : Nat → Prop} (hi : ∀ b, I b → I' b) {a : A} {x : Value} (r : Rel S σ I h a x) : Rel S σ I' h a x := by
 induction r with
 | v x => exact .v x
 | dead x => exact .dead x
 | ag cs xs hl hc ih => exact .ag cs xs hl ih
 | ro0 n a c => exact .ro0 n a c
 | ro n rows ad c cs ty fr hs hI hb hn hsz hcap hfl hc ih => exact .ro n rows ad c cs ty fr hs (hi _ hI) hb hn hsz hcap hfl ih
 | rp l ad cs ty fr hs hI hb hsz hfl hc ih => exact .rp l ad cs ty fr hs (hi _ hI) hb hsz hfl ih
 | sl id lo hi ver a c o ho h1 h2 h3 hf => exact .sl id lo hi ver a c o ho h1 h2 h3 hf
 | pt id row off ver ad o ho h2 h3 hf => exact .pt id row off ver ad o ho h2 h3 hf
 | fn f caps vs hl hc ih => exact .fn f caps vs hl ih
 | tu l vs hl hc ih => exact .tu l vs hl ih
def DB (σ : Place) (D : List Nat) (b : Nat) : Prop := ∃ id, id ∈ D ∧ ∃ ad, σ id = some ad ∧ ad.block = b
theorem dpC1_ok (s : Sim W S σ I F w.heap) {a r : A} {d D : List Nat} {x : Value} (h : dpC1 S a = some (r, d)) (ra : Rel S σ I w.heap a x) (hd : ∀ i ∈ d, i ∈ D) : Rel S σ (fun b => I b ∨ DB σ D b) w.heap r x := by
 unfold dpC1 at h
 split at h
 ·rename_i id lo hi ver
  split at h
  ·rename_i o ho
   split at h
   ·rename_i hv
    injection h with h; injection h with e1 e2; subst e1
    refine ro_of_obj s ho hv.1 ra (flatRowsB_ok hv.2) (fun ad ha => ?_) (fun _ _ => rfl) (fun a x _ h => h.mono fun b hb => .inl hb)
    by_cases hst : o.st = 0
    ·rw [if_pos hst] at e2; subst e2
     exact .inr ⟨id, hd id (by simp), ad, ha, rfl⟩
    ·exact .inl (((s.ob id o ho).there ad ha).2.2.1 hst)
   ·cases h
  ·cases h
 ·injection h with h; injection h with e1 e2; subst e1
  exact ra.mono fun b hb => .inl hb
theorem dpC1_ids {a r : A} {d : List Nat} (h : dpC1 S a = some (r, d)) : ∀ i ∈ d, ∃ o, S[i]? = some o := by
 unfold dpC1 at h
 split at h
 ·split at h
  ·rename_i o ho
   split at h
   ·injection h with h; injection h with e1 e2; subst e2
    intro i hi; split at hi
    ·simp at hi; subst hi; exact ⟨o, ho⟩
    ·simp at hi
   ·cases h
  ·cases h
 ·injection h with h; injection h with e1 e2; subst e2; intro i hi; simp at hi
theorem dpL1_ids : ∀ {cs l : List A} {d : List Nat}, dpL1 S cs = some (l, d) → ∀ i ∈ d, ∃ o, S[i]? = some o
 | [], l, d, h => by injection h with h; injection h with e1 e2; subst e2; intro i hi; simp at hi
 | a :: cs, l, d, h => by
  simp only [dpL1] at h
  split at h
  ·rename_i a' d1 h1
   split at h
   ·rename_i l' d2 h2
    injection h with h; injection h with e1 e2; subst e2
    intro i hi
    rcases List.mem_append.1 hi with hi | hi
    ·exact dpC1_ids h1 i hi
    ·exact dpL1_ids h2 i hi
   ·cases h
  ·cases h
theorem ro_of_obj2 (s : Sim W S σ I F w.heap) {id lo hi ver : Nat} {o : Ob} (ho : S[id]? = some o) (hv : o.rows.length = ver) {x : Value} (ra : Rel S σ I w.heap (.sl id lo hi ver) x) {rs : List (List A)} (hfl : flatRows rs) (hrl : rs.length = o.rows.length) (hrr : ∀ i, i < o.rows.length → (rs.getD i []).length = (o.rows.getD i []).length)
  {I' : Nat → Prop} (hI : ∀ ad, σ id = some ad → I' ad.block) (tr : ∀ i j x, i < o.rows.length → j < o.n → Rel S σ I w.heap ((o.rows.getD i []).getD j .dead) x → Rel S σ I' w.heap ((rs.getD i []).getD j .dead) x) : Rel S σ I' w.heap (.ro o.n ((rs.take hi).drop lo)) x := by
 cases ra with
 | sl _ _ _ _ a c o₁ ho₁ h1 h2 h3 hf =>
  rw [ho] at ho₁; injection ho₁ with ho₁; subst ho₁
  have hff := hf hv.symm
  clear hf
  have hl : ((rs.take hi).drop lo).length = hi - lo := by simp; omega
  have hg : ∀ i, i < hi - lo → ((rs.take hi).drop lo).getD i [] = rs.getD (lo + i) [] := fun i hi' => by
   simp only [List.getD_eq_getElem?_getD, List.getElem?_drop, List.getElem?_take]
   rw [if_pos (by omega)]
  have emp : hi - lo = 0 → Rel S σ I' w.heap (.ro o.n ((rs.take hi).drop lo)) (.slice a (hi - lo) c) := fun hz => by
   have e5 : (rs.take hi).drop lo = [] := List.length_eq_zero_iff.1 (by omega)
   rw [e5, hz]; exact .ro0 _ _ _
  rcases hff with ⟨q1, q2, q3⟩ | ⟨ad, b, ty, fr, q1, q2, q3, q4, q5, q6⟩
  ·have z0 := (s.ob id o ho).none_ q1; have z1 : o.rows.length = 0 := (by rw [z0]; rfl)
   exact emp (by omega)
  ·rcases Nat.eq_zero_or_pos (hi - lo) with hz | hz
   ·exact emp hz
   ·have := q3 (by omega); subst this
    obtain ⟨k1, k2, k3, b', ty', fr', k4, k5, k6, k7⟩ := (s.ob id o ho).there ad q1
    rw [q4] at k4; injection k4 with k4; injection k4 with f1 f2 f3; subst f1 f2 f3
    rw [← hl]
    have m1 : hi * o.n ≤ o.rows.length * o.n := Nat.mul_le_mul_right _ (by omega)
    have m2 : hi * o.n = lo * o.n + (hi - lo) * o.n := by rw [← Nat.add_mul]; congr 1; omega
    refine .ro o.n _ _ c b ty fr rfl (hI ad q1) q4 (fun i hi' => ?_) (by rw [hl]; simp only; omega) (by omega) (flatRows_cut hfl hi lo) (fun i j hi' hj => ?_)
    ·rw [hl] at hi'; rw [hg i hi', hrr _ (by omega)]; exact (s.ob id o ho).len _ (by omega)
    ·rw [hl] at hi'; rw [hg i hi']
     have := k7 (lo + i) j (by omega) hj
     rw [Nat.add_mul] at this
     have := tr (lo + i) j _ (by omega) hj this
     simpa only [Nat.add_assoc] using this
theorem dpL1_ok2 (s : Sim W S σ I F w.heap) {D : List Nat} : ∀ {cs l : List A} {d : List Nat}, dpL1 S cs = some (l, d) → (∀ i ∈ d, i ∈ D) →
  l.length = cs.length ∧ ∀ j x, j < cs.length → Rel S σ I w.heap (cs.getD j .dead) x → Rel S σ (fun b => I b ∨ DB σ D b) w.heap (l.getD j .dead) x
 | [], l, d, h, hd => by injection h with h; injection h with e1 e2; subst e1; exact ⟨rfl, fun j x hj => by simp at hj⟩
 | a :: cs, l, d, h, hd => by
  simp only [dpL1] at h
  split at h
  ·rename_i a' d1 h1
   split at h
   ·rename_i l' d2 h2
    injection h with h; injection h with e1 e2; subst e1 e2
    obtain ⟨l2, r2⟩ := dpL1_ok2 s h2 (fun i hi => hd i (by simp [hi]))
    refine ⟨by simp [l2], fun j x hj hr => ?_⟩
    cases j with
    | zero => exact dpC1_ok s h1 hr (fun i hi => hd i (by simp [hi]))
    | succ j => have := r2 j x (by simp at hj; omega) (by simpa [List.getD_eq_getElem?_getD] using hr); simpa [List.getD_eq_getElem?_getD] using this
   ·cases h
  ·cases h
theorem dpR_ok (s : Sim W S σ I F w.heap) {D : List Nat} : ∀ {cs l : List (List A)} {d : List Nat}, dpR S cs = some (l, d) → (∀ i ∈ d, i ∈ D) →
  l.length = cs.length ∧ (∀ i, i < cs.length → (l.getD i []).length = (cs.getD i []).length) ∧ ∀ i j x, i < cs.length → j < (cs.getD i []).length → Rel S σ I w.heap ((cs.getD i []).getD j .dead) x → Rel S σ (fun b => I b ∨ DB σ D b) w.heap ((l.getD i []).getD j .dead) x
 | [], l, d, h, hd => by injection h with h; injection h with e1 e2; subst e1; exact ⟨rfl, fun j hj => by simp at hj, fun i j x hj => by simp at hj⟩
 | r :: cs, l, d, h, hd => by
  simp only [dpR] at h
  split at h
  ·rename_i a' d1 h1
   split at h
   ·rename_i l' d2 h2
    injection h with h; injection h with e1 e2; subst e1 e2
    obtain ⟨l1, r1⟩ := dpL1_ok2 s h1 (fun i hi => hd i (by simp [hi]))
    obtain ⟨l2, m2, r2⟩ := dpR_ok s h2 (fun i hi => hd i (by simp [hi]))
    refine ⟨by simp [l2], fun i hi => ?_, fun i j x hi hj hr => ?_⟩
    ·cases i with
     | zero => exact l1
     | succ i => have := m2 i (by simp at hi; omega); simpa [List.getD_eq_getElem?_getD] using this
    ·cases i with
     | zero => exact r1 j x hj hr
     | succ i => have := r2 i j x (by simp at hi; omega) (by simpa [List.getD_eq_getElem?_getD] using hj) (by simpa [List.getD_eq_getElem?_getD] using hr); simpa [List.getD_eq_getElem?_getD] using this
   ·cases h
  ·cases h
theorem dpR_ids : ∀ {cs l : List (List A)} {d : List Nat}, dpR S cs = some (l, d) → ∀ i ∈ d, ∃ o, S[i]? = some o
 | [], l, d, h => by injection h with h; injection h with e1 e2; subst e2; intro i hi; simp at hi
 | a :: cs, l, d, h => by
  simp only [dpR] at h
  split at h
  ·rename_i a' d1 h1
   split at h
   ·rename_i l' d2 h2
    injection h with h; injection h with e1 e2; subst e2
    intro i hi
    rcases List.mem_append.1 hi with hi | hi
    ·exact dpL1_ids h1 i hi
    ·exact dpR_ids h2 i hi
   ·cases h
  ·cases h
theorem dpC_ok (s : Sim W S σ I F w.heap) {a r : A} {d D : List Nat} {x : Value} (h : dpC S a = some (r, d)) (ra : Rel S σ I w.heap a x) (hd : ∀ i ∈ d, i ∈ D) : Rel S σ (fun b => I b ∨ DB σ D b) w.heap r x := by
 unfold dpC at h
 split at h
 ·rename_i id lo hi ver
  split at h
  ·rename_i o ho
   have hI : ∀ d0, (if o.st = 0 then [id] else []) ++ d0 = d → ∀ ad, σ id = some ad → I ad.block ∨ DB σ D ad.block := fun d0 e2 ad ha => by
    by_cases hst : o.st = 0
    ·rw [if_pos hst] at e2; subst e2
     exact .inr ⟨id, hd id (by simp), ad, ha, rfl⟩
    ·exact .inl (((s.ob id o ho).there ad ha).2.2.1 hst)
   split at h
   ·rename_i hv
    injection h with h; injection h with e1 e2; subst e1
    exact ro_of_obj s ho hv.1 ra (flatRowsB_ok hv.2) (hI [] (by rw [List.append_nil]; exact e2)) (fun _ _ => rfl) (fun a x _ h => h.mono fun b hb => .inl hb)
   ·split at h
    ·rename_i rs d0 hr
     split at h
     ·rename_i hv
      injection h with h; injection h with e1 e2; subst e1
      obtain ⟨q1, q2, q3⟩ := dpR_ok s (D := D) hr (fun i hi => hd i (by rw [← e2]; exact List.mem_append.2 (.inr hi)))
      exact ro_of_obj2 s ho hv.1 ra (flatRowsB_ok hv.2) q1 q2 (hI d0 e2) (fun i j x hi hj hx => q3 i j x hi (by rw [(s.ob id o ho).len i hi]; exact hj) hx)
     ·cases h
    ·cases h
  ·cases h
 ·injection h with h; injection h with e1 e2; subst e1
  exact ra.mono fun b hb => .inl hb
theorem dpC_ids {a r : A} {d : List Nat} (h : dpC S a = some (r, d)) : ∀ i ∈ d, ∃ o, S[i]? = some o := by
 unfold dpC at h
 split at h
 ·rename_i id lo hi ver
  split at h
  ·rename_i o ho
   have h0 : ∀ i ∈ (if o.st = 0 then [id] else []), ∃ o, S[i]? = some o := fun i hi => by
    split at hi
    ·simp at hi; subst hi; exact ⟨o, ho⟩
    ·simp at hi
   split at h
   ·injection h with h; injection h with e1 e2; subst e2
    exact h0
   ·split at h
    ·rename_i rs d0 hr
     split at h
     ·injection h with h; injection h with e1 e2; subst e2
      intro i hi
      rcases List.mem_append.1 hi with hi | hi
      ·exact h0 i hi
      ·exact dpR_ids hr i hi
     ·cases h
    ·cases h
  ·cases h
 ·injection h with h; injection h with e1 e2; subst e2; intro i hi; simp at hi
theorem dpL_ok (s : Sim W S σ I F w.heap) {D : List Nat} : ∀ {cs l : List A} {d : List Nat} {xs : List Value}, dpL S cs = some (l, d) → (∀ i ∈ d, i ∈ D) → (∀ j, j < cs.length → Rel S σ I w.heap (cs.getD j .dead) (xs.getD j undef)) →
  l.length = cs.length ∧ ∀ j, j < cs.length → Rel S σ (fun b => I b ∨ DB σ D b) w.heap (l.getD j .dead) (xs.getD j undef)
 | [], l, d, xs, h, hd, hr => by injection h with h; injection h with e1 e2; subst e1; exact ⟨rfl, fun j hj => by simp at hj⟩
 | a :: cs, l, d, xs, h, hd, hr => by
  simp only [dpL] at h
  split at h
  ·rename_i a' d1 h1
   split at h
   ·rename_i l' d2 h2
    injection h with h; injection h with e1 e2; subst e1 e2
    have r1 := dpC_ok s h1 (hr 0 (by simp)) (fun i hi => hd i (by simp [hi]))
    obtain ⟨l2, r2⟩ := dpL_ok s (xs := xs.tail) h2 (fun i hi => hd i (by simp [hi])) (fun j hj => by have := hr (j + 1) (by simp; omega); simpa [List.getD_eq_getElem?_getD] using this)
    refine ⟨by simp [l2], fun j hj => ?_⟩
    cases j with
    | zero => exact r1
    | succ j => have := r2 j (by simp at hj; omega); simpa [List.getD_eq_getElem?_getD] using this
   ·cases h
  ·cases h
theorem dpL_ids : ∀ {cs l : List A} {d : List Nat}, dpL S cs = some (l, d) → ∀ i ∈ d, ∃ o, S[i]? = some o
 | [], l, d, h => by injection h with h; injection h with e1 e2; subst e2; intro i hi; simp at hi
 | a :: cs, l, d, h => by
  simp only [dpL] at h
  split at h
  ·rename_i a' d1 h1
   split at h
   ·rename_i l' d2 h2
    injection h with h; injection h with e1 e2; subst e2
    intro i hi
    rcases List.mem_append.1 hi with hi | hi
    ·exact dpC_ids h1 i hi
    ·exact dpL_ids h2 i hi
   ·cases h
  ·cases h
theorem dpV_ok (s : Sim W S σ I F w.heap) {a r : A} {d D : List Nat} {x : Value} (h : dpV S a = some (r, d)) (ra : Rel S σ I w.heap a x) (hd : ∀ i ∈ d, i ∈ D) : Rel S σ (fun b => I b ∨ DB σ D b) w.heap r x := by
 unfold dpV at h
 split at h
 ·split at h
  ·rename_i l d' h1
   injection h with h; injection h with e1 e2; subst e1 e2
   cases ra with
   | ag cs xs hl hc =>
    obtain ⟨l', r'⟩ := dpL_ok s (xs := xs.toList) h1 hd (fun j hj => by have := hc j hj; simpa [show j < xs.size by omega] using this)
    refine .ag l xs (by omega) fun j hj => ?_
    have := r' j (by omega)
    simpa [show j < xs.size by omega] using this
  ·cases h
 ·exact dpC_ok s h ra hd
theorem dpV_ids {a r : A} {d : List Nat} (h : dpV S a = some (r, d)) : ∀ i ∈ d, ∃ o, S[i]? = some o := by
 unfold dpV at h
 split at h
 ·split at h
  ·rename_i l d' h1
   injection h with h; injection h with e1 e2; subst e2
   exact dpL_ids h1
  ·cases h
 ·exact dpC_ids h
theorem dpArgs_ok (s : Sim W S σ I F w.heap) {D : List Nat} : ∀ {ms : List Bool} {as l : List A} {d : List Nat} {xs : List Value}, dpArgs S ms as = some (l, d) → (∀ i ∈ d, i ∈ D) → (∀ j, j < as.length → Rel S σ I w.heap (as.getD j .dead) (xs.getD j undef)) →
  l.length = as.length ∧ ∀ j, j < as.length → Rel S σ (fun b => I b ∨ DB σ D b) w.heap (l.getD j .dead) (xs.getD j undef)
 | ms, [], l, d, xs, h, hd, hr => by cases ms <;> (injection h with h; injection h with e1 e2; subst e1; exact ⟨rfl, fun j hj => by simp at hj⟩)
 | ms, a :: as, l, d, xs, h, hd, hr => by
  simp only [dpArgs] at h
  split at h
  ·rename_i a' d1 h1
   split at h
   ·rename_i l' d2 h2
    injection h with h; injection h with e1 e2; subst e1 e2
    have r1 : Rel S σ (fun b => I b ∨ DB σ D b) w.heap a' (xs.getD 0 undef) := by
     split at h1
     ·injection h1 with h1; injection h1 with e1 e2; subst e1; exact (hr 0 (by simp)).mono fun b hb => .inl hb
     ·exact dpV_ok s h1 (hr 0 (by simp)) (fun i hi => hd i (by simp [hi]))
    obtain ⟨l2, r2⟩ := dpArgs_ok s (xs := xs.tail) h2 (fun i hi => hd i (by simp [hi])) (fun j hj => by have := hr (j + 1) (by simp; omega); simpa [List.getD_eq_getElem?_getD] using this)
    refine ⟨by simp [l2], fun j hj => ?_⟩
    cases j with
    | zero => exact r1
    | succ j => have := r2 j (by simp at hj; omega); simpa [List.getD_eq_getElem?_getD] using this
   ·cases h
  ·cases h
theorem dpArgs_ids : ∀ {ms : List Bool} {as l : List A} {d : List Nat}, dpArgs S ms as = some (l, d) → ∀ i ∈ d, ∃ o, S[i]? = some o
 | ms, [], l, d, h => by cases ms <;> (injection h with h; injection h with e1 e2; subst e2; intro i hi; simp at hi)
 | ms, a :: as, l, d, h => by
  simp only [dpArgs] at h
  split at h
  ·rename_i a' d1 h1
   split at h
   ·rename_i l' d2 h2
    injection h with h; injection h with e1 e2; subst e2
    intro i hi
    rcases List.mem_append.1 hi with hi | hi
    ·split at h1
     ·injection h1 with h1; injection h1 with e1 e2; subst e2; simp at hi
     ·exact dpV_ids h1 i hi
    ·exact dpArgs_ids h2 i hi
   ·cases h
  ·cases h
def calleeW (S : Store) (mu : List Nat) (md : Md) (N : Nat) : Fm := ⟨fun id => S.length ≤ id ∨ (id ∈ mu ∧ md.wr id = true), S.length, N⟩
def calleeF (S : Store) (σ : Place) (F : Nat → Prop) (Wc : Nat → Prop) (b : Nat) : Prop := F b ∨ ∃ id o ad, S[id]? = some o ∧ ¬ Wc id ∧ σ id = some ad ∧ ad.block = b
theorem callee_sim (s : Sim W S σ I F h) (hm : MdOk W md) {mu D : List Nat} (hD : ∀ i ∈ D, ∃ o, S[i]? = some o) (hdis : ∀ i ∈ D, i ∉ mu) :
  Sim (calleeW S mu md h.size) S σ (fun b => I b ∨ DB σ D b) (calleeF S σ F (calleeW S mu md h.size).w) h := by
 have lt : ∀ id o, S[id]? = some o → id < S.length := fun id o ho => (List.getElem?_eq_some_iff.1 ho).1
 have blt : ∀ id o ad, S[id]? = some o → σ id = some ad → ad.block < h.size := fun id o ad ho ha => by
  obtain ⟨_, _, _, cs, ty, fr, k4, _⟩ := (s.ob id o ho).there ad ha
  exact (Array.getElem?_eq_some_iff.1 k4).1
 refine ⟨fun id o ho => ?_, s.inj, fun b hb => ?_, fun b hb => ?_, fun id o ad hm' ho ha => ?_, Nat.le_refl _⟩
 ·have q := s.ob id o ho
  refine ⟨q.none_, q.len, fun ad ha => ?_⟩
  obtain ⟨k1, k2, k3, cs, ty, fr, k4, k5, k6, k7⟩ := q.there ad ha
  refine ⟨k1, fun hw hst hF => ?_, fun hst => .inl (k3 hst), cs, ty, fr, k4, k5, k6, fun i j hi hj => (k7 i j hi hj).mono fun b hb => .inl hb⟩
  rcases hF with hF | ⟨id', o', ad', ho', hn, ha', e⟩
  ·rcases hw with hw | ⟨_, hw⟩
   ·have := lt id o ho; have hw' : S.length ≤ id := hw; omega
   ·exact k2 (hm.wr _ hw) hst hF
  ·by_cases ei : id = id'
   ·subst ei; exact hn hw
   ·exact s.inj id id' o o' ad ad' ho ho' ha ha' ei e.symm
 ·rcases hb with hb | ⟨id, o, ad, ho, _, ha, e⟩
  ·exact s.imm b hb
  ·exact e ▸ blt id o ad ho ha
 ·rcases hb with hb | ⟨id, hid, ad, ha, e⟩
  ·exact .inl (s.sub b hb)
  ·obtain ⟨o, ho⟩ := hD id hid
   refine .inr ⟨id, o, ad, ho, fun hw => ?_, ha, e⟩
   rcases hw with hw | ⟨hw, _⟩
   ·have := lt id o ho; have hw' : S.length ≤ id := hw; omega
   ·exact hdis id hid hw
 ·have := lt id o ho; simp only [calleeW] at hm'; omega
theorem callee_md (mu : List Nat) (N : Nat) (fz : Bool) : MdOk (calleeW S mu md N) ⟨fun id => decide (S.length ≤ id) || (mu.contains id && md.wr id), S.length, fz⟩ := by
 refine ⟨fun id h => ?_, rfl⟩
 simp only [Bool.or_eq_true, decide_eq_true_eq, Bool.and_eq_true, List.contains_iff_mem] at h
 exact h
theorem Rel.flat {S' : Store} {σ' : Place} {I' : Nat → Prop} (hi : ∀ b, I b → I' b) {a : A} {x : Value} (r : Rel S σ I h a x) : flatC a = true → Rel S' σ' I' h a x := by
 induction r with
 | v x => exact fun _ => .v x
 | dead x => exact fun _ => .dead x
 | ro0 n a c => exact fun _ => .ro0 n a c
 | ro n rows ad c cs ty fr hs hI hb hn hsz hcap hfl hc ih => exact fun _ => .ro n rows ad c cs ty fr hs (hi _ hI) hb hn hsz hcap hfl fun i j h1 h2 => ih i j h1 h2 (hfl i j)
 | rp l ad cs ty fr hs hI hb hsz hfl hc ih => exact fun _ => .rp l ad cs ty fr hs (hi _ hI) hb hsz hfl fun j hj => ih j hj (hfl j)
 | _ => intro hf; cases hf
def okC (m : Nat) : A → Bool
 | .v _ | .ro .. | .rp .. | .dead => true
 | .sl id .. => decide (id < m)
 | .pt id .. => decide (id < m)
 | .fn _ caps => caps.isEmpty
 | _ => false
def noRoC : A → Bool
 | .v _ | .dead | .sl .. | .pt .. => true
 | .fn _ caps => caps.isEmpty
 | .ro _ rows => rows.isEmpty
 | _ => false
theorem Rel.change {S₁ S₂ : Store} {σ₁ σ₂ : Place} {I₁ I₂ : Nat → Prop} {m : Nat} {a : A} {x : Value} (hok : okC m a = true) (hro : noRoC a = true ∨ ∀ b, I₁ b → I₂ b)
  (hS : ∀ id o, id < m → S₁[id]? = some o → ∃ o', S₂[id]? = some o' ∧ o'.n = o.n ∧ o'.rows = o.rows ∧ σ₂ id = σ₁ id) (r : Rel S₁ σ₁ I₁ h a x) : Rel S₂ σ₂ I₂ h a x := by
 have r0 := r
 cases r with
 | v x => exact .v x
 | dead x => exact .dead x
 | ag cs xs hl hc => cases hok
 | tu l vs hl hc => cases hok
 | ro0 n a c => exact .ro0 n a c
 | ro n rows ad c cs ty fr hs hI hb hn hsz hcap hfl hc =>
  rcases hro with hro | hro
  ·have : rows = [] := by simpa [noRoC] using hro
   subst this; exact .ro0 _ _ _
  ·exact r0.flat hro rfl
 | rp l ad cs ty fr hs hI hb hsz hfl hc =>
  rcases hro with hro | hro
  ·cases hro
  ·exact r0.flat hro rfl
 | sl id lo hi ver a c o ho h1 h2 h3 hf =>
  obtain ⟨o', k1, k2, k3, k4⟩ := hS id o (by simpa [okC] using hok) ho
  exact .sl id lo hi ver a c o' k1 h1 h2 (by rw [k3]; exact h3) (by rw [k2, k3, k4]; exact hf)
 | pt id row off ver ad o ho h2 h3 hf =>
  obtain ⟨o', k1, k2, k3, k4⟩ := hS id o (by simpa [okC] using hok) ho
  exact .pt id row off ver ad o' k1 h2 (by rw [k3]; exact h3) (by rw [k2, k3, k4]; exact hf)
 | fn f caps vs hl hc =>
  have : caps = [] := by simpa [okC] using hok
  subst this
  exact .fn f [] vs hl fun i hi => by simp at hi
abbrev News := List (Ob × Nat × Nat)
def rlC (S₁ : Store) (m : Nat) : A → News → Option (A × News)
 | .sl id lo hi ver, acc => if id < m then some (.sl id lo hi ver, acc) else match S₁[id]? with
  | some o => if o.rows.length = ver ∧ (acc.any fun p => p.2.1 == id) = false ∧ flatRowsB ((o.rows.take hi).drop lo) = true then
    some (.sl (m + acc.length) 0 (hi - lo) (hi - lo), acc ++ [(⟨o.n, (o.rows.take hi).drop lo, o.st, false⟩, id, lo)]) else none
  | none => none
 | .pt id row off ver, acc => if id < m then some (.pt id row off ver, acc) else none
 | .fn f caps, acc => if caps.isEmpty then some (.fn f caps, acc) else none
 | .v x, acc => some (.v x, acc)
 | .ro n rows, acc => some (.ro n rows, acc)
 | .rp l, acc => some (.rp l, acc)
 | .dead, acc => some (.dead, acc)
 | _, _ => none
def rlL (S₁ : Store) (m : Nat) : List A → News → Option (List A × News)
 | [], acc => some ([], acc)
 | a :: l, acc => match rlC S₁ m a acc with
  | some (a', acc₁) => match rlL S₁ m l acc₁ with
   | some (l', acc₂) => some (a' :: l', acc₂)
   | none => none
  | none => none
def rlV (S₁ : Store) (m : Nat) : A → News → Option (A × News)
 | .ag cs, acc => match rlL S₁ m cs acc with | some (cs, acc) => some (.ag cs, acc) | none => none
 | a, acc => rlC S₁ m a acc
def rlVs (S₁ : Store) (m : Nat) : List A → News → Option (List A × News)
 | [], acc => some ([], acc)
 | a :: l, acc => match rlV S₁ m a acc with
  | some (a', acc₁) => match rlVs S₁ m l acc₁ with
   | some (l', acc₂) => some (a' :: l', acc₂)
   | none => none
  | none => none
def newPlace (σ₁ : Place) (m : Nat) (news : News) (S₁ : Store) : Place := fun id => if id < m then σ₁ id else match news[id - m]? with
 | some (o, src, lo) => (σ₁ src).map fun ad => ⟨ad.block, ad.off + lo * o.n, none⟩
 | none => none
structure NewsOk (S₁ : Store) (m : Nat) (news : News) : Prop where
 src : ∀ (k : Nat) (o : Ob) (i lo : Nat), news[k]? = some (o, i, lo) → m ≤ i ∧ flatRows o.rows ∧ ∃ o₁ hi, S₁[i]? = some o₁ ∧ o.n = o₁.n ∧ o.st = o₁.st ∧ lo ≤ hi ∧ hi ≤ o₁.rows.length ∧ o.rows = (o₁.rows.take hi).drop lo
 inj : ∀ (k k' : Nat) (o o' : Ob) (i lo lo' : Nat), news[k]? = some (o, i, lo) → news[k']? = some (o', i, lo') → k = k'
theorem rlC_news {S₁ : Store} {σ₁ : Place} {I₁ : Nat → Prop} {m : Nat} {a r : A} {x : Value} {acc acc' : News} (h1 : rlC S₁ m a acc = some (r, acc')) (ra : Rel S₁ σ₁ I₁ h a x) (ok : NewsOk S₁ m acc) : NewsOk S₁ m acc' ∧ ∃ l, acc' = acc ++ l := by
 unfold rlC at h1
 split at h1
 ·rename_i id lo hi ver
  split at h1
  ·injection h1 with h1; injection h1 with e1 e2; subst e2; exact ⟨ok, [], by simp⟩
  ·rename_i hm
   split at h1
   ·rename_i o ho
    split at h1
    ·rename_i hh
     injection h1 with h1; injection h1 with e1 e2; subst e2
     refine ⟨⟨fun k o' i lo' hk => ?_, fun k k' o1 o2 i l1 l2 hk hk' => ?_⟩, _, rfl⟩
     ·rw [getElem?_snoc] at hk
      split at hk
      ·injection hk with hk; injection hk with e1 e2; injection e2 with e2 e3; subst e1 e2 e3
       cases ra with
       | sl _ _ _ _ a c o₁ ho₁ q1 q2 q3 hf =>
        exact ⟨by omega, flatRowsB_ok hh.2.2, o, hi, ho, rfl, rfl, q1, by omega, rfl⟩
      ·exact ok.src k o' i lo' hk
     ·have no : ∀ k o l, acc[k]? = some (o, id, l) → False := fun k o l hk => by
       have h2 := hh.2.1
       have : (acc.any fun p => p.2.1 == id) = true := List.any_eq_true.2 ⟨(o, id, l), List.mem_of_getElem? hk, by simp⟩
       rw [this] at h2; cases h2
      rw [getElem?_snoc] at hk hk'
      split at hk
      ·injection hk with hk; injection hk with e1 e2; injection e2 with e2 e3; subst e2
       split at hk'
       ·omega
       ·exact (no _ _ _ hk').elim
      ·split at hk'
       ·injection hk' with hk'; injection hk' with e1 e2; injection e2 with e2 e3; subst e2
        exact (no _ _ _ hk).elim
       ·exact ok.inj _ _ _ _ _ _ _ hk hk'
    ·cases h1
   ·cases h1
 ·split at h1
  ·injection h1 with h1; injection h1 with e1 e2; subst e2; exact ⟨ok, [], by simp⟩
  ·cases h1
 ·split at h1
  ·injection h1 with h1; injection h1 with e1 e2; subst e2; exact ⟨ok, [], by simp⟩
  ·cases h1
 ·injection h1 with h1; injection h1 with e1 e2; subst e2; exact ⟨ok, [], by simp⟩
 ·injection h1 with h1; injection h1 with e1 e2; subst e2; exact ⟨ok, [], by simp⟩
 ·injection h1 with h1; injection h1 with e1 e2; subst e2; exact ⟨ok, [], by simp⟩
 ·injection h1 with h1; injection h1 with e1 e2; subst e2; exact ⟨ok, [], by simp⟩
 ·cases h1
theorem rlC_rel {S₁ S₂ : Store} {σ₁ : Place} {I₁ I₂ : Nat → Prop} {m : Nat} {a r : A} {x : Value} {acc acc' news : News} (h1 : rlC S₁ m a acc = some (r, acc')) (ra : Rel S₁ σ₁ I₁ h a x) (hl : ∃ l, news = acc' ++ l)
  (hS : ∀ id o, id < m → S₁[id]? = some o → ∃ o', S₂[id]? = some o' ∧ o'.n = o.n ∧ o'.rows = o.rows ∧ newPlace σ₁ m news S₁ id = σ₁ id)
  (hN : ∀ (k : Nat) (o : Ob) (i lo : Nat), news[k]? = some (o, i, lo) → S₂[m + k]? = some o) (hro : noRoC r = true ∨ ∀ b, I₁ b → I₂ b) : Rel S₂ (newPlace σ₁ m news S₁) I₂ h r x := by
 unfold rlC at h1
 split at h1
 ·rename_i id lo hi ver
  split at h1
  ·rename_i hm
   injection h1 with h1; injection h1 with e1 e2; subst e1 e2
   exact ra.change (m := m) (by simp [okC, hm]) hro hS
  ·rename_i hm
   split at h1
   ·rename_i o ho
    split at h1
    ·rename_i hh
     injection h1 with h1; injection h1 with e1 e2; subst e1 e2
     obtain ⟨l, rfl⟩ := hl
     cases ra with
     | sl _ _ _ _ a c o₁ ho₁ q1 q2 q3 hf =>
      rw [ho] at ho₁; injection ho₁ with ho₁; subst ho₁
      have hk : (acc ++ [((⟨o.n, (o.rows.take hi).drop lo, o.st, false⟩ : Ob), id, lo)] ++ l)[acc.length]? = some ((⟨o.n, (o.rows.take hi).drop lo, o.st, false⟩ : Ob), id, lo) := by simp
      have hlen : ((o.rows.take hi).drop lo).length = hi - lo := by simp; omega
      have e0 : hi - lo = hi - lo - 0 := by omega
      rw [e0]
      refine .sl (m + acc.length) 0 (hi - lo) (hi - lo) a c _ (hN _ _ _ _ hk) (by omega) (by omega) (by simp only [hlen]; omega) fun _ => ?_
      have hp : newPlace σ₁ m (acc ++ [((⟨o.n, (o.rows.take hi).drop lo, o.st, false⟩ : Ob), id, lo)] ++ l) S₁ (m + acc.length) = (σ₁ id).map fun ad => ⟨ad.block, ad.off + lo * o.n, none⟩ := by
       simp only [newPlace]; rw [if_neg (by omega), Nat.add_sub_cancel_left, hk]
      have hff := hf hh.1.symm
      clear hf
      rcases hff with ⟨g1, g2, g3⟩ | ⟨ad, cs, ty, fr, g1, g2, g3, g4, g5, g6⟩
      ·exact .inl ⟨by rw [hp, g1]; rfl, g2, rfl⟩
      ·refine .inr ⟨⟨ad.block, ad.off + lo * o.n, none⟩, cs, ty, fr, by rw [hp, g1]; rfl, rfl, fun hc => by rw [g3 hc]; simp, g4, ?_, by omega⟩
       simp only [Nat.zero_add]
       rw [Nat.add_mul] at g5; omega
    ·cases h1
   ·cases h1
 ·rename_i id row off ver
  split at h1
  ·rename_i hm
   injection h1 with h1; injection h1 with e1 e2; subst e1 e2
   exact ra.change (m := m) (by simp [okC, hm]) hro hS
  ·cases h1
 ·split at h1
  ·rename_i hc
   injection h1 with h1; injection h1 with e1 e2; subst e1 e2
   exact ra.change (m := m) (by simpa [okC] using hc) hro hS
  ·cases h1
 ·injection h1 with h1; injection h1 with e1 e2; subst e1 e2; exact ra.change (m := m) rfl hro hS
 ·injection h1 with h1; injection h1 with e1 e2; subst e1 e2; exact ra.change (m := m) rfl hro hS
 ·injection h1 with h1; injection h1 with e1 e2; subst e1 e2; exact ra.change (m := m) rfl hro hS
 ·injection h1 with h1; injection h1 with e1 e2; subst e1 e2; exact ra.change (m := m) rfl hro hS
 ·cases h1
end
end Go.Proofs.YtomklniddinhnaaE
set_option linter.unusedVariables false
set_option linter.unusedSectionVars false
set_option linter.unusedSimpArgs false
namespace Go.Proofs.YtomklniddinhnaaE
open Go
section
variable {P : Program} {T : Nat → Option TI} {W : Fm} {S : Store} {σ : Place} {I F : Nat → Prop} {md : Md} {h h₁ : Array Obj} {S₁ : Store} {σ₁ : Place} {I₁ F₁ : Nat → Prop}
def noRoV : A → Bool
 | .ag cs => cs.all noRoC
 | a => noRoC a
theorem rlC_shape {m : Nat} {a r : A} {acc acc' : News} (h1 : rlC S₁ m a acc = some (r, acc')) : ∀ cs, r ≠ .ag cs := by
 intro cs e; subst e
 unfold rlC at h1
 split at h1
 ·split at h1
  ·simp at h1
  ·split at h1
   ·split at h1 <;> simp at h1
   ·cases h1
 ·split at h1 <;> simp at h1
 ·split at h1 <;> simp at h1
 all_goals simp at h1
theorem rlL_news {m : Nat} : ∀ {l r : List A} {acc acc' : News} {xs : List Value}, rlL S₁ m l acc = some (r, acc') → (∀ j, j < l.length → Rel S₁ σ₁ I₁ h (l.getD j .dead) (xs.getD j undef)) → NewsOk S₁ m acc → NewsOk S₁ m acc' ∧ (∃ l, acc' = acc ++ l) ∧ r.length = l.length
 | [], r, acc, acc', xs, h1, hr, ok => by injection h1 with h1; injection h1 with e1 e2; subst e1 e2; exact ⟨ok, ⟨[], by simp⟩, rfl⟩
 | a :: l, r, acc, acc', xs, h1, hr, ok => by
  simp only [rlL] at h1
  split at h1
  ·rename_i a' acc₁ h2
   split at h1
   ·rename_i l' acc₂ h3
    injection h1 with h1; injection h1 with e1 e2; subst e1 e2
    obtain ⟨k1, l1, rfl⟩ := rlC_news h2 (hr 0 (by simp)) ok
    obtain ⟨k2, ⟨l2, rfl⟩, k3⟩ := rlL_news (xs := xs.tail) h3 (fun j hj => by have := hr (j + 1) (by simp; omega); simpa [List.getD_eq_getElem?_getD] using this) k1
    exact ⟨k2, ⟨l1 ++ l2, by simp⟩, by simp [k3]⟩
   ·cases h1
  ·cases h1
theorem rlV_news {m : Nat} {a r : A} {x : Value} {acc acc' : News} (h1 : rlV S₁ m a acc = some (r, acc')) (ra : Rel S₁ σ₁ I₁ h a x) (ok : NewsOk S₁ m acc) : NewsOk S₁ m acc' ∧ ∃ l, acc' = acc ++ l := by
 unfold rlV at h1
 split at h1
 ·split at h1
  ·rename_i l acc₁ h2
   injection h1 with h1; injection h1 with e1 e2; subst e1 e2
   cases ra with
   | ag cs xs hl hc =>
    obtain ⟨k1, k2, k3⟩ := rlL_news (xs := xs.toList) h2 (fun j hj => by have := hc j hj; simpa [show j < xs.size by omega] using this) ok
    exact ⟨k1, k2⟩
  ·cases h1
 ·exact rlC_news h1 ra ok
theorem rlVs_news {m : Nat} : ∀ {l r : List A} {acc acc' : News} {xs : List Value}, rlVs S₁ m l acc = some (r, acc') → (∀ j, j < l.length → Rel S₁ σ₁ I₁ h (l.getD j .dead) (xs.getD j undef)) → NewsOk S₁ m acc → NewsOk S₁ m acc' ∧ (∃ l, acc' = acc ++ l) ∧ r.length = l.length
 | [], r, acc, acc', xs, h1, hr, ok => by injection h1 with h1; injection h1 with e1 e2; subst e1 e2; exact ⟨ok, ⟨[], by simp⟩, rfl⟩
 | a :: l, r, acc, acc', xs, h1, hr, ok => by
  simp only [rlVs] at h1
  split at h1
  ·rename_i a' acc₁ h2
   split at h1
   ·rename_i l' acc₂ h3
    injection h1 with h1; injection h1 with e1 e2; subst e1 e2
    obtain ⟨k1, l1, rfl⟩ := rlV_news h2 (hr 0 (by simp)) ok
    obtain ⟨k2, ⟨l2, rfl⟩, k3⟩ := rlVs_news (xs := xs.tail) h3 (fun j hj => by have := hr (j + 1) (by simp; omega); simpa [List.getD_eq_getElem?_getD] using this) k1
    exact ⟨k2, ⟨l1 ++ l2, by simp⟩, by simp [k3]⟩
   ·cases h1
  ·cases h1
section
variable {S₂ : Store} {I₂ : Nat → Prop} {m : Nat} {news : News}
theorem rlL_rel (hS : ∀ id o, id < m → S₁[id]? = some o → ∃ o', S₂[id]? = some o' ∧ o'.n = o.n ∧ o'.rows = o.rows ∧ newPlace σ₁ m news S₁ id = σ₁ id)
 (hN : ∀ (k : Nat) (o : Ob) (i lo : Nat), news[k]? = some (o, i, lo) → S₂[m + k]? = some o) : ∀ {l r : List A} {acc acc' : News} {xs : List Value}, rlL S₁ m l acc = some (r, acc') → (∀ j, j < l.length → Rel S₁ σ₁ I₁ h (l.getD j .dead) (xs.getD j undef)) → (∃ l, news = acc' ++ l) → NewsOk S₁ m acc → (r.all noRoC = true ∨ ∀ b, I₁ b → I₂ b) →
  ∀ j, j < l.length → Rel S₂ (newPlace σ₁ m news S₁) I₂ h (r.getD j .dead) (xs.getD j undef)
 | [], r, acc, acc', xs, h1, hr, hl, ok, hro => fun j hj => by simp at hj
 | a :: l, r, acc, acc', xs, h1, hr, hl, ok, hro => by
  simp only [rlL] at h1
  split at h1
  ·rename_i a' acc₁ h2
   split at h1
   ·rename_i l' acc₂ h3
    injection h1 with h1; injection h1 with e1 e2; subst e1 e2
    have tl : ∀ j, j < l.length → Rel S₁ σ₁ I₁ h (l.getD j .dead) (xs.tail.getD j undef) := fun j hj => by have := hr (j + 1) (by simp; omega); simpa [List.getD_eq_getElem?_getD] using this
    obtain ⟨k1, l1, k0⟩ := rlC_news h2 (hr 0 (by simp)) ok
    obtain ⟨k2, ⟨l2, rfl⟩, k3⟩ := rlL_news (xs := xs.tail) h3 tl k1
    obtain ⟨l3, hl⟩ := hl
    have rec_ := rlL_rel hS hN (xs := xs.tail) h3 tl ⟨l3, hl⟩ k1 (hro.imp (fun h => by simp at h ⊢; exact h.2) id)
    intro j hj
    cases j with
    | zero => exact rlC_rel h2 (hr 0 (by simp)) ⟨l2 ++ l3, by rw [hl]; simp⟩ hS hN (hro.imp (fun h => by simp at h; exact h.1) id)
    | succ j =>
     have := rec_ j (by simp at hj; omega)
     simpa [List.getD_eq_getElem?_getD] using this
   ·cases h1
  ·cases h1
theorem rlV_rel (hS : ∀ id o, id < m → S₁[id]? = some o → ∃ o', S₂[id]? = some o' ∧ o'.n = o.n ∧ o'.rows = o.rows ∧ newPlace σ₁ m news S₁ id = σ₁ id)
 (hN : ∀ (k : Nat) (o : Ob) (i lo : Nat), news[k]? = some (o, i, lo) → S₂[m + k]? = some o) {a r : A} {x : Value} {acc acc' : News} (h1 : rlV S₁ m a acc = some (r, acc')) (ra : Rel S₁ σ₁ I₁ h a x) (hl : ∃ l, news = acc' ++ l) (ok : NewsOk S₁ m acc) (hro : noRoV r = true ∨ ∀ b, I₁ b → I₂ b) :
  Rel S₂ (newPlace σ₁ m news S₁) I₂ h r x := by
 unfold rlV at h1
 split at h1
 ·split at h1
  ·rename_i l acc₁ h2
   injection h1 with h1; injection h1 with e1 e2; subst e1 e2
   cases ra with
   | ag cs xs hl' hc =>
    have hr : ∀ j, j < _ → Rel S₁ σ₁ I₁ h (_) (xs.toList.getD j undef) := fun j hj => by have := hc j hj; simpa [show j < xs.size by omega] using this
    obtain ⟨k1, k2, k3⟩ := rlL_news (xs := xs.toList) h2 hr ok
    have := rlL_rel hS hN (xs := xs.toList) h2 hr hl ok hro
    refine .ag l xs (by omega) fun j hj => ?_
    have := this j (by omega)
    simpa [show j < xs.size by omega] using this
  ·cases h1
 ·rename_i hna
  refine rlC_rel h1 ra hl hS hN (hro.imp (fun hh => ?_) id)
  cases r <;> first | exact hh | skip
  exact absurd rfl (rlC_shape h1 _)
theorem rlVs_rel (hS : ∀ id o, id < m → S₁[id]? = some o → ∃ o', S₂[id]? = some o' ∧ o'.n = o.n ∧ o'.rows = o.rows ∧ newPlace σ₁ m news S₁ id = σ₁ id)
 (hN : ∀ (k : Nat) (o : Ob) (i lo : Nat), news[k]? = some (o, i, lo) → S₂[m + k]? = some o) : ∀ {l r : List A} {acc acc' : News} {xs : List Value}, rlVs S₁ m l acc = some (r, acc') → (∀ j, j < l.length → Rel S₁ σ₁ I₁ h (l.getD j .dead) (xs.getD j undef)) → (∃ l, news = acc' ++ l) → NewsOk S₁ m acc → (r.all noRoV = true ∨ ∀ b, I₁ b → I₂ b) →
  ∀ j, j < l.length → Rel S₂ (newPlace σ₁ m news S₁) I₂ h (r.getD j .dead) (xs.getD j undef)
 | [], r, acc, acc', xs, h1, hr, hl, ok, hro => fun j hj => by simp at hj
 | a :: l, r, acc, acc', xs, h1, hr, hl, ok, hro => by
  simp only [rlVs] at h1
  split at h1
  ·rename_i a' acc₁ h2
   split at h1
   ·rename_i l' acc₂ h3
    injection h1 with h1; injection h1 with e1 e2; subst e1 e2
    have tl : ∀ j, j < l.length → Rel S₁ σ₁ I₁ h (l.getD j .dead) (xs.tail.getD j undef) := fun j hj => by have := hr (j + 1) (by simp; omega); simpa [List.getD_eq_getElem?_getD] using this
    obtain ⟨k1, l1, k0⟩ := rlV_news h2 (hr 0 (by simp)) ok
    obtain ⟨k2, ⟨l2, rfl⟩, k3⟩ := rlVs_news (xs := xs.tail) h3 tl k1
    obtain ⟨l3, hl⟩ := hl
    have rec_ := rlVs_rel hS hN (xs := xs.tail) h3 tl ⟨l3, hl⟩ k1 (hro.imp (fun h => by simp at h ⊢; exact h.2) id)
    intro j hj
    cases j with
    | zero => exact rlV_rel hS hN h2 (hr 0 (by simp)) ⟨l2 ++ l3, by rw [hl]; simp⟩ ok (hro.imp (fun h => by simp at h; exact h.1) id)
    | succ j =>
     have := rec_ j (by simp at hj; omega)
     simpa [List.getD_eq_getElem?_getD] using this
   ·cases h1
  ·cases h1
end
theorem fin_core (s : Sim W S σ I F h) {Wc : Fm} {Ic Fc : Nat → Prop} (hWm : Wc.m = S.length) (hWN : Wc.N = h.size) (hWw : ∀ id, Wc.w id → id < S.length → W.w id)
  (s₁ : Sim Wc S₁ σ₁ I₁ F₁ h₁) (E₁ : Ext Wc S σ Ic Fc h S₁ σ₁ I₁ F₁ h₁) (hFc : ∀ b, F b → Fc b) (hFo : ∀ id o ad, S[id]? = some o → ¬ Wc.w id → σ id = some ad → Fc ad.block)
  {news : News} (ok : NewsOk S₁ S.length news) {B : Store} (hBl : B.length = S.length)
  (hB : ∀ id o, id < S.length → S₁[id]? = some o → ∃ o', B[id]? = some o' ∧ o'.n = o.n ∧ o'.rows = o.rows ∧ (¬ W.w id → o' = o)) {I₂ F₂ : Nat → Prop}
  (fI : ∀ b, I b → I₂ b) (fnew : ∀ b, I₂ b → I b ∨ W.N ≤ b) (fF : ∀ b, F b → F₂ b) (fsub : ∀ b, I₂ b → F₂ b) (fimm : ∀ b, F₂ b → b < h₁.size)
  (fopen : ∀ id o' ad, id < S.length → B[id]? = some o' → W.w id → o'.st = 0 → σ₁ id = some ad → ¬ F₂ ad.block)
  (fclosed : ∀ id o' ad, id < S.length → B[id]? = some o' → o'.st ≠ 0 → σ₁ id = some ad → I₂ ad.block)
  (fcells : ∀ id o, id < S.length → S₁[id]? = some o → Wc.w id → ∀ i j, i < o.rows.length → j < o.n → okC S.length ((o.rows.getD i []).getD j .dead) = true ∧ (noRoC ((o.rows.getD i []).getD j .dead) = true ∨ ∀ b, I₁ b → I₂ b))
  (fnews : ∀ (k : Nat) (o : Ob) (i lo : Nat), news[k]? = some (o, i, lo) → (∀ ad, σ₁ i = some ad → (o.st = 0 → ¬ F₂ ad.block) ∧ (o.st ≠ 0 → I₂ ad.block)) ∧ ((∀ i j, noRoC ((o.rows.getD i []).getD j .dead) = true) ∨ ∀ b, I₁ b → I₂ b)) :
  Sim W (B ++ news.map (·.1)) (newPlace σ₁ S.length news S₁) I₂ F₂ h₁ ∧ Ext W S σ I F h (B ++ news.map (·.1)) (newPlace σ₁ S.length news S₁) I₂ F₂ h₁ ∧
   (∀ id o, id < S.length → S₁[id]? = some o → ∃ o', (B ++ news.map (·.1))[id]? = some o' ∧ o'.n = o.n ∧ o'.rows = o.rows ∧ newPlace σ₁ S.length news S₁ id = σ₁ id) ∧
   (∀ (k : Nat) (o : Ob) (i lo : Nat), news[k]? = some (o, i, lo) → (B ++ news.map (·.1))[S.length + k]? = some o) := by
 have pOld : ∀ id, id < S.length → newPlace σ₁ S.length news S₁ id = σ₁ id := fun id hid => by simp [newPlace, hid]
 have gOld : ∀ id, id < S.length → (B ++ news.map (·.1))[id]? = B[id]? := fun id hid => List.getElem?_append_left (by omega)
 have gNew : ∀ (k : Nat) (o : Ob) (i lo : Nat), news[k]? = some (o, i, lo) → (B ++ news.map (·.1))[S.length + k]? = some o := fun k o i lo hk => by
  rw [List.getElem?_append_right (by omega), hBl, Nat.add_sub_cancel_left, List.getElem?_map, hk]; rfl
 have pNew : ∀ (k : Nat) (o : Ob) (i lo : Nat), news[k]? = some (o, i, lo) → newPlace σ₁ S.length news S₁ (S.length + k) = (σ₁ i).map fun ad => ⟨ad.block, ad.off + lo * o.n, none⟩ := fun k o i lo hk => by
  simp only [newPlace]; rw [if_neg (by omega), Nat.add_sub_cancel_left, hk]
 have hS : ∀ id o, id < S.length → S₁[id]? = some o → ∃ o', (B ++ news.map (·.1))[id]? = some o' ∧ o'.n = o.n ∧ o'.rows = o.rows ∧ newPlace σ₁ S.length news S₁ id = σ₁ id := fun id o hid ho => by
  obtain ⟨o', k1, k2, k3, _⟩ := hB id o hid ho
  exact ⟨o', (gOld id hid).trans k1, k2, k3, pOld id hid⟩
 have lt : ∀ id o, S[id]? = some o → id < S.length := fun id o ho => (List.getElem?_eq_some_iff.1 ho).1
 have back : ∀ id o', id < S.length → B[id]? = some o' → ∃ o, S[id]? = some o ∧ ∃ o₁, S₁[id]? = some o₁ ∧ o'.n = o₁.n ∧ o'.rows = o₁.rows := fun id o' hid hb => by
  have e : S[id]? = some S[id] := List.getElem?_eq_getElem hid
  obtain ⟨o₁, p1, p2⟩ := E₁.ob id _ e
  obtain ⟨o'', k1, k2, k3, _⟩ := hB id o₁ hid p1
  rw [hb] at k1; injection k1 with k1; subst k1
  exact ⟨_, e, o₁, p1, k2, k3⟩
 have E : Ext W S σ I F h (B ++ news.map (·.1)) (newPlace σ₁ S.length news S₁) I₂ F₂ h₁ := by
  refine ⟨fun id o ho => ?_, fun b hb => ⟨fF b hb, (E₁.imm b (hFc b hb)).2⟩, fI, fnew, fun id o ad ho ha => ?_, E₁.size⟩
  ·obtain ⟨o₁, p1, p2, p3, p4, p5⟩ := E₁.ob id o ho
   obtain ⟨o', k1, k2, k3, k4⟩ := hB id o₁ (lt id o ho) p1
   refine ⟨o', (gOld id (lt id o ho)).trans k1, k2.trans p2, by rw [k3]; exact p3, fun e => ?_, fun nw => (k4 nw).trans (p5 fun hw => nw (hWw id hw (lt id o ho)))⟩
   rw [k3] at e
   have := p4 e
   exact ⟨(pOld id (lt id o ho)).trans this.1, this.2⟩
  ·rw [pOld id (lt id o ho)] at ha
   exact (E₁.pl id o ad ho ha).imp _root_.id fun hb => by have := s.big; omega
 refine ⟨⟨fun id o' ho => ?_, fun id id' o o' ad ad' ho ho' ha ha' ne => ?_, fimm, fsub, fun id o ad hm ho ha => ?_, Nat.le_trans s.big E₁.size⟩, E, hS, gNew⟩
 ·by_cases hid : id < S.length
  ·rw [gOld id hid] at ho
   obtain ⟨o, p0, o₁, p1, p2, p3⟩ := back id o' hid ho
   have q := s₁.ob id o₁ p1
   refine ⟨fun e => by rw [p3]; exact q.none_ (by rw [pOld id hid] at e; exact e), fun i hi => by rw [p2]; rw [p3] at hi ⊢; exact q.len i hi, fun ad ha => ?_⟩
   rw [pOld id hid] at ha
   obtain ⟨k1, k2, k3, cs, ty, fr, k4, k5, k6, k7⟩ := q.there ad ha
   refine ⟨k1, fun hw hst => fopen id o' ad hid ho hw hst ha, fun hst => fclosed id o' ad hid ho hst ha, cs, ty, fr, k4, k5, by rw [p2, p3]; exact k6, ?_⟩
   rw [p2, p3]
   intro i j hi hj
   by_cases hw : Wc.w id
   ·obtain ⟨c1, c2⟩ := fcells id o₁ hid p1 hw i j hi hj
    exact (k7 i j hi hj).change c1 c2 hS
   ·obtain ⟨o₁', r1, r2, r3, r4, r5⟩ := E₁.ob id o p0
    rw [p1] at r1; injection r1 with r1; subst r1
    have e := r5 hw; subst e
    have hσ := (r4 rfl).1
    rw [hσ] at ha
    obtain ⟨_, _, _, cs', ty', fr', z4, z5, z6, z7⟩ := (s.ob id o₁ p0).there ad ha
    have hbk := (E₁.imm _ (hFo id o₁ ad p0 hw ha)).2
    rw [k4] at hbk
    rw [← hbk] at z4; injection z4 with z4; injection z4 with f1 f2 f3; subst f1 f2 f3
    exact E.rel s.sub (z7 i j hi hj)
  ·obtain ⟨k, rfl⟩ : ∃ k, id = S.length + k := ⟨id - S.length, by omega⟩
   rw [List.getElem?_append_right (by omega), hBl, Nat.add_sub_cancel_left, List.getElem?_map] at ho
   obtain ⟨⟨on, i, lo⟩, hk, rfl⟩ := Option.map_eq_some_iff.1 ho
   obtain ⟨hi1, hfl, o₁, hi, so, sn, sst, sl1, sl2, sr⟩ := ok.src k on i lo hk
   have q := s₁.ob i o₁ so
   have hlen : on.rows.length = hi - lo := by rw [sr]; simp; omega
   have hg : ∀ a, a < hi - lo → on.rows.getD a [] = o₁.rows.getD (lo + a) [] := fun a ha => by
    rw [sr]
    simp only [List.getD_eq_getElem?_getD, List.getElem?_drop, List.getElem?_take]
    rw [if_pos (by omega)]
   refine ⟨fun e => ?_, fun a ha => ?_, fun ad ha => ?_⟩
   ·rw [pNew k on i lo hk] at e
    have e1 : σ₁ i = none := by simpa using e
    have := q.none_ e1
    rw [sr, this]; simp
   ·simp only at ha ⊢
    rw [hg a (by omega), sn]; exact q.len _ (by omega)
   ·rw [pNew k on i lo hk] at ha
    obtain ⟨ad₀, ha₀, rfl⟩ := Option.map_eq_some_iff.1 ha
    obtain ⟨k1, k2, k3, cs, ty, fr, k4, k5, k6, k7⟩ := q.there ad₀ ha₀
    have f := fnews k on i lo hk
    have f1 := f.1 ad₀ ha₀
    have m1 : hi * o₁.n ≤ o₁.rows.length * o₁.n := Nat.mul_le_mul_right _ sl2
    have m2 : hi * o₁.n = lo * o₁.n + (hi - lo) * o₁.n := by rw [← Nat.add_mul]; congr 1; omega
    refine ⟨rfl, fun _ hst => f1.1 hst, fun hst => f1.2 hst, cs, ty, fr, k4, k5, by simp only [hlen, sn]; omega, fun a j ha hj => ?_⟩
    simp only at ha hj ⊢
    rw [sn] at hj
    have r := k7 (lo + a) j (by omega) hj
    rw [← hg a (by omega)] at r
    have e3 : ad₀.off + lo * on.n + a * on.n + j = ad₀.off + (lo + a) * o₁.n + j := by rw [sn, Nat.add_mul]; omega
    rw [e3]
    have hfc := hfl a j
    rcases f.2 with hz | hz
    ·refine r.change (m := S.length) ?_ (.inl (hz a j)) hS
     revert hfc; cases (on.rows.getD a []).getD j .dead <;> intro hfc <;> first | rfl | cases hfc
    ·exact r.flat hz hfc
 ·-- apart
  have place : ∀ id o ad, (B ++ news.map (·.1))[id]? = some o → newPlace σ₁ S.length news S₁ id = some ad → ∃ i o₁ ad₁, S₁[i]? = some o₁ ∧ σ₁ i = some ad₁ ∧ ad₁.block = ad.block ∧ ((id < S.length ∧ i = id) ∨ (S.length ≤ id ∧ S.length ≤ i ∧ ∃ (o : Ob) (lo : Nat), news[id - S.length]? = some (o, i, lo))) := fun id o ad ho ha => by
   by_cases hid : id < S.length
   ·rw [gOld id hid] at ho
    obtain ⟨o, p0, o₁, p1, _⟩ := back id o hid ho
    rw [pOld id hid] at ha
    exact ⟨id, o₁, ad, p1, ha, rfl, .inl ⟨hid, rfl⟩⟩
   ·obtain ⟨k, rfl⟩ : ∃ k, id = S.length + k := ⟨id - S.length, by omega⟩
    rw [List.getElem?_append_right (by omega), hBl, Nat.add_sub_cancel_left, List.getElem?_map] at ho
    obtain ⟨⟨on, i, lo⟩, hk, rfl⟩ := Option.map_eq_some_iff.1 ho
    obtain ⟨hi1, hfl, o₁, hi, so, _⟩ := ok.src k on i lo hk
    rw [pNew k on i lo hk] at ha
    obtain ⟨ad₀, ha₀, rfl⟩ := Option.map_eq_some_iff.1 ha
    exact ⟨i, o₁, ad₀, so, ha₀, rfl, .inr ⟨by omega, hi1, on, lo, by rw [Nat.add_sub_cancel_left]; exact hk⟩⟩
  obtain ⟨i, o₁, ad₁, a1, a2, a3, a4⟩ := place id o ad ho ha
  obtain ⟨i', o₁', ad₁', b1, b2, b3, b4⟩ := place id' o' ad' ho' ha'
  rw [← a3, ← b3]
  refine s₁.inj i i' o₁ o₁' ad₁ ad₁' a1 b1 a2 b2 fun e => ?_
  subst e
  rcases a4 with ⟨c1, c2⟩ | ⟨c1, c2, on, lo, c3⟩ <;> rcases b4 with ⟨d1, d2⟩ | ⟨d1, d2, on', lo', d3⟩
  ·exact ne (c2.symm.trans d2)
  ·omega
  ·omega
  ·have := ok.inj _ _ _ _ _ _ _ c3 d3; omega
 ·by_cases hid : id < S.length
  ·rw [gOld id hid] at ho
   obtain ⟨o₀, p0, o₁, p1, _⟩ := back id o hid ho
   rw [pOld id hid] at ha
   rcases E₁.pl id o₀ ad p0 ha with q | q
   ·exact s.own id o₀ ad hm p0 q
   ·have := s.big; omega
  ·obtain ⟨k, rfl⟩ : ∃ k, id = S.length + k := ⟨id - S.length, by omega⟩
   rw [List.getElem?_append_right (by omega), hBl, Nat.add_sub_cancel_left, List.getElem?_map] at ho
   obtain ⟨⟨on, i, lo⟩, hk, rfl⟩ := Option.map_eq_some_iff.1 ho
   obtain ⟨hi1, hfl, o₁, hi, so, _⟩ := ok.src k on i lo hk
   rw [pNew k on i lo hk] at ha
   obtain ⟨ad₀, ha₀, rfl⟩ := Option.map_eq_some_iff.1 ha
   have := s₁.own i o₁ ad₀ (by omega) so ha₀
   have := s.big; simp only; omega
end
end Go.Proofs.YtomklniddinhnaaE
set_option linter.unusedVariables false
set_option linter.unusedSectionVars false
set_option linter.unusedSimpArgs false
namespace Go.Proofs.YtomklniddinhnaaE
open Go
def rowsAll (p : A → Bool) (l : List (List A)) : Bool := l.all (·.all p)
theorem rowsAll_get {p : A → Bool} {l : List (List A)} (h : rowsAll p l = true) {i j : Nat} (hi : i < l.length) (hj : j < (l.getD i []).length) : p ((l.getD i []).getD j .dead) = true := by
 have h1 := List.all_eq_true.1 h (l.getD i []) (by simp [hi])
 exact List.all_eq_true.1 h1 _ (by rw [List.getD_eq_getElem?_getD (a := A.dead), List.getElem?_eq_getElem hj]; exact List.getElem_mem hj)
theorem rowsAll_any {p : A → Bool} (hd : p .dead = true) {l : List (List A)} (h : rowsAll p l = true) (i j : Nat) : p ((l.getD i []).getD j .dead) = true := by
 rcases Nat.lt_or_ge i l.length with hi | hi
 ·rcases Nat.lt_or_ge j (l.getD i []).length with hj | hj
  ·exact rowsAll_get h hi hj
  ·rw [List.getD_eq_getElem?_getD (a := A.dead), List.getElem?_eq_none hj]; exact hd
 ·have : l.getD i [] = [] := by simp [hi]
  rw [this]; exact hd
def muOk (S₁ : Store) (m : Nat) (id : Nat) : Bool := match S₁[id]? with
 | some o => o.st == 0 && rowsAll (okC m) o.rows
 | none => true
def muFlat (S₁ : Store) (id : Nat) : Bool := match S₁[id]? with
 | some o => rowsAll noRoC o.rows
 | none => true
def closeD (S : Store) (D : List Nat) : Store := S.mapIdx fun i o => if D.contains i then ⟨o.n, o.rows, 1, o.bx⟩ else o
def finA (md : Md) (S : Store) (mu D : List Nat) (S₁ : Store) (vs : List A) : Option (List A × Store) :=
 match rlVs S₁ S.length vs [] with
 | some (vs', news) =>
  if (mu.all fun id => !md.wr id || decide (S.length ≤ id) || muOk S₁ S.length id) = true then
   if D.isEmpty then some (vs', S₁.take S.length ++ news.map (·.1))
   else if vs'.all noRoV = true ∧ (news.all fun p => p.1.st == 0 && rowsAll noRoC p.1.rows) = true ∧ (mu.all fun id => !md.wr id || muFlat S₁ id) = true then some (vs', S₁.take S.length ++ news.map (·.1))
   else if (D.all fun id => md.wr id && decide (md.m ≤ id)) = true then some (vs', closeD (S₁.take S.length) D ++ news.map (·.1)) else none
  else none
 | none => none
section
variable {W : Fm} {S : Store} {σ : Place} {I F : Nat → Prop} {md : Md} {h h₁ : Array Obj} {S₁ : Store} {σ₁ : Place} {I₁ F₁ : Nat → Prop}
theorem fin_ok (s : Sim W S σ I F h) (hm : MdOk W md) {mu D : List Nat} (hD : ∀ i ∈ D, ∃ o, S[i]? = some o) (hdis : ∀ i ∈ D, i ∉ mu)
  (s₁ : Sim (calleeW S mu md h.size) S₁ σ₁ I₁ F₁ h₁) (E₁ : Ext (calleeW S mu md h.size) S σ (fun b => I b ∨ DB σ D b) (calleeF S σ F (calleeW S mu md h.size).w) h S₁ σ₁ I₁ F₁ h₁)
  {vs vs' : List A} {S₂ : Store} {xs : List Value} (hf : finA md S mu D S₁ vs = some (vs', S₂)) (hr : ∀ j, j < vs.length → Rel S₁ σ₁ I₁ h₁ (vs.getD j .dead) (xs.getD j undef)) :
  vs'.length = vs.length ∧ ∃ σ₂ I₂ F₂, Sim W S₂ σ₂ I₂ F₂ h₁ ∧ Ext W S σ I F h S₂ σ₂ I₂ F₂ h₁ ∧ ∀ j, j < vs.length → Rel S₂ σ₂ I₂ h₁ (vs'.getD j .dead) (xs.getD j undef) := by
 unfold finA at hf
 split at hf
 ·rename_i vs0 news hrl
  obtain ⟨ok, _, hlen⟩ := rlVs_news hrl hr ⟨fun k o i lo hk => by simp at hk, fun k k' o o' i lo lo' hk => by simp at hk⟩
  have lt : ∀ id o, S[id]? = some o → id < S.length := fun id o ho => (List.getElem?_eq_some_iff.1 ho).1
  have hS1 : S.length ≤ S₁.length := by
   rcases Nat.eq_zero_or_pos S.length with h0 | h0
   ·omega
   ·obtain ⟨o', p, _⟩ := E₁.ob (S.length - 1) _ (List.getElem?_eq_getElem (by omega))
    have := (List.getElem?_eq_some_iff.1 p).1; omega
  have take : ∀ id, id < S.length → (S₁.take S.length)[id]? = S₁[id]? := fun id hid => by rw [List.getElem?_take, if_pos hid]
  have tl : (S₁.take S.length).length = S.length := by simp; omega
  have hWw : ∀ id, (calleeW S mu md h.size).w id → id < S.length → W.w id := fun id hw hid => by
   rcases hw with hw | ⟨_, hw⟩
   ·omega
   ·exact hm.wr _ hw
  have hFc : ∀ b, F b → calleeF S σ F (calleeW S mu md h.size).w b := fun b hb => .inl hb
  have hFo : ∀ id o ad, S[id]? = some o → ¬ (calleeW S mu md h.size).w id → σ id = some ad → calleeF S σ F (calleeW S mu md h.size).w ad.block := fun id o ad ho hw ha => .inr ⟨id, o, ad, ho, hw, ha, rfl⟩
  have same : ∀ id o, S[id]? = some o → ¬ (calleeW S mu md h.size).w id → S₁[id]? = some o ∧ σ₁ id = σ id := fun id o ho hw => by
   obtain ⟨o', p1, p2, p3, p4, p5⟩ := E₁.ob id o ho
   have := p5 hw; subst this
   exact ⟨p1, (p4 rfl).1⟩
  have blt : ∀ id o ad, S[id]? = some o → σ id = some ad → ad.block < h.size := fun id o ad ho ha => by
   obtain ⟨_, _, _, cs, ty, fr, k4, _⟩ := (s.ob id o ho).there ad ha
   exact (Array.getElem?_eq_some_iff.1 k4).1
  split at hf
  ·rename_i hmu
   have mu1 : ∀ id o, id < S.length → S₁[id]? = some o → (calleeW S mu md h.size).w id → o.st = 0 ∧ rowsAll (okC S.length) o.rows = true := fun id o hid ho hw => by
    rcases hw with hw | ⟨hw1, hw2⟩
    ·omega
    ·have := List.all_eq_true.1 hmu id hw1
     simp only [hw2, Bool.not_true, Bool.false_or, Bool.or_eq_true, decide_eq_true_eq] at this
     rcases this with q | q
     ·omega
     ·simp only [muOk, ho, Bool.and_eq_true, beq_iff_eq] at q; exact q
   have closed : ∀ (B : Store) (Dz : List Nat), B.length = S.length → (∀ i ∈ Dz, i ∈ D) → (∀ i ∈ D, i ∈ Dz) → (∀ i ∈ Dz, W.w i ∧ W.m ≤ i) →
     (∀ id o, id < S.length → S₁[id]? = some o → B[id]? = some (if id ∈ Dz then ⟨o.n, o.rows, 1, o.bx⟩ else o)) →
     ∃ σ₂ I₂ F₂, Sim W (B ++ news.map (·.1)) σ₂ I₂ F₂ h₁ ∧ Ext W S σ I F h (B ++ news.map (·.1)) σ₂ I₂ F₂ h₁ ∧ ∀ j, j < vs.length → Rel (B ++ news.map (·.1)) σ₂ I₂ h₁ (vs0.getD j .dead) (xs.getD j undef) := fun B Dz hBl hDz1 hDz2 hDW hB => by
    have getB : ∀ id o', id < S.length → B[id]? = some o' → ∃ o₀ o, S[id]? = some o₀ ∧ S₁[id]? = some o ∧ o' = if id ∈ Dz then ⟨o.n, o.rows, 1, o.bx⟩ else o := fun id o' hid hb => by
     have e : S[id]? = some S[id] := List.getElem?_eq_getElem hid
     obtain ⟨o, p, _⟩ := E₁.ob id _ e
     have := hB id o hid p
     rw [hb] at this; injection this with this
     exact ⟨_, o, e, p, this⟩
    obtain ⟨k1, k2, k3, k4⟩ := fin_core s (Wc := calleeW S mu md h.size) rfl rfl hWw s₁ E₁ hFc hFo ok hBl (fun id o hid ho => ⟨_, hB id o hid ho, by split <;> rfl, by split <;> rfl, fun nw => by
      split
      ·rename_i hd; exact absurd (hDW id hd).1 nw
      ·rfl⟩) (I₂ := I₁) (F₂ := fun b => F b ∨ I₁ b)
     (fun b hb => E₁.ii b (.inl hb))
     (fun b hb => by
      rcases E₁.inew b hb with q | q
      ·rcases q with q | ⟨id, hid, ad, ha, e⟩
       ·exact .inl q
       ·obtain ⟨o, ho⟩ := hD id hid
        exact .inr (e ▸ s.own id o ad (hDW id (hDz2 id hid)).2 ho ha)
      ·have := s.big; exact .inr (Nat.le_trans this q))
     (fun b hb => .inl hb) (fun b hb => .inr hb)
     (fun b hb => hb.elim (fun hb => s₁.imm b (E₁.imm b (hFc b hb)).1) (fun hb => s₁.imm b (s₁.sub b hb)))
     (fun id o' ad hid hb hw hst ha => by
      obtain ⟨o₀, o, p0, p1, e⟩ := getB id o' hid hb
      split at e
      ·subst e; cases hst
      ·rename_i hnd; subst e
       by_cases hc : (calleeW S mu md h.size).w id
       ·have := ((s₁.ob id o' p1).there ad ha).2.1 hc hst
        exact fun hF => this (hF.elim (fun hF => (E₁.imm _ (hFc _ hF)).1) (s₁.sub _))
       ·obtain ⟨q1, q2⟩ := same id o₀ p0 hc
        rw [p1] at q1; injection q1 with q1; subst q1
        rw [q2] at ha
        have hnF := ((s.ob id o' p0).there ad ha).2.1 hw hst
        refine fun hF => hF.elim hnF fun hI => ?_
        rcases E₁.inew _ hI with q | q
        ·rcases q with q | ⟨id', hid', ad', ha', e'⟩
         ·exact hnF (s.sub _ q)
         ·obtain ⟨o2, ho2⟩ := hD id' hid'
          by_cases ei : id = id'
          ·subst ei; exact hnd (hDz2 id hid')
          ·exact s.inj id id' o' o2 ad ad' p0 ho2 ha ha' ei e'.symm
        ·have := blt id o' ad p0 ha
         have hq : h.size ≤ ad.block := q
         omega)
     (fun id o' ad hid hb hst ha => by
      obtain ⟨o₀, o, p0, p1, e⟩ := getB id o' hid hb
      split at e
      ·rename_i hd
       have hid' := hDz1 id hd
       have hc : ¬ (calleeW S mu md h.size).w id := fun hw => by
        rcases hw with hw | ⟨hw, _⟩
        ·omega
        ·exact hdis id hid' hw
       obtain ⟨q1, q2⟩ := same id o₀ p0 hc
       rw [q2] at ha
       exact E₁.ii _ (.inr ⟨id, hid', ad, ha, rfl⟩)
      ·subst e
       exact ((s₁.ob id o' p1).there ad ha).2.2.1 hst)
     (fun id o hid ho hw i j hi hj => ⟨rowsAll_get (mu1 id o hid ho hw).2 hi (by rw [(s₁.ob id o ho).len i hi]; exact hj), .inr fun b hb => hb⟩)
     (fun k o i lo hk => by
      obtain ⟨hi1, hfl, o₁, hi, so, sn, sst, _⟩ := ok.src k o i lo hk
      refine ⟨fun ad ha => ?_, .inr fun b hb => hb⟩
      have q := (s₁.ob i o₁ so).there ad ha
      refine ⟨fun hst hF => ?_, fun hst => q.2.2.1 (by omega)⟩
      have := q.2.1 (.inl hi1) (by omega)
      exact this (hF.elim (fun hF => (E₁.imm _ (hFc _ hF)).1) (s₁.sub _)))
    exact ⟨_, _, _, k1, k2, rlVs_rel k3 k4 hrl hr ⟨[], by simp⟩ ⟨fun k o i lo hk => by simp at hk, fun k k' o o' i lo lo' hk => by simp at hk⟩ (.inr fun b hb => hb)⟩
   split at hf
   ·rename_i hDe
    injection hf with hf; injection hf with e1 e2; subst e1 e2
    have hD0 : D = [] := by simpa using hDe
    subst hD0
    exact ⟨hlen, closed _ [] tl (fun i hi => hi) (fun i hi => hi) (fun i hi => by simp at hi) (fun id o hid ho => by rw [take id hid]; simpa using ho)⟩
   ·split at hf
    ·rename_i hu
     injection hf with hf; injection hf with e1 e2; subst e1 e2
     refine ⟨hlen, ?_⟩
     obtain ⟨u1, u2, u3⟩ := hu
     have news1 : ∀ (k : Nat) (o : Ob) (i lo : Nat), news[k]? = some (o, i, lo) → o.st = 0 ∧ rowsAll noRoC o.rows = true := fun k o i lo hk => by
      have := List.all_eq_true.1 u2 _ (List.mem_of_getElem? hk)
      simpa using this
     obtain ⟨k1, k2, k3, k4⟩ := fin_core s (Wc := calleeW S mu md h.size) rfl rfl hWw s₁ E₁ hFc hFo ok tl (fun id o hid ho => ⟨o, by rw [take id hid]; exact ho, rfl, rfl, fun _ => rfl⟩) (I₂ := I) (F₂ := F)
      (fun b hb => hb) (fun b hb => .inl hb) (fun b hb => hb) s.sub (fun b hb => s₁.imm b (E₁.imm b (hFc b hb)).1)
      (fun id o' ad hid hb hw hst ha => by
       rw [take id hid] at hb
       have e : S[id]? = some S[id] := List.getElem?_eq_getElem hid
       by_cases hc : (calleeW S mu md h.size).w id
       ·have := ((s₁.ob id o' hb).there ad ha).2.1 hc hst
        exact fun hF => this (E₁.imm _ (hFc _ hF)).1
       ·obtain ⟨q1, q2⟩ := same id _ e hc
        rw [hb] at q1; injection q1 with q1; rw [← q1] at e
        rw [q2] at ha
        exact ((s.ob id o' e).there ad ha).2.1 hw hst)
      (fun id o' ad hid hb hst ha => by
       rw [take id hid] at hb
       have e : S[id]? = some S[id] := List.getElem?_eq_getElem hid
       by_cases hc : (calleeW S mu md h.size).w id
       ·exact absurd (mu1 id o' hid hb hc).1 hst
       ·obtain ⟨q1, q2⟩ := same id _ e hc
        rw [hb] at q1; injection q1 with q1; rw [← q1] at e
        rw [q2] at ha
        exact ((s.ob id o' e).there ad ha).2.2.1 hst)
      (fun id o hid ho hw i j hi hj => by
       have hl : j < (o.rows.getD i []).length := by rw [(s₁.ob id o ho).len i hi]; exact hj
       refine ⟨rowsAll_get (mu1 id o hid ho hw).2 hi hl, .inl ?_⟩
       rcases hw with hw | ⟨hw1, hw2⟩
       ·omega
       ·have := List.all_eq_true.1 u3 id hw1
        simp only [hw2, Bool.not_true, Bool.false_or, muFlat, ho] at this
        exact rowsAll_get this hi hl)
      (fun k o i lo hk => by
       obtain ⟨hi1, hfl, o₁, hi, so, sn, sst, _⟩ := ok.src k o i lo hk
       obtain ⟨n1, n2⟩ := news1 k o i lo hk
       refine ⟨fun ad ha => ⟨fun hst hF => ?_, fun hst => absurd n1 hst⟩, .inl fun i j => rowsAll_any rfl n2 i j⟩
       have q := (s₁.ob i o₁ so).there ad ha
       exact q.2.1 (.inl hi1) (by omega) (E₁.imm _ (hFc _ hF)).1)
     exact ⟨_, _, _, k1, k2, rlVs_rel k3 k4 hrl hr ⟨[], by simp⟩ ⟨fun k o i lo hk => by simp at hk, fun k k' o o' i lo lo' hk => by simp at hk⟩ (.inl u1)⟩
    ·split at hf
     ·rename_i hda
      injection hf with hf; injection hf with e1 e2; subst e1 e2
      refine ⟨hlen, closed _ D (by simp [closeD, tl]) (fun i hi => hi) (fun i hi => hi) (fun i hi => ?_) (fun id o hid ho => ?_)⟩
      ·have := List.all_eq_true.1 hda i hi
       simp only [Bool.and_eq_true, decide_eq_true_eq] at this
       exact ⟨hm.wr _ this.1, hm.m ▸ this.2⟩
      ·simp only [closeD, List.getElem?_mapIdx, take id hid, ho, Option.map_some]
       by_cases hd : id ∈ D
       ·simp [hd]
       ·simp [hd]
     ·cases hf
  ·cases hf
 ·cases hf
end
end Go.Proofs.YtomklniddinhnaaE
