/- Part of the proof: an evaluator (YtomklniddinhnaaEEv). -/
import Derived.Test.YtomklniddinhnaaEMem
set_option linter.unusedVariables false
set_option linter.unusedSectionVars false
set_option linter.unusedSimpArgs false
namespace Go.Proofs.YtomklniddinhnaaE
open Go
structure Md where
 wr : Nat → Bool
 m : Nat
 fz : Bool
def flatRowsB (l : List (List A)) : Bool := l.all (·.all flatC)
theorem flatRowsB_ok {l : List (List A)} (h : flatRowsB l = true) : flatRows l := fun i j => by
 rcases Nat.lt_or_ge i l.length with hi | hi
 ·have h1 := List.all_eq_true.1 h (l.getD i []) (by simp [hi])
  rcases Nat.lt_or_ge j (l.getD i []).length with hj | hj
  ·exact List.all_eq_true.1 h1 _ (by rw [List.getD_eq_getElem?_getD (a := A.dead), List.getElem?_eq_getElem hj]; exact List.getElem_mem hj)
  ·rw [List.getD_eq_getElem?_getD (a := A.dead), List.getElem?_eq_none hj]; rfl
 ·have : l.getD i [] = [] := by simp [hi]
  rw [this]; rfl
def frzC (S : Store) (md : Md) : A → Option (A × Store)
 | .sl id lo hi ver => match S[id]? with
  | some o => if o.rows.length = ver ∧ flatRowsB o.rows = true then
    if o.st ≠ 0 then some (.ro o.n ((o.rows.take hi).drop lo), S)
    else if md.wr id = true ∧ md.m ≤ id then some (.ro o.n ((o.rows.take hi).drop lo), S.set id ⟨o.n, o.rows, 1, o.bx⟩) else none
   else none
  | none => none
 | a => some (a, S)
def frzL (md : Md) : List A → Store → Option (List A × Store)
 | [], S => some ([], S)
 | a :: l, S => match frzC S md a with
  | some (a', S₁) => match frzL md l S₁ with
   | some (l', S₂) => some (a' :: l', S₂)
   | none => none
  | none => none
def frzV (md : Md) (S : Store) : A → Option (A × Store)
 | .ag cs => (frzL md cs S).map fun (cs, S) => (.ag cs, S)
 | a => frzC S md a
def frzPs (md : Md) : List (Nat × A) → Store → Option (List (Nat × A) × Store)
 | [], S => some ([], S)
 | (i, a) :: l, S => match frzV md S a with
  | some (a', S₁) => match frzPs md l S₁ with
   | some (l', S₂) => some ((i, a') :: l', S₂)
   | none => none
  | none => none
section
variable {P : Program} {T : Nat → Option TI} {W : Fm} {S : Store} {σ : Place} {I F : Nat → Prop} {w : World} {md : Md}
structure MdOk (W : Fm) (md : Md) : Prop where
 wr : ∀ id, md.wr id = true → W.w id
 m : md.m = W.m
theorem ro_of_obj (s : Sim W S σ I F w.heap) {id lo hi ver : Nat} {o : Ob} (ho : S[id]? = some o) (hv : o.rows.length = ver) {x : Value} (ra : Rel S σ I w.heap (.sl id lo hi ver) x) (hfl : flatRows o.rows) {S' : Store} {I' : Nat → Prop} {h' : Array Obj}
  (hI : ∀ ad, σ id = some ad → I' ad.block) (hh : ∀ ad, σ id = some ad → h'[ad.block]? = w.heap[ad.block]?) (tr : ∀ a x, flatC a = true → Rel S σ I w.heap a x → Rel S' σ I' h' a x) : Rel S' σ I' h' (.ro o.n ((o.rows.take hi).drop lo)) x := by
 cases ra with
 | sl _ _ _ _ a c o₁ ho₁ h1 h2 h3 hf =>
  rw [ho] at ho₁; injection ho₁ with ho₁; subst ho₁
  have hff := hf hv.symm
  clear hf
  have hl : ((o.rows.take hi).drop lo).length = hi - lo := by simp; omega
  have hg : ∀ i, i < hi - lo → ((o.rows.take hi).drop lo).getD i [] = o.rows.getD (lo + i) [] := fun i hi' => by
   simp only [List.getD_eq_getElem?_getD, List.getElem?_drop, List.getElem?_take]
   rw [if_pos (by omega)]
  have emp : hi - lo = 0 → Rel S' σ I' h' (.ro o.n ((o.rows.take hi).drop lo)) (.slice a (hi - lo) c) := fun hz => by
   have e5 : (o.rows.take hi).drop lo = [] := List.length_eq_zero_iff.1 (by omega)
   rw [e5, hz]; exact .ro0 _ _ _
  rcases hff with ⟨q1, q2, q3⟩ | ⟨ad, b, ty, fr, q1, q2, q3, q4, q5, q6⟩
  ·have z0 := (s.ob id o ho).none_ q1; have z1 : o.rows.length = 0 := (by rw [z0]; rfl)
   exact emp (by omega)
  ·rcases Nat.eq_zero_or_pos (hi - lo) with hz | hz
   ·exact emp hz
   ·have := q3 (by omega); subst this
    obtain ⟨k1, k2, k3, b', ty', fr', k4, k5, k6, k7⟩ := (s.ob id o ho).there ad q1
    rw [q4] at k4; injection k4 with k4; injection k4 with f1 f2 f3; subst f1 f2 f3
    rw [← hl]
    have m1 : hi * o.n ≤ o.rows.length * o.n := Nat.mul_le_mul_right _ (by omega)
    have m2 : hi * o.n = lo * o.n + (hi - lo) * o.n := by rw [← Nat.add_mul]; congr 1; omega
    refine .ro o.n _ _ c b ty fr rfl (hI ad q1) (by rw [hh ad q1]; exact q4) (fun i hi' => ?_) (by rw [hl]; simp only; omega) (by omega) (flatRows_cut hfl hi lo) (fun i j hi' hj => ?_)
    ·rw [hl] at hi'; rw [hg i hi']; exact (s.ob id o ho).len _ (by omega)
    ·rw [hl] at hi'; rw [hg i hi']
     have := k7 (lo + i) j (by omega) hj
     rw [Nat.add_mul] at this
     have := tr _ _ (hfl (lo + i) j) this
     simpa only [Nat.add_assoc] using this
theorem frzC_ok (s : Sim W S σ I F w.heap) (hm : MdOk W md) {a r : A} {x : Value} {S' : Store} (h : frzC S md a = some (r, S')) (ra : Rel S σ I w.heap a x) :
  ∃ I' F', Sim W S' σ I' F' w.heap ∧ Ext W S σ I F w.heap S' σ I' F' w.heap ∧ Rel S' σ I' w.heap r x := by
 unfold frzC at h
 split at h
 ·rename_i id lo hi ver
  split at h
  ·rename_i o ho
   split at h
   ·rename_i hv
    have q := s.ob id o ho
    have hfl := flatRowsB_ok hv.2
    split at h
    ·rename_i hst; injection h with h; injection h with e1 e2; subst e1 e2
     exact ⟨I, F, s, .refl, ro_of_obj s ho hv.1 ra hfl (fun ad ha => (q.there ad ha).2.2.1 hst) (fun _ _ => rfl) (fun _ _ _ h => h)⟩
    ·rename_i hst
     have hst : o.st = 0 := by simpa using hst
     split at h
     ·rename_i hw
      injection h with h; injection h with e1 e2; subst e1 e2
      have gW := hm.wr _ hw.1
      have hlt := (List.getElem?_eq_some_iff.1 ho).1
      let B : Nat → Prop := fun b => ∃ ad, σ id = some ad ∧ ad.block = b
      have E : Ext W S σ I F w.heap (S.set id ⟨o.n, o.rows, 1, o.bx⟩) σ (fun b => I b ∨ B b) (fun b => F b ∨ B b) w.heap := by
       refine ⟨fun i1 o₁ ho₁ => ?_, fun b hb => ⟨.inl hb, rfl⟩, fun b hb => .inl hb, fun b hb => hb.elim .inl fun ⟨ad, ha, e⟩ => .inr (e ▸ s.own id o ad (hm.m ▸ hw.2) ho ha), fun i1 o₁ ad ho₁ ha => .inl ha, Nat.le_refl _⟩
       by_cases e : i1 = id
       ·subst e; rw [ho] at ho₁; injection ho₁ with ho₁; subst ho₁
        exact ⟨⟨o.n, o.rows, 1, o.bx⟩, by rw [getElem?_set' _ _ _ _ hlt, if_pos rfl], rfl, Nat.le_refl _, fun _ => ⟨rfl, fun ad cs ty fr _ hb => ⟨cs, hb, rfl⟩⟩, fun nw => absurd gW nw⟩
       ·exact ⟨o₁, by rw [getElem?_set' _ _ _ _ hlt, if_neg e]; exact ho₁, rfl, Nat.le_refl _, fun _ => ⟨rfl, fun ad cs ty fr _ hb => ⟨cs, hb, rfl⟩⟩, fun _ => rfl⟩
      have blt : ∀ b, B b → b < w.heap.size := fun b ⟨ad, ha, e⟩ => by
       obtain ⟨_, _, _, cs, ty, fr, k4, _⟩ := q.there ad ha
       exact e ▸ (Array.getElem?_eq_some_iff.1 k4).1
      have old : ∀ i o₁, (S.set id ⟨o.n, o.rows, 1, o.bx⟩)[i]? = some o₁ → ∃ o₂, S[i]? = some o₂ := fun i o₁ hi => by
       rw [getElem?_set' _ _ _ _ hlt] at hi; split at hi
       ·rename_i e; subst e; exact ⟨o, ho⟩
       ·exact ⟨o₁, hi⟩
      refine ⟨_, _, ⟨fun i1 o₁ ho₁ => ?_, fun i1 i2 o₁ o₂ ad₁ ad₂ ho₁ ho₂ ha₁ ha₂ ne => ?_, fun b hb => hb.elim (s.imm b) (blt b), fun b hb => hb.elim (fun h => .inl (s.sub b h)) .inr, fun i1 o₁ ad hm' ho₁ ha => ?_, s.big⟩, E, ?_⟩
      ·rw [getElem?_set' _ _ _ _ hlt] at ho₁
       split at ho₁
       ·rename_i e; subst e; injection ho₁ with ho₁; subst ho₁
        refine ⟨q.none_, q.len, fun ad ha => ?_⟩
        obtain ⟨k1, k2, k3, cs, ty, fr, k4, k5, k6, k7⟩ := q.there ad ha
        exact ⟨k1, fun _ h => (by cases h), fun _ => .inr ⟨ad, ha, rfl⟩, cs, ty, fr, k4, k5, k6, E.ob_rel s.sub k7⟩
       ·rename_i ne
        have q₁ := s.ob i1 o₁ ho₁
        refine ⟨q₁.none_, q₁.len, fun ad ha => ?_⟩
        obtain ⟨k1, k2, k3, cs, ty, fr, k4, k5, k6, k7⟩ := q₁.there ad ha
        exact ⟨k1, fun h1 h2 hF => hF.elim (k2 h1 h2) fun ⟨ad', ha', e'⟩ => s.inj i1 id o₁ o ad ad' ho₁ ho ha ha' ne e'.symm, fun h => .inl (k3 h), cs, ty, fr, k4, k5, k6, E.ob_rel s.sub k7⟩
      ·obtain ⟨p₁, hp₁⟩ := old _ _ ho₁; obtain ⟨p₂, hp₂⟩ := old _ _ ho₂
       exact s.inj i1 i2 p₁ p₂ ad₁ ad₂ hp₁ hp₂ ha₁ ha₂ ne
      ·obtain ⟨p₁, hp₁⟩ := old _ _ ho₁
       exact s.own i1 p₁ ad hm' hp₁ ha
      ·exact ro_of_obj s ho hv.1 ra hfl (fun ad ha => .inr ⟨ad, ha, rfl⟩) (fun _ _ => rfl) (fun a x _ h => E.rel s.sub h)
     ·cases h
   ·cases h
  ·cases h
 ·injection h with h; injection h with e1 e2; subst e1 e2; exact ⟨I, F, s, .refl, ra⟩
theorem frzL_ok (hm : MdOk W md) : ∀ {cs l : List A} {S S' : Store} {I F : Nat → Prop} {xs : List Value}, Sim W S σ I F w.heap → frzL md cs S = some (l, S') → xs.length = cs.length → (∀ j, j < cs.length → Rel S σ I w.heap (cs.getD j .dead) (xs.getD j undef)) →
  ∃ I' F', Sim W S' σ I' F' w.heap ∧ Ext W S σ I F w.heap S' σ I' F' w.heap ∧ l.length = cs.length ∧ ∀ j, j < cs.length → Rel S' σ I' w.heap (l.getD j .dead) (xs.getD j undef)
 | [], l, S, S', I, F, xs, s, h, hl, hr => by injection h with h; injection h with e1 e2; subst e1 e2; exact ⟨I, F, s, .refl, rfl, fun j hj => by simp at hj⟩
 | a :: cs, l, S, S', I, F, [], s, h, hl, hr => by simp at hl
 | a :: cs, l, S, S', I, F, x :: xs, s, h, hl, hr => by
  simp only [frzL] at h
  split at h
  ·rename_i a' S₁ h1
   split at h
   ·rename_i l' S₂ h2
    injection h with h; injection h with e1 e2; subst e1 e2
    obtain ⟨I₁, F₁, s₁, E₁, r₁⟩ := frzC_ok s hm h1 (hr 0 (by simp))
    obtain ⟨I₂, F₂, s₂, E₂, l₂, r₂⟩ := frzL_ok hm s₁ h2 (by simpa using hl) (fun j hj => E₁.rel s.sub (hr (j + 1) (by simp; omega)))
    refine ⟨I₂, F₂, s₂, E₁.trans E₂, by simp [l₂], fun j hj => ?_⟩
    cases j with
    | zero => exact E₂.rel s₁.sub r₁
    | succ j => exact r₂ j (by simp at hj; omega)
   ·cases h
  ·cases h
theorem frzV_ok (s : Sim W S σ I F w.heap) (hm : MdOk W md) {a r : A} {x : Value} {S' : Store} (h : frzV md S a = some (r, S')) (ra : Rel S σ I w.heap a x) :
  ∃ I' F', Sim W S' σ I' F' w.heap ∧ Ext W S σ I F w.heap S' σ I' F' w.heap ∧ Rel S' σ I' w.heap r x := by
 unfold frzV at h
 split at h
 ·obtain ⟨⟨l, S₁⟩, h1, h2⟩ := Option.map_eq_some_iff.1 h
  injection h2 with e1 e2; subst e1 e2
  cases ra with
  | ag cs xs hl hc =>
   obtain ⟨I', F', s', E', l', r'⟩ := frzL_ok hm s h1 (xs := xs.toList) (by simp [hl]) (fun j hj => by have := hc j hj; simpa [show j < xs.size by omega] using this)
   refine ⟨I', F', s', E', .ag l xs (by omega) fun j hj => ?_⟩
   have := r' j (by omega)
   simpa [show j < xs.size by omega] using this
 ·exact frzC_ok s hm h ra
theorem frzPs_ok (hm : MdOk W md) : ∀ {ps l : List (Nat × A)} {S S' : Store} {I F : Nat → Prop} {pv : List (Nat × Value)}, Sim W S σ I F w.heap → frzPs md ps S = some (l, S') → pv.length = ps.length → (∀ k, k < ps.length → Rel S σ I w.heap (ps.getD k (0, .dead)).2 (pv.getD k (0, undef)).2) →
  ∃ I' F', Sim W S' σ I' F' w.heap ∧ Ext W S σ I F w.heap S' σ I' F' w.heap ∧ l.map (·.1) = ps.map (·.1) ∧ ∀ k, k < ps.length → Rel S' σ I' w.heap (l.getD k (0, .dead)).2 (pv.getD k (0, undef)).2
 | [], l, S, S', I, F, pv, s, h, hl, hr => by injection h with h; injection h with e1 e2; subst e1 e2; exact ⟨I, F, s, .refl, rfl, fun j hj => by simp at hj⟩
 | (i, a) :: ps, l, S, S', I, F, [], s, h, hl, hr => by simp at hl
 | (i, a) :: ps, l, S, S', I, F, (i', x) :: pv, s, h, hl, hr => by
  simp only [frzPs] at h
  split at h
  ·rename_i a' S₁ h1
   split at h
   ·rename_i l' S₂ h2
    injection h with h; injection h with e1 e2; subst e1 e2
    obtain ⟨I₁, F₁, s₁, E₁, r₁⟩ := frzV_ok s hm h1 (hr 0 (by simp))
    obtain ⟨I₂, F₂, s₂, E₂, l₂, r₂⟩ := frzPs_ok hm s₁ h2 (by simpa using hl) (fun j hj => E₁.rel s.sub (hr (j + 1) (by simp; omega)))
    refine ⟨I₂, F₂, s₂, E₁.trans E₂, by simp [l₂], fun j hj => ?_⟩
    cases j with
    | zero => exact E₂.rel s₁.sub r₁
    | succ j => exact r₂ j (by simp at hj; omega)
   ·cases h
  ·cases h
end
end Go.Proofs.YtomklniddinhnaaE
set_option linter.unusedVariables false
set_option linter.unusedSectionVars false
set_option linter.unusedSimpArgs false
namespace Go.Proofs.YtomklniddinhnaaE
open Go
def asgA (T : Nat → Option TI) (S : Store) (t : Nat) (a : A) : Option (A × Store) :=
 match a with
 | .v (.slice none 0 0) => match T t with
  | some ti => match ti.kind with
   | .slice e => match T e with
    | some te => some (.sl S.length 0 0 0, S ++ [⟨te.sz, [], 0, false⟩])
    | none => none
   | _ => none
  | none => none
 | a => some (a, S)
def curA (S : Store) : A → Bool
 | .sl id _ _ ver => match S[id]? with | some o => o.rows.length == ver | none => false
 | _ => true
def sl3A (T : Nat → Option TI) (S : Store) (t : Nat) (x : A) (lo hi : Option A) (mx : A) : Option (A × Store) :=
 match T t, mx with
 | some ti, .v (.int _ m) => match ti.kind with
  | .slice e => match szA T e, lenA T t x with
   | some sz, some n => if 0 ≤ m ∧ m ≤ (n : Int) ∧ curA S x = true then match hi with
     | some (.v (.int _ h)) => if 0 ≤ h ∧ h ≤ m then match (match lo with | none => some 0 | some (.v (.int _ l)) => if 0 ≤ l ∧ l ≤ h then some l else none | _ => none) with
       | some l => if l = m then some (.sl S.length 0 0 0, S ++ [⟨sz, [], 0, false⟩]) else some (.dead, S)
       | none => none
      else none
     | _ => none
    else none
   | _, _ => none
  | _ => none
 | _, _ => none
def strA (T : Nat → Option TI) (md : Md) (S : Store) (t : Nat) (a v : A) : Option (A × Store) :=
 match T t, a with
 | some ti, .pt id row off ver => match S[id]? with
  | some o => match (if md.fz = true ∧ o.bx = false then frzV md S v else some (v, S)) with
   | some (v', S₁) => match S₁[id]?, cellsOf? v' with
    | some o, some cs => match o.rows[row]? with
     | some r => if o.rows.length = ver ∧ o.st = 0 ∧ md.wr id = true ∧ leafs cs = true ∧ cs.length = ti.sz ∧ off + ti.sz ≤ r.length then
       some (.dead, S₁.set id ⟨o.n, o.rows.set row (r.take off ++ cs ++ r.drop (off + ti.sz)), 0, o.bx⟩) else none
     | none => none
    | _, _ => none
   | none => none
  | none => none
 | _, _ => none
def isStrOrSlice (T : Nat → Option TI) (t : Nat) : Bool := match T t with
 | some ti => match ti.kind with | .str => true | .slice _ => true | _ => false
 | none => false
def appT (T : Nat → Option TI) (md : Md) (S : Store) (sT xT : Nat) (a b : A) : Option (A × Store) :=
 match T sT with
 | some ts => match ts.kind with
  | .slice e => match T e with
   | some te => if isStrOrSlice T xT = true ∧ te.zero.length = te.sz then match rowsA S te.sz b with
     | some ys => if leafRows ys = true then appA S md.wr te.sz te.bytes a ys else none
     | none => none
    else none
   | none => none
  | _ => none
 | none => none
def withS (S : Store) (r : Option A) : Option (A × Store) := match r with | some a => some (a, S) | none => none
def cvtA (T : Nat → Option TI) (S : Store) (s d : Nat) (a : A) : Option (A × Store) :=
 match convA T S s d a with
 | some r => some (r, S)
 | none => match a with
  | .v (.string x) => s2bA T S s d (.v (.string x))
  | a => withS S (b2sA T S s d a)
def evOp (T : Nat → Option TI) (md : Md) (ρ : Operand → A) (S : Store) (o : Oper) : Option (A × Store) :=
 match o.op with
 | .move x => some (ρ x, S)
 | .assign x => match x with
  | .const c => asgA T S o.type (.v c)
  | y => some (ρ y, S)
 | .pick c a b => match ρ c with
  | .v (.bool t) => some (if t then ρ a else ρ b, S)
  | _ => none
 | .alloc e => allocA T S e
 | .box _ x => boxA S (ρ x)
 | .build t ps => withS S (bldA T t (ps.toList.map fun (i, x) => (i, ρ x)))
 | .buildSlice t len ps =>
  if md.fz then match frzPs md (ps.toList.map fun (i, x) => (i, ρ x)) S with
   | some (l, S') => bslA T S' t len l
   | none => none
  else bslA T S t len (ps.toList.map fun (i, x) => (i, ρ x))
 | .load t a => match T t with
  | some ti => match rdA S ti.sz (ρ a) with
   | some cs => withS S (mkA ti.agg cs)
   | none => none
  | none => none
 | .store t a x => strA T md S t (ρ a) (ρ x)
 | .nilCheck x => match ρ x with
  | .pt id row off ver => some (.pt id row off ver, S)
  | .rp cs => some (.rp cs, S)
  | _ => none
 | .binOp op t x y _ => withS S (binA T t op (ρ x) (ρ y))
 | .unOp op _ x => withS S (unA op (ρ x))
 | .convert s d x => cvtA T S s d (ρ x)
 | .makeFunc (.func f) first captured => if first.size = 0 then some (.fn f (captured.toList.map ρ), S) else none
 | .makeSlice t l c => mkslA T S t (ρ l) (ρ c)
 | .slice t x lo hi mx => match mx with
  | none => match ρ x with
   | .pt .. => none
   | a => withS S (slcA T S t a (lo.map ρ) (hi.map ρ))
  | some m => sl3A T S t (ρ x) (lo.map ρ) (hi.map ρ) (ρ m)
 | .fieldAddr t x f => withS S (fadA T t (ρ x) f)
 | .field t x f => withS S (prtA T t (ρ x) f)
 | .indexAddr t x i => match ρ i with
  | .v (.int _ j) => withS S (indA T S t (ρ x) j)
  | _ => none
 | .index t x i => match ρ i with
  | .v (.int _ j) => withS S (idxA T t (ρ x) j)
  | _ => none
 | .extract x i => withS S (extA (ρ x) i)
 | .call { callee := .builtin b, args, argTypes } => match args.toList, argTypes.toList with
  | [x], [t] => match b with
   | .len => match lenA T t (ρ x) with
    | some n => some (.v (.int .i64 n), S)
    | none => none
   | .clear => clrA T S md.wr t (ρ x)
   | _ => none
  | [x, y], [t, u] => match b with
   | .append => appT T md S t u (ρ x) (ρ y)
   | .copy => copyA T S md.wr t (ρ x) (ρ y)
   | .max => withS S (mmA true (ρ x) (ρ y))
   | .min => withS S (mmA false (ρ x) (ρ y))
   | _ => none
  | _, _ => none
 | _ => none
section
variable {P : Program} {T : Nat → Option TI} {W : Fm} {S : Store} {σ : Place} {I F : Nat → Prop} {w : World} {md : Md}
def Gives (r : Result Next) (x : Value) (w' : World) : Prop := r = .ok (.value x) w' ∨ (r = .ok .skip w' ∧ x = undef)
theorem withS_some {S S' : Store} {r : Option A} {a : A} (h : withS S r = some (a, S')) : r = some a ∧ S = S' := by
 unfold withS at h
 split at h
 ·injection h with h; injection h with h1 h2; subst h1 h2; exact ⟨rfl, rfl⟩
 ·cases h
theorem Step.after {S₁ : Store} {I₁ F₁ : Nat → Prop} (s₁ : Sim W S₁ σ I₁ F₁ w.heap) (E : Ext W S σ I F w.heap S₁ σ I₁ F₁ w.heap) {a : A} {S' : Store} {x : Value} {w' : World} (h : Step W S₁ σ I₁ F₁ w a S' x w') : Step W S σ I F w a S' x w' := by
 obtain ⟨σ', I', F', k1, k2, k3, k4, k5, k6⟩ := h
 exact ⟨σ', I', F', k1, E.trans k2, k3, k4, k5, k6⟩
theorem asgA_ok (s : Sim W S σ I F w.heap) {t : Nat} {a r : A} {S' : Store} {x : Value} (h : asgA T S t a = some (r, S')) (ra : Rel S σ I w.heap a x) : Step W S σ I F w r S' x w := by
 unfold asgA at h
 split at h
 ·have := relv ra; subst this
  split at h
  ·split at h
   ·split at h
    ·injection h with h; injection h with e1 e2; subst e1 e2
     rename_i te _
     have key := s.empty (W := W) te.sz 0 false rfl
     exact ⟨_, I, F, key.1, key.2, .sl _ 0 0 0 none 0 ⟨te.sz, [], 0, false⟩ (by simp) (by omega) (by omega) (by simp) (fun _ => .inl ⟨by simp [Place.set], rfl, rfl⟩), rfl, rfl, rfl⟩
    ·cases h
   ·cases h
  ·cases h
 ·injection h with h; injection h with e1 e2; subst e1 e2; exact .same s ra
theorem strA_ok (s : Sim W S σ I F w.heap) (hT : TOk P T) (hm : MdOk W md) {t : Nat} {a v r : A} {S' : Store} {x y : Value} (h : strA T md S t a v = some (r, S')) (ra : Rel S σ I w.heap a x) (rv : Rel S σ I w.heap v y) :
  ∃ w', (Instr.storeAt t x y).run P w = .ok () w' ∧ Step W S σ I F w r S' undef w' := by
 unfold strA at h
 split at h
 ·rename_i ti id row off ver ht
  split at h
  ·rename_i o0 ho0
   have pre : ∀ v' S₁, (if md.fz = true ∧ o0.bx = false then frzV md S v else some (v, S)) = some (v', S₁) → ∃ I' F', Sim W S₁ σ I' F' w.heap ∧ Ext W S σ I F w.heap S₁ σ I' F' w.heap ∧ Rel S₁ σ I' w.heap v' y := fun v' S₁ e => by
    split at e
    ·exact frzV_ok s hm e rv
    ·injection e with e; injection e with e1 e2; subst e1 e2; exact ⟨I, F, s, .refl, rv⟩
   split at h
   ·rename_i v' S₁ e1
    obtain ⟨I₁, F₁, s₁, E₁, r₁⟩ := pre _ _ e1
    split at h
    ·rename_i o cs ho hcs
     split at h
     ·rename_i rr hrow
      split at h
      ·rename_i hh
       injection h with h; injection h with g1 g2; subst g1 g2
       obtain ⟨h1, h2, h3, h4, h5, h6⟩ := hh
       obtain ⟨w', k1, k2⟩ := store_ok s₁ hT ht (E₁.rel s.sub ra) r₁ ho h1 h2 (hm.wr _ h3) hrow hcs h4 h5 h6
       exact ⟨w', k1, .after s₁ E₁ k2⟩
      ·cases h
     ·cases h
    ·cases h
   ·cases h
  ·cases h
 ·cases h
theorem appT_ok (s : Sim W S σ I F w.heap) (hT : TOk P T) (hm : MdOk W md) {sT xT rT : Nat} {a b r : A} {S' : Store} {x y : Value} (h : appT T md S sT xT a b = some (r, S')) (ra : Rel S σ I w.heap a x) (rb : Rel S σ I w.heap b y) :
  ∃ z w', (Builtin.append_ #[sT, xT] rT #[x, y]).run P w = .ok z w' ∧ Step W S σ I F w r S' z w' := by
 unfold appT at h
 split at h
 ·rename_i ts hts
  split at h
  ·rename_i e hk
   split at h
   ·rename_i te hte
    split at h
    ·rename_i hh
     split at h
     ·rename_i ys hys
      split at h
      ·rename_i hl
       obtain ⟨d, ud, kd⟩ := und hT hts
       have e3 := tk_slice (kd.symm.trans hk); subst e3
       refine appA_ok s hT ⟨ud, ?_, hte, hh.2⟩ hm.wr h ra rb hys hl
       have h1 := hh.1
       unfold isStrOrSlice at h1
       split at h1
       ·rename_i tx htx
        obtain ⟨dx, ux, kx⟩ := und hT htx
        split at h1
        ·rename_i hkx; have := tk_str (kx.symm.trans hkx); subst this; exact .inr ux
        ·rename_i e' hkx; have := tk_slice (kx.symm.trans hkx); subst this; exact .inl ⟨_, ux⟩
        ·cases h1
       ·cases h1
      ·cases h
     ·cases h
    ·cases h
   ·cases h
  ·cases h
 ·cases h
theorem sl3A_ok (s : Sim W S σ I F w.heap) (hT : TOk P T) {t : Nat} {a r m : A} {lo hi : Option A} {S' : Store} {x xm : Value} {xl xh : Option Value} (h : sl3A T S t a lo hi m = some (r, S')) (ra : Rel S σ I w.heap a x) (rm : Rel S σ I w.heap m xm) (rl : optRel S σ I w.heap lo xl) (rh : optRel S σ I w.heap hi xh) :
  ∃ z, (Instr.slice t x xl xh (some xm)).run P w = .ok z w ∧ Step W S σ I F w r S' z w := by
 unfold sl3A at h
 split at h
 ·rename_i ti k mm ht
  have := relv rm; subst this
  obtain ⟨d, ud, kd⟩ := und hT ht
  split at h
  ·rename_i e hk
   have e3 := tk_slice (kd.symm.trans hk); subst e3
   split at h
   ·rename_i sz n hz hn
    split at h
    ·rename_i hm
     split at h
     ·rename_i k2 hj
      split at h
      ·rename_i hh
       cases xh with
       | none => cases rh
       | some y =>
        have := relv rh; subst this
        have isS : ∃ base len c, x = .slice base len c ∧ n ≤ c := by
         unfold lenA at hn
         rw [ht] at hn; simp only [hk] at hn
         unfold lenS at hn
         split at hn
         ·have := relv ra; subst this; injection hn with hn; subst hn; exact ⟨_, _, _, rfl, Nat.le_refl _⟩
         ·injection hn with hn; subst hn
          cases ra with
          | ro0 n a c => exact ⟨_, _, _, rfl, Nat.zero_le _⟩
          | ro n rows ad c cs ty fr hs hI hb hn hsz hcap hfl hc => exact ⟨_, _, _, rfl, hcap⟩
         ·injection hn with hn; subst hn
          cases ra with
          | sl _ _ _ _ a c o ho h1 h2 h3 hf =>
           refine ⟨_, _, _, rfl, ?_⟩
           have hcur := hm.2.2
           simp only [curA, ho, beq_iff_eq] at hcur
           have hff := hf hcur.symm
           clear hf
           rcases hff with ⟨g1, g2, g3⟩ | ⟨ad, cs, ty, fr, g1, g2, g3, g4, g5, g6⟩
           ·have z0 := (s.ob _ o ho).none_ g1; have z1 : o.rows.length = 0 := (by rw [z0]; rfl); omega
           ·omega
         ·cases hn
        obtain ⟨base, len, c, rfl, hc⟩ := isS
        have key : ∀ {k : IntKind} {j : Int} {m : Nat} {code : BoundsCode}, 0 ≤ j → j ≤ (m : Int) → (Instr.sliceBound (.int k j) m code).run P w = .ok j.toNat w := fun h0 h1 => by simp [Instr.sliceBound, asIntOf, h0, h1]
        have k1 : ∀ code, (Instr.sliceBound (.int k mm) c code).run P w = .ok mm.toNat w := fun code => key hm.1 (by omega)
        have k3 : ∀ code, (Instr.sliceBound (.int k2 hj) mm.toNat code).run P w = .ok hj.toNat w := fun code => key hh.1 (by omega)
        have fin : ∀ l : Nat, (Instr.sliceBounds true len c xl (some (.int k2 hj)) (some (.int k mm))).run P w = .ok (l, hj.toNat, mm.toNat) w → (l : Int) ≤ hj → ((l : Int) = mm → ∃ z, (Instr.slice t (.slice base len c) xl (some (.int k2 hj)) (some (.int k mm))).run P w = .ok (.slice z 0 0) w) ∧
          ∃ z, (Instr.slice t (.slice base len c) xl (some (.int k2 hj)) (some (.int k mm))).run P w = .ok z w := fun l hl hle => by
         have : (Instr.slice t (.slice base len c) xl (some (.int k2 hj)) (some (.int k mm))).run P w = .ok (.slice (if mm.toNat = l then base else base.map (·.add (l * sz))) (hj.toNat - l) (mm.toNat - l)) w := by
          simp only [Instr.slice, Sem.run_bind, run_underlying ud, Result.andThen_ok, hl, size_ok hT hz, Sem.run_pure]
         refine ⟨fun e => ⟨base, ?_⟩, _, this⟩
         rw [this, if_pos (by omega)]
         have e1 : hj.toNat - l = 0 := by omega
         have e2 : mm.toNat - l = 0 := by omega
         rw [e1, e2]
        have finish : ∀ (l : Nat), (Instr.sliceBounds true len c xl (some (.int k2 hj)) (some (.int k mm))).run P w = .ok (l, hj.toNat, mm.toNat) w → (l : Int) ≤ hj → (if (l : Int) = mm then some (A.sl S.length 0 0 0, S ++ [⟨sz, [], 0, false⟩]) else some (.dead, S)) = some (r, S') → ∃ z, (Instr.slice t (.slice base len c) xl (some (.int k2 hj)) (some (.int k mm))).run P w = .ok z w ∧ Step W S σ I F w r S' z w := fun l hl hle hr => by
         obtain ⟨f1, z, f2⟩ := fin l hl hle
         split at hr
         ·rename_i e
          injection hr with hr; injection hr with e1 e2; subst e1 e2
          obtain ⟨z, f3⟩ := f1 e
          have key := s.empty (W := W) sz 0 false rfl
          exact ⟨_, f3, _, I, F, key.1, key.2, .sl _ 0 0 0 z 0 ⟨sz, [], 0, false⟩ (by simp) (by omega) (by omega) (by simp) (fun _ => .inl ⟨by simp [Place.set], rfl, rfl⟩), rfl, rfl, rfl⟩
         ·injection hr with hr; injection hr with e1 e2; subst e1 e2
          exact ⟨z, f2, .same s (.dead z)⟩
        cases lo with
        | none =>
         cases xl with
         | some _ => cases rl
         | none =>
          simp only at h
          exact finish 0 (by simp [Instr.sliceBounds, k1, k3]) (by omega) h
        | some al =>
         cases xl with
         | none => cases rl
         | some xl =>
          split at h
          ·rename_i l hl
           split at hl
           ·rename_i e0; cases e0
           ·rename_i k4 l' e0; injection e0 with e0; subst e0
            have := relv rl; subst this
            split at hl
            ·rename_i hl'; injection hl with hl; subst hl
             have k5 : ∀ code, (Instr.sliceBound (.int k4 l') hj.toNat code).run P w = .ok l'.toNat w := fun code => key hl'.1 (by omega)
             have e5 : (l'.toNat : Int) = l' := by omega
             exact finish l'.toNat (by simp [Instr.sliceBounds, k1, k3, k5]) (by omega) (by rw [e5]; exact h)
            ·cases hl
           ·cases hl
          ·cases h
      ·cases h
     ·cases h
    ·cases h
   ·cases h
  ·cases h
 ·cases h
theorem optRel_map {ρ : Operand → A} {ρ' : Operand → Value} (x : Option Operand) (h : ∀ y, x = some y → Rel S σ I w.heap (ρ y) (ρ' y)) : optRel S σ I w.heap (x.map ρ) (x.map ρ') := by
 cases x with
 | none => trivial
 | some y => exact h y rfl
theorem parts_rel {ρ : Operand → A} {ρ' : Operand → Value} (ps : Array (Nat × Operand)) (h : ∀ y ∈ ps.toList.map (·.2), Rel S σ I w.heap (ρ y) (ρ' y)) :
  ((ps.toList.map fun (i, x) => (i, ρ x)).map (·.1)) = (ps.map fun (i, x) => (i, ρ' x)).toList.map (·.1) ∧ (ps.map fun (i, x) => (i, ρ' x)).toList.length = (ps.toList.map fun (i, x) => (i, ρ x)).length ∧
  ∀ k, k < (ps.toList.map fun (i, x) => (i, ρ x)).length → Rel S σ I w.heap ((ps.toList.map fun (i, x) => (i, ρ x)).getD k (0, .dead)).2 ((ps.map fun (i, x) => (i, ρ' x)).toList.getD k (0, undef)).2 := by
 refine ⟨by simp, by simp, fun k hk => ?_⟩
 simp only [List.length_map, Array.length_toList] at hk
 have e1 : (ps.toList.map fun (i, x) => (i, ρ x)).getD k (0, .dead) = (ps[k].1, ρ ps[k].2) := by simp [hk]
 have e2 : (ps.map fun (i, x) => (i, ρ' x)).toList.getD k (0, undef) = (ps[k].1, ρ' ps[k].2) := by simp [hk]
 rw [e1, e2]
 exact h _ (List.mem_map.2 ⟨ps[k], by simp, rfl⟩)
theorem evOp_ok (s : Sim W S σ I F w.heap) (hT : TOk P T) (hm : MdOk W md) {ρ : Operand → A} {ρ' : Operand → Value} {o : Oper} (hρ : ∀ x ∈ o.op.operands, Rel S σ I w.heap (ρ x) (ρ' x)) (hc : ∀ c, Rel S σ I w.heap (.v c) (ρ' (.const c))) {a : A} {S' : Store}
  (h : evOp T md ρ S o = some (a, S')) : ∃ x w', Gives ((execOp ρ' o).run P w) x w' ∧ Step W S σ I F w a S' x w' := by
 have val : ∀ {m : Sem Value} {z : Value} {w' : World}, m.run P w = .ok z w' → Gives ((do pure (Next.value (← m)) : Sem Next).run P w) z w' := fun {m z w'} e => .inl (by simp only [Sem.run_bind, e, Result.andThen_ok, Sem.run_pure])
 obtain ⟨dst, op, ty, pos, after, guard⟩ := o
 cases op with
 | move x =>
  injection h with h; injection h with e1 e2; subst e1 e2
  exact ⟨_, w, .inl rfl, .same s (hρ x (by simp [Op.operands]))⟩
 | assign x =>
  have hx := hρ x (by simp [Op.operands])
  simp only [evOp] at h
  split at h
  ·rename_i c
   exact ⟨ρ' (.const c), w, .inl rfl, asgA_ok s h (hc c)⟩
  ·injection h with h; injection h with e1 e2; subst e1 e2
   exact ⟨_, w, .inl rfl, .same s hx⟩
 | pick c a b =>
  simp only [evOp] at h
  split at h
  ·rename_i t ht
   have hc := hρ c (by simp [Op.operands])
   rw [ht] at hc
   have := relv hc
   injection h with h; injection h with e1 e2; subst e1 e2
   refine ⟨if t then ρ' a else ρ' b, w, .inl ?_, ?_⟩
   ·simp only [execOp, this, asBool, Sem.run_bind, Sem.run_pure, Result.andThen_ok]
   ·cases t
    ·exact .same s (hρ b (by simp [Op.operands]))
    ·exact .same s (hρ a (by simp [Op.operands]))
  ·cases h
 | alloc e =>
  obtain ⟨z, w', h1, h2⟩ := allocA_ok s hT h
  exact ⟨z, w', val h1, h2⟩
 | box e x =>
  obtain ⟨z, w', h1, h2⟩ := boxA_ok (P := P) (e := e) s h (hρ x (by simp [Op.operands]))
  exact ⟨z, w', val h1, h2⟩
 | build t ps =>
  obtain ⟨h1, rfl⟩ := withS_some h
  obtain ⟨p1, p2, p3⟩ := parts_rel (w := w) (S := S) (σ := σ) (I := I) (ρ := ρ) (ρ' := ρ') ps (fun y hy => hρ y (by simpa [Op.operands] using hy))
  obtain ⟨z, h2, h3⟩ := bldA_ok hT h1 p1 p3
  exact ⟨z, w, val h2, .same s h3⟩
 | buildSlice t len ps =>
  obtain ⟨p1, p2, p3⟩ := parts_rel (w := w) (S := S) (σ := σ) (I := I) (ρ := ρ) (ρ' := ρ') ps (fun y hy => hρ y (by simpa [Op.operands] using hy))
  simp only [evOp] at h
  split at h
  ·split at h
   ·rename_i l S₁ h1
    obtain ⟨I₁, F₁, s₁, E₁, q1, q2⟩ := frzPs_ok hm s h1 p2 p3
    have hlen : l.length = (ps.toList.map fun (i, x) => (i, ρ x)).length := by have := congrArg List.length q1; simpa using this
    obtain ⟨z, w', h2, h3⟩ := bslA_ok s₁ hT h (q1.trans p1) (fun k hk => q2 k (by rw [← hlen]; exact hk))
    exact ⟨z, w', val h2, .after s₁ E₁ h3⟩
   ·cases h
  ·obtain ⟨z, w', h2, h3⟩ := bslA_ok s hT h p1 p3
   exact ⟨z, w', val h2, h3⟩
 | load t x =>
  simp only [evOp] at h
  split at h
  ·rename_i ti ht
   split at h
   ·rename_i cs hc
    obtain ⟨h1, rfl⟩ := withS_some h
    obtain ⟨z, h2, h3⟩ := load_ok s hT ht hc h1 (hρ x (by simp [Op.operands]))
    exact ⟨z, w, val h2, .same s h3⟩
   ·cases h
  ·cases h
 | store t x v =>
  obtain ⟨w', h1, h2⟩ := strA_ok s hT hm h (hρ x (by simp [Op.operands])) (hρ v (by simp [Op.operands]))
  exact ⟨undef, w', .inr ⟨by simp only [execOp, Sem.run_bind, h1, Result.andThen_ok, Sem.run_pure], rfl⟩, h2⟩
 | nilCheck x =>
  have hx := hρ x (by simp [Op.operands])
  simp only [evOp] at h
  generalize hv : ρ' x = vx at hx
  split at h
  ·rename_i e; rw [e] at hx
   injection h with h; injection h with e1 e2; subst e1 e2
   have hx2 := hx
   cases hx2 with
   | pt _ _ _ _ ad o ho h2 h3 hf => exact ⟨_, w, .inl (by simp only [execOp]; rw [hv]; rfl), .same s hx⟩
  ·rename_i e; rw [e] at hx
   injection h with h; injection h with e1 e2; subst e1 e2
   have hx2 := hx
   cases hx2 with
   | rp l ad cs ty fr hs hI hb hsz hfl hc => exact ⟨_, w, .inl (by simp only [execOp]; rw [hv]; rfl), .same s hx⟩
  ·cases h
 | binOp op t x y yt =>
  obtain ⟨h1, rfl⟩ := withS_some h
  obtain ⟨z, h2, h3⟩ := binA_ok (X := x) (Y := y) hT h1 (hρ x (by simp [Op.operands])) (hρ y (by simp [Op.operands]))
  exact ⟨z, w, val h2, .same s h3⟩
 | unOp op t x =>
  obtain ⟨h1, rfl⟩ := withS_some h
  obtain ⟨z, h2, h3⟩ := unA_ok (P := P) h1 (hρ x (by simp [Op.operands]))
  exact ⟨z, w, val h2, .same s h3⟩
 | convert sr ds x =>
  have hx := hρ x (by simp [Op.operands])
  simp only [evOp, cvtA] at h
  split at h
  ·rename_i r h1
   injection h with h; injection h with e1 e2; subst e1 e2
   obtain ⟨z, h2, h3⟩ := convA_ok hT h1 hx
   exact ⟨z, w, val h2, .same s h3⟩
  ·split at h
   ·rename_i st e
    rw [e] at hx
    obtain ⟨z, w', h2, h3⟩ := s2bA_ok s hT h hx
    exact ⟨z, w', val h2, h3⟩
   ·rename_i hne
    obtain ⟨h1, rfl⟩ := withS_some h
    obtain ⟨z, h2, h3⟩ := b2sA_ok s hT h1 hx hne
    exact ⟨z, w, val h2, .same s h3⟩
 | makeFunc fn first captured =>
  cases fn with
  | func f =>
   simp only [evOp] at h
   split at h
   ·rename_i hf
    injection h with h; injection h with e1 e2; subst e1 e2
    have hf' : first = #[] := by simpa using hf
    subst hf'
    refine ⟨.func (.func f) #[] (captured.map ρ'), w, .inl ?_, .same s (.fn f _ _ (by simp) fun i hi => ?_)⟩
    ·simp [execOp, Instr.makeFunc]
    ·simp only [List.length_map, Array.length_toList] at hi
     have e1 : (captured.toList.map ρ).getD i .dead = ρ captured[i] := by simp [hi]
     have e2 : (captured.map ρ').getD i undef = ρ' captured[i] := by simp [hi]
     rw [e1, e2]; exact hρ _ (by simp [Op.operands])
   ·cases h
  | _ => simp [evOp] at h
 | makeSlice t l c =>
  obtain ⟨z, w', h1, h2⟩ := mkslA_ok s hT h (hρ l (by simp [Op.operands])) (hρ c (by simp [Op.operands]))
  exact ⟨z, w', val h1, h2⟩
 | slice t x lo hi mx =>
  have hx := hρ x (by simp [Op.operands])
  have hlo := optRel_map (w := w) (S := S) (σ := σ) (I := I) (ρ := ρ) (ρ' := ρ') lo (fun y hy => hρ y (by subst hy; simp [Op.operands]))
  have hhi := optRel_map (w := w) (S := S) (σ := σ) (I := I) (ρ := ρ) (ρ' := ρ') hi (fun y hy => hρ y (by subst hy; simp [Op.operands]))
  have notarr : ∀ mxv z (w' : World), (Instr.slice t (ρ' x) (lo.map ρ') (hi.map ρ') mxv).run P w = .ok z w' → (∃ d, P.underlying t = some d ∧ aggD d = false) → (Instr.sliceAt t (ρ' x) (lo.map ρ') (hi.map ρ') mxv).run P w = .ok z w' := fun mxv z w' e ⟨d, hd, ha⟩ => by
   simp only [Instr.sliceAt, Sem.run_bind, run_underlying hd, Result.andThen_ok]
   cases d <;> first | exact e | (simp [aggD] at ha)
  cases mx with
  | none =>
   simp only [evOp] at h
   split at h
   ·cases h
   ·obtain ⟨h1, rfl⟩ := withS_some h
    obtain ⟨z, h2, h3⟩ := slcA_ok (P := P) s hT h1 hx hlo hhi
    refine ⟨z, w, val (notarr none z w h2 ?_), .same s h3⟩
    unfold slcA at h1
    split at h1
    ·rename_i ti ht
     obtain ⟨d, ud, kd⟩ := und hT ht
     refine ⟨d, ud, ?_⟩
     split at h1
     ·rename_i hk; have := tk_str (kd.symm.trans hk); subst this; rfl
     ·rename_i hk; have := tk_slice (kd.symm.trans hk); subst this; rfl
     ·cases h1
    ·cases h1
  | some m =>
   simp only [evOp] at h
   obtain ⟨z, h2, h3⟩ := sl3A_ok (P := P) s hT h hx (hρ m (by simp [Op.operands])) hlo hhi
   refine ⟨z, w, val (notarr _ z w h2 ?_), h3⟩
   unfold sl3A at h
   split at h
   ·rename_i ti k mm ht hmm
    obtain ⟨d, ud, kd⟩ := und hT ht
    refine ⟨d, ud, ?_⟩
    split at h
    ·rename_i hk; have := tk_slice (kd.symm.trans hk); subst this; rfl
    ·cases h
   ·cases h
 | fieldAddr t x f =>
  obtain ⟨h1, rfl⟩ := withS_some h
  obtain ⟨z, h2, h3⟩ := fadA_ok hT h1 (hρ x (by simp [Op.operands]))
  exact ⟨z, w, val h2, .same s h3⟩
 | field t x f =>
  obtain ⟨h1, rfl⟩ := withS_some h
  obtain ⟨z, h2, h3⟩ := prtA_ok hT h1 (hρ x (by simp [Op.operands]))
  exact ⟨z, w, val h2, .same s h3⟩
 | indexAddr t x i =>
  have hi := hρ i (by simp [Op.operands])
  simp only [evOp] at h
  split at h
  ·rename_i k j e
   rw [e] at hi; have hiv := relv hi
   obtain ⟨h1, rfl⟩ := withS_some h
   obtain ⟨z, h2, h3⟩ := indA_ok (k := k) s hT h1 (hρ x (by simp [Op.operands]))
   refine ⟨z, w, val ?_, .same s h3⟩
   rw [hiv]; exact h2
  ·cases h
 | index t x i =>
  have hi := hρ i (by simp [Op.operands])
  simp only [evOp] at h
  split at h
  ·rename_i k j e
   rw [e] at hi; have hiv := relv hi
   obtain ⟨h1, rfl⟩ := withS_some h
   obtain ⟨z, h2, h3⟩ := idxA_ok (k := k) hT h1 (hρ x (by simp [Op.operands]))
   refine ⟨z, w, val ?_, .same s h3⟩
   rw [hiv]; exact h2
  ·cases h
 | extract x i =>
  obtain ⟨h1, rfl⟩ := withS_some h
  obtain ⟨z, h2, h3⟩ := extA_ok (P := P) h1 (hρ x (by simp [Op.operands]))
  exact ⟨z, w, val h2, .same s h3⟩
 | call c =>
  obtain ⟨callee, args, argTypes⟩ := c
  cases callee with
  | builtin b =>
   simp only [evOp] at h
   obtain ⟨al⟩ := args
   obtain ⟨tl⟩ := argTypes
   simp only at h
   have bi : ∀ {z : Value} {w' : World}, Gives ((builtin b tl.toArray ty (al.toArray.map fun | .const _ => true | _ => false) (al.toArray.map ρ')).run P w) z w' →
     Gives ((execOp ρ' ⟨dst, .call ⟨.builtin b, ⟨al⟩, ⟨tl⟩⟩, ty, pos, after, guard⟩).run P w) z w' := fun hg => by
    simp only [execOp, resolve, Sem.run_bind, Sem.run_pure, Result.andThen_ok, invoke]
    exact hg
   split at h
   ·rename_i x t
    cases b <;> simp only at h <;> first | cases h; done | skip
    case len =>
     split at h
     ·rename_i n hn
      injection h with h; injection h with e1 e2; subst e1 e2
      have := lenA_ok (ty := ty) hT hn (hρ x (by simp [Op.operands, Call.operands]))
      exact ⟨_, w, bi (val (by simpa using this)), .same s (.v _)⟩
     ·cases h
    case clear =>
     obtain ⟨z, w', h2, h3⟩ := clrA_ok (ty := ty) s hT hm.wr h (hρ x (by simp [Op.operands, Call.operands]))
     exact ⟨z, w', bi (val (by simpa using h2)), h3⟩
   ·rename_i x y t u
    have hx := hρ x (by simp [Op.operands, Call.operands])
    have hy := hρ y (by simp [Op.operands, Call.operands])
    cases b <;> simp only at h <;> first | cases h; done | skip
    case append =>
     obtain ⟨z, w', h2, h3⟩ := appT_ok (rT := ty) s hT hm h hx hy
     exact ⟨z, w', bi (val (by simpa using h2)), h3⟩
    case copy =>
     obtain ⟨z, w', h2, h3⟩ := copyA_ok (t2 := u) (ty := ty) s hT hm.wr h hx hy
     exact ⟨z, w', bi (val (by simpa using h2)), h3⟩
    case max =>
     obtain ⟨h1, rfl⟩ := withS_some h
     obtain ⟨z, h2, h3⟩ := mmA_ok (P := P) (ts := #[t, u]) (ty := ty) h1 hx hy
     exact ⟨z, w, bi (val (by simpa using h2)), .same s h3⟩
    case min =>
     obtain ⟨h1, rfl⟩ := withS_some h
     obtain ⟨z, h2, h3⟩ := mmA_ok (P := P) (ts := #[t, u]) (ty := ty) h1 hx hy
     exact ⟨z, w, bi (val (by simpa using h2)), .same s h3⟩
   ·cases h
  | _ => simp [evOp] at h
 | _ => simp [evOp] at h
end
end Go.Proofs.YtomklniddinhnaaE
