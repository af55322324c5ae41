/- Part of the proof: an evaluator of the program's functions, and what it comes to (YtdpaijnbikclgaaDoorEFin). -/
import Derived.Test.YtdpaijnbikclgaaDoorEEvOp
set_option linter.unusedVariables false
set_option linter.unusedSectionVars false
set_option linter.unusedSimpArgs false
namespace Go.Proofs.YtdpaijnbikclgaaDoorE
open Go
/-! ### a call: what goes in -/
/-- a slice that is handed over to be read -/
def dpC (S : Store) : A → Option (A × List Nat)
  | .sl id lo hi ver => match S[id]? with
    | some o => if o.rows.length = ver ∧ flatRowsB o.rows = true then some (.ro o.n ((o.rows.take hi).drop lo), if o.st = 0 then [id] else []) else none
    | none => none
  | a => some (a, [])
def dpL (S : Store) : List A → Option (List A × List Nat)
  | [] => some ([], [])
  | a :: l => match dpC S a with
    | some (a', d) => match dpL S l with
      | some (l', d') => some (a' :: l', d ++ d')
      | none => none
    | none => none
def dpV (S : Store) : A → Option (A × List Nat)
  | .ag cs => match dpL S cs with | some (cs, d) => some (.ag cs, d) | none => none
  | a => dpC S a
/-- arguments; a mark 'true' leaves one as it is -/
def dpArgs (S : Store) : List Bool → List A → Option (List A × List Nat)
  | _, [] => some ([], [])
  | ms, a :: l => match (if ms.headD false then some (a, []) else dpV S a) with
    | some (a', d) => match dpArgs S ms.tail l with
      | some (l', d') => some (a' :: l', d ++ d')
      | none => none
    | none => none
def idsC : A → List Nat
  | .sl id .. => [id]
  | .pt id .. => [id]
  | _ => []
/-- the objects that a value leads to -/
def idsV : A → List Nat
  | .ag cs => cs.flatMap idsC
  | .fn _ caps => caps.flatMap idsC
  | a => idsC a
section
variable {P : Program} {T : Nat → Option TI} {W : Fm} {S : Store} {σ : Place} {I F : Nat → Prop} {w : World} {md : Md} {h : Array Obj}
theorem Rel.mono {I' : Nat → Prop} (hi : ∀ b, I b → I' b) {a : A} {x : Value} (r : Rel S σ I h a x) : Rel S σ I' h a x := by
  induction r with
  | v x => exact .v x
  | dead x => exact .dead x
  | ag cs xs hl hc ih => exact .ag cs xs hl ih
  | ro0 n a c => exact .ro0 n a c
  | ro n rows ad c cs ty fr hs hI hb hn hsz hcap hfl hc ih => exact .ro n rows ad c cs ty fr hs (hi _ hI) hb hn hsz hcap hfl ih
  | rp l ad cs ty fr hs hI hb hsz hfl hc ih => exact .rp l ad cs ty fr hs (hi _ hI) hb hsz hfl ih
  | sl id lo hi ver a c o ho h1 h2 h3 hf => exact .sl id lo hi ver a c o ho h1 h2 h3 hf
  | pt id row off ver ad o ho h2 h3 hf => exact .pt id row off ver ad o ho h2 h3 hf
  | fn f caps vs hl hc ih => exact .fn f caps vs hl ih
  | tu l vs hl hc ih => exact .tu l vs hl ih
def DB (σ : Place) (D : List Nat) (b : Nat) : Prop := ∃ id, id ∈ D ∧ ∃ ad, σ id = some ad ∧ ad.block = b
theorem dpC_ok (s : Sim W S σ I F w.heap) {a r : A} {d D : List Nat} {x : Value} (h : dpC S a = some (r, d)) (ra : Rel S σ I w.heap a x) (hd : ∀ i ∈ d, i ∈ D) : Rel S σ (fun b => I b ∨ DB σ D b) w.heap r x := by
  unfold dpC at h
  split at h
  · rename_i id lo hi ver
    split at h
    · rename_i o ho
      split at h
      · rename_i hv
        injection h with h; injection h with e1 e2; subst e1
        refine ro_of_obj s ho hv.1 ra (flatRowsB_ok hv.2) (fun ad ha => ?_) (fun _ _ => rfl) (fun a x _ h => h.mono fun b hb => .inl hb)
        by_cases hst : o.st = 0
        · rw [if_pos hst] at e2; subst e2
          exact .inr ⟨id, hd id (by simp), ad, ha, rfl⟩
        · exact .inl (((s.ob id o ho).there ad ha).2.2.1 hst)
      · cases h
    · cases h
  · injection h with h; injection h with e1 e2; subst e1
    exact ra.mono fun b hb => .inl hb
theorem dpC_ids {a r : A} {d : List Nat} (h : dpC S a = some (r, d)) : ∀ i ∈ d, ∃ o, S[i]? = some o := by
  unfold dpC at h
  split at h
  · split at h
    · rename_i o ho
      split at h
      · injection h with h; injection h with e1 e2; subst e2
        intro i hi; split at hi
        · simp at hi; subst hi; exact ⟨o, ho⟩
        · simp at hi
      · cases h
    · cases h
  · injection h with h; injection h with e1 e2; subst e2; intro i hi; simp at hi
theorem dpL_ok (s : Sim W S σ I F w.heap) {D : List Nat} : ∀ {cs l : List A} {d : List Nat} {xs : List Value}, dpL S cs = some (l, d) → (∀ i ∈ d, i ∈ D) → (∀ j, j < cs.length → Rel S σ I w.heap (cs.getD j .dead) (xs.getD j undef)) →
    l.length = cs.length ∧ ∀ j, j < cs.length → Rel S σ (fun b => I b ∨ DB σ D b) w.heap (l.getD j .dead) (xs.getD j undef)
  | [], l, d, xs, h, hd, hr => by injection h with h; injection h with e1 e2; subst e1; exact ⟨rfl, fun j hj => by simp at hj⟩
  | a :: cs, l, d, xs, h, hd, hr => by
    simp only [dpL] at h
    split at h
    · rename_i a' d1 h1
      split at h
      · rename_i l' d2 h2
        injection h with h; injection h with e1 e2; subst e1 e2
        have r1 := dpC_ok s h1 (hr 0 (by simp)) (fun i hi => hd i (by simp [hi]))
        obtain ⟨l2, r2⟩ := dpL_ok s (xs := xs.tail) h2 (fun i hi => hd i (by simp [hi])) (fun j hj => by have := hr (j + 1) (by simp; omega); simpa [List.getD_eq_getElem?_getD] using this)
        refine ⟨by simp [l2], fun j hj => ?_⟩
        cases j with
        | zero => exact r1
        | succ j => have := r2 j (by simp at hj; omega); simpa [List.getD_eq_getElem?_getD] using this
      · cases h
    · cases h
theorem dpL_ids : ∀ {cs l : List A} {d : List Nat}, dpL S cs = some (l, d) → ∀ i ∈ d, ∃ o, S[i]? = some o
  | [], l, d, h => by injection h with h; injection h with e1 e2; subst e2; intro i hi; simp at hi
  | a :: cs, l, d, h => by
    simp only [dpL] at h
    split at h
    · rename_i a' d1 h1
      split at h
      · rename_i l' d2 h2
        injection h with h; injection h with e1 e2; subst e2
        intro i hi
        rcases List.mem_append.1 hi with hi | hi
        · exact dpC_ids h1 i hi
        · exact dpL_ids h2 i hi
      · cases h
    · cases h
theorem dpV_ok (s : Sim W S σ I F w.heap) {a r : A} {d D : List Nat} {x : Value} (h : dpV S a = some (r, d)) (ra : Rel S σ I w.heap a x) (hd : ∀ i ∈ d, i ∈ D) : Rel S σ (fun b => I b ∨ DB σ D b) w.heap r x := by
  unfold dpV at h
  split at h
  · split at h
    · rename_i l d' h1
      injection h with h; injection h with e1 e2; subst e1 e2
      cases ra with
      | ag cs xs hl hc =>
        obtain ⟨l', r'⟩ := dpL_ok s (xs := xs.toList) h1 hd (fun j hj => by have := hc j hj; simpa [show j < xs.size by omega] using this)
        refine .ag l xs (by omega) fun j hj => ?_
        have := r' j (by omega)
        simpa [show j < xs.size by omega] using this
    · cases h
  · exact dpC_ok s h ra hd
theorem dpV_ids {a r : A} {d : List Nat} (h : dpV S a = some (r, d)) : ∀ i ∈ d, ∃ o, S[i]? = some o := by
  unfold dpV at h
  split at h
  · split at h
    · rename_i l d' h1
      injection h with h; injection h with e1 e2; subst e2
      exact dpL_ids h1
    · cases h
  · exact dpC_ids h
theorem dpArgs_ok (s : Sim W S σ I F w.heap) {D : List Nat} : ∀ {ms : List Bool} {as l : List A} {d : List Nat} {xs : List Value}, dpArgs S ms as = some (l, d) → (∀ i ∈ d, i ∈ D) → (∀ j, j < as.length → Rel S σ I w.heap (as.getD j .dead) (xs.getD j undef)) →
    l.length = as.length ∧ ∀ j, j < as.length → Rel S σ (fun b => I b ∨ DB σ D b) w.heap (l.getD j .dead) (xs.getD j undef)
  | ms, [], l, d, xs, h, hd, hr => by cases ms <;> (injection h with h; injection h with e1 e2; subst e1; exact ⟨rfl, fun j hj => by simp at hj⟩)
  | ms, a :: as, l, d, xs, h, hd, hr => by
    simp only [dpArgs] at h
    split at h
    · rename_i a' d1 h1
      split at h
      · rename_i l' d2 h2
        injection h with h; injection h with e1 e2; subst e1 e2
        have r1 : Rel S σ (fun b => I b ∨ DB σ D b) w.heap a' (xs.getD 0 undef) := by
          split at h1
          · injection h1 with h1; injection h1 with e1 e2; subst e1; exact (hr 0 (by simp)).mono fun b hb => .inl hb
          · exact dpV_ok s h1 (hr 0 (by simp)) (fun i hi => hd i (by simp [hi]))
        obtain ⟨l2, r2⟩ := dpArgs_ok s (xs := xs.tail) h2 (fun i hi => hd i (by simp [hi])) (fun j hj => by have := hr (j + 1) (by simp; omega); simpa [List.getD_eq_getElem?_getD] using this)
        refine ⟨by simp [l2], fun j hj => ?_⟩
        cases j with
        | zero => exact r1
        | succ j => have := r2 j (by simp at hj; omega); simpa [List.getD_eq_getElem?_getD] using this
      · cases h
    · cases h
theorem dpArgs_ids : ∀ {ms : List Bool} {as l : List A} {d : List Nat}, dpArgs S ms as = some (l, d) → ∀ i ∈ d, ∃ o, S[i]? = some o
  | ms, [], l, d, h => by cases ms <;> (injection h with h; injection h with e1 e2; subst e2; intro i hi; simp at hi)
  | ms, a :: as, l, d, h => by
    simp only [dpArgs] at h
    split at h
    · rename_i a' d1 h1
      split at h
      · rename_i l' d2 h2
        injection h with h; injection h with e1 e2; subst e2
        intro i hi
        rcases List.mem_append.1 hi with hi | hi
        · split at h1
          · injection h1 with h1; injection h1 with e1 e2; subst e2; simp at hi
          · exact dpV_ids h1 i hi
        · exact dpArgs_ids h2 i hi
      · cases h
    · cases h
/-! ### the callee's frame -/
def calleeW (S : Store) (mu : List Nat) (md : Md) (N : Nat) : Fm := ⟨fun id => S.length ≤ id ∨ (id ∈ mu ∧ md.wr id = true), S.length, N⟩
def calleeF (S : Store) (σ : Place) (F : Nat → Prop) (Wc : Nat → Prop) (b : Nat) : Prop := F b ∨ ∃ id o ad, S[id]? = some o ∧ ¬ Wc id ∧ σ id = some ad ∧ ad.block = b
theorem callee_sim (s : Sim W S σ I F h) (hm : MdOk W md) {mu D : List Nat} (hD : ∀ i ∈ D, ∃ o, S[i]? = some o) (hdis : ∀ i ∈ D, i ∉ mu) :
    Sim (calleeW S mu md h.size) S σ (fun b => I b ∨ DB σ D b) (calleeF S σ F (calleeW S mu md h.size).w) h := by
  have lt : ∀ id o, S[id]? = some o → id < S.length := fun id o ho => (List.getElem?_eq_some_iff.1 ho).1
  have blt : ∀ id o ad, S[id]? = some o → σ id = some ad → ad.block < h.size := fun id o ad ho ha => by
    obtain ⟨_, _, _, cs, ty, fr, k4, _⟩ := (s.ob id o ho).there ad ha
    exact (Array.getElem?_eq_some_iff.1 k4).1
  refine ⟨fun id o ho => ?_, s.inj, fun b hb => ?_, fun b hb => ?_, fun id o ad hm' ho ha => ?_, Nat.le_refl _⟩
  · have q := s.ob id o ho
    refine ⟨q.none_, q.len, fun ad ha => ?_⟩
    obtain ⟨k1, k2, k3, cs, ty, fr, k4, k5, k6, k7⟩ := q.there ad ha
    refine ⟨k1, fun hw hst hF => ?_, fun hst => .inl (k3 hst), cs, ty, fr, k4, k5, k6, fun i j hi hj => (k7 i j hi hj).mono fun b hb => .inl hb⟩
    rcases hF with hF | ⟨id', o', ad', ho', hn, ha', e⟩
    · rcases hw with hw | ⟨_, hw⟩
      · have := lt id o ho; have hw' : S.length ≤ id := hw; omega
      · exact k2 (hm.wr _ hw) hst hF
    · by_cases ei : id = id'
      · subst ei; exact hn hw
      · exact s.inj id id' o o' ad ad' ho ho' ha ha' ei e.symm
  · rcases hb with hb | ⟨id, o, ad, ho, _, ha, e⟩
    · exact s.imm b hb
    · exact e ▸ blt id o ad ho ha
  · rcases hb with hb | ⟨id, hid, ad, ha, e⟩
    · exact .inl (s.sub b hb)
    · obtain ⟨o, ho⟩ := hD id hid
      refine .inr ⟨id, o, ad, ho, fun hw => ?_, ha, e⟩
      rcases hw with hw | ⟨hw, _⟩
      · have := lt id o ho; have hw' : S.length ≤ id := hw; omega
      · exact hdis id hid hw
  · have := lt id o ho; simp only [calleeW] at hm'; omega
theorem callee_md (mu : List Nat) (N : Nat) (fz : Bool) : MdOk (calleeW S mu md N) ⟨fun id => decide (S.length ≤ id) || (mu.contains id && md.wr id), S.length, fz⟩ := by
  refine ⟨fun id h => ?_, rfl⟩
  simp only [Bool.or_eq_true, decide_eq_true_eq, Bool.and_eq_true, List.contains_iff_mem] at h
  exact h
/-! ### what comes back -/
theorem Rel.flat {S' : Store} {σ' : Place} {I' : Nat → Prop} (hi : ∀ b, I b → I' b) {a : A} {x : Value} (r : Rel S σ I h a x) : flatC a = true → Rel S' σ' I' h a x := by
  induction r with
  | v x => exact fun _ => .v x
  | dead x => exact fun _ => .dead x
  | ro0 n a c => exact fun _ => .ro0 n a c
  | ro n rows ad c cs ty fr hs hI hb hn hsz hcap hfl hc ih => exact fun _ => .ro n rows ad c cs ty fr hs (hi _ hI) hb hn hsz hcap hfl fun i j h1 h2 => ih i j h1 h2 (hfl i j)
  | rp l ad cs ty fr hs hI hb hsz hfl hc ih => exact fun _ => .rp l ad cs ty fr hs (hi _ hI) hb hsz hfl fun j hj => ih j hj (hfl j)
  | _ => intro hf; cases hf
/-- leads to no object from m on -/
def okC (m : Nat) : A → Bool
  | .v _ | .ro .. | .rp .. | .dead => true
  | .sl id .. => decide (id < m)
  | .pt id .. => decide (id < m)
  | .fn _ caps => caps.isEmpty
  | _ => false
/-- tells no row by its elements -/
def noRoC : A → Bool
  | .v _ | .dead | .sl .. | .pt .. => true
  | .fn _ caps => caps.isEmpty
  | .ro _ rows => rows.isEmpty
  | _ => false
theorem Rel.change {S₁ S₂ : Store} {σ₁ σ₂ : Place} {I₁ I₂ : Nat → Prop} {m : Nat} {a : A} {x : Value} (hok : okC m a = true) (hro : noRoC a = true ∨ ∀ b, I₁ b → I₂ b)
    (hS : ∀ id o, id < m → S₁[id]? = some o → ∃ o', S₂[id]? = some o' ∧ o'.n = o.n ∧ o'.rows = o.rows ∧ σ₂ id = σ₁ id) (r : Rel S₁ σ₁ I₁ h a x) : Rel S₂ σ₂ I₂ h a x := by
  have r0 := r
  cases r with
  | v x => exact .v x
  | dead x => exact .dead x
  | ag cs xs hl hc => cases hok
  | tu l vs hl hc => cases hok
  | ro0 n a c => exact .ro0 n a c
  | ro n rows ad c cs ty fr hs hI hb hn hsz hcap hfl hc =>
    rcases hro with hro | hro
    · have : rows = [] := by simpa [noRoC] using hro
      subst this; exact .ro0 _ _ _
    · exact r0.flat hro rfl
  | rp l ad cs ty fr hs hI hb hsz hfl hc =>
    rcases hro with hro | hro
    · cases hro
    · exact r0.flat hro rfl
  | sl id lo hi ver a c o ho h1 h2 h3 hf =>
    obtain ⟨o', k1, k2, k3, k4⟩ := hS id o (by simpa [okC] using hok) ho
    exact .sl id lo hi ver a c o' k1 h1 h2 (by rw [k3]; exact h3) (by rw [k2, k3, k4]; exact hf)
  | pt id row off ver ad o ho h2 h3 hf =>
    obtain ⟨o', k1, k2, k3, k4⟩ := hS id o (by simpa [okC] using hok) ho
    exact .pt id row off ver ad o' k1 h2 (by rw [k3]; exact h3) (by rw [k2, k3, k4]; exact hf)
  | fn f caps vs hl hc =>
    have : caps = [] := by simpa [okC] using hok
    subst this
    exact .fn f [] vs hl fun i hi => by simp at hi
abbrev News := List (Ob × Nat × Nat)
/-- a slice of the callee's own becomes one of the caller's -/
def rlC (S₁ : Store) (m : Nat) : A → News → Option (A × News)
  | .sl id lo hi ver, acc => if id < m then some (.sl id lo hi ver, acc) else match S₁[id]? with
    | some o => if o.rows.length = ver ∧ (acc.any fun p => p.2.1 == id) = false ∧ flatRowsB ((o.rows.take hi).drop lo) = true then
        some (.sl (m + acc.length) 0 (hi - lo) (hi - lo), acc ++ [(⟨o.n, (o.rows.take hi).drop lo, o.st, false⟩, id, lo)]) else none
    | none => none
  | .pt id row off ver, acc => if id < m then some (.pt id row off ver, acc) else none
  | .fn f caps, acc => if caps.isEmpty then some (.fn f caps, acc) else none
  | .v x, acc => some (.v x, acc)
  | .ro n rows, acc => some (.ro n rows, acc)
  | .rp l, acc => some (.rp l, acc)
  | .dead, acc => some (.dead, acc)
  | _, _ => none
def rlL (S₁ : Store) (m : Nat) : List A → News → Option (List A × News)
  | [], acc => some ([], acc)
  | a :: l, acc => match rlC S₁ m a acc with
    | some (a', acc₁) => match rlL S₁ m l acc₁ with
      | some (l', acc₂) => some (a' :: l', acc₂)
      | none => none
    | none => none
def rlV (S₁ : Store) (m : Nat) : A → News → Option (A × News)
  | .ag cs, acc => match rlL S₁ m cs acc with | some (cs, acc) => some (.ag cs, acc) | none => none
  | a, acc => rlC S₁ m a acc
def rlVs (S₁ : Store) (m : Nat) : List A → News → Option (List A × News)
  | [], acc => some ([], acc)
  | a :: l, acc => match rlV S₁ m a acc with
    | some (a', acc₁) => match rlVs S₁ m l acc₁ with
      | some (l', acc₂) => some (a' :: l', acc₂)
      | none => none
    | none => none
/-- where what comes back lies -/
def newPlace (σ₁ : Place) (m : Nat) (news : News) (S₁ : Store) : Place := fun id => if id < m then σ₁ id else match news[id - m]? with
  | some (o, src, lo) => (σ₁ src).map fun ad => ⟨ad.block, ad.off + lo * o.n, none⟩
  | none => none
/-- what holds of the list of what comes back -/
structure NewsOk (S₁ : Store) (m : Nat) (news : News) : Prop where
  src : ∀ (k : Nat) (o : Ob) (i lo : Nat), news[k]? = some (o, i, lo) → m ≤ i ∧ flatRows o.rows ∧ ∃ o₁ hi, S₁[i]? = some o₁ ∧ o.n = o₁.n ∧ o.st = o₁.st ∧ lo ≤ hi ∧ hi ≤ o₁.rows.length ∧ o.rows = (o₁.rows.take hi).drop lo
  inj : ∀ (k k' : Nat) (o o' : Ob) (i lo lo' : Nat), news[k]? = some (o, i, lo) → news[k']? = some (o', i, lo') → k = k'
theorem rlC_news {S₁ : Store} {σ₁ : Place} {I₁ : Nat → Prop} {m : Nat} {a r : A} {x : Value} {acc acc' : News} (h1 : rlC S₁ m a acc = some (r, acc')) (ra : Rel S₁ σ₁ I₁ h a x) (ok : NewsOk S₁ m acc) : NewsOk S₁ m acc' ∧ ∃ l, acc' = acc ++ l := by
  unfold rlC at h1
  split at h1
  · rename_i id lo hi ver
    split at h1
    · injection h1 with h1; injection h1 with e1 e2; subst e2; exact ⟨ok, [], by simp⟩
    · rename_i hm
      split at h1
      · rename_i o ho
        split at h1
        · rename_i hh
          injection h1 with h1; injection h1 with e1 e2; subst e2
          refine ⟨⟨fun k o' i lo' hk => ?_, fun k k' o1 o2 i l1 l2 hk hk' => ?_⟩, _, rfl⟩
          · rw [getElem?_snoc] at hk
            split at hk
            · injection hk with hk; injection hk with e1 e2; injection e2 with e2 e3; subst e1 e2 e3
              cases ra with
              | sl _ _ _ _ a c o₁ ho₁ q1 q2 q3 hf =>
                exact ⟨by omega, flatRowsB_ok hh.2.2, o, hi, ho, rfl, rfl, q1, by omega, rfl⟩
            · exact ok.src k o' i lo' hk
          · have no : ∀ k o l, acc[k]? = some (o, id, l) → False := fun k o l hk => by
              have h2 := hh.2.1
              have : (acc.any fun p => p.2.1 == id) = true := List.any_eq_true.2 ⟨(o, id, l), List.mem_of_getElem? hk, by simp⟩
              rw [this] at h2; cases h2
            rw [getElem?_snoc] at hk hk'
            split at hk
            · injection hk with hk; injection hk with e1 e2; injection e2 with e2 e3; subst e2
              split at hk'
              · omega
              · exact (no _ _ _ hk').elim
            · split at hk'
              · injection hk' with hk'; injection hk' with e1 e2; injection e2 with e2 e3; subst e2
                exact (no _ _ _ hk).elim
              · exact ok.inj _ _ _ _ _ _ _ hk hk'
        · cases h1
      · cases h1
  · split at h1
    · injection h1 with h1; injection h1 with e1 e2; subst e2; exact ⟨ok, [], by simp⟩
    · cases h1
  · split at h1
    · injection h1 with h1; injection h1 with e1 e2; subst e2; exact ⟨ok, [], by simp⟩
    · cases h1
  · injection h1 with h1; injection h1 with e1 e2; subst e2; exact ⟨ok, [], by simp⟩
  · injection h1 with h1; injection h1 with e1 e2; subst e2; exact ⟨ok, [], by simp⟩
  · injection h1 with h1; injection h1 with e1 e2; subst e2; exact ⟨ok, [], by simp⟩
  · injection h1 with h1; injection h1 with e1 e2; subst e2; exact ⟨ok, [], by simp⟩
  · cases h1
/-- what comes back, told to the caller -/
theorem rlC_rel {S₁ S₂ : Store} {σ₁ : Place} {I₁ I₂ : Nat → Prop} {m : Nat} {a r : A} {x : Value} {acc acc' news : News} (h1 : rlC S₁ m a acc = some (r, acc')) (ra : Rel S₁ σ₁ I₁ h a x) (hl : ∃ l, news = acc' ++ l)
    (hS : ∀ id o, id < m → S₁[id]? = some o → ∃ o', S₂[id]? = some o' ∧ o'.n = o.n ∧ o'.rows = o.rows ∧ newPlace σ₁ m news S₁ id = σ₁ id)
    (hN : ∀ (k : Nat) (o : Ob) (i lo : Nat), news[k]? = some (o, i, lo) → S₂[m + k]? = some o) (hro : noRoC r = true ∨ ∀ b, I₁ b → I₂ b) : Rel S₂ (newPlace σ₁ m news S₁) I₂ h r x := by
  unfold rlC at h1
  split at h1
  · rename_i id lo hi ver
    split at h1
    · rename_i hm
      injection h1 with h1; injection h1 with e1 e2; subst e1 e2
      exact ra.change (m := m) (by simp [okC, hm]) hro hS
    · rename_i hm
      split at h1
      · rename_i o ho
        split at h1
        · rename_i hh
          injection h1 with h1; injection h1 with e1 e2; subst e1 e2
          obtain ⟨l, rfl⟩ := hl
          cases ra with
          | sl _ _ _ _ a c o₁ ho₁ q1 q2 q3 hf =>
            rw [ho] at ho₁; injection ho₁ with ho₁; subst ho₁
            have hk : (acc ++ [((⟨o.n, (o.rows.take hi).drop lo, o.st, false⟩ : Ob), id, lo)] ++ l)[acc.length]? = some ((⟨o.n, (o.rows.take hi).drop lo, o.st, false⟩ : Ob), id, lo) := by simp
            have hlen : ((o.rows.take hi).drop lo).length = hi - lo := by simp; omega
            have e0 : hi - lo = hi - lo - 0 := by omega
            rw [e0]
            refine .sl (m + acc.length) 0 (hi - lo) (hi - lo) a c _ (hN _ _ _ _ hk) (by omega) (by omega) (by simp only [hlen]; omega) fun _ => ?_
            have hp : newPlace σ₁ m (acc ++ [((⟨o.n, (o.rows.take hi).drop lo, o.st, false⟩ : Ob), id, lo)] ++ l) S₁ (m + acc.length) = (σ₁ id).map fun ad => ⟨ad.block, ad.off + lo * o.n, none⟩ := by
              simp only [newPlace]; rw [if_neg (by omega), Nat.add_sub_cancel_left, hk]
            have hff := hf hh.1.symm
            clear hf
            rcases hff with ⟨g1, g2, g3⟩ | ⟨ad, cs, ty, fr, g1, g2, g3, g4, g5, g6⟩
            · exact .inl ⟨by rw [hp, g1]; rfl, g2, rfl⟩
            · refine .inr ⟨⟨ad.block, ad.off + lo * o.n, none⟩, cs, ty, fr, by rw [hp, g1]; rfl, rfl, fun hc => by rw [g3 hc]; simp, g4, ?_, by omega⟩
              simp only [Nat.zero_add]
              rw [Nat.add_mul] at g5; omega
        · cases h1
      · cases h1
  · rename_i id row off ver
    split at h1
    · rename_i hm
      injection h1 with h1; injection h1 with e1 e2; subst e1 e2
      exact ra.change (m := m) (by simp [okC, hm]) hro hS
    · cases h1
  · split at h1
    · rename_i hc
      injection h1 with h1; injection h1 with e1 e2; subst e1 e2
      exact ra.change (m := m) (by simpa [okC] using hc) hro hS
    · cases h1
  · injection h1 with h1; injection h1 with e1 e2; subst e1 e2; exact ra.change (m := m) rfl hro hS
  · injection h1 with h1; injection h1 with e1 e2; subst e1 e2; exact ra.change (m := m) rfl hro hS
  · injection h1 with h1; injection h1 with e1 e2; subst e1 e2; exact ra.change (m := m) rfl hro hS
  · injection h1 with h1; injection h1 with e1 e2; subst e1 e2; exact ra.change (m := m) rfl hro hS
  · cases h1
end
end Go.Proofs.YtdpaijnbikclgaaDoorE
