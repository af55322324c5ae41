/- Part of the proof: an evaluator (YtdpaijnbikclgaaDoorEGc). -/
import Derived.Test.YtdpaijnbikclgaaDoorEKeep
set_option linter.unusedVariables false
set_option linter.unusedSectionVars false
set_option linter.unusedSimpArgs false
namespace Go.Proofs.YtdpaijnbikclgaaDoorE
open Go
abbrev Env := Nat → A
def Env.set (e : Env) (d : Nat) (a : A) : Env := fun t => if t = d then a else e t
def lowV (m : Nat) : A → Bool
 | .ag cs => cs.all (okC m)
 | .fn _ caps => caps.all (okC m)
 | a => okC m a
def mkE : List (Nat × A) → Env
 | [], _ => .dead
 | (k, a) :: l, t => if t = k then a else mkE l t
def selE (ks : List Nat) (e : Env) : Env := mkE (ks.map fun t => (t, e t))
def GcOk (S S₁ : Store) : Prop := ∀ i o, i < S.length → S₁[i]? = some o → S[i]? = some o ∨ rowsAll (okC S.length) o.rows = true
def lpE : Option (List Nat) → Env → Env
 | none, e => e
 | some ks, e => selE ks e
open Classical in
noncomputable def lpG : Option (List Nat) → Store → Env → Store → Store
 | none, _, _, S₁ => S₁
 | some ks, S, e, S₁ => if (ks.all fun t => lowV S.length (e t)) = true ∧ GcOk S S₁ then S₁.take S.length else S₁
section
variable {W : Fm} {S S₁ : Store} {σ σ₁ : Place} {I F I₁ F₁ : Nat → Prop} {h h₁ : Array Obj}
theorem mkE_sel (ks : List Nat) (e : Env) (t : Nat) : selE ks e t = e t ∧ t ∈ ks ∨ selE ks e t = .dead := by
 unfold selE
 induction ks with
 | nil => exact .inr rfl
 | cons k ks ih =>
  simp only [List.map_cons, mkE]
  split
  ·rename_i h; subst h; exact .inl ⟨rfl, by simp⟩
  ·rcases ih with ⟨h1, h2⟩ | h1
   ·exact .inl ⟨h1, by simp [h2]⟩
   ·exact .inr h1
theorem Rel.take_old {m : Nat} (hm : S.length = m) {a : A} {x x₀ : Value} (r : Rel S₁ σ₁ I₁ h₁ a x) (r₀ : Rel S σ I h a x₀) : Rel (S₁.take m) σ₁ I₁ h₁ a x := by
 have lt : ∀ id o, S[id]? = some o → id < m := fun id o ho => hm ▸ (List.getElem?_eq_some_iff.1 ho).1
 have tk : ∀ id o, id < m → S₁[id]? = some o → (S₁.take m)[id]? = some o := fun id o hi ho => by rw [List.getElem?_take, if_pos hi]; exact ho
 induction r generalizing x₀ with
 | v x => exact .v x
 | dead x => exact .dead x
 | ag cs xs hl hc ih =>
  cases r₀ with
  | ag _ ys hl' hc' => exact .ag cs xs hl fun i hi => ih i hi (hc' i hi)
 | tu cs xs hl hc ih =>
  cases r₀ with
  | tu _ ys hl' hc' => exact .tu cs xs hl fun i hi => ih i hi (hc' i hi)
 | fn f cs xs hl hc ih =>
  cases r₀ with
  | fn _ _ ys hl' hc' => exact .fn f cs xs hl fun i hi => ih i hi (hc' i hi)
 | ro0 n a c => exact .ro0 n a c
 | ro n rows ad c cs ty fr hs hI hb hn hsz hcap hfl hc ih => exact (Rel.ro n rows ad c cs ty fr hs hI hb hn hsz hcap hfl hc).flat (fun _ h => h) rfl
 | rp l ad cs ty fr hs hI hb hsz hfl hc ih => exact (Rel.rp l ad cs ty fr hs hI hb hsz hfl hc).flat (fun _ h => h) rfl
 | sl id lo hi ver a c o ho h1 h2 h3 hf =>
  cases r₀ with
  | sl _ _ _ _ _ _ o' ho' => exact .sl id lo hi ver a c o (tk id o (lt id o' ho') ho) h1 h2 h3 hf
 | pt id row off ver ad o ho h2 h3 hf =>
  cases r₀ with
  | pt _ _ _ _ _ o' ho' => exact .pt id row off ver ad o (tk id o (lt id o' ho') ho) h2 h3 hf
theorem take_hS (m : Nat) : ∀ id o, id < m → S₁[id]? = some o → ∃ o', (S₁.take m)[id]? = some o' ∧ o'.n = o.n ∧ o'.rows = o.rows ∧ σ₁ id = σ₁ id := fun id o hi ho => ⟨o, by rw [List.getElem?_take, if_pos hi]; exact ho, rfl, rfl, rfl⟩
theorem lowV_rel {m : Nat} {a : A} {x : Value} (hl : lowV m a = true) (r : Rel S₁ σ₁ I₁ h₁ a x) : Rel (S₁.take m) σ₁ I₁ h₁ a x := by
 have one : ∀ {a : A} {x : Value}, okC m a = true → Rel S₁ σ₁ I₁ h₁ a x → Rel (S₁.take m) σ₁ I₁ h₁ a x := fun hk r => r.change hk (.inr fun _ h => h) (take_hS m)
 cases r with
 | ag cs xs hl' hc => exact .ag cs xs hl' fun i hi => one (List.all_eq_true.1 hl _ (by simp [hi])) (hc i hi)
 | fn f cs xs hl' hc => exact .fn f cs xs hl' fun i hi => one (List.all_eq_true.1 hl _ (by simp [hi])) (hc i hi)
 | v x => exact .v x
 | dead x => exact .dead x
 | tu => cases hl
 | ro0 n a c => exact .ro0 n a c
 | ro n rows ad c cs ty fr hs hI hb hn hsz hcap hfl hc => exact (Rel.ro n rows ad c cs ty fr hs hI hb hn hsz hcap hfl hc).flat (fun _ h => h) rfl
 | rp l ad cs ty fr hs hI hb hsz hfl hc => exact (Rel.rp l ad cs ty fr hs hI hb hsz hfl hc).flat (fun _ h => h) rfl
 | sl id lo hi ver a c o ho h1 h2 h3 hf => exact one hl (.sl id lo hi ver a c o ho h1 h2 h3 hf)
 | pt id row off ver ad o ho h2 h3 hf => exact one hl (.pt id row off ver ad o ho h2 h3 hf)
theorem gc_sim (s : Sim W S σ I F h) (s₁ : Sim W S₁ σ₁ I₁ F₁ h₁) (E : Ext W S σ I F h S₁ σ₁ I₁ F₁ h₁) (g : GcOk S S₁) :
  Sim W (S₁.take S.length) σ₁ I₁ F₁ h₁ ∧ Ext W S σ I F h (S₁.take S.length) σ₁ I₁ F₁ h₁ := by
 have tk : ∀ id o, (S₁.take S.length)[id]? = some o → id < S.length ∧ S₁[id]? = some o := fun id o ho => by
  rw [List.getElem?_take] at ho; split at ho
  ·exact ⟨by assumption, ho⟩
  ·cases ho
 refine ⟨⟨fun id o ho => ?_, fun id id' o o' ad ad' ho ho' => s₁.inj id id' o o' ad ad' (tk id o ho).2 (tk id' o' ho').2, s₁.imm, s₁.sub, fun id o ad hm ho => s₁.own id o ad hm (tk id o ho).2, s₁.big⟩,
  ⟨fun id o ho => ?_, E.imm, E.ii, E.inew, E.pl, E.size⟩⟩
 ·obtain ⟨hlt, ho₁⟩ := tk id o ho
  have q := s₁.ob id o ho₁
  refine ⟨q.none_, q.len, fun ad ha => ?_⟩
  obtain ⟨k1, k2, k3, cs, ty, fr, k4, k5, k6, k7⟩ := q.there ad ha
  refine ⟨k1, k2, k3, cs, ty, fr, k4, k5, k6, fun i j hi hj => ?_⟩
  rcases g id o hlt ho₁ with g | g
  ·have q₀ := s.ob id o g
   cases hσ : σ id with
   | none => have := q₀.none_ hσ; rw [this] at hi; simp at hi
   | some ad₀ =>
    obtain ⟨_, _, _, cs₀, _, _, _, _, _, r7⟩ := q₀.there ad₀ hσ
    exact (k7 i j hi hj).take_old rfl (r7 i j hi hj)
  ·exact (k7 i j hi hj).change (rowsAll_get g hi (by rw [q.len i hi]; exact hj)) (.inr fun _ h => h) (take_hS _)
 ·obtain ⟨o', p1, p2⟩ := E.ob id o ho
  exact ⟨o', by rw [List.getElem?_take, if_pos (List.getElem?_eq_some_iff.1 ho).1]; exact p1, p2⟩
end
end Go.Proofs.YtdpaijnbikclgaaDoorE
