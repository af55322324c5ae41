/- Part of the proof: an evaluator (YtomklniddinhnaaEDef). -/
import Derived.WalkKit
set_option linter.unusedVariables false
set_option linter.unusedSimpArgs false
set_option linter.unusedSectionVars false
inductive Go.Proofs.YtomklniddinhnaaE.A where
 | v (x : Go.Value)
 | ag (cs : List Go.Proofs.YtomklniddinhnaaE.A)
 | ro (n : Nat) (rows : List (List Go.Proofs.YtomklniddinhnaaE.A))
 | rp (cs : List Go.Proofs.YtomklniddinhnaaE.A)
 | sl (id lo hi ver : Nat)
 | pt (id row off ver : Nat)
 | fn (f : Nat) (caps : List Go.Proofs.YtomklniddinhnaaE.A)
 | tu (l : List Go.Proofs.YtomklniddinhnaaE.A)
 | dead
 deriving Inhabited
namespace Go.Proofs.YtomklniddinhnaaE
open Go
def A.cells : A → List A
 | .ag cs => cs
 | a => [a]
structure Ob where
 n : Nat
 rows : List (List A)
 st : Nat
 bx : Bool
abbrev Store := List Ob
structure Fm where
 w : Nat → Prop
 m : Nat
 N : Nat
def flatC : A → Bool
 | .v _ | .ro .. | .rp .. | .dead => true
 | _ => false
def flatRows (l : List (List A)) : Prop := ∀ i j, flatC ((l.getD i []).getD j .dead) = true
abbrev Place := Nat → Option Addr
def Free (fr : Nat × Nat) (n : Nat) : Prop := ∀ k, k < n → ¬ (fr.1 ≤ k ∧ k < fr.2)
inductive Rel (S : Store) (σ : Place) (I : Nat → Prop) (h : Array Obj) : A → Value → Prop
 | v (x : Value) : Rel S σ I h (.v x) x
 | dead (x : Value) : Rel S σ I h .dead x
 | ag (cs : List A) (xs : Array Value) (hl : cs.length = xs.size) (hc : ∀ i, i < cs.length → Rel S σ I h (cs.getD i .dead) (xs.getD i undef)) : Rel S σ I h (.ag cs) (.agg xs)
 | ro0 (n : Nat) (a : Option Addr) (c : Nat) : Rel S σ I h (.ro n []) (.slice a 0 c)
 | ro (n : Nat) (rows : List (List A)) (ad : Addr) (c : Nat) (cs : Array Value) (ty : TypeId) (fr : Nat × Nat) (hs : ad.spot = none) (hI : I ad.block) (hb : h[ad.block]? = some (.cells cs ty fr))
   (hn : ∀ i, i < rows.length → (rows.getD i []).length = n) (hsz : ad.off + rows.length * n ≤ cs.size) (hcap : rows.length ≤ c) (hfl : flatRows rows)
   (hc : ∀ i j, i < rows.length → j < n → Rel S σ I h ((rows.getD i []).getD j .dead) (cs.getD (ad.off + i * n + j) undef)) : Rel S σ I h (.ro n rows) (.slice (some ad) rows.length c)
 | rp (l : List A) (ad : Addr) (cs : Array Value) (ty : TypeId) (fr : Nat × Nat) (hs : ad.spot = none) (hI : I ad.block) (hb : h[ad.block]? = some (.cells cs ty fr))
   (hsz : ad.off + l.length ≤ cs.size) (hfl : ∀ j, flatC (l.getD j .dead) = true) (hc : ∀ j, j < l.length → Rel S σ I h (l.getD j .dead) (cs.getD (ad.off + j) undef)) : Rel S σ I h (.rp l) (.pointer (some ad))
 | sl (id lo hi ver : Nat) (a : Option Addr) (c : Nat) (o : Ob) (ho : S[id]? = some o) (h1 : lo ≤ hi) (h2 : hi ≤ ver) (h3 : ver ≤ o.rows.length)
   (hf : ver = o.rows.length → (σ id = none ∧ c = 0 ∧ lo = 0) ∨ ∃ ad cs ty fr, σ id = some ad ∧ ad.spot = none ∧ (0 < c → a = some ⟨ad.block, ad.off + lo * o.n, none⟩) ∧ h[ad.block]? = some (.cells cs ty fr) ∧ ad.off + (lo + c) * o.n ≤ cs.size ∧ ver ≤ lo + c) :
   Rel S σ I h (.sl id lo hi ver) (.slice a (hi - lo) c)
 | pt (id row off ver : Nat) (ad : Addr) (o : Ob) (ho : S[id]? = some o) (h2 : row < ver) (h3 : ver ≤ o.rows.length)
   (hf : ver = o.rows.length → ∃ base, σ id = some base ∧ ad = ⟨base.block, base.off + row * o.n + off, none⟩) : Rel S σ I h (.pt id row off ver) (.pointer (some ad))
 | fn (f : Nat) (caps : List A) (vs : Array Value) (hl : caps.length = vs.size) (hc : ∀ i, i < caps.length → Rel S σ I h (caps.getD i .dead) (vs.getD i undef)) : Rel S σ I h (.fn f caps) (.func (.func f) #[] vs)
 | tu (l : List A) (vs : Array Value) (hl : l.length = vs.size) (hc : ∀ i, i < l.length → Rel S σ I h (l.getD i .dead) (vs.getD i undef)) : Rel S σ I h (.tu l) (.tuple vs)
structure ObRel (W : Fm) (S : Store) (σ : Place) (I F : Nat → Prop) (h : Array Obj) (id : Nat) (o : Ob) : Prop where
 none_ : σ id = none → o.rows = []
 len : ∀ i, i < o.rows.length → (o.rows.getD i []).length = o.n
 there : ∀ ad, σ id = some ad → ad.spot = none ∧ (W.w id → o.st = 0 → ¬ F ad.block) ∧ (o.st ≠ 0 → I ad.block) ∧
  ∃ cs ty fr, h[ad.block]? = some (.cells cs ty fr) ∧ Free fr cs.size ∧ ad.off + o.rows.length * o.n ≤ cs.size ∧
   ∀ i j, i < o.rows.length → j < o.n → Rel S σ I h ((o.rows.getD i []).getD j .dead) (cs.getD (ad.off + i * o.n + j) undef)
structure Sim (W : Fm) (S : Store) (σ : Place) (I F : Nat → Prop) (h : Array Obj) : Prop where
 ob : ∀ id o, S[id]? = some o → ObRel W S σ I F h id o
 inj : ∀ id id' o o' ad ad', S[id]? = some o → S[id']? = some o' → σ id = some ad → σ id' = some ad' → id ≠ id' → ad.block ≠ ad'.block
 imm : ∀ b, F b → b < h.size
 sub : ∀ b, I b → F b
 own : ∀ id o ad, W.m ≤ id → S[id]? = some o → σ id = some ad → W.N ≤ ad.block
 big : W.N ≤ h.size
structure Ext (W : Fm) (S : Store) (σ : Place) (I F : Nat → Prop) (h : Array Obj) (S' : Store) (σ' : Place) (I' F' : Nat → Prop) (h' : Array Obj) : Prop where
 ob : ∀ id o, S[id]? = some o → ∃ o', S'[id]? = some o' ∧ o'.n = o.n ∧ o.rows.length ≤ o'.rows.length ∧ (o'.rows.length = o.rows.length → σ' id = σ id ∧ ∀ ad cs ty fr, σ id = some ad → h[ad.block]? = some (.cells cs ty fr) → ∃ cs', h'[ad.block]? = some (.cells cs' ty fr) ∧ cs'.size = cs.size) ∧ (¬ W.w id → o' = o)
 imm : ∀ b, F b → F' b ∧ h'[b]? = h[b]?
 ii : ∀ b, I b → I' b
 inew : ∀ b, I' b → I b ∨ W.N ≤ b
 pl : ∀ id o ad, S[id]? = some o → σ' id = some ad → σ id = some ad ∨ W.N ≤ ad.block
 size : h.size ≤ h'.size
theorem Ext.rel {W : Fm} {S : Store} {σ : Place} {I F : Nat → Prop} {h : Array Obj} {S' : Store} {σ' : Place} {I' F' : Nat → Prop} {h' : Array Obj} (E : Ext W S σ I F h S' σ' I' F' h')
  (sub : ∀ b, I b → F b) {a : A} {x : Value} (r : Rel S σ I h a x) : Rel S' σ' I' h' a x := by
 induction r with
 | v x => exact .v x
 | dead x => exact .dead x
 | ag cs xs hl hc ih => exact .ag cs xs hl ih
 | ro0 n a c => exact .ro0 n a c
 | ro n rows ad c cs ty fr hs hI hb hn hsz hcap hfl hc ih =>
  exact .ro n rows ad c cs ty fr hs (E.ii _ hI) ((E.imm _ (sub _ hI)).2.trans hb) hn hsz hcap hfl ih
 | rp l ad cs ty fr hs hI hb hsz hfl hc ih =>
  exact .rp l ad cs ty fr hs (E.ii _ hI) ((E.imm _ (sub _ hI)).2.trans hb) hsz hfl ih
 | sl id lo hi ver a c o ho h1 h2 h3 hf =>
  obtain ⟨o', ho', hn, hle, hσ, _⟩ := E.ob id o ho
  refine .sl id lo hi ver a c o' ho' h1 h2 (by omega) fun e => ?_
  have e1 : o'.rows.length = o.rows.length := by omega
  rcases hf (by omega) with ⟨q1, q2, q3⟩ | ⟨ad, cs, ty, fr, q1, q2, q3, q4, q5, q6⟩
  ·exact .inl ⟨(hσ e1).1.trans q1, q2, q3⟩
  ·obtain ⟨cs', k1, k2⟩ := (hσ e1).2 ad cs ty fr q1 q4
   exact .inr ⟨ad, cs', ty, fr, (hσ e1).1.trans q1, q2, by rw [hn]; exact q3, k1, by rw [hn, k2]; exact q5, q6⟩
 | pt id row off ver ad o ho h2 h3 hf =>
  obtain ⟨o', ho', hn, hle, hσ, _⟩ := E.ob id o ho
  refine .pt id row off ver ad o' ho' h2 (by omega) fun e => ?_
  have e1 : o'.rows.length = o.rows.length := by omega
  obtain ⟨base, q1, q2⟩ := hf (by omega)
  exact ⟨base, (hσ e1).1.trans q1, by rw [hn]; exact q2⟩
 | fn f caps vs hl hc ih => exact .fn f caps vs hl ih
 | tu l vs hl hc ih => exact .tu l vs hl ih
section
variable {W : Fm} {S : Store} {σ : Place} {I F : Nat → Prop} {h : Array Obj}
theorem Ext.refl : Ext W S σ I F h S σ I F h :=
 ⟨fun id o ho => ⟨o, ho, rfl, Nat.le_refl _, fun _ => ⟨rfl, fun ad cs ty fr _ hb => ⟨cs, hb, rfl⟩⟩, fun _ => rfl⟩, fun b hb => ⟨hb, rfl⟩, fun b hb => hb, fun b hb => .inl hb, fun id o ad _ ha => .inl ha, Nat.le_refl _⟩
theorem Ext.trans {S₁ S₂ : Store} {σ₁ σ₂ : Place} {I₁ I₂ F₁ F₂ : Nat → Prop} {h₁ h₂ : Array Obj} (E₁ : Ext W S σ I F h S₁ σ₁ I₁ F₁ h₁) (E₂ : Ext W S₁ σ₁ I₁ F₁ h₁ S₂ σ₂ I₂ F₂ h₂) :
  Ext W S σ I F h S₂ σ₂ I₂ F₂ h₂ := by
 refine ⟨fun id o ho => ?_, fun b hb => ⟨(E₂.imm _ (E₁.imm b hb).1).1, (E₂.imm _ (E₁.imm b hb).1).2.trans (E₁.imm b hb).2⟩, fun b hb => E₂.ii b (E₁.ii b hb), fun b hb => (E₂.inew b hb).elim (E₁.inew b) .inr, fun id o ad ho ha => ?_, Nat.le_trans E₁.size E₂.size⟩
 rotate_left
 ·obtain ⟨o₁, p1, _⟩ := E₁.ob id o ho
  exact (E₂.pl id o₁ ad p1 ha).elim (E₁.pl id o ad ho) .inr
 obtain ⟨o₁, p1, p2, p3, p4, p5⟩ := E₁.ob id o ho
 obtain ⟨o₂, q1, q2, q3, q4, q5⟩ := E₂.ob id o₁ p1
 refine ⟨o₂, q1, q2.trans p2, Nat.le_trans p3 q3, fun e => ?_, fun hw => (q5 hw).trans (p5 hw)⟩
 have k1 := q4 (by omega); have k2 := p4 (by omega)
 refine ⟨k1.1.trans k2.1, fun ad cs ty fr ha hb => ?_⟩
 obtain ⟨cs₁, r1, r2⟩ := k2.2 ad cs ty fr ha hb
 obtain ⟨cs₂, r3, r4⟩ := k1.2 ad cs₁ ty fr (k2.1.trans ha) r1
 exact ⟨cs₂, r3, r4.trans r2⟩
theorem Ext.ob_rel {S' : Store} {σ' : Place} {I' F' : Nat → Prop} {h' : Array Obj} (E : Ext W S σ I F h S' σ' I' F' h') (sub : ∀ b, I b → F b) {rows : List (List A)} {n : Nat} {cs : Array Value} {off : Nat}
  (r : ∀ i j, i < rows.length → j < n → Rel S σ I h ((rows.getD i []).getD j .dead) (cs.getD (off + i * n + j) undef)) :
  ∀ i j, i < rows.length → j < n → Rel S' σ' I' h' ((rows.getD i []).getD j .dead) (cs.getD (off + i * n + j) undef) := fun i j hi hj => E.rel sub (r i j hi hj)
def Place.set (σ : Place) (id : Nat) (a : Option Addr) : Place := fun i => if i = id then a else σ i
theorem getElem?_snoc {α : Type} (l : List α) (x : α) (i : Nat) : (l ++ [x])[i]? = if i = l.length then some x else l[i]? := by
 split
 ·subst_vars; simp
 ·rw [List.getElem?_append]; split
  ·rfl
  ·rename_i h1 h2; rw [List.getElem?_eq_none (by simp; omega), List.getElem?_eq_none (by omega)]
theorem Sim.empty (s : Sim W S σ I F h) (n st : Nat) (bx : Bool) (hst : st = 0) : Sim W (S ++ [⟨n, [], st, bx⟩]) (σ.set S.length none) I F h ∧ Ext W S σ I F h (S ++ [⟨n, [], st, bx⟩]) (σ.set S.length none) I F h := by
 have lt : ∀ id o, S[id]? = some o → id ≠ S.length := fun id o ho e => by have := (List.getElem?_eq_some_iff.1 ho).1; omega
 have E : Ext W S σ I F h (S ++ [⟨n, [], st, bx⟩]) (σ.set S.length none) I F h := by
  refine ⟨fun id o ho => ⟨o, ?_, rfl, Nat.le_refl _, fun _ => ⟨?_, fun ad cs ty fr _ hb => ⟨cs, hb, rfl⟩⟩, fun _ => rfl⟩, fun b hb => ⟨hb, rfl⟩, fun b hb => hb, fun b hb => .inl hb, fun id o ad ho ha => .inl ?_, Nat.le_refl _⟩
  ·rw [getElem?_snoc, if_neg (lt id o ho)]; exact ho
  ·simp [Place.set, lt id o ho]
  ·simpa [Place.set, lt id o ho] using ha
 refine ⟨⟨fun id o ho => ?_, fun id id' o o' ad ad' ho ho' ha ha' ne => ?_, s.imm, s.sub, fun id o ad hm ho ha => ?_, s.big⟩, E⟩
 rotate_right
 ·rw [getElem?_snoc] at ho
  split at ho
  ·subst_vars; simp [Place.set] at ha
  ·rename_i ne; simp only [Place.set, ne, if_false] at ha; exact s.own id o ad hm ho ha
 ·rw [getElem?_snoc] at ho
  split at ho
  ·injection ho with ho; subst ho; subst_vars
   exact ⟨fun _ => rfl, fun i hi => by simp at hi, fun ad ha => by simp [Place.set] at ha⟩
  ·rename_i ne
   have q := s.ob id o ho
   refine ⟨fun e => q.none_ (by simpa [Place.set, ne] using e), q.len, fun ad ha => ?_⟩
   simp only [Place.set, ne, if_false] at ha
   obtain ⟨k1, k2, k3, cs, ty, fr, k4, k5, k6, k7⟩ := q.there ad ha
   exact ⟨k1, k2, k3, cs, ty, fr, k4, k5, k6, E.ob_rel s.sub k7⟩
 ·rw [getElem?_snoc] at ho ho'
  split at ho
  ·subst_vars; simp [Place.set] at ha
  ·split at ho'
   ·subst_vars; simp [Place.set] at ha'
   ·rename_i n1 n2
    simp only [Place.set, n1, n2, if_false] at ha ha'
    exact s.inj id id' o o' ad ad' ho ho' ha ha' ne
theorem Sim.alloc (s : Sim W S σ I F h) (o : Ob) (cs : Array Value) (ty : TypeId) (fr : Nat × Nat) (hfr : Free fr cs.size) (hst : o.st = 0) (hlen : ∀ i, i < o.rows.length → (o.rows.getD i []).length = o.n) (hsz : o.rows.length * o.n ≤ cs.size)
  (hr : ∀ i j, i < o.rows.length → j < o.n → Rel S σ I h ((o.rows.getD i []).getD j .dead) (cs.getD (0 + i * o.n + j) undef)) :
  Sim W (S ++ [o]) (σ.set S.length (some ⟨h.size, 0, none⟩)) I F (h.push (.cells cs ty fr)) ∧ Ext W S σ I F h (S ++ [o]) (σ.set S.length (some ⟨h.size, 0, none⟩)) I F (h.push (.cells cs ty fr)) := by
 have lt : ∀ id o, S[id]? = some o → id ≠ S.length := fun id o ho e => by have := (List.getElem?_eq_some_iff.1 ho).1; omega
 have old : ∀ b, b < h.size → (h.push (.cells cs ty fr))[b]? = h[b]? := fun b hb => by rw [Array.getElem?_push, if_neg (by omega)]
 have blt : ∀ b x, h[b]? = some x → b < h.size := fun b x hb => (Array.getElem?_eq_some_iff.1 hb).1
 have E : Ext W S σ I F h (S ++ [o]) (σ.set S.length (some ⟨h.size, 0, none⟩)) I F (h.push (.cells cs ty fr)) := by
  refine ⟨fun id o ho => ⟨o, ?_, rfl, Nat.le_refl _, fun _ => ⟨?_, fun ad cs ty fr _ hb => ⟨cs, ?_, rfl⟩⟩, fun _ => rfl⟩, fun b hb => ⟨hb, old b (s.imm b hb)⟩, fun b hb => hb, fun b hb => .inl hb, fun id o ad ho ha => .inl ?_, by simp⟩
  ·rw [getElem?_snoc, if_neg (lt id o ho)]; exact ho
  ·simp [Place.set, lt id o ho]
  ·rw [old _ (blt _ _ hb)]; exact hb
  ·simpa [Place.set, lt id o ho] using ha
 refine ⟨⟨fun id o' ho => ?_, fun id id' o₁ o₂ ad ad' ho ho' ha ha' ne => ?_, fun b hb => by have := s.imm b hb; simp; omega, s.sub, fun id o ad hm ho ha => ?_, by have := s.big; simp; omega⟩, E⟩
 rotate_right
 ·rw [getElem?_snoc] at ho
  split at ho
  ·subst_vars; simp only [Place.set, if_true, Option.some.injEq] at ha; subst ha; exact s.big
  ·rename_i ne; simp only [Place.set, ne, if_false] at ha; exact s.own id o ad hm ho ha
 ·rw [getElem?_snoc] at ho
  split at ho
  ·injection ho with ho; subst ho; subst_vars
   refine ⟨fun e => by simp [Place.set] at e, hlen, fun ad ha => ?_⟩
   simp only [Place.set, if_true, Option.some.injEq] at ha
   subst ha
   exact ⟨rfl, fun _ _ hF => by have := s.imm _ hF; simp at this, fun e => absurd hst e, cs, ty, fr, by simp, hfr, by simpa using hsz, E.ob_rel s.sub hr⟩
  ·rename_i ne
   have q := s.ob id o' ho
   refine ⟨fun e => q.none_ (by simpa [Place.set, ne] using e), q.len, fun ad ha => ?_⟩
   simp only [Place.set, ne, if_false] at ha
   obtain ⟨k1, k2, k3, cs, ty, fr, k4, k5, k6, k7⟩ := q.there ad ha
   exact ⟨k1, k2, k3, cs, ty, fr, by rw [old _ (blt _ _ k4)]; exact k4, k5, k6, E.ob_rel s.sub k7⟩
 ·have key : ∀ id o ad, S[id]? = some o → σ id = some ad → ad.block < h.size := fun id o ad ho ha => by
   obtain ⟨_, _, _, cs, ty, fr, k4, _⟩ := (s.ob id o ho).there ad ha
   exact blt _ _ k4
  rw [getElem?_snoc] at ho ho'
  split at ho
  ·subst_vars
   simp only [Place.set, if_true, Option.some.injEq] at ha
   subst ha
   rw [if_neg (Ne.symm ne)] at ho'
   simp only [Place.set, Ne.symm ne, if_false] at ha'
   have := key _ _ _ ho' ha'; simp; omega
  ·split at ho'
   ·rename_i n1 _; subst_vars
    simp only [Place.set, if_true, Option.some.injEq] at ha'
    subst ha'
    simp only [Place.set, n1, if_false] at ha
    have := key _ _ _ ho ha; simp; omega
   ·rename_i n1 n2
    simp only [Place.set, n1, n2, if_false] at ha ha'
    exact s.inj id id' o₁ o₂ ad ad' ho ho' ha ha' ne
theorem getElem?_set' {α : Type} (l : List α) (x : α) (k i : Nat) (h : k < l.length) : (l.set k x)[i]? = if i = k then some x else l[i]? := by
 rw [List.getElem?_set]
 split
 ·rename_i e; subst e; simp
 ·rename_i e; rw [if_neg (fun q => e q.symm)]
theorem Sim.update (s : Sim W S σ I F h) {id : Nat} {o : Ob} (ho : S[id]? = some o) (hw : W.w id) (hst : o.st = 0) {ad : Addr} (ha : σ id = some ad) {cs cs' : Array Value} {ty : TypeId} {fr : Nat × Nat}
  (hb : h[ad.block]? = some (.cells cs ty fr)) {h' : Array Obj} (hs : h'.size = h.size) (hb' : h'[ad.block]? = some (.cells cs' ty fr)) (hsz : cs'.size = cs.size) (ho' : ∀ b, b ≠ ad.block → h'[b]? = h[b]?)
  {o' : Ob} (hn : o'.n = o.n) (hst' : o'.st = 0) (hle : o.rows.length ≤ o'.rows.length) (hlen : ∀ i, i < o'.rows.length → (o'.rows.getD i []).length = o'.n) (hsz' : ad.off + o'.rows.length * o'.n ≤ cs.size)
  (hr : ∀ i j, i < o'.rows.length → j < o'.n → Rel S σ I h ((o'.rows.getD i []).getD j .dead) (cs'.getD (ad.off + i * o'.n + j) undef)) :
  Sim W (S.set id o') σ I F h' ∧ Ext W S σ I F h (S.set id o') σ I F h' := by
 have hlt := (List.getElem?_eq_some_iff.1 ho).1
 have q := (s.ob id o ho).there ad ha
 have E : Ext W S σ I F h (S.set id o') σ I F h' := by
  refine ⟨fun id₁ o₁ ho₁ => ?_, fun b hb₁ => ⟨hb₁, ho' b fun e => q.2.1 hw hst (e ▸ hb₁)⟩, fun b hb => hb, fun b hb => .inl hb, fun id o ad ho ha => .inl ha, by omega⟩
  by_cases e : id₁ = id
  ·subst e; rw [ho] at ho₁; injection ho₁ with ho₁; subst ho₁
   refine ⟨o', by rw [getElem?_set' _ _ _ _ hlt, if_pos rfl], hn, hle, fun _ => ⟨rfl, fun ad₁ cs₁ ty₁ fr₁ ha₁ hb₁ => ?_⟩, fun nw => absurd hw nw⟩
   rw [ha] at ha₁; injection ha₁ with ha₁; subst ha₁
   rw [hb] at hb₁; injection hb₁ with hb₁; injection hb₁ with k1 k2 k3; subst k1 k2 k3
   exact ⟨cs', hb', hsz⟩
  ·refine ⟨o₁, by rw [getElem?_set' _ _ _ _ hlt, if_neg e]; exact ho₁, rfl, Nat.le_refl _, fun _ => ⟨rfl, fun ad₁ cs₁ ty₁ fr₁ ha₁ hb₁ => ⟨cs₁, ?_, rfl⟩⟩, fun _ => rfl⟩
   rw [ho' _ (s.inj id₁ id o₁ o ad₁ ad ho₁ ho ha₁ ha e)]; exact hb₁
 refine ⟨⟨fun id₁ o₁ ho₁ => ?_, fun i1 i2 o₁ o₂ ad₁ ad₂ ho₁ ho₂ ha₁ ha₂ ne => ?_, fun b hb => by have := s.imm b hb; omega, s.sub, fun i1 o₁ ad₁ hm ho₁ ha₁ => ?_, by have := s.big; omega⟩, E⟩
 rotate_right
 ·rw [getElem?_set' _ _ _ _ hlt] at ho₁
  split at ho₁
  ·rename_i e; subst e; exact s.own _ o ad₁ hm ho ha₁
  ·exact s.own _ o₁ ad₁ hm ho₁ ha₁
 ·rw [getElem?_set' _ _ _ _ hlt] at ho₁
  split at ho₁
  ·injection ho₁ with ho₁; subst ho₁; rename_i e; subst e
   refine ⟨fun e => by simp [ha] at e, hlen, fun ad₁ ha₁ => ?_⟩
   rw [ha] at ha₁; injection ha₁ with ha₁; subst ha₁
   obtain ⟨k1, k2, k3, cs₁, ty₁, fr₁, k4, k5, k6, k7⟩ := q
   rw [hb] at k4; injection k4 with k4; injection k4 with e1 e2 e3; subst e1 e2 e3
   exact ⟨k1, fun _ _ => k2 hw hst, fun e => absurd hst' e, cs', ty, fr, hb', by rw [hsz]; exact k5, by rw [hsz]; exact hsz', E.ob_rel s.sub hr⟩
  ·rename_i ne
   have q₁ := s.ob id₁ o₁ ho₁
   refine ⟨q₁.none_, q₁.len, fun ad₁ ha₁ => ?_⟩
   obtain ⟨k1, k2, k3, cs₁, ty₁, fr₁, k4, k5, k6, k7⟩ := q₁.there ad₁ ha₁
   exact ⟨k1, k2, k3, cs₁, ty₁, fr₁, by rw [ho' _ (s.inj id₁ id o₁ o ad₁ ad ho₁ ho ha₁ ha ne)]; exact k4, k5, k6, E.ob_rel s.sub k7⟩
 ·have old : ∀ i o₁, (S.set id o')[i]? = some o₁ → ∃ o₂, S[i]? = some o₂ := fun i o₁ hi => by
   rw [getElem?_set' _ _ _ _ hlt] at hi; split at hi
   ·rename_i e; subst e; exact ⟨o, ho⟩
   ·exact ⟨o₁, hi⟩
  obtain ⟨p₁, hp₁⟩ := old _ _ ho₁; obtain ⟨p₂, hp₂⟩ := old _ _ ho₂
  exact s.inj i1 i2 p₁ p₂ ad₁ ad₂ hp₁ hp₂ ha₁ ha₂ ne
theorem Sim.move (s : Sim W S σ I F h) {id : Nat} {o : Ob} (ho : S[id]? = some o) (hw : W.w id) (hst : o.st = 0) (cs : Array Value) (ty : TypeId) (fr : Nat × Nat) (hfr : Free fr cs.size)
  {o' : Ob} (hn : o'.n = o.n) (hst' : o'.st = 0) (hle : o.rows.length < o'.rows.length) (hlen : ∀ i, i < o'.rows.length → (o'.rows.getD i []).length = o'.n) (hsz : o'.rows.length * o'.n ≤ cs.size)
  (hr : ∀ i j, i < o'.rows.length → j < o'.n → Rel S σ I h ((o'.rows.getD i []).getD j .dead) (cs.getD (0 + i * o'.n + j) undef)) :
  Sim W (S.set id o') (σ.set id (some ⟨h.size, 0, none⟩)) I F (h.push (.cells cs ty fr)) ∧ Ext W S σ I F h (S.set id o') (σ.set id (some ⟨h.size, 0, none⟩)) I F (h.push (.cells cs ty fr)) := by
 have hlt := (List.getElem?_eq_some_iff.1 ho).1
 have old : ∀ b, b < h.size → (h.push (.cells cs ty fr))[b]? = h[b]? := fun b hb => by rw [Array.getElem?_push, if_neg (by omega)]
 have blt : ∀ b x, h[b]? = some x → b < h.size := fun b x hb => (Array.getElem?_eq_some_iff.1 hb).1
 have E : Ext W S σ I F h (S.set id o') (σ.set id (some ⟨h.size, 0, none⟩)) I F (h.push (.cells cs ty fr)) := by
  refine ⟨fun id₁ o₁ ho₁ => ?_, fun b hb₁ => ⟨hb₁, old b (s.imm b hb₁)⟩, fun b hb => hb, fun b hb => .inl hb, fun i1 o₁ ad₁ ho₁ ha₁ => ?_, by simp⟩
  rotate_right
  ·by_cases e : i1 = id
   ·subst e; simp only [Place.set, if_true, Option.some.injEq] at ha₁; subst ha₁; exact .inr s.big
   ·simp only [Place.set, e, if_false] at ha₁; exact .inl ha₁
  by_cases e : id₁ = id
  ·subst e; rw [ho] at ho₁; injection ho₁ with ho₁; subst ho₁
   exact ⟨o', by rw [getElem?_set' _ _ _ _ hlt, if_pos rfl], hn, by omega, fun e => by omega, fun nw => absurd hw nw⟩
  ·refine ⟨o₁, by rw [getElem?_set' _ _ _ _ hlt, if_neg e]; exact ho₁, rfl, Nat.le_refl _, fun _ => ⟨by simp [Place.set, e], fun ad₁ cs₁ ty₁ fr₁ ha₁ hb₁ => ⟨cs₁, ?_, rfl⟩⟩, fun _ => rfl⟩
   rw [old _ (blt _ _ hb₁)]; exact hb₁
 have key : ∀ id o ad, S[id]? = some o → σ id = some ad → ad.block < h.size := fun id o ad ho ha => by
  obtain ⟨_, _, _, cs, ty, fr, k4, _⟩ := (s.ob id o ho).there ad ha
  exact blt _ _ k4
 refine ⟨⟨fun id₁ o₁ ho₁ => ?_, fun i1 i2 o₁ o₂ ad₁ ad₂ ho₁ ho₂ ha₁ ha₂ ne => ?_, fun b hb => by have := s.imm b hb; simp; omega, s.sub, fun i1 o₁ ad₁ hm ho₁ ha₁ => ?_, by have := s.big; simp; omega⟩, E⟩
 rotate_right
 ·rw [getElem?_set' _ _ _ _ hlt] at ho₁
  split at ho₁
  ·rename_i e; subst e; simp only [Place.set, if_true, Option.some.injEq] at ha₁; subst ha₁; exact s.big
  ·rename_i ne; simp only [Place.set, ne, if_false] at ha₁; exact s.own _ o₁ ad₁ hm ho₁ ha₁
 ·rw [getElem?_set' _ _ _ _ hlt] at ho₁
  split at ho₁
  ·injection ho₁ with ho₁; subst ho₁; rename_i e; subst e
   refine ⟨fun e => by simp [Place.set] at e, hlen, fun ad ha => ?_⟩
   simp only [Place.set, if_true, Option.some.injEq] at ha
   subst ha
   exact ⟨rfl, fun _ _ hF => by have := s.imm _ hF; simp at this, fun e => absurd hst' e, cs, ty, fr, by simp, hfr, by simpa using hsz, E.ob_rel s.sub hr⟩
  ·rename_i ne
   have q := s.ob id₁ o₁ ho₁
   refine ⟨fun e => q.none_ (by simpa [Place.set, ne] using e), q.len, fun ad ha => ?_⟩
   simp only [Place.set, ne, if_false] at ha
   obtain ⟨k1, k2, k3, cs, ty, fr, k4, k5, k6, k7⟩ := q.there ad ha
   exact ⟨k1, k2, k3, cs, ty, fr, by rw [old _ (blt _ _ k4)]; exact k4, k5, k6, E.ob_rel s.sub k7⟩
 ·rw [getElem?_set' _ _ _ _ hlt] at ho₁ ho₂
  split at ho₁
  ·rename_i e; subst e
   simp only [Place.set, if_true, Option.some.injEq] at ha₁
   subst ha₁
   rw [if_neg (Ne.symm ne)] at ho₂
   simp only [Place.set, Ne.symm ne, if_false] at ha₂
   have := key _ _ _ ho₂ ha₂; simp; omega
  ·split at ho₂
   ·rename_i n1 e; subst e
    simp only [Place.set, if_true, Option.some.injEq] at ha₂
    subst ha₂
    simp only [Place.set, n1, if_false] at ha₁
    have := key _ _ _ ho₁ ha₁; simp; omega
   ·rename_i n1 n2
    simp only [Place.set, n1, n2, if_false] at ha₁ ha₂
    exact s.inj i1 i2 o₁ o₂ ad₁ ad₂ ho₁ ho₂ ha₁ ha₂ ne
end
end Go.Proofs.YtomklniddinhnaaE
