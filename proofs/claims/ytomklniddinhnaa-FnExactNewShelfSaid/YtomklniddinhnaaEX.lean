/- Part of the proof: an evaluator (YtomklniddinhnaaEX). -/
import Derived.Lib.SliceRun
import Derived.Below
import Derived.Test.YtomklniddinhnaaEWp
set_option linter.unusedVariables false
set_option linter.unusedSectionVars false
set_option linter.unusedSimpArgs false
namespace Go.Proofs.YtomklniddinhnaaE
open Go
abbrev XE := Md → List A → Store → Option (A × Store)
def XOk (P : Program) (g : Nat) (x : XE) : Prop := ∀ md as S r S', x md as S = some (r, S') → (∃ fn, P.funcs[g]? = some fn ∧ fn.name ≠ "runtime.NumGoroutine" ∧ fn.body.isNone = false) ∧
 ∀ (W : Fm) σ I F w (vals : Array Value), Sim W S σ I F w.heap → MdOk W md → as.length = vals.size → (∀ j, j < as.length → Rel S σ I w.heap (as.getD j .dead) (vals.getD j undef)) →
  Calls P g vals w fun e w' => ∃ x, e = .returned x ∧ Step W S σ I F w r S' x w'
def Xof (xt : Nat → Option XE) : Cl := fun md g as S => match xt g with
 | some x => x md as S
 | none => none
theorem Xof_ok {P : Program} {xt : Nat → Option XE} (h : ∀ g x, xt g = some x → XOk P g x) : CallOk P (Xof xt) := fun md g as S r S' hx => by
 unfold Xof at hx
 split at hx
 ·rename_i x hg; exact h g x hg md as S r S' hx
 ·cases hx
theorem Xof_none {xt : Nat → Option XE} {md : Md} {g : Nat} {as : List A} {S : Store} (h : xt g = none) : Xof xt md g as S = none := by unfold Xof; rw [h]
theorem Cal.x {T : Nat → Option TI} {Fs : Nat → Option (Func × FI)} {xt : Nat → Option XE} {k g : Nat} {md : Md} {as : List A} {S S' : Store} {r : A} {x : XE} {Q : A → Store → Prop} (hg : xt g = some x) (hx : x md as S = some (r, S')) (hq : Q r S') :
  Cal (evF T regA Fs (Xof xt) k) md g as S Q := by
 have e : Xof xt md g as S = some (r, S') := by unfold Xof; rw [hg]; exact hx
 cases k with
 | zero => exact ⟨r, S', e, hq⟩
 | succ k => exact ⟨r, S', by simp only [evF, e], hq⟩
def cloneB (t : Nat) : Code :=
 (Code.region 0 #[Oper.mk (some 2) (Op.assign (Operand.const (Value.slice none 0 0))) t "slices.go:355" #[] none] false).seq
  (((Code.region 1 #[Oper.mk (some 3) (Op.move (Operand.tmp 0)) t "slices.go:357" #[] none, Oper.mk (some 4) (Op.binOp BinOp.eql t (Operand.tmp 3) (Operand.const (Value.slice none 0 0)) t) 4 "slices.go:357" #[Edge.mk 0 Ground.data] none] false).seq
   (Code.cond (Operand.tmp 4) ((Code.region 2 #[Oper.mk (some 2) (Op.assign (Operand.const (Value.slice none 0 0))) t "slices.go:358" #[] none] false).seq Code.ret) Code.skip)).seq
  ((Code.region 3 #[Oper.mk (some 5) (Op.buildSlice t 0 #[]) t "slices.go:362" #[] none, Oper.mk (some 6) (Op.move (Operand.tmp 0)) t "slices.go:362" #[] none, Oper.mk (some 7) (Op.call (Call.mk (Callee.builtin Builtin.append) #[Operand.tmp 5, Operand.tmp 6] #[t, t])) t "slices.go:362" #[Edge.mk 0 Ground.data, Edge.mk 1 Ground.data] none,
   Oper.mk (some 2) (Op.assign (Operand.tmp 7)) t "slices.go:362" #[Edge.mk 2 Ground.data, Edge.mk 2 Ground.chain, Edge.mk 0 Ground.phase, Edge.mk 1 Ground.phase, Edge.mk 2 Ground.phase] none] false).seq Code.ret))
def xClone (n bytes : Nat) : XE := fun _ as S => match as with
 | [.v (.string _)] => none
 | [a] => match rowsA S n a with
  | some rows => if leafRows rows = true ∧ flatRowsB rows = true ∧ rows.length * bytes ≤ Bound ∧ rows.length ≤ Bound then some (.sl S.length 0 rows.length rows.length, S ++ [⟨n, rows, 0, false⟩]) else none
  | none => none
 | _ => none
theorem Sim.below {W : Fm} {S : Store} {σ : Place} {I F : Nat → Prop} {w w' : World} (s : Sim W S σ I F w.heap) (b : Go.RowKit.Below w.heap.size w w') : Sim W S σ I F w'.heap ∧ Ext W S σ I F w.heap S σ I F w'.heap := by
 have blt : ∀ b x, w.heap[b]? = some x → b < w.heap.size := fun b x hb => (Array.getElem?_eq_some_iff.1 hb).1
 have E : Ext W S σ I F w.heap S σ I F w'.heap :=
  ⟨fun id o ho => ⟨o, ho, rfl, Nat.le_refl _, fun _ => ⟨rfl, fun ad cs ty fr _ hb => ⟨cs, by rw [b.block _ (blt _ _ hb)]; exact hb, rfl⟩⟩, fun _ => rfl⟩, fun k hk => ⟨hk, b.block k (s.imm k hk)⟩, fun _ h => h, fun _ h => .inl h, fun id o ad ho ha => .inl ha, b.size⟩
 refine ⟨⟨fun id o ho => ?_, s.inj, fun k hk => Nat.lt_of_lt_of_le (s.imm k hk) b.size, s.sub, s.own, Nat.le_trans s.big b.size⟩, E⟩
 have q := s.ob id o ho
 refine ⟨q.none_, q.len, fun ad ha => ?_⟩
 obtain ⟨k1, k2, k3, cs, ty, fr, k4, k5, k6, k7⟩ := q.there ad ha
 exact ⟨k1, k2, k3, cs, ty, fr, by rw [b.block _ (blt _ _ k4)]; exact k4, k5, k6, E.ob_rel s.sub k7⟩
def plainL : List A → Option (List Value)
 | [] => some []
 | .v x :: l => match plainL l with | some r => some (x :: r) | none => none
 | _ => none
theorem plainL_ok {S : Store} {σ : Place} {I : Nat → Prop} {w : World} : ∀ {as : List A} {l : List Value} {vals : List Value}, plainL as = some l → as.length = vals.length → (∀ j, j < as.length → Rel S σ I w.heap (as.getD j .dead) (vals.getD j undef)) → vals = l
 | [], l, vals, h1, hl, hr => by injection h1 with h1; subst h1; exact List.eq_nil_of_length_eq_zero (by simpa using hl.symm)
 | a :: as, l, [], h1, hl, hr => by simp at hl
 | a :: as, l, v :: vals, h1, hl, hr => by
  cases a <;> first | (simp only [plainL] at h1; done) | skip
  case v x =>
   simp only [plainL] at h1
   split at h1
   ·rename_i r hr'
    injection h1 with h1; subst h1
    have h0 := hr 0 (by simp)
    have e : v = x := by simpa using relv (by simpa using h0)
    have e2 : vals = r := plainL_ok (S := S) (σ := σ) (I := I) (w := w) hr' (by simpa using hl) fun j hj => by simpa using hr (j + 1) (by simpa using hj)
    rw [e, e2]
   ·cases h1
  all_goals (simp [plainL] at h1)
def xVal (f : List Value → Option Value) : XE := fun _ as S => match plainL as with
 | some l => match f l with
  | some v => some (.v v, S)
  | none => none
 | none => none
theorem xVal_ok {P : Program} {g : Nat} {f : List Value → Option Value} {fn : Func} (hf : P.funcs[g]? = some fn) (hn : (fn.name == "runtime.NumGoroutine") = false) (hb : fn.body.isNone = false)
  (h : ∀ l v, f l = some v → ∀ w, Calls P g l.toArray w fun e w' => e = .returned v ∧ Go.RowKit.Below w.heap.size w w') : XOk P g (xVal f) := by
 intro md as S r S' hx
 refine ⟨⟨fn, hf, by simpa using hn, hb⟩, fun W σ I F w vals s hm hl hv => ?_⟩
 unfold xVal at hx
 split at hx
 ·rename_i l hp
  split at hx
  ·rename_i v hfv
   injection hx with hx; injection hx with e1 e2; subst e1 e2
   have e := plainL_ok hp (vals := vals.toList) (by simpa using hl) fun j hj => by have := hv j hj; simpa using this
   have := h l v hfv w
   rw [← e] at this
   refine Calls.mono this fun e w' hh => ?_
   obtain ⟨he, b⟩ := hh
   obtain ⟨s', E'⟩ := s.below b
   exact ⟨v, he, σ, I, F, s', E', .v _, b.os, b.tape, b.output⟩
  ·cases hx
 ·cases hx
theorem xVal_of {f : List Value → Option Value} {md : Md} {as : List A} {l : List Value} {v : Value} {S : Store} (hp : plainL as = some l) (hv : f l = some v) : xVal f md as S = some (.v v, S) := by
 unfold xVal; rw [hp]; simp only [hv]
end Go.Proofs.YtomklniddinhnaaE
