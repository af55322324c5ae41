/- Words of this seat's own texts: 'is there one for which p holds', as Go asks it one by one. -/
import Derived.Test.YtppgkkejddjacaaVFnAnsWMore
import Derived.Shelf.Abstract
import Derived.Lib.SliceRun
set_option linter.unusedVariables false
namespace Go.Proofs.Ytppgkkejddjacaa
open Go Go.RowKit Go.Proofs.YtppgkkejddjacaaW.PrintWords
/-- Go's own order: one by one, no further than the first that holds. -/
def anyO {α : Type} (p : α → Option Bool) : List α → Option Bool
  | [] => some false
  | x :: t => (p x).bind fun b => if b = true then some true else anyO p t
/-- The place of the first that holds, from k on, or -1. -/
def idxO {α : Type} (p : α → Option Bool) : List α → Int → Option Int
  | [], _ => some (-1)
  | x :: t, k => (p x).bind fun b => if b = true then some k else idxO p t (k + 1)
theorem anyO_mono {α : Type} {p q : α → Option Bool} (h : ∀ x, LeO (p x) (q x)) : ∀ l, LeO (anyO p l) (anyO q l) := by
  intro l
  induction l with
  | nil => exact LeO.refl _
  | cons x t ih => exact LeO.bind (h x) (fun b => LeO.ite (LeO.refl _) ih)
theorem anyO_some {α : Type} (p : α → Bool) : ∀ l, anyO (fun x => some (p x)) l = some (l.any p) := by
  intro l
  induction l with
  | nil => rfl
  | cons x t ih =>
    simp only [anyO, Option.bind_some, List.any_cons, ih]
    cases p x <;> simp
theorem anyO_idx {α : Type} (p : α → Option Bool) : ∀ (l : List α) (k : Int), 0 ≤ k → anyO p l = (idxO p l k).map (fun i => decide (0 ≤ i)) := by
  intro l
  induction l with
  | nil => intro k _; rfl
  | cons x t ih =>
    intro k hk
    simp only [anyO, idxO]
    cases p x with
    | none => rfl
    | some b =>
      cases b
      · simpa using ih (k + 1) (by omega)
      · simp [hk]
theorem idxO_mono {α : Type} {p q : α → Option Bool} (h : ∀ x, LeO (p x) (q x)) : ∀ l k, LeO (idxO p l k) (idxO q l k) := by
  intro l
  induction l with
  | nil => intro k; exact LeO.refl _
  | cons x t ih => intro k; exact LeO.bind (h x) (fun b => LeO.ite (LeO.refl _) (ih _))
theorem idxO_drop {α : Type} (p : α → Option Bool) (d : α) (l : List α) (k : Nat) (hk : k < l.length) : idxO p (l.drop k) (k : Int) = (p (l.getD k d)).bind fun b => if b = true then some (k : Int) else idxO p (l.drop (k + 1)) ((k + 1 : Nat) : Int) := by
  rw [List.drop_eq_getElem_cons hk]
  have e : l.getD k d = l[k] := by simp [List.getD_eq_getElem?_getD, List.getElem?_eq_getElem hk]
  rw [e]
  simp only [idxO]
  push_cast
  rfl
/-! Short names, for texts that would be too long for one file. -/
theorem xbN : type_of% @blk_drewN := @blk_drewN
theorem xbD : type_of% @blk_drew := @blk_drew
theorem xbA : type_of% @blk_alloc := @blk_alloc
theorem xRA : type_of% @Kd.R_alloc := @Kd.R_alloc
theorem xRN : type_of% @Kd.R_drewN := @Kd.R_drewN
theorem xRD : type_of% @Kd.R_drew := @Kd.R_drew
theorem xa : type_of% @below_alloc := @below_alloc
theorem xn : type_of% @pw_below_drewN := @pw_below_drewN
theorem xd : type_of% @below_drew1 := @below_drew1
theorem xs : type_of% @below_set := @below_set
theorem xM : type_of% @Aside0.mk := @Aside0.mk
theorem xF : type_of% @Kd.R_far := @Kd.R_far
theorem xO : type_of% @Kd.R_mono := @Kd.R_mono
theorem xW : type_of% @Kd.R_below := @Kd.R_below
theorem xT : type_of% @Kd.R_types := @Kd.R_types
theorem xL : type_of% @Kd.R_lt := @Kd.R_lt
theorem xB : type_of% @blk_below := @blk_below
/-! A fact that was laid aside, at the world some plain steps on. -/
theorem yb {w5 W : World} {g : Nat} {o : Obj} (h : Aside0 (w5.heap[g]? = some o)) (up : w5.heap[g]? = some o → W.heap[g]? = some o := by intro h_; (with_reducible repeat (first | apply xbN | apply xbD | apply xbA)); exact h_) : W.heap[g]? = some o := up h.out
theorem yR {α : Type} {d : Kd α} {e base : Nat} {ok : Nat → Prop} {v : Value} {xs : List α} {w5 W : World} (h : Aside0 (Kd.R d e w5 base ok v xs)) (up : Kd.R d e w5 base ok v xs → Kd.R d e W base ok v xs := by intro h_; (with_reducible repeat (first | apply xRA | apply xRN | apply xRD)); exact h_) : Kd.R d e W base ok v xs := up h.out
theorem yh {b : Nat} {w w5 W : World} (h : Aside0 (Below b w w5)) (up : Below b w w5 → Below b w W := by intro h_; repeat (first | (with_reducible first | exact h_ | apply xa | apply xn | apply xd | refine xs ?_ (Aside0.out (by assumption))) | refine xs ?_ (Aside0.out (by assumption)) | exact h_)) : Below b w W := up h.out
end Go.Proofs.Ytppgkkejddjacaa
