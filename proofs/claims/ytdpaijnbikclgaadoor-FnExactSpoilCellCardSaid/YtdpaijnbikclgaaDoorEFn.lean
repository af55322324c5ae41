/- Part of the proof: an evaluator (YtdpaijnbikclgaaDoorEFn). -/
import Derived.Test.YtdpaijnbikclgaaDoorECode
set_option linter.unusedVariables false
set_option linter.unusedSectionVars false
set_option linter.unusedSimpArgs false
namespace Go.Proofs.YtdpaijnbikclgaaDoorE
open Go
structure FI where
 modes : List Bool
 fz : Bool
 keep : List (Nat × List Nat)
def FI.nest (fi : FI) : Bool := fi.keep.any fun p => p.1 == 999999
def FI.mu (fi : FI) (S : Store) (as' : List A) (D : List Nat) : List Nat := if fi.nest = true ∧ D.isEmpty = true then List.range S.length else as'.flatMap idsV
def FI.fin (fi : FI) (md : Md) (S : Store) (mu D : List Nat) (S₁ : Store) (vs : List A) : Option (List A × Store) := if fi.nest = true then finK md S mu D S₁ vs else finA md S mu D S₁ vs
theorem FI.fin_ok {W : Fm} {S : Store} {σ : Place} {I F : Nat → Prop} {md : Md} {h h₁ : Array Obj} {S₁ : Store} {σ₁ : Place} {I₁ F₁ : Nat → Prop} {fi : FI} (s : Sim W S σ I F h) (hm : MdOk W md) {mu D : List Nat} (hD : ∀ i ∈ D, ∃ o, S[i]? = some o) (hdis : ∀ i ∈ D, i ∉ mu)
  (s₁ : Sim (calleeW S mu md h.size) S₁ σ₁ I₁ F₁ h₁) (E₁ : Ext (calleeW S mu md h.size) S σ (fun b => I b ∨ DB σ D b) (calleeF S σ F (calleeW S mu md h.size).w) h S₁ σ₁ I₁ F₁ h₁)
  {vs vs' : List A} {S₂ : Store} {xs : List Value} (hf : fi.fin md S mu D S₁ vs = some (vs', S₂)) (hr : ∀ j, j < vs.length → Rel S₁ σ₁ I₁ h₁ (vs.getD j .dead) (xs.getD j undef)) :
  vs'.length = vs.length ∧ ∃ σ₂ I₂ F₂, Sim W S₂ σ₂ I₂ F₂ h₁ ∧ Ext W S σ I F h S₂ σ₂ I₂ F₂ h₁ ∧ ∀ j, j < vs.length → Rel S₂ σ₂ I₂ h₁ (vs'.getD j .dead) (xs.getD j undef) := by
 unfold FI.fin at hf
 split at hf
 ·exact finK_ok s hm hD hdis s₁ E₁ hf hr
 ·exact Go.Proofs.YtdpaijnbikclgaaDoorE.fin_ok s hm hD hdis s₁ E₁ hf hr
def FI.K (fi : FI) (i : Nat) : Option (List Nat) := (fi.keep.find? fun p => p.1 == i).map (·.2)
def envOf (as : List A) : Env := fun t => as.getD t .dead
def resV (T : Nat → Option TI) (S : Store) (t : Nat) (a : A) : Option A := match T t with
 | some ti => match rdA S ti.sz a with
  | some cs => mkA ti.agg cs
  | none => none
 | none => none
def resT (T : Nat → Option TI) (S : Store) : List ResultVar → Env → Option (List A)
 | [], _ => some []
 | .tmp t :: l, e => match resT T S l e with | some r => some (e t :: r) | none => none
 | .cell a t :: l, e => match resV T S t (e a), resT T S l e with | some x, some r => some (x :: r) | _, _ => none
def resA : List A → A
 | [a] => a
 | l => .tu l
abbrev Reg := (Nat → Option TI) → Cl → Md → Nat → Array Oper → Env → Store → Option (Env × Store)
noncomputable def evF (T : Nat → Option TI) (R : Reg) (Fs : Nat → Option (Func × FI)) (X : Cl) : Nat → Cl
 | 0 => X
 | k + 1 => fun md g as S => match X md g as S with
  | some r => some r
  | none => match Fs g with
  | some (fn, fi) => match dpArgs S fi.modes as, fn.body with
   | some (as', D), some body =>
    if (D.all fun i => !(fi.mu S as' D).contains i) = true ∧ as'.length ≤ fn.ntmps then
     match evC T (evF T R Fs X k) (R T (evF T R Fs X k)) fi.K ⟨fun id => decide (S.length ≤ id) || ((fi.mu S as' D).contains id && md.wr id), S.length, fi.fz⟩ fn.ntmps body (envOf as') S with
     | some (ex, e', S₁) => match ex with
      | .exit _ => none
      | _ => match resT T S₁ fn.results.toList e' with
       | some vs => match fi.fin md S (fi.mu S as' D) D S₁ vs with
        | some (vs', S₂) => some (resA vs', S₂)
        | none => none
       | none => none
     | none => none
    else none
   | _, _ => none
  | none => none
section
variable {P : Program} {T : Nat → Option TI} {R : Reg} {Fs : Nat → Option (Func × FI)}
def FsOk (P : Program) (Fs : Nat → Option (Func × FI)) : Prop := ∀ g fn fi, Fs g = some (fn, fi) → P.funcs[g]? = some fn ∧ fn.name ≠ "runtime.NumGoroutine"
def RegsOk (P : Program) (T : Nat → Option TI) (R : Reg) : Prop := ∀ C, CallOk P C → RegOk P (R T C)
def resM (tmps : Array Value) : ResultVar → Sem Value
 | .tmp t => pure (tmps.getD t undef)
 | .cell a t => do loadVar t (← asAddr (tmps.getD a undef))
theorem results_run {fn : Func} {tmps : Array Value} {xs : List Value} (P : Program) (w : World) (h : (fn.results.toList.mapM (resM tmps)).run P w = .ok xs w) :
  (results fn tmps).run P w = .ok (if h : xs.toArray.size = 1 then xs.toArray[0] else .tuple xs.toArray) w := by
 have e : results fn tmps = (do let vs ← fn.results.mapM (resM tmps); pure (if h : vs.size = 1 then vs[0] else .tuple vs) : Sem Value) := by
  unfold results
  refine congrArg (fun m : Sem (Array Value) => (do let vs ← m; pure (if h : vs.size = 1 then vs[0] else .tuple vs) : Sem Value)) ?_
  refine congrArg (fun f : ResultVar → Sem Value => fn.results.mapM f) ?_
  funext x; cases x <;> rfl
 rw [e]
 cases hfr : fn.results with
 | mk l =>
  rw [hfr] at h
  simp only [Sem.run_bind, List.mapM_toArray, Sem.run_map]
  rw [h]
  simp only [Result.andThen_ok, Sem.run_pure]
theorem resT_tmps {W : Fm} {F : Nat → Prop} (hT : TOk P T) {tmps : Array Value} {S : Store} {σ : Place} {I : Nat → Prop} {w : World} {e : Env} (s : Sim W S σ I F w.heap) (he : EnvRel S σ I w.heap e tmps) : ∀ {l : List ResultVar} {vs : List A}, resT T S l e = some vs →
  ∃ xs : List Value, xs.length = vs.length ∧ ((l.mapM (resM tmps)).run P w = .ok xs w) ∧ ∀ j, j < vs.length → Rel S σ I w.heap (vs.getD j .dead) (xs.getD j undef)
 | [], vs, h1 => by injection h1 with h1; subst h1; exact ⟨[], rfl, rfl, fun j hj => by simp at hj⟩
 | .tmp t :: l, vs, h1 => by
  simp only [resT] at h1
  split at h1
  ·rename_i r hr
   injection h1 with h1; subst h1
   obtain ⟨xs, k1, k2, k3⟩ := resT_tmps hT s he hr
   refine ⟨tmps.getD t undef :: xs, by simp [k1], ?_, fun j hj => ?_⟩
   ·simp only [List.mapM_cons, resM, Sem.run_bind, Sem.run_pure, Result.andThen_ok, k2]
   ·cases j with
    | zero => exact he t
    | succ j => exact k3 j (by simp at hj; omega)
  ·cases h1
 | .cell a t :: l, vs, h1 => by
  simp only [resT] at h1
  split at h1
  ·rename_i x r hx hr
   injection h1 with h1; subst h1
   obtain ⟨xs, k1, k2, k3⟩ := resT_tmps hT s he hr
   unfold resV at hx
   split at hx
   ·rename_i ti ht
    split at hx
    ·rename_i cs hcs
     obtain ⟨ad, b, ty, fr, q0, q1, q2, q3, q4, q5⟩ := rdA_ok s hcs (he a)
     obtain ⟨y, y1, y2⟩ := run_loadVar_b hT ht q1 q2 q3 q4 hx q5
     refine ⟨y :: xs, by simp [k1], ?_, fun j hj => ?_⟩
     ·simp only [List.mapM_cons, resM, Sem.run_bind, q0, asAddr, Sem.run_pure, Result.andThen_ok, y1, k2]
     ·cases j with
      | zero => exact y2
      | succ j => exact k3 j (by simp at hj; omega)
    ·cases hx
   ·cases hx
  ·cases h1
theorem evF_ok {X : Cl} (hT : TOk P T) (hF : FsOk P Fs) (hR : RegsOk P T R) (hX : CallOk P X) : ∀ k, CallOk P (evF T R Fs X k)
 | 0 => hX
 | k + 1 => fun md g as S r S' h => by
  have ih := evF_ok hT hF hR hX k
  simp only [evF] at h
  split at h
  ·rename_i r' hx; injection h with h; subst h; exact hX md g as S r S' hx
  split at h
  ·rename_i fn fi hg
   obtain ⟨f1, f2⟩ := hF g fn fi hg
   split at h
   ·rename_i as' D body hd hbody
    split at h
    ·rename_i hh
     split at h
     ·rename_i ex e' S₁ hc
      refine ⟨⟨fn, f1, f2, by rw [hbody]; rfl⟩, fun W σ I F w vals s hm hl hr => ?_⟩
      have hD := dpArgs_ids hd
      have hdis : ∀ i ∈ D, i ∉ fi.mu S as' D := fun i hi hmem => by
       have := List.all_eq_true.1 hh.1 i hi
       simp only [Bool.not_eq_true', List.contains_eq_mem, decide_eq_false_iff_not] at this
       exact this hmem
      obtain ⟨al, ar⟩ := dpArgs_ok s (D := D) (xs := vals.toList) hd (fun i hi => hi) (fun j hj => by have := hr j hj; simpa [show j < vals.size by omega] using this)
      have s' := callee_sim s hm hD hdis
      have hm' := callee_md (S := S) (md := md) (fi.mu S as' D) w.heap.size fi.fz
      refine calls_of_wp f1 hbody ?_
      have hsz : vals.size ≤ fn.ntmps := by omega
      have he : EnvRel S σ (fun b => I b ∨ DB σ D b) w.heap (envOf as') (vals ++ Array.replicate (fn.ntmps - vals.size) undef) := fun t => by
       simp only [envOf]
       by_cases ht : t < as'.length
       ·have := ar t (by omega)
        have e1 : (vals ++ Array.replicate (fn.ntmps - vals.size) undef).getD t undef = vals.toList.getD t undef := by
         rw [Array.getD_eq_getD_getElem?, Array.getElem?_append_left (by omega)]; simp [show t < vals.size by omega]
        rw [e1]; exact this
       ·have : as'.getD t .dead = .dead := by simp [show as'.length ≤ t by omega]
        rw [this]; exact .dead _
      refine code_wp ih (hR _ ih) hT hm' body (act := { tmps := vals ++ Array.replicate (fn.ntmps - vals.size) undef, defers := [] }) (by simp; omega) s' he hc fun act' w' hp => ?_
      obtain ⟨σ₁, I₁, F₁, k1, k2, k3, k4, k5, k6, k7, k8⟩ := hp
      have fin : ∀ vs, resT T S₁ fn.results.toList e' = some vs → (match fi.fin md S (fi.mu S as' D) D S₁ vs with | some (vs', S₂) => some (resA vs', S₂) | none => none) = some (r, S') →
        act'.defers = [] ∧ ∃ v, (results fn act'.tmps).run P w' = .ok v w' ∧ ∃ x, (Ending.returned v) = .returned x ∧ Step W S σ I F w r S' x w' := fun vs hvs hfin => by
       refine ⟨k5, ?_⟩
       obtain ⟨xs, x1, x2, x3⟩ := resT_tmps hT k1 k3 hvs
       split at hfin
       ·rename_i vs' S₂ hfa
        injection hfin with hfin; injection hfin with e1 e2; subst e1 e2
        obtain ⟨l1, σ₂, I₂, F₂, q1, q2, q3⟩ := FI.fin_ok s hm hD hdis k1 k2 hfa x3
        have hrun := results_run P w' x2
        refine ⟨_, hrun, _, rfl, σ₂, I₂, F₂, q1, q2, ?_, k6, k7, k8⟩
        have hlen : vs'.length = xs.length := by omega
        unfold resA
        split
        ·rename_i a
         have hx : xs.toArray.size = 1 := by simp at hlen ⊢; omega
         rw [dif_pos hx]
         have := q3 0 (by simp at l1; omega)
         have e3 : xs.getD 0 undef = xs.toArray[0] := by simp at hx; simp [hx]
         rw [e3] at this
         simpa using this
        ·rename_i hne
         have hx : ¬ xs.toArray.size = 1 := fun hx => by
          simp at hx
          rw [hx] at hlen
          obtain ⟨a, ha⟩ := List.length_eq_one_iff.1 hlen
          exact hne a ha
         rw [dif_neg hx]
         exact .tu vs' _ (by simp [hlen]) fun j hj => by have := q3 j (by omega); simpa using this
       ·cases hfin
      cases ex with
      | exit m => simp at h
      | normal =>
       simp only at h
       split at h
       ·rename_i vs hvs; exact fin vs hvs h
       ·cases h
      | ret =>
       simp only at h
       split at h
       ·rename_i vs hvs; exact fin vs hvs h
       ·cases h
     ·cases h
    ·cases h
   ·cases h
  ·cases h
end
end Go.Proofs.YtdpaijnbikclgaaDoorE
