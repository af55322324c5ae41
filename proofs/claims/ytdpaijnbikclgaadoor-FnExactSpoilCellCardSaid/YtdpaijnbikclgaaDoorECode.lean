/- Part of the proof: an evaluator (YtdpaijnbikclgaaDoorECode). -/
import Derived.Test.YtdpaijnbikclgaaDoorEGc
set_option linter.unusedVariables false
set_option linter.unusedSectionVars false
set_option linter.unusedSimpArgs false
namespace Go.Proofs.YtdpaijnbikclgaaDoorE
open Go
def rho (e : Env) : Operand → A
  | .tmp t => e t
  | .const x => .v x
  | .func f => .fn f []
  | .global _ => .dead
inductive Ex where
  | normal | exit (n : Nat) | ret
abbrev Cl := Md → Nat → List A → Store → Option (A × Store)
def evStep (T : Nat → Option TI) (C : Cl) (md : Md) (e : Env) (S : Store) (o : Oper) : Option (A × Store) :=
  match o.op with
  | .call { callee := .value f, args, .. } => match rho e f with
    | .fn g caps => C md g (args.toList.map (rho e) ++ caps) S
    | _ => none
  | _ => evOp T md (rho e) S o
def wantedA (all : List Oper) (e : Env) (o : Oper) : Option Bool :=
  match o.guard with
  | none => some true
  | some (g, b) => match (all[g]?).bind (·.dst) with
    | none => some false
    | some t => match e t with
      | .v (.bool c) => some (c == b)
      | .v _ => some false
      | _ => none
def putA (n : Nat) (e : Env) (d : Option Nat) (a : A) : Option Env := match d with
  | none => some e
  | some d => if d < n then some (e.set d a) else none
def evOps (T : Nat → Option TI) (C : Cl) (md : Md) (n : Nat) (all : List Oper) : List Oper → Env → Store → Option (Env × Store)
  | [], e, S => some (e, S)
  | o :: rest, e, S => match wantedA all e o with
    | some true => match evStep T C md e S o with
      | some (a, S') => match putA n e o.dst a with
        | some e' => evOps T C md n all rest e' S'
        | none => none
      | none => none
    | some false => match putA n e o.dst (.v undef) with
      | some e' => evOps T C md n all rest e' S
      | none => none
    | none => none
def iter (f : Env → Store → Option (Ex × Env × Store)) : Nat → Env → Store → Option (Ex × Env × Store)
  | 0, _, _ => none
  | k + 1, e, S => match f e S with
    | some (.normal, e', S') => iter f k e' S'
    | r => r
theorem iter_mono {f : Env → Store → Option (Ex × Env × Store)} : ∀ {k : Nat} {e : Env} {S : Store} {r}, iter f k e S = some r → iter f (k + 1) e S = some r
  | 0, e, S, r, h => by cases h
  | k + 1, e, S, r, h => by
    unfold iter at h ⊢
    split at h
    · exact iter_mono h
    · exact h
theorem iter_le {f : Env → Store → Option (Ex × Env × Store)} {k : Nat} {e : Env} {S : Store} {r} (h : iter f k e S = some r) : ∀ j, iter f (k + j) e S = some r
  | 0 => h
  | j + 1 => iter_mono (iter_le h j)
open Classical in
noncomputable def itL (f : Env → Store → Option (Ex × Env × Store)) (e : Env) (S : Store) : Option (Ex × Env × Store) :=
  if h : ∃ r k, iter f k e S = some r then some h.choose else none
theorem itL_run {f : Env → Store → Option (Ex × Env × Store)} {e : Env} {S : Store} {r} (h : itL f e S = some r) : ∃ k, iter f k e S = some r := by
  unfold itL at h
  split at h
  · rename_i hh; injection h with h; exact h ▸ hh.choose_spec
  · cases h
theorem itL_of {f : Env → Store → Option (Ex × Env × Store)} {e : Env} {S : Store} {k : Nat} {r} (h : iter f k e S = some r) : itL f e S = some r := by
  unfold itL
  rw [dif_pos ⟨r, k, h⟩]
  obtain ⟨j, hj⟩ := (⟨r, k, h⟩ : ∃ r k, iter f k e S = some r).choose_spec
  have h1 := iter_le hj k
  have h2 := iter_le h j
  rw [Nat.add_comm] at h2
  exact h1.symm.trans h2
theorem itL_end {f : Env → Store → Option (Ex × Env × Store)} {e e' : Env} {S S' : Store} {ex : Ex} (h : f e S = some (ex, e', S')) (hn : ex ≠ .normal) : itL f e S = some (ex, e', S') := by
  refine itL_of (k := 1) ?_
  unfold iter
  rw [h]
  cases ex <;> first | exact absurd rfl hn | rfl
theorem itL_next {f : Env → Store → Option (Ex × Env × Store)} {e e' : Env} {S S' : Store} {r} (h : f e S = some (.normal, e', S')) (hr : itL f e' S' = some r) : itL f e S = some r := by
  obtain ⟨k, hk⟩ := itL_run hr
  refine itL_of (k := k + 1) ?_
  unfold iter
  rw [h]
  exact hk
section
variable {P : Program} {T : Nat → Option TI} {W : Fm} {S : Store} {σ : Place} {I F : Nat → Prop} {w : World} {md : Md}
def CallOk (P : Program) (C : Cl) : Prop := ∀ md g as S r S', C md g as S = some (r, S') → (∃ fn, P.funcs[g]? = some fn ∧ fn.name ≠ "runtime.NumGoroutine" ∧ fn.body.isNone = false) ∧
  ∀ (W : Fm) σ I F w (vals : Array Value), Sim W S σ I F w.heap → MdOk W md → as.length = vals.size → (∀ j, j < as.length → Rel S σ I w.heap (as.getD j .dead) (vals.getD j undef)) →
    Calls P g vals w fun e w' => ∃ x, e = .returned x ∧ Step W S σ I F w r S' x w'
def EnvRel (S : Store) (σ : Place) (I : Nat → Prop) (h : Array Obj) (e : Env) (tmps : Array Value) : Prop := ∀ t, Rel S σ I h (e t) (tmps.getD t undef)
theorem rho_ok {e : Env} {a : Act} (he : EnvRel S σ I w.heap e a.tmps) (x : Operand) : Rel S σ I w.heap (rho e x) (a.eval x) := by
  cases x with
  | tmp t => exact he t
  | const x => exact .v x
  | func f => exact .fn f [] #[] rfl fun i hi => by simp at hi
  | global g => exact .dead _
theorem put_ok {e e' : Env} {a : Act} {d : Option Nat} {b : A} {x : Value} (he : EnvRel S σ I w.heap e a.tmps) (hb : Rel S σ I w.heap b x) (h : putA a.tmps.size e d b = some e') : EnvRel S σ I w.heap e' (a.put d x).tmps := by
  unfold putA at h
  cases d with
  | none => injection h with h; subst h; exact he
  | some d =>
    simp only at h
    split at h
    · rename_i hd
      injection h with h; subst h
      intro t
      simp only [Env.set, Act.put]
      split
      · rename_i e; subst e; simpa [hd] using hb
      · rename_i ne
        have := he t
        simpa [Array.getElem?_setIfInBounds_ne (Ne.symm ne)] using this
    · cases h
theorem put_size (a : Act) (d : Option Nat) (x : Value) : (a.put d x).tmps.size = a.tmps.size := by cases d <;> simp [Act.put]
theorem put_defers (a : Act) (d : Option Nat) (x : Value) : (a.put d x).defers = a.defers := by cases d <;> rfl
theorem EnvRel.ext {e : Env} {tmps : Array Value} {S' : Store} {σ' : Place} {I' F' : Nat → Prop} {h h' : Array Obj} (he : EnvRel S σ I h e tmps) (E : Ext W S σ I F h S' σ' I' F' h') (sub : ∀ b, I b → F b) : EnvRel S' σ' I' h' e tmps :=
  fun t => E.rel sub (he t)
theorem step_wp {C : Cl} (hC : CallOk P C) (hT : TOk P T) (s : Sim W S σ I F w.heap) (hm : MdOk W md) {e : Env} {act : Act} (he : EnvRel S σ I w.heap e act.tmps) {o : Oper} {a : A} {S' : Store} (h : evStep T C md e S o = some (a, S'))
    {K : Act → World → Prop} {Q : Exit → Act → World → Prop} (hK : ∀ x w', Step W S σ I F w a S' x w' → K (act.put o.dst x) w') : o.wp P act w K Q := by
  have plain : ∀ (h : evOp T md (rho e) S o = some (a, S')), o.wp P act w K Q := fun h => by
    obtain ⟨x, w', g, st⟩ := evOp_ok (ρ' := act.eval) s hT hm (fun x _ => rho_ok he x) (fun c => .v c) h
    unfold Oper.wp
    rcases g with g | ⟨g, rfl⟩
    · rw [g]; exact hK _ _ st
    · rw [g]; exact hK _ _ st
  unfold evStep at h
  split at h
  · rename_i f args at_ hop
    split at h
    · rename_i g caps hf
      obtain ⟨⟨fn, f1, f2, f3⟩, hc⟩ := hC _ _ _ _ _ _ h
      have rf := rho_ok he f
      rw [hf] at rf
      generalize hfv : act.eval f = fv at rf
      cases rf with
      | fn _ _ vs hl hcv =>
        have hrun : (execOp act.eval o).run P w = .ok (.enter g ((args.map act.eval) ++ vs)) w := by
          unfold execOp
          rw [hop]
          simp only [resolve, hfv, Deferred.ofValue, Sem.run_bind, Sem.run_pure, Result.andThen_ok, invoke, callFunc, run_program, f1]
          have e1 : (fn.name == "runtime.NumGoroutine") = false := by simpa using f2
          simp only [e1, Bool.false_eq_true, if_false, f3, Array.empty_append, Sem.run_pure]
        unfold Oper.wp
        rw [hrun]
        refine Calls.mono (hc W σ I F w _ s hm (by simp [hl]) fun j hj => ?_) ?_
        · simp only [List.length_append, List.length_map, Array.length_toList] at hj
          by_cases hja : j < args.size
          · have e1 : (args.toList.map (rho e) ++ caps).getD j .dead = rho e args[j] := by
              rw [List.getD_eq_getElem?_getD, List.getElem?_append_left (by simpa using hja)]; simp [hja]
            have e2 : (args.map act.eval ++ vs).getD j undef = act.eval args[j] := by
              rw [Array.getD_eq_getD_getElem?, Array.getElem?_append_left (by simpa using hja)]; simp [hja]
            rw [e1, e2]; exact rho_ok he _
          · have e1 : (args.toList.map (rho e) ++ caps).getD j .dead = caps.getD (j - args.size) .dead := by
              rw [List.getD_eq_getElem?_getD, List.getElem?_append_right (by simp; omega)]; simp
            have e2 : (args.map act.eval ++ vs).getD j undef = vs.getD (j - args.size) undef := by
              rw [Array.getD_eq_getD_getElem?, Array.getElem?_append_right (by simp; omega)]; simp
            rw [e1, e2]; exact hcv _ (by omega)
        · rintro en w' ⟨x, rfl, st⟩
          exact hK x w' st
    · cases h
  · exact plain h
theorem wanted_ok {ops : Array Oper} {e : Env} {act : Act} (he : EnvRel S σ I w.heap e act.tmps) {o : Oper} {b : Bool} (h : wantedA ops.toList e o = some b) : Region.wanted o (yielded ops act.tmps) = b := by
  unfold wantedA at h
  unfold Region.wanted
  split at h
  · rename_i hg; injection h with h; subst h; rw [hg]
  · rename_i g c hg
    rw [hg]
    have hl : (ops.toList[g]?) = ops[g]? := by simp
    rw [hl] at h
    simp only [yielded]
    split at h
    · rename_i hd; injection h with h; subst h
      rw [hd]; rfl
    · rename_i t hd
      rw [hd]
      have ht := he t
      split at h
      · rename_i cb hcb; injection h with h; subst h
        rw [hcb] at ht
        have := relv ht
        simp only [Option.bind_some]
        have e1 : act.tmps[t]? = some (.bool cb) := by
          rcases Nat.lt_or_ge t act.tmps.size with hlt | hge
          · rw [getElem?_getD hlt, this]
          · have : act.tmps.getD t undef = undef := by simp [hge]
            rw [this] at ht; cases ht
        rw [e1]
        cases cb <;> cases c <;> rfl
      · rename_i x hne hx; injection h with h; subst h
        rw [hx] at ht
        have := relv ht
        simp only [Option.bind_some]
        cases hq : act.tmps[t]? with
        | none => rfl
        | some v =>
          have e2 : act.tmps.getD t undef = v := by simp [hq]
          rw [e2] at this; subst this
          cases v <;> first | rfl | exact absurd rfl (hne _)
      · cases h
def Post (W : Fm) (S : Store) (σ : Place) (I F : Nat → Prop) (w : World) (act : Act) (e' : Env) (S' : Store) (act' : Act) (w' : World) : Prop :=
  ∃ σ' I' F', Sim W S' σ' I' F' w'.heap ∧ Ext W S σ I F w.heap S' σ' I' F' w'.heap ∧ EnvRel S' σ' I' w'.heap e' act'.tmps ∧ act'.tmps.size = act.tmps.size ∧ act'.defers = act.defers ∧ w'.os = w.os ∧ w'.tape = w.tape ∧ w'.output = w.output
theorem ops_wp {C : Cl} (hC : CallOk P C) (hT : TOk P T) (hm : MdOk W md) {ops : Array Oper} {Q : Exit → Act → World → Prop} : ∀ {l : List Oper} {e e' : Env} {S S' : Store} {σ : Place} {I F : Nat → Prop} {w : World} {act : Act}, Sim W S σ I F w.heap → EnvRel S σ I w.heap e act.tmps →
    evOps T C md act.tmps.size ops.toList l e S = some (e', S') → (∀ act' w', Post W S σ I F w act e' S' act' w' → Q .normal act' w') → wpList P ops Q l act w
  | [], e, e', S, S', σ, I, F, w, act, s, he, h, hQ => by
    injection h with h; injection h with e1 e2; subst e1 e2
    exact hQ act w ⟨σ, I, F, s, .refl, he, rfl, rfl, rfl, rfl, rfl⟩
  | o :: rest, e, e', S, S', σ, I, F, w, act, s, he, h, hQ => by
    simp only [evOps] at h
    unfold wpList
    split at h
    · rename_i hw
      rw [if_pos (wanted_ok he hw)]
      split at h
      · rename_i a S₁ hs
        split at h
        · rename_i e₁ hp
          refine .inl (step_wp hC hT s hm he hs fun x w₁ st => ?_)
          obtain ⟨σ₁, I₁, F₁, k1, k2, k3, k4, k5, k6⟩ := st
          have he₁ := put_ok (he.ext k2 s.sub) k3 hp
          refine ops_wp hC hT hm k1 he₁ (by rw [put_size]; exact h) fun act' w' hp' => hQ act' w' ?_
          obtain ⟨σ₂, I₂, F₂, b1, b2, b3, b4, b5, b6, b7, b8⟩ := hp'
          exact ⟨σ₂, I₂, F₂, b1, k2.trans b2, b3, b4.trans (put_size _ _ _), b5.trans (put_defers _ _ _), b6.trans k4, b7.trans k5, b8.trans k6⟩
        · cases h
      · cases h
    · rename_i hw
      rw [if_neg (by rw [wanted_ok he hw]; simp)]
      split at h
      · rename_i e₁ hp
        have he₁ := put_ok he (.v undef) hp
        refine ops_wp hC hT hm s he₁ (by rw [put_size]; exact h) fun act' w' hp' => hQ act' w' ?_
        obtain ⟨σ₂, I₂, F₂, b1, b2, b3, b4, b5, b6, b7, b8⟩ := hp'
        exact ⟨σ₂, I₂, F₂, b1, b2, b3, b4.trans (put_size _ _ _), b5.trans (put_defers _ _ _), b6, b7, b8⟩
      · cases h
    · cases h
end
def Ex.ex : Ex → Exit | .normal => .normal | .exit n => .exit n | .ret => .ret
def firstR : Code → Nat
  | .region id _ _ => id
  | .seq a _ => firstR a
  | .cond _ a _ => firstR a
  | .block _ a => firstR a
  | .loop a => firstR a
  | _ => 0
noncomputable def lpF (K : Option (List Nat)) (f : Env → Store → Option (Ex × Env × Store)) (e : Env) (S : Store) : Option (Ex × Env × Store) :=
  match f e S with
  | some (.normal, e', S') => some (.normal, lpE K e', lpG K S e' S')
  | r => r
noncomputable def evC (T : Nat → Option TI) (C : Cl) (R : Md → Nat → Array Oper → Env → Store → Option (Env × Store)) (K : Nat → Option (List Nat)) (md : Md) (n : Nat) : Code → Env → Store → Option (Ex × Env × Store)
  | .skip, e, S => some (.normal, e, S)
  | .region id ops dr, e, S => match (if dr then R md n ops e S else evOps T C md n ops.toList ops.toList e S) with
    | some (e', S') => some (.normal, lpE (K (id + 1000)) e', S')
    | none => none
  | .seq a b, e, S => match evC T C R K md n a e S with
    | some (.normal, e', S') => evC T C R K md n b e' S'
    | r => r
  | .cond c x y, e, S => match rho e c with
    | .v (.bool t) => if t then evC T C R K md n x e S else evC T C R K md n y e S
    | _ => none
  | .block id b, e, S => match evC T C R K md n b e S with
    | some (.exit m, e', S') => if m = id then some (.normal, e', S') else some (.exit m, e', S')
    | r => r
  | .loop b, e, S => itL (lpF (K (firstR b)) (evC T C R K md n b)) (lpE (K (firstR b)) e) S
  | .exit m, e, S => some (.exit m, e, S)
  | .ret, e, S => some (.ret, e, S)
  | _, _, _ => none
section
variable {P : Program} {T : Nat → Option TI} {W : Fm} {md : Md}
def RegOk (P : Program) (R : Md → Nat → Array Oper → Env → Store → Option (Env × Store)) : Prop :=
  ∀ (W : Fm) md ops e S e' S' id, MdOk W md → ∀ σ I F (w : World) (act : Act), R md act.tmps.size ops e S = some (e', S') → Sim W S σ I F w.heap → EnvRel S σ I w.heap e act.tmps →
    ∀ Q : Exit → Act → World → Prop, (∀ act' w', Post W S σ I F w act e' S' act' w' → Q .normal act' w') → (Code.region id ops true).wp P Q act w
theorem code_wp {C : Cl} {R : Md → Nat → Array Oper → Env → Store → Option (Env × Store)} (hC : CallOk P C) (hR : RegOk P R) (hT : TOk P T) (hm : MdOk W md) {K : Nat → Option (List Nat)} {n : Nat} : ∀ (c : Code) {ex : Ex} {e e' : Env} {S S' : Store} {σ : Place} {I F : Nat → Prop} {w : World} {act : Act} {Q : Exit → Act → World → Prop},
    act.tmps.size = n → Sim W S σ I F w.heap → EnvRel S σ I w.heap e act.tmps → evC T C R K md n c e S = some (ex, e', S') → (∀ act' w', Post W S σ I F w act e' S' act' w' → Q ex.ex act' w') → c.wp P Q act w := by
  intro c
  induction c with
  | skip =>
    intro ex e e' S S' σ I F w act Q hn s he h hQ
    injection h with h; injection h with e1 h; injection h with e2 e3; subst e1 e2 e3
    exact wp_skip (hQ act w ⟨σ, I, F, s, .refl, he, rfl, rfl, rfl, rfl, rfl⟩)
  | region id ops dr =>
    intro ex e e' S S' σ I F w act Q hn s he h hQ
    simp only [evC] at h
    split at h
    · rename_i e₁ S₁ h1
      injection h with h; injection h with e1 h; injection h with e2 e3; subst e1 e2 e3
      have sel : ∀ {K : Option (List Nat)} {e : Env} {S : Store} {σ : Place} {I : Nat → Prop} {h : Array Obj} {tmps : Array Value}, EnvRel S σ I h e tmps → EnvRel S σ I h (lpE K e) tmps := by
        intro K e S σ I h tmps he t
        cases K with
        | none => exact he t
        | some ks => rcases mkE_sel ks e t with ⟨e1, _⟩ | e1 <;> simp only [lpE, e1]
                     · exact he t
                     · exact .dead _
      have hQ' : ∀ act' w', Post W S σ I F w act e₁ S₁ act' w' → Q .normal act' w' := fun act' w' hp => by
        obtain ⟨σ₁, I₁, F₁, k1, k2, k3, k4⟩ := hp
        exact hQ act' w' ⟨σ₁, I₁, F₁, k1, k2, sel k3, k4⟩
      cases dr with
      | false =>
        simp only [Bool.false_eq_true, if_false] at h1
        exact wp_region_list (ops_wp hC hT hm s he (by rw [hn]; exact h1) hQ')
      | true =>
        simp only [if_true] at h1
        exact hR W md ops e S _ _ id hm σ I F w act (by rw [hn]; exact h1) s he Q hQ'
    · cases h
  | seq a b iha ihb =>
    intro ex e e' S S' σ I F w act Q hn s he h hQ
    simp only [evC] at h
    refine wp_seq ?_
    split at h
    · rename_i e₁ S₁ h1
      refine iha hn s he h1 fun act' w' hp => ?_
      simp only [Ex.ex, Exit.then]
      obtain ⟨σ₁, I₁, F₁, k1, k2, k3, k4, k5, k6, k7, k8⟩ := hp
      refine ihb (k4.trans hn) k1 k3 h fun act'' w'' hp' => hQ act'' w'' ?_
      obtain ⟨σ₂, I₂, F₂, b1, b2, b3, b4, b5, b6, b7, b8⟩ := hp'
      exact ⟨σ₂, I₂, F₂, b1, k2.trans b2, b3, b4.trans k4, b5.trans k5, b6.trans k6, b7.trans k7, b8.trans k8⟩
    · rename_i hne
      refine iha hn s he h fun act' w' hp => ?_
      have := hQ act' w' hp
      cases ex with
      | normal => exact absurd h (hne _ _)
      | exit m => exact this
      | ret => exact this
  | cond c x y ihx ihy =>
    intro ex e e' S S' σ I F w act Q hn s he h hQ
    simp only [evC] at h
    split at h
    · rename_i t ht
      have hc := rho_ok he c
      rw [ht] at hc
      have hv := relv hc
      refine wp_cond (t := t) hv ?_
      cases t
      · simp only [Bool.false_eq_true, if_false] at h ⊢; exact ihy hn s he h hQ
      · simp only [if_true] at h ⊢; exact ihx hn s he h hQ
    · cases h
  | block id b ih =>
    intro ex e e' S S' σ I F w act Q hn s he h hQ
    simp only [evC] at h
    refine wp_block ?_
    split at h
    · rename_i m e₁ S₁ h1
      refine ih hn s he h1 fun act' w' hp => ?_
      simp only [Ex.ex, Exit.inBlock]
      split at h
      · rename_i hmi; injection h with h; injection h with e1 h; injection h with e2 e3; subst e1 e2 e3
        rw [if_pos hmi]; exact hQ act' w' hp
      · rename_i hmi; injection h with h; injection h with e1 h; injection h with e2 e3; subst e1 e2 e3
        rw [if_neg hmi]; exact hQ act' w' hp
    · rename_i hne
      refine ih hn s he h fun act' w' hp => ?_
      have := hQ act' w' hp
      cases ex with
      | normal => exact this
      | exit m => exact absurd h (hne _ _ _)
      | ret => exact this
  | loop b ih =>
    intro ex e e' S S' σ I F w act Q hn s he h hQ
    simp only [evC] at h
    have sel : ∀ {K : Option (List Nat)} {e : Env} {S : Store} {σ : Place} {I : Nat → Prop} {h : Array Obj} {tmps : Array Value}, EnvRel S σ I h e tmps → EnvRel S σ I h (lpE K e) tmps := by
      intro K e S σ I h tmps he t
      cases K with
      | none => exact he t
      | some ks => rcases mkE_sel ks e t with ⟨e1, _⟩ | e1 <;> simp only [lpE, e1]
                   · exact he t
                   · exact .dead _
    have gcd : ∀ {K : Option (List Nat)} {e₁ : Env} {S S₁ : Store} {σ : Place} {I F : Nat → Prop} {w : World} {act act' : Act} {w' : World}, Sim W S σ I F w.heap → Post W S σ I F w act e₁ S₁ act' w' → Post W S σ I F w act (lpE K e₁) (lpG K S e₁ S₁) act' w' := by
      intro K e₁ S S₁ σ I F w act act' w' s hp
      obtain ⟨σ₁, I₁, F₁, k1, k2, k3, k4⟩ := hp
      cases K with
      | none => exact ⟨σ₁, I₁, F₁, k1, k2, k3, k4⟩
      | some ks =>
        simp only [lpG]
        split
        · rename_i hg
          obtain ⟨g1, g2⟩ := gc_sim s k1 k2 hg.2
          refine ⟨σ₁, I₁, F₁, g1, g2, fun t => ?_, k4⟩
          rcases mkE_sel ks e₁ t with ⟨e1, e2⟩ | e1 <;> simp only [lpE, e1]
          · exact lowV_rel (List.all_eq_true.1 hg.1 _ e2) (k3 t)
          · exact .dead _
        · exact ⟨σ₁, I₁, F₁, k1, k2, sel (K := some ks) k3, k4⟩
    generalize K (firstR b) = Kb at h
    have key : ∀ (j : Nat) {e : Env} {S : Store} {σ : Place} {I F : Nat → Prop} {w : World} {act : Act} (fr : Frame) (KK : List Item) (cs : List Frame), act.tmps.size = n → Sim W S σ I F w.heap → EnvRel S σ I w.heap e act.tmps → iter (lpF Kb (evC T C R K md n b)) j e S = some (ex, e', S') →
        (∀ act' w', Post W S σ I F w act e' S' act' w' → Q ex.ex act' w') → ∃ en a' w', Q en a' w' ∧ Arrives P (lone (fr.at act (.code b :: .inLoop b :: KK)) cs w) fr KK cs en a' w' := by
      intro j
      induction j with
      | zero => intro e S σ I F w act fr KK cs hn s he h hQ; cases h
      | succ j ihj =>
        intro e S σ I F w act fr KK cs hn s he h hQ
        simp only [iter, lpF] at h
        cases hev : evC T C R K md n b e S with
        | none => rw [hev] at h; cases h
        | some r =>
          obtain ⟨ex₁, e₁, S₁⟩ := r
          rw [hev] at h
          cases ex₁ with
          | normal =>
            simp only at h
            obtain ⟨en, a₁, w₁, hq, harr⟩ := ih (Q := fun en a' w' => en = .normal ∧ Post W S σ I F w act e₁ S₁ a' w') hn s he hev (fun act' w' hp => ⟨rfl, hp⟩) fr (.inLoop b :: KK) cs
            obtain ⟨rfl, hp⟩ := hq
            obtain ⟨σ₁, I₁, F₁, k1, k2, k3, k4, k5, k6, k7, k8⟩ := gcd (K := Kb) s hp
            obtain ⟨en, a₂, w₂, hq₂, harr₂⟩ := ihj fr KK cs (k4.trans hn) k1 k3 h fun act'' w'' hp' => hQ act'' w'' (by
              obtain ⟨σ₂, I₂, F₂, b1, b2, b3, b4, b5, b6, b7, b8⟩ := hp'
              exact ⟨σ₂, I₂, F₂, b1, k2.trans b2, b3, b4.trans k4, b5.trans k5, b6.trans k6, b7.trans k7, b8.trans k8⟩)
            exact ⟨en, a₂, w₂, hq₂, .of_steps (Steps.trans harr (.one step_inLoop)) harr₂⟩
          | exit m =>
            injection h with h; injection h with e1 h; injection h with e2 e3; subst e1 e2 e3
            obtain ⟨en, a₁, w₁, hq, harr⟩ := ih (Q := fun en a' w' => en = .exit m ∧ Q (.exit m) a' w') hn s he hev (fun act' w' hp => ⟨rfl, hQ act' w' hp⟩) fr (.inLoop b :: KK) cs
            obtain ⟨rfl, hq⟩ := hq
            exact ⟨_, a₁, w₁, hq, .pass (x := .inLoop b) rfl (fun _ _ => .inl (by simp)) harr⟩
          | ret =>
            injection h with h; injection h with e1 h; injection h with e2 e3; subst e1 e2 e3
            obtain ⟨en, a₁, w₁, hq, harr⟩ := ih (Q := fun en a' w' => en = .ret ∧ Q .ret a' w') hn s he hev (fun act' w' hp => ⟨rfl, hQ act' w' hp⟩) fr (.inLoop b :: KK) cs
            obtain ⟨rfl, hq⟩ := hq
            exact ⟨_, a₁, w₁, hq, .pass (x := .inLoop b) rfl (fun _ _ => .inl (by simp)) harr⟩
    intro fr KK cs
    obtain ⟨k, h⟩ := itL_run h
    obtain ⟨en, a', w', hq, harr⟩ := key k fr KK cs hn s (sel he) h hQ
    exact ⟨en, a', w', hq, .of_steps (.one step_loop) harr⟩
  | exit m =>
    intro ex e e' S S' σ I F w act Q hn s he h hQ
    injection h with h; injection h with e1 h; injection h with e2 e3; subst e1 e2 e3
    exact wp_exit (hQ act w ⟨σ, I, F, s, .refl, he, rfl, rfl, rfl, rfl, rfl⟩)
  | ret =>
    intro ex e e' S S' σ I F w act Q hn s he h hQ
    injection h with h; injection h with e1 h; injection h with e2 e3; subst e1 e2 e3
    exact wp_ret (hQ act w ⟨σ, I, F, s, .refl, he, rfl, rfl, rfl, rfl, rfl⟩)
  | _ => intro ex e e' S S' σ I F w act Q hn s he h hQ; simp [evC] at h
end
end Go.Proofs.YtdpaijnbikclgaaDoorE
