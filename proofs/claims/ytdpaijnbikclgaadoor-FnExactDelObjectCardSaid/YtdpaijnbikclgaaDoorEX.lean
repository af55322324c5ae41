/- Part of the proof: an evaluator (YtdpaijnbikclgaaDoorEX). -/
import Derived.Lib.SliceRun
import Derived.Below
import Derived.Test.YtdpaijnbikclgaaDoorEWp
set_option linter.unusedVariables false
set_option linter.unusedSectionVars false
set_option linter.unusedSimpArgs false
namespace Go.Proofs.YtdpaijnbikclgaaDoorE
open Go
abbrev XE := Md → List A → Store → Option (A × Store)
def XOk (P : Program) (g : Nat) (x : XE) : Prop := ∀ md as S r S', x md as S = some (r, S') → (∃ fn, P.funcs[g]? = some fn ∧ fn.name ≠ "runtime.NumGoroutine" ∧ fn.body.isNone = false) ∧
 ∀ (W : Fm) σ I F w (vals : Array Value), Sim W S σ I F w.heap → MdOk W md → as.length = vals.size → (∀ j, j < as.length → Rel S σ I w.heap (as.getD j .dead) (vals.getD j undef)) →
  Calls P g vals w fun e w' => ∃ x, e = .returned x ∧ Step W S σ I F w r S' x w'
def Xof (xt : Nat → Option XE) : Cl := fun md g as S => match xt g with
 | some x => x md as S
 | none => none
theorem Xof_ok {P : Program} {xt : Nat → Option XE} (h : ∀ g x, xt g = some x → XOk P g x) : CallOk P (Xof xt) := fun md g as S r S' hx => by
 unfold Xof at hx
 split at hx
 ·rename_i x hg; exact h g x hg md as S r S' hx
 ·cases hx
theorem Xof_none {xt : Nat → Option XE} {md : Md} {g : Nat} {as : List A} {S : Store} (h : xt g = none) : Xof xt md g as S = none := by unfold Xof; rw [h]
theorem Cal.x {T : Nat → Option TI} {Fs : Nat → Option (Func × FI)} {xt : Nat → Option XE} {k g : Nat} {md : Md} {as : List A} {S S' : Store} {r : A} {x : XE} {Q : A → Store → Prop} (hg : xt g = some x) (hx : x md as S = some (r, S')) (hq : Q r S') :
  Cal (evF T regA Fs (Xof xt) k) md g as S Q := by
 have e : Xof xt md g as S = some (r, S') := by unfold Xof; rw [hg]; exact hx
 cases k with
 | zero => exact ⟨r, S', e, hq⟩
 | succ k => exact ⟨r, S', by simp only [evF, e], hq⟩
def cloneB (t : Nat) : Code :=
 (Code.region 0 #[Oper.mk (some 2) (Op.assign (Operand.const (Value.slice none 0 0))) t "slices.go:355" #[] none] false).seq
  (((Code.region 1 #[Oper.mk (some 3) (Op.move (Operand.tmp 0)) t "slices.go:357" #[] none, Oper.mk (some 4) (Op.binOp BinOp.eql t (Operand.tmp 3) (Operand.const (Value.slice none 0 0)) t) 4 "slices.go:357" #[Edge.mk 0 Ground.data] none] false).seq
   (Code.cond (Operand.tmp 4) ((Code.region 2 #[Oper.mk (some 2) (Op.assign (Operand.const (Value.slice none 0 0))) t "slices.go:358" #[] none] false).seq Code.ret) Code.skip)).seq
  ((Code.region 3 #[Oper.mk (some 5) (Op.buildSlice t 0 #[]) t "slices.go:362" #[] none, Oper.mk (some 6) (Op.move (Operand.tmp 0)) t "slices.go:362" #[] none, Oper.mk (some 7) (Op.call (Call.mk (Callee.builtin Builtin.append) #[Operand.tmp 5, Operand.tmp 6] #[t, t])) t "slices.go:362" #[Edge.mk 0 Ground.data, Edge.mk 1 Ground.data] none,
   Oper.mk (some 2) (Op.assign (Operand.tmp 7)) t "slices.go:362" #[Edge.mk 2 Ground.data, Edge.mk 2 Ground.chain, Edge.mk 0 Ground.phase, Edge.mk 1 Ground.phase, Edge.mk 2 Ground.phase] none] false).seq Code.ret))
def xClone (n bytes : Nat) : XE := fun _ as S => match as with
 | [.v (.string _)] => none
 | [a] => match rowsA S n a with
  | some rows => if leafRows rows = true ∧ flatRowsB rows = true ∧ rows.length * bytes ≤ Bound ∧ rows.length ≤ Bound then some (.sl S.length 0 rows.length rows.length, S ++ [⟨n, rows, 0, false⟩]) else none
  | none => none
 | _ => none
theorem xClone_of {n bytes : Nat} {md : Md} {S : Store} {a : A} {rows : List (List A)} (hs : ∀ s, a ≠ .v (.string s)) (hr : rowsA S n a = some rows) (hb : leafRows rows = true ∧ flatRowsB rows = true ∧ rows.length * bytes ≤ Bound ∧ rows.length ≤ Bound) :
  xClone n bytes md [a] S = some (.sl S.length 0 rows.length rows.length, S ++ [⟨n, rows, 0, false⟩]) := by
 unfold xClone
 split
 ·rename_i e; injection e with e; exact absurd e (hs _)
 ·rename_i e; injection e with e; subst e
  rw [hr]; simp only; rw [if_pos hb]
 ·rename_i h; exact absurd rfl (h a)
theorem rows_nil {W : Fm} {S : Store} {σ : Place} {I F : Nat → Prop} {h : Array Obj} (s : Sim W S σ I F h) {n l c : Nat} {a : A} {rows : List (List A)} (h1 : rowsA S n a = some rows) (r : Rel S σ I h a (.slice none l c)) : rows = [] := by
 cases r with
 | v =>
  cases l <;> cases c <;> simp [rowsA] at h1
  exact h1
 | dead => simp [rowsA] at h1
 | ro0 n' _ _ => simp [rowsA] at h1; exact h1.2
 | sl id lo hi ver a c o ho k1 k2 k3 hf =>
  simp only [rowsA, ho] at h1
  split at h1
  ·rename_i hh
   injection h1 with h1
   rcases hf hh.1.symm with ⟨q1, q2, q3⟩ | ⟨ad, cs, ty, fr, q1, q2, q3, q4, q5, q6⟩
   ·have := (s.ob id o ho).none_ q1
    rw [this] at h1; simp at h1; exact h1
   ·rcases Nat.eq_zero_or_pos c with hc | hc
    ·have : hi = lo := by omega
     rw [← h1, this]; simp
    ·have := q3 hc; cases this
  ·cases h1
theorem clone_xok {P : Program} {T : Nat → Option TI} (hT : TOk P T) {g t e n bytes n' bytes' : Nat} {zs : List Z} {ag ag' : Bool} {zs' : List Z} {kd : TK} {fn : Func}
  (hf : P.funcs[g]? = some fn) (hn : (fn.name == "runtime.NumGoroutine") = false) (hb : fn.body = some (cloneB t)) (hr : fn.results = #[.tmp 2]) (hnt : fn.ntmps = 8)
  (ht : T t = some ⟨ag, n', bytes', zs, .slice e⟩) (he : T e = some ⟨ag', n, bytes, zs', kd⟩) (hz : zs'.length = n) : XOk P g (xClone n bytes) := by
 intro md as S r S' hx
 refine ⟨⟨fn, hf, by simpa using hn, by rw [hb]; rfl⟩, fun W σ I F w vals s hm hl hv => ?_⟩
 unfold xClone at hx
 split at hx
 ·cases hx
 ·rename_i a hns
  split at hx
  ·rename_i rows hrows
   split at hx
   ·rename_i hh
    injection hx with hx; injection hx with e1 e2; subst e1 e2
    obtain ⟨v, rfl⟩ : ∃ v, vals = #[v] := by
     have : vals.size = 1 := by simpa using hl.symm
     exact ⟨vals[0], by apply Array.ext <;> simp [this]; intro i hi; have : i = 0 := (by omega); subst this; rfl⟩
    have hv0 : Rel S σ I w.heap a v := by simpa using hv 0 (by simp)
    have hC : CallOk P (fun _ _ _ _ => none) := fun _ _ _ _ _ _ h => by cases h
    have hR : RegOk P (fun _ _ _ _ _ => none) := fun _ _ _ _ _ _ _ _ _ _ _ _ _ _ h => by cases h
    have s' := callee_sim s hm (mu := []) (D := []) (fun i hi => by simp at hi) (fun i hi => by simp at hi)
    have hm' := callee_md (S := S) (md := md) [] w.heap.size false
    obtain ⟨i_, d_, z_, tok⟩ := tiOf_ok (hT t _ ht)
    have hu := tk_slice tok.kind.symm
    have hu' : P.underlying t = some (.slice e) := tok.und.trans (congrArg some hu)
    obtain ⟨base, l, c, rfl⟩ : ∃ base l c, v = .slice base l c := by
     unfold rowsA at hrows
     split at hrows
     ·exact ⟨none, 0, 0, (relv hv0)⟩
     ·exact absurd rfl (hns _)
     ·cases hv0 <;> exact ⟨_, _, _, rfl⟩
     ·cases hv0; exact ⟨_, _, _, rfl⟩
     ·cases hrows
    refine calls_of_wp hf hb ?_
    rw [hnt]
    generalize hact : ({ tmps := #[.slice base l c] ++ Array.replicate (8 - #[Value.slice base l c].size) undef, defers := [] } : Act) = act0
    have hsz : act0.tmps.size = 8 := by subst hact; simp
    have hdf : act0.defers = [] := by subst hact; rfl
    have h0 : act0.tmps.getD 0 undef = .slice base l c := by subst hact; simp
    have fin : ∀ (act act' : Act) (w' : World) (e' : Env) (S' : Store), act.defers = [] → Post (calleeW S [] md w.heap.size) S σ (fun b => I b ∨ DB σ [] b) (calleeF S σ F (calleeW S [] md w.heap.size).w) w act e' S' act' w' →
      (∀ r0, e' 2 = r0 → finA md S [] [] S' [r0] = some ([.sl S.length 0 rows.length rows.length], S ++ [⟨n, rows, 0, false⟩])) →
      act'.defers = [] ∧ ∃ v, (results fn act'.tmps).run P w' = .ok v w' ∧ ∃ x, Ending.returned v = .returned x ∧ Step W S σ I F w (.sl S.length 0 rows.length rows.length) (S ++ [⟨n, rows, 0, false⟩]) x w' := by
     intro act act' w' e' S' hd hp hfin
     obtain ⟨σ₁, I₁, F₁, k1, k2, k3, k4, k5, k6, k7, k8⟩ := hp
     have hrun : (results fn act'.tmps).run P w' = .ok (act'.tmps.getD 2 undef) w' := by
      have := results_run (fn := fn) (tmps := act'.tmps) (xs := [act'.tmps.getD 2 undef]) P w' (by rw [hr]; rfl)
      simpa using this
     obtain ⟨l1, σ₂, I₂, F₂, q1, q2, q3⟩ := fin_ok s hm (fun i hi => by simp at hi) (fun i hi => by simp at hi) k1 k2 (hfin _ rfl) (xs := [act'.tmps.getD 2 undef]) (fun j hj => by
      obtain rfl : j = 0 := by simpa using hj
      exact k3 2)
     refine ⟨k5.trans hd, _, hrun, _, rfl, σ₂, I₂, F₂, q1, q2, ?_, k6, k7, k8⟩
     have := q3 0 (by simp)
     simpa using this
    have ev0 : ∀ act : Act, act.tmps.getD 0 undef = .slice base l c → act.eval (.tmp 0) = .slice base l c := fun act h => h
    have rel0 : Rel S σ (fun b => I b ∨ DB σ [] b) w.heap a (.slice base l c) := hv0.mono fun b hb => .inl hb
    have env : ∀ act : Act, act.tmps.getD 0 undef = .slice base l c → EnvRel S σ (fun b => I b ∨ DB σ [] b) w.heap (envOf [a]) act.tmps := fun act h q => by
     cases q with
     | zero => rw [h]; exact rel0
     | succ q => exact .dead _
    have hwr : ∀ k, (⟨fun id => decide (S.length ≤ id) || (([] : List Nat).contains id && md.wr id), S.length, false⟩ : Md).wr (S.length + k) = true := fun k => by simp
    unfold cloneB
    refine wp_seq (wp_region_list ?_)
    rw [show (#[Oper.mk (some 2) (Op.assign (Operand.const (Value.slice none 0 0))) t "slices.go:355" #[] none] : Array Oper).toList = [Oper.mk (some 2) (Op.assign (Operand.const (Value.slice none 0 0))) t "slices.go:355" #[] none] from rfl]
    simp only [wpList, Region.wanted, if_true]
    refine .inl ?_
    unfold Oper.wp
    rw [show (execOp act0.eval (Oper.mk (some 2) (Op.assign (Operand.const (Value.slice none 0 0))) t "slices.go:355" #[] none)).run P w = .ok (.value (.slice none 0 0)) w from rfl, Oper.upon_value]
    show Exit.then _ _ .normal _ w
    simp only [Exit.then]
    generalize hact1 : act0.put (some 2) (.slice none 0 0) = act1
    have hsz1 : act1.tmps.size = 8 := by subst hact1; rw [put_size]; exact hsz
    have h1 : act1.tmps.getD 0 undef = .slice base l c := by subst hact1; rw [← h0]; simp [Act.put]
    have hd1 : act1.defers = [] := by subst hact1; rw [put_defers]; exact hdf
    refine wp_seq (wp_seq (wp_region_list ?_))
    show wpList P _ _ [_, _] act1 w
    simp only [wpList, Region.wanted, if_true]
    refine .inl ?_
    unfold Oper.wp
    rw [show (execOp act1.eval (Oper.mk (some 3) (Op.move (Operand.tmp 0)) t "slices.go:357" #[] none)).run P w = .ok (.value (.slice base l c)) w from by
     show Result.ok (Next.value (act1.eval (.tmp 0))) w = _; rw [ev0 act1 h1], Oper.upon_value]
    generalize hact2 : act1.put (some 3) (.slice base l c) = act2
    have hsz2 : act2.tmps.size = 8 := by subst hact2; rw [put_size]; exact hsz1
    have h2 : act2.tmps.getD 0 undef = .slice base l c := by subst hact2; rw [← h1]; simp [Act.put]
    have h23 : act2.eval (.tmp 3) = .slice base l c := by subst hact2; simp [Act.put, Act.eval, hsz1]
    have hd2 : act2.defers = [] := by subst hact2; rw [put_defers]; exact hd1
    refine .inl ?_
    have hrun : (execOp act2.eval (Oper.mk (some 4) (Op.binOp BinOp.eql t (Operand.tmp 3) (Operand.const (Value.slice none 0 0)) t) 4 "slices.go:357" #[Edge.mk 0 Ground.data] none)).run P w = .ok (.value (.bool base.isNone)) w := by
     show (do let x ← (do eqGuard .eql t (.tmp 3) (.const (.slice none 0 0)) (act2.eval (.tmp 3)) (act2.eval (.const (.slice none 0 0))); binOp .eql t (act2.eval (.tmp 3)) (act2.eval (.const (.slice none 0 0)))); pure (Next.value x) : Sem Next).run P w = _
     rw [h23]
     show (do let x ← (do eqGuard .eql t (.tmp 3) (.const (.slice none 0 0)) (.slice base l c) (.slice none 0 0); binOp .eql t (.slice base l c) (.slice none 0 0)); pure (Next.value x) : Sem Next).run P w = _
     simp only [eqGuard_at_slice, Sem.run_bind, Sem.run_pure, Result.andThen_ok, Lib.run_eql_slice_nil w t e base l c 0 0 hu']
    rw [hrun, Oper.upon_value]
    generalize hact3 : act2.put (some 4) (.bool base.isNone) = act3
    have hsz3 : act3.tmps.size = 8 := by subst hact3; rw [put_size]; exact hsz2
    have h3 : act3.tmps.getD 0 undef = .slice base l c := by subst hact3; rw [← h2]; simp [Act.put]
    have h34 : act3.eval (.tmp 4) = .bool base.isNone := by subst hact3; simp [Act.put, Act.eval, hsz2]
    have hd3 : act3.defers = [] := by subst hact3; rw [put_defers]; exact hd2
    show Exit.then _ _ .normal act3 w
    simp only [Exit.then]
    refine wp_cond h34 ?_
    cases base with
    | none =>
     have hnil := rows_nil s hrows hv0
     subst hnil
     simp only [Option.isNone_none, if_true]
     refine code_wp hC hR hT hm' (K := fun _ => none) (n := 8) _ hsz3 s' (env act3 h3) (ex := .ret) (e' := (envOf [a]).set 2 (.sl S.length 0 0 0)) (S' := S ++ [⟨n, [], 0, false⟩]) ?_ fun act' w' hp => ?_
     ·simp only [lpE, evC, evOps, wantedA, ev_asgN, ht, he, putA, if_false, Bool.false_eq_true, Nat.reduceLT, if_true]
     ·refine fin _ act' w' _ _ hd3 hp fun r0 e0 => ?_
      subst e0
      simp [Env.set, finA, rlVs, rlV, rlC, flatRowsB]
    | some ad =>
     simp only [Option.isNone_some, Bool.false_eq_true, if_false]
     refine wp_skip ?_
     show Exit.then _ _ .normal act3 w
     simp only [Exit.then]
     refine code_wp hC hR hT hm' (K := fun _ => none) (n := 8) _ hsz3 s' (env act3 h3) (ex := .ret) (e' := ((((envOf [a]).set 5 (.sl S.length 0 0 0)).set 6 a).set 7 (.sl S.length 0 rows.length rows.length)).set 2 (.sl S.length 0 rows.length rows.length)) (S' := S ++ [⟨n, rows, 0, false⟩]) ?_ fun act' w' hp => ?_
     ·have hget : (S ++ [(⟨n, [], 0, false⟩ : Ob)])[S.length]? = some ⟨n, [], 0, false⟩ := by simp
      have hset : (S ++ [(⟨n, [], 0, false⟩ : Ob)]).set S.length ⟨n, rows, 0, false⟩ = S ++ [⟨n, rows, 0, false⟩] := by simp [List.set_append]
      have hra : rowsA (S ++ [(⟨n, [], 0, false⟩ : Ob)]) n a = some rows := by
       unfold rowsA at hrows ⊢
       split at hrows
       ·exact hrows
       ·exact absurd rfl (hns _)
       ·exact hrows
       ·rename_i id lo hi ver
        first | done | skip --
        split at hrows
        ·rename_i o ho
         rw [List.getElem?_append_left (List.getElem?_eq_some_iff.1 ho).1, ho]; exact hrows
        ·cases hrows
       ·cases hrows
      have hb1 := hh.2.2.1
      have hb2 := hh.2.2.2
      have hle : ¬ (0 = rows.length ∧ rows ≠ []) := by rintro ⟨h, h'⟩; exact h' (List.length_eq_zero_iff.1 h.symm)
      simp only [lpE, evC, evOps, wantedA, ev_buildSlice, ev_move, ev_append, ev_asgT, rho_t, bslA, ht, he, putA, hz, if_false, Bool.false_eq_true, Nat.reduceLT, if_true, Nat.zero_mul, List.replicate_zero, fillA, chunks_zero, Option.map_some, Nat.zero_le, and_self,
       show (#[] : Array (Nat × Operand)).toList.map (fun (p : Nat × Operand) => (p.1, rho (envOf [a]) p.2)) = [] from rfl, set_at, Nat.reduceEqDiff, envOf_at0, appT, isStrOrSlice, hra, hh.1, appA, hget, List.length_nil, Nat.zero_add, hb1, hb2, and_true, true_and, hset, List.nil_append, decide_true, Nat.le_refl, Bool.true_or, Nat.zero_ne_one, List.map_nil]
     ·refine fin _ act' w' _ _ hd3 hp fun r0 e0 => ?_
      subst e0
      simp [Env.set, finA, rlVs, rlV, rlC, hh.2.1]
   ·cases hx
  ·cases hx
 ·cases hx
theorem Sim.below {W : Fm} {S : Store} {σ : Place} {I F : Nat → Prop} {w w' : World} (s : Sim W S σ I F w.heap) (b : Go.RowKit.Below w.heap.size w w') : Sim W S σ I F w'.heap ∧ Ext W S σ I F w.heap S σ I F w'.heap := by
 have blt : ∀ b x, w.heap[b]? = some x → b < w.heap.size := fun b x hb => (Array.getElem?_eq_some_iff.1 hb).1
 have E : Ext W S σ I F w.heap S σ I F w'.heap :=
  ⟨fun id o ho => ⟨o, ho, rfl, Nat.le_refl _, fun _ => ⟨rfl, fun ad cs ty fr _ hb => ⟨cs, by rw [b.block _ (blt _ _ hb)]; exact hb, rfl⟩⟩, fun _ => rfl⟩, fun k hk => ⟨hk, b.block k (s.imm k hk)⟩, fun _ h => h, fun _ h => .inl h, fun id o ad ho ha => .inl ha, b.size⟩
 refine ⟨⟨fun id o ho => ?_, s.inj, fun k hk => Nat.lt_of_lt_of_le (s.imm k hk) b.size, s.sub, s.own, Nat.le_trans s.big b.size⟩, E⟩
 have q := s.ob id o ho
 refine ⟨q.none_, q.len, fun ad ha => ?_⟩
 obtain ⟨k1, k2, k3, cs, ty, fr, k4, k5, k6, k7⟩ := q.there ad ha
 exact ⟨k1, k2, k3, cs, ty, fr, by rw [b.block _ (blt _ _ k4)]; exact k4, k5, k6, E.ob_rel s.sub k7⟩
def plainL : List A → Option (List Value)
 | [] => some []
 | .v x :: l => match plainL l with | some r => some (x :: r) | none => none
 | _ => none
theorem plainL_ok {S : Store} {σ : Place} {I : Nat → Prop} {w : World} : ∀ {as : List A} {l : List Value} {vals : List Value}, plainL as = some l → as.length = vals.length → (∀ j, j < as.length → Rel S σ I w.heap (as.getD j .dead) (vals.getD j undef)) → vals = l
 | [], l, vals, h1, hl, hr => by injection h1 with h1; subst h1; exact List.eq_nil_of_length_eq_zero (by simpa using hl.symm)
 | a :: as, l, [], h1, hl, hr => by simp at hl
 | a :: as, l, v :: vals, h1, hl, hr => by
  cases a <;> first | (simp only [plainL] at h1; done) | skip
  case v x =>
   simp only [plainL] at h1
   split at h1
   ·rename_i r hr'
    injection h1 with h1; subst h1
    have h0 := hr 0 (by simp)
    have e : v = x := by simpa using relv (by simpa using h0)
    have e2 : vals = r := plainL_ok (S := S) (σ := σ) (I := I) (w := w) hr' (by simpa using hl) fun j hj => by simpa using hr (j + 1) (by simpa using hj)
    rw [e, e2]
   ·cases h1
  all_goals (simp [plainL] at h1)
def xVal (f : List Value → Option Value) : XE := fun _ as S => match plainL as with
 | some l => match f l with
  | some v => some (.v v, S)
  | none => none
 | none => none
theorem xVal_ok {P : Program} {g : Nat} {f : List Value → Option Value} {fn : Func} (hf : P.funcs[g]? = some fn) (hn : (fn.name == "runtime.NumGoroutine") = false) (hb : fn.body.isNone = false)
  (h : ∀ l v, f l = some v → ∀ w, Calls P g l.toArray w fun e w' => e = .returned v ∧ Go.RowKit.Below w.heap.size w w') : XOk P g (xVal f) := by
 intro md as S r S' hx
 refine ⟨⟨fn, hf, by simpa using hn, hb⟩, fun W σ I F w vals s hm hl hv => ?_⟩
 unfold xVal at hx
 split at hx
 ·rename_i l hp
  split at hx
  ·rename_i v hfv
   injection hx with hx; injection hx with e1 e2; subst e1 e2
   have e := plainL_ok hp (vals := vals.toList) (by simpa using hl) fun j hj => by have := hv j hj; simpa using this
   have := h l v hfv w
   rw [← e] at this
   refine Calls.mono this fun e w' hh => ?_
   obtain ⟨he, b⟩ := hh
   obtain ⟨s', E'⟩ := s.below b
   exact ⟨v, he, σ, I, F, s', E', .v _, b.os, b.tape, b.output⟩
  ·cases hx
 ·cases hx
theorem xVal_of {f : List Value → Option Value} {md : Md} {as : List A} {l : List Value} {v : Value} {S : Store} (hp : plainL as = some l) (hv : f l = some v) : xVal f md as S = some (.v v, S) := by
 unfold xVal; rw [hp]; simp only [hv]
end Go.Proofs.YtdpaijnbikclgaaDoorE
