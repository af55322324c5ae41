/- Part of the proof: an evaluator (YtomklniddinhnaaEReg). -/
import Derived.Test.YtomklniddinhnaaEFn
set_option linter.unusedVariables false
set_option linter.unusedSectionVars false
set_option linter.unusedSimpArgs false
namespace Go.Proofs.YtomklniddinhnaaE
open Go
def cls0 (o : Oper) : Nat :=
 match o.op with
 | .move _ | .pick .. | .build .. | .binOp .. | .unOp .. | .makeFunc .. | .fieldAddr .. | .field .. | .index .. | .extract .. | .nilCheck _ => 0
 | .assign (.const (.slice ..)) => 2
 | .assign _ => 0
 | .load .. | .indexAddr .. | .slice _ _ _ _ none | .convert .. => 1
 | .call { callee := .builtin .len, .. } | .call { callee := .builtin .max, .. } | .call { callee := .builtin .min, .. } => 0
 | _ => 2
abbrev Hs := Option (Option Nat × List (Nat × Nat))
def lookN : List (Nat × Nat) → Nat → Option Nat
 | [], _ => none
 | (a, b) :: l, d => if a = d then some b else lookN l d
def isLit (o : Oper) : Bool := match o.op with
 | .buildSlice _ 0 ps => ps.size == 0
 | _ => false
def isAl (o : Oper) : Bool := match o.op with
 | .alloc _ => true
 | _ => false
def alB : Hs → Bool
 | some (some _, _) => true
 | _ => false
def spc (Z : Hs) (o : Oper) : Bool := (Z.isSome && isLit o) || (alB Z && isAl o)
def cls (Z : Hs) (o : Oper) : Nat := if spc Z o then 1 else cls0 o
def holA (T : Nat → Option TI) (l : List (Nat × Nat)) (S : Store) (o : Oper) : Option A := match o.op, o.dst with
 | .buildSlice t 0 _, some d => match lookN l d, T t with
  | some id, some ti => match ti.kind with
   | .slice e => match T e, S[id]? with
    | some te, some ob => if ob.n = te.sz ∧ ob.rows.length = 0 then some (.sl id 0 0 0) else none
    | _, _ => none
   | _ => none
  | _, _ => none
 | _, _ => none
open Classical in
noncomputable def alA (T : Nat → Option TI) (id : Nat) (S : Store) (o : Oper) : Option A := match o.op with
 | .alloc t => match T t with
  | some te => if S[id]? = some ⟨(zeroA te).length, [zeroA te], 0, true⟩ then some (.pt id 0 0 1) else none
  | none => none
 | _ => none
noncomputable def evStepR (T : Nat → Option TI) (C : Cl) (md : Md) (Z : Hs) (e : Env) (S : Store) (o : Oper) : Option (A × Store) := match Z with
 | some (al, l) => if isLit o = true then withS S (holA T l S o) else match al with
  | some id => if isAl o = true then withS S (alA T id S o) else evStep T C md e S o
  | none => evStep T C md e S o
 | none => evStep T C md e S o
theorem evStepR_of {T : Nat → Option TI} {C : Cl} {md : Md} {Z : Hs} {e : Env} {S : Store} {o : Oper} (h : spc Z o = false) : evStepR T C md Z e S o = evStep T C md e S o := by
 unfold spc at h
 simp only [Bool.or_eq_false_iff] at h
 match Z with
 | none => rfl
 | some (none, l) => simp only [evStepR]; rw [if_neg (by simpa using h.1)]
 | some (some id, l) => simp only [evStepR]; rw [if_neg (by simpa using h.1), if_neg (by simpa [alB] using h.2)]
def holesL : List Oper → Nat → List (Nat × Nat)
 | [], _ => []
 | o :: l, k => if isLit o = true then match o.dst with
   | some d => (d, k) :: holesL l (k + 1)
   | none => holesL l k
  else holesL l k
def emptyOf (T : Nat → Option TI) (o : Oper) : Ob := match o.op with
 | .buildSlice t _ _ => match T t with
  | some ti => match ti.kind with
   | .slice e => match T e with
    | some te => ⟨te.sz, [], 0, false⟩
    | none => ⟨0, [], 0, false⟩
   | _ => ⟨0, [], 0, false⟩
  | none => ⟨0, [], 0, false⟩
 | _ => ⟨0, [], 0, false⟩
def emptiesL (T : Nat → Option TI) : List Oper → List Ob
 | [] => []
 | o :: l => if isLit o = true then match o.dst with
   | some _ => emptyOf T o :: emptiesL T l
   | none => emptiesL T l
  else emptiesL T l
def depT (ops : List Oper) : List (List Nat) :=
 ops.foldl (fun acc o => acc ++ [(o.after.toList.flatMap fun e => if Region.binds .any e then e.on :: acc.getD e.on [] else []).eraseDups]) []
def ordB (D : List (List Nat)) (j i : Nat) : Bool := (D.getD j []).contains i
def dstOf (ops : List Oper) (i : Nat) : Option Nat := (ops[i]?).bind (·.dst)
def looksOf (ops : List Oper) (i : Nat) : List Nat := match ops[i]? with
 | some o => (o.op.operands.toList.filterMap fun | .tmp t => some t | _ => none) ++ (match o.guard with | some (g, _) => (dstOf ops g).toList | none => [])
 | none => []
def drawOk (Z : Hs) (ops : List Oper) : Bool :=
 let D := depT ops
 (List.range ops.length).all fun j =>
  ((ops[j]?).map fun o => o.after.toList.all fun e => !Region.binds .any e || decide (e.on < j)).getD true &&
  (match ops[j]? with | some o => (match o.op with | .select .. => false | _ => true) | none => true) &&
  (List.range ops.length).all fun i => i == j ||
   ((match dstOf ops i with
    | some d => (dstOf ops j != some d) && (!(looksOf ops j).contains d || (if i < j then ordB D j i else ordB D i j))
    | none => true) &&
    (!(i < j && ((ops[i]?).map (cls Z)).getD 0 == 2 && ((ops[j]?).map (cls Z)).getD 0 == 2) || ordB D j i))
def hints (Z : Hs) (ops : List Oper) : List (Nat × Nat) :=
 let D := depT ops
 (List.range ops.length).flatMap fun r => if ((ops[r]?).map (cls Z)).getD 0 == 1 then
  (List.range ops.length).filterMap fun d => if ((ops[d]?).map (cls Z)).getD 0 == 2 && !(if d < r then ordB D r d else ordB D d r) then some (r, d) else none else []
structure Tr where
 e : Env
 S : Store
 S' : Store
 a : A
 on : Bool
noncomputable def evTr (T : Nat → Option TI) (C : Cl) (md : Md) (Z : Hs) (n : Nat) (all : List Oper) : List Oper → Env → Store → Option (List Tr × Env × Store)
 | [], e, S => some ([], e, S)
 | o :: rest, e, S => match wantedA all e o with
  | some true => match evStepR T C md Z e S o with
   | some (a, S') => match putA n e o.dst a with
    | some e' => match evTr T C md Z n all rest e' S' with
     | some (tr, r) => some (⟨e, S, S', a, true⟩ :: tr, r)
     | none => none
    | none => none
   | none => none
  | some false => match putA n e o.dst (.v undef) with
   | some e' => match evTr T C md Z n all rest e' S with
    | some (tr, r) => some (⟨e, S, S, .v undef, false⟩ :: tr, r)
    | none => none
   | none => none
  | none => none
def stab (T : Nat → Option TI) (C : Cl) (md : Md) (Z : Hs) (ops : List Oper) (tr : List Tr) (p : Nat × Nat) : Prop :=
 match tr[p.1]?, tr[p.2]?, ops[p.1]? with
 | some r, some d, some o => r.on = true → evStepR T C md Z r.e d.S o = some (r.a, d.S) ∧ evStepR T C md Z r.e d.S' o = some (r.a, d.S')
 | _, _, _ => True
def quietT (Z : Hs) (ops : List Oper) (tr : List Tr) : Prop := ∀ (i : Nat) (t : Tr) (o : Oper), tr[i]? = some t → ops[i]? = some o → cls Z o ≠ 2 → t.S' = t.S
def emp (id : Nat) (S : Store) : Store := match S[id]? with
 | some o => S.set id ⟨o.n, [], o.st, o.bx⟩
 | none => S
def alIx (ops : List Oper) : Nat := ops.findIdx isAl
def preA (Z : Hs) (ops : List Oper) : List Nat :=
 let D := depT ops
 (List.range ops.length).filter fun i => !(i == alIx ops) && !(((ops[i]?).map (cls Z)).getD 0 == 0) && !ordB D i (alIx ops)
def hintsA (Z : Hs) (ops : List Oper) : List (Nat × Nat) :=
 let D := depT ops
 (hints Z ops).filter fun p => !(p.1 == alIx ops) && !ordB D p.1 (alIx ops)
def preT (T : Nat → Option TI) (C : Cl) (md : Md) (Z : Hs) (id : Nat) (ops : List Oper) (tr : List Tr) (i : Nat) : Prop :=
 match tr[i]?, ops[i]? with
 | some r, some o => r.on = true → evStepR T C md Z r.e (emp id r.S) o = some (r.a, emp id r.S')
 | _, _ => True
def stabA (T : Nat → Option TI) (C : Cl) (md : Md) (Z : Hs) (id : Nat) (ops : List Oper) (tr : List Tr) (p : Nat × Nat) : Prop :=
 match tr[p.1]?, tr[p.2]?, ops[p.1]? with
 | some r, some d, some o => r.on = true → evStepR T C md Z r.e (emp id d.S) o = some (r.a, emp id d.S) ∧ evStepR T C md Z r.e (emp id d.S') o = some (r.a, emp id d.S')
 | _, _, _ => True
def oneAl (ops : List Oper) : Bool := decide (alIx ops < ops.length) && (List.range ops.length).all fun i => match ops[i]? with
 | some o => !isAl o || (i == alIx ops && o.guard.isNone)
 | none => true
structure AlOk (T : Nat → Option TI) (C : Cl) (md : Md) (Z : Hs) (id : Nat) (ops : List Oper) (tr : List Tr) : Prop where
 wr : md.wr id = true
 one : oneAl ops = true
 ev : ∀ i ∈ preA Z ops, preT T C md Z id ops tr i
 st : ∀ p ∈ hintsA Z ops, stabA T C md Z id ops tr p
def alOf : Hs → Option Nat
 | some (some id, _) => some id
 | _ => none
def holesOf (ops : List Oper) (k : Nat) : Hs := if drawOk none ops = true then none else if drawOk (some (none, [])) ops = true then some (none, holesL ops k) else some (some (k + (holesL ops k).length), holesL ops k)
def boxOf (T : Nat → Option TI) (ops : List Oper) : Ob := match ops[alIx ops]? with
 | some o => match o.op with
  | .alloc t => match T t with
   | some te => ⟨(zeroA te).length, [zeroA te], 0, true⟩
   | none => ⟨0, [], 0, true⟩
  | _ => ⟨0, [], 0, true⟩
 | none => ⟨0, [], 0, true⟩
def layOf (T : Nat → Option TI) (Z : Hs) (ops : List Oper) : List Ob := match Z with
 | none => []
 | some (none, _) => emptiesL T ops
 | some (some _, _) => emptiesL T ops ++ [boxOf T ops]
open Classical in
noncomputable def regZ (Z : Hs) : Reg := fun T C md n ops e S =>
 match evTr T C md Z n ops.toList ops.toList e (S ++ layOf T Z ops.toList) with
 | some (tr, e', S') => if drawOk Z ops.toList = true ∧ quietT Z ops.toList tr ∧ (∀ p ∈ hints Z ops.toList, stab T C md Z ops.toList tr p) ∧ (∀ id, alOf Z = some id → AlOk T C md Z id ops.toList tr) then some (e', S') else none
 | none => none
noncomputable def regA : Reg := fun T C md n ops e S => regZ (holesOf ops.toList S.length) T C md n ops e S
section
variable {P : Program} {T : Nat → Option TI} {md : Md} {C : Cl} {Z : Hs}
theorem evOp_congr {ρ ρ' : Operand → A} {S : Store} (o : Oper) (h : ∀ x ∈ o.op.operands, ρ x = ρ' x) : evOp T md ρ S o = evOp T md ρ' S o := by
 obtain ⟨dst, op, ty, pos, after, guard⟩ := o
 have pairs : ∀ ps : Array (Nat × Operand), (∀ x ∈ ps.toList.map (·.2), ρ x = ρ' x) → (ps.toList.map fun (i, x) => (i, ρ x)) = (ps.toList.map fun (i, x) => (i, ρ' x)) := fun ps hp =>
  List.map_congr_left fun p hm => by
   obtain ⟨i, x⟩ := p
   simp only [hp x (List.mem_map.2 ⟨(i, x), hm, rfl⟩)]
 cases op with
 | build t ps => simp only [evOp]; rw [pairs ps fun x hx => h x (by simpa [Op.operands] using hx)]
 | buildSlice t n ps => simp only [evOp]; rw [pairs ps fun x hx => h x (by simpa [Op.operands] using hx)]
 | assign x => cases x <;> first | rfl | (simp only [evOp]; rw [h _ (by simp [Op.operands])])
 | makeFunc fn first captured =>
  cases fn <;> simp only [evOp]
  rw [List.map_congr_left (l := captured.toList) fun x hx => h x (by simp [Op.operands]; exact .inr (by simpa using hx))]
 | slice t x lo hi mx =>
  have hx := h x (by simp [Op.operands])
  have hl : lo.map ρ = lo.map ρ' := by cases lo <;> simp; exact h _ (by simp [Op.operands])
  have hh : hi.map ρ = hi.map ρ' := by cases hi <;> simp; exact h _ (by simp [Op.operands])
  cases mx with
  | none => simp only [evOp, hx, hl, hh]
  | some m => have hm := h m (by simp [Op.operands]); simp only [evOp, hx, hl, hh, hm]
 | call c =>
  obtain ⟨callee, args, argTypes⟩ := c
  cases callee with
  | builtin b =>
   simp only [evOp]
   have ha : ∀ x ∈ args.toList, ρ x = ρ' x := fun x hx => h x (by simp [Op.operands, Call.operands]; simpa using hx)
   split
   ·rename_i x t e1 e2; rw [ha x (by rw [e1]; simp)]
   ·rename_i x y t u e1 e2; rw [ha x (by rw [e1]; simp), ha y (by rw [e1]; simp)]
   ·rfl
  | _ => rfl
 | pick c a b => simp only [evOp]; rw [h c (by simp [Op.operands]), h a (by simp [Op.operands]), h b (by simp [Op.operands])]
 | move x => simp only [evOp]; rw [h x (by simp [Op.operands])]
 | box e x => simp only [evOp]; rw [h x (by simp [Op.operands])]
 | load t x => simp only [evOp]; rw [h x (by simp [Op.operands])]
 | store t x v => simp only [evOp]; rw [h x (by simp [Op.operands]), h v (by simp [Op.operands])]
 | nilCheck x => simp only [evOp]; rw [h x (by simp [Op.operands])]
 | binOp op t x y u => simp only [evOp]; rw [h x (by simp [Op.operands]), h y (by simp [Op.operands])]
 | unOp op t x => simp only [evOp]; rw [h x (by simp [Op.operands])]
 | convert s d x => simp only [evOp]; rw [h x (by simp [Op.operands])]
 | makeSlice t l c => simp only [evOp]; rw [h l (by simp [Op.operands]), h c (by simp [Op.operands])]
 | fieldAddr t x f => simp only [evOp]; rw [h x (by simp [Op.operands])]
 | field t x f => simp only [evOp]; rw [h x (by simp [Op.operands])]
 | indexAddr t x i => simp only [evOp]; rw [h x (by simp [Op.operands]), h i (by simp [Op.operands])]
 | index t x i => simp only [evOp]; rw [h x (by simp [Op.operands]), h i (by simp [Op.operands])]
 | extract x i => simp only [evOp]; rw [h x (by simp [Op.operands])]
 | _ => rfl
theorem evStep_congr {e e' : Env} {S : Store} (o : Oper) (h : ∀ t, t ∈ (o.op.operands.toList.filterMap fun | .tmp t => some t | _ => none) → e t = e' t) : evStep T C md e S o = evStep T C md e' S o := by
 have hr : ∀ x ∈ o.op.operands, rho e x = rho e' x := fun x hx => by
  cases x with
  | tmp t => exact h t (List.mem_filterMap.2 ⟨.tmp t, by simpa using hx, rfl⟩)
  | _ => rfl
 unfold evStep
 split
 ·rename_i f args at_ hop
  rw [hop] at hr
  rw [hr f (by simp [Op.operands, Call.operands])]
  rw [List.map_congr_left (l := args.toList) fun x hx => hr x (by simp [Op.operands, Call.operands]; exact .inr (by simpa using hx))]
 ·exact evOp_congr o hr
theorem pure_same {e : Env} {S S' S₂ : Store} {a : A} {o : Oper} (hc : cls0 o = 0) (h : evStep T C md e S o = some (a, S')) : S' = S ∧ evStep T C md e S₂ o = some (a, S₂) := by
 have wS : ∀ {r : Option A}, withS S r = some (a, S') → S' = S ∧ withS S₂ r = some (a, S₂) := fun {r} h => by
  obtain ⟨h1, h2⟩ := withS_some h
  subst h1; exact ⟨h2.symm, rfl⟩
 obtain ⟨dst, op, ty, pos, after, guard⟩ := o
 cases op with
 | move x => simp only [evStep, evOp] at h ⊢; injection h with h; injection h with h1 h2; subst h1 h2; exact ⟨rfl, rfl⟩
 | assign x =>
  cases x with
  | const c =>
   have hn : ∀ a l c', c ≠ .slice a l c' := fun a l c' e => by subst e; cases hc
   simp only [evStep, evOp] at h ⊢
   unfold asgA at h ⊢
   split at h
   ·rename_i e; injection e with e; exact absurd e (hn _ _ _)
   ·rename_i hne
    injection h with h; injection h with h1 h2; subst h1 h2; exact ⟨rfl, rfl⟩
  | _ => simp only [evStep, evOp] at h ⊢; injection h with h; injection h with h1 h2; subst h1 h2; exact ⟨rfl, rfl⟩
 | pick c x y =>
  simp only [evStep, evOp] at h ⊢
  split at h
  ·injection h with h; injection h with h1 h2; subst h1 h2; exact ⟨rfl, rfl⟩
  ·cases h
 | build t ps => simp only [evStep, evOp] at h ⊢; exact wS h
 | binOp op t x y u => simp only [evStep, evOp] at h ⊢; exact wS h
 | unOp op t x => simp only [evStep, evOp] at h ⊢; exact wS h
 | makeFunc fn first captured =>
  cases fn <;> simp only [evStep, evOp] at h ⊢ <;> first | (cases h; done) | skip
  split at h
  ·rename_i hf; injection h with h; injection h with h1 h2; subst h1 h2; exact ⟨rfl, if_pos hf⟩
  ·cases h
 | fieldAddr t x f => simp only [evStep, evOp] at h ⊢; exact wS h
 | field t x f => simp only [evStep, evOp] at h ⊢; exact wS h
 | index t x i =>
  simp only [evStep, evOp] at h ⊢
  split at h
  ·exact wS h
  ·cases h
 | extract x i => simp only [evStep, evOp] at h ⊢; exact wS h
 | nilCheck x =>
  simp only [evStep, evOp] at h ⊢
  split at h
  ·injection h with h; injection h with h1 h2; subst h1 h2; exact ⟨rfl, rfl⟩
  ·injection h with h; injection h with h1 h2; subst h1 h2; exact ⟨rfl, rfl⟩
  ·cases h
 | slice t x lo hi mx => cases mx <;> simp [cls0] at hc
 | call c =>
  obtain ⟨callee, args, argTypes⟩ := c
  cases callee with
  | builtin b =>
   cases b <;> first | (simp [cls0] at hc; done) | skip
   all_goals
    simp only [evStep, evOp] at h ⊢
    split at h
    ·first
      | (cases h; done)
      | (split at h; (injection h with h; injection h with h1 h2; subst h1 h2; exact ⟨rfl, rfl⟩); (cases h))
    ·first | exact wS h | (cases h; done)
    ·cases h
  | _ => simp [cls0] at hc
 | _ => simp [cls0] at hc
theorem evStepR_congr {e e' : Env} {S : Store} (o : Oper) (h : ∀ t, t ∈ (o.op.operands.toList.filterMap fun | .tmp t => some t | _ => none) → e t = e' t) : evStepR T C md Z e S o = evStepR T C md Z e' S o := by
 cases hs : spc Z o with
 | false => rw [evStepR_of hs, evStepR_of hs]; exact evStep_congr o h
 | true =>
  match Z with
  | none => simp [spc, alB] at hs
  | some (none, l) =>
   have : isLit o = true := by simpa [spc, alB] using hs
   simp only [evStepR, if_pos this]
  | some (some id, l) =>
   by_cases hl : isLit o = true
   ·simp only [evStepR, if_pos hl]
   ·have : isAl o = true := by simpa [spc, alB, hl] using hs
    simp only [evStepR, if_neg hl, if_pos this]
theorem pureR_same {e : Env} {S S' S₂ : Store} {a : A} {o : Oper} (hc : cls Z o = 0) (h : evStepR T C md Z e S o = some (a, S')) : S' = S ∧ evStepR T C md Z e S₂ o = some (a, S₂) := by
 have hs : spc Z o = false := by
  cases hs : spc Z o with
  | false => rfl
  | true => simp [cls, hs] at hc
 rw [evStepR_of hs] at h ⊢
 exact pure_same (by simpa [cls, hs] using hc) h
theorem cls_le (Z : Hs) (o : Oper) : cls Z o ≤ 2 := by
 unfold cls
 split
 ·omega
 ·unfold cls0; split <;> omega
theorem Sim.push {W : Fm} {S : Store} {σ : Place} {I F : Nat → Prop} {h : Array Obj} (s : Sim W S σ I F h) (x : Obj) : Sim W S σ I F (h.push x) ∧ Ext W S σ I F h S σ I F (h.push x) := by
 have old : ∀ b, b < h.size → (h.push x)[b]? = h[b]? := fun b hb => by rw [Array.getElem?_push, if_neg (by omega)]
 have blt : ∀ b x, h[b]? = some x → b < h.size := fun b x hb => (Array.getElem?_eq_some_iff.1 hb).1
 have E : Ext W S σ I F h S σ I F (h.push x) :=
  ⟨fun id o ho => ⟨o, ho, rfl, Nat.le_refl _, fun _ => ⟨rfl, fun ad cs ty fr _ hb => ⟨cs, by rw [old _ (blt _ _ hb)]; exact hb, rfl⟩⟩, fun _ => rfl⟩, fun b hb => ⟨hb, old b (s.imm b hb)⟩, fun b hb => hb, fun b hb => .inl hb, fun id o ad ho ha => .inl ha, by simp⟩
 refine ⟨⟨fun id o ho => ?_, s.inj, fun b hb => by have := s.imm b hb; simp; omega, s.sub, s.own, by have := s.big; simp; omega⟩, E⟩
 have q := s.ob id o ho
 refine ⟨q.none_, q.len, fun ad ha => ?_⟩
 obtain ⟨k1, k2, k3, cs, ty, fr, k4, k5, k6, k7⟩ := q.there ad ha
 exact ⟨k1, k2, k3, cs, ty, fr, by rw [old _ (blt _ _ k4)]; exact k4, k5, k6, E.ob_rel s.sub k7⟩
def Laid (Z : Hs) (S₀ : Store) (σ₀ : Place) : Prop := ∀ al l, Z = some (al, l) → (∀ d id, lookN l d = some id → σ₀ id = none ∧ ∃ o, S₀[id]? = some o ∧ o.rows.length = 0) ∧ ∀ id, al = some id → σ₀ id = none ∧ ∃ o, S₀[id]? = some o ∧ o.rows.length = 0
theorem stepR_wp {W : Fm} {Z : Hs} {S₀ S : Store} {σ₀ σ : Place} {I₀ F₀ I F : Nat → Prop} {h₀ : Array Obj} {w : World} (hC : CallOk P C) (hT : TOk P T) (hZ : Laid Z S₀ σ₀) (E₀ : Ext W S₀ σ₀ I₀ F₀ h₀ S σ I F w.heap) (s : Sim W S σ I F w.heap) (hm : MdOk W md) {e : Env} {act : Act} (he : EnvRel S σ I w.heap e act.tmps) {o : Oper} (hal : alB Z = true → isAl o = false) {a : A} {S' : Store} (h : evStepR T C md Z e S o = some (a, S'))
  {K : Act → World → Prop} {Q : Exit → Act → World → Prop} (hK : ∀ x w', Step W S σ I F w a S' x w' → K (act.put o.dst x) w') : o.wp P act w K Q := by
 cases hs : spc Z o with
 | false => rw [evStepR_of hs] at h; exact step_wp hC hT s hm he h hK
 | true =>
  have hl : isLit o = true := by
   unfold spc at hs
   cases hb : alB Z with
   | false => simp [hb] at hs; exact hs.2
   | true => simp [hb, hal hb] at hs; exact hs.2
  obtain ⟨al, l, hZe⟩ : ∃ al l, Z = some (al, l) := by
   cases Z with
   | none => simp [spc, alB] at hs
   | some p => exact ⟨p.1, p.2, rfl⟩
  subst hZe
  simp only [evStepR, if_pos hl] at h
  ·skip
   obtain ⟨h2, e1⟩ := withS_some h
   subst e1
   clear h
   have h := h2; clear h2
   obtain ⟨dst, op, ty, pos, after, guard⟩ := o
   unfold holA at h
   split at h
   ·rename_i t ps d hop hd
    simp only at hop hd
    split at h
    ·rename_i id ti hid hti
     obtain ⟨dd, ud, kd⟩ := und hT hti
     split at h
     ·rename_i el hk
      have e3 := tk_slice (kd.symm.trans hk); subst e3
      split at h
      ·rename_i te ob hte hob
       split at h
       ·rename_i hh
        injection h with h; subst h
        have hps : ps = #[] := by
         have : (ps.size == 0) = true := by simpa only [isLit, hop] using hl
         simpa using this
        subst hps hop
        have hsz : szA T el = some te.sz := by simp [szA, hte]
        have hrun : (Instr.buildSlice t 0 #[]).run P w = .ok (.slice (some ⟨w.heap.size, 0, none⟩) 0 0) (w.alloc (.cells #[] el)) := by
         simp only [Instr.buildSlice, Sem.run_bind, run_underlying ud, Result.andThen_ok, size_ok hT hsz, Nat.zero_mul, show (0 > 2 ^ 24) = False by simp, if_false, if_true, Sem.run_pure, show Array.range 0 = #[] by simp, Array.map_empty]
         rfl
        obtain ⟨s', E'⟩ := s.push (.cells #[] el)
        obtain ⟨z1, o₀, z2, z3⟩ := (hZ al l rfl).1 d id hid
        obtain ⟨o₁, p1, p2, p3, p4, p5⟩ := E₀.ob id o₀ z2
        rw [hob] at p1; injection p1 with p1; subst p1
        have hσ : σ id = none := ((p4 (by omega)).1).trans z1
        have hx : (execOp act.eval ⟨dst, .buildSlice t 0 #[], ty, pos, after, guard⟩).run P w = .ok (.value (.slice (some ⟨w.heap.size, 0, none⟩) 0 0)) (w.alloc (.cells #[] el)) := by
         simp only [execOp, Sem.run_bind]
         rw [Array.map_empty, hrun]
         rfl
        unfold Oper.wp
        rw [hx]
        refine hK _ _ ⟨σ, I, F, s', E', ?_, rfl, rfl, rfl⟩
        exact .sl id 0 0 0 _ 0 ob hob (Nat.le_refl _) (Nat.le_refl _) (Nat.zero_le _) fun _ => .inl ⟨hσ, rfl, rfl⟩
       ·cases h
      ·cases h
     ·cases h
    ·cases h
   ·cases h
theorem Sim.born {W : Fm} {S : Store} {σ : Place} {I F : Nat → Prop} {w : World} {id t : Nat} {te : TI} (s : Sim W (emp id S) σ I F w.heap) (hob : S[id]? = some ⟨(zeroA te).length, [zeroA te], 0, true⟩) (hw : W.w id) (hT : TOk P T) (hte : T t = some te) :
  ∃ z w', (Instr.alloc t true (.tuple #[])).run P w = .ok z w' ∧ Step W (emp id S) σ I F w (.pt id 0 0 1) S z w' := by
 have hlt := (List.getElem?_eq_some_iff.1 hob).1
 have he : emp id S = S.set id ⟨(zeroA te).length, [], 0, true⟩ := by unfold emp; rw [hob]
 have hb : (S.set id (⟨(zeroA te).length, [zeroA te], 0, true⟩ : Ob)) = S := by
  apply List.ext_getElem?
  intro i
  rw [getElem?_set' _ _ _ _ hlt]
  split
  ·rename_i e; subst e; exact hob.symm
  ·rfl
 rw [he] at s ⊢
 obtain ⟨z, z1, z2⟩ := zero_rel (S := S.set id ⟨(zeroA te).length, [], 0, true⟩) (σ := σ) (I := I) (w := w) hT hte
 have one : ∀ i, i < [zeroA te].length → i = 0 := fun i hi => by simp at hi; exact hi
 have key := s.move (id := id) (o := ⟨(zeroA te).length, [], 0, true⟩) (by rw [getElem?_set' _ _ _ _ hlt, if_pos rfl]) hw rfl z.cells t (0, 0) (fun k _ h => by simp at h)
  (o' := ⟨(zeroA te).length, [zeroA te], 0, true⟩) rfl rfl (by simp) (fun i hi => by rw [one i hi]; rfl) (by simp [z2.1]) (fun i j hi hj => by rw [one i hi]; simpa using z2.2 j hj)
 rw [List.set_set, hb] at key
 refine ⟨.pointer (some ⟨w.heap.size, 0, none⟩), w.alloc (.cells z.cells t), ?_, _, I, F, key.1, key.2, ?_, rfl, rfl, rfl⟩
 ·simp only [Instr.alloc, Sem.run_bind, z1, Result.andThen_ok]
  rfl
 ·exact .pt _ 0 0 1 _ ⟨(zeroA te).length, [zeroA te], 0, true⟩ hob (by omega) (by simp) fun _ => ⟨⟨w.heap.size, 0, none⟩, by simp [Place.set], by simp⟩
theorem Sim.lay {W : Fm} : ∀ (L : List Ob) {S : Store} {σ : Place} {I F : Nat → Prop} {h : Array Obj}, (∀ o ∈ L, o.rows = [] ∧ o.st = 0) → Sim W S σ I F h → ∃ σ', Sim W (S ++ L) σ' I F h ∧ Ext W S σ I F h (S ++ L) σ' I F h ∧ ∀ i, i < L.length → σ' (S.length + i) = none
 | [], S, σ, I, F, h, _, s => ⟨σ, by simpa using s, by simpa using Ext.refl, fun i hi => by simp at hi⟩
 | o :: L, S, σ, I, F, h, hL, s => by
  obtain ⟨n, rows, st, bx⟩ := o
  have h1 := hL _ (List.mem_cons_self ..)
  simp only at h1
  obtain ⟨e1, e2⟩ := h1
  subst e1
  obtain ⟨s1, E1⟩ := s.empty n st bx e2
  obtain ⟨σ', s2, E2, k⟩ := Sim.lay L (fun o ho => hL o (List.mem_cons_of_mem _ ho)) s1
  refine ⟨σ', by simpa using s2, by simpa using E1.trans E2, fun i hi => ?_⟩
  cases i with
  | zero =>
   obtain ⟨o₁, p1, p2, p3, p4, p5⟩ := E2.ob S.length ⟨n, [], st, bx⟩ (by simp)
   by_cases hz : o₁.rows.length = 0
   ·exact ((p4 (by simpa using hz)).1).trans (by simp [Place.set])
   ·exfalso
    have : ((S ++ [(⟨n, [], st, bx⟩ : Ob)]) ++ L)[S.length]? = some ⟨n, [], st, bx⟩ := by simp
    rw [this] at p1; injection p1 with p1; subst p1
    exact hz rfl
  | succ i =>
   have := k i (by simpa using hi)
   simpa [Nat.add_assoc, Nat.add_comm 1 i] using this
theorem holesL_at {T : Nat → Option TI} : ∀ {l : List Oper} {k d id : Nat}, lookN (holesL l k) d = some id → k ≤ id ∧ id < k + (emptiesL T l).length
 | [], k, d, id, h => by simp [holesL, lookN] at h
 | o :: l, k, d, id, h => by
  unfold holesL at h
  unfold emptiesL
  split at h
  ·rename_i hl
   rw [if_pos hl]
   split at h
   ·rename_i d' hd
    try simp only [hd]
    simp only [lookN] at h
    split at h
    ·injection h with h; subst h; simp
    ·have := holesL_at (T := T) h; simp; omega
   ·rename_i hd
    try simp only [hd]
    exact holesL_at h
  ·rename_i hl
   rw [if_neg hl]
   exact holesL_at h
theorem emptiesL_ok {T : Nat → Option TI} : ∀ {l : List Oper}, ∀ o ∈ emptiesL T l, o.rows = [] ∧ o.st = 0
 | [], o, h => by simp [emptiesL] at h
 | x :: l, o, h => by
  unfold emptiesL at h
  split at h
  ·split at h
   ·rcases List.mem_cons.1 h with h | h
    ·subst h
     unfold emptyOf
     split
     ·split
      ·split
       ·split <;> exact ⟨rfl, rfl⟩
       ·exact ⟨rfl, rfl⟩
      ·exact ⟨rfl, rfl⟩
     ·exact ⟨rfl, rfl⟩
    ·exact emptiesL_ok o h
   ·exact emptiesL_ok o h
  ·exact emptiesL_ok o h
def ClosedL (ops : List Oper) (L : Nat → Prop) : Prop := ∀ j (o : Oper) e, L j → ops[j]? = some o → e ∈ o.after → Region.binds .any e = true → L e.on
def ReadyL (ops : List Oper) (L : Nat → Prop) (j : Nat) : Prop := ∀ (o : Oper) e, ops[j]? = some o → e ∈ o.after → Region.binds .any e = true → L e.on
def DepInv (ops : List Oper) (acc : List (List Nat)) : Prop := ∀ j i, i ∈ acc.getD j [] → ∀ L : Nat → Prop, ClosedL ops L → ReadyL ops L j → L i
theorem depT_inv (ops : List Oper) : DepInv ops (depT ops) := by
 have key : ∀ (l pre : List Oper) (acc : List (List Nat)), ops = pre ++ l → acc.length = pre.length → DepInv ops acc →
   DepInv ops (l.foldl (fun acc o => acc ++ [(o.after.toList.flatMap fun e => if Region.binds .any e then e.on :: acc.getD e.on [] else []).eraseDups]) acc) := by
  intro l
  induction l with
  | nil => intro pre acc _ _ h; exact h
  | cons o l ih =>
   intro pre acc ho hl h
   refine ih (pre ++ [o]) _ (by simp [ho]) (by simp [hl]) ?_
   intro j i hi L hc hr
   by_cases hj : j < acc.length
   ·have e : (acc ++ [(o.after.toList.flatMap fun e => if Region.binds .any e then e.on :: acc.getD e.on [] else []).eraseDups]).getD j [] = acc.getD j [] := by
     simp only [List.getD_eq_getElem?_getD]; rw [List.getElem?_append_left hj]
    rw [e] at hi
    exact h j i hi L hc hr
   ·by_cases hj2 : j = acc.length
    ·subst hj2
     have e : (acc ++ [(o.after.toList.flatMap fun e => if Region.binds .any e then e.on :: acc.getD e.on [] else []).eraseDups]).getD acc.length [] = (o.after.toList.flatMap fun e => if Region.binds .any e then e.on :: acc.getD e.on [] else []).eraseDups := by simp
     rw [e] at hi
     have hi := List.mem_eraseDups.1 hi
     obtain ⟨ed, h1, h2⟩ := List.mem_flatMap.1 hi
     have hoj : ops[acc.length]? = some o := by rw [ho, hl]; simp
     split at h2
     ·rename_i hb
      have hL := hr o ed hoj (by simpa using h1) hb
      rcases List.mem_cons.1 h2 with h2 | h2
      ·subst h2; exact hL
      ·exact h ed.on i h2 L hc fun o' e' ho' he' hb' => hc ed.on o' e' hL ho' he' hb'
     ·simp at h2
    ·have e : (acc ++ [(o.after.toList.flatMap fun e => if Region.binds .any e then e.on :: acc.getD e.on [] else []).eraseDups]).getD j [] = [] := by
      simp only [List.getD_eq_getElem?_getD]; rw [List.getElem?_eq_none (by simp; omega)]; rfl
     rw [e] at hi; simp at hi
 exact key ops [] [] rfl rfl fun j i hi => by simp at hi
theorem ord_ready {ops : List Oper} {j i : Nat} (h : ordB (depT ops) j i = true) {L : Nat → Prop} (hc : ClosedL ops L) (hr : ReadyL ops L j) : L i :=
 depT_inv ops j i (by simpa [ordB] using h) L hc hr
theorem ord_closed {ops : List Oper} {j i : Nat} (h : ordB (depT ops) j i = true) {L : Nat → Prop} (hc : ClosedL ops L) (hj : L j) : L i :=
 ord_ready h hc fun o e ho he hb => hc j o e hj ho he hb
structure DrawOk (Z : Hs) (ops : List Oper) : Prop where
 down : ∀ j (o : Oper) e, ops[j]? = some o → e ∈ o.after → Region.binds .any e = true → e.on < j
 dst : ∀ i j d, i < ops.length → j < ops.length → i ≠ j → dstOf ops i = some d → dstOf ops j ≠ some d
 look : ∀ i j d, i < ops.length → j < ops.length → i ≠ j → dstOf ops i = some d → d ∈ looksOf ops j → (i < j → ordB (depT ops) j i = true) ∧ (j < i → ordB (depT ops) i j = true)
 two : ∀ i j (o o' : Oper), i < j → ops[i]? = some o → ops[j]? = some o' → cls Z o = 2 → cls Z o' = 2 → ordB (depT ops) j i = true
theorem drawOk_ok {ops : List Oper} (h : drawOk Z ops = true) : DrawOk Z ops := by
 simp only [drawOk, List.all_eq_true, List.mem_range] at h
 have lt : ∀ j (o : Oper), ops[j]? = some o → j < ops.length := fun j o ho => (List.getElem?_eq_some_iff.1 ho).1
 refine ⟨fun j o e ho he hb => ?_, fun i j d hi hj ne hd => ?_, fun i j d hi hj ne hd hl => ?_, fun i j o o' hij ho ho' hc hc' => ?_⟩
 ·have := h j (lt j o ho)
  simp only [ho, Option.map_some, Option.getD_some, Bool.and_eq_true, List.all_eq_true] at this
  have := this.1.1 e (by simpa using he)
  simpa [hb] using this
 ·have := h j hj
  simp only [Bool.and_eq_true, List.all_eq_true, List.mem_range] at this
  have := this.2 i hi
  simp only [hd, Bool.or_eq_true, beq_iff_eq, ne, false_or, Bool.and_eq_true, bne_iff_ne] at this
  exact this.1.1
 ·have := h j hj
  simp only [Bool.and_eq_true, List.all_eq_true, List.mem_range] at this
  have := this.2 i hi
  simp only [hd, Bool.or_eq_true, beq_iff_eq, ne, false_or, Bool.and_eq_true, bne_iff_ne, Bool.not_eq_true', List.contains_eq_mem, decide_eq_false_iff_not] at this
  have := this.1.2
  refine ⟨fun hij => ?_, fun hji => ?_⟩
  ·rcases this with q | q
   ·exact absurd hl q
   ·rwa [if_pos hij] at q
  ·rcases this with q | q
   ·exact absurd hl q
   ·rwa [if_neg (by omega)] at q
 ·have := h j (lt j o' ho')
  simp only [Bool.and_eq_true, List.all_eq_true, List.mem_range] at this
  have := this.2 i (lt i o ho)
  simp only [Bool.or_eq_true, beq_iff_eq, show i ≠ j by omega, false_or, Bool.and_eq_true] at this
  have := this.2
  simpa [hij, ho, ho', hc, hc'] using this
def trE (tr : List Tr) (e' : Env) (k : Nat) : Env := match tr[k]? with | some t => t.e | none => e'
def trS (tr : List Tr) (S' : Store) (k : Nat) : Store := match tr[k]? with | some t => t.S | none => S'
theorem tr_ok {n : Nat} {all : List Oper} : ∀ {l : List Oper} {e e' : Env} {S S' : Store} {tr : List Tr}, evTr T C md Z n all l e S = some (tr, e', S') →
  tr.length = l.length ∧ trE tr e' 0 = e ∧ trS tr S' 0 = S ∧ ∀ i (o : Oper), l[i]? = some o → ∃ t, tr[i]? = some t ∧ wantedA all t.e o = some t.on ∧ (t.on = true → evStepR T C md Z t.e t.S o = some (t.a, t.S')) ∧ (t.on = false → t.a = .v undef ∧ t.S' = t.S) ∧
   putA n t.e o.dst t.a = some (trE tr e' (i + 1)) ∧ t.S' = trS tr S' (i + 1)
 | [], e, e', S, S', tr, h => by
  injection h with h; injection h with h1 h2; injection h2 with h2 h3; subst h1 h2 h3
  exact ⟨rfl, rfl, rfl, fun i o hi => by simp at hi⟩
 | o :: l, e, e', S, S', tr, h => by
  simp only [evTr] at h
  split at h
  ·rename_i hw
   split at h
   ·rename_i a S₁ hs
    split at h
    ·rename_i e₁ hp
     split at h
     ·rename_i tr' r hr
      injection h with h; injection h with h1 h2; subst h1 h2
      obtain ⟨k1, k2, k3, k4⟩ := tr_ok hr
      refine ⟨by simp [k1], rfl, rfl, fun i o' hi => ?_⟩
      cases i with
      | zero =>
       have : o = o' := by simpa using hi
       subst this
       exact ⟨_, rfl, hw, fun _ => hs, fun h => (by cases h), (by rw [show trE (_ :: tr') e' (0 + 1) = trE tr' e' 0 from rfl, k2]; exact hp), k3.symm⟩
      | succ i =>
       obtain ⟨t, q⟩ := k4 i o' (by simpa using hi)
       exact ⟨t, q⟩
     ·cases h
    ·cases h
   ·cases h
  ·rename_i hw
   split at h
   ·rename_i e₁ hp
    split at h
    ·rename_i tr' r hr
     injection h with h; injection h with h1 h2; subst h1 h2
     obtain ⟨k1, k2, k3, k4⟩ := tr_ok hr
     refine ⟨by simp [k1], rfl, rfl, fun i o' hi => ?_⟩
     cases i with
     | zero =>
      have : o = o' := by simpa using hi
      subst this
      exact ⟨_, rfl, hw, fun h => (by cases h), fun _ => ⟨rfl, rfl⟩, (by rw [show trE (_ :: tr') e' (0 + 1) = trE tr' e' 0 from rfl, k2]; exact hp), k3.symm⟩
     | succ i =>
      obtain ⟨t, q⟩ := k4 i o' (by simpa using hi)
      exact ⟨t, q⟩
    ·cases h
   ·cases h
  ·cases h
theorem least {p : Nat → Prop} : ∀ n, p n → ∃ m, m ≤ n ∧ p m ∧ ∀ j, j < m → ¬ p j := by
 intro n
 induction n using Nat.strongRecOn with
 | _ n ih =>
  intro h
  by_cases hq : ∃ j, j < n ∧ p j
  ·obtain ⟨j, h1, h2⟩ := hq
   obtain ⟨m, k1, k2, k3⟩ := ih j h1 h2
   exact ⟨m, by omega, k2, k3⟩
  ·exact ⟨n, Nat.le_refl _, h, fun j hj hp => hq ⟨j, hj, hp⟩⟩
theorem last {p : Nat → Prop} (b : Nat) : ∀ n, n < b → p n → ∃ m, n ≤ m ∧ m < b ∧ p m ∧ ∀ j, m < j → j < b → ¬ p j := by
 intro n hn hp
 obtain ⟨m, k1, k2, k3⟩ := least (p := fun d => d < b ∧ p (b - 1 - d)) (b - 1 - n) ⟨by omega, by rw [show b - 1 - (b - 1 - n) = n by omega]; exact hp⟩
 refine ⟨b - 1 - m, by omega, by omega, k2.2, fun j h1 h2 hj => ?_⟩
 exact k3 (b - 1 - j) (by omega) ⟨by omega, by rw [show b - 1 - (b - 1 - j) = j by omega]; exact hj⟩
open Classical in
noncomputable def envL (ops : List Oper) (tr : List Tr) (e : Env) (L : Nat → Prop) : Env := fun t =>
 if h : ∃ i, i < ops.length ∧ L i ∧ dstOf ops i = some t then ((tr[h.choose]?).map (·.a)).getD .dead else e t
section
variable {W : Fm} {ops : List Oper} {tr : List Tr} {e e' : Env} {S S' : Store} {n : Nat}
theorem envL_in (ok : DrawOk Z ops) {L : Nat → Prop} {i t : Nat} {x : Tr} (hi : i < ops.length) (hL : L i) (hd : dstOf ops i = some t) (hx : tr[i]? = some x) : envL ops tr e L t = x.a := by
 have h : ∃ i, i < ops.length ∧ L i ∧ dstOf ops i = some t := ⟨i, hi, hL, hd⟩
 unfold envL
 rw [dif_pos h]
 have hs := h.choose_spec
 have : h.choose = i := by
  by_cases e : h.choose = i
  ·exact e
  ·exact absurd hd (ok.dst _ _ _ hs.1 hi e hs.2.2)
 rw [this, hx]; rfl
theorem envL_out {L : Nat → Prop} {t : Nat} (h : ¬ ∃ i, i < ops.length ∧ L i ∧ dstOf ops i = some t) : envL ops tr e L t = e t := by
 unfold envL; rw [dif_neg h]
variable (ok : DrawOk Z ops) (hl : tr.length = ops.length) (h0 : trE tr e' 0 = e)
 (hst : ∀ i (o : Oper), ops[i]? = some o → ∃ t, tr[i]? = some t ∧ wantedA ops t.e o = some t.on ∧ (t.on = true → evStepR T C md Z t.e t.S o = some (t.a, t.S')) ∧ (t.on = false → t.a = .v undef ∧ t.S' = t.S) ∧
   putA n t.e o.dst t.a = some (trE tr e' (i + 1)) ∧ t.S' = trS tr S' (i + 1))
include ok hl h0 hst
theorem trE_at : ∀ k, k ≤ ops.length → ∀ t, trE tr e' k t = envL ops tr e (fun i => i < k) t
 | 0, _, t => by
  rw [h0, envL_out]
  rintro ⟨i, _, h, _⟩; exact Nat.not_lt_zero _ h
 | k + 1, hk, t => by
  have ih := trE_at k (by omega)
  have ho : ops[k]? = some ops[k] := List.getElem?_eq_getElem (by omega)
  obtain ⟨x, x1, x2, x3, x4, x5, x6⟩ := hst k _ ho
  have hx : trE tr e' k = x.e := by simp [trE, x1]
  have hdst : dstOf ops k = ops[k].dst := by simp [dstOf, ho]
  unfold putA at x5
  split at x5
  ·rename_i hd
   injection x5 with x5
   rw [← x5, ← hx, ih t]
   have nd : dstOf ops k ≠ some t := by rw [hdst, hd]; simp
   by_cases hq : ∃ i, i < ops.length ∧ i < k ∧ dstOf ops i = some t
   ·obtain ⟨i, i1, i2, i3⟩ := hq
    obtain ⟨y, y1, _⟩ := hst i _ (List.getElem?_eq_getElem i1)
    rw [envL_in ok i1 (L := fun i => i < k) i2 i3 y1, envL_in ok i1 (L := fun i => i < k + 1) (by omega) i3 y1]
   ·rw [envL_out hq, envL_out]
    rintro ⟨i, i1, i2, i3⟩
    by_cases e : i = k
    ·subst e; exact nd i3
    ·exact hq ⟨i, i1, by omega, i3⟩
  ·rename_i d hd
   split at x5
   ·injection x5 with x5
    rw [← x5]
    by_cases htd : t = d
    ·subst htd
     rw [envL_in ok (L := fun i => i < k + 1) (show k < ops.length by omega) (by omega) (by rw [hdst, hd]) x1]
     simp [Env.set]
    ·have e1 : x.e.set d x.a t = x.e t := by simp [Env.set, htd]
     rw [e1, ← hx, ih t]
     have nd : dstOf ops k ≠ some t := by rw [hdst, hd]; intro h; injection h with h; exact htd h.symm
     by_cases hq : ∃ i, i < ops.length ∧ i < k ∧ dstOf ops i = some t
     ·obtain ⟨i, i1, i2, i3⟩ := hq
      obtain ⟨y, y1, _⟩ := hst i _ (List.getElem?_eq_getElem i1)
      rw [envL_in ok i1 (L := fun i => i < k) i2 i3 y1, envL_in ok i1 (L := fun i => i < k + 1) (by omega) i3 y1]
     ·rw [envL_out hq, envL_out]
      rintro ⟨i, i1, i2, i3⟩
      by_cases e : i = k
      ·subst e; exact nd i3
      ·exact hq ⟨i, i1, by omega, i3⟩
   ·cases x5
theorem trS_const (hq : quietT Z ops tr) {a b : Nat} (hab : a ≤ b) (hb : b ≤ ops.length) (hn : ∀ d (o : Oper), a ≤ d → d < b → ops[d]? = some o → cls Z o ≠ 2) : trS tr S' b = trS tr S' a := by
 induction b with
 | zero =>
  have : a = 0 := by omega
  subst this; rfl
 | succ b ih =>
  by_cases e : a = b + 1
  ·subst e; rfl
  ·have ho : ops[b]? = some ops[b] := List.getElem?_eq_getElem (by omega)
   obtain ⟨x, x1, x2, x3, x4, x5, x6⟩ := hst b _ ho
   have := hq b x _ x1 ho (hn b _ (by omega) (by omega) ho)
   rw [← x6, this, ← ih (by omega) (by omega) fun d o h1 h2 => hn d o h1 (by omega)]
   simp [trS, x1]
theorem step_any (U : Store → Store) (hq : quietT Z ops tr) {L : Nat → Prop} (hc : ClosedL ops L) {i : Nat} {o : Oper} (ho : ops[i]? = some o) (hr : ReadyL ops L i) (hn : ¬ L i) {k : Nat} (hk : k ≤ ops.length)
  (hkd : ∀ d (o : Oper), ops[d]? = some o → cls Z o = 2 → (L d ↔ d < k)) {x : Tr} (hx : tr[i]? = some x)
  (hcan : x.on = true → cls Z o ≠ 0 → evStepR T C md Z x.e (U x.S) o = some (x.a, U x.S'))
  (hs : ∀ d, (i, d) ∈ hints Z ops → ∀ y, tr[d]? = some y → x.on = true → evStepR T C md Z x.e (U y.S) o = some (x.a, U y.S) ∧ evStepR T C md Z x.e (U y.S') o = some (x.a, U y.S')) :
  wantedA ops (envL ops tr e L) o = some x.on ∧ (x.on = true → ∃ S₂, evStepR T C md Z (envL ops tr e L) (U (trS tr S' k)) o = some (x.a, U S₂) ∧ ∃ k', k' ≤ ops.length ∧ S₂ = trS tr S' k' ∧ ∀ d (o : Oper), ops[d]? = some o → cls Z o = 2 → ((L d ∨ d = i) ↔ d < k')) ∧
   (x.on = false → ∃ k', k' ≤ ops.length ∧ trS tr S' k = trS tr S' k' ∧ ∀ d (o : Oper), ops[d]? = some o → cls Z o = 2 → ((L d ∨ d = i) ↔ d < k')) := by
 have hi : i < ops.length := (List.getElem?_eq_some_iff.1 ho).1
 obtain ⟨x', x1, x2, x3, x4, x5, x6⟩ := hst i o ho
 rw [hx] at x1; injection x1 with x1; subst x1
 have hxe : trE tr e' i = x.e := by simp [trE, hx]
 have hxS : trS tr S' i = x.S := by simp [trS, hx]
 have agree : ∀ t, t ∈ looksOf ops i → envL ops tr e L t = x.e t := fun t ht => by
  rw [← hxe, trE_at ok hl h0 hst i (by omega) t]
  by_cases hw : ∃ j, j < ops.length ∧ dstOf ops j = some t
  ·obtain ⟨j, j1, j2⟩ := hw
   obtain ⟨y, y1, _⟩ := hst j _ (List.getElem?_eq_getElem j1)
   have iff : L j ↔ j < i := by
    by_cases e : j = i
    ·subst e; exact ⟨fun h => absurd h hn, fun h => absurd h (by omega)⟩
    ·have := ok.look j i t j1 hi e j2 ht
     rcases Nat.lt_or_gt_of_ne e with h | h
     ·exact ⟨fun _ => h, fun _ => ord_ready (this.1 h) hc hr⟩
     ·exact ⟨fun hj => absurd (ord_closed (this.2 h) hc hj) hn, fun hj => by omega⟩
   by_cases hji : j < i
   ·rw [envL_in ok j1 (iff.2 hji) j2 y1, envL_in ok j1 (L := fun i' => i' < i) hji j2 y1]
   ·have u1 : ¬ ∃ j', j' < ops.length ∧ L j' ∧ dstOf ops j' = some t := by
     rintro ⟨j', a1, a2, a3⟩
     by_cases e : j' = j
     ·subst e; exact hji (iff.1 a2)
     ·exact ok.dst _ _ _ a1 j1 e a3 j2
    have u2 : ¬ ∃ j', j' < ops.length ∧ j' < i ∧ dstOf ops j' = some t := by
     rintro ⟨j', a1, a2, a3⟩
     by_cases e : j' = j
     ·subst e; exact hji a2
     ·exact ok.dst _ _ _ a1 j1 e a3 j2
    rw [envL_out u1, envL_out u2]
  ·rw [envL_out fun ⟨j, a1, _, a3⟩ => hw ⟨j, a1, a3⟩, envL_out fun ⟨j, a1, _, a3⟩ => hw ⟨j, a1, a3⟩]
 have opAgree : ∀ t, t ∈ (o.op.operands.toList.filterMap fun | .tmp t => some t | _ => none) → envL ops tr e L t = x.e t := fun t ht => agree t (by simp only [looksOf, ho]; exact List.mem_append_left _ ht)
 have wAgree : wantedA ops (envL ops tr e L) o = wantedA ops x.e o := by
  unfold wantedA
  split
  ·rfl
  ·rename_i g b hg
   split
   ·rfl
   ·rename_i t ht
    rw [agree t (by simp only [looksOf, ho, hg, dstOf, ht]; exact List.mem_append_right _ (by simp))]
 have dlt : ∀ d (o' : Oper), ops[d]? = some o' → cls Z o' = 2 → cls Z o = 2 → (d < i ↔ L d) := fun d o' hd h1 h2 => by
  by_cases e : d = i
  ·subst e; exact ⟨fun h => absurd h (by omega), fun h => absurd h hn⟩
  ·rcases Nat.lt_or_gt_of_ne e with h | h
   ·exact ⟨fun _ => ord_ready (ok.two d i o' o h hd ho h1 h2) hc hr, fun _ => h⟩
   ·exact ⟨fun hh => by omega, fun hL => absurd (ord_closed (ok.two i d o o' h ho hd h2 h1) hc hL) hn⟩
 have doerS : cls Z o = 2 → trS tr S' k = trS tr S' i := fun h2 => by
  rcases Nat.le_total k i with h | h
  ·exact (trS_const ok hl h0 hst hq h (by omega) fun d o' h3 h4 hd hcd => by
    have := (hkd d o' hd hcd).1 ((dlt d o' hd hcd h2).1 h4); omega).symm
  ·exact trS_const ok hl h0 hst hq h hk fun d o' h3 h4 hd hcd => by
    have := (dlt d o' hd hcd h2).2 ((hkd d o' hd hcd).2 h4); omega
 have iff2 : cls Z o = 2 → ∀ d (o' : Oper), ops[d]? = some o' → cls Z o' = 2 → ((L d ∨ d = i) ↔ d < i + 1) := fun h2 d o' hd hcd => by
  have := dlt d o' hd hcd h2
  constructor
  ·rintro (h | h)
   ·have := this.2 h; omega
   ·omega
  ·intro h
   by_cases e : d = i
   ·exact .inr e
   ·exact .inl (this.1 (by omega))
 have iffn : cls Z o ≠ 2 → ∀ d (o' : Oper), ops[d]? = some o' → cls Z o' = 2 → ((L d ∨ d = i) ↔ d < k) := fun h2 d o' hd hcd => by
  constructor
  ·rintro (h | h)
   ·exact (hkd d o' hd hcd).1 h
   ·subst h; rw [ho] at hd; injection hd with hd; subst hd; exact absurd hcd h2
  ·exact fun h => .inl ((hkd d o' hd hcd).2 h)
 refine ⟨wAgree.trans x2, fun hon => ?_, fun hoff => ?_⟩
 ·have can := x3 hon
  rw [evStepR_congr o opAgree]
  by_cases hc2 : cls Z o = 2
  ·refine ⟨x.S', by rw [doerS hc2, hxS]; exact hcan hon (by omega), i + 1, by omega, x6, iff2 hc2⟩
  ·have hqi := hq i x o hx ho hc2
   by_cases hc0 : cls Z o = 0
   ·exact ⟨trS tr S' k, (pureR_same hc0 can).2, k, hk, rfl, iffn hc2⟩
   ·have hc1 : cls Z o = 1 := by
     have := cls_le Z o
     omega
    have hin : ∀ d (o' : Oper), ops[d]? = some o' → cls Z o' = 2 → d ≠ i → (if d < i then ordB (depT ops) i d else ordB (depT ops) d i) = false → (i, d) ∈ hints Z ops := fun d o' hd hcd hne hord => by
     have hdl := (List.getElem?_eq_some_iff.1 hd).1
     simp only [hints, List.mem_flatMap, List.mem_range]
     refine ⟨i, hi, ?_⟩
     rw [if_pos (by simp [ho, hc1])]
     refine List.mem_filterMap.2 ⟨d, by simpa using hdl, ?_⟩
     rw [if_pos (by simp [hd, hcd, hord])]
    have use : ∀ d (o' : Oper), ops[d]? = some o' → cls Z o' = 2 → d ≠ i → (if d < i then ordB (depT ops) i d else ordB (depT ops) d i) = false →
      evStepR T C md Z x.e (U (trS tr S' d)) o = some (x.a, U (trS tr S' d)) ∧ evStepR T C md Z x.e (U (trS tr S' (d + 1))) o = some (x.a, U (trS tr S' (d + 1))) := fun d o' hd hcd hne hord => by
     obtain ⟨y, y1, _, _, _, _, y6⟩ := hst d o' hd
     have st := hs d (hin d o' hd hcd hne hord) y y1 hon
     have e1 : trS tr S' d = y.S := by simp [trS, y1]
     rw [e1, ← y6]; exact st
    refine ⟨trS tr S' k, ?_, k, hk, rfl, iffn hc2⟩
    by_cases hbet : ∃ d, ∃ o' : Oper, ops[d]? = some o' ∧ cls Z o' = 2 ∧ ((k ≤ d ∧ d < i) ∨ (i ≤ d ∧ d < k))
    ·obtain ⟨d, o', hd, hcd, hb⟩ := hbet
     rcases hb with hb | hb
     ·-- the first one behind k
      obtain ⟨m, m1, ⟨m2, m3, o2, m4, m5⟩, m6⟩ := least (p := fun d => k ≤ d ∧ d < i ∧ ∃ o' : Oper, ops[d]? = some o' ∧ cls Z o' = 2) d ⟨hb.1, hb.2, o', hd, hcd⟩
      have hS : trS tr S' m = trS tr S' k := trS_const ok hl h0 hst hq m2 (by omega) fun q oq q1 q2 hq' hcq => m6 q q2 ⟨q1, by omega, oq, hq', hcq⟩
      have nL : ¬ L m := fun h => by have := (hkd m o2 m4 m5).1 h; omega
      have hord : (if m < i then ordB (depT ops) i m else ordB (depT ops) m i) = false := by
       rw [if_pos m3]
       cases h : ordB (depT ops) i m with
       | false => rfl
       | true => exact absurd (ord_ready h hc hr) nL
      have := (use m o2 m4 m5 (by omega) hord).1
      rwa [hS] at this
     ·-- the last one before k
      obtain ⟨m, m1, m2, ⟨o2, m4, m5⟩, m6⟩ := last (p := fun d => ∃ o' : Oper, ops[d]? = some o' ∧ cls Z o' = 2) k d hb.2 ⟨o', hd, hcd⟩
      have hS : trS tr S' k = trS tr S' (m + 1) := trS_const ok hl h0 hst hq (by omega) hk fun q oq q1 q2 hq' hcq => m6 q (by omega) q2 ⟨oq, hq', hcq⟩
      have hL : L m := (hkd m o2 m4 m5).2 m2
      have hmi : m ≠ i := fun e => hn (e ▸ hL)
      have hord : (if m < i then ordB (depT ops) i m else ordB (depT ops) m i) = false := by
       rw [if_neg (by omega)]
       cases h : ordB (depT ops) m i with
       | false => rfl
       | true => exact absurd (ord_closed h hc hL) hn
      have := (use m o2 m4 m5 hmi hord).2
      rwa [← hS] at this
    ·have hS : trS tr S' k = trS tr S' i := by
      rcases Nat.le_total k i with h | h
      ·exact (trS_const ok hl h0 hst hq h (by omega) fun d o' h1 h2 hd hcd => hbet ⟨d, o', hd, hcd, .inl ⟨h1, h2⟩⟩).symm
      ·exact trS_const ok hl h0 hst hq h hk fun d o' h1 h2 hd hcd => hbet ⟨d, o', hd, hcd, .inr ⟨h1, h2⟩⟩
     rw [hS, hxS]
     have := hcan hon (by omega)
     rw [hqi] at this; exact this
 ·by_cases hc2 : cls Z o = 2
  ·refine ⟨i + 1, by omega, ?_, iff2 hc2⟩
   rw [doerS hc2, hxS, ← x6, (x4 hoff).2]
  ·exact ⟨k, hk, rfl, iffn hc2⟩
end
theorem oneAl_at {ops : List Oper} (h : oneAl ops = true) {o : Oper} (ho : ops[alIx ops]? = some o) : isAl o = true ∧ o.guard = none := by
 unfold oneAl at h; rw [Bool.and_eq_true, decide_eq_true_eq, List.all_eq_true] at h
 have h2 : isAl (ops[alIx ops]'h.1) = true := List.findIdx_getElem (w := h.1)
 have h3 : ops[alIx ops]'h.1 = o := by rw [List.getElem?_eq_getElem h.1] at ho; injection ho
 rw [h3] at h2
 have := h.2 (alIx ops) (by simpa using h.1)
 rw [ho] at this
 simp [h2] at this
 exact ⟨h2, this⟩
def unf (Z : Hs) (b : Bool) (S : Store) : Store := match alOf Z with
 | some id => match b with
  | true => S
  | false => emp id S
 | none => S
theorem alB_of {Z : Hs} (h : alB Z = true) : ∃ id, alOf Z = some id := by
 match Z with
 | none => simp [alB] at h
 | some (none, l) => simp [alB] at h
 | some (some id, l) => exact ⟨id, rfl⟩
theorem regR_ok (hT : TOk P T) (hM : P.follows .mixedOrders = true) (hC : CallOk P C) {W : Fm} {ops : Array Oper} {e e₁ : Env} {S S₁ : Store} {id : Nat} {tr : List Tr} (hm : MdOk W md) {σ : Place} {I F : Nat → Prop} {w : World} {act : Act}
  (htr : evTr T C md Z act.tmps.size ops.toList ops.toList e S = some (tr, e₁, S₁)) {S₀ : Store} (hZ : Laid Z S₀ σ) (hd : drawOk Z ops.toList = true) (hq : quietT Z ops.toList tr) (hs : ∀ p ∈ hints Z ops.toList, stab T C md Z ops.toList tr p) (hA : ∀ id, alOf Z = some id → AlOk T C md Z id ops.toList tr) (hS₀ : S₀ = unf Z false S)
  (s : Sim W S₀ σ I F w.heap) (he : EnvRel S₀ σ I w.heap e act.tmps) {Q : Exit → Act → World → Prop} (hQ : ∀ act' w', Post W S₀ σ I F w act e₁ S₁ act' w' → Q .normal act' w') : (Code.region id ops true).wp P Q act w := by
 have ok := drawOk_ok hd
 obtain ⟨hl, h0, hS0, hst⟩ := tr_ok htr
 refine wp_region_any hM ?_
 let UU : Array Bool → Store → Store := fun listed => unf Z (listed[alIx ops.toList]? == some true)
 have key : ∀ (fuel : Nat) (listed : Array Bool) (a : Act) (w' : World) (k : Nat) (σ' : Place) (I' F' : Nat → Prop), listed.size = ops.size → ClosedL ops.toList (fun i => listed[i]? = some true) → ((List.range ops.size).filter fun i => listed[i]? != some true).length ≤ fuel →
   k ≤ ops.toList.length → (∀ d (o : Oper), ops.toList[d]? = some o → cls Z o = 2 → (listed[d]? = some true ↔ d < k)) → Sim W (UU listed (trS tr S₁ k)) σ' I' F' w'.heap → Ext W S₀ σ I F w.heap (UU listed (trS tr S₁ k)) σ' I' F' w'.heap →
   EnvRel (UU listed (trS tr S₁ k)) σ' I' w'.heap (envL ops.toList tr e fun i => listed[i]? = some true) a.tmps → a.tmps.size = act.tmps.size → a.defers = act.defers → w'.os = w.os → w'.tape = w.tape → w'.output = w.output → wpAny P .any ops Q fuel listed a w' := by
  intro fuel
  have fin : ∀ (listed : Array Bool) (a : Act) (w' : World) (k : Nat) (σ' : Place) (I' F' : Nat → Prop), (∀ i, i < ops.size → listed[i]? = some true) → k ≤ ops.toList.length → (∀ d (o : Oper), ops.toList[d]? = some o → cls Z o = 2 → (listed[d]? = some true ↔ d < k)) →
    Sim W (UU listed (trS tr S₁ k)) σ' I' F' w'.heap → Ext W S₀ σ I F w.heap (UU listed (trS tr S₁ k)) σ' I' F' w'.heap → EnvRel (UU listed (trS tr S₁ k)) σ' I' w'.heap (envL ops.toList tr e fun i => listed[i]? = some true) a.tmps → a.tmps.size = act.tmps.size → a.defers = act.defers → w'.os = w.os → w'.tape = w.tape → w'.output = w.output → Q .normal a w' := by
   intro listed a w' k σ' I' F' hall hk hkd s' E' he' q1 q2 q3 q4 q5
   have hS : trS tr S₁ k = S₁ := by
    have : trS tr S₁ ops.toList.length = trS tr S₁ k := trS_const ok hl h0 hst hq hk (Nat.le_refl _) fun d o h1 h2 hd hcd => by
     have := (hkd d o hd hcd).1 (hall d (by simpa using h2)); omega
    rw [← this]; simp [trS, ← hl]
   have hE : (envL ops.toList tr e fun i => listed[i]? = some true) = e₁ := by
    funext t
    have e1 : trE tr e₁ ops.toList.length = e₁ := by simp [trE, ← hl]
    rw [← e1, trE_at ok hl h0 hst _ (Nat.le_refl _) t]
    by_cases hw : ∃ j, j < ops.toList.length ∧ dstOf ops.toList j = some t
    ·obtain ⟨j, j1, j2⟩ := hw
     obtain ⟨y, y1, _⟩ := hst j _ (List.getElem?_eq_getElem j1)
     rw [envL_in ok j1 (hall j (by simpa using j1)) j2 y1, envL_in ok j1 (L := fun i => i < ops.toList.length) j1 j2 y1]
    ·rw [envL_out fun ⟨j, a1, _, a3⟩ => hw ⟨j, a1, a3⟩, envL_out fun ⟨j, a1, _, a3⟩ => hw ⟨j, a1, a3⟩]
   have hU : UU listed S₁ = S₁ := by
    show unf Z _ S₁ = S₁
    unfold unf
    split
    ·rename_i id hid
     have h1 := (hA id hid).one
     unfold oneAl at h1
     rw [Bool.and_eq_true, decide_eq_true_eq] at h1
     rw [hall _ (by simpa using h1.1)]; rfl
    ·rfl
   rw [hS, hU] at s' E' he'
   rw [hE] at he'
   exact hQ a w' ⟨σ', I', F', s', E', he', q1, q2, q3, q4, q5⟩
  have ready_all : ∀ (listed : Array Bool), listed.size = ops.size → Region.ready .any ops listed = [] → ∀ i, i < ops.size → listed[i]? = some true := by
   intro listed hsz hr i hi
   by_cases hq : ∃ j, j < ops.size ∧ listed[j]? ≠ some true
   ·obtain ⟨j, j1, j2⟩ := hq
    obtain ⟨m, m1, ⟨m2, m3⟩, m4⟩ := least (p := fun j => j < ops.size ∧ listed[j]? ≠ some true) j ⟨j1, j2⟩
    have hf : listed.getD m true = false := by
     have hml : m < listed.size := by omega
     rw [Array.getElem?_eq_getElem hml] at m3
     cases hq : listed[m] with
     | false => simp [hml, hq]
     | true => rw [hq] at m3; exact absurd rfl m3
    have : m ∈ Region.ready .any ops listed := mem_ready.2 ⟨hf, ops[m], Array.getElem?_eq_getElem m2, fun ed hed hb => by
     have hlt := ok.down m ops[m] ed (by simp [m2]) hed hb
     have hq : listed[ed.on]? = some true := by
      cases hq : decide (listed[ed.on]? = some true) with
      | true => simpa using hq
      | false => exact absurd ⟨by omega, by simpa using hq⟩ (m4 ed.on hlt)
     simp [Array.getD_eq_getD_getElem?, hq]⟩
    rw [hr] at this; cases this
   ·by_cases hi' : listed[i]? = some true
    ·exact hi'
    ·exact absurd ⟨i, hi, hi'⟩ hq
  induction fuel with
  | zero =>
   intro listed a w' k σ' I' F' hsz hcl hcnt hk hkd s' E' he' q1 q2 q3 q4 q5
   have hall : ∀ i, i < ops.size → listed[i]? = some true := fun i hi => by
    have h0 : (List.range ops.size).filter (fun i => listed[i]? != some true) = [] := List.length_eq_zero_iff.1 (by omega)
    have := List.filter_eq_nil_iff.1 h0 i (by simpa using hi)
    simpa using this
   have hr : Region.ready .any ops listed = [] := by
    cases hr : Region.ready .any ops listed with
    | nil => rfl
    | cons i l =>
     have hmem : i ∈ Region.ready .any ops listed := by rw [hr]; simp
     obtain ⟨h1, o, ho, _⟩ := mem_ready.1 hmem
     have hi := (Array.getElem?_eq_some_iff.1 ho).1
     have := hall i hi
     simp [Array.getD_eq_getD_getElem?, this] at h1
   exact ⟨hr, fin listed a w' k σ' I' F' hall hk hkd s' E' he' q1 q2 q3 q4 q5⟩
  | succ fuel ih =>
   intro listed a w' k σ' I' F' hsz hcl hcnt hk hkd s' E' he' q1 q2 q3 q4 q5
   refine ⟨fun hr => fin listed a w' k σ' I' F' (ready_all listed hsz hr) hk hkd s' E' he' q1 q2 q3 q4 q5, fun i hi => ?_⟩
   obtain ⟨hun, o, ho, hdeps⟩ := mem_ready.1 hi
   have hil := (Array.getElem?_eq_some_iff.1 ho).1
   have hol : ops.toList[i]? = some o := by simpa using ho
   have hnL : ¬ (listed[i]? = some true) := fun h => by simp [Array.getD_eq_getD_getElem?, h] at hun
   have hrd : ReadyL ops.toList (fun i => listed[i]? = some true) i := fun o' ed ho' hed hb => by
    rw [hol] at ho'; injection ho' with ho'; subst ho'
    have := hdeps ed hed hb
    cases hq : listed[ed.on]? with
    | none => simp [Array.getD_eq_getD_getElem?, hq] at this
    | some v => simp [Array.getD_eq_getD_getElem?, hq] at this; rw [this]
   obtain ⟨x, x1, x2, x3, x4, x5, x6⟩ := hst i o hol
   have hsx : ∀ d, (i, d) ∈ hints Z ops.toList → ∀ y, tr[d]? = some y → x.on = true → evStepR T C md Z x.e y.S o = some (x.a, y.S) ∧ evStepR T C md Z x.e y.S' o = some (x.a, y.S') := fun d hd y hy hon => by
    have := hs _ hd
    simp only [stab, x1, hy, hol] at this
    exact this hon
   obtain ⟨w1, w2, w3⟩ := step_any ok hl h0 hst (fun S => S) hq hcl hol hrd hnL hk hkd x1 (fun hon _ => x3 hon) hsx
   have hdl : ∀ id, alOf Z = some id → ¬ (listed[alIx ops.toList]? = some true) → i ≠ alIx ops.toList → ∀ hon : x.on = true, ∃ S₂, evStepR T C md Z (envL ops.toList tr e fun i => listed[i]? = some true) (emp id (trS tr S₁ k)) o = some (x.a, emp id S₂) ∧ ∃ k', k' ≤ ops.toList.length ∧ S₂ = trS tr S₁ k' ∧ ∀ d (o : Oper), ops.toList[d]? = some o → cls Z o = 2 → ((listed[d]? = some true ∨ d = i) ↔ d < k') := fun id hid hnl hne hon => by
    have ord : ordB (depT ops.toList) i (alIx ops.toList) = false := by
     cases h : ordB (depT ops.toList) i (alIx ops.toList) with
     | false => rfl
     | true => exact absurd (ord_ready h hcl hrd) hnl
    refine (step_any ok hl h0 hst (emp id) hq hcl hol hrd hnL hk hkd x1 (fun hon hc => ?_) (fun d hd y hy hon => ?_)).2.1 hon
    ·have := (hA id hid).ev i (by
      unfold preA
      refine List.mem_filter.2 ⟨by simpa using hil, ?_⟩
      simp [hne, hol, hc, ord])
     simp only [preT, x1, hol] at this
     exact this hon
    ·have := (hA id hid).st (i, d) (by
      unfold hintsA
      exact List.mem_filter.2 ⟨hd, by simp [hne, ord]⟩)
     simp only [stabA, x1, hy, hol] at this
     exact this hon
   have set1 : ∀ j, (listed.setIfInBounds i true)[j]? = some true ↔ (listed[j]? = some true ∨ j = i) := fun j => by
    rw [Array.getElem?_setIfInBounds]
    split
    ·rename_i e; subst e; simp [hsz, hil]
    ·rename_i e; exact ⟨.inl, fun h => h.resolve_right fun q => e q.symm⟩
   have cl' : ClosedL ops.toList (fun j => (listed.setIfInBounds i true)[j]? = some true) := fun j o' ed hj ho' hed hb => by
    refine (set1 _).2 (.inl ?_)
    rcases (set1 j).1 hj with hj | hj
    ·exact hcl j o' ed hj ho' hed hb
    ·subst hj; exact hrd o' ed ho' hed hb
   have cnt' : ((List.range ops.size).filter fun j => (listed.setIfInBounds i true)[j]? != some true).length ≤ fuel := by
    have hlt : ((List.range ops.size).filter fun j => (listed.setIfInBounds i true)[j]? != some true).length < ((List.range ops.size).filter fun j => listed[j]? != some true).length := by
     have hmem : i ∈ (List.range ops.size).filter fun j => listed[j]? != some true := List.mem_filter.2 ⟨by simpa using hil, by simpa using hnL⟩
     have heq : ((List.range ops.size).filter fun j => (listed.setIfInBounds i true)[j]? != some true) = ((List.range ops.size).filter fun j => listed[j]? != some true).filter fun j => j != i := by
      rw [List.filter_filter]
      refine List.filter_congr fun j _ => ?_
      have := set1 j
      by_cases e1 : listed[j]? = some true <;> by_cases e2 : j = i <;> simp_all
     rw [heq]
     exact List.length_filter_lt_length_iff_exists.2 ⟨i, hmem, by simp⟩
    omega
   have env' : ∀ {S₂ : Store} {σ₂ : Place} {I₂ : Nat → Prop} {h₂ : Array Obj} {tm : Array Value} {v : Value}, EnvRel S₂ σ₂ I₂ h₂ (envL ops.toList tr e fun i => listed[i]? = some true) a.tmps → Rel S₂ σ₂ I₂ h₂ x.a v →
     EnvRel S₂ σ₂ I₂ h₂ (envL ops.toList tr e fun j => (listed.setIfInBounds i true)[j]? = some true) (a.put o.dst v).tmps := fun {S₂ σ₂ I₂ h₂ tm v} he₂ hv t => by
    have hdst : dstOf ops.toList i = o.dst := by simp [dstOf, ho]
    have hilL : i < ops.toList.length := by simpa using hil
    by_cases ht : o.dst = some t
    ·rw [envL_in ok hilL (L := fun j => (listed.setIfInBounds i true)[j]? = some true) ((set1 i).2 (.inr rfl)) (hdst.trans ht) x1, ht]
     have hd : t < act.tmps.size := by
      unfold putA at x5
      rw [ht] at x5
      simp only at x5
      split at x5
      ·assumption
      ·cases x5
     simpa [Act.put, show t < a.tmps.size by omega] using hv
    ·have e1 : (a.put o.dst v).tmps.getD t undef = a.tmps.getD t undef := by
      cases hd : o.dst with
      | none => rfl
      | some d =>
       have : d ≠ t := fun q => ht (by rw [hd, q])
       simp [Act.put, Array.getElem?_setIfInBounds_ne this]
     have e2 : (envL ops.toList tr e fun j => (listed.setIfInBounds i true)[j]? = some true) t = (envL ops.toList tr e fun i => listed[i]? = some true) t := by
      by_cases hw : ∃ j, j < ops.toList.length ∧ listed[j]? = some true ∧ dstOf ops.toList j = some t
      ·obtain ⟨j, j1, j2, j3⟩ := hw
       obtain ⟨y, y1, _⟩ := hst j _ (List.getElem?_eq_getElem j1)
       rw [envL_in ok j1 (L := fun i => listed[i]? = some true) j2 j3 y1, envL_in ok j1 (L := fun j => (listed.setIfInBounds i true)[j]? = some true) ((set1 j).2 (.inl j2)) j3 y1]
      ·rw [envL_out hw, envL_out]
       rintro ⟨j, j1, j2, j3⟩
       rcases (set1 j).1 j2 with j2 | j2
       ·exact hw ⟨j, j1, j2, j3⟩
       ·subst j2; exact ht (hdst.symm.trans j3)
     rw [e1, e2]; exact he₂ t
   have iff' : ∀ {k' : Nat}, (∀ d (o : Oper), ops.toList[d]? = some o → cls Z o = 2 → ((listed[d]? = some true ∨ d = i) ↔ d < k')) → ∀ d (o : Oper), ops.toList[d]? = some o → cls Z o = 2 → ((listed.setIfInBounds i true)[d]? = some true ↔ d < k') := fun h d o' hd hcd => (set1 d).trans (h d o' hd hcd)
   have keepU : i ≠ alIx ops.toList → UU (listed.setIfInBounds i true) = UU listed := fun hne => by
    show unf Z _ = unf Z _
    congr 1
    have : (listed.setIfInBounds i true)[alIx ops.toList]? = listed[alIx ops.toList]? := Array.getElem?_setIfInBounds_ne hne
    rw [this]
   have nal : alB Z = true → i ≠ alIx ops.toList → isAl o = false := fun hb hne => by
    obtain ⟨id, hid⟩ := alB_of hb
    have h1 := (hA id hid).one
    unfold oneAl at h1
    rw [Bool.and_eq_true, List.all_eq_true] at h1
    have := h1.2 i (by simpa using hil)
    rw [hol] at this
    simp only [Bool.or_eq_true, Bool.not_eq_true', Bool.and_eq_true, beq_iff_eq] at this
    rcases this with h | h
    ·exact h
    ·exact absurd h.1 hne
   unfold wpOp
   simp only [ho]
   cases hon : x.on with
   | true =>
    rw [hon] at w1
    rw [if_pos (wanted_ok he' w1)]
    have gen : (alB Z = true → isAl o = false) → i ≠ alIx ops.toList ∨ alOf Z = none → ∃ S₂, evStepR T C md Z (envL ops.toList tr e fun i => listed[i]? = some true) (UU listed (trS tr S₁ k)) o = some (x.a, UU listed S₂) ∧ ∃ k', k' ≤ ops.toList.length ∧ S₂ = trS tr S₁ k' ∧ ∀ d (o : Oper), ops.toList[d]? = some o → cls Z o = 2 → ((listed[d]? = some true ∨ d = i) ↔ d < k') := fun _ hne => by
     have base := w2 hon
     show ∃ S₂, evStepR T C md Z _ (unf Z _ _) o = some (x.a, unf Z _ S₂) ∧ _
     unfold unf
     cases hz : alOf Z with
     | none => exact base
     | some id =>
      by_cases hla : listed[alIx ops.toList]? = some true
      ·rw [hla]; exact base
      ·have : (listed[alIx ops.toList]? == some true) = false := by simpa using hla
       rw [this]
       exact hdl id hz hla (hne.resolve_right (by rw [hz]; simp)) hon
    have go : (alB Z = true → isAl o = false) → i ≠ alIx ops.toList ∨ alOf Z = none → o.wp P a w' (fun a₂ w₂ => wpAny P .any ops Q fuel (listed.setIfInBounds i true) a₂ w₂) Q := fun h1 h2 => by
     obtain ⟨S₂, z1, k', z2, z3, z4⟩ := gen h1 h2
     refine stepR_wp hC hT hZ E' s' hm he' h1 z1 fun v w₂ st => ?_
     obtain ⟨σ₂, I₂, F₂, y1, y2, y3, y4, y5, y6⟩ := st
     subst z3
     have hU : UU (listed.setIfInBounds i true) = UU listed := by
      rcases h2 with h2 | h2
      ·exact keepU h2
      ·show unf Z _ = unf Z _
       funext S; unfold unf; rw [h2]
     exact ih _ _ _ k' σ₂ I₂ F₂ (by simpa using hsz) cl' cnt' z2 (iff' z4) (by rw [hU]; exact y1) (by rw [hU]; exact E'.trans y2) (by rw [hU]; exact env' (tm := a.tmps) (he'.ext y2 s'.sub) y3) (by rw [put_size]; exact q1) (by rw [put_defers]; exact q2) (y4.trans q3) (y5.trans q4) (y6.trans q5)
    cases hz : alOf Z with
    | none => exact .inl (go (fun hb => by obtain ⟨id, hid⟩ := alB_of hb; rw [hz] at hid; cases hid) (.inr hz))
    | some id =>
     by_cases hne : i = alIx ops.toList
     ·by_cases ha : isAl o = true
      ·-- the variable is made
       refine .inl ?_
       obtain ⟨S₂, z1, k', z2, z3, z4⟩ := w2 hon
       have hun : UU listed = emp id := by
        show unf Z _ = _
        funext S
        unfold unf
        rw [hz]
        have : (listed[alIx ops.toList]? == some true) = false := by rw [← hne]; simpa using hnL
        simp only [this]
       have hfi : UU (listed.setIfInBounds i true) = fun S => S := by
        show unf Z _ = _
        funext S
        unfold unf
        rw [hz]
        have : (listed.setIfInBounds i true)[alIx ops.toList]? = some true := by rw [← hne]; exact (set1 i).2 (.inr rfl)
        simp only [this]; rfl
       have hsp : ∃ l, Z = some (some id, l) := by
        match Z, hz with
        | some (some id', l), hz => simp only [alOf, Option.some.injEq] at hz; subst hz; exact ⟨l, rfl⟩
        | some (none, l), hz => simp [alOf] at hz
        | none, hz => simp [alOf] at hz
       obtain ⟨l, hZe⟩ := hsp
       obtain ⟨dst, op, ty, pos, after, guard⟩ := o
       have hop : ∃ t, op = .alloc t := by
        unfold isAl at ha
        split at ha
        ·rename_i t he; exact ⟨t, he⟩
        ·cases ha
       obtain ⟨t, rfl⟩ := hop
       have hnl : ¬ (isLit ⟨dst, .alloc t, ty, pos, after, guard⟩ = true) := by simp [isLit]
       have hq2 : evStepR T C md Z (envL ops.toList tr e fun i => listed[i]? = some true) (trS tr S₁ k) ⟨dst, .alloc t, ty, pos, after, guard⟩ = withS (trS tr S₁ k) (alA T id (trS tr S₁ k) ⟨dst, .alloc t, ty, pos, after, guard⟩) := by
        subst hZe; simp only [evStepR, if_neg hnl, if_pos ha]
       have z1' : withS (trS tr S₁ k) (alA T id (trS tr S₁ k) ⟨dst, .alloc t, ty, pos, after, guard⟩) = some (x.a, S₂) := by rw [← hq2]; exact z1
       obtain ⟨z5, z6⟩ := withS_some z1'
       subst z6
       unfold alA at z5
       simp only at z5
       split at z5
       ·rename_i te hte
        split at z5
        ·rename_i hob
         injection z5 with z5
         rw [hun] at s' E' he'
         obtain ⟨z, w₂, y1, st⟩ := Sim.born s' hob (hm.wr id (hA id hz).wr) hT hte
         have hx : (execOp a.eval ⟨dst, .alloc t, ty, pos, after, guard⟩).run P w' = .ok (.value z) w₂ := by
          simp only [execOp, Sem.run_bind, y1, Result.andThen_ok, Sem.run_pure]
         unfold Oper.wp
         rw [hx]
         obtain ⟨σ₂, I₂, F₂, y1, y2, y3, y4, y5, y6⟩ := st
         rw [z5] at y3
         rw [z3] at y1 y2 y3
         have y2' := y2
         rw [← z3] at y2'
         refine ih _ _ _ k' σ₂ I₂ F₂ (by simpa using hsz) cl' cnt' z2 (iff' z4) (by rw [hfi]; exact y1) (by rw [hfi]; rw [← z3]; exact E'.trans y2') ?_ (by rw [put_size]; exact q1) (by rw [put_defers]; exact q2) (y4.trans q3) (y5.trans q4) (y6.trans q5)
         rw [hfi]
         exact env' (tm := a.tmps) (by rw [← z3]; exact he'.ext y2' s'.sub) y3
        ·cases z5
       ·cases z5
      ·exfalso
       exact ha (oneAl_at (hA id hz).one (by rw [← hne]; exact hol)).1
     ·exact .inl (go (fun hb => nal hb hne) (.inl hne))
   | false =>
    rw [hon] at w1
    rw [if_neg (by rw [wanted_ok he' w1]; simp)]
    obtain ⟨k', z2, z3, z4⟩ := w3 hon
    have hne : alOf Z = none ∨ i ≠ alIx ops.toList := by
     cases hz : alOf Z with
     | none => exact .inl rfl
     | some id =>
      refine .inr fun hne => ?_
      have := (oneAl_at (hA id hz).one (by rw [← hne]; exact hol)).2
      simp [wantedA, this] at w1
    have hU : UU (listed.setIfInBounds i true) = UU listed := by
     rcases hne with h2 | h2
     ·show unf Z _ = unf Z _
      funext S; unfold unf; rw [h2]
     ·exact keepU h2
    rw [z3] at s' E' he'
    exact ih _ _ _ k' σ' I' F' (by simpa using hsz) cl' cnt' z2 (iff' z4) (by rw [hU]; exact s') (by rw [hU]; exact E') (by rw [hU]; exact env' (tm := a.tmps) he' (by rw [(x4 hon).1]; exact .v _)) (by rw [put_size]; exact q1) (by rw [put_defers]; exact q2) q3 q4 q5
 have hUi : UU (Array.replicate ops.size false) = unf Z false := by
  show unf Z _ = _
  congr 1
  rw [Array.getElem?_replicate]
  split <;> rfl
 refine key ops.size _ act _ 0 σ I F (by simp) ?_ ?_ (Nat.zero_le _) ?_ ?_ ?_ ?_ rfl rfl rfl rfl rfl
 ·intro j o ed hj _ _ _
  by_cases hlt : j < ops.size
  ·simp [hlt] at hj
  ·simp [hlt] at hj
 ·exact Nat.le_trans (List.length_filter_le _ _) (by simp)
 ·intro d o hd hcd
  have hlt := (List.getElem?_eq_some_iff.1 hd).1
  simp at hlt
  simp [hlt]
 ·rw [hS0, hUi, ← hS₀]; exact s
 ·rw [hS0, hUi, ← hS₀]; exact .refl
 ·intro t
  rw [envL_out, hS0, hUi, ← hS₀]
  ·exact he t
  ·rintro ⟨j, j1, j2, _⟩
   simp at j1
   simp [j1] at j2
theorem holesL_len {T : Nat → Option TI} : ∀ {l : List Oper} {k : Nat}, (holesL l k).length = (emptiesL T l).length
 | [], k => rfl
 | o :: l, k => by
  unfold holesL emptiesL
  split
  ·split
   ·simp [holesL_len (T := T) (l := l)]
   ·exact holesL_len
  ·exact holesL_len
theorem lay_st {T : Nat → Option TI} {Z : Hs} {ops : List Oper} {o : Ob} (h : o ∈ layOf T Z ops) : o.st = 0 := by
 match Z with
 | none => cases h
 | some (none, l) => exact (emptiesL_ok o h).2
 | some (some id, l) =>
  rcases List.mem_append.1 h with h | h
  ·exact (emptiesL_ok o h).2
  ·rw [List.mem_singleton] at h
   subst h
   unfold boxOf
   split
   ·split
    ·split <;> rfl
    ·rfl
   ·rfl
theorem lay_unf {T : Nat → Option TI} {S : Store} {ops : List Oper} : S ++ ((layOf T (holesOf ops S.length) ops).map fun o => (⟨o.n, [], o.st, o.bx⟩ : Ob)) = unf (holesOf ops S.length) false (S ++ layOf T (holesOf ops S.length) ops) := by
 have e0 : (emptiesL T ops).map (fun o => (⟨o.n, [], o.st, o.bx⟩ : Ob)) = emptiesL T ops := by
  refine (List.map_congr_left fun o ho => ?_).trans (List.map_id _)
  obtain ⟨n, rows, st, bx⟩ := o
  have := (emptiesL_ok _ ho).1
  simp only at this
  subst this; rfl
 unfold holesOf
 split
 ·simp [layOf, unf, alOf]
 ·split
  ·simp only [layOf, unf, alOf, e0]
  ·simp only [layOf, unf, alOf, List.map_append, e0]
   have hg : (S ++ (emptiesL T ops ++ [boxOf T ops]))[S.length + (holesL ops S.length).length]? = some (boxOf T ops) := by
    rw [List.getElem?_append_right (by omega), holesL_len (T := T), List.getElem?_append_right (by omega)]
    simp
   unfold emp
   rw [hg]
   simp only
   rw [holesL_len (T := T), List.set_append, if_neg (by omega), List.set_append, if_neg (by omega)]
   simp
theorem regA_ok (hT : TOk P T) (hM : P.follows .mixedOrders = true) (hC : CallOk P C) : RegOk P (regA T C) := by
 intro W md ops e S e' S' id hm σ I F w act h s he Q hQ
 unfold regA regZ at h
 split at h
 ·rename_i tr e₁ S₁ htr
  split at h
  ·rename_i hh
   injection h with h; injection h with g1 g2; subst g1 g2
   obtain ⟨hd, hq, hs, hA⟩ := hh
   let L₀ : List Ob := (layOf T (holesOf ops.toList S.length) ops.toList).map fun o => ⟨o.n, [], o.st, o.bx⟩
   have hst0 : ∀ o ∈ layOf T (holesOf ops.toList S.length) ops.toList, o.st = 0 := fun o ho => lay_st ho
   have hL : ∀ o ∈ L₀, o.rows = [] ∧ o.st = 0 := fun o ho => by
    obtain ⟨o', h1, rfl⟩ := List.mem_map.1 ho
    exact ⟨rfl, hst0 o' h1⟩
   obtain ⟨σ', s', E', k⟩ := Sim.lay L₀ hL s
   have hS₀ : S ++ L₀ = unf (holesOf ops.toList S.length) false (S ++ layOf T (holesOf ops.toList S.length) ops.toList) := lay_unf
   have lens : L₀.length = (layOf T (holesOf ops.toList S.length) ops.toList).length := by simp [L₀]
   refine regR_ok hT hM hC hm htr (S₀ := S ++ L₀) (fun al l hl => ?_) hd hq hs hA hS₀ s' (he.ext E' s.sub) fun act' w' hp => hQ act' w' ?_
   ·have free : ∀ id, S.length ≤ id → id < S.length + L₀.length → σ' id = none ∧ ∃ o, (S ++ L₀)[id]? = some o ∧ o.rows.length = 0 := fun id h1 h2 => by
     have := k (id - S.length) (by omega)
     rw [show S.length + (id - S.length) = id by omega] at this
     refine ⟨this, L₀[id - S.length]'(by omega), ?_, ?_⟩
     ·rw [List.getElem?_append_right (by omega)]; exact List.getElem?_eq_getElem _
     ·rw [(hL _ (List.getElem_mem _)).1]; rfl
    have hl2 : l = holesL ops.toList S.length ∧ (al = none ∨ al = some (S.length + (holesL ops.toList S.length).length)) := by
     unfold holesOf at hl
     split at hl
     ·cases hl
     ·split at hl
      ·simp only [Option.some.injEq, Prod.mk.injEq] at hl; exact ⟨hl.2.symm, .inl hl.1.symm⟩
      ·simp only [Option.some.injEq, Prod.mk.injEq] at hl; exact ⟨hl.2.symm, .inr hl.1.symm⟩
    have e4 : (emptiesL T ops.toList).length ≤ L₀.length := by
     rw [lens, hl]
     match al with
     | none => exact Nat.le_refl _
     | some id => simp only [layOf, List.length_append]; omega
    refine ⟨fun d id hid => ?_, fun id hid => ?_⟩
    ·rw [hl2.1] at hid
     have b := holesL_at (T := T) hid
     exact free id (by omega) (by omega)
    ·subst hid
     have e5 := hl2.2.resolve_left (by simp)
     injection e5 with e5
     have hA' := hA id (by rw [hl]; rfl)
     refine free id (by omega) ?_
     rw [lens, hl]
     simp only [layOf, List.length_append, List.length_singleton]
     rw [e5, holesL_len (T := T)]
     omega
   ·obtain ⟨σ₁, I₁, F₁, k1, k2, k3, k4, k5, k6, k7, k8⟩ := hp
    exact ⟨σ₁, I₁, F₁, k1, E'.trans k2, k3, k4, k5, k6, k7, k8⟩
  ·cases h
 ·cases h
end
end Go.Proofs.YtomklniddinhnaaE
