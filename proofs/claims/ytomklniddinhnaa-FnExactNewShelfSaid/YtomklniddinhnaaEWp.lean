/- Part of the proof: an evaluator (YtomklniddinhnaaEWp). -/
import Derived.Test.YtomklniddinhnaaEReg
set_option linter.unusedVariables false
set_option linter.unusedSimpArgs false
set_option linter.unusedSectionVars false
namespace Go.Proofs.YtomklniddinhnaaE
open Go
def FsP (P : Program) (fi : Nat → FI) (g : Nat) : Option (Func × FI) := match P.funcs[g]? with
 | some fn => if fn.name ≠ "runtime.NumGoroutine" then some (fn, fi g) else none
 | none => none
theorem FsP_ok (P : Program) (fi : Nat → FI) : FsOk P (FsP P fi) := fun g fn f h => by
 unfold FsP at h
 split at h
 ·rename_i fn' hf
  split at h
  ·injection h with h; injection h with e1 e2; subst e1 e2; exact ⟨hf, by assumption⟩
  ·cases h
 ·cases h
theorem FsP_get {P : Program} {fi : Nat → FI} {g : Nat} {fn : Func} (h : P.funcs[g]? = some fn) (hn : (fn.name == "runtime.NumGoroutine") = false) : FsP P fi g = some (fn, fi g) := by
 unfold FsP; rw [h]; simp only; rw [if_pos (by simpa using hn)]
theorem TOk_ti (P : Program) : TOk P (tiOf P) := fun t ti h => h
section
variable {T : Nat → Option TI} {C : Cl} {R : Md → Nat → Array Oper → Env → Store → Option (Env × Store)} {K : Nat → Option (List Nat)} {md : Md} {n : Nat}
structure Cx where
 T : Nat → Option TI
 C : Cl
 K : Nat → Option (List Nat)
 md : Md
 n : Nat
structure Ev (x : Cx) (c : Code) (e : Env) (S : Store) (Q : Ex → Env → Store → Prop) : Prop where
 run : ∃ ex e' S', evC x.T x.C (regA x.T x.C) x.K x.md x.n c e S = some (ex, e', S') ∧ Q ex e' S'
structure EvO (x : Cx) (all l : List Oper) (e : Env) (S : Store) (Q : Env → Store → Prop) : Prop where
 run : ∃ e' S', evOps x.T x.C x.md x.n all l e S = some (e', S') ∧ Q e' S'
structure EvT (x : Cx) (Z : Hs) (all l : List Oper) (e : Env) (S : Store) (Q : List Tr → Env → Store → Prop) : Prop where
 run : ∃ tr e' S', evTr x.T x.C x.md Z x.n all l e S = some (tr, e', S') ∧ Q tr e' S'
structure Cal (C : Cl) (md : Md) (g : Nat) (as : List A) (S : Store) (Q : A → Store → Prop) : Prop where
 run : ∃ r S', C md g as S = some (r, S') ∧ Q r S'
variable {x : Cx} {e : Env} {S : Store} {Q : Ex → Env → Store → Prop}
def thenQ (x : Cx) (b : Code) (Q : Ex → Env → Store → Prop) : Ex → Env → Store → Prop
 | .normal, e, S => Ev x b e S Q
 | ex, e, S => Q ex e S
def blockQ (id : Nat) (Q : Ex → Env → Store → Prop) : Ex → Env → Store → Prop
 | .exit m, e, S => if m = id then Q .normal e S else Q (.exit m) e S
 | ex, e, S => Q ex e S
theorem Ev.mono {c : Code} {Q' : Ex → Env → Store → Prop} (h : Ev x c e S Q') (hq : ∀ ex e S, Q' ex e S → Q ex e S) : Ev x c e S Q := by
 obtain ⟨⟨ex, e', S', h1, h2⟩⟩ := h; exact ⟨ex, e', S', h1, hq _ _ _ h2⟩
theorem Ev.skip (h : Q .normal e S) : Ev x .skip e S Q := ⟨_, _, _, rfl, h⟩
theorem Ev.exit {m : Nat} (h : Q (.exit m) e S) : Ev x (.exit m) e S Q := ⟨_, _, _, rfl, h⟩
theorem Ev.ret (h : Q .ret e S) : Ev x .ret e S Q := ⟨_, _, _, rfl, h⟩
theorem Ev.seq {a b : Code} (h : Ev x a e S (thenQ x b Q)) : Ev x (.seq a b) e S Q := by
 obtain ⟨⟨ex, e', S', h1, h2⟩⟩ := h
 cases ex with
 | normal => obtain ⟨⟨ex, e'', S'', h3, h4⟩⟩ := h2; exact ⟨ex, e'', S'', by simp only [evC, h1, h3], h4⟩
 | exit m => exact ⟨_, e', S', by simp only [evC, h1], h2⟩
 | ret => exact ⟨_, e', S', by simp only [evC, h1], h2⟩
theorem Ev.cond {c : Operand} {a b : Code} {t : Bool} (hc : rho e c = .v (.bool t)) (h1 : t = true → Ev x a e S Q) (h2 : t = false → Ev x b e S Q) : Ev x (.cond c a b) e S Q := by
 cases t with
 | true => obtain ⟨⟨ex, e', S', h3, h4⟩⟩ := h1 rfl; exact ⟨ex, e', S', by simp only [evC, hc, if_true, h3], h4⟩
 | false => obtain ⟨⟨ex, e', S', h3, h4⟩⟩ := h2 rfl; exact ⟨ex, e', S', by simp only [evC, hc, Bool.false_eq_true, if_false, h3], h4⟩
theorem Ev.block {id : Nat} {b : Code} (h : Ev x b e S (blockQ id Q)) : Ev x (.block id b) e S Q := by
 obtain ⟨⟨ex, e', S', h1, h2⟩⟩ := h
 cases ex with
 | exit m =>
  simp only [blockQ] at h2
  split at h2
  ·rename_i hm; exact ⟨_, e', S', by simp only [evC, h1, if_pos hm], h2⟩
  ·rename_i hm; exact ⟨_, e', S', by simp only [evC, h1, if_neg hm], h2⟩
 | normal => exact ⟨_, e', S', by simp only [evC, h1], h2⟩
 | ret => exact ⟨_, e', S', by simp only [evC, h1], h2⟩
def regQ (K : Option (List Nat)) (Q : Ex → Env → Store → Prop) : Env → Store → Prop := fun e S => Q .normal (lpE K e) S
structure KIs (K : Option (List Nat)) (ks : List Nat) : Prop where
 h : K = some ks
structure EnvIs (e e₂ : Env) : Prop where
 h : e = e₂
theorem regQ_k {K : Option (List Nat)} {ks : List Nat} {e₂ : Env} (hk : KIs K ks) (h1 : EnvIs (mkE (ks.map fun t => (t, e t))) e₂) (h : Q .normal e₂ S) : regQ K Q e S := by
 obtain ⟨hk⟩ := hk; obtain ⟨h1⟩ := h1; subst hk; subst h1; exact h
theorem Ev.region {id : Nat} {ops : Array Oper} (h : EvO x ops.toList ops.toList e S (regQ (x.K (id + 1000)) Q)) : Ev x (.region id ops false) e S Q := by
 obtain ⟨⟨e', S', h1, h2⟩⟩ := h
 exact ⟨_, lpE (x.K (id + 1000)) e', S', by simp only [evC, Bool.false_eq_true, if_false, h1], h2⟩
def roundQ (K : Option (List Nat)) (S : Store) (I : Env → Store → Prop) (Q : Ex → Env → Store → Prop) : Ex → Env → Store → Prop
 | .normal, e, S' => I (lpE K e) (lpG K S e S')
 | ex, e, S' => Q ex e S'
theorem Ev.loop {b : Code} (I : Nat → Env → Store → Prop) {j : Nat} (h0 : I j (lpE (x.K (firstR b)) e) S)
  (h : ∀ j e S, I j e S → Ev x b e S (roundQ (x.K (firstR b)) S (fun e S => ∃ i, i < j ∧ I i e S) Q)) : Ev x (.loop b) e S Q := by
 suffices hs : ∀ j e S, I j e S → ∃ r, itL (lpF (x.K (firstR b)) (evC x.T x.C (regA x.T x.C) x.K x.md x.n b)) e S = some r ∧ Q r.1 r.2.1 r.2.2 by
  obtain ⟨⟨ex, e', S'⟩, h1, h2⟩ := hs j _ _ h0
  exact ⟨ex, e', S', by simp only [evC]; exact h1, h2⟩
 intro j
 induction j using Nat.strongRecOn with
 | _ j ih =>
  intro e S hI
  obtain ⟨⟨ex, e', S', h1, h2⟩⟩ := h j e S hI
  cases ex with
  | normal =>
   obtain ⟨i, hi, hI'⟩ := h2
   obtain ⟨r, h3, h4⟩ := ih i hi _ _ hI'
   exact ⟨r, itL_next (by simp only [lpF, h1]) h3, h4⟩
  | exit m => exact ⟨_, itL_end (by simp only [lpF, h1]) (by simp), h2⟩
  | ret => exact ⟨_, itL_end (by simp only [lpF, h1]) (by simp), h2⟩
theorem EvO.nil {all : List Oper} {Q : Env → Store → Prop} (h : Q e S) : EvO x all [] e S Q := ⟨_, _, rfl, h⟩
theorem EvO.cons {all l : List Oper} {o : Oper} {a : A} {S' : Store} {e' : Env} {Q : Env → Store → Prop} (hw : wantedA all e o = some true) (hs : evStep x.T x.C x.md e S o = some (a, S')) (hp : putA x.n e o.dst a = some e') (h : EvO x all l e' S' Q) : EvO x all (o :: l) e S Q := by
 obtain ⟨⟨e₂, S₂, h1, h2⟩⟩ := h
 exact ⟨e₂, S₂, by simp only [evOps, hw, hs, hp, h1], h2⟩
theorem EvO.off {all l : List Oper} {o : Oper} {e' : Env} {Q : Env → Store → Prop} (hw : wantedA all e o = some false) (hp : putA x.n e o.dst (.v undef) = some e') (h : EvO x all l e' S Q) : EvO x all (o :: l) e S Q := by
 obtain ⟨⟨e₂, S₂, h1, h2⟩⟩ := h
 exact ⟨e₂, S₂, by simp only [evOps, hw, hp, h1], h2⟩
theorem Env.set_same {e : Env} {t : Nat} {a : A} (h : e t = a) : e.set t a = e := by
 funext i; simp only [Env.set]; split
 ·rename_i hi; subst hi; exact h.symm
 ·rfl
theorem EvO.case {all l : List Oper} {Q : Env → Store → Prop} (t : Nat) {c : Bool} (ht : e t = .v (.bool c)) (h : ∀ c', c = c' → EvO x all l (e.set t (.v (.bool c'))) S Q) : EvO x all l e S Q := by
 have := h c rfl; rwa [Env.set_same ht] at this
theorem EvO.call {all l : List Oper} {d : Option Nat} {f : Operand} {args : Array Operand} {ats : Array TypeId} {ty : TypeId} {pos : String} {af : Array Edge} {gd : Option (Nat × Bool)} {g : Nat} {caps vs : List A} {Q : Env → Store → Prop} {Q' : A → Store → Prop}
  (hw : wantedA all e ⟨d, .call ⟨.value f, args, ats⟩, ty, pos, af, gd⟩ = some true) (hf : rho e f = .fn g caps) (ha : args.toList.map (rho e) ++ caps = vs) (hc : Cal x.C x.md g vs S Q')
  (h : ∀ r S', Q' r S' → ∃ e', putA x.n e d r = some e' ∧ EvO x all l e' S' Q) : EvO x all (⟨d, .call ⟨.value f, args, ats⟩, ty, pos, af, gd⟩ :: l) e S Q := by
 obtain ⟨⟨r, S', h1, h2⟩⟩ := hc
 obtain ⟨e', h3, h4⟩ := h r S' h2
 exact .cons hw (by simp only [evStep, hf, ha, h1]) h3 h4
def endQ (T : Nat → Option TI) (rs : List ResultVar) (md : Md) (S : Store) (ids D : List Nat) (Q : A → Store → Prop) : Ex → Env → Store → Prop
 | .exit _, _, _ => False
 | _, e', S₁ => ∃ vs vs' S₂, resT T S₁ rs e' = some vs ∧ finA md S ids D S₁ vs = some (vs', S₂) ∧ Q (resA vs') S₂
structure Own (md md' : Md) (S : Store) (ids : List Nat) (fz : Bool) : Prop where
 w : ∀ k, md'.wr (S.length + k) = true
 w0 : md'.wr S.length = true
 old : ∀ id, id ∈ ids → md.wr id = true → md'.wr id = true
 m : md'.m = S.length
 fz : md'.fz = fz
def Kp (D : List Nat) (m : Nat) (S₁ S₂ : Store) : Prop := S₂ = S₁ ∨ D ≠ [] ∧ S₂ = clS m S₁
def endQN (T : Nat → Option TI) (rs : List ResultVar) (S : Store) (D : List Nat) (Q : A → Store → Prop) : Ex → Env → Store → Prop
 | .exit _, _, _ => False
 | _, e', S₁ => ∃ vs, resT T S₁ rs e' = some vs ∧ (D = [] ∨ vs.all noRoV = true) ∧ ∀ S₂, Kp D S.length S₁ S₂ → Q (resA vs) S₂
structure OwnN (md md' : Md) (S : Store) (D : List Nat) (fz : Bool) : Prop where
 w : ∀ k, md'.wr (S.length + k) = true
 w0 : md'.wr S.length = true
 all : D = [] → ∀ id, md.wr id = true → md'.wr id = true
 m : md'.m = S.length
 fz : md'.fz = fz
theorem Cal.fn {Fs : Nat → Option (Func × FI)} {X : Cl} {k g n : Nat} {fn : Func} {fi : FI} {body : Code} {rs : List ResultVar} {as as' : List A} {D ids : List Nat} {Q : A → Store → Prop} (hx : X md g as S = none) (hg : Fs g = some (fn, fi)) (hb : fn.body = some body) (hn : fn.ntmps = n) (hr : fn.results.toList = rs)
  (hd : dpArgs S fi.modes as = some (as', D)) (hnn : fi.nest = false) (hi : as'.flatMap idsV = ids) (hD : (D.all fun i => !ids.contains i) = true) (hl : as'.length ≤ n)
  (h : ∀ md', Own md md' S ids fi.fz → Ev ⟨T, evF T regA Fs X k, fi.K, md', n⟩ body (envOf as') S (endQ T rs md S ids D Q)) :
  Cal (evF T regA Fs X (k + 1)) md g as S Q := by
 subst hi hn hr
 have hmu : fi.mu S as' D = as'.flatMap idsV := by simp [FI.mu, hnn]
 have hfn : ∀ S₁ vs, fi.fin md S (as'.flatMap idsV) D S₁ vs = finA md S (as'.flatMap idsV) D S₁ vs := fun S₁ vs => by simp [FI.fin, hnn]
 obtain ⟨⟨ex, e', S₁, h1, h2⟩⟩ := h ⟨fun id => decide (S.length ≤ id) || ((as'.flatMap idsV).contains id && md.wr id), S.length, fi.fz⟩ ⟨fun k => by simp, by simp, fun id h1 h2 => by simp [h1, h2], rfl, rfl⟩
 have main : ∀ vs vs' S₂, resT T S₁ fn.results.toList e' = some vs → finA md S (as'.flatMap idsV) D S₁ vs = some (vs', S₂) → ex = .normal ∨ ex = .ret → evF T regA Fs X (k + 1) md g as S = some (resA vs', S₂) := fun vs vs' S₂ k1 k2 k3 => by
  simp only at h1
  have hb' : fn.body = some body := hb
  simp only [evF, hx, hg, hd, hb', hmu, hfn]
  rw [if_pos ⟨hD, hl⟩]
  simp only [h1]
  rcases k3 with rfl | rfl <;> simp only [k1, k2]
 cases ex with
 | exit m => exact h2.elim
 | normal => obtain ⟨vs, vs', S₂, k1, k2, k3⟩ := h2; exact ⟨_, _, main vs vs' S₂ k1 k2 (.inl rfl), k3⟩
 | ret => obtain ⟨vs, vs', S₂, k1, k2, k3⟩ := h2; exact ⟨_, _, main vs vs' S₂ k1 k2 (.inr rfl), k3⟩
theorem Cal.fnN {Fs : Nat → Option (Func × FI)} {X : Cl} {k g n : Nat} {fn : Func} {fi : FI} {body : Code} {rs : List ResultVar} {as as' : List A} {D : List Nat} {Q : A → Store → Prop} (hx : X md g as S = none) (hg : Fs g = some (fn, fi)) (hb : fn.body = some body) (hn : fn.ntmps = n) (hr : fn.results.toList = rs)
  (hd : dpArgs S fi.modes as = some (as', D)) (hnn : fi.nest = true) (hi : as'.flatMap idsV = [] ∨ D = []) (hl : as'.length ≤ n)
  (h : ∀ md', OwnN md md' S D fi.fz → Ev ⟨T, evF T regA Fs X k, fi.K, md', n⟩ body (envOf as') S (endQN T rs S D Q)) :
  Cal (evF T regA Fs X (k + 1)) md g as S Q := by
 subst hn hr
 have hfn : ∀ S₁ vs, fi.fin md S (fi.mu S as' D) D S₁ vs = finK md S (fi.mu S as' D) D S₁ vs := fun S₁ vs => by simp [FI.fin, hnn]
 have hD : (D.all fun i => !(fi.mu S as' D).contains i) = true := by
  rcases hi with hi | hi
  ·cases D with
   | nil => rfl
   | cons a l => simp [FI.mu, hi]
  ·subst hi; rfl
 have hmu : D ≠ [] → fi.mu S as' D = [] := fun hne => by
  rcases hi with hi | hi
  ·simp [FI.mu, hi, hne]
  ·exact absurd hi hne
 obtain ⟨⟨ex, e', S₁, h1, h2⟩⟩ := h ⟨fun id => decide (S.length ≤ id) || ((fi.mu S as' D).contains id && md.wr id), S.length, fi.fz⟩ ⟨fun k => by simp, by simp, fun hd id h2 => by
  subst hd
  simp only [FI.mu, hnn, List.isEmpty_nil, and_self, if_true, h2, Bool.and_true, Bool.or_eq_true, decide_eq_true_eq, List.contains_iff_mem, List.mem_range]
  omega, rfl, rfl⟩
 have main : ∀ vs, resT T S₁ fn.results.toList e' = some vs → (D = [] ∨ vs.all noRoV = true) → ex = .normal ∨ ex = .ret → ∃ S₂, Kp D S.length S₁ S₂ ∧ evF T regA Fs X (k + 1) md g as S = some (resA vs, S₂) := fun vs k1 k2 k3 => by
  simp only at h1
  have hb' : fn.body = some body := hb
  have : ∃ S₂, Kp D S.length S₁ S₂ ∧ finK md S (fi.mu S as' D) D S₁ vs = some (vs, S₂) := by
   by_cases hD0 : D = []
   ·subst hD0; exact ⟨S₁, .inl rfl, rfl⟩
   ·refine ⟨_, .inr ⟨hD0, rfl⟩, ?_⟩
    rcases k2 with k2 | k2
    ·exact absurd k2 hD0
    ·unfold finK
     rw [if_neg (by simpa using hD0), if_pos ⟨k2, by rw [hmu hD0]; rfl⟩]
  obtain ⟨S₂, p1, p2⟩ := this
  refine ⟨S₂, p1, ?_⟩
  simp only [evF, hx, hg, hd, hb', hfn]
  rw [if_pos ⟨hD, hl⟩]
  simp only [h1]
  rcases k3 with rfl | rfl <;> simp only [k1, p2]
 cases ex with
 | exit m => exact h2.elim
 | normal => obtain ⟨vs, k1, k2, k3⟩ := h2; obtain ⟨S₂, p1, p2⟩ := main vs k1 k2 (.inl rfl); exact ⟨_, _, p2, k3 _ p1⟩
 | ret => obtain ⟨vs, k1, k2, k3⟩ := h2; obtain ⟨S₂, p1, p2⟩ := main vs k1 k2 (.inr rfl); exact ⟨_, _, p2, k3 _ p1⟩
theorem Kp.nil {m : Nat} {S₁ S₂ : Store} (h : Kp [] m S₁ S₂) : S₂ = S₁ := h.elim _root_.id fun h => absurd rfl h.1
theorem Kp.get {D : List Nat} {m id : Nat} {S₁ S₂ : Store} {o : Ob} (h : Kp D m S₁ S₂) (ho : S₁[id]? = some o) (hr : rowsAll noRoC o.rows = true) : S₂[id]? = some o := by
 rcases h with rfl | ⟨_, rfl⟩
 ·exact ho
 ·exact clS_ok ho hr
theorem Kp.old {D : List Nat} {m id : Nat} {S₁ S₂ : Store} (h : Kp D m S₁ S₂) (hi : id < m) : S₂[id]? = S₁[id]? := by
 rcases h with rfl | ⟨_, rfl⟩
 ·rfl
 ·cases e : S₁[id]? with
  | none => rw [List.getElem?_eq_none_iff] at e ⊢; rw [clS_len]; exact e
  | some o => rw [clS_get e, if_pos hi]
theorem Kp.len {D : List Nat} {m : Nat} {S₁ S₂ : Store} (h : Kp D m S₁ S₂) : S₂.length = S₁.length := by
 rcases h with rfl | ⟨_, rfl⟩
 ·rfl
 ·exact clS_len _ _
end
section
variable (S l : Store)
theorem get_len (k : Nat) : (S ++ l)[S.length + k]? = l[k]? := by rw [List.getElem?_append_right (by omega)]; congr 1; omega
theorem get_len0 : (S ++ l)[S.length]? = l[0]? := get_len S l 0
theorem set_len (k : Nat) (o : Ob) : (S ++ l).set (S.length + k) o = S ++ l.set k o := by simp [List.set_append]
theorem set_len0 (o : Ob) : (S ++ l).set S.length o = S ++ l.set 0 o := set_len S l 0 o
theorem take_len : (S ++ l).take S.length = S := List.take_left
theorem app_app (a b : Store) : (S ++ a) ++ b = S ++ (a ++ b) := List.append_assoc S a b
theorem len_app : (S ++ l).length = S.length + l.length := List.length_append
end
theorem set_at (e : Env) (d t : Nat) (a : A) : e.set d a t = if t = d then a else e t := rfl
theorem mkE_at (k : Nat) (a : A) (l : List (Nat × A)) (t : Nat) : mkE ((k, a) :: l) t = if t = k then a else mkE l t := rfl
theorem envOf_at0 (a : A) (l : List A) : envOf (a :: l) 0 = a := rfl
theorem envOf_at1 (a b : A) (l : List A) : envOf (a :: b :: l) 1 = b := rfl
theorem envOf_at2 (a b c : A) (l : List A) : envOf (a :: b :: c :: l) 2 = c := rfl
theorem envOf_at3 (a b c d : A) (l : List A) : envOf (a :: b :: c :: d :: l) 3 = d := rfl
section
variable {x : Cx} {e : Env} {S S₀ : Store} {Q : Ex → Env → Store → Prop} {b : Code} {m id : Nat} {K : Option (List Nat)} {I : Env → Store → Prop}
theorem zA (h : Ev x b e S Q) : thenQ x b Q .normal e S := h
theorem zC (h : Q (.exit m) e S) : thenQ x b Q (.exit m) e S := h
theorem zB (h : Q .ret e S) : thenQ x b Q .ret e S := h
theorem zD (h : Q .normal e S) : blockQ id Q .normal e S := h
theorem zE (h : Q .ret e S) : blockQ id Q .ret e S := h
theorem zF (h : Q .normal e S) : blockQ id Q (.exit id) e S := by simpa [blockQ] using h
theorem zG (hn : (m == id) = false) (h : Q (.exit m) e S) : blockQ id Q (.exit m) e S := by simp only [blockQ]; rw [if_neg (by simpa using hn)]; exact h
theorem zH (h : Q (.exit m) e S) : roundQ K S₀ I Q (.exit m) e S := h
theorem zI (h : Q .ret e S) : roundQ K S₀ I Q .ret e S := h
theorem endQ_r {T : Nat → Option TI} {rs : List ResultVar} {md : Md} {ids D : List Nat} {Q : A → Store → Prop} {vs vs' : List A} {S₂ : Store} (h1 : resT T S rs e = some vs) (h2 : finA md S₀ ids D S vs = some (vs', S₂)) (h : Q (resA vs') S₂) : endQ T rs md S₀ ids D Q .ret e S := ⟨_, _, _, h1, h2, h⟩
theorem endN_rT {T : Nat → Option TI} {rs : List ResultVar} {D : List Nat} {Q : A → Store → Prop} {vs : List A} (h1 : resT T S rs e = some vs) (h2 : (D = [] ∨ vs.all noRoV = true) ∧ ∀ S₂, Kp D S₀.length S S₂ → Q (resA vs) S₂) : endQN T rs S₀ D Q .ret e S := ⟨_, h1, h2⟩
theorem endN_nT {T : Nat → Option TI} {rs : List ResultVar} {D : List Nat} {Q : A → Store → Prop} {vs : List A} (h1 : resT T S rs e = some vs) (h2 : (D = [] ∨ vs.all noRoV = true) ∧ ∀ S₂, Kp D S₀.length S S₂ → Q (resA vs) S₂) : endQN T rs S₀ D Q .normal e S := ⟨_, h1, h2⟩
theorem lpG_keep {S₁ : Store} {i : Nat} {o o₀ : Ob} (h0 : S[i]? = some o₀) (h1 : S₁[i]? = some o) (h2 : rowsAll (okC S.length) o₀.rows = true) (h3 : rowsAll (okC S.length) o.rows = false) : lpG K S e S₁ = S₁ := by
 cases K with
 | none => rfl
 | some ks =>
  simp only [lpG]
  rw [if_neg]
  rintro ⟨_, hg⟩
  rcases hg i o (List.getElem?_eq_some_iff.1 h0).1 h1 with q | q
  ·rw [h0] at q; injection q with q; subst q; rw [h2] at h3; cases h3
  ·rw [q] at h3; cases h3
theorem lpG_same : lpG K S e S = S := by
 cases K with
 | none => rfl
 | some ks => simp only [lpG]; split <;> simp
theorem lpG_of {ks : List Nat} {S₁ : Store} (h1 : (ks.all fun t => lowV S.length (e t)) = true) (h2 : GcOk S S₁) : lpG (some ks) S e S₁ = S₁.take S.length := by
 simp only [lpG]; rw [if_pos ⟨h1, h2⟩]
theorem gc_app {a b g : Store} (hl : a.length = b.length) (h : ∀ (i : Nat) (o : Ob), b[i]? = some o → a[i]? = some o ∨ rowsAll (okC (S ++ a).length) o.rows = true) : GcOk (S ++ a) (S ++ (b ++ g)) := fun i o hi ho => by
 rcases Nat.lt_or_ge i S.length with h1 | h1
 ·rw [List.getElem?_append_left h1] at ho ⊢; exact .inl ho
 ·rw [List.getElem?_append_right h1] at ho ⊢
  have h2 : i - S.length < b.length := by simp at hi; omega
  rw [List.getElem?_append_left h2] at ho
  exact h _ _ ho
theorem gc_grow {g : Store} : GcOk S (S ++ g) := fun i o hi ho => .inl (by rwa [List.getElem?_append_left hi] at ho)
theorem lpG_grow {ks : List Nat} {g : Store} (h1 : (ks.all fun t => lowV S.length (e t)) = true) : lpG (some ks) S e (S ++ g) = S := by rw [lpG_of h1 gc_grow]; exact take_len S g
theorem lpG_app {ks : List Nat} {a b g : Store} (hl : a.length = b.length) (h1 : (ks.all fun t => lowV (S ++ a).length (e t)) = true) (h : ∀ (i : Nat) (o : Ob), b[i]? = some o → a[i]? = some o ∨ rowsAll (okC (S ++ a).length) o.rows = true) : lpG (some ks) (S ++ a) e (S ++ (b ++ g)) = S ++ b := by
 rw [lpG_of h1 (gc_app hl h)]
 rw [← List.append_assoc, show (S ++ a).length = (S ++ b).length by simp [hl]]
 exact take_len _ _
end
section
variable {x : Cx} {e : Env} {S : Store} {Z : Hs}
theorem EvT.nil {all : List Oper} {Q : List Tr → Env → Store → Prop} (h : Q [] e S) : EvT x Z all [] e S Q := ⟨_, _, _, rfl, h⟩
theorem EvT.consR {all l : List Oper} {o : Oper} {a : A} {S' : Store} {e' : Env} {Q : List Tr → Env → Store → Prop} (hw : wantedA all e o = some true) (hs : evStepR x.T x.C x.md Z e S o = some (a, S')) (hp : putA x.n e o.dst a = some e')
  (h : EvT x Z all l e' S' fun tr => Q (⟨e, S, S', a, true⟩ :: tr)) : EvT x Z all (o :: l) e S Q := by
 obtain ⟨tr, e₂, S₂, h1, h2⟩ := h
 exact ⟨_, e₂, S₂, by simp only [evTr, hw, hs, hp, h1], h2⟩
theorem EvT.cons {all l : List Oper} {o : Oper} {a : A} {S' : Store} {e' : Env} {Q : List Tr → Env → Store → Prop} (hw : wantedA all e o = some true) (hz : spc Z o = false) (hs : evStep x.T x.C x.md e S o = some (a, S')) (hp : putA x.n e o.dst a = some e')
  (h : EvT x Z all l e' S' fun tr => Q (⟨e, S, S', a, true⟩ :: tr)) : EvT x Z all (o :: l) e S Q := .consR hw ((evStepR_of hz).trans hs) hp h
theorem EvT.off {all l : List Oper} {o : Oper} {e' : Env} {Q : List Tr → Env → Store → Prop} (hw : wantedA all e o = some false) (hp : putA x.n e o.dst (.v undef) = some e') (h : EvT x Z all l e' S fun tr => Q (⟨e, S, S, .v undef, false⟩ :: tr)) : EvT x Z all (o :: l) e S Q := by
 obtain ⟨tr, e₂, S₂, h1, h2⟩ := h
 exact ⟨_, e₂, S₂, by simp only [evTr, hw, hp, h1], h2⟩
theorem EvT.call {all l : List Oper} {d : Option Nat} {f : Operand} {args : Array Operand} {ats : Array TypeId} {ty : TypeId} {pos : String} {af : Array Edge} {gd : Option (Nat × Bool)} {g : Nat} {caps vs : List A} {Q : List Tr → Env → Store → Prop} {Q' : A → Store → Prop}
  (hw : wantedA all e ⟨d, .call ⟨.value f, args, ats⟩, ty, pos, af, gd⟩ = some true) (hf : rho e f = .fn g caps) (ha : args.toList.map (rho e) ++ caps = vs) (hc : Cal x.C x.md g vs S Q')
  (h : ∀ r S', Q' r S' → ∃ e', putA x.n e d r = some e' ∧ EvT x Z all l e' S' fun tr => Q (⟨e, S, S', r, true⟩ :: tr)) : EvT x Z all (⟨d, .call ⟨.value f, args, ats⟩, ty, pos, af, gd⟩ :: l) e S Q := by
 obtain ⟨r, S', h1, h2⟩ := hc
 obtain ⟨e', h3, h4⟩ := h r S' h2
 exact .cons hw (by simp [spc, isLit, isAl]) (by simp only [evStep, hf, ha, h1]) h3 h4
structure Drawn (x : Cx) (Z : Hs) (ops : List Oper) (tr : List Tr) : Prop where
 quiet : quietT Z ops tr
 stab : ∀ p ∈ hints Z ops, stab x.T x.C x.md Z ops tr p
 al : ∀ id, alOf Z = some id → AlOk x.T x.C x.md Z id ops tr
def quietL (Z : Hs) : List Oper → List Tr → Prop
 | o :: ops, t :: tr => (cls Z o = 2 ∨ t.S' = t.S) ∧ quietL Z ops tr
 | _, _ => True
theorem quietL_ok : ∀ {ops : List Oper} {tr : List Tr}, quietL Z ops tr → quietT Z ops tr
 | [], tr, _ => fun i t o _ ho => by simp at ho
 | o :: ops, [], _ => fun i t o ht _ => by simp at ht
 | o :: ops, t :: tr, h => fun i t' o' ht ho hc => by
  cases i with
  | zero => simp at ht ho; subst ht ho; exact h.1.resolve_left hc
  | succ i => simp at ht ho; exact quietL_ok h.2 i t' o' ht ho hc
theorem drawn_mk {ops : List Oper} {tr : List Tr} {hs : List (Nat × Nat)} (hq : quietL Z ops tr) (hh : hints Z ops = hs) (h : ∀ p ∈ hs, stab x.T x.C x.md Z ops tr p) (hal : alOf Z = none := by rfl) : Drawn x Z ops tr := ⟨quietL_ok hq, hh ▸ h, fun id hid => by rw [hal] at hid; cases hid⟩
theorem Ev.drawn {id : Nat} {ops : Array Oper} {Q : Ex → Env → Store → Prop} (hd : drawOk none ops.toList = true) (h : EvT x none ops.toList ops.toList e S fun tr e S => Drawn x none ops.toList tr ∧ regQ (x.K (id + 1000)) Q e S) : Ev x (.region id ops true) e S Q := by
 obtain ⟨tr, e', S', h1, h2, h3⟩ := h
 have hz : holesOf ops.toList S.length = none := by unfold holesOf; rw [if_pos hd]
 have hr : regA x.T x.C x.md x.n ops e S = some (e', S') := by
  unfold regA; rw [hz]; simp only [regZ, layOf, List.append_nil, h1]; rw [if_pos ⟨hd, h2.quiet, h2.stab, h2.al⟩]
 exact ⟨_, lpE (x.K (id + 1000)) e', S', by simp only [evC, if_true, hr], h3⟩
end
section
variable {x : Cx} {e : Env} {S : Store} {Q : Ex → Env → Store → Prop}
theorem EvO.guard {all l : List Oper} {o : Oper} {g : Nat} {b c : Bool} {t : Nat} {Q : Env → Store → Prop} (hg : o.guard = some (g, b)) (ht : (all[g]?).bind (·.dst) = some t) (hc : e t = .v (.bool c)) (h : ∀ c', c = c' → EvO x all (o :: l) (e.set t (.v (.bool c'))) S Q) : EvO x all (o :: l) e S Q := .case t hc h
theorem EvT.guard {Z : Hs} {all l : List Oper} {o : Oper} {g : Nat} {b c : Bool} {t : Nat} {Q : List Tr → Env → Store → Prop} (hg : o.guard = some (g, b)) (ht : (all[g]?).bind (·.dst) = some t) (hc : e t = .v (.bool c)) (h : ∀ c', c = c' → EvT x Z all (o :: l) (e.set t (.v (.bool c'))) S Q) : EvT x Z all (o :: l) e S Q := by
 have := h c rfl; rwa [Env.set_same hc] at this
theorem stab_mk {T : Nat → Option TI} {C : Cl} {md : Md} {Z : Hs} {ops : List Oper} {tr : List Tr} {i j : Nat} {r d : Tr} {o : Oper} (h1 : tr[i]? = some r) (h2 : tr[j]? = some d) (h3 : ops[i]? = some o) (hz : spc Z o = false) (h4 : evStep T C md r.e d.S o = some (r.a, d.S)) (h5 : evStep T C md r.e d.S' o = some (r.a, d.S')) : stab T C md Z ops tr (i, j) := by
 simp only [stab, h1, h2, h3]; exact fun _ => ⟨(evStepR_of hz).trans h4, (evStepR_of hz).trans h5⟩
theorem stab_off {T : Nat → Option TI} {C : Cl} {md : Md} {Z : Hs} {ops : List Oper} {tr : List Tr} {i j : Nat} {r : Tr} (h1 : tr[i]? = some r) (h2 : r.on = false) : stab T C md Z ops tr (i, j) := by
 simp only [stab, h1]
 cases tr[j]? with
 | none => trivial
 | some d => cases ops[i]? with
  | none => trivial
  | some o => exact fun h => by rw [h2] at h; cases h
end
section
variable {T : Nat → Option TI} {C : Cl} {md : Md} {e : Env} {S : Store} {d : Option Nat} {ty : TypeId} {pos : String} {af : Array Edge} {gd : Option (Nat × Bool)}
theorem ev_move {x : Operand} : evStep T C md e S ⟨d, .move x, ty, pos, af, gd⟩ = some (rho e x, S) := rfl
theorem ev_asgT {t : Nat} : evStep T C md e S ⟨d, .assign (.tmp t), ty, pos, af, gd⟩ = some (e t, S) := rfl
theorem ev_asgF {f : Nat} : evStep T C md e S ⟨d, .assign (.func f), ty, pos, af, gd⟩ = some (.fn f [], S) := rfl
theorem ev_asgI {k : IntKind} {n : Int} : evStep T C md e S ⟨d, .assign (.const (.int k n)), ty, pos, af, gd⟩ = some (.v (.int k n), S) := rfl
theorem ev_asgB {b : Bool} : evStep T C md e S ⟨d, .assign (.const (.bool b)), ty, pos, af, gd⟩ = some (.v (.bool b), S) := rfl
theorem ev_asgS {s : ByteArray} : evStep T C md e S ⟨d, .assign (.const (.string s)), ty, pos, af, gd⟩ = some (.v (.string s), S) := rfl
theorem ev_asgN : evStep T C md e S ⟨d, .assign (.const (.slice none 0 0)), ty, pos, af, gd⟩ = (match T ty with
  | some ti => match ti.kind with
   | .slice el => match T el with
    | some te => some (.sl S.length 0 0 0, S ++ [⟨te.sz, [], 0, false⟩])
    | none => none
   | _ => none
  | none => none) := rfl
theorem ev_pick {c a b : Operand} : evStep T C md e S ⟨d, .pick c a b, ty, pos, af, gd⟩ = (match rho e c with
  | .v (.bool t) => some (if t then rho e a else rho e b, S)
  | _ => none) := rfl
theorem ev_alloc {t : Nat} : evStep T C md e S ⟨d, .alloc t, ty, pos, af, gd⟩ = allocA T S t := rfl
theorem ev_box {t : Nat} {x : Operand} : evStep T C md e S ⟨d, .box t x, ty, pos, af, gd⟩ = boxA S (rho e x) := rfl
theorem ev_build {t : Nat} {ps : Array (Nat × Operand)} : evStep T C md e S ⟨d, .build t ps, ty, pos, af, gd⟩ = withS S (bldA T t (ps.toList.map fun (i, x) => (i, rho e x))) := rfl
theorem ev_buildSlice {t n : Nat} {ps : Array (Nat × Operand)} : evStep T C md e S ⟨d, .buildSlice t n ps, ty, pos, af, gd⟩ = (if md.fz then match frzPs md (ps.toList.map fun (i, x) => (i, rho e x)) S with
   | some (l, S') => bslA T S' t n l
   | none => none
  else bslA T S t n (ps.toList.map fun (i, x) => (i, rho e x))) := rfl
theorem ev_load {t : Nat} {a : Operand} : evStep T C md e S ⟨d, .load t a, ty, pos, af, gd⟩ = (match T t with
  | some ti => match rdA S ti.sz (rho e a) with
   | some cs => withS S (mkA ti.agg cs)
   | none => none
  | none => none) := rfl
theorem ev_store {t : Nat} {a x : Operand} : evStep T C md e S ⟨d, .store t a x, ty, pos, af, gd⟩ = strA T md S t (rho e a) (rho e x) := rfl
theorem ev_nilCheck {x : Operand} : evStep T C md e S ⟨d, .nilCheck x, ty, pos, af, gd⟩ = (match rho e x with
  | .pt id row off ver => some (.pt id row off ver, S)
  | .rp cs => some (.rp cs, S)
  | _ => none) := rfl
theorem ev_binOp {op : BinOp} {t t' : Nat} {x y : Operand} : evStep T C md e S ⟨d, .binOp op t x y t', ty, pos, af, gd⟩ = withS S (binA T t op (rho e x) (rho e y)) := rfl
theorem ev_unOp {op : UnOp} {t : Nat} {x : Operand} : evStep T C md e S ⟨d, .unOp op t x, ty, pos, af, gd⟩ = withS S (unA op (rho e x)) := rfl
theorem ev_convert {s t : Nat} {x : Operand} : evStep T C md e S ⟨d, .convert s t x, ty, pos, af, gd⟩ = cvtA T S s t (rho e x) := rfl
theorem ev_makeFunc {f : Nat} {fi ca : Array Operand} : evStep T C md e S ⟨d, .makeFunc (.func f) fi ca, ty, pos, af, gd⟩ = (if fi.size = 0 then some (.fn f (ca.toList.map (rho e)), S) else none) := rfl
theorem ev_makeSlice {t : Nat} {l c : Operand} : evStep T C md e S ⟨d, .makeSlice t l c, ty, pos, af, gd⟩ = mkslA T S t (rho e l) (rho e c) := rfl
theorem ev_slice {t : Nat} {x : Operand} {lo hi : Option Operand} : evStep T C md e S ⟨d, .slice t x lo hi none, ty, pos, af, gd⟩ = (match rho e x with
   | .pt .. => none
   | a => withS S (slcA T S t a (lo.map (rho e)) (hi.map (rho e)))) := rfl
theorem ev_slice3 {t : Nat} {x m : Operand} {lo hi : Option Operand} : evStep T C md e S ⟨d, .slice t x lo hi (some m), ty, pos, af, gd⟩ = sl3A T S t (rho e x) (lo.map (rho e)) (hi.map (rho e)) (rho e m) := rfl
theorem ev_fieldAddr {t f : Nat} {x : Operand} : evStep T C md e S ⟨d, .fieldAddr t x f, ty, pos, af, gd⟩ = withS S (fadA T t (rho e x) f) := rfl
theorem ev_field {t f : Nat} {x : Operand} : evStep T C md e S ⟨d, .field t x f, ty, pos, af, gd⟩ = withS S (prtA T t (rho e x) f) := rfl
theorem ev_indexAddr {t : Nat} {x i : Operand} : evStep T C md e S ⟨d, .indexAddr t x i, ty, pos, af, gd⟩ = (match rho e i with
  | .v (.int _ j) => withS S (indA T S t (rho e x) j)
  | _ => none) := rfl
theorem ev_index {t : Nat} {x i : Operand} : evStep T C md e S ⟨d, .index t x i, ty, pos, af, gd⟩ = (match rho e i with
  | .v (.int _ j) => withS S (idxA T t (rho e x) j)
  | _ => none) := rfl
theorem ev_extract {i : Nat} {x : Operand} : evStep T C md e S ⟨d, .extract x i, ty, pos, af, gd⟩ = withS S (extA (rho e x) i) := rfl
theorem ev_len {x : Operand} {t : TypeId} : evStep T C md e S ⟨d, .call ⟨.builtin .len, #[x], #[t]⟩, ty, pos, af, gd⟩ = (match lenA T t (rho e x) with
    | some n => some (.v (.int .i64 n), S)
    | none => none) := rfl
theorem ev_clear {x : Operand} {t : TypeId} : evStep T C md e S ⟨d, .call ⟨.builtin .clear, #[x], #[t]⟩, ty, pos, af, gd⟩ = clrA T S md.wr t (rho e x) := rfl
theorem ev_append {x y : Operand} {t u : TypeId} : evStep T C md e S ⟨d, .call ⟨.builtin .append, #[x, y], #[t, u]⟩, ty, pos, af, gd⟩ = appT T md S t u (rho e x) (rho e y) := rfl
theorem ev_copy {x y : Operand} {t u : TypeId} : evStep T C md e S ⟨d, .call ⟨.builtin .copy, #[x, y], #[t, u]⟩, ty, pos, af, gd⟩ = copyA T S md.wr t (rho e x) (rho e y) := rfl
theorem ev_max {x y : Operand} {t u : TypeId} : evStep T C md e S ⟨d, .call ⟨.builtin .max, #[x, y], #[t, u]⟩, ty, pos, af, gd⟩ = withS S (mmA true (rho e x) (rho e y)) := rfl
theorem ev_min {x y : Operand} {t u : TypeId} : evStep T C md e S ⟨d, .call ⟨.builtin .min, #[x, y], #[t, u]⟩, ty, pos, af, gd⟩ = withS S (mmA false (rho e x) (rho e y)) := rfl
theorem rho_t {t : Nat} : rho e (.tmp t) = e t := rfl
theorem rho_c {v : Value} : rho e (.const v) = .v v := rfl
theorem rho_f {f : Nat} : rho e (.func f) = .fn f [] := rfl
end
theorem lpG_len {K : Option (List Nat)} {e : Env} {S S₁ : Store} (h : S₁.length = S.length) : lpG K S e S₁ = S₁ := by
 cases K with
 | none => rfl
 | some ks => simp only [lpG]; split <;> simp [← h]
def fillR {α : Type} (f : α → List A) (z : List A) (l : List α) (i : Nat) : List (List A) := (l.take i).map f ++ List.replicate (l.length - i) z
section
variable {α : Type} (f : α → List A) (z : List A) (l : List α) (i : Nat)
end
theorem lt_len (S : Store) (k : Nat) : (S.length + k < S.length) = False := by simp
theorem lt_len0 (S : Store) : (S.length < S.length) = False := by simp
theorem take_map_len {α β : Type} (f : α → β) (l : List α) : List.take l.length (List.map f l) = List.map f l := by rw [List.take_of_length_le (by simp)]
theorem flat_map {α : Type} (f : α → List A) (h : ∀ x, (f x).all flatC = true) (l : List α) : flatRowsB (List.map f l) = true := by
 simp only [flatRowsB, List.all_map, List.all_eq_true, Function.comp]
 exact fun x _ => by have := h x; simpa only [List.all_eq_true] using this
theorem len_map {α β : Type} (f : α → β) (l : List α) : (List.map f l).length = l.length := by simp
theorem beq_len1 (S : Store) (k : Nat) : (S.length == S.length + (k + 1)) = false := by simp
theorem beq_len2 (S : Store) (k : Nat) : (S.length + (k + 1) == S.length) = false := by simp
theorem chunks_zero (sz : Nat) (cs : List A) : chunks sz 0 cs = [] := rfl
theorem chunks_succ (sz n : Nat) (cs : List A) : chunks sz (n + 1) cs = cs.take sz :: chunks sz n (cs.drop sz) := by
 simp only [chunks, List.range_succ_eq_map, List.map_cons, List.map_map, Nat.zero_mul, List.drop_zero]
 congr 1
 apply List.map_congr_left
 intro i _
 simp only [Function.comp, List.drop_drop, Nat.succ_eq_add_one, Nat.add_mul, Nat.one_mul]
 congr 2; omega
theorem rowsAll_map {α : Type} (p : A → Bool) (f : α → List A) (h : ∀ x, (f x).all p = true) (l : List α) : rowsAll p (List.map f l) = true := by
 simp only [rowsAll, List.all_map, List.all_eq_true, Function.comp]
 exact fun x _ => by have := h x; simpa only [List.all_eq_true] using this
theorem take_set (S : Store) (id : Nat) (o : Ob) : List.take S.length (S.set id o) = S.set id o := by rw [List.take_of_length_le (by simp)]
section
variable {S l : Store} {n : Nat}
theorem get_c (h : S.length = n) (k : Nat) : (S ++ l)[n + k]? = l[k]? := h ▸ get_len S l k
theorem get_c0 (h : S.length = n) : (S ++ l)[n]? = l[0]? := h ▸ get_len0 S l
theorem set_c (h : S.length = n) (k : Nat) (o : Ob) : (S ++ l).set (n + k) o = S ++ l.set k o := h ▸ set_len S l k o
theorem set_c0 (h : S.length = n) (o : Ob) : (S ++ l).set n o = S ++ l.set 0 o := h ▸ set_len0 S l o
theorem take_c (h : S.length = n) : (S ++ l).take n = S := h ▸ take_len S l
theorem set_app {i : Nat} (h : i < S.length) (o : Ob) : (S ++ l).set i o = S.set i o ++ l := by rw [List.set_append, if_pos h]
theorem get_app {i : Nat} (h : i < S.length) : (S ++ l)[i]? = S[i]? := List.getElem?_append_left h
end
end Go.Proofs.YtomklniddinhnaaE
