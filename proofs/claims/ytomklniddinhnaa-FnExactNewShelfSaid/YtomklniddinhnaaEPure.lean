/- Part of the proof: an evaluator (YtomklniddinhnaaEPure). -/
import Derived.Test.YtomklniddinhnaaEOps
set_option linter.unusedVariables false
set_option linter.unusedSectionVars false
set_option linter.unusedSimpArgs false
namespace Go.Proofs.YtomklniddinhnaaE
open Go
section
variable {P : Program} {T : Nat → Option TI} {W : Fm} {S : Store} {σ : Place} {I F : Nat → Prop} {w : World}
theorem getD_drop {α : Type} (l : List α) (k i : Nat) (d : α) : (l.drop k).getD i d = l.getD (k + i) d := by
  simp only [List.getD_eq_getElem?_getD, List.getElem?_drop]
theorem flatRows_cut {rows : List (List A)} (h : flatRows rows) (a b : Nat) : flatRows ((rows.take a).drop b) := fun i j => by
  rw [getD_drop]
  by_cases e : b + i < a
  · have : (rows.take a).getD (b + i) [] = rows.getD (b + i) [] := by simp only [List.getD_eq_getElem?_getD, List.getElem?_take]; rw [if_pos e]
    rw [this]; exact h _ _
  · have : (rows.take a).getD (b + i) [] = [] := by simp only [List.getD_eq_getElem?_getD, List.getElem?_take]; rw [if_neg e]; rfl
    rw [this]; rfl
theorem relv {x y : Value} (r : Rel S σ I w.heap (.v x) y) : y = x := by cases r; rfl
theorem isBool_ok (hT : TOk P T) {t : Nat} (h : isBool T t = true) : P.underlying t = some .bool := by
  unfold isBool at h
  split at h
  · rename_i ti ht
    obtain ⟨i, d, z, k⟩ := tiOf_ok (hT t ti ht)
    have := k.kind; rw [eq_of_beq h] at this
    have hd : d = .bool := by cases d <;> simp [tkOf] at this; rfl
    rw [← hd]; exact k.und
  · cases h
theorem binI_ok {op : BinOp} {t : Nat} {k : IntKind} {x y : Int} {r : Value} (h : binI op k x y = some r) : (binOp op t (.int k x) (.int k y)).run P w = .ok r w := by
  cases op <;> simp only [binI] at h <;> first
    | cases h; done
    | (injection h with h; subst h; simp [binOp_add, binOp_sub, binOp_mul, binOp_and, binOp_or, binOp_xor, binOp_andNot, binOp_eql, binOp_neq, binOp_lss, binOp_leq, binOp_gtr, binOp_geq, Op.intArith, intBits_and, intBits_or, intBits_xor, intBits_andNot]; done)
    | (split at h
       · cases h
       · rename_i hy; injection h with h; subst h; simp [binOp_quo, binOp_rem, Op.intDiv, hy])
theorem binS_ok {op : BinOp} {t : Nat} {x y : ByteArray} {r : Value} (h : binS op x y = some r) : (binOp op t (.string x) (.string y)).run P w = .ok r w := by
  have e : ∀ op, op ≠ .shl → op ≠ .shr → binOp op t (.string x) (.string y) = Op.stringOp op x y := fun op h1 h2 => by cases op <;> first | rfl | simp at h1 h2
  cases op <;> simp only [binS] at h <;> first
    | cases h; done
    | (injection h with h; subst h; rw [e _ (by simp) (by simp)]; simp [Op.stringOp, strLe]; done)
    | (split at h; (rename_i hy; injection h with h; subst h; rw [e _ (by simp) (by simp)]; have : ¬ (((x.size + y.size : Nat) : Int) > IntKind.i64.max) := (by rw [show IntKind.i64.max = 9223372036854775807 by decide]; omega); simp only [Op.stringOp, this, if_false, Sem.run_pure]); (cases h))
theorem binA_ok (hT : TOk P T) {t : Nat} {op : BinOp} {a b r : A} {X Y : Operand} {x y : Value} (h : binA T t op a b = some r) (ra : Rel S σ I w.heap a x) (rb : Rel S σ I w.heap b y) :
    ∃ z, (do eqGuard op t X Y x y; binOp op t x y : Sem Value).run P w = .ok z w ∧ Rel S σ I w.heap r z := by
  unfold binA at h
  split at h
  · rename_i k p k' q
    have := relv ra; subst this; have := relv rb; subst this
    simp only [Sem.run_bind, eqGuard_at_int, Sem.run_pure, Result.andThen_ok]
    split at h
    · split at h
      · rename_i hy; injection h with h; subst h
        refine ⟨_, ?_, .v _⟩
        have : ¬ q < 0 := by omega
        simp only [binOp_shl, Op.shift, this, if_false, Sem.run_pure]
      · cases h
    · split at h
      · rename_i hy; injection h with h; subst h
        refine ⟨_, ?_, .v _⟩
        have : ¬ q < 0 := by omega
        simp only [binOp_shr, Op.shift, this, if_false, Sem.run_pure]
      · cases h
    · split at h
      · rename_i hk; subst hk
        obtain ⟨z, hz, rfl⟩ := Option.map_eq_some_iff.1 h
        exact ⟨z, binI_ok hz, .v _⟩
      · cases h
  · have := relv ra; subst this; have := relv rb; subst this
    simp only [Sem.run_bind, eqGuard_at_string, Sem.run_pure, Result.andThen_ok]
    obtain ⟨z, hz, rfl⟩ := Option.map_eq_some_iff.1 h
    exact ⟨z, binS_ok hz, .v _⟩
  · have := relv ra; subst this; have := relv rb; subst this
    simp only [Sem.run_bind, eqGuard_at_bool, Sem.run_pure, Result.andThen_ok]
    split at h
    · rename_i hb
      have hu := isBool_ok hT hb
      split at h
      · injection h with h; subst h; exact ⟨_, run_eql_bool w t _ _ hu, .v _⟩
      · injection h with h; subst h; exact ⟨_, run_neq_bool w t _ _ hu, .v _⟩
      · cases h
    · cases h
  · cases h
theorem unA_ok {op : UnOp} {a r : A} {x : Value} (h : unA op a = some r) (ra : Rel S σ I w.heap a x) : ∃ z, (Op.unary op x).run P w = .ok z w ∧ Rel S σ I w.heap r z := by
  unfold unA at h
  split at h
  · have := relv ra; subst this; injection h with h; subst h; exact ⟨_, rfl, .v _⟩
  · have := relv ra; subst this; injection h with h; subst h; exact ⟨_, rfl, .v _⟩
  · cases h
theorem und {t : Nat} {ti : TI} (hT : TOk P T) (ht : T t = some ti) : ∃ d, P.underlying t = some d ∧ ti.kind = tkOf d := by
  obtain ⟨i, d, z, k⟩ := tiOf_ok (hT t ti ht); exact ⟨d, k.und, k.kind⟩
theorem size_ok (hT : TOk P T) {t n : Nat} (h : szA T t = some n) : (sizeOf t).run P w = .ok n w := by
  obtain ⟨ti, h1, h2⟩ := Option.map_eq_some_iff.1 h
  obtain ⟨i, d, z, k⟩ := tiOf_ok (hT t ti h1)
  simp [sizeOf, typeInfo, k.info, k.sz, h2]
theorem convA_ok (hT : TOk P T) {src dst : Nat} {a r : A} {x : Value} (h : convA T S src dst a = some r) (ra : Rel S σ I w.heap a x) : ∃ z, (convert src dst x).run P w = .ok z w ∧ Rel S σ I w.heap r z := by
  unfold convA at h
  split at h
  · rename_i s d hs hd
    obtain ⟨ds, us, ks⟩ := und hT hs
    obtain ⟨dd, ud, kd⟩ := und hT hd
    split at h
    · rename_i k k1 k2 n e1 e2
      have := relv ra; subst this; injection h with h; subst h
      have e3 := tk_int (kd.symm.trans e1); subst e3
      exact ⟨_, by simp [convert, run_underlying us, run_underlying ud, Conv.intToInt], .v _⟩
    · rename_i k1 k2 n e1 e2
      have := relv ra; subst this; injection h with h; subst h
      have e3 := tk_str (kd.symm.trans e1); subst e3
      have e4 := tk_int (ks.symm.trans e2); subst e4
      exact ⟨_, by simp [convert, run_underlying us, run_underlying ud, Conv.intToString], .v _⟩
    · rename_i xx e1 e2
      have := relv ra; subst this; injection h with h; subst h
      have e3 := tk_str (kd.symm.trans e1); subst e3
      have e4 := tk_str (ks.symm.trans e2); subst e4
      exact ⟨_, by simp [convert, run_underlying us, run_underlying ud], .v _⟩
    · cases h
  · cases h
theorem lenA_ok (hT : TOk P T) {t ty : Nat} {a : A} {n : Nat} {x : Value} (h : lenA T t a = some n) (ra : Rel S σ I w.heap a x) : (Builtin.len_ #[t] ty #[x]).run P w = .ok (.int .i64 n) w := by
  unfold lenA at h
  split at h
  · rename_i ti ht
    obtain ⟨d, ud, kd⟩ := und hT ht
    split at h
    · rename_i hk
      have e3 := tk_str (kd.symm.trans hk); subst e3
      split at h
      · have := relv ra; subst this; injection h with h; subst h
        simp [Builtin.len_, run_underlying ud, goInt]
      · cases h
    · rename_i e hk
      have e3 := tk_slice (kd.symm.trans hk); subst e3
      have key : ∀ (base : Option Addr) (m c : Nat), (Builtin.len_ #[t] ty #[.slice base m c]).run P w = .ok (.int .i64 m) w := fun base m c => by
        simp [Builtin.len_, run_underlying ud, goInt]
      unfold lenS at h
      split at h
      · have := relv ra; subst this; injection h with h; subst h; exact key _ _ _
      · injection h with h; subst h; cases ra <;> exact key _ _ _
      · injection h with h; subst h; cases ra; exact key _ _ _
      · cases h
    · cases h
  · cases h
theorem indA_ok (s : Sim W S σ I F w.heap) (hT : TOk P T) {t : Nat} {a r : A} {j : Int} {k : IntKind} {x : Value} (h : indA T S t a j = some r) (ra : Rel S σ I w.heap a x) :
    ∃ z, (Instr.indexAt t x (.int k j)).run P w = .ok z w ∧ Rel S σ I w.heap r z := by
  unfold indA at h
  split at h
  · rename_i ti ht
    obtain ⟨d, ud, kd⟩ := und hT ht
    split at h
    · rename_i e hk
      have e3 := tk_slice (kd.symm.trans hk); subst e3
      have el : P.elem t = e := by simp [Program.elem, ud]
      have ud' : P.underlying t = some (.slice (P.elem t)) := by rw [el]; exact ud
      have key : ∀ (ad : Addr) (len c n : Nat), 0 ≤ j → j < len → szA T e = some n → (Instr.indexAt t (.slice (some ad) len c) (.int k j)).run P w = .ok (.pointer (some (ad.add (j.toNat * n)))) w := fun ad len c n h0 h1 hz => by
        rw [run_indexAt_slice w t ad len c k j ud', if_pos ⟨h0, h1⟩, el, size_ok hT hz]; rfl
      split at h
      · rename_i n rows
        split at h
        · rename_i hh
          obtain ⟨row, h1, rfl⟩ := Option.map_eq_some_iff.1 h
          have hlt := (List.getElem?_eq_some_iff.1 h1).1
          cases ra with
          | ro0 n a c => simp at h1
          | ro n rows ad c cs ty fr hs hI hb hn hsz hcap hfl hc =>
            refine ⟨_, key ad rows.length c n hh.1 (by omega) hh.2, ?_⟩
            rw [addr_add hs]
            have hg : rows.getD j.toNat [] = row := by simp [h1]
            have hl := hn j.toNat hlt; rw [hg] at hl
            have hm : (j.toNat + 1) * n ≤ rows.length * n := Nat.mul_le_mul_right _ hlt
            rw [Nat.add_mul, Nat.one_mul] at hm
            refine .rp row _ cs ty fr rfl hI hb (by simp only; omega) (fun i => by have := hfl j.toNat i; rwa [hg] at this) fun i hi => ?_
            have := hc j.toNat i hlt (by omega)
            rw [hg] at this; exact this
        · cases h
      · rename_i id lo hi ver
        split at h
        · rename_i o ho
          split at h
          · rename_i hh
            injection h with h; subst h
            obtain ⟨h0, h1, h2, h3⟩ := hh
            cases ra with
            | sl _ _ _ _ a c o₁ ho₁ q1 q2 q3 hf =>
              rw [ho] at ho₁; injection ho₁ with ho₁; subst ho₁
              have hff := hf h2.symm
              clear hf
              rcases hff with ⟨g1, g2, g3⟩ | ⟨ad, cs, ty, fr, g1, g2, g3, g4, g5, g6⟩
              · exfalso
                have z0 := (s.ob id o ho).none_ g1; have z1 : o.rows.length = 0 := (by rw [z0]; rfl); omega
              · have := g3 (by omega); subst this
                refine ⟨_, key _ _ _ _ h0 h1 h3, ?_⟩
                rw [addr_add rfl]
                refine .pt id (lo + j.toNat) 0 ver _ o ho (by omega) q3 fun _ => ⟨ad, g1, ?_⟩
                simp only [Addr.mk.injEq, and_true, true_and]
                rw [Nat.add_mul]; omega
          · cases h
        · cases h
      · cases h
    · rename_i n e hk
      have e3 := tk_arr (kd.symm.trans hk); subst e3
      have el : P.elem t = e := by simp [Program.elem, ud]
      have al : P.arrayLen t = n := by simp [Program.arrayLen, ud]
      have ud' : P.underlying t = some (.array (P.arrayLen t) (P.elem t)) := by rw [el, al]; exact ud
      have key : ∀ (ad : Addr) (m : Nat), 0 ≤ j → j < n → szA T e = some m → (Instr.indexAt t (.pointer (some ad)) (.int k j)).run P w = .ok (.pointer (some (ad.add (j.toNat * m)))) w := fun ad m h0 h1 hz => by
        rw [run_indexAt_array w t ad k j ud', al, if_pos ⟨h0, h1⟩, el, size_ok hT hz]; rfl
      split at h
      · rename_i id row off ver s hz
        split at h
        · rename_i hh; injection h with h; subst h
          cases ra with
          | pt _ _ _ _ ad o ho q1 q2 hf =>
            refine ⟨_, key _ _ hh.1 hh.2 hz, ?_⟩
            by_cases hv : ver = o.rows.length
            · obtain ⟨base, g1, g2⟩ := hf hv
              subst g2
              rw [addr_add rfl]
              exact .pt id row _ ver _ o ho q1 q2 fun _ => ⟨base, g1, by simp only [Addr.mk.injEq, and_true, true_and]; omega⟩
            · exact .pt id row _ ver _ o ho q1 q2 fun e => absurd e hv
        · cases h
      · rename_i cs s hz
        split at h
        · rename_i hh; injection h with h; subst h
          cases ra with
          | rp l ad b ty fr hs hI hb hsz hfl hc =>
            refine ⟨_, key _ _ hh.1 hh.2.1 hz, ?_⟩
            rw [addr_add hs]
            have h3 := hh.2.2; rw [Nat.add_mul] at h3
            refine .rp _ _ b ty fr rfl hI hb (by simp only [List.length_drop]; omega) (fun i => by rw [getD_drop]; exact hfl _) fun i hi => ?_
            simp only [List.length_drop] at hi
            have := hc (j.toNat * s + i) (by omega)
            simp only [List.getD_eq_getElem?_getD, List.getElem?_drop] at this ⊢
            rw [Nat.add_assoc]; exact this
        · cases h
      · cases h
    · cases h
  · cases h
def optRel (S : Store) (σ : Place) (I : Nat → Prop) (h : Array Obj) : Option A → Option Value → Prop
  | none, none => True
  | some a, some x => Rel S σ I h a x
  | _, _ => False
theorem bounds_ok {isSlice : Bool} {len cap cap' : Nat} (hcap : cap ≤ cap') (hlc : len ≤ cap) {lo hi : Option A} {l h : Nat} {xl xh : Option Value} (e : boundsA len cap lo hi = some (l, h)) (rl : optRel S σ I w.heap lo xl) (rh : optRel S σ I w.heap hi xh) :
    (Instr.sliceBounds isSlice len cap' xl xh none).run P w = .ok (l, h, cap') w ∧ l ≤ h ∧ h ≤ cap := by
  have key : ∀ {k : IntKind} {j : Int} {m : Nat} {code : BoundsCode}, 0 ≤ j → j ≤ (m : Int) → (Instr.sliceBound (.int k j) m code).run P w = .ok j.toNat w := fun h0 h1 => by simp [Instr.sliceBound, asIntOf, h0, h1]
  unfold boundsA at e
  cases hi with
  | none =>
    cases xh with
    | some _ => cases rh
    | none =>
      cases lo with
      | none =>
        cases xl with
        | some _ => cases rl
        | none => injection e with e; injection e with e1 e2; subst e1 e2; exact ⟨rfl, Nat.zero_le _, hlc⟩
      | some a =>
        cases xl with
        | none => cases rl
        | some x =>
          simp only at e
          split at e
          · rename_i e0; cases e0
          · rename_i k i e0; injection e0 with e0; subst e0
            split at e
            · rename_i hh; injection e with e; injection e with e1 e2; subst e1 e2
              have := relv rl; subst this
              refine ⟨?_, by omega, hlc⟩
              simp only [Instr.sliceBounds, Sem.run_bind, Sem.run_pure, Result.andThen_ok, Option.isSome_none, Bool.false_eq_true, if_false, key hh.1 hh.2]
            · cases e
          · cases e
  | some b =>
    cases xh with
    | none => cases rh
    | some y =>
      simp only at e
      split at e
      · rename_i e0; cases e0
      · rename_i k j e0; injection e0 with e0; subst e0
        have := relv rh; subst this
        split at e
        · rename_i hh
          have k1 : ∀ code, (Instr.sliceBound (.int k j) cap' code).run P w = .ok j.toNat w := fun code => key hh.1 (by omega)
          split at e
          · injection e with e; injection e with e1 e2; subst e1 e2
            cases xl with
            | some _ => cases rl
            | none =>
              refine ⟨?_, Nat.zero_le _, by omega⟩
              cases isSlice <;> simp [Instr.sliceBounds, k1]
          · rename_i k' i
            split at e
            · rename_i hi'; injection e with e; injection e with e1 e2; subst e1 e2
              cases xl with
              | none => cases rl
              | some x =>
                have := relv rl; subst this
                have k2 : ∀ code, (Instr.sliceBound (.int k' i) j.toNat code).run P w = .ok i.toNat w := fun code => key hi'.1 (by omega)
                refine ⟨?_, by omega, by omega⟩
                cases isSlice <;> simp [Instr.sliceBounds, k1, k2]
            · cases e
          · cases e
        · cases e
      · cases e
theorem slcA_ok (s : Sim W S σ I F w.heap) (hT : TOk P T) {t : Nat} {a r : A} {lo hi : Option A} {x : Value} {xl xh : Option Value} (h : slcA T S t a lo hi = some r) (ra : Rel S σ I w.heap a x) (rl : optRel S σ I w.heap lo xl) (rh : optRel S σ I w.heap hi xh) :
    ∃ z, (Instr.slice t x xl xh none).run P w = .ok z w ∧ Rel S σ I w.heap r z := by
  unfold slcA at h
  split at h
  · rename_i ti ht
    obtain ⟨d, ud, kd⟩ := und hT ht
    split at h
    · rename_i hk
      have e3 := tk_str (kd.symm.trans hk); subst e3
      split at h
      · rename_i st
        have := relv ra; subst this
        obtain ⟨⟨l, hh⟩, h1, rfl⟩ := Option.map_eq_some_iff.1 h
        obtain ⟨b1, b2, b3⟩ := bounds_ok (P := P) (isSlice := false) (Nat.le_refl _) (Nat.le_refl _) h1 rl rh
        exact ⟨_, by simp only [Instr.slice, Sem.run_bind, run_underlying ud, Result.andThen_ok, Option.isSome_none, Bool.false_eq_true, if_false, b1, Sem.run_pure], .v _⟩
      · cases h
    · rename_i e hk
      have e3 := tk_slice (kd.symm.trans hk); subst e3
      split at h
      · have := relv ra; subst this
        split at h
        · rename_i n hz
          obtain ⟨⟨l, hh⟩, h1, rfl⟩ := Option.map_eq_some_iff.1 h
          obtain ⟨b1, b2, b3⟩ := bounds_ok (P := P) (isSlice := true) (Nat.le_refl _) (Nat.le_refl _) h1 rl rh
          have e1 : hh = 0 := by omega
          subst e1
          have e2 : l = 0 := by omega
          subst e2
          refine ⟨_, by simp only [Instr.slice, Sem.run_bind, run_underlying ud, Result.andThen_ok, b1, Sem.run_pure, size_ok hT hz]; rfl, ?_⟩
          exact .v _
        · cases h
      · rename_i n rows
        split at h
        · rename_i hz
          obtain ⟨⟨l, hh⟩, h1, rfl⟩ := Option.map_eq_some_iff.1 h
          cases ra with
          | ro0 n a c =>
            obtain ⟨b1, b2, b3⟩ := bounds_ok (P := P) (isSlice := true) (cap' := c) (Nat.zero_le _) (Nat.le_refl _) h1 rl rh
            have e1 : hh = 0 := by simpa using b3
            subst e1
            have e2 : l = 0 := by omega
            subst e2
            refine ⟨_, by simp only [Instr.slice, Sem.run_bind, run_underlying ud, Result.andThen_ok, b1, Sem.run_pure, size_ok hT hz]; rfl, ?_⟩
            simp only [List.take_nil, List.drop_nil]
            exact .ro0 n _ _
          | ro n rows ad c cs ty fr hs hI hb hn hsz hcap hfl hc =>
            obtain ⟨b1, b2, b3⟩ := bounds_ok (P := P) (isSlice := true) (cap' := c) hcap (Nat.le_refl _) h1 rl rh
            refine ⟨_, by simp only [Instr.slice, Sem.run_bind, run_underlying ud, Result.andThen_ok, b1, Sem.run_pure, size_ok hT hz]; rfl, ?_⟩
            dsimp only
            have hlen : ((rows.take hh).drop l).length = hh - l := by simp; omega
            have hg : ∀ i, i < hh - l → ((rows.take hh).drop l).getD i [] = rows.getD (l + i) [] := fun i hi' => by
              simp only [List.getD_eq_getElem?_getD, List.getElem?_drop, List.getElem?_take]
              rw [if_pos (by omega)]
            rcases Nat.eq_zero_or_pos (hh - l) with hz0 | hz0
            · have e5 : (rows.take hh).drop l = [] := List.length_eq_zero_iff.1 (by omega)
              rw [e5, hz0]; exact .ro0 n _ _
            · rw [if_neg (by omega), ← hlen]
              have e6 : Option.map (fun x => x.add (l * n)) (some ad) = some ⟨ad.block, ad.off + l * n, none⟩ := by simp [addr_add hs]
              rw [e6]
              have m1 : hh * n ≤ rows.length * n := Nat.mul_le_mul_right _ b3
              have m2 : hh * n = l * n + (hh - l) * n := by rw [← Nat.add_mul]; congr 1; omega
              refine .ro n _ _ (c - l) cs ty fr rfl hI hb (fun i hi' => ?_) (by rw [hlen]; simp only; omega) (by omega) (flatRows_cut hfl hh l) (fun i j hi' hj => ?_)
              · rw [hlen] at hi'; rw [hg i hi']; exact hn _ (by omega)
              · rw [hlen] at hi'; rw [hg i hi']
                have := hc (l + i) j (by omega) hj
                rw [Nat.add_mul] at this
                simpa only [Nat.add_assoc] using this
        · cases h
      · rename_i id l0 h0 ver
        split at h
        · rename_i o ho
          split at h
          · rename_i hv
            obtain ⟨⟨l, hh⟩, h1, rfl⟩ := Option.map_eq_some_iff.1 h
            cases ra with
            | sl _ _ _ _ a c o₁ ho₁ q1 q2 q3 hf =>
              rw [ho] at ho₁; injection ho₁ with ho₁; subst ho₁
              have hff := hf hv.1.symm
              clear hf
              have hc : ver - l0 ≤ c := by
                rcases hff with ⟨g1, g2, g3⟩ | ⟨ad, cs, ty, fr, g1, g2, g3, g4, g5, g6⟩
                · have z0 := (s.ob id o ho).none_ g1; have z1 : o.rows.length = 0 := (by rw [z0]; rfl); omega
                · omega
              obtain ⟨b1, b2, b3⟩ := bounds_ok (P := P) (isSlice := true) (cap' := c) hc (show h0 - l0 ≤ ver - l0 by omega) h1 rl rh
              refine ⟨_, by simp only [Instr.slice, Sem.run_bind, run_underlying ud, Result.andThen_ok, b1, Sem.run_pure, size_ok hT hv.2]; rfl, ?_⟩
              have e7 : hh - l = l0 + hh - (l0 + l) := by omega
              dsimp only
              rw [e7]
              refine .sl id (l0 + l) (l0 + hh) ver _ (c - l) o ho (by omega) (by omega) q3 fun _ => ?_
              rcases hff with ⟨g1, g2, g3⟩ | ⟨ad, cs, ty, fr, g1, g2, g3, g4, g5, g6⟩
              · exact .inl ⟨g1, by omega, by omega⟩
              · refine .inr ⟨ad, cs, ty, fr, g1, g2, fun hp => ?_, g4, ?_, by omega⟩
                · have := g3 (by omega); subst this
                  rw [if_neg (by omega)]
                  simp only [Option.map_some, addr_add (a := ⟨ad.block, ad.off + l0 * o.n, none⟩) rfl, Nat.add_mul, Nat.add_assoc]
                · have : l0 + l + (c - l) = l0 + c := by omega
                  rw [this]; exact g5
          · cases h
        · cases h
      · cases h
    · cases h
  · cases h
def idxA (T : Nat → Option TI) (t : Nat) (a : A) (j : Int) : Option A :=
  match T t with
  | some ti => match ti.kind, a with
    | .str, .v (.string s) => if 0 ≤ j then (s.data[j.toNat]?).map fun b => .v (.int .u8 b.toNat) else none
    | _, _ => none
  | none => none
theorem idxA_ok (hT : TOk P T) {t : Nat} {a r : A} {j : Int} {k : IntKind} {x : Value} (h : idxA T t a j = some r) (ra : Rel S σ I w.heap a x) :
    ∃ z, (Instr.index t x (.int k j)).run P w = .ok z w ∧ Rel S σ I w.heap r z := by
  unfold idxA at h
  split at h
  · rename_i ti ht
    obtain ⟨d, ud, kd⟩ := und hT ht
    split at h
    · rename_i st hk
      have e3 := tk_str (kd.symm.trans hk); subst e3
      have := relv ra; subst this
      split at h
      · rename_i hj
        obtain ⟨b, h1, rfl⟩ := Option.map_eq_some_iff.1 h
        have h2 : st[j.toNat]? = some b := by
          have hlt := (Array.getElem?_eq_some_iff.1 h1).1
          have hlt' : j.toNat < st.size := hlt
          rw [getElem?_pos st j.toNat hlt']
          have := (Array.getElem?_eq_some_iff.1 h1).2
          rw [← this]; rfl
        refine ⟨_, ?_, .v _⟩
        simp only [Instr.index, asIntOf, Sem.run_bind, Sem.run_pure, run_underlying ud, Result.andThen_ok, hj, if_true, h2]
      · cases h
    · cases h
  · cases h
theorem field_place {fs : Array Field} {f : Nat} {o u : Nat} (h : (fs.toList.map fun g => (g.offset, g.type))[f]? = some (o, u)) : ∃ g, fs[f]? = some g ∧ g.offset = o ∧ g.type = u := by
  rw [List.getElem?_map] at h
  obtain ⟨g, h1, h2⟩ := Option.map_eq_some_iff.1 h
  injection h2 with h2 h3
  exact ⟨g, by simpa using h1, h2, h3⟩
def fadA (T : Nat → Option TI) (t : Nat) (a : A) (f : Nat) : Option A :=
  match fldA T t f with
  | some (o, u) => match szA T u with
    | some n => if n = 0 then none else match a with
      | .pt id row off ver => some (.pt id row (off + o) ver)
      | .rp cs => if o ≤ cs.length then some (.rp (cs.drop o)) else none
      | _ => none
    | none => none
  | none => none
theorem fldA_ok (hT : TOk P T) {t f o u : Nat} (h : fldA T t f = some (o, u)) : ∃ fs g, P.underlying t = some (.struct fs) ∧ fs[f]? = some g ∧ g.offset = o ∧ g.type = u := by
  unfold fldA at h
  split at h
  · rename_i ti ht
    obtain ⟨d, ud, kd⟩ := und hT ht
    split at h
    · rename_i fs hk
      obtain ⟨g, e1, e2⟩ := tk_struct (kd.symm.trans hk)
      subst e1 e2
      obtain ⟨g', h1, h2, h3⟩ := field_place h
      exact ⟨g, g', ud, h1, h2, h3⟩
    · cases h
  · cases h
theorem fadA_ok (hT : TOk P T) {t : Nat} {a r : A} {f : Nat} {x : Value} (h : fadA T t a f = some r) (ra : Rel S σ I w.heap a x) :
    ∃ z, (Instr.fieldAt t x f).run P w = .ok z w ∧ Rel S σ I w.heap r z := by
  unfold fadA at h
  split at h
  · rename_i o u hf
    obtain ⟨fs, g, u1, u2, rfl, rfl⟩ := fldA_ok hT hf
    split at h
    · rename_i n hn
      split at h
      · cases h
      · rename_i hn0
        have key : ∀ ad : Addr, (Instr.fieldAt t (.pointer (some ad)) f).run P w = .ok (.pointer (some (ad.add g.offset))) w := fun ad => by
          simp only [Instr.fieldAt, Sem.run_bind, run_underlying u1, Result.andThen_ok, u2, Instr.sureAddr, Sem.run_pure, fieldPlace, size_ok hT hn, hn0, if_false]
        split at h
        · rename_i id row off ver
          injection h with h; subst h
          cases ra with
          | pt _ _ _ _ ad o ho q1 q2 hf =>
            refine ⟨_, key ad, ?_⟩
            by_cases hv : ver = o.rows.length
            · obtain ⟨base, g1, g2⟩ := hf hv
              subst g2
              rw [addr_add rfl]
              exact .pt id row _ ver _ o ho q1 q2 fun _ => ⟨base, g1, by simp only [Addr.mk.injEq, and_true, true_and]; omega⟩
            · exact .pt id row _ ver _ o ho q1 q2 fun e => absurd e hv
        · rename_i cs
          split at h
          · rename_i hl; injection h with h; subst h
            cases ra with
            | rp l ad b ty fr hs hI hb hsz hfl hc =>
              refine ⟨_, key ad, ?_⟩
              rw [addr_add hs]
              refine .rp _ _ b ty fr rfl hI hb (by simp only [List.length_drop]; omega) (fun i => by rw [getD_drop]; exact hfl _) fun i hi => ?_
              simp only [List.length_drop] at hi
              have := hc (g.offset + i) (by omega)
              simp only [List.getD_eq_getElem?_getD, List.getElem?_drop] at this ⊢
              rw [Nat.add_assoc]; exact this
          · cases h
        · cases h
    · cases h
  · cases h
end
end Go.Proofs.YtomklniddinhnaaE
