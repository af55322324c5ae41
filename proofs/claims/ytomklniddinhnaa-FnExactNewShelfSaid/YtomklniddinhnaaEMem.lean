/- Part of the proof: an evaluator (YtomklniddinhnaaEMem). -/
import Derived.Test.YtomklniddinhnaaEPure
set_option linter.unusedVariables false
set_option linter.unusedSectionVars false
set_option linter.unusedSimpArgs false
namespace Go.Proofs.YtomklniddinhnaaE
open Go
section
variable {P : Program} {T : Nat → Option TI} {W : Fm} {S : Store} {σ : Place} {I F : Nat → Prop} {w : World}
def CellsRel (S : Store) (σ : Place) (I : Nat → Prop) (h : Array Obj) (cs : List A) (xs : Array Value) : Prop := xs.size = cs.length ∧ ∀ j, j < cs.length → Rel S σ I h (cs.getD j .dead) (xs.getD j undef)
theorem foldl_overw (off : Nat) : ∀ (vs : List Value) (k : Nat) (cs : Array Value), (vs.zipIdx k).foldl (fun cs (c, j) => cs.setIfInBounds (off + j) c) cs = overw cs (off + k) vs
 | [], _, _ => rfl
 | x :: r, k, cs => by
  simp only [List.zipIdx_cons, List.foldl_cons, overw]
  rw [foldl_overw off r (k + 1)]; rfl
theorem fill_step (xs : Array Value) (off : Nat) (v : Value) : v.cells.zipIdx.foldl (fun cs (c, j) => cs.setIfInBounds (off + j) c) xs = overw xs off v.cells.toList := by
 have := foldl_overw off v.cells.toList 0 xs
 rw [Nat.add_zero] at this
 rw [← this, ← Array.foldl_toList]
 congr 1
 simp [Array.toList_zipIdx]
theorem splice_rel {cs l : List A} {xs : Array Value} {v : Value} {off : Nat} (hc : CellsRel S σ I w.heap cs xs) (hl : CellsRel S σ I w.heap l v.cells) (ho : off + l.length ≤ cs.length) :
  CellsRel S σ I w.heap (cs.take off ++ l ++ cs.drop (off + l.length)) (overw xs off v.cells.toList) := by
 refine ⟨by rw [size_overw, hc.1]; simp; omega, fun j hj => ?_⟩
 have hj' : j < cs.length := by simp at hj; omega
 rw [getD_splice cs l off j ho, getD_overw _ _ _ _ (by rw [hc.1, Array.length_toList, hl.1]; exact ho)]
 simp only [Array.length_toList, hl.1]
 split
 ·rename_i h
  have := hl.2 (j - off) (by omega)
  simpa [show j - off < v.cells.size by rw [hl.1]; omega] using this
 ·exact hc.2 j hj'
theorem fill_ok {place : Nat → Option (Nat × Nat)} : ∀ {ps : List (Nat × A)} {pv : List (Nat × Value)} {cs cs' : List A} {xs : Array Value}, (ps.map (·.1)) = pv.map (·.1) →
  (∀ k, k < ps.length → Rel S σ I w.heap (ps.getD k (0, .dead)).2 (pv.getD k (0, undef)).2) → CellsRel S σ I w.heap cs xs → fillA place cs ps = some cs' →
  ∃ xs', Instr.fill place xs pv = some xs' ∧ CellsRel S σ I w.heap cs' xs'
 | [], pv, cs, cs', xs, hm, hr, hc, h => by
  have : pv = [] := by simpa using hm.symm
  subst this; injection h with h; subst h; exact ⟨xs, rfl, hc⟩
 | (i, a) :: ps, [], cs, cs', xs, hm, hr, hc, h => by simp at hm
 | (i, a) :: ps, (i', v) :: pv, cs, cs', xs, hm, hr, hc, h => by
  simp only [List.map_cons, List.cons.injEq] at hm
  obtain ⟨rfl, hm⟩ := hm
  simp only [fillA] at h
  split at h
  ·rename_i off size l hp hl
   split at h
   ·rename_i hh
    have ra : Rel S σ I w.heap a v := hr 0 (by simp)
    have c1 := cellsOf_ok hl ra
    obtain ⟨xs', h1, h2⟩ := fill_ok (xs := overw xs off v.cells.toList) hm (fun k hk => hr (k + 1) (by simp; omega)) (by rw [← hh.1]; exact splice_rel hc c1 (by omega)) h
    refine ⟨xs', ?_, h2⟩
    simp only [Instr.fill, hp]
    have e1 : (v.cells.size ≠ size) = False := by simp; omega
    have e2 : (off + v.cells.size > xs.size) = False := by rw [hc.1]; simp; omega
    have e3 : ¬ (v.cells.size ≠ size ∨ off + v.cells.size > xs.size) := by rw [e1, e2]; simp
    simp only [ne_eq, bne_iff_ne, Bool.or_eq_true, decide_eq_true_eq] at e3 ⊢
    rw [if_neg (by simpa using e3), fill_step]
    exact h1
   ·cases h
  ·cases h
def zeroA (ti : TI) : List A := ti.zero.map fun z => .v z.val
theorem zero_rel (hT : TOk P T) {t : Nat} {ti : TI} (ht : T t = some ti) : ∃ z, (∀ w, (zeroValue t).run P w = .ok z w) ∧ CellsRel S σ I w.heap (zeroA ti) z.cells := by
 obtain ⟨i, d, z, k⟩ := tiOf_ok (hT t ti ht)
 refine ⟨z, fun w => by simp [zeroValue, typeInfo, k.info, k.zero], ?_, fun j hj => ?_⟩
 ·have := congrArg List.length k.cells
  simpa [zeroA] using this
 ·simp only [zeroA, List.length_map] at hj
  have e1 : (zeroA ti).getD j .dead = .v (ti.zero[j]).val := by simp [zeroA, hj]
  have e2 : z.cells.getD j undef = (ti.zero[j]).val := by
   have h1 : z.cells.toList[j]? = some (ti.zero[j]).val := by rw [k.cells]; simp [hj]
   have h2 : z.cells[j]? = some (ti.zero[j]).val := by simpa using h1
   simp [h2]
  rw [e1, e2]; exact .v _
def bldA (T : Nat → Option TI) (t : Nat) (ps : List (Nat × A)) : Option A :=
 match T t with
 | some ti => match ti.kind with
  | .struct fs => if fs.all (fun p => (T p.2).isSome) then (fillA (fun i => fs[i]?.bind fun (o, u) => (szA T u).map fun s => (o, s)) (zeroA ti) ps).map .ag else none
  | .arr n e => match szA T e with
   | some s => (fillA (fun i => some (i * s, s)) (zeroA ti) ps).map .ag
   | none => none
  | _ => none
 | none => none
theorem fill_place {place place' : Nat → Option (Nat × Nat)} : ∀ {ps : List (Nat × A)} {cs cs' : List A}, (∀ i x, place i = some x → place' i = some x) → fillA place cs ps = some cs' → fillA place' cs ps = some cs'
 | [], cs, cs', _, h => h
 | (i, a) :: ps, cs, cs', hp, h => by
  simp only [fillA] at h ⊢
  split at h
  ·rename_i off size l h1 h2
   rw [hp _ _ h1, h2]
   simp only at h ⊢
   split at h
   ·rename_i hh; rw [if_pos hh]; exact fill_place hp h
   ·cases h
  ·cases h
theorem mapM_sizes (w : World) : ∀ (fs : List Field) (hT : TOk P T), (∀ f ∈ fs, (T f.type).isSome = true) → (fs.mapM (m := Sem) fun f => do pure (f.offset, ← sizeOf f.type)).run P w = .ok (fs.map fun f => (f.offset, (szA T f.type).getD 0)) w
 | [], _, _ => rfl
 | f :: fs, hT, h => by
  have h1 := h f (by simp)
  obtain ⟨ti, h2⟩ := Option.isSome_iff_exists.1 h1
  have hz : szA T f.type = some ti.sz := by simp [szA, h2]
  simp only [List.mapM_cons, Sem.run_bind, size_ok hT hz, Result.andThen_ok, Sem.run_pure, mapM_sizes w fs hT (fun g hg => h g (by simp [hg])), List.map_cons, hz, Option.getD_some]
theorem bldA_ok (hT : TOk P T) {t : Nat} {ps : List (Nat × A)} {pv : Array (Nat × Value)} {r : A}
  (h : bldA T t ps = some r) (hm : (ps.map (·.1)) = pv.toList.map (·.1)) (hr : ∀ k, k < ps.length → Rel S σ I w.heap (ps.getD k (0, .dead)).2 (pv.toList.getD k (0, undef)).2) :
  ∃ z, (Instr.build t pv).run P w = .ok z w ∧ Rel S σ I w.heap r z := by
 unfold bldA at h
 split at h
 ·rename_i ti ht
  obtain ⟨d, ud, kd⟩ := und hT ht
  obtain ⟨z, z1, z2⟩ := zero_rel (S := S) (σ := σ) (I := I) (w := w) hT ht
  have fin : ∀ {cs : List A} {xs : Array Value}, CellsRel S σ I w.heap cs xs → Rel S σ I w.heap (.ag cs) (.agg xs) := fun h => .ag _ _ h.1.symm h.2
  split at h
  ·rename_i fs hk
   obtain ⟨g, e1, e2⟩ := tk_struct (kd.symm.trans hk)
   subst e1
   split at h
   case isFalse => cases h
   rename_i hfs
   obtain ⟨cs, h1, rfl⟩ := Option.map_eq_some_iff.1 h
   have hall : ∀ f ∈ g.toList, (T f.type).isSome = true := fun f hf => List.all_eq_true.1 hfs (f.offset, f.type) (by rw [e2]; exact List.mem_map.2 ⟨f, hf, rfl⟩)
   have hpl : (g.mapM (m := Sem) fun f => do pure (f.offset, ← sizeOf f.type)).run P w = .ok (g.toList.map fun f => (f.offset, (szA T f.type).getD 0)).toArray w := by
    have := mapM_sizes (P := P) w g.toList hT hall
    obtain ⟨l⟩ := g
    simp only [List.mapM_toArray, Sem.run_map, this, Result.andThen_ok]
   obtain ⟨xs', k1, k2⟩ := fill_ok hm hr z2 (fill_place (place' := fun i => (g.toList.map fun f => (f.offset, (szA T f.type).getD 0)).toArray[i]?) (fun i x hx => by
    subst e2
    rw [List.getElem?_map] at hx
    obtain ⟨p, q1, q2⟩ := Option.bind_eq_some_iff.1 hx
    obtain ⟨f, q3, q4⟩ := Option.map_eq_some_iff.1 q1
    subst q4
    obtain ⟨s, q5, q6⟩ := Option.map_eq_some_iff.1 q2
    subst q6
    simp only [List.getElem?_toArray, List.getElem?_map, q3, Option.map_some, q5, Option.getD_some]) h1)
   refine ⟨_, ?_, fin k2⟩
   simp only [Instr.build, Sem.run_bind, z1, Result.andThen_ok, run_underlying ud, hpl, k1, Sem.run_pure]
  ·rename_i n e hk
   have e3 := tk_arr (kd.symm.trans hk); subst e3
   split at h
   ·rename_i s hs
    obtain ⟨cs, h1, rfl⟩ := Option.map_eq_some_iff.1 h
    obtain ⟨xs', k1, k2⟩ := fill_ok hm hr z2 h1
    refine ⟨_, ?_, fin k2⟩
    simp only [Instr.build, Sem.run_bind, z1, Result.andThen_ok, run_underlying ud, size_ok hT hs, k1, Sem.run_pure]
   ·cases h
  ·cases h
 ·cases h
def chunks (n len : Nat) (cs : List A) : List (List A) := (List.range len).map fun i => (cs.drop (i * n)).take n
theorem chunks_get (n len : Nat) (cs : List A) (hl : cs.length = len * n) : (chunks n len cs).length = len ∧ ∀ i, i < len → ((chunks n len cs).getD i []).length = n ∧ ∀ j, j < n → ((chunks n len cs).getD i []).getD j .dead = cs.getD (i * n + j) .dead := by
 refine ⟨by simp [chunks], fun i hi => ?_⟩
 have e : (chunks n len cs).getD i [] = (cs.drop (i * n)).take n := by simp [chunks, hi]
 have : (i + 1) * n ≤ len * n := Nat.mul_le_mul_right _ hi
 rw [Nat.add_mul, Nat.one_mul] at this
 rw [e]
 refine ⟨by simp; omega, fun j hj => ?_⟩
 simp only [List.getD_eq_getElem?_getD, List.getElem?_take, List.getElem?_drop]
 rw [if_pos hj]
theorem newRow_ok (s : Sim W S σ I F w.heap) (e n len c : Nat) {rows : List (List A)} {xs : Array Value} (hn : rows.length = len) (hlen : ∀ i, i < len → (rows.getD i []).length = n) (hc : len ≤ c) (hx : xs.size = c * n)
  (hr : ∀ i j, i < len → j < n → Rel S σ I w.heap ((rows.getD i []).getD j .dead) (xs.getD (i * n + j) undef)) (fr : Nat × Nat) (hfr : Free fr xs.size) {w' : World} (hw : w'.heap = w.heap.push (.cells xs e fr)) (ho : w'.os = w.os) (ht : w'.tape = w.tape) (hu : w'.output = w.output) :
  Step W S σ I F w (.sl S.length 0 len len) (S ++ [⟨n, rows, 0, false⟩]) (.slice (some ⟨w.heap.size, 0, none⟩) len c) w' := by
 have hm : len * n ≤ c * n := Nat.mul_le_mul_right _ hc
 have key := s.alloc (W := W) ⟨n, rows, 0, false⟩ xs e fr hfr rfl (fun i hi => hlen i (by simpa [hn] using hi)) (by simp only; rw [hn, hx]; exact hm) (fun i j hi hj => by
  rw [Nat.zero_add]; exact hr i j (by simpa [hn] using hi) hj)
 refine ⟨_, I, F, by rw [hw]; exact key.1, by rw [hw]; exact key.2, ?_, ho, ht, hu⟩
 refine .sl _ 0 len len _ c ⟨n, rows, 0, false⟩ (by simp) (by omega) (by omega) (by simp [hn]) (fun _ => .inr ⟨⟨w.heap.size, 0, none⟩, xs, e, fr, by simp [Place.set], rfl, fun _ => by simp, by rw [hw]; simp, ?_, by omega⟩)
 simp only [Nat.zero_add]; omega
def bslA (T : Nat → Option TI) (S : Store) (t len : Nat) (ps : List (Nat × A)) : Option (A × Store) :=
 match T t with
 | some ti => match ti.kind with
  | .slice e => match T e with
   | some te => if te.zero.length = te.sz ∧ len * te.sz ≤ 16777216 then
     (fillA (fun i => some (i * te.sz, te.sz)) (List.replicate (len * te.sz) .dead) ps).map fun cs => (.sl S.length 0 len len, S ++ [⟨te.sz, chunks te.sz len cs, 0, false⟩])
    else none
   | none => none
  | _ => none
 | none => none
theorem fillA_length {place : Nat → Option (Nat × Nat)} : ∀ {ps : List (Nat × A)} {cs cs' : List A}, fillA place cs ps = some cs' → cs'.length = cs.length
 | [], cs, cs', h => by injection h with h; subst h; rfl
 | (i, a) :: ps, cs, cs', h => by
  simp only [fillA] at h
  split at h
  ·split at h
   ·rename_i hh
    rw [fillA_length h]
    simp; omega
   ·cases h
  ·cases h
theorem bslA_ok (s : Sim W S σ I F w.heap) (hT : TOk P T) {t len : Nat} {ps : List (Nat × A)} {pv : Array (Nat × Value)} {r : A} {S' : Store}
  (h : bslA T S t len ps = some (r, S')) (hm : (ps.map (·.1)) = pv.toList.map (·.1)) (hr : ∀ k, k < ps.length → Rel S σ I w.heap (ps.getD k (0, .dead)).2 (pv.toList.getD k (0, undef)).2) :
  ∃ z w', (Instr.buildSlice t len pv).run P w = .ok z w' ∧ Step W S σ I F w r S' z w' := by
 unfold bslA at h
 split at h
 ·rename_i ti ht
  obtain ⟨d, ud, kd⟩ := und hT ht
  split at h
  ·rename_i e hk
   have e3 := tk_slice (kd.symm.trans hk); subst e3
   split at h
   ·rename_i te hte
    split at h
    ·rename_i hz
     obtain ⟨cs, h1, h2⟩ := Option.map_eq_some_iff.1 h
     injection h2 with h2 h3; subst h2 h3
     have hsz : szA T e = some te.sz := by simp [szA, hte]
     obtain ⟨z, z1, z2⟩ := zero_rel (S := S) (σ := σ) (I := I) (w := w) hT hte
     have hzs : z.cells.size = te.sz := by rw [z2.1]; simp [zeroA, hz.1]
     let zs : Array Value := if len * te.sz = 0 then #[] else z.cells
     let init : Array Value := (Array.range (len * te.sz)).map (zs[· % zs.size]!)
     have hinit : CellsRel S σ I w.heap (List.replicate (len * te.sz) .dead) init := by
      refine ⟨by simp [init], fun j hj => ?_⟩
      simp only [List.length_replicate] at hj
      have : (List.replicate (len * te.sz) A.dead).getD j .dead = .dead := by simp [hj]
      rw [this]; exact .dead _
     obtain ⟨xs', k1, k2⟩ := fill_ok hm hr hinit h1
     have hl := fillA_length h1
     simp only [List.length_replicate] at hl
     obtain ⟨c1, c2⟩ := chunks_get te.sz len cs hl
     have hrun : (Instr.buildSlice t len pv).run P w = .ok (.slice (some ⟨w.heap.size, 0, none⟩) len len) (w.alloc (.cells xs' e)) := by
      have hgt : (len * te.sz > 2 ^ 24) = False := by simp; omega
      simp only [Instr.buildSlice, Sem.run_bind, run_underlying ud, Result.andThen_ok, size_ok hT hsz, hgt, if_false]
      by_cases h0 : len * te.sz = 0
      ·have : init = (Array.range (len * te.sz)).map ((#[] : Array Value)[· % (#[] : Array Value).size]!) := by simp [init, zs, h0]
       simp only [h0, if_true, Sem.run_bind, Sem.run_pure, Result.andThen_ok]
       rw [h0] at this
       rw [← this, k1]; rfl
      ·have : init = (Array.range (len * te.sz)).map (z.cells[· % z.cells.size]!) := by simp [init, zs, h0]
       simp only [h0, if_false, Sem.run_bind, z1, Sem.run_pure, Result.andThen_ok]
       rw [← this, k1]; rfl
     refine ⟨_, _, hrun, ?_⟩
     exact newRow_ok s e te.sz len len c1 (fun i hi => (c2 i hi).1) (Nat.le_refl _) (by rw [k2.1, hl]) (fun i j hi hj => by
      rw [(c2 i hi).2 j hj]
      have : (i + 1) * te.sz ≤ len * te.sz := Nat.mul_le_mul_right _ hi
      rw [Nat.add_mul, Nat.one_mul] at this
      exact k2.2 _ (by omega)) (0, 0) (fun k _ h => by simp at h) rfl rfl rfl rfl
    ·cases h
   ·cases h
  ·cases h
 ·cases h
def mkslA (T : Nat → Option TI) (S : Store) (t : Nat) (l c : A) : Option (A × Store) :=
 match T t, l, c with
 | some ti, .v (.int _ n), .v (.int _ m) => match ti.kind with
  | .slice e => match T e with
   | some te => if te.zero.length = te.sz ∧ 0 ≤ n ∧ n ≤ m ∧ m ≤ (Bound : Int) ∧ m * te.bytes ≤ (Bound : Int) then
     some (.sl S.length 0 n.toNat n.toNat, S ++ [⟨te.sz, List.replicate n.toNat (zeroA te), 0, false⟩]) else none
   | none => none
  | _ => none
 | _, _, _ => none
theorem mkslA_ok (s : Sim W S σ I F w.heap) (hT : TOk P T) {t : Nat} {l c r : A} {xl xc : Value} {S' : Store} (h : mkslA T S t l c = some (r, S')) (rl : Rel S σ I w.heap l xl) (rc : Rel S σ I w.heap c xc) :
  ∃ z w', (Instr.makeSlice t xl xc).run P w = .ok z w' ∧ Step W S σ I F w r S' z w' := by
 unfold mkslA at h
 split at h
 ·rename_i ti k1 n k2 m ht
  obtain ⟨d, ud, kd⟩ := und hT ht
  have := relv rl; subst this; have := relv rc; subst this
  split at h
  ·rename_i e hk
   have e3 := tk_slice (kd.symm.trans hk); subst e3
   split at h
   ·rename_i te hte
    split at h
    ·rename_i hh
     obtain ⟨h0, h1, h2, h3, h4⟩ := hh
     injection h with h; injection h with g1 g2; subst g1 g2
     have hsz : szA T e = some te.sz := by simp [szA, hte]
     obtain ⟨i, d, z', k⟩ := tiOf_ok (hT e te hte)
     obtain ⟨z, z1, z2⟩ := zero_rel (S := S) (σ := σ) (I := I) (w := w) hT hte
     have hzs : z.cells.size = te.sz := by rw [z2.1]; simp [zeroA, h0]
     unfold Bound at h3 h4
     have hrun := run_make w t e i z ud k.info (by rw [k.zero]; have := z1 w; simp [zeroValue, typeInfo, k.info, k.zero] at this; rw [this]) k1 k2 n m h1 h2 (by rw [k.bytes]; rw [Int.mul_comm]; omega) (by omega)
     refine ⟨_, _, hrun, ?_⟩
     refine newRow_ok s e te.sz n.toNat m.toNat (by simp) (fun i hi => by simp [hi, zeroA, h0]) (by omega) (by simp [madeCells, k.sz]) (fun i' j hi hj => ?_) (0, 0) (fun k _ h => by simp at h) rfl rfl rfl rfl
     have e1 : (List.replicate n.toNat (zeroA te)).getD i' [] = zeroA te := by simp [hi]
     rw [e1]
     have hlt : i' * te.sz + j < m.toNat * te.sz := by
      have : (i' + 1) * te.sz ≤ m.toNat * te.sz := Nat.mul_le_mul_right _ (by omega)
      rw [Nat.add_mul, Nat.one_mul] at this; omega
     have e2 : (madeCells z.cells (m.toNat * i.size)).getD (i' * te.sz + j) undef = z.cells.getD j undef := by
      have hmod : (i' * te.sz + j) % te.sz = j := by rw [Nat.add_comm, Nat.add_mul_mod_self_right]; exact Nat.mod_eq_of_lt hj
      have hjl : j < z.cells.size := by omega
      have e3 : z.cells[j]! = z.cells.getD j undef := by rw [getElem!_pos z.cells j hjl]; simp [hjl]
      simp only [madeCells, k.sz, Array.getD_eq_getD_getElem?]
      rw [Array.getElem?_map, Array.getElem?_range, if_pos hlt]
      simp only [Option.map_some, hzs, hmod, Option.getD_some]
      rw [e3]; simp [hjl]
     rw [e2]
     exact z2.2 j (by simp [zeroA]; omega)
    ·cases h
   ·cases h
  ·cases h
 ·cases h
def allocA (T : Nat → Option TI) (S : Store) (e : Nat) : Option (A × Store) := (T e).map fun te => (.pt S.length 0 0 1, S ++ [⟨(zeroA te).length, [zeroA te], 0, true⟩])
theorem allocA_ok (s : Sim W S σ I F w.heap) (hT : TOk P T) {e : Nat} {r : A} {S' : Store} (h : allocA T S e = some (r, S')) :
  ∃ z w', (Instr.alloc e true (.tuple #[])).run P w = .ok z w' ∧ Step W S σ I F w r S' z w' := by
 obtain ⟨te, hte, h⟩ := Option.map_eq_some_iff.1 h
 injection h with h1 h2; subst h1 h2
 obtain ⟨z, z1, z2⟩ := zero_rel (S := S) (σ := σ) (I := I) (w := w) hT hte
 obtain ⟨w', e1, e2⟩ := newVar_ok s e z2.1 z2.2
 refine ⟨_, w', ?_, e2⟩
 simp only [Instr.alloc, Sem.run_bind, z1, Result.andThen_ok]
 have := e1
 simp only [newVar, Sem.run_bind, Result.andThen_ok, Sem.run_pure] at this ⊢
 rw [this]; rfl
def boxA (S : Store) (a : A) : Option (A × Store) := (cellsOf? a).map fun cs => (.pt S.length 0 0 1, S ++ [⟨cs.length, [cs], 0, true⟩])
theorem boxA_ok (s : Sim W S σ I F w.heap) {e : Nat} {a r : A} {x : Value} {S' : Store} (h : boxA S a = some (r, S')) (ra : Rel S σ I w.heap a x) :
  ∃ z w', (Instr.box e x).run P w = .ok z w' ∧ Step W S σ I F w r S' z w' := by
 obtain ⟨cs, hcs, h⟩ := Option.map_eq_some_iff.1 h
 injection h with h1 h2; subst h1 h2
 obtain ⟨c1, c2⟩ := cellsOf_ok hcs ra
 obtain ⟨w', e1, e2⟩ := newVar_ok (P := P) s e c1 c2
 refine ⟨_, w', ?_, e2⟩
 simp only [Instr.box, Sem.run_bind, e1, Result.andThen_ok, Sem.run_pure]
def s2bA (T : Nat → Option TI) (S : Store) (src dst : Nat) (a : A) : Option (A × Store) :=
 match T src, T dst, a with
 | some s, some d, .v (.string x) => match s.kind, d.kind with
  | .str, .slice e => match T e with
   | some te => if te.kind = .int .u8 ∧ te.sz = 1 then some (.sl S.length 0 x.size x.size, S ++ [⟨1, strRows x, 0, false⟩]) else none
   | none => none
  | _, _ => none
 | _, _, _ => none
theorem s2bA_ok (s : Sim W S σ I F w.heap) (hT : TOk P T) {src dst : Nat} {a r : A} {x : Value} {S' : Store} (h : s2bA T S src dst a = some (r, S')) (ra : Rel S σ I w.heap a x) :
  ∃ z w', (convert src dst x).run P w = .ok z w' ∧ Step W S σ I F w r S' z w' := by
 unfold s2bA at h
 split at h
 ·rename_i si di st hs hd
  have := relv ra; subst this
  obtain ⟨ds, us, ks⟩ := und hT hs
  obtain ⟨dd, ud, kd⟩ := und hT hd
  split at h
  ·rename_i e k1 k2
   have e3 := tk_slice (kd.symm.trans k2); subst e3
   have e4 := tk_str (ks.symm.trans k1); subst e4
   split at h
   ·rename_i te hte
    split at h
    ·rename_i hh
     injection h with h; injection h with g1 g2; subst g1 g2
     obtain ⟨de, ue, ke⟩ := und hT hte
     have e5 := tk_int (ke.symm.trans hh.1); subst e5
     have hl : (strRows st).length = st.size := by simp [strRows]
     let cap := Question.cut (.appendCap st.size 0 e) (w.tape w.drawn (.appendCap st.size 0 e))
     have hcap : st.size ≤ cap := by simp [cap, Question.cut]
     let xs : Array Value := st.data.map (fun b => Value.int .u8 b.toNat) ++ Array.replicate (cap - st.size) (.int .u8 0)
     have hxs : xs.size = cap := by
      have : st.data.size = st.size := rfl
      simp [xs, this]; omega
     have hrun : (convert src dst (.string st)).run P w = .ok (.slice (some ⟨w.heap.size, 0, none⟩) st.size cap) { w.drew with heap := w.heap.push (.cells xs e (xs.size, xs.size + 1)) } := by
      simp only [convert, Sem.run_bind, run_underlying us, run_underlying ud, run_underlying ue, Result.andThen_ok, Conv.stringToBytes, run_choose_drew, Question.forced, Bool.false_eq_true, if_false, newRow, run_newObj_alloc, Sem.run_pure, markStringish, run_shape]
      have h1 : ∀ o, (w.drew.alloc o).heap[w.drew.heap.size]? = some o := fun o => by simp only [World.alloc, World.drew]; rw [Array.getElem?_push, if_pos rfl]
      simp only [World.shape?, h1]
      simp only [Sem.run_bind, run_freeze, Result.andThen_ok, Sem.run_pure]
      congr 1
      simp only [World.freeze]
      rw [if_neg (by decide)]
      simp only [World.alloc, World.drew]
      congr 1
      apply Array.ext_getElem?
      intro i
      rw [Array.getElem?_modify, Array.getElem?_push, Array.getElem?_push]
      split
      ·rename_i e; subst e; simp [xs, cap]
      ·rename_i ne; rw [if_neg (fun e => ne e.symm), if_neg (fun e => ne e.symm)]
     refine ⟨_, _, hrun, ?_⟩
     refine newRow_ok s e 1 st.size cap hl (fun i hi => ?_) hcap (by rw [hxs, Nat.mul_one]) (fun i j hi hj => ?_) (xs.size, xs.size + 1) (fun k hk h => by simp at h; omega) rfl rfl rfl rfl
     ·simp only [List.getD_eq_getElem?_getD, strRows, List.getElem?_map]
      have : i < st.data.toList.length := by simpa using hi
      simp [List.getElem?_eq_getElem this, byteRow]
     ·have : j = 0 := by omega
      subst this
      have hi' : i < st.data.size := hi
      have e2 : ((strRows st).getD i []).getD 0 .dead = .v (.int .u8 (st.data[i]).toNat) := by
       simp only [List.getD_eq_getElem?_getD, strRows, List.getElem?_map]
       simp [Array.getElem?_eq_getElem hi', byteRow]
      have e3 : xs.getD (i * 1 + 0) undef = .int .u8 (st.data[i]).toNat := by
       simp only [xs, Nat.mul_one, Nat.add_zero, Array.getD_eq_getD_getElem?]
       rw [Array.getElem?_append_left (by simpa using hi')]
       simp [Array.getElem?_eq_getElem hi']
      rw [e2, e3]; exact .v _
    ·cases h
   ·cases h
  ·cases h
 ·cases h
def byteOfRow : List A → Option Int
 | [.v (.int .u8 n)] => some n
 | _ => none
def b2sA (T : Nat → Option TI) (S : Store) (src dst : Nat) (a : A) : Option A :=
 match T src, T dst with
 | some s, some d => match s.kind, d.kind with
  | .slice e, .str => match T e with
   | some te => if te.kind = .int .u8 then (rowsA S 1 a).bind fun rows => (rows.mapM byteOfRow).map fun ns => .v (.string (strOfNums ns)) else none
   | none => none
  | _, _ => none
 | _, _ => none
theorem mapM_bytes : ∀ {rows : List (List A)} {ns : List Int}, rows.mapM byteOfRow = some ns → rows = ns.map fun n => [.v (.int .u8 n)]
 | [], ns, h => by simp at h; subst h; rfl
 | r :: rows, ns, h => by
  simp only [List.mapM_cons, Option.bind_eq_bind] at h
  obtain ⟨n, h1, h⟩ := Option.bind_eq_some_iff.1 h
  obtain ⟨ns', h2, h⟩ := Option.bind_eq_some_iff.1 h
  injection h with h; subst h
  unfold byteOfRow at h1
  split at h1
  ·injection h1 with h1; subst h1; simp [mapM_bytes h2]
  ·cases h1
theorem b2sA_ok (s : Sim W S σ I F w.heap) (hT : TOk P T) {src dst : Nat} {a r : A} {x : Value} (h : b2sA T S src dst a = some r) (ra : Rel S σ I w.heap a x) (hns : ∀ t, a ≠ .v (.string t)) :
  ∃ z, (convert src dst x).run P w = .ok z w ∧ Rel S σ I w.heap r z := by
 unfold b2sA at h
 split at h
 ·rename_i si di hs hd
  obtain ⟨ds, us, ks⟩ := und hT hs
  obtain ⟨dd, ud, kd⟩ := und hT hd
  split at h
  ·rename_i e k1 k2
   have e3 := tk_slice (ks.symm.trans k1); subst e3
   have e4 := tk_str (kd.symm.trans k2); subst e4
   split at h
   ·rename_i te hte
    split at h
    ·rename_i hh
     obtain ⟨de, ue, ke⟩ := und hT hte
     have e5 := tk_int (ke.symm.trans hh); subst e5
     obtain ⟨rows, h1, h2⟩ := Option.bind_eq_some_iff.1 h
     obtain ⟨ns, h3, rfl⟩ := Option.map_eq_some_iff.1 h2
     have hrows := mapM_bytes h3
     obtain ⟨y1, y2, arr, y3, y4, y5⟩ := rows_ok s h1 ra
     have hlen : rows.length = ns.length := by rw [hrows]; simp
     have harr : arr = (ns.map (Value.int .u8)).toArray := by
      apply Array.ext
      ·rw [y4, hlen]; simp
      ·intro i hi1 hi2
       have hi : i < rows.length := by rw [y4] at hi1; omega
       have := y5 i 0 hi (by omega)
       have hin : i < ns.length := by omega
       have e6 : (rows.getD i []).getD 0 .dead = .v (.int .u8 ns[i]) := by
        simp [hrows, hin]
       rw [e6] at this
       have := relv this
       simp only [Nat.mul_one, Nat.add_zero] at this
       have e7 : arr.getD i undef = arr[i] := by simp [hi1]
       rw [e7] at this
       simp [this]
     have isS : ∃ base len cap, x = .slice base len cap := by
      cases ra with
      | v x =>
       simp only [rowsA] at h1
       split at h1
       ·rename_i e0; injection e0 with e0; subst e0; exact ⟨_, _, _, rfl⟩
       ·rename_i t e0; injection e0 with e0; subst e0; exact absurd rfl (hns t)
       all_goals first | cases h1 | (rename_i e0; cases e0)
      | ro0 n a c => exact ⟨_, _, _, rfl⟩
      | ro n rows ad c cs ty fr _ _ _ _ _ _ _ _ => exact ⟨_, _, _, rfl⟩
      | sl id lo hi ver a c o _ _ _ _ _ => exact ⟨_, _, _, rfl⟩
      | _ => simp [rowsA] at h1
     obtain ⟨base, len, cap, rfl⟩ := isS
     have hlen2 : len = rows.length := by
      have := y1 P; simp [Builtin.lenOf] at this; exact this
     subst hlen2
     refine ⟨_, ?_, .v _⟩
     rw [run_convert_bytes_string w src dst e base _ cap us ue ud]
     cases base with
     | none =>
      have := y3 P
      simp only [Builtin.firstCells, Sem.run_pure] at this
      injection this with this
      have hz : ns = [] := by
       have : arr.size = 0 := by rw [← this]; rfl
       rw [y4, hlen] at this
       exact List.length_eq_zero_iff.1 (by omega)
      subst hz
      simp [Conv.bytesToString, strOfNums]; rfl
     | some ad =>
      have := y3 P
      simp only [Builtin.firstCells, Nat.mul_one] at this
      rw [harr] at this
      rw [run_bytesToString w ad _ cap ns this, foldl_push_bytes]
      simp [strOfNums, ByteArray.empty, ByteArray.emptyWithCapacity]
      rfl
    ·cases h
   ·cases h
  ·cases h
 ·cases h
def copyA (T : Nat → Option TI) (S : Store) (wr : Nat → Bool) (t : Nat) (a b : A) : Option (A × Store) :=
 match T t, a with
 | some ti, .sl id lo hi ver => match ti.kind with
  | .slice e => match szA T e, S[id]? with
   | some sz, some o => match rowsA S sz b with
    | some ys => if o.rows.length = ver ∧ o.st = 0 ∧ o.n = sz ∧ wr id = true ∧ leafRows ys = true ∧ hi ≤ ver then
      let k := Nat.min ys.length (hi - lo)
      some (.v (.int .i64 k), S.set id ⟨o.n, o.rows.take lo ++ ys.take k ++ o.rows.drop (lo + k), 0, o.bx⟩)
     else none
    | none => none
   | _, _ => none
  | _ => none
 | _, _ => none
theorem take_getD (ys : List (List A)) (k i : Nat) (h : i < k) : (ys.take k).getD i [] = ys.getD i [] := by
 simp only [List.getD_eq_getElem?_getD, List.getElem?_take]; rw [if_pos h]
theorem rows_take_ok (s : Sim W S σ I F w.heap) {sz : Nat} {a : A} {rows : List (List A)} {x : Value} (h : rowsA S sz a = some rows) (r : Rel S σ I w.heap a x) (k : Nat) (hk : k ≤ rows.length) :
  ∃ arr : Array Value, (∀ P, (Builtin.firstCells sz k x).run P w = .ok arr w) ∧ arr.size = k * sz ∧ ∀ i j, i < k → j < sz → Rel S σ I w.heap ((rows.getD i []).getD j .dead) (arr.getD (i * sz + j) undef) := by
 obtain ⟨y1, y2, arr, y3, y4, y5⟩ := rows_ok s h r
 have lt : ∀ {i j n : Nat}, i < n → j < sz → i * sz + j < n * sz := fun {i j n} hi hj => by
  have : (i + 1) * sz ≤ n * sz := Nat.mul_le_mul_right _ hi
  rw [Nat.add_mul, Nat.one_mul] at this; omega
 have hm : k * sz ≤ rows.length * sz := Nat.mul_le_mul_right _ hk
 have loaded : ∀ {ad : Addr} {c : Array Value} {len : Nat} {ty : TypeId} {fr : Nat × Nat} {b : Array Value}, ad.spot = none → w.heap[ad.block]? = some (.cells b ty fr) → ad.off + len * sz ≤ b.size → k ≤ len → (∀ P, (loadCells ad (len * sz)).run P w = .ok c w) →
   ∃ arr : Array Value, (∀ P, (loadCells ad (k * sz)).run P w = .ok arr w) ∧ arr.size = k * sz ∧ ∀ q, q < k * sz → arr.getD q undef = c.getD q undef := by
  intro ad c len ty fr b hs hb hl hkl hc
  obtain ⟨bk, of, sp⟩ := ad; simp only at hs hb hl; subst hs
  have hm : k * sz ≤ len * sz := Nat.mul_le_mul_right _ hkl
  have e1 : c = ((List.range (len * sz)).map fun j => b.getD (of + j) undef).toArray := by
   have h1 := hc default; rw [run_loadCells_b default hb _ hl] at h1; injection h1 with h1; exact h1.symm
  refine ⟨_, fun P => run_loadCells_b P hb _ (by omega), by simp, fun q hq => ?_⟩
  rw [e1]; simp [hq, show q < len * sz by omega]
 cases r with
 | v x =>
  simp only [rowsA] at h
  split at h
  ·injection h with h; subst h
   rename_i e; injection e with e; subst e
   have : k = 0 := by simpa using hk
   subst this
   exact ⟨#[], fun P => rfl, by simp, fun i j hi => by omega⟩
  ·rename_i st e; injection e with e; subst e
   split at h
   ·rename_i e1; injection h with h; subst h; subst e1
    have hl : (strRows st).length = st.size := by simp [strRows]
    have hks : k ≤ st.data.size := by rw [hl] at hk; exact hk
    have e2 : ∀ P, (Builtin.firstCells 1 k (.string st)).run P w = .ok ((st.extract 0 k).data.map fun b => .int .u8 b.toNat) w := fun P => rfl
    have e3 := y3 default
    rw [hl] at e3
    have e4 : arr = st.data.map fun b => .int .u8 b.toNat := by
     have : (Builtin.firstCells 1 st.size (.string st)).run default w = .ok ((st.extract 0 st.size).data.map fun b => .int .u8 b.toNat) w := rfl
     rw [this, ByteArray.extract_zero_size] at e3
     injection e3 with e3; exact e3.symm
    refine ⟨_, e2, ?_, fun i j hi hj => ?_⟩
    ·simp [ByteArray.data_extract]; omega
    ·have := y5 i j (by omega) hj
     have e5 : ((st.extract 0 k).data.map fun b => Value.int .u8 b.toNat).getD (i * 1 + j) undef = arr.getD (i * 1 + j) undef := by
      rw [e4]
      have : i * 1 + j < k := by omega
      simp only [Array.getD_eq_getD_getElem?, Array.getElem?_map, ByteArray.data_extract, Array.getElem?_extract]
      simp only [Nat.zero_add]
      rw [if_pos (by omega)]
     rw [e5]; exact this
   ·cases h
  all_goals first | cases h | (rename_i e; cases e)
 | ro0 n a c =>
  have : rows = [] := by
   simp only [rowsA] at h; split at h
   ·injection h with h; exact h.symm
   ·cases h
  subst this
  have : k = 0 := by simpa using hk
  subst this
  refine ⟨#[], fun P => ?_, by simp, fun i j hi => by omega⟩
  cases a <;> simp [Builtin.firstCells, loadCells, loadCellsFrom]
 | ro n l ad c b ty fr hs hI hb hn hsz hcap hfl hc =>
  simp only [rowsA] at h
  split at h
  ·rename_i e; subst e; injection h with h; subst h
   obtain ⟨arr', k1, k2, k3⟩ := loaded (c := arr) hs hb hsz hk (fun P => by have := y3 P; simpa [Builtin.firstCells] using this)
   exact ⟨arr', fun P => by simpa [Builtin.firstCells] using k1 P, k2, fun i j hi hj => by rw [k3 _ (lt hi hj)]; exact y5 i j (by omega) hj⟩
  ·cases h
 | sl id lo hi ver a c o ho h1 h2 h3 hf =>
  simp only [rowsA, ho] at h
  split at h
  ·rename_i e; obtain ⟨e1, e2⟩ := e; subst e2; injection h with h
   have hl : rows.length = hi - lo := by rw [← h]; simp; omega
   cases a with
   | none =>
    have hff := hf e1.symm
    clear hf
    have hz : k = 0 := by
     rcases hff with ⟨q1, q2, q3⟩ | ⟨ad, b, ty, fr, q1, q2, q3, q4, q5, q6⟩
     ·have z0 := (s.ob id o ho).none_ q1; have z1 : o.rows.length = 0 := (by rw [z0]; rfl); omega
     ·rcases Nat.eq_zero_or_pos c with h0 | h0
      ·omega
      ·cases q3 h0
    subst hz
    exact ⟨#[], fun P => rfl, by simp, fun i j hi => by omega⟩
   | some aa =>
    rcases Nat.eq_zero_or_pos k with hz | hz
    ·subst hz
     exact ⟨#[], fun P => by simp [Builtin.firstCells, loadCells, loadCellsFrom], by simp, fun i j hi => by omega⟩
    ·have hff := hf e1.symm
     clear hf
     rcases hff with ⟨q1, q2, q3⟩ | ⟨ad, b, ty, fr, q1, q2, q3, q4, q5, q6⟩
     ·have z0 := (s.ob id o ho).none_ q1; have z1 : o.rows.length = 0 := (by rw [z0]; rfl); omega
     ·have := q3 (by omega); injection this with this; subst this
      have m1 : (hi - lo) * o.n ≤ c * o.n := Nat.mul_le_mul_right _ (by omega)
      rw [Nat.add_mul] at q5
      obtain ⟨arr', k1, k2, k3⟩ := loaded (ad := ⟨ad.block, ad.off + lo * o.n, none⟩) (c := arr) (len := rows.length) rfl q4 (by rw [hl]; simp only; omega) hk (fun P => by have := y3 P; simpa [Builtin.firstCells] using this)
      exact ⟨arr', fun P => by simpa [Builtin.firstCells] using k1 P, k2, fun i j hi hj => by rw [k3 _ (lt hi hj)]; exact y5 i j (by omega) hj⟩
  ·cases h
 | _ => simp [rowsA] at h
theorem copyA_ok (s : Sim W S σ I F w.heap) (hT : TOk P T) {wr : Nat → Bool} (hwr : ∀ id, wr id = true → W.w id) {t t2 ty : Nat} {a b r : A} {x y : Value} {S' : Store} (h : copyA T S wr t a b = some (r, S')) (ra : Rel S σ I w.heap a x) (rb : Rel S σ I w.heap b y) :
  ∃ z w', (Builtin.copy_ #[t, t2] ty #[x, y]).run P w = .ok z w' ∧ Step W S σ I F w r S' z w' := by
 unfold copyA at h
 split at h
 ·rename_i ti id lo hi ver ht
  obtain ⟨d, ud, kd⟩ := und hT ht
  split at h
  ·rename_i e hk
   have e3 := tk_slice (kd.symm.trans hk); subst e3
   split at h
   ·rename_i sz o hz ho
    split at h
    ·rename_i ys hys
     split at h
     ·rename_i hh
      obtain ⟨g1, g2, g3, g4, g5, g6⟩ := hh
      injection h with h; injection h with e1 e2; subst e1 e2
      have hk0 : Nat.min ys.length (hi - lo) ≤ ys.length := Nat.min_le_left _ _
      have hk1 : Nat.min ys.length (hi - lo) ≤ hi - lo := Nat.min_le_right _ _
      obtain ⟨y1, y2, _⟩ := rows_ok s hys rb
      obtain ⟨arr, y3, y4, y5⟩ := rows_take_ok s hys rb _ hk0
      generalize hkk : Nat.min ys.length (hi - lo) = k at *
      subst g3
      cases ra with
      | sl _ _ _ _ x1 c o₁ ho₁ q1 q2 q3 hf =>
       rw [ho] at ho₁; injection ho₁ with ho₁; subst ho₁
       have gW := hwr _ g4
       have q := s.ob id o ho
       have hff := hf g1.symm
       clear hf
       have run1 : ∀ w', (match x1 with | some a => (storeCells a arr.toList).run P w | none => .ok () w) = .ok () w' → (Builtin.copy_ #[t, t2] ty #[.slice x1 (hi - lo) c, y]).run P w = .ok (.int .i64 k) w' := fun w' hs => by
        have hm : ys.length.min (hi - lo) = k := hkk
        simp only [Builtin.copy_, Array.getElem?_eq_getElem, List.size_toArray, List.length_cons, List.length_nil, Nat.reduceAdd, Nat.reduceLT, List.getElem_toArray, List.getElem_cons_zero, List.getElem_cons_succ, Sem.run_bind, run_underlying ud, Result.andThen_ok, y1 P, size_ok hT hz, hm, y3 P]
        cases x1 with
        | none => simp only at hs; injection hs with _ hs; subst hs; simp [goInt]
        | some a => simp only at hs; simp [hs, goInt]
       have lenq : ∀ i, i < o.rows.length → (o.rows.getD i []).length = o.n := q.len
       rcases Nat.eq_zero_or_pos k with hz0 | hz0
       ·have hk2 : k = 0 := hz0
        have : arr = #[] := by
         have : arr.size = 0 := by rw [y4, hk2]; simp
         simpa using this
        subst this
        have hset : S.set id ⟨o.n, o.rows.take lo ++ ys.take k ++ o.rows.drop (lo + k), 0, o.bx⟩ = S := by
         have : (⟨o.n, o.rows.take lo ++ ys.take k ++ o.rows.drop (lo + k), 0, o.bx⟩ : Ob) = o := by
          rw [hk2]; simp only [List.take_zero, List.append_nil, Nat.add_zero, List.take_append_drop]; rw [← g2]
         rw [this]
         apply List.ext_getElem?
         intro i
         rw [getElem?_set' _ _ _ _ (List.getElem?_eq_some_iff.1 ho).1]
         split
         ·rename_i e; subst e; exact ho.symm
         ·rfl
        rw [hset]
        exact ⟨_, w, run1 w (by cases x1 <;> rfl), Step.same s (.v _)⟩
       ·rcases hff with ⟨f1, f2, f3⟩ | ⟨ad, bb, ty', fr, f1, f2, f3, f4, f5, f6⟩
        ·have z0 := q.none_ f1; have z1 : o.rows.length = 0 := (by rw [z0]; rfl); omega
        ·have e7 := f3 (by omega); subst e7
         obtain ⟨k1, k2, k3, b', ty', fr', k4, k5, k6, k7⟩ := q.there ad f1
         rw [f4] at k4; injection k4 with k4; injection k4 with j1 j2 j3; subst j1 j2 j3
         have m1 : (lo + k) * o.n ≤ o.rows.length * o.n := Nat.mul_le_mul_right _ (by omega)
         have m2 : (lo + k) * o.n = lo * o.n + k * o.n := Nat.add_mul _ _ _
         have hsl : (o.rows.take lo ++ ys.take k ++ o.rows.drop (lo + k)).length = o.rows.length := by simp; omega
         have hget : ∀ i, (o.rows.take lo ++ ys.take k ++ o.rows.drop (lo + k)).getD i [] = if lo ≤ i ∧ i < lo + k then ys.getD (i - lo) [] else o.rows.getD i [] := fun i => by
          rw [getD_append_rows, getD_append_rows]
          have h1 : (o.rows.take lo).length = lo := by simp; omega
          have h2 : (ys.take k).length = k := by simp; omega
          simp only [List.length_append, h1, h2]
          by_cases c1 : i < lo
          ·rw [if_pos (by omega), if_pos c1, if_neg (by omega)]
           exact take_getD _ _ _ c1
          ·by_cases c2 : i < lo + k
           ·rw [if_pos c2, if_neg c1, if_pos (by omega)]
            exact take_getD _ _ _ (by omega)
           ·rw [if_neg c2, if_neg (by omega)]
            simp only [List.getD_eq_getElem?_getD, List.getElem?_drop]; congr 2; omega
         have al : ∀ z ∈ arr.toList, z.oneCell' = true := arr_leaf (ys := ys.take k) (sz := o.n) (by
           apply List.all_eq_true.2; intro z hz'; exact List.all_eq_true.1 g5 z (List.mem_of_mem_take hz')) (fun i hi' => by
           have : i < k := by simp at hi'; omega
           rw [take_getD _ _ _ this]; exact y2 i (by omega)) (by rw [y4]; congr 1; simp; omega) (fun i j hi' hj => by
           have : i < k := by simp at hi'; omega
           rw [take_getD _ _ _ this]; exact y5 i j this hj)
         obtain ⟨w', e1, e2, e3, e4, e5, e6, cs2, z1, z2⟩ := write_ok s ho gW g2 f1 f4 (lo * o.n) arr.toList al (by simp [y4]; omega) ⟨o.n, o.rows.take lo ++ ys.take k ++ o.rows.drop (lo + k), 0, o.bx⟩ rfl rfl (by simp only [hsl]; omega)
          (fun i hi' => by
           simp only [hsl] at hi'
           simp only [hget]
           split
           ·exact y2 _ (by omega)
           ·exact lenq i hi') (by simp only [hsl]; omega) (fun i j hi' hj => by
          simp only [hsl] at hi'
          simp only at hj
          simp only [hget]
          split
          ·rename_i hc
           have i1 : lo ≤ i := by
            rcases Nat.lt_or_ge i lo with h | h
            ·have : (i + 1) * o.n ≤ lo * o.n := Nat.mul_le_mul_right _ h
             rw [Nat.add_mul, Nat.one_mul] at this; omega
            ·exact h
           have i2 : i < lo + k := by
            rcases Nat.lt_or_ge i (lo + k) with h | h
            ·exact h
            ·have : (lo + k) * o.n ≤ i * o.n := Nat.mul_le_mul_right _ h
             rw [Nat.add_mul] at this
             simp only [Array.length_toList, y4] at hc; omega
           rw [if_pos ⟨i1, i2⟩]
           have := y5 (i - lo) j (by omega) hj
           have e5 : i * o.n + j - lo * o.n = (i - lo) * o.n + j := by
            have : i * o.n = lo * o.n + (i - lo) * o.n := by rw [← Nat.add_mul]; congr 1; omega
            omega
           rw [e5]
           have hk : (i - lo) * o.n + j < arr.size := by
            have : (i - lo + 1) * o.n ≤ k * o.n := Nat.mul_le_mul_right _ (by omega)
            rw [Nat.add_mul, Nat.one_mul] at this; omega
           simpa [hk] using this
          ·rename_i hc
           rw [if_neg]
           ·exact ⟨hi', rfl⟩
           ·intro hcc
            apply hc
            have a1 : lo * o.n ≤ i * o.n := Nat.mul_le_mul_right _ hcc.1
            have a2 : (i + 1) * o.n ≤ (lo + k) * o.n := Nat.mul_le_mul_right _ hcc.2
            rw [Nat.add_mul, Nat.one_mul, Nat.add_mul] at a2
            simp only [Array.length_toList, y4]; omega)
         exact ⟨_, w', run1 w' (e1 P), σ, I, F, e2, e3, .v _, e4, e5, e6⟩
     ·cases h
    ·cases h
   ·cases h
  ·cases h
 ·cases h
def mmA (isMax : Bool) (a b : A) : Option A :=
 match a, b with
 | .v (.int k x), .v (.int _ y) => some (.v (.int k (if isMax then (if y > x then y else x) else (if y < x then y else x))))
 | _, _ => none
theorem mmA_ok {isMax : Bool} {ts : Array TypeId} {ty : Nat} {a b r : A} {x y : Value} (h : mmA isMax a b = some r) (ra : Rel S σ I w.heap a x) (rb : Rel S σ I w.heap b y) :
  ∃ z, (if isMax then Builtin.max_ ts ty #[x, y] else Builtin.min_ ts ty #[x, y]).run P w = .ok z w ∧ Rel S σ I w.heap r z := by
 unfold mmA at h
 split at h
 ·have := relv ra; subst this; have := relv rb; subst this
  injection h with h; subst h
  cases isMax
  ·exact ⟨_, rfl, .v _⟩
  ·exact ⟨_, rfl, .v _⟩
 ·cases h
def extA (a : A) (i : Nat) : Option A := match a with | .tu l => l[i]? | _ => none
theorem extA_ok {a r : A} {i : Nat} {x : Value} (h : extA a i = some r) (ra : Rel S σ I w.heap a x) : ∃ z, (Instr.extract x i).run P w = .ok z w ∧ Rel S σ I w.heap r z := by
 unfold extA at h
 split at h
 ·rename_i l
  cases ra with
  | tu l vs hl hc =>
   have hlt := (List.getElem?_eq_some_iff.1 h).1
   have e1 : vs[i]? = some (vs.getD i undef) := getElem?_getD (by omega)
   refine ⟨vs.getD i undef, ?_, ?_⟩
   ·simp only [Instr.extract, e1, Sem.run_pure]
   ·have := hc i hlt
    simpa [h] using this
 ·cases h
def prtA (T : Nat → Option TI) (t : Nat) (a : A) (f : Nat) : Option A :=
 match fldA T t f, a with
 | some (o, u), .ag cs => match T u with
  | some tu => (cutA cs o tu.sz).bind fun l => mkA tu.agg l
  | none => none
 | _, _ => none
theorem prtA_ok (hT : TOk P T) {t f : Nat} {a r : A} {x : Value} (h : prtA T t a f = some r) (ra : Rel S σ I w.heap a x) : ∃ z, (Instr.field t x f).run P w = .ok z w ∧ Rel S σ I w.heap r z := by
 unfold prtA at h
 split at h
 ·rename_i o u cs hf
  obtain ⟨fs, g, u1, u2, rfl, rfl⟩ := fldA_ok hT hf
  split at h
  ·rename_i tu htu
   obtain ⟨l, h1, h2⟩ := Option.bind_eq_some_iff.1 h
   obtain ⟨c1, c2, c3⟩ := cutA_some h1
   obtain ⟨i, d, z, k⟩ := tiOf_ok (hT _ _ htu)
   cases ra with
   | ag _ xs hl hc =>
    have hagg : (isAgg g.type).run P w = .ok tu.agg w := by
     have := k.agg
     simp only [isAgg, Sem.run_bind, run_underlying k.und, Result.andThen_ok]
     rw [this]; cases d <;> rfl
    have hz : (sizeOf g.type).run P w = .ok tu.sz w := by simp [sizeOf, typeInfo, k.info, k.sz]
    have pre : (Instr.field t (.agg xs) f).run P w = (part g.type xs g.offset).run P w := by
     simp only [Instr.field, Sem.run_bind, run_underlying u1, Result.andThen_ok, u2, asAgg, Sem.run_pure]
    unfold mkA at h2
    by_cases ha : tu.agg = true
    ·rw [if_pos ha] at h2; injection h2 with h2; subst h2
     refine ⟨.agg (xs.extract g.offset (g.offset + tu.sz)), ?_, .ag l _ (by simp; omega) fun j hj => ?_⟩
     ·rw [pre]; simp only [part, Sem.run_bind, hagg, ha, Result.andThen_ok, if_true, hz, Sem.run_pure]
     ·have := hc (g.offset + j) (by omega)
      rw [c3 j (by omega)]
      have e1 : (xs.extract g.offset (g.offset + tu.sz)).getD j undef = xs.getD (g.offset + j) undef := by
       simp only [Array.getD_eq_getD_getElem?, Array.getElem?_extract]
       rw [if_pos (by omega)]
      rw [e1]; exact this
    ·rw [if_neg ha] at h2
     have ha' : tu.agg = false := by simpa using ha
     split at h2
     ·rename_i q
      injection h2 with h2; subst h2
      simp only [List.length_cons, List.length_nil] at c2
      have := hc g.offset (by omega)
      have e2 := c3 0 (by omega)
      simp only [List.getD_cons_zero, Nat.add_zero] at e2
      refine ⟨xs.getD g.offset undef, ?_, by rw [e2]; exact this⟩
      rw [pre]
      have e1 : xs[g.offset]? = some (xs.getD g.offset undef) := getElem?_getD (by omega)
      simp only [part, Sem.run_bind, hagg, ha', Result.andThen_ok, Bool.false_eq_true, if_false, e1, Sem.run_pure]
     ·cases h2
  ·cases h
 ·cases h
def clrA (T : Nat → Option TI) (S : Store) (wr : Nat → Bool) (t : Nat) (a : A) : Option (A × Store) :=
 match T t, a with
 | some ti, .sl id lo hi ver => match ti.kind with
  | .slice e => match T e, S[id]? with
   | some te, some o => if o.rows.length = ver ∧ o.st = 0 ∧ o.n = te.sz ∧ wr id = true ∧ hi ≤ ver ∧ te.zero.length = te.sz then
     some (.tu [], S.set id ⟨o.n, o.rows.take lo ++ List.replicate (hi - lo) (zeroA te) ++ o.rows.drop (lo + (hi - lo)), 0, o.bx⟩)
    else none
   | _, _ => none
  | _ => none
 | _, _ => none
theorem clrA_ok (s : Sim W S σ I F w.heap) (hT : TOk P T) {wr : Nat → Bool} (hwr : ∀ id, wr id = true → W.w id) {t ty : Nat} {a r : A} {x : Value} {S' : Store} (h : clrA T S wr t a = some (r, S')) (ra : Rel S σ I w.heap a x) :
  ∃ z w', (Builtin.clear_ #[t] ty #[x]).run P w = .ok z w' ∧ Step W S σ I F w r S' z w' := by
 unfold clrA at h
 split at h
 ·rename_i ti id lo hi ver ht
  obtain ⟨d, ud, kd⟩ := und hT ht
  split at h
  ·rename_i e hk
   have e3 := tk_slice (kd.symm.trans hk); subst e3
   split at h
   ·rename_i te o hz ho
    split at h
    ·rename_i hh
     obtain ⟨g1, g2, g3, g4, g6, g7⟩ := hh
     injection h with h; injection h with e1 e2; subst e1 e2
     obtain ⟨z, z1, z2⟩ := zero_rel (S := S) (σ := σ) (I := I) (w := w) hT hz
     have hzs : z.cells.size = te.sz := by rw [z2.1]; simp [zeroA, g7]
     generalize hkk : hi - lo = k at *
     cases ra with
     | sl _ _ _ _ x1 c o₁ ho₁ q1 q2 q3 hf =>
      rw [ho] at ho₁; injection ho₁ with ho₁; subst ho₁
      have gW := hwr _ g4
      have q := s.ob id o ho
      have hff := hf g1.symm
      clear hf
      rw [hkk]
      have lenq : ∀ i, i < o.rows.length → (o.rows.getD i []).length = o.n := q.len
      rcases Nat.eq_zero_or_pos k with hz0 | hz0
      ·have hset : S.set id ⟨o.n, o.rows.take lo ++ List.replicate k (zeroA te) ++ o.rows.drop (lo + k), 0, o.bx⟩ = S := by
        have : (⟨o.n, o.rows.take lo ++ List.replicate k (zeroA te) ++ o.rows.drop (lo + k), 0, o.bx⟩ : Ob) = o := by
         rw [hz0]; simp only [List.replicate_zero, List.append_nil, Nat.add_zero, List.take_append_drop]; rw [← g2]
        rw [this]
        apply List.ext_getElem?
        intro i
        rw [getElem?_set' _ _ _ _ (List.getElem?_eq_some_iff.1 ho).1]
        split
        ·rename_i e; subst e; exact ho.symm
        ·rfl
       rw [hset, hz0]
       refine ⟨_, w, ?_, Step.same s (.tu [] #[] rfl fun i hi => by simp at hi)⟩
       cases x1 <;> simp [Builtin.clear_, run_underlying ud]
      ·rcases hff with ⟨f1, f2, f3⟩ | ⟨ad, bb, ty', fr, f1, f2, f3, f4, f5, f6⟩
       ·have z0 := q.none_ f1; have z1 : o.rows.length = 0 := (by rw [z0]; rfl); omega
       ·have e7 := f3 (by omega); subst e7
        obtain ⟨k1, k2, k3, b', ty', fr', k4, k5, k6, k7⟩ := q.there ad f1
        rw [f4] at k4; injection k4 with k4; injection k4 with j1 j2 j3; subst j1 j2 j3
        have m1 : (lo + k) * o.n ≤ o.rows.length * o.n := Nat.mul_le_mul_right _ (by omega)
        have m2 : (lo + k) * o.n = lo * o.n + k * o.n := Nat.add_mul _ _ _
        have hsl : (o.rows.take lo ++ List.replicate k (zeroA te) ++ o.rows.drop (lo + k)).length = o.rows.length := by simp; omega
        have hzl : (zeroA te).length = o.n := by simp [zeroA, g7, g3]
        have hget : ∀ i, (o.rows.take lo ++ List.replicate k (zeroA te) ++ o.rows.drop (lo + k)).getD i [] = if lo ≤ i ∧ i < lo + k then zeroA te else o.rows.getD i [] := fun i => by
         rw [getD_append_rows, getD_append_rows]
         have h1 : (o.rows.take lo).length = lo := by simp; omega
         simp only [List.length_append, h1, List.length_replicate]
         by_cases c1 : i < lo
         ·rw [if_pos (by omega), if_pos c1, if_neg (by omega)]
          exact take_getD _ _ _ c1
         ·by_cases c2 : i < lo + k
          ·rw [if_pos c2, if_neg c1, if_pos (by omega)]
           have : i - lo < k := by omega
           simp [this]
          ·rw [if_neg c2, if_neg (by omega)]
           simp only [List.getD_eq_getElem?_getD, List.getElem?_drop]; congr 2; omega
        have hza : (Builtin.zeroCells z.cells k).size = k * o.n := by simp [Builtin.zeroCells, hzs, g3]
        have hzg : ∀ i j, i < k → j < o.n → (Builtin.zeroCells z.cells k).toList.getD (i * o.n + j) undef = z.cells.getD j undef := fun i j hi hj => by
         have hlt : i * o.n + j < k * o.n := by
          have : (i + 1) * o.n ≤ k * o.n := Nat.mul_le_mul_right _ hi
          rw [Nat.add_mul, Nat.one_mul] at this; omega
         have hmod : (i * o.n + j) % o.n = j := by rw [Nat.add_comm, Nat.add_mul_mod_self_right]; exact Nat.mod_eq_of_lt hj
         have hjl : j < z.cells.size := by omega
         have e3 : z.cells[j]! = z.cells.getD j undef := by rw [getElem!_pos z.cells j hjl]; simp [hjl]
         simp only [Builtin.zeroCells]
         rw [List.getD_eq_getElem?_getD, Array.getElem?_toList, Array.getElem?_map, Array.getElem?_range, hzs, ← g3, if_pos hlt]
         simp only [Option.map_some, hmod, Option.getD_some]
         exact e3
        have al : ∀ y ∈ (Builtin.zeroCells z.cells k).toList, y.oneCell' = true := arr_leaf (ys := List.replicate k (zeroA te)) (sz := o.n) (by
          apply List.all_eq_true.2; intro y hy; rw [(List.mem_replicate.1 hy).2]
          apply List.all_eq_true.2; intro y hy; obtain ⟨zz, _, rfl⟩ := List.mem_map.1 hy; cases zz <;> rfl) (fun i hi' => by
          have : i < k := by simpa using hi'
          simp [this, hzl]) (by rw [hza]; simp) (fun i j hi' hj => by
          have : i < k := by simpa using hi'
          have e1 : (List.replicate k (zeroA te)).getD i [] = zeroA te := by simp [this]
          have e2 := hzg i j this hj
          rw [e1]
          have e3 : (Builtin.zeroCells z.cells k).getD (i * o.n + j) undef = z.cells.getD j undef := by rw [← e2]; simp
          rw [e3]; exact z2.2 j (by omega))
        obtain ⟨w', e1, e2, e3, e4, e5, e6, cs2, y1, y2⟩ := write_ok s ho gW g2 f1 f4 (lo * o.n) (Builtin.zeroCells z.cells k).toList al (by simp only [Array.length_toList, hza]; omega) ⟨o.n, o.rows.take lo ++ List.replicate k (zeroA te) ++ o.rows.drop (lo + k), 0, o.bx⟩ rfl rfl (by simp only [hsl]; omega)
         (fun i hi' => by
          simp only [hsl] at hi'
          simp only [hget]
          split
          ·exact hzl
          ·exact lenq i hi') (by simp only [hsl]; omega) (fun i j hi' hj => by
         simp only [hsl] at hi'
         simp only at hj
         simp only [hget]
         split
         ·rename_i hc
          have i1 : lo ≤ i := by
           rcases Nat.lt_or_ge i lo with h | h
           ·have : (i + 1) * o.n ≤ lo * o.n := Nat.mul_le_mul_right _ h
            rw [Nat.add_mul, Nat.one_mul] at this; omega
           ·exact h
          have i2 : i < lo + k := by
           rcases Nat.lt_or_ge i (lo + k) with h | h
           ·exact h
           ·have : (lo + k) * o.n ≤ i * o.n := Nat.mul_le_mul_right _ h
            rw [Nat.add_mul] at this
            simp only [Array.length_toList, hza] at hc; omega
          rw [if_pos ⟨i1, i2⟩]
          have e5 : i * o.n + j - lo * o.n = (i - lo) * o.n + j := by
           have : i * o.n = lo * o.n + (i - lo) * o.n := by rw [← Nat.add_mul]; congr 1; omega
           omega
          rw [e5, hzg _ _ (by omega) hj]
          exact z2.2 j (by omega)
         ·rename_i hc
          rw [if_neg]
          ·exact ⟨hi', rfl⟩
          ·intro hcc
           apply hc
           have a1 : lo * o.n ≤ i * o.n := Nat.mul_le_mul_right _ hcc.1
           have a2 : (i + 1) * o.n ≤ (lo + k) * o.n := Nat.mul_le_mul_right _ hcc.2
           rw [Nat.add_mul, Nat.one_mul, Nat.add_mul] at a2
           simp only [Array.length_toList, hza]; omega)
        refine ⟨_, w', ?_, σ, I, F, e2, e3, .tu [] #[] rfl fun i hi => by simp at hi, e4, e5, e6⟩
        have hk0 : k ≠ 0 := by omega
        obtain ⟨k', rfl⟩ : ∃ k', k = k' + 1 := ⟨k - 1, by omega⟩
        simp [Builtin.clear_, run_underlying ud, z1, e1 P]
    ·cases h
   ·cases h
  ·cases h
 ·cases h
end
end Go.Proofs.YtomklniddinhnaaE
