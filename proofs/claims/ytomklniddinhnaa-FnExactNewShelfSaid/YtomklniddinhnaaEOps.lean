/- Part of the proof: an evaluator (YtomklniddinhnaaEOp). -/
import Derived.Test.YtomklniddinhnaaEDef
set_option linter.unusedVariables false
set_option linter.unusedSimpArgs false
set_option linter.unusedSectionVars false
namespace Go.Proofs.YtomklniddinhnaaE
open Go
inductive Z where | int (k : IntKind) | bool | str | nslice | nptr | nfunc | niface
 deriving DecidableEq, Inhabited
def Z.val : Z → Value
 | .int k => .int k 0 | .bool => .bool false | .str => .string ⟨#[]⟩ | .nslice => .slice none 0 0 | .nptr => .pointer none | .nfunc => .nilFunc | .niface => .nilIface
def zOf : Value → Option Z
 | .int k n => if n = 0 then some (.int k) else none
 | .bool b => if b = false then some .bool else none
 | .string s => if s.data = #[] then some .str else none
 | .slice none 0 0 => some .nslice | .pointer none => some .nptr | .nilFunc => some .nfunc | .nilIface => some .niface
 | _ => none
theorem zOf_val {x : Value} {z : Z} (h : zOf x = some z) : x = z.val := by
 unfold zOf at h
 split at h
 ·split at h <;> first | (injection h with h; subst h; subst_vars; rfl) | cases h
 ·split at h <;> first | (injection h with h; subst h; subst_vars; rfl) | cases h
 ·rename_i s; split at h
  ·rename_i e; injection h with h; subst h; cases s; simp at e; subst e; rfl
  ·cases h
 all_goals first | (injection h with h; subst h; rfl) | cases h
inductive TK where | int (k : IntKind) | bool | str | slice (e : Nat) | struct (fs : List (Nat × Nat)) | arr (n e : Nat) | other
 deriving DecidableEq, Inhabited
def tkOf : TypeDesc → TK
 | .int k => .int k | .bool => .bool | .string => .str | .slice e => .slice e | .array n e => .arr n e
 | .struct fs => .struct (fs.toList.map fun f => (f.offset, f.type)) | _ => .other
structure TI where
 agg : Bool
 sz : Nat
 bytes : Nat
 zero : List Z
 kind : TK
 deriving DecidableEq, Inhabited
def aggD : TypeDesc → Bool | .struct _ | .array _ _ => true | _ => false
def tiOf (P : Program) (t : Nat) : Option TI :=
 match P.info? t, P.underlying t with
 | some i, some d => match i.zero with
  | some z => (z.cells.toList.mapM zOf).map fun zs => ⟨aggD d, i.size, i.bytes, zs, tkOf d⟩
  | none => none
 | _, _ => none
theorem mapM_zOf : ∀ {l : List Value} {zs : List Z}, l.mapM zOf = some zs → l = zs.map Z.val
 | [], zs, h => by simp at h; subst h; rfl
 | x :: l, zs, h => by
  simp only [List.mapM_cons, Option.bind_eq_bind] at h
  obtain ⟨z, hz, h⟩ := Option.bind_eq_some_iff.1 h
  obtain ⟨zs', hzs, h⟩ := Option.bind_eq_some_iff.1 h
  injection h with h; subst h
  simp [mapM_zOf hzs, zOf_val hz]
structure TIok (P : Program) (t : Nat) (ti : TI) (i : TypeInfo) (d : TypeDesc) (z : Value) : Prop where
 info : P.info? t = some i
 und : P.underlying t = some d
 sz : i.size = ti.sz
 bytes : i.bytes = ti.bytes
 zero : i.zero = some z
 cells : z.cells.toList = ti.zero.map Z.val
 agg : ti.agg = aggD d
 kind : ti.kind = tkOf d
theorem tiOf_ok {P : Program} {t : Nat} {ti : TI} (h : tiOf P t = some ti) : ∃ i d z, TIok P t ti i d z := by
 unfold tiOf at h
 split at h
 ·rename_i i d hi hd
  split at h
  ·rename_i z hz
   obtain ⟨zs, h1, h2⟩ := Option.map_eq_some_iff.1 h
   subst h2
   exact ⟨i, d, z, hi, hd, rfl, rfl, hz, mapM_zOf h1, rfl, rfl⟩
  ·cases h
 ·cases h
theorem tk_slice {d : TypeDesc} {e : Nat} (h : tkOf d = .slice e) : d = .slice e := by cases d <;> simp [tkOf] at h; subst h; rfl
theorem tk_arr {d : TypeDesc} {n e : Nat} (h : tkOf d = .arr n e) : d = .array n e := by cases d <;> simp [tkOf] at h; obtain ⟨rfl, rfl⟩ := h; rfl
theorem tk_int {d : TypeDesc} {k : IntKind} (h : tkOf d = .int k) : d = .int k := by cases d <;> simp [tkOf] at h; subst h; rfl
theorem tk_str {d : TypeDesc} (h : tkOf d = .str) : d = .string := by cases d <;> simp [tkOf] at h; rfl
theorem tk_struct {d : TypeDesc} {fs : List (Nat × Nat)} (h : tkOf d = .struct fs) : ∃ g, d = .struct g ∧ fs = g.toList.map fun f => (f.offset, f.type) := by cases d <;> simp [tkOf] at h; exact ⟨_, rfl, h.symm⟩
def cellsOf? : A → Option (List A)
 | .ag cs => some cs
 | .dead | .tu _ | .v (.agg _) | .v (.tuple _) => none
 | a => some [a]
def leafA : A → Bool
 | .v x => x.oneCell'
 | .ro .. | .rp .. | .sl .. | .pt .. | .fn .. => true
 | _ => false
def leafs (l : List A) : Bool := l.all leafA
def leafRows (l : List (List A)) : Bool := l.all leafs
def mkA (agg : Bool) (cs : List A) : Option A := if agg then some (.ag cs) else match cs with | [a] => some a | _ => none
def rowA (S : Store) (id row ver : Nat) : Option (List A) := match S[id]? with
 | some o => if o.rows.length = ver then o.rows[row]? else none
 | none => none
def cutA (l : List A) (off n : Nat) : Option (List A) := if off + n ≤ l.length then some ((l.drop off).take n) else none
def rdA (S : Store) (n : Nat) : A → Option (List A)
 | .pt id row off ver => (rowA S id row ver).bind fun r => cutA r off n
 | .rp cs => cutA cs 0 n
 | _ => none
def byteRow (b : UInt8) : List A := [.v (.int .u8 b.toNat)]
def strRows (s : ByteArray) : List (List A) := s.data.toList.map byteRow
def rowsA (S : Store) (sz : Nat) : A → Option (List (List A))
 | .v (.slice none 0 0) => some []
 | .v (.string s) => if sz = 1 then some (strRows s) else none
 | .ro n rows => if n = sz then some rows else none
 | .sl id lo hi ver => match S[id]? with
  | some o => if o.rows.length = ver ∧ o.n = sz then some ((o.rows.take hi).drop lo) else none
  | none => none
 | _ => none
def lenS : A → Option Nat
 | .v (.slice none 0 0) => some 0
 | .ro _ rows => some rows.length
 | .sl _ lo hi _ => some (hi - lo)
 | _ => none
def lenA (T : Nat → Option TI) (t : Nat) (a : A) : Option Nat := match T t with
 | some ti => match ti.kind with
  | .str => match a with | .v (.string s) => some s.size | _ => none
  | .slice _ => lenS a
  | _ => none
 | none => none
def boolOf : A → Option Bool | .v (.bool b) => some b | _ => none
def intOf? : A → Option (IntKind × Int) | .v (.int k n) => some (k, n) | _ => none
def binI (op : BinOp) (k : IntKind) (a b : Int) : Option Value :=
 match op with
 | .add => some (.int k (k.wrap (a + b)))
 | .sub => some (.int k (k.wrap (a - b)))
 | .mul => some (.int k (k.wrap (a * b)))
 | .quo => if b = 0 then none else some (.int k (k.wrap (a.tdiv b)))
 | .rem => if b = 0 then none else some (.int k (a.tmod b))
 | .and => some (.int k (bits .and k a b))
 | .or => some (.int k (bits .or k a b))
 | .xor => some (.int k (bits .xor k a b))
 | .andNot => some (.int k (bits .andNot k a b))
 | .eql => some (.bool (a == b))
 | .neq => some (.bool (a != b))
 | .lss => some (.bool (a < b))
 | .leq => some (.bool (a ≤ b))
 | .gtr => some (.bool (a > b))
 | .geq => some (.bool (a ≥ b))
 | _ => none
def strLe (a b : ByteArray) : Bool := Op.bytesLess a.toList b.toList || a.toList == b.toList
def binS (op : BinOp) (a b : ByteArray) : Option Value :=
 match op with
 | .add => if a.size + b.size ≤ 9223372036854775807 then some (.string (a ++ b)) else none
 | .eql => some (.bool (a.toList == b.toList))
 | .neq => some (.bool (!(a.toList == b.toList)))
 | .lss => some (.bool (Op.bytesLess a.toList b.toList))
 | .leq => some (.bool (strLe a b))
 | .gtr => some (.bool (!strLe a b))
 | .geq => some (.bool (!Op.bytesLess a.toList b.toList))
 | _ => none
def isBool (T : Nat → Option TI) (t : Nat) : Bool := match T t with | some ti => ti.kind == .bool | none => false
def binA (T : Nat → Option TI) (t : Nat) (op : BinOp) (a b : A) : Option A :=
 match a, b with
 | .v (.int k x), .v (.int k' y) => match op with
  | .shl => if 0 ≤ y then some (.v (.int k (k.wrap (x * 2 ^ (min y.toNat k.bits))))) else none
  | .shr => if 0 ≤ y then some (.v (.int k (x.fdiv (2 ^ (min y.toNat k.bits))))) else none
  | _ => if k = k' then (binI op k x y).map .v else none
 | .v (.string x), .v (.string y) => (binS op x y).map .v
 | .v (.bool x), .v (.bool y) => if isBool T t then match op with
  | .eql => some (.v (.bool (x == y)))
  | .neq => some (.v (.bool (x != y)))
  | _ => none
  else none
 | _, _ => none
def unA (op : UnOp) (a : A) : Option A :=
 match op, a with
 | .not, .v (.bool b) => some (.v (.bool (!b)))
 | .neg, .v (.int k n) => some (.v (.int k (k.wrap (0 - n))))
 | _, _ => none
def convA (T : Nat → Option TI) (S : Store) (src dst : Nat) (a : A) : Option A :=
 match T src, T dst with
 | some s, some d => match d.kind, s.kind, a with
  | .int k, .int _, .v (.int _ n) => some (.v (.int k (k.wrap n)))
  | .str, .int _, .v (.int _ n) => some (.v (.string (Utf8.encode n)))
  | .str, .str, .v (.string x) => some (.v (.string x))
  | _, _, _ => none
 | _, _ => none
def fldA (T : Nat → Option TI) (s f : Nat) : Option (Nat × Nat) := match T s with
 | some ti => match ti.kind with | .struct fs => fs[f]? | _ => none
 | none => none
def szA (T : Nat → Option TI) (t : Nat) : Option Nat := (T t).map (·.sz)
def fillA (place : Nat → Option (Nat × Nat)) (cells : List A) : List (Nat × A) → Option (List A)
 | [] => some cells
 | (i, a) :: rest => match place i, cellsOf? a with
  | some (off, size), some cs => if cs.length = size ∧ off + size ≤ cells.length then fillA place (cells.take off ++ cs ++ cells.drop (off + size)) rest else none
  | _, _ => none
def indA (T : Nat → Option TI) (S : Store) (t : Nat) (x : A) (j : Int) : Option A :=
 match T t with
 | some ti => match ti.kind with
  | .slice e => match x with
   | .ro n rows => if 0 ≤ j ∧ szA T e = some n then (rows[j.toNat]?).map .rp else none
   | .sl id lo hi ver => match S[id]? with
    | some o => if 0 ≤ j ∧ j < ((hi - lo : Nat) : Int) ∧ o.rows.length = ver ∧ szA T e = some o.n then some (.pt id (lo + j.toNat) 0 ver) else none
    | none => none
   | _ => none
  | .arr n e => match x, szA T e with
   | .pt id row off ver, some s => if 0 ≤ j ∧ j < (n : Int) then some (.pt id row (off + j.toNat * s) ver) else none
   | .rp cs, some s => if 0 ≤ j ∧ j < (n : Int) ∧ (j.toNat + 1) * s ≤ cs.length then some (.rp (cs.drop (j.toNat * s))) else none
   | _, _ => none
  | _ => none
 | none => none
def boundsA (len cap : Nat) (lo hi : Option A) : Option (Nat × Nat) :=
 match hi with
 | none => match lo with
  | none => some (0, len)
  | some (.v (.int _ i)) => if 0 ≤ i ∧ i ≤ (len : Int) then some (i.toNat, len) else none
  | _ => none
 | some (.v (.int _ j)) => if 0 ≤ j ∧ j ≤ (cap : Int) then match lo with
   | none => some (0, j.toNat)
   | some (.v (.int _ i)) => if 0 ≤ i ∧ i ≤ j then some (i.toNat, j.toNat) else none
   | _ => none
  else none
 | _ => none
def slcA (T : Nat → Option TI) (S : Store) (t : Nat) (x : A) (lo hi : Option A) : Option A :=
 match T t with
 | some ti => match ti.kind with
  | .str => match x with
   | .v (.string s) => (boundsA s.size s.size lo hi).map fun (l, h) => .v (.string (s.extract l h))
   | _ => none
  | .slice e => match x with
   | .v (.slice none 0 0) => match szA T e with
    | some _ => (boundsA 0 0 lo hi).map fun _ => .v (.slice none 0 0)
    | none => none
   | .ro n rows => if szA T e = some n then (boundsA rows.length rows.length lo hi).map fun (l, h) => .ro n ((rows.take h).drop l) else none
   | .sl id l0 h0 ver => match S[id]? with
    | some o => if o.rows.length = ver ∧ szA T e = some o.n then (boundsA (h0 - l0) (ver - l0) lo hi).map fun (l, h) => .sl id (l0 + l) (l0 + h) ver else none
    | none => none
   | _ => none
  | _ => none
 | none => none
end Go.Proofs.YtomklniddinhnaaE
set_option linter.unusedVariables false
set_option linter.unusedSimpArgs false
set_option linter.unusedSectionVars false
namespace Go.Proofs.YtomklniddinhnaaE
open Go
def overw (cs : Array Value) (o : Nat) : List Value → Array Value
 | [] => cs
 | x :: r => overw (cs.setIfInBounds o x) (o + 1) r
theorem size_overw : ∀ (vs : List Value) (cs : Array Value) (o : Nat), (overw cs o vs).size = cs.size
 | [], _, _ => rfl
 | x :: r, cs, o => by simp [overw, size_overw r]
theorem getD_overw : ∀ (vs : List Value) (cs : Array Value) (o k : Nat), o + vs.length ≤ cs.size → (overw cs o vs).getD k undef = if o ≤ k ∧ k < o + vs.length then vs.getD (k - o) undef else cs.getD k undef
 | [], cs, o, k, _ => by
  have : ¬ (o ≤ k ∧ k < o + ([] : List Value).length) := by simp
  rw [if_neg this]; rfl
 | x :: r, cs, o, k, h => by
  simp only [List.length_cons] at h ⊢
  rw [overw, getD_overw r _ _ _ (by simp; omega)]
  by_cases e : k = o
  ·subst e
   rw [if_neg (by omega), if_pos (by omega)]
   have : k < cs.size := by omega
   simp [this]
  ·by_cases h1 : o + 1 ≤ k ∧ k < o + 1 + r.length
   ·rw [if_pos h1, if_pos (by omega)]
    have : k - o = (k - (o + 1)) + 1 := by omega
    rw [this]; rfl
   ·rw [if_neg h1, if_neg (by omega)]
    simp [Array.getElem?_setIfInBounds_ne (Ne.symm e)]
theorem heap_modify {h : Array Obj} {b : Nat} {x : Obj} (f : Obj → Obj) (hb : h[b]? = some x) : h.modify b f = h.setIfInBounds b (f x) := by
 apply Array.ext_getElem?
 intro i
 rw [Array.getElem?_modify, Array.getElem?_setIfInBounds]
 have hlt := (Array.getElem?_eq_some_iff.1 hb).1
 split
 ·rename_i e; subst e; rw [hb]; try simp
 ·rfl
theorem setIfInBounds_self {h : Array Obj} {b : Nat} {x : Obj} (hb : h[b]? = some x) : h.setIfInBounds b x = h := by
 apply Array.ext_getElem?
 intro i
 rw [Array.getElem?_setIfInBounds]
 have hlt := (Array.getElem?_eq_some_iff.1 hb).1
 split
 ·rename_i e; subst e; rw [hb]; try simp [hlt]
 ·rfl
theorem addr_add {a : Addr} (h : a.spot = none) (n : Nat) : a.add n = ⟨a.block, a.off + n, none⟩ := by
 obtain ⟨b, o, s⟩ := a
 simp only at h; subst h
 unfold Addr.add; split <;> simp_all
theorem cell_at {w : World} {b o : Nat} {cs : Array Value} {ty : TypeId} {fr : Nat × Nat} (hb : w.heap[b]? = some (.cells cs ty fr)) : w.cell? ⟨b, o, none⟩ = cs[o]? := by simp [World.cell?, hb]
theorem getElem?_getD {cs : Array Value} {o : Nat} (h : o < cs.size) : cs[o]? = some (cs.getD o undef) := by
 simp [h]
theorem run_storeCells_b (P : Program) {b : Nat} {ty : TypeId} {fr : Nat × Nat} (o : Nat) : ∀ (vs : List Value) (i : Nat) (cs : Array Value) (w : World), w.heap[b]? = some (.cells cs ty fr) → Free fr cs.size → o + i + vs.length ≤ cs.size → (∀ x ∈ vs, x.oneCell' = true) →
  (storeCells ⟨b, o, none⟩ vs i).run P w = .ok () { w with heap := w.heap.setIfInBounds b (.cells (overw cs (o + i) vs) ty fr) }
 | [], i, cs, w, hb, hf, hl, h1 => by simp [storeCells, overw, setIfInBounds_self hb]
 | x :: r, i, cs, w, hb, hf, hl, h1 => by
  simp only [List.length_cons] at hl
  have hc : w.cell? ⟨b, o + i, none⟩ = some (cs.getD (o + i) undef) := by rw [cell_at hb, getElem?_getD (by omega)]
  have hz : w.frozen? ⟨b, o + i, none⟩ = false := by
   have := hf (o + i) (by omega)
   obtain ⟨f1, f2⟩ := fr
   simp only [World.frozen?, hb]
   simp only [] at this
   simpa using this
  simp only [storeCells, Sem.run_bind, addr_add (a := ⟨b, o, none⟩) rfl, run_store P w _ x .plain (h1 x (by simp)), hc, hz]
  simp only [Bool.false_eq_true, if_false, Result.andThen_ok]
  have hm : (w.setCell ⟨b, o + i, none⟩ x).heap = w.heap.setIfInBounds b (.cells (cs.setIfInBounds (o + i) x) ty fr) := by
   simp only [World.setCell]
   rw [heap_modify _ hb]; simp
  have hlt := (Array.getElem?_eq_some_iff.1 hb).1
  have hw : w.setCell ⟨b, o + i, none⟩ x = { w with heap := w.heap.setIfInBounds b (.cells (cs.setIfInBounds (o + i) x) ty fr) } := by
   rw [← hm]; rfl
  rw [hw, run_storeCells_b P (ty := ty) (fr := fr) o r (i + 1) (cs.setIfInBounds (o + i) x) _ (by simp [hlt]) (by simpa using hf) (by simp; omega) (fun y hy => h1 y (by simp [hy]))]
  simp [overw, Nat.add_assoc, Array.setIfInBounds_setIfInBounds]
theorem run_loadCells_b (P : Program) {w : World} {b o : Nat} {cs : Array Value} {ty : TypeId} {fr : Nat × Nat} (hb : w.heap[b]? = some (.cells cs ty fr)) (n : Nat) (hl : o + n ≤ cs.size) :
  (loadCells ⟨b, o, none⟩ n).run P w = .ok ((List.range n).map fun j => cs.getD (o + j) undef).toArray w := by
 have := run_loadCells (P := P) w ⟨b, o, none⟩ n (fun j => cs.getD (o + j) undef) (fun j hj => by
  rw [addr_add (a := ⟨b, o, none⟩) rfl, cell_at hb, getElem?_getD (by simp only; omega)])
 rw [this]
end Go.Proofs.YtomklniddinhnaaE
set_option linter.unusedVariables false
set_option linter.unusedSimpArgs false
set_option linter.unusedSectionVars false
namespace Go.Proofs.YtomklniddinhnaaE
open Go
section
variable {P : Program} {T : Nat → Option TI} {W : Fm} {S : Store} {σ : Place} {I F : Nat → Prop} {w : World}
def TOk (P : Program) (T : Nat → Option TI) : Prop := ∀ t ti, T t = some ti → tiOf P t = some ti
theorem cutA_some {l r : List A} {off n : Nat} (h : cutA l off n = some r) : off + n ≤ l.length ∧ r.length = n ∧ ∀ j, j < n → r.getD j .dead = l.getD (off + j) .dead := by
 unfold cutA at h
 split at h
 ·rename_i hl
  injection h with h; subst h
  refine ⟨hl, by simp; omega, fun j hj => ?_⟩
  simp [List.getElem?_drop, hj]
 ·cases h
theorem rdA_ok (s : Sim W S σ I F w.heap) {n : Nat} {a : A} {cs : List A} {x : Value} (h : rdA S n a = some cs) (r : Rel S σ I w.heap a x) :
  ∃ ad b ty fr, x = .pointer (some ad) ∧ ad.spot = none ∧ w.heap[ad.block]? = some (.cells b ty fr) ∧ ad.off + n ≤ b.size ∧ cs.length = n ∧ ∀ j, j < n → Rel S σ I w.heap (cs.getD j .dead) (b.getD (ad.off + j) undef) := by
 cases r with
 | rp l ad b ty fr hs hI hb hsz hfl hc =>
  obtain ⟨h1, h2, h3⟩ := cutA_some (show cutA l 0 n = some cs from h)
  refine ⟨ad, b, ty, fr, rfl, hs, hb, by omega, h2, fun j hj => ?_⟩
  rw [h3 j hj, Nat.zero_add]
  exact hc j (by omega)
 | pt id row off ver ad o ho hr hv hf =>
  simp only [rdA, rowA, ho] at h
  split at h
  ·rename_i e
   obtain ⟨rw_, h1, h2⟩ := Option.bind_eq_some_iff.1 h
   obtain ⟨base, q1, rfl⟩ := hf e.symm
   have q := s.ob id o ho
   obtain ⟨k1, k2, k3, b, ty, fr, k4, k5, k6, k7⟩ := q.there base q1
   obtain ⟨c1, c2, c3⟩ := cutA_some h2
   have hrow : row < o.rows.length := by omega
   have hg : o.rows.getD row [] = rw_ := by simp [h1]
   have hl : rw_.length = o.n := by rw [← hg]; exact q.len row hrow
   have hm : (row + 1) * o.n ≤ o.rows.length * o.n := Nat.mul_le_mul_right _ hrow
   rw [Nat.add_mul, Nat.one_mul] at hm
   refine ⟨_, b, ty, fr, rfl, rfl, k4, by simp only; omega, c2, fun j hj => ?_⟩
   have := k7 row (off + j) hrow (by omega)
   rw [hg] at this
   rw [c3 j hj]
   simpa only [Nat.add_assoc] using this
  ·cases h
 | _ => simp [rdA] at h
theorem run_loadVar_b (hT : TOk P T) {t : Nat} {ti : TI} (ht : T t = some ti) {ad : Addr} (hs : ad.spot = none) {b : Array Value} {ty : TypeId} {fr : Nat × Nat} (hb : w.heap[ad.block]? = some (.cells b ty fr)) (hl : ad.off + ti.sz ≤ b.size)
  {cs : List A} {r : A} (hc : cs.length = ti.sz) (hm : mkA ti.agg cs = some r) (hr : ∀ j, j < ti.sz → Rel S σ I w.heap (cs.getD j .dead) (b.getD (ad.off + j) undef)) :
  ∃ y, (loadVar t ad).run P w = .ok y w ∧ Rel S σ I w.heap r y := by
 obtain ⟨i, d, z, k⟩ := tiOf_ok (hT t ti ht)
 obtain ⟨bk, of, sp⟩ := ad
 simp only at hs hb hl hr; subst hs
 have hagg : (isAgg t).run P w = .ok ti.agg w := by
  have := k.agg
  simp only [isAgg, Sem.run_bind, run_underlying k.und, Result.andThen_ok]
  rw [this]; cases d <;> rfl
 unfold mkA at hm
 by_cases ha : ti.agg = true
 ·rw [if_pos ha] at hm
  injection hm with hm; subst hm
  have hz : (sizeOf t).run P w = .ok ti.sz w := by simp [sizeOf, typeInfo, k.info, k.sz]
  refine ⟨_, by simp only [loadVar, Sem.run_bind, hagg, ha, Result.andThen_ok, if_true, hz, run_loadCells_b P hb _ hl]; rfl, ?_⟩
  refine .ag cs _ (by simp [hc]) fun j hj => ?_
  have := hr j (by omega)
  simpa [show j < ti.sz by omega] using this
 ·rw [if_neg ha] at hm
  have ha' : ti.agg = false := by simpa using ha
  split at hm
  ·rename_i a
   injection hm with hm; subst hm
   simp only [List.length_cons, List.length_nil] at hc
   refine ⟨b.getD of undef, ?_, by simpa using hr 0 (by omega)⟩
   have hcell : w.cell? ⟨bk, of, none⟩ = some (b.getD of undef) := by rw [cell_at hb, getElem?_getD (by omega)]
   simp only [loadVar, Sem.run_bind, hagg, ha', Result.andThen_ok, Bool.false_eq_true, if_false]
   simp only [load, Sem.run, hcell]
  ·cases hm
theorem load_ok (s : Sim W S σ I F w.heap) (hT : TOk P T) {t : Nat} {ti : TI} (ht : T t = some ti) {a r : A} {cs : List A} {x : Value} (h : rdA S ti.sz a = some cs) (hm : mkA ti.agg cs = some r) (ra : Rel S σ I w.heap a x) :
  ∃ y, (Instr.loadAt t x).run P w = .ok y w ∧ Rel S σ I w.heap r y := by
 obtain ⟨ad, b, ty, fr, rfl, h1, h2, h3, h4, h5⟩ := rdA_ok s h ra
 obtain ⟨y, k1, k2⟩ := run_loadVar_b hT ht h1 h2 h3 h4 hm h5
 exact ⟨y, by simp only [Instr.loadAt, Instr.sureAddr, Sem.run_bind, Sem.run_pure, Result.andThen_ok, k1], k2⟩
theorem cellsOf_ok {a : A} {cs : List A} {x : Value} (h : cellsOf? a = some cs) (r : Rel S σ I w.heap a x) : x.cells.size = cs.length ∧ ∀ j, j < cs.length → Rel S σ I w.heap (cs.getD j .dead) (x.cells.getD j undef) := by
 have one : ∀ {a : A} {x : Value}, Rel S σ I w.heap a x → x.cells = #[x] → x.cells.size = [a].length ∧ ∀ j, j < [a].length → Rel S σ I w.heap ([a].getD j .dead) (x.cells.getD j undef) := by
  intro a x r hx
  rw [hx]
  refine ⟨rfl, fun j hj => ?_⟩
  have : j = 0 := by simp at hj; omega
  subst this; simpa using r
 cases r with
 | ag l xs hl hc =>
  injection h with h; subst h
  exact ⟨hl.symm, hc⟩
 | v x =>
  cases x <;> simp only [cellsOf?] at h <;> first | (injection h with h; subst h; exact one (.v _) rfl) | cases h
 | dead x => cases h
 | tu l vs hl hc => cases h
 | ro0 n a c => injection h with h; subst h; exact one (.ro0 n a c) rfl
 | ro n rows ad c cs ty fr hs hI hb hn hsz hcap hfl hc => injection h with h; subst h; exact one (.ro n rows ad c cs ty fr hs hI hb hn hsz hcap hfl hc) rfl
 | rp l ad cs ty fr hs hI hb hsz hfl hc => injection h with h; subst h; exact one (.rp l ad cs ty fr hs hI hb hsz hfl hc) rfl
 | sl id lo hi ver a c o ho h1 h2 h3 hf => injection h with h; subst h; exact one (.sl id lo hi ver a c o ho h1 h2 h3 hf) rfl
 | pt id row off ver ad o ho h2 h3 hf => injection h with h; subst h; exact one (.pt id row off ver ad o ho h2 h3 hf) rfl
 | fn f caps vs hl hc => injection h with h; subst h; exact one (.fn f caps vs hl hc) rfl
theorem leaf_ok {a : A} {x : Value} (h : leafA a = true) (r : Rel S σ I w.heap a x) : x.oneCell' = true := by
 cases r <;> simp_all [leafA, Value.oneCell']
def Step (W : Fm) (S : Store) (σ : Place) (I F : Nat → Prop) (w : World) (a : A) (S' : Store) (x : Value) (w' : World) : Prop :=
 ∃ σ' I' F', Sim W S' σ' I' F' w'.heap ∧ Ext W S σ I F w.heap S' σ' I' F' w'.heap ∧ Rel S' σ' I' w'.heap a x ∧ w'.os = w.os ∧ w'.tape = w.tape ∧ w'.output = w.output
theorem Step.same (s : Sim W S σ I F w.heap) {a : A} {x : Value} (r : Rel S σ I w.heap a x) : Step W S σ I F w a S x w := ⟨σ, I, F, s, .refl, r, rfl, rfl, rfl⟩
theorem newVar_ok (s : Sim W S σ I F w.heap) (t : Nat) {cs : List A} {x : Value} (hsz : x.cells.size = cs.length) (hr : ∀ j, j < cs.length → Rel S σ I w.heap (cs.getD j .dead) (x.cells.getD j undef)) :
  ∃ w', (newVar t x).run P w = .ok ⟨w.heap.size, 0, none⟩ w' ∧ Step W S σ I F w (.pt S.length 0 0 1) (S ++ [⟨cs.length, [cs], 0, true⟩]) (.pointer (some ⟨w.heap.size, 0, none⟩)) w' := by
 have one : ∀ i, i < [cs].length → i = 0 := fun i hi => by simp at hi; exact hi
 have key := s.alloc ⟨cs.length, [cs], 0, true⟩ x.cells t (0, 0) (fun k _ h => by simp at h) rfl (fun i hi => by rw [one i hi]; rfl) (by simp [hsz]) (fun i j hi hj => by
  rw [one i hi]; simpa using hr j hj)
 refine ⟨_, rfl, _, I, F, key.1, key.2, ?_, rfl, rfl, rfl⟩
 refine .pt _ 0 0 1 _ ⟨cs.length, [cs], 0, true⟩ (by simp) (by omega) (by simp) fun _ => ⟨⟨w.heap.size, 0, none⟩, by simp [Place.set], by simp⟩
theorem write_ok (s : Sim W S σ I F w.heap) {id : Nat} {o : Ob} (ho : S[id]? = some o) (hw : W.w id) (hst : o.st = 0) {ad : Addr} (ha : σ id = some ad) {b : Array Value} {ty : TypeId} {fr : Nat × Nat}
  (hb : w.heap[ad.block]? = some (.cells b ty fr)) (p : Nat) (vs : List Value) (h1 : ∀ x ∈ vs, x.oneCell' = true) (hp : ad.off + p + vs.length ≤ b.size) (o' : Ob) (hn : o'.n = o.n) (hst' : o'.st = 0) (hle : o.rows.length ≤ o'.rows.length)
  (hlen : ∀ i, i < o'.rows.length → (o'.rows.getD i []).length = o'.n) (hsz : ad.off + o'.rows.length * o'.n ≤ b.size)
  (hr : ∀ i j, i < o'.rows.length → j < o'.n → if p ≤ i * o'.n + j ∧ i * o'.n + j < p + vs.length then Rel S σ I w.heap ((o'.rows.getD i []).getD j .dead) (vs.getD (i * o'.n + j - p) undef)
   else i < o.rows.length ∧ (o'.rows.getD i []).getD j .dead = (o.rows.getD i []).getD j .dead) :
  ∃ w', (∀ P, (storeCells ⟨ad.block, ad.off + p, none⟩ vs).run P w = .ok () w') ∧ Sim W (S.set id o') σ I F w'.heap ∧ Ext W S σ I F w.heap (S.set id o') σ I F w'.heap ∧ w'.os = w.os ∧ w'.tape = w.tape ∧ w'.output = w.output ∧ ∃ cs', w'.heap[ad.block]? = some (.cells cs' ty fr) ∧ cs'.size = b.size := by
 obtain ⟨q1, q2, q3, b', ty', fr', q4, q5, q6, q7⟩ := (s.ob id o ho).there ad ha
 rw [hb] at q4; injection q4 with q4; injection q4 with e1 e2 e3; subst e1 e2 e3
 refine ⟨{ w with heap := w.heap.setIfInBounds ad.block (.cells (overw b (ad.off + p) vs) ty fr) }, fun P => ?_, ?_⟩
 ·have := run_storeCells_b P (ad.off + p) vs 0 b w hb q5 (by omega) h1
  simpa using this
 ·have hlt := (Array.getElem?_eq_some_iff.1 hb).1
  have key := s.update ho hw hst ha hb (h' := w.heap.setIfInBounds ad.block (.cells (overw b (ad.off + p) vs) ty fr)) (cs' := overw b (ad.off + p) vs) (by simp) (by simp [hlt]) (size_overw _ _ _)
   (fun k hk => by rw [Array.getElem?_setIfInBounds_ne (Ne.symm hk)]) hn hst' hle hlen hsz (fun i j hi hj => by
    rw [getD_overw _ _ _ _ (by omega)]
    have := hr i j hi hj
    split at this
    ·rename_i hc
     rw [if_pos (by omega), show ad.off + i * o'.n + j - (ad.off + p) = i * o'.n + j - p by omega]
     exact this
    ·rename_i hc
     rw [if_neg (by omega), this.2, hn]
     exact q7 i j this.1 (by omega))
  exact ⟨key.1, key.2, rfl, rfl, rfl, overw b (ad.off + p) vs, by simp [hlt], size_overw _ _ _⟩
theorem getD_set_row (l : List (List A)) (k i : Nat) (x : List A) (hk : k < l.length) : (l.set k x).getD i [] = if i = k then x else l.getD i [] := by
 rw [List.getD_eq_getElem?_getD, List.getD_eq_getElem?_getD, getElem?_set' _ _ _ _ hk]
 split <;> rfl
theorem getD_splice (r cs : List A) (off j : Nat) (h : off + cs.length ≤ r.length) : (r.take off ++ cs ++ r.drop (off + cs.length)).getD j .dead = if off ≤ j ∧ j < off + cs.length then cs.getD (j - off) .dead else r.getD j .dead := by
 simp only [List.getD_eq_getElem?_getD]
 have h1 : (r.take off).length = off := by simp; omega
 by_cases c1 : j < off
 ·rw [if_neg (by omega), List.append_assoc, List.getElem?_append_left (by omega), List.getElem?_take, if_pos c1]
 ·by_cases c2 : j < off + cs.length
  ·rw [if_pos (by omega), List.append_assoc, List.getElem?_append_right (by omega), h1, List.getElem?_append_left (by omega)]
  ·rw [if_neg (by omega), List.getElem?_append_right (by simp; omega), List.length_append, h1, List.getElem?_drop]
   congr 2; omega
theorem store_ok (s : Sim W S σ I F w.heap) (hT : TOk P T) {t : Nat} {ti : TI} (ht : T t = some ti) {id row off ver : Nat} {x y : Value} (ra : Rel S σ I w.heap (.pt id row off ver) x) {a : A} (rv : Rel S σ I w.heap a y)
  {o : Ob} (ho : S[id]? = some o) (hv : o.rows.length = ver) (hst : o.st = 0) (hw : W.w id) {r cs : List A} (hrow : o.rows[row]? = some r) (hcs : cellsOf? a = some cs) (hlf : leafs cs = true) (hl : cs.length = ti.sz) (hoff : off + ti.sz ≤ r.length) :
  ∃ w', (Instr.storeAt t x y).run P w = .ok () w' ∧ Step W S σ I F w .dead (S.set id ⟨o.n, o.rows.set row (r.take off ++ cs ++ r.drop (off + ti.sz)), 0, o.bx⟩) undef w' := by
 cases ra with
 | pt _ _ _ _ ad o₁ ho₁ h2 h3 hf =>
  rw [ho] at ho₁; injection ho₁ with ho₁; subst ho₁
  obtain ⟨base, q1, rfl⟩ := hf hv.symm
  have q := s.ob id o ho
  obtain ⟨k1, k2, k3, b, ty, fr, k4, k5, k6, k7⟩ := q.there base q1
  have hrl : row < o.rows.length := by omega
  have hg : o.rows.getD row [] = r := by simp [hrow]
  have hrn : r.length = o.n := by rw [← hg]; exact q.len row hrl
  have hm : (row + 1) * o.n ≤ o.rows.length * o.n := Nat.mul_le_mul_right _ hrl
  rw [Nat.add_mul, Nat.one_mul] at hm
  obtain ⟨c1, c2⟩ := cellsOf_ok hcs rv
  have hsp : (r.take off ++ cs ++ r.drop (off + ti.sz)).length = o.n := by simp; omega
  obtain ⟨w', e1, e2, e3, e4, e5, e6, _⟩ := write_ok s ho hw hst q1 k4 (row * o.n + off) y.cells.toList (fun z hz => by
    obtain ⟨j, hj, rfl⟩ := List.getElem_of_mem hz
    have hj' : j < cs.length := by simp at hj; omega
    have := c2 j hj'
    have lf := List.all_eq_true.1 hlf (cs.getD j .dead) (by simp [hj'])
    have := leaf_ok lf this
    simpa [show j < y.cells.size by omega] using this) (by simp; omega) ⟨o.n, o.rows.set row (r.take off ++ cs ++ r.drop (off + ti.sz)), 0, o.bx⟩ rfl rfl (by simp)
   (fun i hi => by
    simp only [List.length_set] at hi
    simp only [getD_set_row _ _ _ _ hrl]
    split
    ·exact hsp
    ·exact q.len i hi) (by simpa using k6) (fun i j hi hj => by
    simp only [List.length_set] at hi
    simp only [getD_set_row _ _ _ _ hrl, Array.length_toList, c1]
    simp only at hj
    by_cases hir : i = row
    ·subst hir
     rw [if_pos rfl, ← hl, getD_splice r cs off j (by omega)]
     by_cases hc : off ≤ j ∧ j < off + cs.length
     ·rw [if_pos (by omega), if_pos hc]
      have := c2 (j - off) (by omega)
      rw [show i * o.n + j - (i * o.n + off) = j - off by omega]
      simpa [show j - off < y.cells.size by omega] using this
     ·rw [if_neg (by omega), if_neg hc]
      exact ⟨hrl, by rw [hg]⟩
    ·rw [if_neg hir, if_neg]
     ·exact ⟨hi, rfl⟩
     ·intro hc
      rcases Nat.lt_or_gt_of_ne hir with h | h
      ·have : (i + 1) * o.n ≤ row * o.n := Nat.mul_le_mul_right _ h
       rw [Nat.add_mul, Nat.one_mul] at this; omega
      ·have : (row + 1) * o.n ≤ i * o.n := Nat.mul_le_mul_right _ h
       rw [Nat.add_mul, Nat.one_mul] at this; omega)
  refine ⟨w', ?_, σ, I, F, e2, e3, .dead _, e4, e5, e6⟩
  obtain ⟨i, d, z, k⟩ := tiOf_ok (hT t ti ht)
  have hz : (sizeOf t).run P w = .ok ti.sz w := by simp [sizeOf, typeInfo, k.info, k.sz]
  have hne : (y.cells.size ≠ ti.sz) = False := by simp; omega
  have := e1 P
  rw [← Nat.add_assoc] at this
  simp only [Instr.storeAt, Instr.sureAddr, Sem.run_bind, Sem.run_pure, Result.andThen_ok, storeVar, hz, hne, if_false, this]
theorem rows_ok (s : Sim W S σ I F w.heap) {sz : Nat} {a : A} {rows : List (List A)} {x : Value} (h : rowsA S sz a = some rows) (r : Rel S σ I w.heap a x) :
  (∀ P, (Builtin.lenOf x).run P w = .ok rows.length w) ∧ (∀ i, i < rows.length → (rows.getD i []).length = sz) ∧
  ∃ arr : Array Value, (∀ P, (Builtin.firstCells sz rows.length x).run P w = .ok arr w) ∧ arr.size = rows.length * sz ∧ ∀ i j, i < rows.length → j < sz → Rel S σ I w.heap ((rows.getD i []).getD j .dead) (arr.getD (i * sz + j) undef) := by
 have loaded : ∀ {ad : Addr} {b : Array Value} {ty : TypeId} {fr : Nat × Nat} {len c o : Nat}, w.heap[ad.block]? = some (.cells b ty fr) → o + len * sz ≤ b.size →
   ∃ arr : Array Value, (∀ P, (Builtin.firstCells sz len (.slice (some ⟨ad.block, o, none⟩) len c)).run P w = .ok arr w) ∧ arr.size = len * sz ∧ ∀ k, k < len * sz → arr.getD k undef = b.getD (o + k) undef := by
  intro ad b ty fr len c o hb hl
  refine ⟨_, fun P => by simp only [Builtin.firstCells]; exact run_loadCells_b P hb _ hl, by simp, fun k hk => by simp [hk]⟩
 have lt : ∀ {i j n : Nat}, i < n → j < sz → i * sz + j < n * sz := fun {i j n} hi hj => by
  have : (i + 1) * sz ≤ n * sz := Nat.mul_le_mul_right _ hi
  rw [Nat.add_mul, Nat.one_mul] at this; omega
 cases r with
 | v x =>
  simp only [rowsA] at h
  split at h
  ·injection h with h; subst h
   rename_i e; injection e with e; subst e
   exact ⟨fun P => rfl, fun i hi => by simp at hi, #[], fun P => rfl, by simp, fun i j hi => by simp at hi⟩
  ·rename_i st e; injection e with e; subst e
   split at h
   ·rename_i e1; injection h with h; subst h; subst e1
    have hl : (strRows st).length = st.size := by simp [strRows]
    refine ⟨fun P => by simp [Builtin.lenOf, hl], fun i hi => ?_, st.data.map fun b => .int .u8 b.toNat, fun P => ?_, by rw [Array.size_map, hl]; exact (Nat.mul_one _).symm, fun i j hi hj => ?_⟩
    ·simp only [List.getD_eq_getElem?_getD, strRows, List.getElem?_map]
     have : i < st.data.toList.length := by simpa [strRows] using hi
     simp [List.getElem?_eq_getElem this, byteRow]
    ·simp only [Builtin.firstCells, hl]
     have : st.extract 0 st.size = st := ByteArray.extract_zero_size
     rw [this]; rfl
    ·have : j = 0 := by omega
     subst this
     have hi' : i < st.data.size := by rw [hl] at hi; exact hi
     have e2 : ((strRows st).getD i []).getD 0 .dead = .v (.int .u8 (st.data[i]).toNat) := by
      simp only [List.getD_eq_getElem?_getD, strRows, List.getElem?_map]
      simp [Array.getElem?_eq_getElem hi', byteRow]
     have e3 : (st.data.map fun b => Value.int .u8 b.toNat).getD (i * 1 + 0) undef = .int .u8 (st.data[i]).toNat := by simp [Array.getElem?_eq_getElem hi']
     rw [e2, e3]; exact .v _
   ·cases h
  ·rename_i e; cases e
  ·rename_i e; cases e
  ·cases h
 | ro0 n a c =>
  simp only [rowsA] at h
  split at h
  ·injection h with h; subst h
   refine ⟨fun P => rfl, fun i hi => by simp at hi, #[], fun P => ?_, by simp, fun i j hi => by simp at hi⟩
   cases a <;> simp [Builtin.firstCells, loadCells, loadCellsFrom]
  ·cases h
 | ro n l ad c b ty fr hs hI hb hn hsz hcap hfl hc =>
  simp only [rowsA] at h
  split at h
  ·rename_i e; subst e; injection h with h; subst h
   obtain ⟨bk, of, sp⟩ := ad; simp only at hs hb hsz hc; subst hs
   obtain ⟨arr, k1, k2, k3⟩ := loaded (ad := ⟨bk, of, none⟩) (len := l.length) (c := c) (o := of) hb hsz
   exact ⟨fun P => rfl, hn, arr, k1, k2, fun i j hi hj => by rw [k3 _ (lt hi hj), ← Nat.add_assoc]; exact hc i j hi hj⟩
  ·cases h
 | sl id lo hi ver a c o ho h1 h2 h3 hf =>
  simp only [rowsA, ho] at h
  split at h
  ·rename_i e; obtain ⟨e1, e2⟩ := e; subst e2; injection h with h; subst h
   have hl : ((o.rows.take hi).drop lo).length = hi - lo := by simp; omega
   have hg : ∀ i, i < hi - lo → ((o.rows.take hi).drop lo).getD i [] = o.rows.getD (lo + i) [] := fun i hi' => by
    simp only [List.getD_eq_getElem?_getD, List.getElem?_drop, List.getElem?_take]
    rw [if_pos (by omega)]
   have q := s.ob id o ho
   refine ⟨fun P => by simp [Builtin.lenOf, hl], fun i hi' => by rw [hl] at hi'; rw [hg i hi']; exact q.len _ (by omega), ?_⟩
   rw [hl]
   have hf' := hf e1.symm; clear hf
   rcases hf' with ⟨q1, q2, q3⟩ | ⟨ad, b, ty, fr, q1, q2, q3, q4, q5, q6⟩
   ·have := q.none_ q1
    have z : o.rows.length = 0 := by simp [this]
    have z2 : hi - lo = 0 := by omega
    rw [z2]
    refine ⟨#[], fun P => ?_, by simp, fun i j hi => by omega⟩
    cases a <;> simp [Builtin.firstCells, loadCells, loadCellsFrom]
   ·rcases Nat.eq_zero_or_pos c with hc | hc
    ·have z2 : hi - lo = 0 := by omega
     rw [z2]
     refine ⟨#[], fun P => ?_, by simp, fun i j hi => by omega⟩
     cases a <;> simp [Builtin.firstCells, loadCells, loadCellsFrom]
    ·have e3 := q3 hc; subst e3
     obtain ⟨k1, k2, k3, b', ty', fr', k4, k5, k6, k7⟩ := q.there ad q1
     rw [q4] at k4; injection k4 with k4; injection k4 with f1 f2 f3; subst f1 f2 f3
     have m1 : (hi - lo) * o.n ≤ c * o.n := Nat.mul_le_mul_right _ (by omega)
     rw [Nat.add_mul] at q5
     obtain ⟨arr, r1, r2, r3⟩ := loaded (ad := ad) (len := hi - lo) (c := c) (o := ad.off + lo * o.n) q4 (by omega)
     refine ⟨arr, r1, r2, fun i j hi' hj => ?_⟩
     rw [r3 _ (lt hi' hj), hg i hi', show ad.off + lo * o.n + (i * o.n + j) = ad.off + (lo + i) * o.n + j by rw [Nat.add_mul]; omega]
     exact k7 (lo + i) j (by omega) hj
  ·cases h
 | _ => simp [rowsA] at h
def Bound : Nat := 70368744177664
def appA (S : Store) (wr : Nat → Bool) (n bytes : Nat) (x : A) (ys : List (List A)) : Option (A × Store) :=
 match x with
 | .v (.slice none 0 0) => if ys.length * bytes ≤ Bound ∧ ys.length ≤ Bound then some (.sl S.length 0 ys.length ys.length, S ++ [⟨n, ys, 0, false⟩]) else none
 | .sl id lo hi ver => match S[id]? with
  | some o => if o.rows.length = ver ∧ o.st = 0 ∧ o.n = n ∧ wr id = true ∧ (hi + ys.length) * bytes ≤ Bound ∧ hi + ys.length ≤ Bound then
    if hi = ver ∧ lo = 0 then some (.sl id 0 (hi + ys.length) (hi + ys.length), S.set id ⟨n, o.rows ++ ys, 0, o.bx⟩)
    else if hi + ys.length ≤ ver then some (.sl id lo (hi + ys.length) ver, S.set id ⟨n, o.rows.take hi ++ ys ++ o.rows.drop (hi + ys.length), 0, o.bx⟩)
    else none
   else none
  | none => none
 | .ro m rows => if ys = [] then some (.ro m rows, S) else none
 | _ => none
section
variable {e : TypeId} {ti : TI} {sT xT rT : TypeId} {dx : TypeDesc}
structure AppTy (P : Program) (T : Nat → Option TI) (e : TypeId) (ti : TI) (sT xT : TypeId) : Prop where
 s : P.underlying sT = some (.slice e)
 x : (∃ e', P.underlying xT = some (.slice e')) ∨ P.underlying xT = some .string
 e : T e = some ti
 z : ti.zero.length = ti.sz
theorem append_in (A : AppTy P T e ti sT xT) (hT : TOk P T) {base : Option Addr} {len cap n : Nat} {y : Value} (hy : (Builtin.lenOf y).run P w = .ok n w) (hle : len + n ≤ cap) {arr : Array Value} (hc : (Builtin.firstCells ti.sz n y).run P w = .ok arr w) {w' : World}
  (hs : (match base with | some a => (storeCells (a.add (len * ti.sz)) arr.toList).run P w | none => .ok () w) = .ok () w') :
  (Builtin.append_ #[sT, xT] rT #[.slice base len cap, y]).run P w = .ok (.slice base (len + n) cap) w' := by
 obtain ⟨i, d, z, k⟩ := tiOf_ok (hT e ti A.e)
 have hz : (sizeOf e).run P w = .ok ti.sz w := by simp [sizeOf, typeInfo, k.info, k.sz]
 rcases A.x with ⟨e', x1⟩ | x1 <;>
 ·simp only [Builtin.append_, Array.getElem?_eq_getElem, List.size_toArray, List.length_cons, List.length_nil, Nat.reduceAdd, Nat.reduceLT, List.getElem_toArray, List.getElem_cons_zero, List.getElem_cons_succ, Sem.run_bind, run_underlying A.s, run_underlying x1, Result.andThen_ok, hz, Sem.run_pure, Bool.false_eq_true, if_false, hy, hle, if_true, Bool.not_false, hc]
  cases base with
  | none => simp only at hs; injection hs with _ hs; subst hs; simp
  | some a => simp only at hs; simp [hs]
theorem append_grow (A : AppTy P T e ti sT xT) (hT : TOk P T) {base : Option Addr} {len cap n : Nat} {y : Value} (hy : (Builtin.lenOf y).run P w = .ok n w) (hgt : cap < len + n) (hb : (len + n) * ti.bytes ≤ Bound) (hb2 : len + n ≤ Bound)
  {arr old : Array Value} (ho : (Builtin.firstCells ti.sz len (.slice base len cap)).run P w.drew = .ok old w.drew) (hc : (Builtin.firstCells ti.sz n y).run P w.drew = .ok arr w.drew) :
  ∃ rest : Array Value, ∃ c, len + n ≤ c ∧ rest.size = (c - (len + n)) * ti.sz ∧
   (Builtin.append_ #[sT, xT] rT #[.slice base len cap, y]).run P w = .ok (.slice (some ⟨w.heap.size, 0, none⟩) (len + n) c) (w.drew.alloc (.cells (old ++ arr ++ rest) e)) := by
 obtain ⟨i, d, z, k⟩ := tiOf_ok (hT e ti A.e)
 have hz : ∀ w, (sizeOf e).run P w = .ok ti.sz w := fun w => by simp [sizeOf, typeInfo, k.info, k.sz]
 have hti : ∀ w, (typeInfo e).run P w = .ok i w := fun w => by simp [typeInfo, k.info]
 have hzv : ∀ w, (zeroValue e).run P w = .ok z w := fun w => by simp [zeroValue, typeInfo, k.info, k.zero]
 have hzs : z.cells.size = ti.sz := by
  have := congrArg List.length k.cells
  simp only [Array.length_toList, List.length_map, A.z] at this; exact this
 refine ⟨Builtin.zeroCells z.cells (Question.cut (.appendCap (len + n) cap e) (w.tape w.drawn (.appendCap (len + n) cap e)) - (len + n)), Question.cut (.appendCap (len + n) cap e) (w.tape w.drawn (.appendCap (len + n) cap e)), by simp [Question.cut], by simp [Builtin.zeroCells, hzs], ?_⟩
 have g1 : ¬ (len + n ≤ cap) := by omega
 have g2 : ¬ (((len + n : Nat) : Int) > IntKind.i64.max ∧ (False ∨ i.bytes = 0)) := by
  intro h
  have h1 := h.1
  have : IntKind.i64.max = 9223372036854775807 := by decide
  rw [this] at h1; unfold Bound at hb2; omega
 have g3 : ¬ (Builtin.nextslicecap (len + n) cap * i.bytes > 2 ^ 48) := by
  have := growslice_fits (need := len + n) (old := cap) (bytes := i.bytes) hgt (by rw [k.bytes]; unfold Bound at hb; omega)
  omega
 rcases A.x with ⟨e', x1⟩ | x1 <;>
 ·simp only [Builtin.append_, Array.getElem?_eq_getElem, List.size_toArray, List.length_cons, List.length_nil, Nat.reduceAdd, Nat.reduceLT, List.getElem_toArray, List.getElem_cons_zero, List.getElem_cons_succ, Sem.run_bind, run_underlying A.s, run_underlying x1, Result.andThen_ok, hz, hti, hzv, Sem.run_pure, Bool.false_eq_true, if_false, hy, g1, g2, g3, if_true, Bool.not_false, ho, hc, run_choose_drew, Question.forced, run_askRoom]
  rfl
end
theorem leafRows_get {ys : List (List A)} (h : leafRows ys = true) {i j : Nat} (hi : i < ys.length) (hj : j < (ys.getD i []).length) : leafA ((ys.getD i []).getD j .dead) = true := by
 have h1 := List.all_eq_true.1 h (ys.getD i []) (by simp [hi])
 exact List.all_eq_true.1 h1 _ (by rw [List.getD_eq_getElem?_getD (a := A.dead), List.getElem?_eq_getElem hj]; exact List.getElem_mem hj)
theorem arr_leaf {ys : List (List A)} {sz : Nat} (h : leafRows ys = true) (hl : ∀ i, i < ys.length → (ys.getD i []).length = sz) {arr : Array Value} (hs : arr.size = ys.length * sz)
  (hr : ∀ i j, i < ys.length → j < sz → Rel S σ I w.heap ((ys.getD i []).getD j .dead) (arr.getD (i * sz + j) undef)) : ∀ x ∈ arr.toList, x.oneCell' = true := by
 intro x hx
 obtain ⟨k, hk, rfl⟩ := List.getElem_of_mem hx
 have hk' : k < ys.length * sz := by simp at hk; omega
 have hsz : 0 < sz := by rcases Nat.eq_zero_or_pos sz with e | e; subst e; simp at hk'; exact e
 have hi : k / sz < ys.length := Nat.div_lt_of_lt_mul (by rwa [Nat.mul_comm] at hk')
 have hj : k % sz < sz := Nat.mod_lt _ hsz
 have := hr (k / sz) (k % sz) hi hj
 rw [Nat.div_add_mod'] at this
 have := leaf_ok (leafRows_get h hi (by rw [hl _ hi]; exact hj)) this
 simpa [show k < arr.size by omega] using this
theorem getD_append_rows (l ys : List (List A)) (i : Nat) : (l ++ ys).getD i [] = if i < l.length then l.getD i [] else ys.getD (i - l.length) [] := by
 simp only [List.getD_eq_getElem?_getD]
 split
 ·rename_i h; rw [List.getElem?_append_left h]
 ·rename_i h; rw [List.getElem?_append_right (by omega)]
theorem appA_ok (s : Sim W S σ I F w.heap) (hT : TOk P T) {e : TypeId} {ti : TI} {sT xT rT : TypeId} (A_ : AppTy P T e ti sT xT) {wr : Nat → Bool} (hwr : ∀ id, wr id = true → W.w id) {a b r : A} {ys : List (List A)} {S' : Store} {x y : Value}
  (h : appA S wr ti.sz ti.bytes a ys = some (r, S')) (rx : Rel S σ I w.heap a x) (ry : Rel S σ I w.heap b y) (hys : rowsA S ti.sz b = some ys) (hlf : leafRows ys = true) :
  ∃ z w', (Builtin.append_ #[sT, xT] rT #[x, y]).run P w = .ok z w' ∧ Step W S σ I F w r S' z w' := by
 obtain ⟨y1, y2, arr, y3, y4, y5⟩ := rows_ok s hys ry
 have al := arr_leaf hlf y2 y4 y5
 obtain ⟨_, _, arrd, d3, d4, d5⟩ := rows_ok (w := w.drew) s hys ry
 cases rx with
 | v x =>
  simp only [appA] at h
  split at h
  ·rename_i e0; injection e0 with e0; subst e0
   split at h
   ·rename_i hb
    injection h with h; injection h with h1 h2; subst h1 h2
    rcases Nat.eq_zero_or_pos ys.length with hz | hz
    ·have e1 : ys = [] := List.length_eq_zero_iff.1 hz
     subst e1
     have key := s.empty (W := W) ti.sz 0 false rfl
     exact ⟨_, w, append_in A_ hT (y1 P) (by simp) (y3 P) rfl, _, I, F, key.1, key.2, .sl _ 0 0 0 _ 0 ⟨ti.sz, [], 0, false⟩ (by simp) (by omega) (by omega) (by simp) (fun _ => .inl ⟨by simp [Place.set], rfl, rfl⟩), rfl, rfl, rfl⟩
    ·obtain ⟨rest, c, c1, c2, c3⟩ := append_grow (rT := rT) A_ hT (base := none) (len := 0) (cap := 0) (y1 P) (by omega) (by rw [Nat.zero_add]; exact hb.1) (by omega) (old := #[]) rfl (d3 P)
     refine ⟨_, _, c3, ?_⟩
     have key := s.alloc (W := W) ⟨ti.sz, ys, 0, false⟩ (#[] ++ arrd ++ rest) e (0, 0) (fun k _ h => by simp at h) rfl y2 (by simp [d4]) (fun i j hi hj => by
      have hk : i * ti.sz + j < arrd.size := by
       have : (i + 1) * ti.sz ≤ ys.length * ti.sz := Nat.mul_le_mul_right _ hi
       rw [Nat.add_mul, Nat.one_mul] at this; simp only at hj; omega
      have := d5 i j hi hj
      simp only [Nat.zero_add, Array.empty_append]
      have e2 : (arrd ++ rest).getD (i * ti.sz + j) undef = arrd.getD (i * ti.sz + j) undef := by simp [Array.getElem?_append, hk]
      rw [e2]; exact this)
     refine ⟨_, I, F, key.1, key.2, ?_, rfl, rfl, rfl⟩
     rw [Nat.zero_add] at c1 c2 ⊢
     refine .sl _ 0 ys.length ys.length _ c ⟨ti.sz, ys, 0, false⟩ (by simp) (by omega) (by omega) (by simp) (fun _ => .inr ⟨⟨w.heap.size, 0, none⟩, #[] ++ arrd ++ rest, e, (0, 0), by simp [Place.set], rfl, fun _ => by simp, by show (w.heap.push _)[_]? = _; simp, ?_, by omega⟩)
     simp only [Nat.zero_add, Array.size_append, d4, c2]
     have : c * ti.sz = ys.length * ti.sz + (c - ys.length) * ti.sz := by rw [← Nat.add_mul]; congr 1; omega
     simp; omega
   ·cases h
  all_goals first | cases h | (rename_i e0; cases e0)
 | ro0 n x1 c =>
  simp only [appA] at h
  split at h
  ·rename_i e1; subst e1; injection h with h; injection h with h1 h2; subst h1 h2
   have e4 : arr = #[] := by simpa using y4
   subst e4
   refine ⟨_, w, append_in A_ hT (y1 P) (Nat.zero_le _) (y3 P) ?_, Step.same s (.ro0 n x1 c)⟩
   cases x1 <;> rfl
  ·cases h
 | ro n rows ad c cs ty fr hs hI hb hn hsz hcap hfl hc =>
  simp only [appA] at h
  split at h
  ·rename_i e1; subst e1; injection h with h; injection h with h1 h2; subst h1 h2
   have e4 : arr = #[] := by simpa using y4
   subst e4
   exact ⟨_, w, append_in A_ hT (y1 P) (by simpa using hcap) (y3 P) rfl, Step.same s (.ro n rows ad c cs ty fr hs hI hb hn hsz hcap hfl hc)⟩
  ·cases h
 | sl id lo hi ver x1 c o ho h1 h2 h3 hf =>
  have rx : Rel S σ I w.heap (.sl id lo hi ver) (.slice x1 (hi - lo) c) := .sl id lo hi ver x1 c o ho h1 h2 h3 hf
  simp only [appA, ho] at h
  split at h
  ·rename_i hh
   obtain ⟨g1, g2, g3, g4, g5, g6⟩ := hh
   have gW := hwr _ g4
   have q := s.ob id o ho
   have hff := hf g1.symm
   clear hf
   have eqs : rowsA S ti.sz (.sl id lo hi ver) = some ((o.rows.take hi).drop lo) := by simp [rowsA, ho, g1, g3]
   split at h
   ·rename_i hl
    obtain ⟨l1, l2⟩ := hl
    subst l2
    injection h with h; injection h with e1 e2; subst e1 e2
    have hlen : ∀ i, i < (o.rows ++ ys).length → ((o.rows ++ ys).getD i []).length = ti.sz := fun i hi' => by
     rw [getD_append_rows]
     split
     ·rename_i hlt; rw [q.len i hlt, g3]
     ·rename_i hlt; exact y2 _ (by simp at hi'; omega)
    rcases Nat.lt_or_ge c (hi - 0 + ys.length) with hgt | hle
    ·-- a new block
     obtain ⟨z1, z2, old, z3, z4, z5⟩ := rows_ok (w := w.drew) s eqs rx
     have hl0 : (((o.rows.take hi).drop 0)).length = hi - 0 := by simp; omega
     rw [hl0] at z3 z4
     obtain ⟨rest, c', c1, c2, c3⟩ := append_grow (rT := rT) A_ hT (base := x1) (len := hi - 0) (cap := c) (y1 P) hgt (by rw [Nat.sub_zero]; exact g5) (by omega) (z3 P) (d3 P)
     refine ⟨_, _, c3, ?_⟩
     rcases Nat.eq_zero_or_pos ys.length with hz | hz
     ·exfalso
      rcases hff with ⟨q1, q2, q3⟩ | ⟨ad, b, ty, fr, q1, q2, q3, q4, q5, q6⟩
      ·have := q.none_ q1; simp [this] at g1; omega
      ·omega
     have key := s.move (W := W) ho gW g2 (old ++ arrd ++ rest) e (0, 0) (fun k _ h => by simp at h) (o' := ⟨ti.sz, o.rows ++ ys, 0, o.bx⟩) g3.symm rfl (by simp; omega) hlen (by
       simp only [List.length_append, Array.size_append, d4, z4, Nat.add_mul]; rw [g1, ← l1]; simp) (fun i j hi' hj => by
      simp only at hj
      simp only [getD_append_rows, Nat.zero_add]
      simp only [List.length_append] at hi'
      have hos : old.size = o.rows.length * ti.sz := by rw [z4, g1, ← l1, Nat.sub_zero]
      split
      ·rename_i hlt
       have hk : i * ti.sz + j < old.size := by
        have : (i + 1) * ti.sz ≤ o.rows.length * ti.sz := Nat.mul_le_mul_right _ hlt
        rw [Nat.add_mul, Nat.one_mul] at this; omega
       have := z5 i j (by rw [hl0]; omega) hj
       have e3 : ((o.rows.take hi).drop 0).getD i [] = o.rows.getD i [] := by
        simp only [List.getD_eq_getElem?_getD, List.drop_zero, List.getElem?_take]; rw [if_pos (by omega)]
       rw [e3] at this
       have e2 : (old ++ arrd ++ rest).getD (i * ti.sz + j) undef = old.getD (i * ti.sz + j) undef := by
        simp [Array.getElem?_append, hk]
       rw [e2]; exact this
      ·rename_i hlt
       have hi2 : i - o.rows.length < ys.length := by omega
       have e5 : i * ti.sz + j = old.size + ((i - o.rows.length) * ti.sz + j) := by
        rw [hos, ← Nat.add_assoc, ← Nat.add_mul]; congr 2; omega
       have hk : (i - o.rows.length) * ti.sz + j < arrd.size := by
        have : (i - o.rows.length + 1) * ti.sz ≤ ys.length * ti.sz := Nat.mul_le_mul_right _ hi2
        rw [Nat.add_mul, Nat.one_mul] at this; omega
       have := d5 _ j hi2 hj
       have e2 : (old ++ arrd ++ rest).getD (i * ti.sz + j) undef = arrd.getD ((i - o.rows.length) * ti.sz + j) undef := by
        rw [e5]
        have h1 : old.size + ((i - o.rows.length) * ti.sz + j) < (old ++ arrd).size := by simp; omega
        simp only [Array.getD_eq_getD_getElem?]
        rw [Array.getElem?_append_left h1, Array.getElem?_append_right (by omega)]
        congr 2; omega
       rw [e2]; exact this)
     refine ⟨_, I, F, key.1, key.2, ?_, rfl, rfl, rfl⟩
     have hlt := (List.getElem?_eq_some_iff.1 ho).1
     refine .sl id 0 (hi + ys.length) (hi + ys.length) _ c' ⟨ti.sz, o.rows ++ ys, 0, o.bx⟩ (by rw [getElem?_set' _ _ _ _ hlt, if_pos rfl]) (by omega) (by omega) (by simp; omega) (fun _ => .inr ⟨⟨w.heap.size, 0, none⟩, old ++ arrd ++ rest, e, (0, 0), by simp [Place.set], rfl, fun _ => by simp, by show (w.heap.push _)[_]? = _; simp, ?_, by omega⟩)
     simp only [Nat.zero_add, Array.size_append, d4, z4, c2]
     have : c' * ti.sz = (hi - 0) * ti.sz + ys.length * ti.sz + (c' - (hi - 0 + ys.length)) * ti.sz := by rw [← Nat.add_mul, ← Nat.add_mul]; congr 1; omega
     omega
    ·-- where it lies
     rcases hff with ⟨q1, q2, q3⟩ | ⟨ad, b, ty, fr, q1, q2, q3, q4, q5, q6⟩
     ·have hz : ys.length = 0 := by omega
      have e1 : ys = [] := List.length_eq_zero_iff.1 hz
      subst e1
      have e4 : arr = #[] := by simpa using y4
      subst e4
      have hh : hi = 0 := by have z0 := q.none_ q1; have z1 : o.rows.length = 0 := (by rw [z0]; rfl); omega
      subst hh
      have hset : S.set id ⟨ti.sz, o.rows ++ [], 0, o.bx⟩ = S := by
       have : (⟨ti.sz, o.rows ++ [], 0, o.bx⟩ : Ob) = o := by
        rw [List.append_nil, ← g3, ← g2]
       rw [this]
       apply List.ext_getElem?
       intro i
       rw [getElem?_set' _ _ _ _ (List.getElem?_eq_some_iff.1 ho).1]
       split
       ·rename_i e; subst e; exact ho.symm
       ·rfl
      rw [hset]
      refine ⟨_, w, append_in A_ hT (y1 P) hle (y3 P) ?_, Step.same s ?_⟩
      ·cases x1 <;> rfl
      ·have e7 : ver = 0 := by omega
       subst e7; simpa using rx
     ·obtain ⟨k1, k2, k3, b', ty', fr', k4, k5, k6, k7⟩ := q.there ad q1
      rw [q4] at k4; injection k4 with k4; injection k4 with f1 f2 f3; subst f1 f2 f3
      rw [Nat.zero_add] at q5 q6
      have m1 : (hi + ys.length) * o.n ≤ c * o.n := Nat.mul_le_mul_right _ (by omega)
      have m2 : (hi + ys.length) * o.n = hi * o.n + ys.length * o.n := Nat.add_mul _ _ _
      obtain ⟨w', e1, e2, e3, e4, e5, e6, cs2, z1, z2⟩ := write_ok s ho gW g2 q1 q4 (hi * o.n) arr.toList al (by simp [y4, ← g3]; omega) ⟨ti.sz, o.rows ++ ys, 0, o.bx⟩ g3.symm rfl (by simp) hlen (by
        simp only [List.length_append]; rw [g1, ← l1, ← g3]; omega) (fun i j hi' hj => by
       simp only at hj hi' ⊢
       simp only [List.length_append] at hi'
       rw [getD_append_rows]
       rw [g3]
       split
       ·rename_i hc
        have hni : ¬ i < o.rows.length := fun hlt => by
         have : (i + 1) * ti.sz ≤ hi * ti.sz := Nat.mul_le_mul_right _ (by omega)
         rw [Nat.add_mul, Nat.one_mul] at this; omega
        rw [if_neg hni]
        have := y5 (i - o.rows.length) j (by omega) hj
        have e5 : i * ti.sz + j - hi * ti.sz = (i - o.rows.length) * ti.sz + j := by
         have : i * ti.sz = hi * ti.sz + (i - o.rows.length) * ti.sz := by rw [← Nat.add_mul]; congr 1; omega
         omega
        rw [e5]
        have hk : (i - o.rows.length) * ti.sz + j < arr.size := by
         have : (i - o.rows.length + 1) * ti.sz ≤ ys.length * ti.sz := Nat.mul_le_mul_right _ (by omega)
         rw [Nat.add_mul, Nat.one_mul] at this; omega
        simpa [hk] using this
       ·rename_i hc
        have hlt : i < o.rows.length := by
         rcases Nat.lt_or_ge i o.rows.length with h | h
         ·exact h
         ·exfalso; apply hc
          have a1 : hi * ti.sz ≤ i * ti.sz := Nat.mul_le_mul_right _ (by omega)
          have a2 : (i + 1) * ti.sz ≤ (hi + ys.length) * ti.sz := Nat.mul_le_mul_right _ (by omega)
          rw [Nat.add_mul, Nat.one_mul, Nat.add_mul] at a2
          simp only [Array.length_toList, y4]; omega
        rw [if_pos hlt]; exact ⟨hlt, rfl⟩)
      refine ⟨_, w', append_in A_ hT (y1 P) hle (y3 P) ?_, σ, I, F, e2, e3, ?_, e4, e5, e6⟩
      ·cases hx1 : x1 with
       | none =>
        rcases Nat.eq_zero_or_pos c with hc0 | hc0
        ·have hz : ys.length = 0 := by omega
         have : arr = #[] := by
          have : arr.size = 0 := by rw [y4, hz]; simp
          simpa using this
         subst this
         have := e1 P
         simpa [storeCells] using this
        ·rw [hx1] at q3; cases q3 hc0
       | some ax =>
        simp only
        rcases Nat.eq_zero_or_pos c with hc0 | hc0
        ·have hz : ys.length = 0 := by omega
         have : arr = #[] := by
          have : arr.size = 0 := by rw [y4, hz]; simp
          simpa using this
         subst this
         have := e1 P
         simpa [storeCells] using this
        ·rw [hx1] at q3; have := q3 hc0; injection this with this; subst this
         rw [addr_add rfl]
         have := e1 P
         simpa [g3] using this
      ·have hlt := (List.getElem?_eq_some_iff.1 ho).1
       refine .sl id 0 (hi + ys.length) (hi + ys.length) x1 c ⟨ti.sz, o.rows ++ ys, 0, o.bx⟩ (by rw [getElem?_set' _ _ _ _ hlt, if_pos rfl]) (by omega) (by omega) (by simp; omega) (fun _ => .inr ⟨ad, cs2, ty, fr, q1, q2, fun h => by simpa using q3 h, z1, ?_, by omega⟩)
       simp only [Nat.zero_add]; rw [z2, ← g3]; exact q5
   ·split at h
    ·rename_i hnl hle2
     injection h with h; injection h with e1 e2; subst e1 e2
     rcases hff with ⟨q1, q2, q3⟩ | ⟨ad, b, ty, fr, q1, q2, q3, q4, q5, q6⟩
     ·exfalso
      have z0 := q.none_ q1; have z1 : o.rows.length = 0 := (by rw [z0]; rfl)
      exact hnl ⟨by omega, q3⟩
     ·obtain ⟨k1, k2, k3, b', ty', fr', k4, k5, k6, k7⟩ := q.there ad q1
      rw [q4] at k4; injection k4 with k4; injection k4 with f1 f2 f3; subst f1 f2 f3
      have m1 : (hi + ys.length) * o.n ≤ o.rows.length * o.n := Nat.mul_le_mul_right _ (by omega)
      have m2 : (hi + ys.length) * o.n = hi * o.n + ys.length * o.n := Nat.add_mul _ _ _
      have hsl : (o.rows.take hi ++ ys ++ o.rows.drop (hi + ys.length)).length = o.rows.length := by simp; omega
      have hget : ∀ i, (o.rows.take hi ++ ys ++ o.rows.drop (hi + ys.length)).getD i [] = if hi ≤ i ∧ i < hi + ys.length then ys.getD (i - hi) [] else o.rows.getD i [] := fun i => by
       rw [getD_append_rows, getD_append_rows]
       have h1 : (o.rows.take hi).length = hi := by simp; omega
       simp only [List.length_append, h1]
       by_cases c1 : i < hi
       ·rw [if_pos (by omega), if_pos c1, if_neg (by omega)]
        simp only [List.getD_eq_getElem?_getD, List.getElem?_take]; rw [if_pos c1]
       ·by_cases c2 : i < hi + ys.length
        ·rw [if_pos c2, if_neg c1, if_pos (by omega)]
        ·rw [if_neg c2, if_neg (by omega)]
         simp only [List.getD_eq_getElem?_getD, List.getElem?_drop]; congr 2; omega
      obtain ⟨w', e1, e2, e3, e4, e5, e6, cs2, z1, z2⟩ := write_ok s ho gW g2 q1 q4 (hi * o.n) arr.toList al (by simp [y4, ← g3]; omega) ⟨ti.sz, o.rows.take hi ++ ys ++ o.rows.drop (hi + ys.length), 0, o.bx⟩ g3.symm rfl (by simp only [hsl]; omega)
       (fun i hi' => by
        simp only [hsl] at hi'
        simp only [hget]
        split
        ·exact y2 _ (by omega)
        ·rw [q.len i hi', g3]) (by simp only [hsl, ← g3]; omega) (fun i j hi' hj => by
       simp only [hsl] at hi'
       simp only at hj
       simp only [hget]
       rw [g3]
       split
       ·rename_i hc
        have i1 : hi ≤ i := by
         rcases Nat.lt_or_ge i hi with h | h
         ·have : (i + 1) * ti.sz ≤ hi * ti.sz := Nat.mul_le_mul_right _ h
          rw [Nat.add_mul, Nat.one_mul] at this; omega
         ·exact h
        have i2 : i < hi + ys.length := by
         rcases Nat.lt_or_ge i (hi + ys.length) with h | h
         ·exact h
         ·have : (hi + ys.length) * ti.sz ≤ i * ti.sz := Nat.mul_le_mul_right _ h
          rw [Nat.add_mul] at this
          simp only [Array.length_toList, y4] at hc; omega
        rw [if_pos ⟨i1, i2⟩]
        have := y5 (i - hi) j (by omega) hj
        have e5 : i * ti.sz + j - hi * ti.sz = (i - hi) * ti.sz + j := by
         have : i * ti.sz = hi * ti.sz + (i - hi) * ti.sz := by rw [← Nat.add_mul]; congr 1; omega
         omega
        rw [e5]
        have hk : (i - hi) * ti.sz + j < arr.size := by
         have : (i - hi + 1) * ti.sz ≤ ys.length * ti.sz := Nat.mul_le_mul_right _ (by omega)
         rw [Nat.add_mul, Nat.one_mul] at this; omega
        simpa [hk] using this
       ·rename_i hc
        rw [if_neg]
        ·exact ⟨hi', rfl⟩
        ·intro hcc
         apply hc
         have a1 : hi * ti.sz ≤ i * ti.sz := Nat.mul_le_mul_right _ hcc.1
         have a2 : (i + 1) * ti.sz ≤ (hi + ys.length) * ti.sz := Nat.mul_le_mul_right _ hcc.2
         rw [Nat.add_mul, Nat.one_mul, Nat.add_mul] at a2
         simp only [Array.length_toList, y4]; omega)
      have hcap : hi - lo + ys.length ≤ c := by omega
      refine ⟨_, w', append_in A_ hT (y1 P) hcap (y3 P) ?_, σ, I, F, e2, e3, ?_, e4, e5, e6⟩
      ·rcases Nat.eq_zero_or_pos c with hc0 | hc0
       ·have hz : ys.length = 0 := by omega
        have : arr = #[] := by
         have : arr.size = 0 := by rw [y4, hz]; simp
         simpa using this
        subst this
        have := e1 P
        cases x1 <;> simpa [storeCells] using this
       ·have := q3 hc0; subst this
        simp only
        rw [addr_add rfl]
        have := e1 P
        have e7 : ad.off + lo * o.n + (hi - lo) * ti.sz = ad.off + hi * o.n := by
         rw [← g3, Nat.add_assoc, ← Nat.add_mul]; congr 2; omega
        simp only [e7]; exact this
      ·have hlt := (List.getElem?_eq_some_iff.1 ho).1
       have e8 : hi - lo + ys.length = hi + ys.length - lo := by omega
       rw [e8]
       refine .sl id lo (hi + ys.length) ver x1 c ⟨ti.sz, o.rows.take hi ++ ys ++ o.rows.drop (hi + ys.length), 0, o.bx⟩ (by rw [getElem?_set' _ _ _ _ hlt, if_pos rfl]) (by omega) (by omega) (by simp only [hsl]; omega) (fun _ => .inr ⟨ad, cs2, ty, fr, q1, q2, fun h => by simpa [← g3] using q3 h, z1, ?_, by omega⟩)
       rw [z2]; simp only [← g3]; exact q5
    ·cases h
  ·cases h
 | _ => simp [appA] at h
end
end Go.Proofs.YtomklniddinhnaaE
