/- Part of the proof: an evaluator (YtdpaijnbikclgaaDoorEOp). -/
import Derived.Test.YtdpaijnbikclgaaDoorEDef
set_option linter.unusedVariables false
set_option linter.unusedSimpArgs false
set_option linter.unusedSectionVars false
namespace Go.Proofs.YtdpaijnbikclgaaDoorE
open Go
inductive Z where | int (k : IntKind) | bool | str | nslice | nptr | nfunc | niface
 deriving DecidableEq, Inhabited
def Z.val : Z → Value
 | .int k => .int k 0 | .bool => .bool false | .str => .string ⟨#[]⟩ | .nslice => .slice none 0 0 | .nptr => .pointer none | .nfunc => .nilFunc | .niface => .nilIface
def zOf : Value → Option Z
 | .int k n => if n = 0 then some (.int k) else none
 | .bool b => if b = false then some .bool else none
 | .string s => if s.data = #[] then some .str else none
 | .slice none 0 0 => some .nslice | .pointer none => some .nptr | .nilFunc => some .nfunc | .nilIface => some .niface
 | _ => none
theorem zOf_val {x : Value} {z : Z} (h : zOf x = some z) : x = z.val := by
 unfold zOf at h
 split at h
 ·split at h <;> first | (injection h with h; subst h; subst_vars; rfl) | cases h
 ·split at h <;> first | (injection h with h; subst h; subst_vars; rfl) | cases h
 ·rename_i s; split at h
  ·rename_i e; injection h with h; subst h; cases s; simp at e; subst e; rfl
  ·cases h
 all_goals first | (injection h with h; subst h; rfl) | cases h
inductive TK where | int (k : IntKind) | bool | str | slice (e : Nat) | struct (fs : List (Nat × Nat)) | arr (n e : Nat) | other
 deriving DecidableEq, Inhabited
def tkOf : TypeDesc → TK
 | .int k => .int k | .bool => .bool | .string => .str | .slice e => .slice e | .array n e => .arr n e
 | .struct fs => .struct (fs.toList.map fun f => (f.offset, f.type)) | _ => .other
structure TI where
 agg : Bool
 sz : Nat
 bytes : Nat
 zero : List Z
 kind : TK
 deriving DecidableEq, Inhabited
def aggD : TypeDesc → Bool | .struct _ | .array _ _ => true | _ => false
def tiOf (P : Program) (t : Nat) : Option TI :=
 match P.info? t, P.underlying t with
 | some i, some d => match i.zero with
  | some z => (z.cells.toList.mapM zOf).map fun zs => ⟨aggD d, i.size, i.bytes, zs, tkOf d⟩
  | none => none
 | _, _ => none
theorem mapM_zOf : ∀ {l : List Value} {zs : List Z}, l.mapM zOf = some zs → l = zs.map Z.val
 | [], zs, h => by simp at h; subst h; rfl
 | x :: l, zs, h => by
  simp only [List.mapM_cons, Option.bind_eq_bind] at h
  obtain ⟨z, hz, h⟩ := Option.bind_eq_some_iff.1 h
  obtain ⟨zs', hzs, h⟩ := Option.bind_eq_some_iff.1 h
  injection h with h; subst h
  simp [mapM_zOf hzs, zOf_val hz]
structure TIok (P : Program) (t : Nat) (ti : TI) (i : TypeInfo) (d : TypeDesc) (z : Value) : Prop where
 info : P.info? t = some i
 und : P.underlying t = some d
 sz : i.size = ti.sz
 bytes : i.bytes = ti.bytes
 zero : i.zero = some z
 cells : z.cells.toList = ti.zero.map Z.val
 agg : ti.agg = aggD d
 kind : ti.kind = tkOf d
theorem tiOf_ok {P : Program} {t : Nat} {ti : TI} (h : tiOf P t = some ti) : ∃ i d z, TIok P t ti i d z := by
 unfold tiOf at h
 split at h
 ·rename_i i d hi hd
  split at h
  ·rename_i z hz
   obtain ⟨zs, h1, h2⟩ := Option.map_eq_some_iff.1 h
   subst h2
   exact ⟨i, d, z, hi, hd, rfl, rfl, hz, mapM_zOf h1, rfl, rfl⟩
  ·cases h
 ·cases h
theorem tk_slice {d : TypeDesc} {e : Nat} (h : tkOf d = .slice e) : d = .slice e := by cases d <;> simp [tkOf] at h; subst h; rfl
theorem tk_arr {d : TypeDesc} {n e : Nat} (h : tkOf d = .arr n e) : d = .array n e := by cases d <;> simp [tkOf] at h; obtain ⟨rfl, rfl⟩ := h; rfl
theorem tk_int {d : TypeDesc} {k : IntKind} (h : tkOf d = .int k) : d = .int k := by cases d <;> simp [tkOf] at h; subst h; rfl
theorem tk_str {d : TypeDesc} (h : tkOf d = .str) : d = .string := by cases d <;> simp [tkOf] at h; rfl
theorem tk_struct {d : TypeDesc} {fs : List (Nat × Nat)} (h : tkOf d = .struct fs) : ∃ g, d = .struct g ∧ fs = g.toList.map fun f => (f.offset, f.type) := by cases d <;> simp [tkOf] at h; exact ⟨_, rfl, h.symm⟩
def cellsOf? : A → Option (List A)
 | .ag cs => some cs
 | .dead | .tu _ | .v (.agg _) | .v (.tuple _) => none
 | a => some [a]
def leafA : A → Bool
 | .v x => x.oneCell'
 | .ro .. | .rp .. | .sl .. | .pt .. | .fn .. => true
 | _ => false
def leafs (l : List A) : Bool := l.all leafA
def leafRows (l : List (List A)) : Bool := l.all leafs
def mkA (agg : Bool) (cs : List A) : Option A := if agg then some (.ag cs) else match cs with | [a] => some a | _ => none
def rowA (S : Store) (id row ver : Nat) : Option (List A) := match S[id]? with
 | some o => if o.rows.length = ver then o.rows[row]? else none
 | none => none
def cutA (l : List A) (off n : Nat) : Option (List A) := if off + n ≤ l.length then some ((l.drop off).take n) else none
def rdA (S : Store) (n : Nat) : A → Option (List A)
 | .pt id row off ver => (rowA S id row ver).bind fun r => cutA r off n
 | .rp cs => cutA cs 0 n
 | _ => none
def byteRow (b : UInt8) : List A := [.v (.int .u8 b.toNat)]
def strRows (s : ByteArray) : List (List A) := s.data.toList.map byteRow
def rowsA (S : Store) (sz : Nat) : A → Option (List (List A))
 | .v (.slice none 0 0) => some []
 | .v (.string s) => if sz = 1 then some (strRows s) else none
 | .ro n rows => if n = sz then some rows else none
 | .sl id lo hi ver => match S[id]? with
  | some o => if o.rows.length = ver ∧ o.n = sz then some ((o.rows.take hi).drop lo) else none
  | none => none
 | _ => none
def lenS : A → Option Nat
 | .v (.slice none 0 0) => some 0
 | .ro _ rows => some rows.length
 | .sl _ lo hi _ => some (hi - lo)
 | _ => none
def lenA (T : Nat → Option TI) (t : Nat) (a : A) : Option Nat := match T t with
 | some ti => match ti.kind with
  | .str => match a with | .v (.string s) => some s.size | _ => none
  | .slice _ => lenS a
  | _ => none
 | none => none
def boolOf : A → Option Bool | .v (.bool b) => some b | _ => none
def intOf? : A → Option (IntKind × Int) | .v (.int k n) => some (k, n) | _ => none
def binI (op : BinOp) (k : IntKind) (a b : Int) : Option Value :=
 match op with
 | .add => some (.int k (k.wrap (a + b)))
 | .sub => some (.int k (k.wrap (a - b)))
 | .mul => some (.int k (k.wrap (a * b)))
 | .quo => if b = 0 then none else some (.int k (k.wrap (a.tdiv b)))
 | .rem => if b = 0 then none else some (.int k (a.tmod b))
 | .and => some (.int k (bits .and k a b))
 | .or => some (.int k (bits .or k a b))
 | .xor => some (.int k (bits .xor k a b))
 | .andNot => some (.int k (bits .andNot k a b))
 | .eql => some (.bool (a == b))
 | .neq => some (.bool (a != b))
 | .lss => some (.bool (a < b))
 | .leq => some (.bool (a ≤ b))
 | .gtr => some (.bool (a > b))
 | .geq => some (.bool (a ≥ b))
 | _ => none
def strLe (a b : ByteArray) : Bool := Op.bytesLess a.toList b.toList || a.toList == b.toList
def binS (op : BinOp) (a b : ByteArray) : Option Value :=
 match op with
 | .add => if a.size + b.size ≤ 9223372036854775807 then some (.string (a ++ b)) else none
 | .eql => some (.bool (a.toList == b.toList))
 | .neq => some (.bool (!(a.toList == b.toList)))
 | .lss => some (.bool (Op.bytesLess a.toList b.toList))
 | .leq => some (.bool (strLe a b))
 | .gtr => some (.bool (!strLe a b))
 | .geq => some (.bool (!Op.bytesLess a.toList b.toList))
 | _ => none
def isBool (T : Nat → Option TI) (t : Nat) : Bool := match T t with | some ti => ti.kind == .bool | none => false
def binA (T : Nat → Option TI) (t : Nat) (op : BinOp) (a b : A) : Option A :=
 match a, b with
 | .v (.int k x), .v (.int k' y) => match op with
  | .shl => if 0 ≤ y then some (.v (.int k (k.wrap (x * 2 ^ (min y.toNat k.bits))))) else none
  | .shr => if 0 ≤ y then some (.v (.int k (x.fdiv (2 ^ (min y.toNat k.bits))))) else none
  | _ => if k = k' then (binI op k x y).map .v else none
 | .v (.string x), .v (.string y) => (binS op x y).map .v
 | .v (.bool x), .v (.bool y) => if isBool T t then match op with
  | .eql => some (.v (.bool (x == y)))
  | .neq => some (.v (.bool (x != y)))
  | _ => none
  else none
 | _, _ => none
def unA (op : UnOp) (a : A) : Option A :=
 match op, a with
 | .not, .v (.bool b) => some (.v (.bool (!b)))
 | .neg, .v (.int k n) => some (.v (.int k (k.wrap (0 - n))))
 | _, _ => none
def convA (T : Nat → Option TI) (S : Store) (src dst : Nat) (a : A) : Option A :=
 match T src, T dst with
 | some s, some d => match d.kind, s.kind, a with
  | .int k, .int _, .v (.int _ n) => some (.v (.int k (k.wrap n)))
  | .str, .int _, .v (.int _ n) => some (.v (.string (Utf8.encode n)))
  | .str, .str, .v (.string x) => some (.v (.string x))
  | _, _, _ => none
 | _, _ => none
def fldA (T : Nat → Option TI) (s f : Nat) : Option (Nat × Nat) := match T s with
 | some ti => match ti.kind with | .struct fs => fs[f]? | _ => none
 | none => none
def szA (T : Nat → Option TI) (t : Nat) : Option Nat := (T t).map (·.sz)
def fillA (place : Nat → Option (Nat × Nat)) (cells : List A) : List (Nat × A) → Option (List A)
 | [] => some cells
 | (i, a) :: rest => match place i, cellsOf? a with
  | some (off, size), some cs => if cs.length = size ∧ off + size ≤ cells.length then fillA place (cells.take off ++ cs ++ cells.drop (off + size)) rest else none
  | _, _ => none
def indA (T : Nat → Option TI) (S : Store) (t : Nat) (x : A) (j : Int) : Option A :=
 match T t with
 | some ti => match ti.kind with
  | .slice e => match x with
   | .ro n rows => if 0 ≤ j ∧ szA T e = some n then (rows[j.toNat]?).map .rp else none
   | .sl id lo hi ver => match S[id]? with
    | some o => if 0 ≤ j ∧ j < ((hi - lo : Nat) : Int) ∧ o.rows.length = ver ∧ szA T e = some o.n then some (.pt id (lo + j.toNat) 0 ver) else none
    | none => none
   | _ => none
  | .arr n e => match x, szA T e with
   | .pt id row off ver, some s => if 0 ≤ j ∧ j < (n : Int) then some (.pt id row (off + j.toNat * s) ver) else none
   | .rp cs, some s => if 0 ≤ j ∧ j < (n : Int) ∧ (j.toNat + 1) * s ≤ cs.length then some (.rp (cs.drop (j.toNat * s))) else none
   | _, _ => none
  | _ => none
 | none => none
def boundsA (len cap : Nat) (lo hi : Option A) : Option (Nat × Nat) :=
 match hi with
 | none => match lo with
  | none => some (0, len)
  | some (.v (.int _ i)) => if 0 ≤ i ∧ i ≤ (len : Int) then some (i.toNat, len) else none
  | _ => none
 | some (.v (.int _ j)) => if 0 ≤ j ∧ j ≤ (cap : Int) then match lo with
   | none => some (0, j.toNat)
   | some (.v (.int _ i)) => if 0 ≤ i ∧ i ≤ j then some (i.toNat, j.toNat) else none
   | _ => none
  else none
 | _ => none
def slcA (T : Nat → Option TI) (S : Store) (t : Nat) (x : A) (lo hi : Option A) : Option A :=
 match T t with
 | some ti => match ti.kind with
  | .str => match x with
   | .v (.string s) => (boundsA s.size s.size lo hi).map fun (l, h) => .v (.string (s.extract l h))
   | _ => none
  | .slice e => match x with
   | .v (.slice none 0 0) => match szA T e with
    | some _ => (boundsA 0 0 lo hi).map fun _ => .v (.slice none 0 0)
    | none => none
   | .ro n rows => if szA T e = some n then (boundsA rows.length rows.length lo hi).map fun (l, h) => .ro n ((rows.take h).drop l) else none
   | .sl id l0 h0 ver => match S[id]? with
    | some o => if o.rows.length = ver ∧ szA T e = some o.n then (boundsA (h0 - l0) (ver - l0) lo hi).map fun (l, h) => .sl id (l0 + l) (l0 + h) ver else none
    | none => none
   | _ => none
  | _ => none
 | none => none
end Go.Proofs.YtdpaijnbikclgaaDoorE
