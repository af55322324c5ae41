/- Part of the evaluator's contracts: mark. -/
import Derived.Test.YtdpaijnbikclgaaDoorFbase
namespace Go.Proofs.YtdpaijnbikclgaaDoorB
open Go Go.Proofs.YtdpaijnbikclgaaDoorE
set_option linter.unusedVariables false
set_option linter.unusedSectionVars false
set_option linter.unusedSimpArgs false
set_option maxHeartbeats 4000000
set_option maxRecDepth 20000
def intC (x : Int) : List A := [(.v (.int .i64 (x)))]
def strC (x : ByteArray) : List A := [(.v (.string (x)))]
def boolC (x : Bool) : List A := [(.v (.bool (x)))]
theorem fl_int (l : List Int) : flatRowsB (List.map intC l) = true := flat_map intC (fun _ => rfl) l
theorem fl_str (l : List ByteArray) : flatRowsB (List.map strC l) = true := flat_map strC (fun _ => rfl) l
theorem fl_bool (l : List Bool) : flatRowsB (List.map boolC l) = true := flat_map boolC (fun _ => rfl) l
theorem fl_byte (l : List UInt8) : flatRowsB (List.map byteRow l) = true := flat_map byteRow (fun _ => rfl) l
theorem ok_int (m : Nat) (l : List Int) : rowsAll (okC m) (List.map intC l) = true := rowsAll_map (okC m) intC (fun _ => rfl) l
theorem ok_str (m : Nat) (l : List ByteArray) : rowsAll (okC m) (List.map strC l) = true := rowsAll_map (okC m) strC (fun _ => rfl) l
theorem ok_bool (m : Nat) (l : List Bool) : rowsAll (okC m) (List.map boolC l) = true := rowsAll_map (okC m) boolC (fun _ => rfl) l
theorem ok_byte (m : Nat) (l : List UInt8) : rowsAll (okC m) (List.map byteRow l) = true := rowsAll_map (okC m) byteRow (fun _ => rfl) l
theorem nr_int (l : List Int) : rowsAll noRoC (List.map intC l) = true := rowsAll_map noRoC intC (fun _ => rfl) l
theorem nr_str (l : List ByteArray) : rowsAll noRoC (List.map strC l) = true := rowsAll_map noRoC strC (fun _ => rfl) l
theorem nr_bool (l : List Bool) : rowsAll noRoC (List.map boolC l) = true := rowsAll_map noRoC boolC (fun _ => rfl) l
theorem nr_byte (l : List UInt8) : rowsAll noRoC (List.map byteRow l) = true := rowsAll_map noRoC byteRow (fun _ => rfl) l
theorem lf_int (l : List Int) : leafRows (List.map intC l) = true := leaf_map intC (fun _ => rfl) l
theorem lf_str (l : List ByteArray) : leafRows (List.map strC l) = true := leaf_map strC (fun _ => rfl) l
theorem lf_bool (l : List Bool) : leafRows (List.map boolC l) = true := leaf_map boolC (fun _ => rfl) l
theorem lf_byte (l : List UInt8) : leafRows (List.map byteRow l) = true := leaf_map byteRow (fun _ => rfl) l
theorem set_self {S : Store} {id : Nat} {o : Ob} (h : S[id]? = some o) : S.set id o = S := by
  apply List.ext_getElem?
  intro i
  rw [getElem?_set' _ _ _ _ (List.getElem?_eq_some_iff.1 h).1]
  split
  · rename_i e; subst e; exact h.symm
  · rfl
theorem markU (x : Int) : (x % 256) = ((UInt8.ofInt x).toNat : Int) := by
  rw [UInt8.ofInt, UInt8.toNat_ofNat']
  omega
theorem markB (x : Int) : (x % 3 == 0) = (x % 3 == 0) := rfl
theorem nx1 (x : Int) (i : Nat) : x + ((i + 1 : Nat) : Int) = x + (i : Int) + 1 := by omega
theorem nx2 (x : Int) (i : Nat) : x + 2 * ((i + 1 : Nat) : Int) = x + 2 * (i : Int) + 1 + 1 := by omega
theorem nx3 (x : Int) (i : Nat) : x + 3 * ((i + 1 : Nat) : Int) = x + 3 * (i : Int) + 1 + 1 + 1 := by omega
theorem nx4 (x : Int) (i : Nat) : x + 4 * ((i + 1 : Nat) : Int) = x + 4 * (i : Int) + 1 + 1 + 1 + 1 := by omega
theorem nx5 (x : Int) (i : Nat) : x + 5 * ((i + 1 : Nat) : Int) = x + 5 * (i : Int) + 1 + 1 + 1 + 1 + 1 := by omega
/-- a number's digits ahead of acc -/
def mtD : Nat → Int → ByteArray → ByteArray
  | 0, _, acc => acc
  | f + 1, n, acc => if n ≤ 0 then acc else mtD f (n / 10) (strOfNums [IntKind.u8.wrap (48 + n % 10)] ++ acc)
def mt (k : Int) : ByteArray := if k ≤ 0 then ⟨#[109, 48]⟩ else ⟨#[109]⟩ ++ mtD (k.toNat + 1) k ⟨#[]⟩
theorem mtD_ge : ∀ (f : Nat) (n : Int) (acc : ByteArray), n.toNat < f → ∀ d, mtD (f + d) n acc = mtD f n acc
  | 0, n, acc, h, d => by omega
  | f + 1, n, acc, h, d => by
    rw [show f + 1 + d = (f + d) + 1 by omega]
    show (if n ≤ 0 then acc else mtD (f + d) (n / 10) _) = (if n ≤ 0 then acc else mtD f (n / 10) _)
    split
    · rfl
    · exact mtD_ge f _ _ (by omega) d
theorem one_size (x : Int) : (strOfNums [x]).size = 1 := rfl
theorem FX_mark : (((((type_of% @lf_int) ∧ (type_of% @lf_str)) ∧ ((type_of% @lf_bool) ∧ ((type_of% @lf_byte) ∧ (type_of% @fl_int)))) ∧ (((type_of% @fl_str) ∧ (type_of% @fl_bool)) ∧ ((type_of% @fl_byte) ∧ ((type_of% @ok_int) ∧ (type_of% @ok_str))))) ∧ ((((type_of% @ok_bool) ∧ (type_of% @ok_byte)) ∧ ((type_of% @nr_int) ∧ ((type_of% @nr_str) ∧ (type_of% @nr_bool)))) ∧ (((type_of% @nr_byte) ∧ (type_of% @intC.eq_1)) ∧ ((type_of% @strC.eq_1) ∧ ((type_of% @boolC.eq_1) ∧ (type_of% @byteRow.eq_1)))))) := ⟨⟨⟨⟨@lf_int, @lf_str⟩, ⟨@lf_bool, ⟨@lf_byte, @fl_int⟩⟩⟩, ⟨⟨@fl_str, @fl_bool⟩, ⟨@fl_byte, ⟨@ok_int, @ok_str⟩⟩⟩⟩, ⟨⟨⟨@ok_bool, @ok_byte⟩, ⟨@nr_int, ⟨@nr_str, @nr_bool⟩⟩⟩, ⟨⟨@nr_byte, @intC.eq_1⟩, ⟨@strC.eq_1, ⟨@boolC.eq_1, @byteRow.eq_1⟩⟩⟩⟩⟩
end Go.Proofs.YtdpaijnbikclgaaDoorB
