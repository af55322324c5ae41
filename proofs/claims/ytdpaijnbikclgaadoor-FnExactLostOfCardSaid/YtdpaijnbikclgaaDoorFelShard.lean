/- Part of the evaluator's contracts: el_Shard. -/
import Derived.Test.YtdpaijnbikclgaaDoorFbase
import Derived.Test.YtdpaijnbikclgaaDoorFmark
namespace Go.Proofs.YtdpaijnbikclgaaDoorB
open Go Go.Proofs.YtdpaijnbikclgaaDoorE
set_option linter.unusedVariables false
set_option linter.unusedSectionVars false
set_option linter.unusedSimpArgs false
set_option maxHeartbeats 4000000
set_option maxRecDepth 20000
structure Shard where
  no : Int
  data : ByteArray
  deriving DecidableEq
def Shard.c (x : Shard) : List A := [(.v (.int .i64 (x.no))), (.v (.string (x.data)))]
theorem fl_Shard (l : List Shard) : flatRowsB (List.map Shard.c l) = true := flat_map Shard.c (fun _ => rfl) l
theorem ok_Shard (m : Nat) (l : List Shard) : rowsAll (okC m) (List.map Shard.c l) = true := rowsAll_map (okC m) Shard.c (fun _ => rfl) l
theorem nr_Shard (l : List Shard) : rowsAll noRoC (List.map Shard.c l) = true := rowsAll_map noRoC Shard.c (fun _ => rfl) l
theorem lf_Shard (l : List Shard) : leafRows (List.map Shard.c l) = true := leaf_map Shard.c (fun _ => rfl) l
def szShard (l : List Shard) : Nat := (l.map fun x => x.data.size).sum
theorem szShard_s (l : List Shard) {i : Nat} (h : i < l.length) : szShard (l.take (i + 1)) = szShard (l.take i) + (l[i].data.size) := by unfold szShard; rw [List.take_add_one, List.map_append, List.sum_append, List.getElem?_eq_getElem h]; rfl
def mkShard (x : Int) (m : Nat) : List Shard := (List.range m).map fun (i : Nat) => ⟨(x + 2 * (i : Int)), mt (x + 2 * (i : Int) + 1)⟩
theorem mkShard_len (x : Int) (m : Nat) : (mkShard x m).length = m := by simp [mkShard]
theorem mkShard_get (x : Int) {m i : Nat} (h : i < m) : (List.map Shard.c (mkShard x m))[i]? = some (Shard.c ⟨(x + 2 * (i : Int)), mt (x + 2 * (i : Int) + 1)⟩) := by simp [mkShard, h]
theorem mkShard_pre (x : Int) (l : List Shard) {i : Nat} (h : i ≤ l.length) : (mkShard x i ++ l.drop i).length = l.length := by simp [mkShard]; omega
theorem mkShard_at (x : Int) (l : List Shard) {i : Nat} (h : i < l.length) : (mkShard x i ++ l.drop i)[i]? = some l[i] := by rw [List.getElem?_append_right (by simp [mkShard])]; simp [mkShard, h]
theorem mkShard_step (x : Int) (l : List Shard) (i : Nat) (h : i < l.length) : (List.map Shard.c (mkShard x i ++ l.drop i)).set i (Shard.c ⟨(x + 2 * (i : Int)), mt (x + 2 * (i : Int) + 1)⟩) = List.map Shard.c (mkShard x (i + 1) ++ l.drop (i + 1)) := by
  rw [← List.map_set]
  congr 1
  rw [List.set_append, if_neg (by simp [mkShard]), show (mkShard x i).length = i by simp [mkShard], Nat.sub_self, List.drop_eq_getElem_cons h, List.set_cons_zero, mkShard, mkShard, List.range_succ, List.map_append, List.append_assoc]
  rfl
theorem tk_mkShard (x : Int) (m : Nat) : List.take m (List.map Shard.c (mkShard x m)) = List.map Shard.c (mkShard x m) := List.take_of_length_le (by simp [mkShard])
theorem FX_el_Shard : (((type_of% @fl_Shard) ∧ ((type_of% @ok_Shard) ∧ (type_of% @nr_Shard))) ∧ (((type_of% @lf_Shard) ∧ (type_of% @Shard.c.eq_1)) ∧ ((type_of% @tk_mkShard) ∧ (type_of% @mkShard_len)))) := ⟨⟨@fl_Shard, ⟨@ok_Shard, @nr_Shard⟩⟩, ⟨⟨@lf_Shard, @Shard.c.eq_1⟩, ⟨@tk_mkShard, @mkShard_len⟩⟩⟩
end Go.Proofs.YtdpaijnbikclgaaDoorB
