/- Part of the evaluator's contracts: mark. -/
import Derived.Test.YtomklniddinhnaaFbase
namespace Go.Proofs.YtomklniddinhnaaB
open Go Go.Proofs.YtomklniddinhnaaE
set_option linter.unusedVariables false
set_option linter.unusedSectionVars false
set_option linter.unusedSimpArgs false
set_option maxHeartbeats 4000000
set_option maxRecDepth 20000
def intC (x : Int) : List A := [(.v (.int .i64 (x)))]
def strC (x : ByteArray) : List A := [(.v (.string (x)))]
def boolC (x : Bool) : List A := [(.v (.bool (x)))]
theorem fl_int (l : List Int) : flatRowsB (List.map intC l) = true := flat_map intC (fun _ => rfl) l
theorem fl_str (l : List ByteArray) : flatRowsB (List.map strC l) = true := flat_map strC (fun _ => rfl) l
theorem fl_bool (l : List Bool) : flatRowsB (List.map boolC l) = true := flat_map boolC (fun _ => rfl) l
theorem fl_byte (l : List UInt8) : flatRowsB (List.map byteRow l) = true := flat_map byteRow (fun _ => rfl) l
theorem ok_int (m : Nat) (l : List Int) : rowsAll (okC m) (List.map intC l) = true := rowsAll_map (okC m) intC (fun _ => rfl) l
theorem ok_str (m : Nat) (l : List ByteArray) : rowsAll (okC m) (List.map strC l) = true := rowsAll_map (okC m) strC (fun _ => rfl) l
theorem ok_bool (m : Nat) (l : List Bool) : rowsAll (okC m) (List.map boolC l) = true := rowsAll_map (okC m) boolC (fun _ => rfl) l
theorem ok_byte (m : Nat) (l : List UInt8) : rowsAll (okC m) (List.map byteRow l) = true := rowsAll_map (okC m) byteRow (fun _ => rfl) l
theorem nr_int (l : List Int) : rowsAll noRoC (List.map intC l) = true := rowsAll_map noRoC intC (fun _ => rfl) l
theorem nr_str (l : List ByteArray) : rowsAll noRoC (List.map strC l) = true := rowsAll_map noRoC strC (fun _ => rfl) l
theorem nr_bool (l : List Bool) : rowsAll noRoC (List.map boolC l) = true := rowsAll_map noRoC boolC (fun _ => rfl) l
theorem nr_byte (l : List UInt8) : rowsAll noRoC (List.map byteRow l) = true := rowsAll_map noRoC byteRow (fun _ => rfl) l
theorem lf_int (l : List Int) : leafRows (List.map intC l) = true := leaf_map intC (fun _ => rfl) l
theorem lf_str (l : List ByteArray) : leafRows (List.map strC l) = true := leaf_map strC (fun _ => rfl) l
theorem lf_bool (l : List Bool) : leafRows (List.map boolC l) = true := leaf_map boolC (fun _ => rfl) l
theorem lf_byte (l : List UInt8) : leafRows (List.map byteRow l) = true := leaf_map byteRow (fun _ => rfl) l
theorem set_self {S : Store} {id : Nat} {o : Ob} (h : S[id]? = some o) : S.set id o = S := by
 apply List.ext_getElem?
 intro i
 rw [getElem?_set' _ _ _ _ (List.getElem?_eq_some_iff.1 h).1]
 split
 ·rename_i e; subst e; exact h.symm
 ·rfl
theorem markU (x : Int) : (x % 256) = ((UInt8.ofInt x).toNat : Int) := by
 rw [UInt8.ofInt, UInt8.toNat_ofNat']
 omega
theorem markB (x : Int) : (x % 3 == 0) = (x % 3 == 0) := rfl
theorem nx2 (x : Int) (i : Nat) : x + 2 * ((i + 1 : Nat) : Int) = x + 2 * (i : Int) + 1 + 1 := by omega
theorem nx3 (x : Int) (i : Nat) : x + 3 * ((i + 1 : Nat) : Int) = x + 3 * (i : Int) + 1 + 1 + 1 := by omega
def mtD : Nat → Int → ByteArray → ByteArray
 | 0, _, acc => acc
 | f + 1, n, acc => if n ≤ 0 then acc else mtD f (n / 10) (strOfNums [IntKind.u8.wrap (48 + n % 10)] ++ acc)
def mt (k : Int) : ByteArray := if k ≤ 0 then ⟨#[109, 48]⟩ else ⟨#[109]⟩ ++ mtD (k.toNat + 1) k ⟨#[]⟩
theorem mtD_ge : ∀ (f : Nat) (n : Int) (acc : ByteArray), n.toNat < f → ∀ d, mtD (f + d) n acc = mtD f n acc
 | 0, n, acc, h, d => by omega
 | f + 1, n, acc, h, d => by
  rw [show f + 1 + d = (f + d) + 1 by omega]
  show (if n ≤ 0 then acc else mtD (f + d) (n / 10) _) = (if n ≤ 0 then acc else mtD f (n / 10) _)
  split
  ·rfl
  ·exact mtD_ge f _ _ (by omega) d
theorem one_size (x : Int) : (strOfNums [x]).size = 1 := rfl
theorem k48_4 (e : Env) : lpE (FI.K ⟨[], false, [(4, [0, 3]), (1000, [0]), (1001, [0, 5]), (1002, [2]), (1003, [0, 3]), (1004, [0, 3, 7]), (1005, [0, 3]), (1006, [0, 3]), (1007, [2])]⟩ 4) e = mkE [(0, e 0), (3, e 3)] := rfl
theorem c48 {k : Nat} {md : Md} {S : Store} {vs : List A} {D : List Nat} {n : Int} (hd : dpArgs S [] vs = some ([(.v (.int .i64 (n)))], D)) (hn : n ≤ 1073741824 := by first | assumption | omega | with_reducible rfl) (hk : 1 ≤ k := by omega) :
  Cal (run k) md 48 vs S (fun r S' => r = (.v (.string (mt n))) ∧ S' = S) := by
 obtain ⟨k, rfl⟩ : ∃ j, k = j + 1 := ⟨k - 1, by omega⟩
 refine Cal.fn (n := 20) (rs := [.tmp 2]) (ids := []) (D := D) (Xof_none rfl) g48 (by delta Try.f48; exact rfl) (by delta Try.f48; exact rfl) (by delta Try.f48; exact rfl) hd rfl (by first | rfl | simp [idsV, idsC]) (by simp) (by simp) ?_
 intro md' ow; have w := ow.w; have w0 := ow.w0; have fz : md'.fz = false := ow.fz
 by_cases h0 : n ≤ 0
 ·(have F := an17 @lf_int @lf_str @lf_bool @lf_byte @fl_int @fl_str @fl_bool @fl_byte @ok_int @ok_str @ok_bool @ok_byte @nr_int @nr_str @nr_bool @nr_byte @h0; (repeat' (first | refine' dA2 | fail)); all_goals clear F)
  exact ⟨by simp [resA, mt, h0], rfl⟩
 ·(have F := an17 @lf_int @lf_str @lf_bool @lf_byte @fl_int @fl_str @fl_bool @fl_byte @ok_int @ok_str @ok_bool @ok_byte @nr_int @nr_str @nr_bool @nr_byte @h0; (repeat' (first | refine' dA2 | fail)); all_goals clear F)
  apply Ev.loop (fun j e S' => ∃ m : Int, ∃ acc : ByteArray, e = mkE [(0, (.v (.int .i64 (m)))), (3, (.v (.string (acc))))] ∧ S' = S ∧ j = m.toNat ∧ (0 ≤ m) ∧ ((acc.size : Int) + m ≤ n) ∧ (m ≤ n) ∧ (∀ f, m.toNat < f → mtD f m acc = mtD (n.toNat + 1) n ⟨#[]⟩))
  ·exact ⟨n, ⟨#[]⟩, (k48_4 _).trans dN1, (by first | rfl | (simp only [app_app, List.cons_append, List.nil_append]; done)), rfl, (by omega), (by (show ((0 : Nat) : Int) + n ≤ n; omega)), (by omega), (by intro f hff; have := mtD_ge (n.toNat + 1) n ⟨#[]⟩ (by omega) (f - (n.toNat + 1)); rwa [show n.toNat + 1 + (f - (n.toNat + 1)) = f by omega] at this)⟩
  rintro j e S' ⟨m, acc, rfl, rfl, hj, hm, hs, hmn, hf⟩
  by_cases hli : 0 < m
  rotate_left
  ·have hlt : m ≤ 0 := by omega
   have hsz : (ByteArray.mk #[109]).size + acc.size ≤ 9223372036854775807 := by show 1 + acc.size ≤ _; omega
   (have F := an17 @lf_int @lf_str @lf_bool @lf_byte @fl_int @fl_str @fl_bool @fl_byte @ok_int @ok_str @ok_bool @ok_byte @nr_int @nr_str @nr_bool @nr_byte @hli; (repeat' (first | refine' dA3 | fail)); all_goals clear F)
   have e1 : mtD (m.toNat + 1) m acc = acc := by show (if m ≤ 0 then acc else _) = acc; rw [if_pos hlt]
   have := (hf (m.toNat + 1) (by omega)).symm.trans e1
   exact ⟨by simp only [resA, mt, h0, if_false, this], rfl⟩
  ·have hlt : ¬ m ≤ 0 := by omega
   have h1 : 1 + acc.size ≤ 9223372036854775807 := by omega
   (have F := an19 @lf_int @lf_str @lf_bool @lf_byte @fl_int @fl_str @fl_bool @fl_byte @ok_int @ok_str @ok_bool @ok_byte @nr_int @nr_str @nr_bool @nr_byte @hli @one_size @h1; (repeat' (first | refine' dA2 | fail)); all_goals clear F)
   apply roundQ_m; refine ⟨_, ⟨m / 10, strOfNums [IntKind.u8.wrap (48 + m % 10)] ++ acc, (k48_4 _).trans dN1, ?_, rfl, ?_, ?_, ?_, ?_⟩, ?_⟩
   ·first | exact lpG_same | exact lpG_grow rfl | (refine (congrArg (fun K => lpG K _ _ _) (show _ = some _ from rfl)).trans (lpG_cut rfl ?_); simp [lowV, okC, mkE_at]; done) | (refine (congrArg (fun K => lpG K _ _ _) (show _ = some _ from rfl)).trans (lpG_mod rfl rfl ?_ ?_) <;> simp [lowV, okC, mkE_at, rowsAll_cons, rowsAll_nil, lf_int, lf_str, lf_bool, lf_byte, fl_int, fl_str, fl_bool, fl_byte, ok_int, ok_str, ok_bool, ok_byte, nr_int, nr_str, nr_bool, nr_byte, intC, strC, boolC, byteRow]; done) | (refine (lpG_len ?_).trans ?_; (focus (simp only [len_app, List.length_cons, List.length_nil, List.length_set]; done)); first | rfl | (simp (disch := first | (intros; contradiction) | (as_aux_lemma => omega) | (as_aux_lemma => (simp only [LEN2]; first | done | omega)) | (as_aux_lemma => (simp only [LEN]; try omega))) only [EV, TT, w, w0, fz, lf_int, lf_str, lf_bool, lf_byte, fl_int, fl_str, fl_bool, fl_byte, ok_int, ok_str, ok_bool, ok_byte, nr_int, nr_str, nr_bool, nr_byte, intC, strC, boolC, byteRow, Nat.reduceEqDiff, Nat.reduceBeqDiff, Nat.reduceAdd, Nat.reduceMul, Nat.reduceLeDiff, Nat.reduceLT, reduceCtorEq, Int.reduceEq, Int.reduceNeg]; first | done | rfl)) | (refine (congrArg (fun K => lpG K _ _ _) (show _ = some _ from rfl)).trans (lpG_grow ?_); simp only [lowV, okC, EV, Nat.reduceEqDiff, Nat.reduceBeqDiff, Nat.reduceAdd, Nat.reduceMul, Nat.reduceLeDiff, Nat.reduceLT, reduceCtorEq, Int.reduceEq, Int.reduceNeg]; done)
   ·omega
   ·rw [ByteArray.size_append, one_size]; omega
   ·omega
   ·intro f hff; have := hf (f + m.toNat + 1) (by omega); rw [mtD, if_neg hlt, mtD_ge f _ _ hff] at this; exact this
   ·omega
theorem yD : (((((type_of% @lf_int) ∧ (type_of% @lf_str)) ∧ ((type_of% @lf_bool) ∧ ((type_of% @lf_byte) ∧ (type_of% @fl_int)))) ∧ (((type_of% @fl_str) ∧ (type_of% @fl_bool)) ∧ ((type_of% @fl_byte) ∧ ((type_of% @ok_int) ∧ (type_of% @ok_str))))) ∧ ((((type_of% @ok_bool) ∧ (type_of% @ok_byte)) ∧ ((type_of% @nr_int) ∧ ((type_of% @nr_str) ∧ (type_of% @nr_bool)))) ∧ (((type_of% @nr_byte) ∧ (type_of% @intC.eq_1)) ∧ ((type_of% @strC.eq_1) ∧ ((type_of% @boolC.eq_1) ∧ (type_of% @byteRow.eq_1)))))) := ⟨⟨⟨⟨@lf_int, @lf_str⟩, ⟨@lf_bool, ⟨@lf_byte, @fl_int⟩⟩⟩, ⟨⟨@fl_str, @fl_bool⟩, ⟨@fl_byte, ⟨@ok_int, @ok_str⟩⟩⟩⟩, ⟨⟨⟨@ok_bool, @ok_byte⟩, ⟨@nr_int, ⟨@nr_str, @nr_bool⟩⟩⟩, ⟨⟨@nr_byte, @intC.eq_1⟩, ⟨@strC.eq_1, ⟨@boolC.eq_1, @byteRow.eq_1⟩⟩⟩⟩⟩
end Go.Proofs.YtomklniddinhnaaB
