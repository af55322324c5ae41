/- Part of the evaluator's contracts: place. -/
import Derived.Test.YtdpaijnbikclgaaDoorFtrim
namespace Go.Proofs.YtdpaijnbikclgaaDoorB
open Go Go.Proofs.YtdpaijnbikclgaaDoorE
set_option linter.unusedVariables false
set_option linter.unusedSectionVars false
set_option linter.unusedSimpArgs false
set_option maxHeartbeats 4000000
set_option maxRecDepth 20000
def accB (s : ByteArray) (no : Int) : Nat → Int
 | 0 => no
 | i + 1 => accB s no i + ((at_ s i).toNat : Int)
theorem accB_le (s : ByteArray) (no : Int) : ∀ i : Nat, no ≤ accB s no i ∧ accB s no i ≤ no + 255 * i
 | 0 => by simp only [accB]; omega
 | i + 1 => by have := accB_le s no i; have := at_lt s i; simp only [accB]; omega
def plc (s : ByteArray) (no nodes : Int) : Int := accB s no s.size % nodes
theorem k29_2 (e : Env) : lpE (FI.K ⟨[], false, [(2, [0, 1, 2, 7]), (1000, [0, 1, 2]), (1001, [0, 1, 2, 7]), (1002, [0, 1, 2, 7, 11]), (1003, [0, 1, 2, 7]), (1004, [0, 1, 2, 7]), (1005, [6])]⟩ 2) e = mkE [(0, e 0), (1, e 1), (2, e 2), (7, e 7)] := rfl
theorem c29 {k : Nat} {md : Md} {S : Store} {vs : List A} {D : List Nat} {s : ByteArray} {no nodes : Int} (hd : dpArgs S [] vs = some ([(.v (.string (s))), (.v (.int .i64 (no))), (.v (.int .i64 (nodes)))], D)) (hs : s.size ≤ 1048576 := by first | assumption | omega | with_reducible rfl) (hno : 0 ≤ no ∧ no ≤ 1048576 := by first | assumption | omega | with_reducible rfl) (hn : 1 ≤ nodes ∧ nodes ≤ 1048576 := by first | assumption | omega | with_reducible rfl) (hk : 1 ≤ k := by omega) :
  Cal (run k) md 29 vs S (fun r S' => r = (.v (.int .i64 (plc s no nodes))) ∧ S' = S) := by
 obtain ⟨k, rfl⟩ : ∃ j, k = j + 1 := ⟨k - 1, by omega⟩
 refine Cal.fn (n := 23) (rs := [.tmp 6]) (ids := []) (D := D) (Xof_none rfl) g29 (by delta Tryd.f29; exact rfl) (by delta Tryd.f29; exact rfl) (by delta Tryd.f29; exact rfl) hd rfl (by first | rfl | simp [idsV, idsC]) (by simp) (by simp) ?_
 intro md' ow; have w := ow.w; have w0 := ow.w0; have fz : md'.fz = false := ow.fz
 (have F := @yF; (repeat' (first | refine' dA30 | fail)); all_goals clear F)
 apply Ev.loop (fun j e S' => ∃ i : Nat, e = mkE [(0, (.v (.string (s)))), (1, (.v (.int .i64 (accB s no i)))), (2, (.v (.int .i64 (nodes)))), (7, (.v (.int .i64 ((i : Int)))))] ∧ S' = S ∧ j = s.size - i ∧ (i ≤ s.size))
 ·exact ⟨0, (k29_2 _).trans dN10, (by first | rfl | (simp only [app_app, List.cons_append, List.nil_append]; done)), rfl, (by omega)⟩
 rintro j e S' ⟨i, rfl, rfl, hj, hi⟩
 by_cases hli : (i : Int) < (s.size : Int)
 rotate_left
 ·have hie : i = s.size := by omega
  subst hie
  have hb := accB_le s no s.size
  (have F := an2 @yF @hli; (repeat' (first | refine' dA30 | fail)); all_goals clear F)
  all_goals exact ⟨rfl, rfl⟩
 ·have hlt : i < s.size := by omega
  have hb := accB_le s no i
  have hb2 := at_lt s i
  (have F := an2 @yF @hli; (repeat' (first | refine' dA30 | fail)); all_goals clear F)
  all_goals
   apply roundQ_m; refine ⟨_, ⟨i + 1, (k29_2 _).trans dN11, ?_, rfl, ?_⟩, ?_⟩
   ·exact dS4
   ·omega
   ·omega
theorem k37_3 (e : Env) : lpE (FI.K ⟨[], false, [(3, [0, 2, 7, 11, 12]), (1000, [0, 1, 2]), (1001, [0, 2, 7]), (1002, [0, 2, 7, 11, 12]), (1003, [0, 2, 7, 11, 12, 13]), (1004, [0, 2, 7, 8, 11, 12]), (1005, [0, 2, 7, 11, 12]), (1006, [0, 2, 7, 11, 12]), (1007, [6])]⟩ 3) e = mkE [(0, e 0), (2, e 2), (7, e 7), (11, e 11), (12, e 12)] := rfl
theorem c37 {k : Nat} {md : Md} {S : Store} {vs : List A} {D : List Nat} {s : ByteArray} {no nodes : Int} (hd : dpArgs S [] vs = some ([(.v (.string (s))), (.v (.int .i64 (no))), (.v (.int .i64 (nodes)))], D)) (hs : s.size ≤ 1048576 := by first | assumption | omega | with_reducible rfl) (hno : 0 ≤ no ∧ no ≤ 1048576 := by first | assumption | omega | with_reducible rfl) (hn : 1 ≤ nodes ∧ nodes ≤ 1048576 := by first | assumption | omega | with_reducible rfl) (hk : 1 ≤ k := by omega) :
  Cal (run k) md 37 vs S (fun r S' => r = (.v (.int .i64 (plc s no nodes))) ∧ S' = S) := by
 obtain ⟨k, rfl⟩ : ∃ j, k = j + 1 := ⟨k - 1, by omega⟩
 refine Cal.fn (n := 25) (rs := [.tmp 6]) (ids := []) (D := D) (Xof_none rfl) g37 (by delta Tryd.f37; exact rfl) (by delta Tryd.f37; exact rfl) (by delta Tryd.f37; exact rfl) hd rfl (by first | rfl | simp [idsV, idsC]) (by simp) (by simp) ?_
 intro md' ow; have w := ow.w; have w0 := ow.w0; have fz : md'.fz = false := ow.fz
 (have F := @yF; (repeat' (first | refine' dA30 | fail)); all_goals clear F)
 apply Ev.loop (fun j e S' => ∃ i : Nat, e = mkE [(0, (.v (.string (s)))), (2, (.v (.int .i64 (nodes)))), (7, (.v (.int .i64 (accB s no i)))), (11, (.v (.int .i64 ((s.size : Int))))), (12, (.v (.int .i64 ((i : Int)))))] ∧ S' = S ∧ j = s.size - i ∧ (i ≤ s.size))
 ·exact ⟨0, (k37_3 _).trans dN10, (by first | rfl | (simp only [app_app, List.cons_append, List.nil_append]; done)), rfl, (by omega)⟩
 rintro j e S' ⟨i, rfl, rfl, hj, hi⟩
 by_cases hli : (i : Int) < (s.size : Int)
 rotate_left
 ·have hie : i = s.size := by omega
  subst hie
  have hb := accB_le s no s.size
  (have F := an2 @yF @hli; (repeat' (first | refine' dA30 | fail)); all_goals clear F)
  all_goals exact ⟨rfl, rfl⟩
 ·have hlt : i < s.size := by omega
  have hb := accB_le s no i
  have hb2 := at_lt s i
  (have F := an2 @yF @hli; (repeat' (first | refine' dA30 | fail)); all_goals clear F)
  all_goals
   apply roundQ_m; refine ⟨_, ⟨i + 1, (k37_3 _).trans dN11, ?_, rfl, ?_⟩, ?_⟩
   ·exact dS4
   ·omega
   ·omega
def goodP (s : ByteArray) (no nodes : Int) : Bool := isNm s && inB nodes 1 12 && inB no 0 (nodes - 1)
end Go.Proofs.YtdpaijnbikclgaaDoorB
