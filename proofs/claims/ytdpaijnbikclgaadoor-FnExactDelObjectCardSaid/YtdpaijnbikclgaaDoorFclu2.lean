/- Part of the evaluator's contracts: clu2. -/
import Derived.Test.YtdpaijnbikclgaaDoorFclu1
namespace Go.Proofs.YtdpaijnbikclgaaDoorB
open Go Go.Proofs.YtdpaijnbikclgaaDoorE
set_option linter.unusedVariables false
set_option linter.unusedSectionVars false
set_option linter.unusedSimpArgs false
set_option maxHeartbeats 4000000
set_option maxRecDepth 20000
theorem pos_in {q : List Object} {s : ByteArray} {i : Nat} (h : i < posQ q s) (hi : i < q.length) : Op.bytesLess q[i].name.toList s.toList = true := leadP_in _ q i q[i] h (List.getElem?_eq_getElem hi)
theorem pos_out {q : List Object} {s : ByteArray} (h : posQ q s < q.length) : Op.bytesLess (q[posQ q s]).name.toList s.toList = false :=
 leadP_out (fun o : Object => lessN o.name s) q (q[posQ q s]) (List.getElem?_eq_getElem h)
theorem pos_le (q : List Object) (s : ByteArray) : posQ q s ≤ q.length := leadP_le _ q
theorem has_in {q : List Object} {s : ByteArray} (h : posQ q s < q.length) : hasB q s = ((q[posQ q s]).name.toList == s.toList) := by
 unfold hasB; rw [List.getElem?_eq_getElem h]
theorem has_no {q : List Object} {s : ByteArray} (h : ¬ posQ q s < q.length) : hasB q s = false := by
 unfold hasB; rw [List.getElem?_eq_none (by omega)]
theorem k28_2 (e : Env) : lpE (FI.K ⟨[], false, [(2, [0, 1, 6]), (1000, [0, 1]), (1001, [0, 1, 6]), (1002, [0, 1, 6, 19]), (1003, [0, 1, 6]), (1004, [4, 5])]⟩ 2) e = mkE [(0, e 0), (1, e 1), (6, e 6)] := rfl
theorem c28 {k : Nat} {md : Md} {S : Store} {vs : List A} {D : List Nat} {q : List Object} {s : ByteArray} (hd : dpArgs S [] vs = some ([.ro 2 (q.map Object.c), (.v (.string (s)))], D)) (hq : q.length ≤ 1048576 := by first | assumption | omega | with_reducible rfl) (hk : 1 ≤ k := by omega) :
  Cal (run k) md 28 vs S (fun r S' => r = .tu [(.v (.int .i64 ((posQ q s : Int)))), (.v (.bool (hasB q s)))] ∧ S' = S) := by
 obtain ⟨k, rfl⟩ : ∃ j, k = j + 1 := ⟨k - 1, by omega⟩
 refine Cal.fn (n := 36) (rs := [.tmp 4, .tmp 5]) (ids := []) (D := D) (Xof_none rfl) g28 (by delta Tryd.f28; exact rfl) (by delta Tryd.f28; exact rfl) (by delta Tryd.f28; exact rfl) hd rfl (by first | rfl | simp [idsV, idsC]) (by simp) (by simp) ?_
 intro md' ow; have w := ow.w; have w0 := ow.w0; have fz : md'.fz = false := ow.fz
 have hle := pos_le q s
 (have F := an5 @yD @yF @yA @yB @yE; (repeat' (first | refine' dA51 | fail)); all_goals clear F)
 apply Ev.loop (fun j e S' => ∃ i : Nat, e = mkE [(0, .ro 2 (q.map Object.c)), (1, (.v (.string (s)))), (6, (.v (.int .i64 ((i : Int)))))] ∧ S' = S ∧ j = q.length - i ∧ (i ≤ posQ q s))
 ·exact ⟨0, (k28_2 _).trans dN18, (by first | rfl | (simp only [app_app, List.cons_append, List.nil_append]; done)), rfl, (by omega)⟩
 rintro j e S' ⟨i, rfl, rfl, hj, hi⟩
 by_cases hlt : i < posQ q s
 ·have hlt2 : i < q.length := by omega
  have hli : (i : Int) < (q.length : Int) := by omega
  have hb := pos_in hlt hlt2
  (have F := an7 @yD @yF @yA @yB @yE @hli @hb; (repeat' (first | refine' dA51 | fail)); all_goals clear F)
  all_goals first | (exfalso; omega) | skip
  all_goals
   apply roundQ_m; refine ⟨_, ⟨i + 1, (k28_2 _).trans dN19, ?_, rfl, ?_⟩, ?_⟩
   ·exact dS8
   ·omega
   ·omega
 ·obtain rfl : i = posQ q s := by omega
  by_cases hli : (posQ q s : Int) < (q.length : Int)
  ·have hlt2 : posQ q s < q.length := by omega
   have hb := pos_out hlt2
   have hh := has_in hlt2
   (have F := an7 @yD @yF @yA @yB @yE @hli @hb; (repeat' (first | refine' dA51 | fail)); all_goals clear F)
   all_goals first | (exfalso; omega) | (refine ⟨?_, rfl⟩; rw [hh]; rfl)
  ·have hh := has_no (q := q) (s := s) (by omega)
   (have F := an6 @yD @yF @yA @yB @yE @hli; (repeat' (first | refine' dA51 | fail)); all_goals clear F)
   all_goals first | (exfalso; omega) | (refine ⟨?_, rfl⟩; rw [hh]; rfl)
end Go.Proofs.YtdpaijnbikclgaaDoorB
