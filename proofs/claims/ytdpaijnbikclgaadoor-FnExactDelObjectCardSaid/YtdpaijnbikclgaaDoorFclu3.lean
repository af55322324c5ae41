/- Part of the evaluator's contracts: clu3. -/
import Derived.Test.YtdpaijnbikclgaaDoorFclu2
namespace Go.Proofs.YtdpaijnbikclgaaDoorB
open Go Go.Proofs.YtdpaijnbikclgaaDoorE
set_option linter.unusedVariables false
set_option linter.unusedSectionVars false
set_option linter.unusedSimpArgs false
set_option maxHeartbeats 4000000
set_option maxRecDepth 20000
def srt (q : List Object) : Prop := ∀ a b (hab : a < b) (hb : b < q.length), lessN (q[a]'(by omega)).name q[b].name = true
theorem cmp_in {q : List Object} {s : ByteArray} {i : Nat} (h : i < posQ q s) (hi : i < q.length) : Go.Lib.compareBytes q[i].name.data.toList s.data.toList = -1 := by -- 59
 have := pos_in h hi
 rw [toL, toL] at this
 rw [cmp_less, if_pos this]
theorem cmp_out {q : List Object} {s : ByteArray} (hs : srt q) {i : Nat} (h : posQ q s ≤ i) (hi : i < q.length) : 0 ≤ Go.Lib.compareBytes q[i].name.data.toList s.data.toList := by -- 59
 have h0 : Op.bytesLess q[i].name.data.toList s.data.toList = false := by
  have hp := pos_out (q := q) (s := s) (by omega)
  rw [toL, toL] at hp
  by_cases e : posQ q s = i
  ·subst e; exact hp
  ·have hl := hs (posQ q s) i (by omega) hi
   unfold lessN at hl
   rw [toL, toL] at hl
   cases hc : Op.bytesLess q[i].name.data.toList s.data.toList with
   | false => rfl
   | true => have := less_trans hl hc; rw [hp] at this; cases this
 rw [cmp_less, h0]
 split
 ·rename_i h; cases h
 ·split <;> omega
theorem cmp_eq {q : List Object} {s : ByteArray} (h : posQ q s < q.length) : (Go.Lib.compareBytes (q[posQ q s]).name.data.toList s.data.toList == 0) = hasB q s := by -- 59
 have hp := pos_out h
 rw [toL, toL] at hp
 rw [has_in h, toL, toL, cmp_less, hp]
 by_cases e : (q[posQ q s]).name.data.toList = s.data.toList
 ·rw [e]; simp
 ·simp only [Bool.false_eq_true, if_false]
  rw [if_neg e, beq_eq_false_iff_ne.2 e]; rfl
theorem c58 {k : Nat} {md : Md} {S : Store} {vs : List A} {D : List Nat} {o : Object} {s : ByteArray} (hd : dpArgs S [] vs = some ([.ag [(.v (.string (o.name))), (.v (.int .i64 (o.size)))], (.v (.string (s)))], D))  (hk : 4 ≤ k := by omega) :
  Cal (run k) md 58 vs S (fun r S' => r = (.v (.int .i64 (Go.Lib.compareBytes o.name.data.toList s.data.toList))) ∧ S' = S) := by
 obtain ⟨k, rfl⟩ : ∃ j, k = j + 1 := ⟨k - 1, by omega⟩
 refine Cal.fn (n := 9) (rs := [.tmp 4]) (ids := []) (D := D) (Xof_none rfl) g58 (by delta Tryd.f58; exact rfl) (by delta Tryd.f58; exact rfl) (by delta Tryd.f58; exact rfl) hd rfl (by first | rfl | simp [idsV, idsC]) (by simp) (by simp) ?_
 intro md' ow; have w := ow.w; have w0 := ow.w0; have fz : md'.fz = false := ow.fz
 (have F := an5 @yD @yF @yA @yB @yE; (repeat' (first | refine' dA23 | exact c59 | ((with_reducible apply EvO.call (vs := ?_)); exact rfl; exact rfl; exact dE8) | fail)); all_goals clear F)
 all_goals exact ⟨rfl, rfl⟩
theorem half (i jj : Nat) (h : i ≤ 1048576 ∧ jj ≤ 1048576) : (IntKind.u64.wrap ((i : Int) + (jj : Int))).fdiv (2 ^ (min (Int.toNat 1) IntKind.u64.bits)) = (((i + jj) / 2 : Nat) : Int) := by
 rw [IntKind.wrap_u64]
 have e : min (Int.toNat 1) IntKind.u64.bits = 1 := rfl
 rw [e, Int.fdiv_eq_ediv_of_nonneg _ (by decide)]
 omega
theorem k57_3 (e : Env) : lpE (FI.K ⟨[], false, [(3, [0, 1, 2, 8, 9, 10]), (1000, [0, 1, 2]), (1001, [0, 1, 2, 8]), (1002, [0, 1, 2, 8, 9, 10]), (1003, [0, 1, 2, 8, 9, 10, 17]), (1004, [0, 1, 2, 8, 9, 10, 11]), (1005, [0, 1, 2, 8, 9, 10, 11, 31]), (1006, [0, 1, 2, 8, 9, 10]), (1007, [0, 1, 2, 8, 9, 10]), (1008, [6, 7])]⟩ 3) e = mkE [(0, e 0), (1, e 1), (2, e 2), (8, e 8), (9, e 9), (10, e 10)] := rfl
theorem c57_nm {k : Nat} {md : Md} {S : Store} {vs : List A} {D : List Nat} {q : List Object} {s : ByteArray} (hd : dpArgs S [] vs = some ([.ro 2 (q.map Object.c), (.v (.string (s))), .fn 58 []], D)) (hq : q.length ≤ 1048576 := by first | assumption | omega | with_reducible rfl) (hs : srt q := by first | assumption | omega | with_reducible rfl) (hk : 5 ≤ k := by omega) :
  Cal (run k) md 57 vs S (fun r S' => r = .tu [(.v (.int .i64 ((posQ q s : Int)))), (.v (.bool (hasB q s)))] ∧ S' = S) := by
 obtain ⟨k, rfl⟩ : ∃ j, k = j + 1 := ⟨k - 1, by omega⟩
 refine Cal.fn (n := 49) (rs := [.tmp 6, .tmp 7]) (ids := []) (D := D) (Xof_none rfl) g57 (by delta Tryd.f57; exact rfl) (by delta Tryd.f57; exact rfl) (by delta Tryd.f57; exact rfl) hd rfl (by first | rfl | simp [idsV, idsC]) (by simp) (by simp) ?_
 intro md' ow; have w := ow.w; have w0 := ow.w0; have fz : md'.fz = false := ow.fz
 have hle := pos_le q s
 (have F := an5 @yD @yF @yA @yB @yE; (repeat' (first | refine' dA52 | fail)); all_goals clear F)
 apply Ev.loop (fun j e S' => ∃ i : Nat, ∃ jj : Nat, e = mkE [(0, .ro 2 (q.map Object.c)), (1, (.v (.string (s)))), (2, .fn 58 []), (8, (.v (.int .i64 ((q.length : Int))))), (9, (.v (.int .i64 ((i : Int))))), (10, (.v (.int .i64 ((jj : Int)))))] ∧ S' = S ∧ j = jj - i ∧ (i ≤ posQ q s) ∧ (posQ q s ≤ jj ∧ jj ≤ q.length))
 ·exact ⟨0, q.length, (k57_3 _).trans dN18, (by first | rfl | (simp only [app_app, List.cons_append, List.nil_append]; done)), rfl, (by omega), (by omega)⟩
 rintro j e S' ⟨i, jj, rfl, rfl, hj, hi, hjj⟩
 have hh := half i jj (by omega)
 by_cases hlt : i < jj
 ·have hli : (i : Int) < (jj : Int) := by omega
  have hm1 : (i + jj) / 2 < q.length := by omega
  have hm2 : i ≤ (i + jj) / 2 ∧ (i + jj) / 2 < jj := by omega
  generalize hmm : (i + jj) / 2 = y at *
  by_cases hp : y < posQ q s
  ·have hc1 := cmp_in hp hm1
   (have F := an8 @yD @yF @yA @yB @yE @hli @hh @hc1; (repeat' (first | refine' dA29 | ((with_reducible apply EvO.call (vs := ?_)); exact rfl; exact rfl; exact dE8; (with_reducible apply Cal.hd (ms := []) (p := ?_)); exact dE8) | exact dC8 | fail)); all_goals clear F)
   all_goals first | (exfalso; omega) | skip
   all_goals
    apply roundQ_m; refine ⟨_, ⟨y + 1, jj, (k57_3 _).trans dN19, ?_, rfl, ?_, ?_⟩, ?_⟩
    ·exact dS8
    ·omega
    ·omega
    ·omega
  ·have hc1 := cmp_out hs (show posQ q s ≤ y by omega) hm1
   generalize hcc : Go.Lib.compareBytes q[y].name.data.toList s.data.toList = z at *
   (have F := an8 @yD @yF @yA @yB @yE @hli @hh @hcc; (repeat' (first | refine' dA29 | ((with_reducible apply EvO.call (vs := ?_)); exact rfl; exact rfl; exact dE8; (with_reducible apply Cal.hd (ms := []) (p := ?_)); exact dE8) | exact dC8 | fail)); all_goals clear F)
   all_goals first | (exfalso; omega) | skip
   all_goals
    apply roundQ_m; refine ⟨_, ⟨i, y, (k57_3 _).trans dN19, ?_, rfl, ?_, ?_⟩, ?_⟩
    ·exact dS8
    ·omega
    ·omega
    ·omega
 ·have hli : ¬ (i : Int) < (jj : Int) := by omega
  obtain rfl : i = posQ q s := by omega
  by_cases hlq : (posQ q s : Int) < (q.length : Int)
  ·have hl2 : posQ q s < q.length := by omega
   have hcq := cmp_eq hl2
   (have F := an8 @yD @yF @yA @yB @yE @hli @hlq @hcq; (repeat' (first | refine' dA29 | ((with_reducible apply EvO.call (vs := ?_)); exact rfl; exact rfl; exact dE8; (with_reducible apply Cal.hd (ms := []) (p := ?_)); exact dE8) | ((with_reducible apply CalH.mk); intro hd; first | exact c58 (k := k) hd (o := q[posQ q s]) (s := s)) | fail)); all_goals clear F)
   all_goals first | (exfalso; omega) | exact ⟨rfl, rfl⟩
  ·have hno := has_no (q := q) (s := s) (by omega)
   (have F := an8 @yD @yF @yA @yB @yE @hli @hlq @hno; (repeat' (first | refine' dA52 | fail)); all_goals clear F)
   all_goals first | (exfalso; omega) | (refine ⟨?_, rfl⟩; rw [hno]; rfl)
theorem c36 {k : Nat} {md : Md} {S : Store} {vs : List A} {D : List Nat} {kk mm : Int} {l : List (List Cell)} {q : List Object} {s : ByteArray} (hd : dpArgs S [] vs = some ([.ag [(.v (.int .i64 (kk))), (.v (.int .i64 (mm))), .ro 1 (l.map nodeC), .ro 2 (q.map Object.c)], (.v (.string (s)))], D)) (hq : q.length ≤ 1048576 := by first | assumption | omega | with_reducible rfl) (hs : srt q := by first | assumption | omega | with_reducible rfl) (hk : 10 ≤ k := by omega) :
  Cal (run k) md 36 vs S (fun r S' => r = .tu [(.v (.int .i64 ((posQ q s : Int)))), (.v (.bool (hasB q s)))] ∧ S' = S) := by
 obtain ⟨k, rfl⟩ : ∃ j, k = j + 1 := ⟨k - 1, by omega⟩
 refine Cal.fn (n := 12) (rs := [.tmp 4, .tmp 5]) (ids := []) (D := D) (Xof_none rfl) g36 (by delta Tryd.f36; exact rfl) (by delta Tryd.f36; exact rfl) (by delta Tryd.f36; exact rfl) hd rfl (by first | rfl | simp [idsV, idsC]) (by simp) (by simp) ?_
 intro md' ow; have w := ow.w; have w0 := ow.w0; have fz : md'.fz = false := ow.fz
 (have F := an5 @yD @yF @yA @yB @yE; (repeat' (first | refine' dA23 | ((with_reducible apply EvO.call (vs := ?_)); exact rfl; exact rfl; exact dE8; (with_reducible apply Cal.hd (ms := []) (p := ?_)); exact dE8) | ((with_reducible apply CalH.mk); intro hd; first | exact c57_nm (k := k) hd (q := q) (s := s) | exact c58 hd) | fail)); all_goals clear F)
 all_goals exact ⟨rfl, rfl⟩
end Go.Proofs.YtdpaijnbikclgaaDoorB
