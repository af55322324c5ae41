/- Part of the evaluator's contracts: trim. -/
import Derived.Test.YtdpaijnbikclgaaDoorFstr
import Derived.Test.YtdpaijnbikclgaaDoorFbase
namespace Go.Proofs.YtdpaijnbikclgaaDoorB
open Go Go.Proofs.YtdpaijnbikclgaaDoorE
set_option linter.unusedVariables false
set_option linter.unusedSectionVars false
set_option linter.unusedSimpArgs false
set_option maxHeartbeats 4000000
set_option maxRecDepth 20000
theorem trim_eq {s : ByteArray} {cs : List UInt8} {p : UInt8 → Bool} (h : ∀ b, p b = true ↔ b ∈ cs) : ((⟨(Go.Lib.trimS s.data.toList cs).toArray⟩ : ByteArray).toList == (⟨#[]⟩ : ByteArray).toList) = s.data.toList.all p := by -- 56
 rw [toL, toL, Bool.eq_iff_iff, List.all_eq_true]
 simp only [beq_iff_eq]
 rw [trimS_nil]
 exact ⟨fun q b hb => (h b).2 (q b hb), fun q b hb => (h b).1 (q b hb)⟩
def lowB (b : UInt8) : Bool := decide (97 ≤ (b.toNat : Int)) && decide ((b.toNat : Int) ≤ 122)
def isNm (s : ByteArray) : Bool := inB s.size 1 8 && s.data.toList.all lowB
theorem lowB_mem (b : UInt8) : lowB b = true ↔ b ∈ [97, 98, 99, 100, 101, 102, 103, 104, 105, 106, 107, 108, 109, 110, 111, 112, 113, 114, 115, 116, 117, 118, 119, 120, 121, 122] := by
 exact u8_all (p := fun b => lowB b = true ↔ b ∈ [97, 98, 99, 100, 101, 102, 103, 104, 105, 106, 107, 108, 109, 110, 111, 112, 113, 114, 115, 116, 117, 118, 119, 120, 121, 122]) (by decide +kernel) b
theorem c35 {k : Nat} {md : Md} {S : Store} {vs : List A} {D : List Nat} {s : ByteArray} (hd : dpArgs S [] vs = some ([(.v (.string (s)))], D)) (hs : s.size ≤ 9223372036854775807 := by first | assumption | omega | with_reducible rfl) (hk : 8 ≤ k := by omega) :
  Cal (run k) md 35 vs S (fun r S' => r = (.v (.bool (isNm s))) ∧ S' = S) := by
 obtain ⟨k, rfl⟩ : ∃ j, k = j + 1 := ⟨k - 1, by omega⟩
 refine Cal.fn (n := 11) (rs := [.tmp 2]) (ids := []) (D := D) (Xof_none rfl) g35 (by delta Tryd.f35; exact rfl) (by delta Tryd.f35; exact rfl) (by delta Tryd.f35; exact rfl) hd rfl (by first | rfl | simp [idsV, idsC]) (by simp) (by simp) ?_
 intro md' ow; have w := ow.w; have w0 := ow.w0; have fz : md'.fz = false := ow.fz
 (have F := @yF; (repeat' (first | refine' dA28 | exact c56 (hs := by first | assumption | omega) (hc := by decide) | ((with_reducible apply EvO.call (vs := ?_)); exact rfl; exact rfl; exact dE8; first | exact c56 (hs := by first | assumption | omega) (hc := by decide) | ((with_reducible apply Cal.hd (ms := []) (p := ?_)); exact dE8)) | ((with_reducible apply CalH.mk); intro hd; first | exact c34 hd) | fail)); all_goals clear F)
 all_goals refine ⟨?_, rfl⟩
 all_goals simp only [resA, isNm]
 all_goals first | (rw [inB_if.2 (by assumption)]; rfl) | (rw [inB_it.2 (by assumption), trim_eq lowB_mem]; rfl)
theorem k27_2 (e : Env) : lpE (FI.K ⟨[], false, [(2, [0, 3]), (1000, [0]), (1001, [0, 3]), (1002, [0, 3, 7]), (1003, [0, 3]), (1004, [0, 3, 19]), (1005, [2]), (1006, [2])]⟩ 2) e = mkE [(0, e 0), (3, e 3)] := rfl
theorem c27 {k : Nat} {md : Md} {S : Store} {vs : List A} {D : List Nat} {s : ByteArray} (hd : dpArgs S [] vs = some ([(.v (.string (s)))], D)) (hs : s.size ≤ 9223372036854775807 := by first | assumption | omega | with_reducible rfl) (hk : 2 ≤ k := by omega) :
  Cal (run k) md 27 vs S (fun r S' => r = (.v (.bool (isNm s))) ∧ S' = S) := by
 obtain ⟨k, rfl⟩ : ∃ j, k = j + 1 := ⟨k - 1, by omega⟩
 refine Cal.fn (n := 23) (rs := [.tmp 2]) (ids := []) (D := D) (Xof_none rfl) g27 (by delta Tryd.f27; exact rfl) (by delta Tryd.f27; exact rfl) (by delta Tryd.f27; exact rfl) hd rfl (by first | rfl | simp [idsV, idsC]) (by simp) (by simp) ?_
 intro md' ow; have w := ow.w; have w0 := ow.w0; have fz : md'.fz = false := ow.fz
 (have F := @yF; (repeat' (first | refine' dA29 | ((with_reducible apply EvO.call (vs := ?_)); exact rfl; exact rfl; exact dE8; (with_reducible apply Cal.hd (ms := []) (p := ?_)); exact dE8) | ((with_reducible apply CalH.mk); intro hd; first | exact c26 hd) | fail)); all_goals clear F)
 apply Ev.loop (fun j e S' => ∃ i : Nat, e = mkE [(0, (.v (.string (s)))), (3, (.v (.int .i64 ((i : Int)))))] ∧ S' = S ∧ j = s.size - i ∧ (i ≤ s.size) ∧ (∀ j, j < i → lowB (at_ s j) = true))
 ·exact ⟨0, (k27_2 _).trans dN10, (by first | rfl | (simp only [app_app, List.cons_append, List.nil_append]; done)), rfl, (by omega), (by (intro j hj; omega))⟩
 rintro j e S' ⟨i, rfl, rfl, hj, hi, ha⟩
 by_cases hli : (i : Int) < (s.size : Int)
 rotate_left
 ·have hie : i = s.size := by omega
  subst hie
  have hall : s.data.toList.all lowB = true := allB.2 ha
  (have F := an2 @yF @hli; (repeat' (first | refine' dA29 | ((with_reducible apply EvO.call (vs := ?_)); exact rfl; exact rfl; exact dE8; (with_reducible apply Cal.hd (ms := []) (p := ?_)); exact dE8) | ((with_reducible apply CalH.mk); intro hd; first | exact c26 hd) | fail)); all_goals clear F)
  all_goals (refine ⟨?_, rfl⟩; simp only [resA, isNm, hall, Bool.and_true])
 ·have hlt : i < s.size := by omega
  by_cases hb : lowB (at_ s i) = true
  ·have hb1 : 97 ≤ ((at_ s i).toNat : Int) ∧ ((at_ s i).toNat : Int) ≤ 122 := by simpa [lowB] using hb
   (have F := an2 @yF @hli; (repeat' (first | refine' dA29 | ((with_reducible apply EvO.call (vs := ?_)); exact rfl; exact rfl; exact dE8; (with_reducible apply Cal.hd (ms := []) (p := ?_)); exact dE8) | ((with_reducible apply CalH.mk); intro hd; first | exact c26 hd) | fail)); all_goals clear F)
   all_goals first | (exfalso; omega) | skip
   all_goals
    apply roundQ_m; refine ⟨_, ⟨i + 1, (k27_2 _).trans dN11, ?_, rfl, ?_, ?_⟩, ?_⟩
    ·exact dS4
    ·omega
    ·(intro j hj; by_cases e : j = i; (subst e; exact hb); exact ha j (by omega))
    ·omega
  ·have hb' : lowB (at_ s i) = false := by simpa using hb
   have hall : s.data.toList.all lowB = false := allB_no hlt hb'
   have hb1 : ((at_ s i).toNat : Int) < 97 ∨ 122 < ((at_ s i).toNat : Int) := by simp [lowB] at hb'; omega
   (have F := an2 @yF @hli; (repeat' (first | refine' dA29 | ((with_reducible apply EvO.call (vs := ?_)); exact rfl; exact rfl; exact dE8; (with_reducible apply Cal.hd (ms := []) (p := ?_)); exact dE8) | ((with_reducible apply CalH.mk); intro hd; first | exact c26 hd) | fail)); all_goals clear F)
   all_goals first | (exfalso; omega) | (refine ⟨?_, rfl⟩; simp only [resA, isNm, hall, Bool.and_false])
end Go.Proofs.YtdpaijnbikclgaaDoorB
