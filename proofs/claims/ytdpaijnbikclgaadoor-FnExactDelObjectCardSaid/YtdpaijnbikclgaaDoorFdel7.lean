/- Part of the evaluator's contracts: del7. -/
import Derived.Test.YtdpaijnbikclgaaDoorFdel6
import Derived.Test.YtdpaijnbikclgaaDoorFclu3
import Derived.Test.YtdpaijnbikclgaaDoorFclu4
import Derived.Test.YtdpaijnbikclgaaDoorFclu5
import Derived.Test.YtdpaijnbikclgaaDoorFclu2
import Derived.Test.YtdpaijnbikclgaaDoorFfail3
import Derived.Test.YtdpaijnbikclgaaDoorFdel5
import Derived.Test.YtdpaijnbikclgaaDoorFnodeO
import Derived.Test.YtdpaijnbikclgaaDoorFdel3
import Derived.Test.YtdpaijnbikclgaaDoorFdel2
namespace Go.Proofs.YtdpaijnbikclgaaDoorB
open Go Go.Proofs.YtdpaijnbikclgaaDoorE
set_option linter.unusedVariables false
set_option linter.unusedSectionVars false
set_option linter.unusedSimpArgs false
set_option maxHeartbeats 4000000
set_option maxRecDepth 20000
theorem c19_no {k : Nat} {md : Md} {S : Store} {vs : List A} {D : List Nat} {kk mm : Int} {l : List (List Cell)} {q : List Object} {s : ByteArray} (hd : dpArgs S [] vs = some ([.ag [(.v (.int .i64 (kk))), (.v (.int .i64 (mm))), .ro 1 (l.map nodeC), .ro 2 (q.map Object.c)], (.v (.string (s)))], D)) (hg : (goodC kk mm l q && hasB q s) = false := by first | assumption | omega | with_reducible rfl) (hn : l.length ≤ 1048576 := by first | assumption | omega | with_reducible rfl) (hq : q.length ≤ 1048576 := by first | assumption | omega | with_reducible rfl) (hcs : ∀ c ∈ l, c.length ≤ 1048576 := by first | assumption | omega | with_reducible rfl) (hns : ∀ c ∈ l, ∀ x ∈ c, x.name.size ≤ 1048576 := by first | assumption | omega | with_reducible rfl) (hqs : ∀ o ∈ q, o.name.size ≤ 1048576 := by first | assumption | omega | with_reducible rfl) (hk : 4 ≤ k := by omega) :
  Cal (run k) md 19 vs S (fun r S' => r = .tu [.ag [(.v (.int .i64 (0))), (.v (.int .i64 (0))), .v (.slice none 0 0), .v (.slice none 0 0)], (.v (.bool (false)))] ∧ Kept S S') := by
 obtain ⟨k, rfl⟩ : ∃ j, k = j + 1 := ⟨k - 1, by omega⟩
 refine Cal.fnN (n := 41) (rs := [.cell 4 31, .tmp 5]) (D := D) (Xof_none rfl) g19 (by delta Tryd.f19; exact rfl) (by delta Tryd.f19; exact rfl) (by delta Tryd.f19; exact rfl) hd rfl (by first | exact .inr (by assumption) | exact .inl rfl | exact .inl (by simp [idsV, idsC])) (by simp) ?_
 intro md' ow; have w := ow.w; have w0 := ow.w0; have fz : md'.fz = false := ow.fz
 have hqs2 : ∀ o ∈ q, o.name.size ≤ 9223372036854775807 := fun o ho => by have := hqs o ho; omega
 cases hgg : goodC kk mm l q with
 | false =>
  (have F := an7 @yD @yF @yA @yB @yE @yC @hgg; (repeat' (first | refine' dA54 | ((with_reducible first | apply EvO.call (vs := ?_) | apply EvT.call (vs := ?_)); exact rfl; exact rfl; exact dE8; (first | (with_reducible apply Cal.hd (g := 47) (ms := [true]) (p := ?_)) | (with_reducible apply Cal.hd (ms := []) (p := ?_))); exact dE8) | exact dC12 | fail)); all_goals clear F)
  all_goals exact ⟨.inr rfl, fun S₂ hk => ⟨rfl, Kp.kept hk (Kept.app _ _)⟩⟩
 | true =>
  have hh : hasB q s = false := by rw [hgg] at hg; simpa using hg
  (have F := an8 @yD @yF @yA @yB @yE @yC @hgg @hh; (repeat' (first | refine' dA54 | ((with_reducible first | apply EvO.call (vs := ?_) | apply EvT.call (vs := ?_)); exact rfl; exact rfl; exact dE8; (first | (with_reducible apply Cal.hd (g := 47) (ms := [true]) (p := ?_)) | (with_reducible apply Cal.hd (ms := []) (p := ?_))); exact dE8) | exact dC12 | fail)); all_goals clear F)
  all_goals exact ⟨.inr rfl, fun S₂ hk => ⟨rfl, Kp.kept hk (Kept.app _ _)⟩⟩
theorem c20_no {k : Nat} {md : Md} {S : Store} {vs : List A} {D : List Nat} {kk mm : Int} {l : List (List Cell)} {q : List Object} {s : ByteArray} (hd : dpArgs S [] vs = some ([.ag [(.v (.int .i64 (kk))), (.v (.int .i64 (mm))), .ro 1 (l.map nodeC), .ro 2 (q.map Object.c)], (.v (.string (s)))], D)) (hg : (goodC kk mm l q && hasB q s) = false := by first | assumption | omega | with_reducible rfl) (hn : l.length ≤ 1048576 := by first | assumption | omega | with_reducible rfl) (hq : q.length ≤ 1048576 := by first | assumption | omega | with_reducible rfl) (hcs : ∀ c ∈ l, c.length ≤ 1048576 := by first | assumption | omega | with_reducible rfl) (hns : ∀ c ∈ l, ∀ x ∈ c, x.name.size ≤ 1048576 := by first | assumption | omega | with_reducible rfl) (hqs : ∀ o ∈ q, o.name.size ≤ 1048576 := by first | assumption | omega | with_reducible rfl) (hk : 12 ≤ k := by omega) :
  Cal (run k) md 20 vs S (fun r S' => r = .tu [.ag [(.v (.int .i64 (0))), (.v (.int .i64 (0))), .v (.slice none 0 0), .v (.slice none 0 0)], (.v (.bool (false)))] ∧ Kept S S') := by
 obtain ⟨k, rfl⟩ : ∃ j, k = j + 1 := ⟨k - 1, by omega⟩
 refine Cal.fnN (n := 35) (rs := [.cell 4 31, .tmp 5]) (D := D) (Xof_none rfl) g20 (by delta Tryd.f20; exact rfl) (by delta Tryd.f20; exact rfl) (by delta Tryd.f20; exact rfl) hd rfl (by first | exact .inr (by assumption) | exact .inl rfl | exact .inl (by simp [idsV, idsC])) (by simp) ?_
 intro md' ow; have w := ow.w; have w0 := ow.w0; have fz : md'.fz = false := ow.fz
 have hqs2 : ∀ o ∈ q, o.name.size ≤ 9223372036854775807 := fun o ho => by have := hqs o ho; omega
 cases hgg : goodC kk mm l q with
 | false =>
  (have F := an7 @yD @yF @yA @yB @yE @yC @hgg; (repeat' (first | refine' dA55 | ((with_reducible apply EvO.call (vs := ?_)); exact rfl; exact rfl; exact dE8; (first | (with_reducible apply Cal.hd (g := 48) (ms := [true]) (p := ?_)) | (with_reducible apply Cal.hd (g := 49) (ms := [true]) (p := ?_)) | (with_reducible apply Cal.hd (ms := []) (p := ?_))); exact dE8) | exact dC11 | fail)); all_goals clear F)
  all_goals exact ⟨.inr rfl, fun S₂ hk => ⟨rfl, Kp.kept hk (Kept.app _ _)⟩⟩
 | true =>
  have hh : hasB q s = false := by rw [hgg] at hg; simpa using hg
  have hG : GoodP kk mm l q := by
   by_cases h : GoodP kk mm l q
   ·exact h
   ·rw [goodC_f h] at hgg; cases hgg
  have hsr : srt q := fun a b hab hb => sorted hG.ob hab hb
  have h0 := nodes_lt hgg
  (have F := an7 @yD @yF @yA @yB @yE @yC @hgg; (repeat' (first | refine' dA55 | ((with_reducible apply EvO.call (vs := ?_)); exact rfl; exact rfl; exact dE8; (first | (with_reducible apply Cal.hd (g := 48) (ms := [true]) (p := ?_)) | (with_reducible apply Cal.hd (g := 49) (ms := [true]) (p := ?_)) | (with_reducible apply Cal.hd (ms := []) (p := ?_))); exact dE8) | exact dC11 | fail)); all_goals clear F)
  have b0 := (hold.get ((get_len0 S _).trans rfl))
  have b1 := (hold.get ((get_len S _ 1).trans rfl))
  have hKS : Kept S S' := (Kept.app S _).trans hold
  have hlt := hC.lt
  have hm := hC.m
  simp only [List.length_append, List.length_cons, List.length_nil] at hm
  have w1 : ∀ k, md'.wr (S'.length + k) = true := fun k => wr_of w (by have := hlt.1; omega)
  have w2 : md'.wr S'.length = true := wr_of w (by have := hlt.1; omega)
  have rO := hC.rdA hall rfl rfl
  have d1 := fun T => (rO.ndT T).e
  have d2 := fun T => (rO.odT T).e
  (have F2 := an2 @d1 @d2; have F := an13 @yD @yF @yA @yB @yE @yC @b0 @b1 @w1 @w2 @hh @List.getElem?_append_left.{0} @List.set_append_left.{0}; (repeat' (first | refine' dA56 | ((with_reducible apply EvO.call (vs := ?_)); exact rfl; exact rfl; exact dE13; (first | (with_reducible apply Cal.hd (g := 48) (ms := [true]) (p := ?_)) | (with_reducible apply Cal.hd (g := 49) (ms := [true]) (p := ?_)) | (with_reducible apply Cal.hd (ms := []) (p := ?_))); exact dE13) | ((with_reducible apply CalH.mk); intro hd; first | exact c11 hd | exact c42 hd | exact c36 hd | exact c48_one hd (hid := dH4) (hw := dH4) | exact c49 hd (hw := dH4) (hwi := dH4)) | fail)); all_goals clear F F2)
  refine ⟨.inr rfl, fun S₂ hk => ⟨rfl, Kp.kept hk ⟨by simp; have := hKS.1; omega, fun j hj => ?_⟩⟩⟩
  rw [List.getElem?_append_left (by simp; have := hKS.1; omega), List.getElem?_set_ne (by omega)]
  exact hKS.2 j hj
end Go.Proofs.YtdpaijnbikclgaaDoorB
