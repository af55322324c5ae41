/- Part of the evaluator's contracts: fail1. -/
import Derived.Test.YtdpaijnbikclgaaDoorFnodeO
import Derived.Test.YtdpaijnbikclgaaDoorFclu1
import Derived.Test.YtdpaijnbikclgaaDoorFelCell
import Derived.Test.YtdpaijnbikclgaaDoorFnode0
import Derived.Test.YtdpaijnbikclgaaDoorFelObject
namespace Go.Proofs.YtdpaijnbikclgaaDoorB
open Go Go.Proofs.YtdpaijnbikclgaaDoorE
set_option linter.unusedVariables false
set_option linter.unusedSectionVars false
set_option linter.unusedSimpArgs false
set_option maxHeartbeats 4000000
set_option maxRecDepth 20000
def rowB (b : Bool) (c : List Cell) : List A := match b with | true => [.ro 4 (c.map Cell.c)] | false => [.v (.slice none 0 0)]
def rowsB (b : Nat → Bool) (l : List (List Cell)) : List (List A) := (List.range l.length).map fun i => rowB (b i) (l.getD i [])
theorem rowsB_len (b : Nat → Bool) (l : List (List Cell)) : (rowsB b l).length = l.length := by simp [rowsB]
theorem rowsB_at (b : Nat → Bool) (l : List (List Cell)) {i : Nat} (h : i < l.length) : (rowsB b l)[i]? = some (rowB (b i) l[i]) := by simp [rowsB, h]
theorem rowsB_map (l : List (List Cell)) : l.map nodeC = rowsB (fun _ => true) l := by
 apply List.ext_getElem?
 intro j
 rcases Nat.lt_or_ge j l.length with hj | hj
 ·rw [rowsB_at _ _ hj, List.getElem?_map, List.getElem?_eq_getElem hj]; rfl
 ·rw [List.getElem?_eq_none (by simpa using hj), List.getElem?_eq_none (by rw [rowsB_len]; exact hj)]
theorem rowsO_B {ids : Nat → Option Nat} {b : Nat → Bool} {l : List (List Cell)} (h : ∀ i, i < l.length → (ids i).isSome = b i) : rowsO ids l = rowsB b l := by
 apply List.ext_getElem?
 intro j
 rcases Nat.lt_or_ge j l.length with hj | hj
 ·rw [rowsO_at _ _ hj, rowsB_at _ _ hj, ← h j hj]
  cases ids j <;> rfl
 ·rw [List.getElem?_eq_none (by rw [rowsO_len]; exact hj), List.getElem?_eq_none (by rw [rowsB_len]; exact hj)]
theorem Nst.readB {S : Store} {id : Nat} {ids : Nat → Option Nat} {l : List (List Cell)} (h : Nst S id ids l) {b : Nat → Bool} (hb : ∀ i, i < l.length → (ids i).isSome = b i) : ∃ D, dpC S (.sl id 0 l.length l.length) = some (.ro 1 (rowsB b l), D) := by
 rw [← rowsO_B hb]; exact h.read
def totN (l : List (List Cell)) : Nat := (l.map List.length).sum
def mkN (x : Int) : List (List Cell) → List (List Cell)
 | [] => []
 | c :: l => mkCell x c.length :: mkN (x + 4 * (c.length : Int)) l
theorem mkN_len (x : Int) (l : List (List Cell)) : (mkN x l).length = l.length := by
 induction l generalizing x with
 | nil => rfl
 | cons c l ih => simp [mkN, ih]
theorem totN_cons (c : List Cell) (l : List (List Cell)) : totN (c :: l) = c.length + totN l := by simp [totN]
theorem totN_nil : totN [] = 0 := rfl
theorem mkN_app (x : Int) (a b : List (List Cell)) : mkN x (a ++ b) = mkN x a ++ mkN (x + 4 * (totN a : Int)) b := by
 induction a generalizing x with
 | nil => simp [mkN, totN]
 | cons c a ih =>
  simp only [List.cons_append, mkN, ih, totN_cons]
  congr 3
  simp only [Int.natCast_add]; omega
theorem totN_s (l : List (List Cell)) {i : Nat} (h : i < l.length) : totN (l.take (i + 1)) = totN (l.take i) + l[i].length := by
 unfold totN; rw [List.take_add_one, List.map_append, List.sum_append, List.getElem?_eq_getElem h]; simp
theorem totN_le (l : List (List Cell)) (i : Nat) : totN (l.take i) ≤ totN l := by
 have h := List.take_append_drop i l
 have : totN l = totN (l.take i) + totN (l.drop i) := by
  conv => lhs; rw [← h]
  unfold totN; rw [List.map_append, List.sum_append]
 omega
theorem mkN_get? (x : Int) (l : List (List Cell)) {i : Nat} (h : i < l.length) : (mkN x l)[i]? = some (mkCell (x + 4 * (totN (l.take i) : Int)) l[i].length) := by
 have e : l = l.take i ++ l[i] :: l.drop (i + 1) := by rw [← List.drop_eq_getElem_cons h, List.take_append_drop]
 have hl : (mkN x (l.take i)).length = i := by rw [mkN_len]; simp; omega
 rw [show mkN x l = mkN x (l.take i ++ l[i] :: l.drop (i + 1)) from congrArg (mkN x) e, mkN_app, List.getElem?_append_right (by omega), hl, Nat.sub_self]
 rfl
theorem mkN_pre (x : Int) (l : List (List Cell)) {i : Nat} (h : i ≤ l.length) : (mkN x (l.take i) ++ l.drop i).length = l.length := by simp [mkN_len]; omega
theorem mkN_at (x : Int) (l : List (List Cell)) {i : Nat} (h : i < l.length) : (mkN x (l.take i) ++ l.drop i)[i]? = some l[i] := by
 have hl : (mkN x (l.take i)).length = i := by rw [mkN_len]; simp; omega
 rw [List.getElem?_append_right (by omega), hl, Nat.sub_self]; simp [h]
theorem mkN_step (x : Int) (l : List (List Cell)) {i : Nat} (h : i < l.length) : (mkN x (l.take i) ++ l.drop i).set i (mkCell (x + 4 * (totN (l.take i) : Int)) l[i].length) = mkN x (l.take (i + 1)) ++ l.drop (i + 1) := by
 have hl : (mkN x (l.take i)).length = i := by rw [mkN_len]; simp; omega
 rw [List.set_append, if_neg (by omega), hl, Nat.sub_self, List.drop_eq_getElem_cons h, List.set_cons_zero, List.take_add_one, List.getElem?_eq_getElem h, mkN_app, List.append_assoc]
 rfl
theorem c86_n0 {k : Nat} {md : Md} {S : Store} {vs : List A} {D : List Nat} {l : List Cell} (hd : dpArgs S [] vs = some ([.v (.slice none 0 0), .ro 4 (l.map Cell.c)], D)) (hl : l = [] := by first | assumption | omega | with_reducible rfl) (hk : 2 ≤ k := by omega) :
  Cal (run k) md 86 vs S (fun r S' => r = (.v (.bool (true))) ∧ S' = S) := by
 obtain ⟨k, rfl⟩ : ∃ j, k = j + 1 := ⟨k - 1, by omega⟩
 refine Cal.fn (n := 27) (rs := [.tmp 4]) (ids := []) (D := D) (Xof_none rfl) g86 (by delta Tryd.f86; exact rfl) (by delta Tryd.f86; exact rfl) (by delta Tryd.f86; exact rfl) hd rfl (by first | rfl | simp [idsV, idsC]) (by simp) (by simp) ?_
 intro md' ow; have w := ow.w; have w0 := ow.w0; have fz : md'.fz = false := ow.fz
 subst hl
 (have F := an7 @yD @yF @yA @yB @yE @totN_nil @bne_self_eq_false.{0}; (repeat' (first | refine' dA36 | ((with_reducible first | apply EvO.call (vs := ?_) | apply EvT.call (vs := ?_)); exact rfl; exact rfl; exact dE8; (with_reducible apply Cal.hd (ms := []) (p := ?_)); exact dE8) | ((with_reducible apply CalH.mk); intro hd; first | exact c97 hd) | fail)); all_goals clear F)
 apply Ev.loop (fun j e S' => ∃ i : Nat, e = mkE [(0, .v (.slice none 0 0)), (1, .ro 4 []), (5, (.v (.int .i64 ((i : Int)))))] ∧ S' = S ∧ j = 0 ∧ (i = 0))
 ·exact ⟨0, (k86_4 _).trans dN13, (by first | rfl | (simp only [app_app, List.cons_append, List.nil_append]; done)), rfl, (by first | omega | rfl | (simp; done))⟩
 rintro j e S' ⟨i, rfl, rfl, hj, hi⟩
 subst hi
 (have F := an6 @yD @yF @yA @yB @yE @totN_nil; (repeat' (first | refine' dA36 | ((with_reducible first | apply EvO.call (vs := ?_) | apply EvT.call (vs := ?_)); exact rfl; exact rfl; exact dE8; (with_reducible apply Cal.hd (ms := []) (p := ?_)); exact dE8) | ((with_reducible apply CalH.mk); intro hd; first | exact c97 hd) | fail)); all_goals clear F)
 exact ⟨rfl, rfl⟩
theorem c86_0n {k : Nat} {md : Md} {S : Store} {vs : List A} {D : List Nat} {l : List Cell} (hd : dpArgs S [] vs = some ([.ro 4 (l.map Cell.c), .v (.slice none 0 0)], D)) (hl : l = [] := by first | assumption | omega | with_reducible rfl) (hk : 2 ≤ k := by omega) :
  Cal (run k) md 86 vs S (fun r S' => r = (.v (.bool (true))) ∧ S' = S) := by
 obtain ⟨k, rfl⟩ : ∃ j, k = j + 1 := ⟨k - 1, by omega⟩
 refine Cal.fn (n := 27) (rs := [.tmp 4]) (ids := []) (D := D) (Xof_none rfl) g86 (by delta Tryd.f86; exact rfl) (by delta Tryd.f86; exact rfl) (by delta Tryd.f86; exact rfl) hd rfl (by first | rfl | simp [idsV, idsC]) (by simp) (by simp) ?_
 intro md' ow; have w := ow.w; have w0 := ow.w0; have fz : md'.fz = false := ow.fz
 subst hl
 (have F := an7 @yD @yF @yA @yB @yE @totN_nil @bne_self_eq_false.{0}; (repeat' (first | refine' dA36 | ((with_reducible first | apply EvO.call (vs := ?_) | apply EvT.call (vs := ?_)); exact rfl; exact rfl; exact dE8; (with_reducible apply Cal.hd (ms := []) (p := ?_)); exact dE8) | ((with_reducible apply CalH.mk); intro hd; first | exact c97 hd) | fail)); all_goals clear F)
 apply Ev.loop (fun j e S' => ∃ i : Nat, e = mkE [(0, .ro 4 []), (1, .v (.slice none 0 0)), (5, (.v (.int .i64 ((i : Int)))))] ∧ S' = S ∧ j = 0 ∧ (i = 0))
 ·exact ⟨0, (k86_4 _).trans dN13, (by first | rfl | (simp only [app_app, List.cons_append, List.nil_append]; done)), rfl, (by first | omega | rfl | (simp; done))⟩
 rintro j e S' ⟨i, rfl, rfl, hj, hi⟩
 subst hi
 (have F := an6 @yD @yF @yA @yB @yE @totN_nil; (repeat' (first | refine' dA36 | ((with_reducible first | apply EvO.call (vs := ?_) | apply EvT.call (vs := ?_)); exact rfl; exact rfl; exact dE8; (with_reducible apply Cal.hd (ms := []) (p := ?_)); exact dE8) | ((with_reducible apply CalH.mk); intro hd; first | exact c97 hd) | fail)); all_goals clear F)
 exact ⟨rfl, rfl⟩
theorem c62_rr {k : Nat} {md : Md} {S : Store} {vs : List A} {D : List Nat} {c : List Cell} (hd : dpArgs S [] vs = some ([.ag [.ro 4 (c.map Cell.c)], .ag [.ro 4 (c.map Cell.c)]], D)) (hn : c.length ≤ 1048576 := by first | assumption | omega | with_reducible rfl) (hk : 3 ≤ k := by omega) :
  Cal (run k) md 62 vs S (fun r S' => r = (.v (.bool (true))) ∧ S' = S) := by
 obtain ⟨k, rfl⟩ : ∃ j, k = j + 1 := ⟨k - 1, by omega⟩
 refine Cal.fn (n := 11) (rs := [.tmp 4]) (ids := []) (D := D) (Xof_none rfl) g62 (by delta Tryd.f62; exact rfl) (by delta Tryd.f62; exact rfl) (by delta Tryd.f62; exact rfl) hd rfl (by first | rfl | simp [idsV, idsC]) (by simp) (by simp) ?_
 intro md' ow; have w := ow.w; have w0 := ow.w0; have fz : md'.fz = false := ow.fz
 (have F := an8 @yD @yF @yA @yB @yE @totN_nil @bne_self_eq_false.{0} @beq_self_eq_true.{0}; (repeat' (first | refine' dA37 | ((with_reducible apply EvO.call (vs := ?_)); exact rfl; exact rfl; exact dE8; (with_reducible apply Cal.hd (ms := []) (p := ?_)); exact dE8) | exact dC2 | fail)); all_goals clear F)
 exact ⟨rfl, rfl⟩
theorem c62_rn {k : Nat} {md : Md} {S : Store} {vs : List A} {D : List Nat} {c : List Cell} (hd : dpArgs S [] vs = some ([.ag [.ro 4 (c.map Cell.c)], .ag [.v (.slice none 0 0)]], D)) (hl : c = [] := by first | assumption | omega | with_reducible rfl) (hk : 3 ≤ k := by omega) :
  Cal (run k) md 62 vs S (fun r S' => r = (.v (.bool (true))) ∧ S' = S) := by
 obtain ⟨k, rfl⟩ : ∃ j, k = j + 1 := ⟨k - 1, by omega⟩
 refine Cal.fn (n := 11) (rs := [.tmp 4]) (ids := []) (D := D) (Xof_none rfl) g62 (by delta Tryd.f62; exact rfl) (by delta Tryd.f62; exact rfl) (by delta Tryd.f62; exact rfl) hd rfl (by first | rfl | simp [idsV, idsC]) (by simp) (by simp) ?_
 intro md' ow; have w := ow.w; have w0 := ow.w0; have fz : md'.fz = false := ow.fz
 (have F := an8 @yD @yF @yA @yB @yE @totN_nil @bne_self_eq_false.{0} @beq_self_eq_true.{0}; (repeat' (first | refine' dA37 | ((with_reducible apply EvO.call (vs := ?_)); exact rfl; exact rfl; exact dE8; (with_reducible apply Cal.hd (ms := []) (p := ?_)); exact dE8) | exact dC2 | fail)); all_goals clear F)
 exact ⟨rfl, rfl⟩
theorem c62_nr {k : Nat} {md : Md} {S : Store} {vs : List A} {D : List Nat} {c : List Cell} (hd : dpArgs S [] vs = some ([.ag [.v (.slice none 0 0)], .ag [.ro 4 (c.map Cell.c)]], D)) (hl : c = [] := by first | assumption | omega | with_reducible rfl) (hk : 3 ≤ k := by omega) :
  Cal (run k) md 62 vs S (fun r S' => r = (.v (.bool (true))) ∧ S' = S) := by
 obtain ⟨k, rfl⟩ : ∃ j, k = j + 1 := ⟨k - 1, by omega⟩
 refine Cal.fn (n := 11) (rs := [.tmp 4]) (ids := []) (D := D) (Xof_none rfl) g62 (by delta Tryd.f62; exact rfl) (by delta Tryd.f62; exact rfl) (by delta Tryd.f62; exact rfl) hd rfl (by first | rfl | simp [idsV, idsC]) (by simp) (by simp) ?_
 intro md' ow; have w := ow.w; have w0 := ow.w0; have fz : md'.fz = false := ow.fz
 (have F := an8 @yD @yF @yA @yB @yE @totN_nil @bne_self_eq_false.{0} @beq_self_eq_true.{0}; (repeat' (first | refine' dA37 | ((with_reducible apply EvO.call (vs := ?_)); exact rfl; exact rfl; exact dE8; (with_reducible apply Cal.hd (ms := []) (p := ?_)); exact dE8) | exact dC2 | fail)); all_goals clear F)
 exact ⟨rfl, rfl⟩
theorem c62_nn {k : Nat} {md : Md} {S : Store} {vs : List A} {D : List Nat}  (hd : dpArgs S [] vs = some ([.ag [.v (.slice none 0 0)], .ag [.v (.slice none 0 0)]], D))  (hk : 3 ≤ k := by omega) :
  Cal (run k) md 62 vs S (fun r S' => r = (.v (.bool (true))) ∧ S' = S) := by
 obtain ⟨k, rfl⟩ : ∃ j, k = j + 1 := ⟨k - 1, by omega⟩
 refine Cal.fn (n := 11) (rs := [.tmp 4]) (ids := []) (D := D) (Xof_none rfl) g62 (by delta Tryd.f62; exact rfl) (by delta Tryd.f62; exact rfl) (by delta Tryd.f62; exact rfl) hd rfl (by first | rfl | simp [idsV, idsC]) (by simp) (by simp) ?_
 intro md' ow; have w := ow.w; have w0 := ow.w0; have fz : md'.fz = false := ow.fz
 (have F := an8 @yD @yF @yA @yB @yE @totN_nil @bne_self_eq_false.{0} @beq_self_eq_true.{0}; (repeat' (first | refine' dA37 | ((with_reducible apply EvO.call (vs := ?_)); exact rfl; exact rfl; exact dE8; (with_reducible apply Cal.hd (ms := []) (p := ?_)); exact dE8) | exact dC2 | fail)); all_goals clear F)
 exact ⟨rfl, rfl⟩
theorem c39_B {k : Nat} {md : Md} {S : Store} {vs : List A} {D : List Nat} {b b' : Nat → Bool} {l : List (List Cell)} {R R' : List (List A)} (hd : dpArgs S [] vs = some ([.ro 1 R, .ro 1 R'], D)) (hR : R = rowsB b l := by first | assumption | omega | with_reducible rfl) (hR' : R' = rowsB b' l := by first | assumption | omega | with_reducible rfl) (hb : ∀ i (h : i < l.length), b i = false → l[i] = [] := by first | assumption | omega | with_reducible rfl) (hb' : ∀ i (h : i < l.length), b' i = false → l[i] = [] := by first | assumption | omega | with_reducible rfl) (hn : l.length ≤ 1048576 := by first | assumption | omega | with_reducible rfl) (hcs : ∀ c ∈ l, c.length ≤ 1048576 := by first | assumption | omega | with_reducible rfl) (hk : 4 ≤ k := by omega) :
  Cal (run k) md 39 vs S (fun r S' => r = (.v (.bool (true))) ∧ S' = S) := by
 obtain ⟨k, rfl⟩ : ∃ j, k = j + 1 := ⟨k - 1, by omega⟩
 refine Cal.fn (n := 27) (rs := [.tmp 4]) (ids := []) (D := D) (Xof_none rfl) g39 (by delta Tryd.f39; exact rfl) (by delta Tryd.f39; exact rfl) (by delta Tryd.f39; exact rfl) hd rfl (by first | rfl | simp [idsV, idsC]) (by simp) (by simp) ?_
 intro md' ow; have w := ow.w; have w0 := ow.w0; have fz : md'.fz = false := ow.fz
 subst hR; subst hR'
 (have F := an8 @yD @yF @yA @yB @yE @totN_nil @bne_self_eq_false.{0} @rowsB_len; (repeat' (first | refine' dA36 | ((with_reducible first | apply EvO.call (vs := ?_) | apply EvT.call (vs := ?_)); exact rfl; exact rfl; exact dE8; (with_reducible apply Cal.hd (ms := []) (p := ?_)); exact dE8) | exact dC1 | fail)); all_goals clear F)
 apply Ev.loop (fun j e S' => ∃ i : Nat, e = mkE [(0, .ro 1 (rowsB b l)), (1, .ro 1 (rowsB b' l)), (5, (.v (.int .i64 ((i : Int)))))] ∧ S' = S ∧ j = l.length - i ∧ (i ≤ l.length))
 ·exact ⟨0, (k39_4 _).trans dN13, (by first | rfl | (simp only [app_app, List.cons_append, List.nil_append]; done)), rfl, (by first | omega | rfl | (simp; done))⟩
 rintro j e S' ⟨i, rfl, rfl, hj, hi⟩
 by_cases hli : (i : Int) < (l.length : Int)
 ·have hlt : i < l.length := by omega
  have hz := hcs l[i] (by simp)
  have g1 := rowsB_at b l hlt
  have g2 := rowsB_at b' l hlt
  cases e1 : b i <;> cases e2 : b' i
  all_goals rw [e1] at g1
  all_goals rw [e2] at g2
  all_goals simp only [rowB] at g1 g2
  ·(have F := an12 @yD @yF @yA @yB @yE @totN_nil @hli @rowsB_len @g1 @g2 @bne_self_eq_false.{0} @beq_self_eq_true.{0}; (repeat' (first | refine' dA36 | ((with_reducible first | apply EvO.call (vs := ?_) | apply EvT.call (vs := ?_)); exact rfl; exact rfl; exact dE8; (with_reducible apply Cal.hd (ms := []) (p := ?_)); exact dE8) | exact dC1 | fail)); all_goals clear F)
   apply roundQ_m; refine ⟨_, ⟨i + 1, (k39_4 _).trans dN13, ?_, rfl, ?_⟩, ?_⟩
   ·exact dS6
   ·first | omega | rfl | assumption | (simp; done)
   ·omega
  ·have hl0 := hb i hlt e1
   (have F := an12 @yD @yF @yA @yB @yE @totN_nil @hli @rowsB_len @g1 @g2 @bne_self_eq_false.{0} @beq_self_eq_true.{0}; (repeat' (first | refine' dA36 | ((with_reducible first | apply EvO.call (vs := ?_) | apply EvT.call (vs := ?_)); exact rfl; exact rfl; exact dE8; (with_reducible apply Cal.hd (ms := []) (p := ?_)); exact dE8) | exact dC1 | fail)); all_goals clear F)
   apply roundQ_m; refine ⟨_, ⟨i + 1, (k39_4 _).trans dN13, ?_, rfl, ?_⟩, ?_⟩
   ·exact dS6
   ·first | omega | rfl | assumption | (simp; done)
   ·omega
  ·have hl0 := hb' i hlt e2
   (have F := an12 @yD @yF @yA @yB @yE @totN_nil @hli @rowsB_len @g1 @g2 @bne_self_eq_false.{0} @beq_self_eq_true.{0}; (repeat' (first | refine' dA36 | ((with_reducible first | apply EvO.call (vs := ?_) | apply EvT.call (vs := ?_)); exact rfl; exact rfl; exact dE8; (with_reducible apply Cal.hd (ms := []) (p := ?_)); exact dE8) | exact dC1 | fail)); all_goals clear F)
   apply roundQ_m; refine ⟨_, ⟨i + 1, (k39_4 _).trans dN13, ?_, rfl, ?_⟩, ?_⟩
   ·exact dS6
   ·first | omega | rfl | assumption | (simp; done)
   ·omega
  ·(have F := an12 @yD @yF @yA @yB @yE @totN_nil @hli @rowsB_len @g1 @g2 @bne_self_eq_false.{0} @beq_self_eq_true.{0}; (repeat' (first | refine' dA36 | ((with_reducible first | apply EvO.call (vs := ?_) | apply EvT.call (vs := ?_)); exact rfl; exact rfl; exact dE8; (with_reducible apply Cal.hd (ms := []) (p := ?_)); exact dE8) | exact dC1 | fail)); all_goals clear F)
   apply roundQ_m; refine ⟨_, ⟨i + 1, (k39_4 _).trans dN13, ?_, rfl, ?_⟩, ?_⟩
   ·exact dS6
   ·first | omega | rfl | assumption | (simp; done)
   ·omega
 ·obtain rfl : i = l.length := by omega
  (have F := an8 @yD @yF @yA @yB @yE @totN_nil @hli @rowsB_len; (repeat' (first | refine' dA36 | ((with_reducible first | apply EvO.call (vs := ?_) | apply EvT.call (vs := ?_)); exact rfl; exact rfl; exact dE8; (with_reducible apply Cal.hd (ms := []) (p := ?_)); exact dE8) | exact dC1 | fail)); all_goals clear F)
  exact ⟨rfl, rfl⟩
theorem c12_B {k : Nat} {md : Md} {S : Store} {vs : List A} {D : List Nat} {kk mm : Int} {b b' : Nat → Bool} {l : List (List Cell)} {R R' : List (List A)} {q : List Object} (hd : dpArgs S [] vs = some ([.ag [(.v (.int .i64 (kk))), (.v (.int .i64 (mm))), .ro 1 R, .ro 2 (q.map Object.c)], .ag [(.v (.int .i64 (kk))), (.v (.int .i64 (mm))), .ro 1 R', .ro 2 (q.map Object.c)]], D)) (hR : R = rowsB b l := by first | assumption | omega | with_reducible rfl) (hR' : R' = rowsB b' l := by first | assumption | omega | with_reducible rfl) (hb : ∀ i (h : i < l.length), b i = false → l[i] = [] := by first | assumption | omega | with_reducible rfl) (hb' : ∀ i (h : i < l.length), b' i = false → l[i] = [] := by first | assumption | omega | with_reducible rfl) (hn : l.length ≤ 1048576 := by first | assumption | omega | with_reducible rfl) (hcs : ∀ c ∈ l, c.length ≤ 1048576 := by first | assumption | omega | with_reducible rfl) (hq : q.length ≤ 1048576 := by first | assumption | omega | with_reducible rfl) (hk : 5 ≤ k := by omega) :
  Cal (run k) md 12 vs S (fun r S' => r = (.v (.bool (true))) ∧ S' = S) := by
 obtain ⟨k, rfl⟩ : ∃ j, k = j + 1 := ⟨k - 1, by omega⟩
 refine Cal.fn (n := 27) (rs := [.tmp 4]) (ids := []) (D := D) (Xof_none rfl) g12 (by delta Tryd.f12; exact rfl) (by delta Tryd.f12; exact rfl) (by delta Tryd.f12; exact rfl) hd rfl (by first | rfl | simp [idsV, idsC]) (by simp) (by simp) ?_
 intro md' ow; have w := ow.w; have w0 := ow.w0; have fz : md'.fz = false := ow.fz
 (have F := an8 @yD @yF @yA @yB @yE @totN_nil @bne_self_eq_false.{0} @beq_self_eq_true.{0}; (repeat' (first | refine' dA37 | ((with_reducible apply EvO.call (vs := ?_)); exact rfl; exact rfl; exact dE8; (with_reducible apply Cal.hd (ms := []) (p := ?_)); exact dE8) | ((with_reducible apply CalH.mk); intro hd; first | exact c39_B (k := k) hd (b := b) (b' := b') (l := l) | exact c39 hd | exact c40 hd | exact c40_nn hd) | fail)); all_goals clear F)
 exact ⟨rfl, rfl⟩
theorem c39_nn {k : Nat} {md : Md} {S : Store} {vs : List A} {D : List Nat}  (hd : dpArgs S [] vs = some ([.v (.slice none 0 0), .v (.slice none 0 0)], D))  (hk : 4 ≤ k := by omega) :
  Cal (run k) md 39 vs S (fun r S' => r = (.v (.bool (true))) ∧ S' = S) := by
 obtain ⟨k, rfl⟩ : ∃ j, k = j + 1 := ⟨k - 1, by omega⟩
 refine Cal.fn (n := 27) (rs := [.tmp 4]) (ids := []) (D := D) (Xof_none rfl) g39 (by delta Tryd.f39; exact rfl) (by delta Tryd.f39; exact rfl) (by delta Tryd.f39; exact rfl) hd rfl (by first | rfl | simp [idsV, idsC]) (by simp) (by simp) ?_
 intro md' ow; have w := ow.w; have w0 := ow.w0; have fz : md'.fz = false := ow.fz
 (have F := an7 @yD @yF @yA @yB @yE @totN_nil @bne_self_eq_false.{0}; (repeat' (first | refine' dA36 | ((with_reducible first | apply EvO.call (vs := ?_) | apply EvT.call (vs := ?_)); exact rfl; exact rfl; exact dE8; (with_reducible apply Cal.hd (ms := []) (p := ?_)); exact dE8) | exact dC1 | fail)); all_goals clear F)
 apply Ev.loop (fun j e S' => ∃ i : Nat, e = mkE [(0, .v (.slice none 0 0)), (1, .v (.slice none 0 0)), (5, (.v (.int .i64 ((i : Int)))))] ∧ S' = S ∧ j = 0 ∧ (i = 0))
 ·exact ⟨0, (k39_4 _).trans dN13, (by first | rfl | (simp only [app_app, List.cons_append, List.nil_append]; done)), rfl, (by first | omega | rfl | (simp; done))⟩
 rintro j e S' ⟨i, rfl, rfl, hj, hi⟩
 subst hi
 (have F := an6 @yD @yF @yA @yB @yE @totN_nil; (repeat' (first | refine' dA36 | ((with_reducible first | apply EvO.call (vs := ?_) | apply EvT.call (vs := ?_)); exact rfl; exact rfl; exact dE8; (with_reducible apply Cal.hd (ms := []) (p := ?_)); exact dE8) | exact dC1 | fail)); all_goals clear F)
 exact ⟨rfl, rfl⟩
theorem c12_nn {k : Nat} {md : Md} {S : Store} {vs : List A} {D : List Nat} {kk mm : Int} (hd : dpArgs S [] vs = some ([.ag [(.v (.int .i64 (kk))), (.v (.int .i64 (mm))), .v (.slice none 0 0), .v (.slice none 0 0)], .ag [(.v (.int .i64 (kk))), (.v (.int .i64 (mm))), .v (.slice none 0 0), .v (.slice none 0 0)]], D))  (hk : 5 ≤ k := by omega) :
  Cal (run k) md 12 vs S (fun r S' => r = (.v (.bool (true))) ∧ S' = S) := by
 obtain ⟨k, rfl⟩ : ∃ j, k = j + 1 := ⟨k - 1, by omega⟩
 refine Cal.fn (n := 27) (rs := [.tmp 4]) (ids := []) (D := D) (Xof_none rfl) g12 (by delta Tryd.f12; exact rfl) (by delta Tryd.f12; exact rfl) (by delta Tryd.f12; exact rfl) hd rfl (by first | rfl | simp [idsV, idsC]) (by simp) (by simp) ?_
 intro md' ow; have w := ow.w; have w0 := ow.w0; have fz : md'.fz = false := ow.fz
 (have F := an8 @yD @yF @yA @yB @yE @totN_nil @bne_self_eq_false.{0} @beq_self_eq_true.{0}; (repeat' (first | refine' dA37 | ((with_reducible apply EvO.call (vs := ?_)); exact rfl; exact rfl; exact dE8; (with_reducible apply Cal.hd (ms := []) (p := ?_)); exact dE8) | ((with_reducible apply CalH.mk); intro hd; first | exact c39 hd | exact c39_B hd | exact c39_nn hd | exact c40 hd | exact c40_nn hd) | fail)); all_goals clear F)
 exact ⟨rfl, rfl⟩
theorem k45_2 (e : Env) : lpE (FI.K ⟨[], false, [(2, [0, 1, 5]), (1000, [0, 1]), (1001, [0, 1, 5]), (1002, [0, 1, 5, 9]), (1003, [0, 1, 5]), (1004, [0, 1, 5]), (1005, [0, 1, 5, 20]), (1006, [4]), (1007, [4])]⟩ 2) e = mkE [(0, e 0), (1, e 1), (5, e 5)] := rfl
theorem c45_nil {k : Nat} {md : Md} {S : Store} {vs : List A} {D : List Nat} {x : Int} (hd : dpArgs S [] vs = some ([.v (.slice none 0 0), (.v (.int .i64 (x)))], D))  (hk : 3 ≤ k := by omega) :
  Cal (run k) md 45 vs S (fun r S' => r = (.v (.int .i64 (x))) ∧ S' = S) := by
 obtain ⟨k, rfl⟩ : ∃ j, k = j + 1 := ⟨k - 1, by omega⟩
 refine Cal.fn (n := 22) (rs := [.tmp 4]) (ids := []) (D := D) (Xof_none rfl) g45 (by delta Tryd.f45; exact rfl) (by delta Tryd.f45; exact rfl) (by delta Tryd.f45; exact rfl) hd rfl (by first | rfl | simp [idsV, idsC]) (by simp) (by simp) ?_
 intro md' ow; have w := ow.w; have w0 := ow.w0; have fz : md'.fz = false := ow.fz
 (have F := an6 @yD @yF @yA @yB @yE @totN_nil; (repeat' (first | refine' dA38 | ((with_reducible apply EvO.call (vs := ?_)); exact rfl; exact rfl; exact dE8; (with_reducible apply Cal.hd (ms := []) (p := ?_)); exact dE8) | ((with_reducible apply CalH.mk); intro hd; first | exact c68_nil hd | exact c68 hd) | fail)); all_goals clear F)
 apply Ev.loop (fun j e S' => ∃ i : Nat, e = mkE [(0, .v (.slice none 0 0)), (1, (.v (.int .i64 (x)))), (5, (.v (.int .i64 ((i : Int)))))] ∧ S' = S ∧ j = 0 ∧ (i = 0))
 ·exact ⟨0, (k45_2 _).trans dN13, (by first | rfl | (simp only [app_app, List.cons_append, List.nil_append]; done)), rfl, (by first | omega | rfl | (simp; done))⟩
 rintro j e S' ⟨i, rfl, rfl, hj, hi⟩
 subst hi
 (have F := an6 @yD @yF @yA @yB @yE @totN_nil; (repeat' (first | refine' dA38 | ((with_reducible apply EvO.call (vs := ?_)); exact rfl; exact rfl; exact dE8; (with_reducible apply Cal.hd (ms := []) (p := ?_)); exact dE8) | ((with_reducible apply CalH.mk); intro hd; first | exact c68_nil hd | exact c68 hd) | fail)); all_goals clear F)
 exact ⟨rfl, rfl⟩
theorem c16_nil {k : Nat} {md : Md} {S : Store} {vs : List A} {D : List Nat} {kk mm x : Int} (hd : dpArgs S [] vs = some ([.ag [(.v (.int .i64 (kk))), (.v (.int .i64 (mm))), .v (.slice none 0 0), .v (.slice none 0 0)], (.v (.int .i64 (x)))], D)) (hx : 0 ≤ x ∧ x ≤ 16777216 := by first | assumption | omega | with_reducible rfl) (hk : 4 ≤ k := by omega) :
  Cal (run k) md 16 vs S (fun r S' => r = (.v (.int .i64 (x))) ∧ S' = S) := by
 obtain ⟨k, rfl⟩ : ∃ j, k = j + 1 := ⟨k - 1, by omega⟩
 refine Cal.fn (n := 18) (rs := [.tmp 4]) (ids := []) (D := D) (Xof_none rfl) g16 (by delta Tryd.f16; exact rfl) (by delta Tryd.f16; exact rfl) (by delta Tryd.f16; exact rfl) hd rfl (by first | rfl | simp [idsV, idsC]) (by simp) (by simp) ?_
 intro md' ow; have w := ow.w; have w0 := ow.w0; have fz : md'.fz = false := ow.fz
 (have F := an6 @yD @yF @yA @yB @yE @totN_nil; (repeat' (first | refine' dA37 | ((with_reducible apply EvO.call (vs := ?_)); exact rfl; exact rfl; exact dE8; (with_reducible apply Cal.hd (ms := []) (p := ?_)); exact dE8) | ((with_reducible apply CalH.mk); intro hd; first | exact c45_nil hd | exact c46_nil hd | exact c46 hd) | fail)); all_goals clear F)
 all_goals first | (exfalso; omega) | exact ⟨rfl, rfl⟩
theorem c45_B {k : Nat} {md : Md} {S : Store} {vs : List A} {D : List Nat} {b : Nat → Bool} {l : List (List Cell)} {R : List (List A)} {x : Int} (hd : dpArgs S [] vs = some ([.ro 1 R, (.v (.int .i64 (x)))], D)) (hR : R = rowsB b (mkN x l) := by first | assumption | omega | with_reducible rfl) (hb : ∀ i (h : i < l.length), b i = false → l[i] = [] := by first | assumption | omega | with_reducible rfl) (hx : 0 ≤ x ∧ x ≤ 1048576 := by first | assumption | omega | with_reducible rfl) (hn : l.length ≤ 1048576 := by first | assumption | omega | with_reducible rfl) (ht : totN l ≤ 1048576 := by first | assumption | omega | with_reducible rfl) (hk : 3 ≤ k := by omega) :
  Cal (run k) md 45 vs S (fun r S' => r = (.v (.int .i64 (x + 4 * (totN l : Int)))) ∧ S' = S) := by
 obtain ⟨k, rfl⟩ : ∃ j, k = j + 1 := ⟨k - 1, by omega⟩
 refine Cal.fn (n := 22) (rs := [.tmp 4]) (ids := []) (D := D) (Xof_none rfl) g45 (by delta Tryd.f45; exact rfl) (by delta Tryd.f45; exact rfl) (by delta Tryd.f45; exact rfl) hd rfl (by first | rfl | simp [idsV, idsC]) (by simp) (by simp) ?_
 intro md' ow; have w := ow.w; have w0 := ow.w0; have fz : md'.fz = false := ow.fz
 subst hR
 (have F := an6 @yD @yF @yA @yB @yE @totN_nil; (repeat' (first | refine' dA38 | ((with_reducible apply EvO.call (vs := ?_)); exact rfl; exact rfl; exact dE8; (with_reducible apply Cal.hd (ms := []) (p := ?_)); exact dE8) | ((with_reducible apply CalH.mk); intro hd; first | exact c68_nil hd | exact c68 hd) | fail)); all_goals clear F)
 apply Ev.loop (fun j e S' => ∃ i : Nat, e = mkE [(0, .ro 1 (rowsB b (mkN x l))), (1, (.v (.int .i64 (x + 4 * (totN (l.take i) : Int))))), (5, (.v (.int .i64 ((i : Int)))))] ∧ S' = S ∧ j = l.length - i ∧ (i ≤ l.length))
 ·exact ⟨0, (k45_2 _).trans dN13, (by first | rfl | (simp only [app_app, List.cons_append, List.nil_append]; done)), rfl, (by first | omega | rfl | (simp; done))⟩
 rintro j e S' ⟨i, rfl, rfl, hj, hi⟩
 by_cases hli : (i : Int) < (l.length : Int)
 ·have hlt : i < l.length := by omega
  have g1 : (rowsB b (mkN x l))[i]? = some (rowB (b i) (mkCell (x + 4 * (totN (l.take i) : Int)) l[i].length)) := by
   rw [rowsB_at _ _ (by rw [mkN_len]; exact hlt)]
   have := mkN_get? x l hlt
   rw [List.getElem?_eq_getElem (by rw [mkN_len]; exact hlt)] at this
   injection this with this; rw [this]
  have ht1 := totN_s l hlt
  have ht2 := totN_le l (i + 1)
  have ht3 : l[i].length ≤ 1048576 := by omega
  have hx1 : 0 ≤ x + 4 * (totN (l.take i) : Int) ∧ x + 4 * (totN (l.take i) : Int) ≤ 16777216 := by omega
  cases e1 : b i
  all_goals rw [e1] at g1
  all_goals simp only [rowB] at g1
  ·have hl0 : l[i].length = 0 := by rw [hb i hlt e1]; rfl
   (have F := an10 @yD @yF @yA @yB @yE @totN_nil @hli @rowsB_len @mkN_len @g1; (repeat' (first | refine' dA38 | ((with_reducible apply EvO.call (vs := ?_)); exact rfl; exact rfl; exact dE8; (with_reducible apply Cal.hd (ms := []) (p := ?_)); exact dE8) | ((with_reducible apply CalH.mk); intro hd; first | exact c68_nil hd | exact c68 hd) | fail)); all_goals clear F)
   all_goals first | (exfalso; omega) | skip
   have hx2 : x + 4 * (totN (l.take i) : Int) = x + 4 * (totN (l.take (i + 1)) : Int) := by omega
   apply roundQ_m; refine ⟨_, ⟨i + 1, (k45_2 _).trans dN14, ?_, rfl, ?_⟩, ?_⟩
   ·exact dS7
   ·first | omega | rfl | assumption | (simp; done)
   ·omega
  ·(have F := an10 @yD @yF @yA @yB @yE @totN_nil @hli @rowsB_len @mkN_len @g1; (repeat' (first | refine' dA38 | ((with_reducible apply EvO.call (vs := ?_)); exact rfl; exact rfl; exact dE8; (with_reducible apply Cal.hd (ms := []) (p := ?_)); exact dE8) | ((with_reducible apply CalH.mk); intro hd; first | exact c68_nil hd | exact c68 hd) | fail)); all_goals clear F)
   all_goals first | (exfalso; omega) | skip
   have hx2 : x + 4 * (totN (l.take i) : Int) + 4 * (l[i].length : Int) = x + 4 * (totN (l.take (i + 1)) : Int) := by omega
   apply roundQ_m; refine ⟨_, ⟨i + 1, (k45_2 _).trans dN14, ?_, rfl, ?_⟩, ?_⟩
   ·exact dS7
   ·first | omega | rfl | assumption | (simp; done)
   ·omega
 ·obtain rfl : i = l.length := by omega
  rw [List.take_length]
  (have F := an9 @yD @yF @yA @yB @yE @totN_nil @hli @rowsB_len @mkN_len; (repeat' (first | refine' dA38 | ((with_reducible apply EvO.call (vs := ?_)); exact rfl; exact rfl; exact dE8; (with_reducible apply Cal.hd (ms := []) (p := ?_)); exact dE8) | ((with_reducible apply CalH.mk); intro hd; first | exact c68_nil hd | exact c68 hd) | fail)); all_goals clear F)
  exact ⟨rfl, rfl⟩
theorem c16_B {k : Nat} {md : Md} {S : Store} {vs : List A} {D : List Nat} {kk mm : Int} {b : Nat → Bool} {l : List (List Cell)} {m : Nat} {R : List (List A)} {x : Int} (hd : dpArgs S [] vs = some ([.ag [(.v (.int .i64 (kk))), (.v (.int .i64 (mm))), .ro 1 R, .ro 2 ((mkObject (x + 4 * (totN l : Int)) m).map Object.c)], (.v (.int .i64 (x)))], D)) (hR : R = rowsB b (mkN x l) := by first | assumption | omega | with_reducible rfl) (hb : ∀ i (h : i < l.length), b i = false → l[i] = [] := by first | assumption | omega | with_reducible rfl) (hx : 0 ≤ x ∧ x ≤ 1048576 := by first | assumption | omega | with_reducible rfl) (hn : l.length ≤ 1048576 := by first | assumption | omega | with_reducible rfl) (ht : totN l ≤ 1048576 := by first | assumption | omega | with_reducible rfl) (hm : m ≤ 1048576 := by first | assumption | omega | with_reducible rfl) (hk : 4 ≤ k := by omega) :
  Cal (run k) md 16 vs S (fun r S' => r = (.v (.int .i64 (x + 4 * (totN l : Int) + 2 * (m : Int)))) ∧ S' = S) := by
 obtain ⟨k, rfl⟩ : ∃ j, k = j + 1 := ⟨k - 1, by omega⟩
 refine Cal.fn (n := 18) (rs := [.tmp 4]) (ids := []) (D := D) (Xof_none rfl) g16 (by delta Tryd.f16; exact rfl) (by delta Tryd.f16; exact rfl) (by delta Tryd.f16; exact rfl) hd rfl (by first | rfl | simp [idsV, idsC]) (by simp) (by simp) ?_
 intro md' ow; have w := ow.w; have w0 := ow.w0; have fz : md'.fz = false := ow.fz
 (have F := an6 @yD @yF @yA @yB @yE @totN_nil; (repeat' (first | refine' dA37 | ((with_reducible apply EvO.call (vs := ?_)); exact rfl; exact rfl; exact dE8; (with_reducible apply Cal.hd (ms := []) (p := ?_)); exact dE8) | ((with_reducible apply CalH.mk); intro hd; first | exact c45_B (k := k) hd (b := b) (l := l) | exact c45_nil hd | exact c46_nil hd | exact c46 hd) | fail)); all_goals clear F)
 all_goals first | (exfalso; omega) | exact ⟨rfl, rfl⟩
theorem yC : (type_of% @totN_nil) := @totN_nil
end Go.Proofs.YtdpaijnbikclgaaDoorB
