/- Part of the evaluator's contracts: clu1. -/
import Derived.Test.YtdpaijnbikclgaaDoorFnode0
import Derived.Test.YtdpaijnbikclgaaDoorFplace
import Derived.Test.YtdpaijnbikclgaaDoorFcmp
import Derived.Test.YtdpaijnbikclgaaDoorFbase
namespace Go.Proofs.YtdpaijnbikclgaaDoorB
open Go Go.Proofs.YtdpaijnbikclgaaDoorE
set_option linter.unusedVariables false
set_option linter.unusedSectionVars false
set_option linter.unusedSimpArgs false
set_option maxHeartbeats 4000000
set_option maxRecDepth 20000
def leadP {α : Type} (p : α → Bool) : List α → Nat
 | [] => 0
 | a :: l => if p a = true then leadP p l + 1 else 0
theorem leadP_le {α : Type} (p : α → Bool) : ∀ l : List α, leadP p l ≤ l.length
 | [] => Nat.le_refl _
 | b :: l => by simp only [leadP]; split; (have := leadP_le p l; simp; omega); (simp)
theorem leadP_in {α : Type} (p : α → Bool) : ∀ (l : List α) (j : Nat) (x : α), j < leadP p l → l[j]? = some x → p x = true
 | [], j, x, h, hx => by simp [leadP] at h
 | b :: l, j, x, h, hx => by
  simp only [leadP] at h
  split at h
  ·rename_i e
   cases j with
   | zero => simp at hx; exact hx ▸ e
   | succ j => exact leadP_in p l j x (by omega) (by simpa using hx)
  ·omega
theorem leadP_out {α : Type} (p : α → Bool) : ∀ (l : List α) (x : α), l[leadP p l]? = some x → p x = false
 | [], x, h => by simp [leadP] at h
 | b :: l, x, h => by
  simp only [leadP] at h
  split at h
  ·exact leadP_out p l x (by simpa using h)
  ·rename_i e; simp at h; exact h ▸ (by simpa using e)
def lessN (a b : ByteArray) : Bool := Op.bytesLess a.toList b.toList
def lessC (a b : Cell) : Bool := lessN a.name b.name || (a.name.toList == b.name.toList && decide (a.no < b.no))
def posQ (q : List Object) (s : ByteArray) : Nat := leadP (fun o => lessN o.name s) q
def hasB (q : List Object) (s : ByteArray) : Bool := match q[posQ q s]? with | some o => o.name.toList == s.toList | none => false
def shp (kk mm : Int) : Bool := inB kk 1 8 && inB mm 1 6
structure ObP (kk : Int) (q : List Object) (i : Nat) (h : i < q.length) : Prop where
 n : isNm q[i].name = true
 s : 0 ≤ q[i].size ∧ q[i].size ≤ 60
 z : q[i].size ≤ kk * 40
 o : ∀ h0 : 0 < i, lessN q[i - 1].name q[i].name = true
structure CeP (kk mm : Int) (n : Nat) (q : List Object) (c : List Cell) (a : Nat) (i : Nat) (h : i < c.length) : Prop where
 has : hasB q c[i].name = true
 no : 0 ≤ c[i].no ∧ c[i].no ≤ kk + mm - 1
 pl : plc c[i].name c[i].no n = a
 dt : (c[i].data.size : Int) ≤ 40
 sm : 0 ≤ c[i].sum ∧ c[i].sum ≤ 65535
 o : ∀ h0 : 0 < i, lessC c[i - 1] c[i] = true
structure GoodP (kk mm : Int) (l : List (List Cell)) (q : List Object) : Prop where
 shape : shp kk mm = true
 nodes : kk + mm ≤ l.length ∧ (l.length : Int) ≤ 12
 objs : q.length ≤ 8
 ob : ∀ i (h : i < q.length), ObP kk q i h
 few : ∀ a (h : a < l.length), l[a].length ≤ 60
 ce : ∀ a (h : a < l.length) i (hi : i < l[a].length), CeP kk mm l.length q l[a] a i hi
open Classical in
noncomputable def goodC (kk mm : Int) (l : List (List Cell)) (q : List Object) : Bool := decide (GoodP kk mm l q)
theorem goodC_t {kk mm : Int} {l : List (List Cell)} {q : List Object} (h : GoodP kk mm l q) : goodC kk mm l q = true := by simp [goodC, h]
theorem goodC_f {kk mm : Int} {l : List (List Cell)} {q : List Object} (h : ¬ GoodP kk mm l q) : goodC kk mm l q = false := by simp [goodC, h]
theorem sorted_lt {kk : Int} {q : List Object} (h : ∀ i (hi : i < q.length), ObP kk q i hi) : ∀ (d a : Nat) (hb : a + d + 1 < q.length), lessN (q[a]'(by omega)).name (q[a + d + 1]'hb).name = true
 | 0, a, hb => (h (a + 1) hb).o (by omega)
 | d + 1, a, hb => less_trans (sorted_lt h d a (by omega)) ((h (a + (d + 1) + 1) hb).o (by omega))
theorem sorted {kk : Int} {q : List Object} (h : ∀ i (hi : i < q.length), ObP kk q i hi) {a b : Nat} (hab : a < b) (hb : b < q.length) : lessN (q[a]'(by omega)).name q[b].name = true := by
 obtain ⟨d, rfl⟩ : ∃ d, b = a + d + 1 := ⟨b - a - 1, by omega⟩
 exact sorted_lt h d a hb
theorem c25 {k : Nat} {md : Md} {S : Store} {vs : List A} {D : List Nat} {kk mm : Int} (hd : dpArgs S [] vs = some ([(.v (.int .i64 (kk))), (.v (.int .i64 (mm)))], D))  (hk : 2 ≤ k := by omega) :
  Cal (run k) md 25 vs S (fun r S' => r = (.v (.bool (shp kk mm))) ∧ S' = S) := by
 obtain ⟨k, rfl⟩ : ∃ j, k = j + 1 := ⟨k - 1, by omega⟩
 refine Cal.fn (n := 11) (rs := [.tmp 4]) (ids := []) (D := D) (Xof_none rfl) g25 (by delta Tryd.f25; exact rfl) (by delta Tryd.f25; exact rfl) (by delta Tryd.f25; exact rfl) hd rfl (by first | rfl | simp [idsV, idsC]) (by simp) (by simp) ?_
 intro md' ow; have w := ow.w; have w0 := ow.w0; have fz : md'.fz = false := ow.fz
 by_cases h1 : inB kk 1 8 = true
 ·(have F := an6 @yD @yF @yA @yB @yE @h1; (repeat' (first | refine' dA28 | ((with_reducible apply EvO.call (vs := ?_)); exact rfl; exact rfl; exact dE8; (with_reducible apply Cal.hd (ms := []) (p := ?_)); exact dE8) | ((with_reducible apply CalH.mk); intro hd; first | exact c26 hd) | fail)); all_goals clear F)
  all_goals (refine ⟨?_, rfl⟩; simp only [resA, shp, h1, Bool.true_and])
 ·have h1 : inB kk 1 8 = false := by simpa using h1
  (have F := an6 @yD @yF @yA @yB @yE @h1; (repeat' (first | refine' dA28 | ((with_reducible apply EvO.call (vs := ?_)); exact rfl; exact rfl; exact dE8; (with_reducible apply Cal.hd (ms := []) (p := ?_)); exact dE8) | ((with_reducible apply CalH.mk); intro hd; first | exact c26 hd) | fail)); all_goals clear F)
  all_goals (refine ⟨?_, rfl⟩; simp only [resA, shp, h1, Bool.false_and])
theorem c33 {k : Nat} {md : Md} {S : Store} {vs : List A} {D : List Nat} {kk mm : Int} (hd : dpArgs S [] vs = some ([(.v (.int .i64 (kk))), (.v (.int .i64 (mm)))], D))  (hk : 2 ≤ k := by omega) :
  Cal (run k) md 33 vs S (fun r S' => r = (.v (.bool (shp kk mm))) ∧ S' = S) := by
 obtain ⟨k, rfl⟩ : ∃ j, k = j + 1 := ⟨k - 1, by omega⟩
 refine Cal.fn (n := 11) (rs := [.tmp 4]) (ids := []) (D := D) (Xof_none rfl) g33 (by delta Tryd.f33; exact rfl) (by delta Tryd.f33; exact rfl) (by delta Tryd.f33; exact rfl) hd rfl (by first | rfl | simp [idsV, idsC]) (by simp) (by simp) ?_
 intro md' ow; have w := ow.w; have w0 := ow.w0; have fz : md'.fz = false := ow.fz
 by_cases h1 : inB kk 1 8 = true
 ·(have F := an6 @yD @yF @yA @yB @yE @h1; (repeat' (first | refine' dA28 | ((with_reducible apply EvO.call (vs := ?_)); exact rfl; exact rfl; exact dE8; (with_reducible apply Cal.hd (ms := []) (p := ?_)); exact dE8) | ((with_reducible apply CalH.mk); intro hd; first | exact c34 hd) | fail)); all_goals clear F)
  all_goals (refine ⟨?_, rfl⟩; simp only [resA, shp, h1, Bool.true_and])
 ·have h1 : inB kk 1 8 = false := by simpa using h1
  (have F := an6 @yD @yF @yA @yB @yE @h1; (repeat' (first | refine' dA28 | ((with_reducible apply EvO.call (vs := ?_)); exact rfl; exact rfl; exact dE8; (with_reducible apply Cal.hd (ms := []) (p := ?_)); exact dE8) | ((with_reducible apply CalH.mk); intro hd; first | exact c34 hd) | fail)); all_goals clear F)
  all_goals (refine ⟨?_, rfl⟩; simp only [resA, shp, h1, Bool.false_and])
theorem c30 {k : Nat} {md : Md} {S : Store} {vs : List A} {D : List Nat} {a b : Cell} (hd : dpArgs S [] vs = some ([.ag [(.v (.string (a.name))), (.v (.int .i64 (a.no))), (.v (.string (a.data))), (.v (.int .i64 (a.sum)))], .ag [(.v (.string (b.name))), (.v (.int .i64 (b.no))), (.v (.string (b.data))), (.v (.int .i64 (b.sum)))]], D))  (hk : 1 ≤ k := by omega) :
  Cal (run k) md 30 vs S (fun r S' => r = (.v (.bool (lessC a b))) ∧ S' = S) := by
 obtain ⟨k, rfl⟩ : ∃ j, k = j + 1 := ⟨k - 1, by omega⟩
 refine Cal.fn (n := 24) (rs := [.tmp 4]) (ids := []) (D := D) (Xof_none rfl) g30 (by delta Tryd.f30; exact rfl) (by delta Tryd.f30; exact rfl) (by delta Tryd.f30; exact rfl) hd rfl (by first | rfl | simp [idsV, idsC]) (by simp) (by simp) ?_
 intro md' ow; have w := ow.w; have w0 := ow.w0; have fz : md'.fz = false := ow.fz
 cases h1 : Op.bytesLess a.name.toList b.name.toList with
 | true =>
  (have F := an6 @yD @yF @yA @yB @yE @h1; (repeat' (first | refine' dA34 | fail)); all_goals clear F)
  all_goals (refine ⟨?_, rfl⟩; simp only [resA, lessC, lessN, h1, Bool.true_or])
 | false =>
  cases h2 : (a.name.toList == b.name.toList) with
  | true =>
   (have F := an7 @yD @yF @yA @yB @yE @h1 @h2; (repeat' (first | refine' dA34 | fail)); all_goals clear F)
   all_goals (refine ⟨?_, rfl⟩; simp only [resA, lessC, lessN, h1, h2, Bool.false_or, Bool.true_and])
  | false =>
   (have F := an7 @yD @yF @yA @yB @yE @h1 @h2; (repeat' (first | refine' dA34 | fail)); all_goals clear F)
   all_goals (refine ⟨?_, rfl⟩; simp only [resA, lessC, lessN, h1, h2, Bool.false_or, Bool.false_and])
def cmpC (a b : Cell) : Int := orI (Go.Lib.compareBytes a.name.data.toList b.name.data.toList) (cmpI a.no b.no)
theorem cmpC_iff (a b : Cell) : (0 ≤ cmpC a b) ↔ lessC a b = false := by -- 59
 unfold cmpC orI cmpI lessC lessN
 rw [cmp_less, toL, toL]
 cases h1 : Op.bytesLess a.name.data.toList b.name.data.toList with
 | true => simp
 | false =>
  by_cases h2 : a.name.data.toList = b.name.data.toList
  ·rw [h2]
   by_cases h3 : a.no < b.no
   ·simp [h3]
   ·by_cases h4 : b.no < a.no <;> simp [h3, h4]
  ·have h3 : ¬ a.name.data = b.name.data := fun e => h2 (by rw [e])
   simp [h2, h3]
theorem c38 {k : Nat} {md : Md} {S : Store} {vs : List A} {D : List Nat} {a b : Cell} (hd : dpArgs S [] vs = some ([.ag [(.v (.string (a.name))), (.v (.int .i64 (a.no))), (.v (.string (a.data))), (.v (.int .i64 (a.sum)))], .ag [(.v (.string (b.name))), (.v (.int .i64 (b.no))), (.v (.string (b.data))), (.v (.int .i64 (b.sum)))]], D))  (hk : 4 ≤ k := by omega) :
  Cal (run k) md 38 vs S (fun r S' => r = (.v (.int .i64 (cmpC a b))) ∧ S' = S) := by
 obtain ⟨k, rfl⟩ : ∃ j, k = j + 1 := ⟨k - 1, by omega⟩
 refine Cal.fn (n := 17) (rs := [.tmp 4]) (ids := []) (D := D) (Xof_none rfl) g38 (by delta Tryd.f38; exact rfl) (by delta Tryd.f38; exact rfl) (by delta Tryd.f38; exact rfl) hd rfl (by first | rfl | simp [idsV, idsC]) (by simp) (by simp) ?_
 intro md' ow; have w := ow.w; have w0 := ow.w0; have fz : md'.fz = false := ow.fz
 (have F := an5 @yD @yF @yA @yB @yE; (repeat' (first | refine' dA35 | exact c59 | ((with_reducible first | apply EvO.call (vs := ?_) | apply EvT.call (vs := ?_)); exact rfl; exact rfl; exact dE8; first | exact c59 | ((with_reducible apply Cal.hd (ms := []) (p := ?_)); exact dE8)) | ((with_reducible apply CalH.mk); intro hd; first | exact c61 hd | exact c60 hd) | fail)); all_goals clear F)
 all_goals exact ⟨rfl, rfl⟩
end Go.Proofs.YtdpaijnbikclgaaDoorB
