/- Part of the evaluator's contracts: del1. -/
import Derived.Test.YtdpaijnbikclgaaDoorFfail3
import Derived.Test.YtdpaijnbikclgaaDoorFslCell
namespace Go.Proofs.YtdpaijnbikclgaaDoorB
open Go Go.Proofs.YtdpaijnbikclgaaDoorE
set_option linter.unusedVariables false
set_option linter.unusedSectionVars false
set_option linter.unusedSimpArgs false
set_option maxHeartbeats 4000000
set_option maxRecDepth 20000
theorem stripCap (s : ByteArray) (nb : Nat) {S : Store} (h : S[nb]? = some ⟨1, [[(.v (.string (s)))]], 0, true⟩) : nb < S.length := (List.getElem?_eq_some_iff.1 h).1
theorem c70 {k : Nat} {md : Md} {S : Store} {vs : List A} {D : List Nat} {x : Cell} {s : ByteArray} {nb : Nat} (hd : dpArgs S [] vs = some ([.ag [(.v (.string (x.name))), (.v (.int .i64 (x.no))), (.v (.string (x.data))), (.v (.int .i64 (x.sum)))], .pt nb 0 0 1], D)) (hD : (D.all fun i => !([nb] : List Nat).contains i) = true := by first | rfl | simp) (hnb : S[nb]? = some ⟨1, [[(.v (.string (s)))]], 0, true⟩) (hk : 1 ≤ k := by omega) :
  Cal (run k) md 70 vs S (fun r S' => r = (.v (.bool (x.name.toList == s.toList))) ∧ S' = S) := by
 obtain ⟨k, rfl⟩ : ∃ j, k = j + 1 := ⟨k - 1, by omega⟩
 refine Cal.fn (n := 8) (rs := [.tmp 3]) (ids := [nb]) (D := D) (Xof_none rfl) g70 (by delta Tryd.f70; exact rfl) (by delta Tryd.f70; exact rfl) (by delta Tryd.f70; exact rfl) hd rfl (by first | rfl | simp [idsV, idsC]) hD (by simp) ?_
 intro md' ow; have w := ow.w; have w0 := ow.w0; have fz : md'.fz = false := ow.fz
 have hlt0 := stripCap s nb hnb
 (have F := an9 @yD @yF @yA @yB @yE @yC @hnb @hlt0 @List.getElem?_append_left.{0}; (repeat' (first | refine' dA44 | fail)); all_goals clear F)
 exact ⟨rfl, rfl⟩
def hitC (s : ByteArray) (x : Cell) : Bool := x.name.toList == s.toList
def flt (s : ByteArray) (l : List Cell) : List Cell := l.filter fun x => !hitC s x
def zc : List A := [.v (.string ⟨#[]⟩), (.v (.int .i64 (0))), .v (.string ⟨#[]⟩), (.v (.int .i64 (0)))]
theorem flt_le (s : ByteArray) (l : List Cell) : (flt s l).length ≤ l.length := List.length_filter_le _ _
theorem flt_s (s : ByteArray) (l : List Cell) {j : Nat} (h : j < l.length) : flt s (l.take (j + 1)) = flt s (l.take j) ++ (if hitC s l[j] then [] else [l[j]]) := by
 unfold flt
 rw [List.take_add_one, List.getElem?_eq_getElem h, List.filter_append]
 cases hb : hitC s l[j] <;> simp [hb]
theorem flt_none (s : ByteArray) (l : List Cell) (h : ∀ x ∈ l, hitC s x = false) : flt s l = l := by
 unfold flt
 rw [List.filter_eq_self]
 intro x hx; simp [h x hx]
def mid (s : ByteArray) (l : List Cell) (j : Nat) : List Cell := flt s (l.take j) ++ l.drop (flt s (l.take j)).length
theorem flt_t (s : ByteArray) (l : List Cell) {j : Nat} (h : j ≤ l.length) : (flt s (l.take j)).length ≤ j := by
 have := flt_le s (l.take j)
 simp at this; omega
theorem mid_len (s : ByteArray) (l : List Cell) {j : Nat} (h : j ≤ l.length) : (mid s l j).length = l.length := by
 have := flt_t s l h
 simp [mid]; omega
theorem mid_at (s : ByteArray) (l : List Cell) {j : Nat} (h : j < l.length) : ((mid s l j).map Cell.c)[j]? = some (Cell.c l[j]) := by
 have := flt_t s l (Nat.le_of_lt h)
 rw [List.getElem?_map, mid, List.getElem?_append_right this, List.getElem?_drop, show (flt s (l.take j)).length + (j - (flt s (l.take j)).length) = j by omega, List.getElem?_eq_getElem h]; rfl
theorem mid_hit (s : ByteArray) (l : List Cell) {j : Nat} (h : j < l.length) (hb : hitC s l[j] = true) : mid s l (j + 1) = mid s l j := by
 unfold mid; rw [flt_s s l h, if_pos hb, List.append_nil]
theorem mid_miss (s : ByteArray) (l : List Cell) {j : Nat} (h : j < l.length) (hb : hitC s l[j] = false) : ((mid s l j).map Cell.c).set (flt s (l.take j)).length (Cell.c l[j]) = (mid s l (j + 1)).map Cell.c := by
 have := flt_t s l (Nat.le_of_lt h)
 rw [← List.map_set]
 congr 1
 unfold mid
 rw [flt_s s l h, if_neg (by simp [hb]), List.set_append, if_neg (by omega), Nat.sub_self, List.drop_eq_getElem_cons (by omega), List.set_cons_zero, List.append_assoc, List.length_append]
 rfl
theorem flt_len_hit (s : ByteArray) (l : List Cell) {j : Nat} (h : j < l.length) (hb : hitC s l[j] = true) : (flt s (l.take (j + 1))).length = (flt s (l.take j)).length := by rw [flt_s s l h, if_pos hb, List.append_nil]
theorem flt_len_miss (s : ByteArray) (l : List Cell) {j : Nat} (h : j < l.length) (hb : hitC s l[j] = false) : (flt s (l.take (j + 1))).length = (flt s (l.take j)).length + 1 := by rw [flt_s s l h, if_neg (by simp [hb])]; simp
theorem mid_0 (s : ByteArray) (l : List Cell) {i : Nat} (h : i < l.length) (h0 : ∀ x ∈ l.take i, hitC s x = false) (h1 : hitC s l[i] = true) : flt s (l.take (i + 1)) = l.take i ∧ mid s l (i + 1) = l := by
 have e : flt s (l.take (i + 1)) = l.take i := by rw [flt_s s l h, if_pos h1, List.append_nil, flt_none s _ h0]
 refine ⟨e, ?_⟩
 unfold mid
 rw [e]
 have : (l.take i).length = i := by simp; omega
 rw [this, List.take_append_drop]
theorem idx_cases {α : Type} (p : α → Bool) (l : List α) : (idxI p l = -1 ∧ ∀ x ∈ l, p x = false) ∨ ∃ (i : Nat) (h : i < l.length), idxI p l = (i : Int) ∧ (∀ x ∈ l.take i, p x = false) ∧ p l[i] = true := by
 cases hf : l.findIdx? p with
 | none =>
  refine .inl ⟨by simp [idxI, hf], fun x hx => ?_⟩
  have := List.findIdx?_eq_none_iff.1 hf x hx
  simpa using this
 | some i =>
  obtain ⟨h, h1, h2⟩ := List.findIdx?_eq_some_iff_getElem.1 hf
  refine .inr ⟨i, h, by simp [idxI, hf], fun x hx => ?_, h1⟩
  obtain ⟨j, hj, rfl⟩ := List.mem_iff_getElem.1 hx
  have hji : j < i := by simp at hj; omega
  have := h2 j hji
  simpa using this
theorem rep_all (p : A → Bool) (n : Nat) (h : zc.all p = true) : rowsAll p (List.replicate n [.v (.string ⟨#[]⟩), (.v (.int .i64 (0))), .v (.string ⟨#[]⟩), (.v (.int .i64 (0)))]) = true := by
 unfold rowsAll
 rw [List.all_eq_true]
 intro r hr
 rw [List.eq_of_mem_replicate hr]; exact h
theorem clr_rows (a b : List Cell) (n : Nat) (h : a.length + b.length = n) (z : List A) : List.take a.length (List.map Cell.c (a ++ b)) ++ List.replicate (n - a.length) z ++ List.drop (a.length + (n - a.length)) (List.map Cell.c (a ++ b)) = a.map Cell.c ++ List.replicate (n - a.length) z := by
 rw [List.map_append, List.take_left' (by simp), List.drop_eq_nil_of_le (by simp; omega), List.append_nil]
theorem lp_set {K : Option (List Nat)} {ks : List Nat} {S : Store} {id : Nat} {o o' a b : Ob} {e : Env} (hK : K = some ks) (h1 : (ks.all fun t => lowV (S.length + 1) (e t)) = true) (h2 : rowsAll (okC (S.length + 1)) o'.rows = true) : lpG K (S.set id o ++ [a]) e (S.set id o' ++ [a, b]) = S.set id o' ++ [a] := by
 subst hK
 have hl : (S.set id o ++ [a]).length = S.length + 1 := by simp
 rw [lpG_of (by rw [hl]; exact h1) (fun i x hi hx => ?_)]
 ·rw [show S.set id o' ++ [a, b] = (S.set id o' ++ [a]) ++ [b] by simp]
  exact List.take_left' (by simp)
 ·rw [hl] at hi ⊢
  by_cases e1 : i < S.length
  ·rw [List.getElem?_append_left (by simpa using e1)] at hx ⊢
   by_cases e2 : i = id
   ·subst e2
    rw [List.getElem?_set_self e1] at hx
    injection hx with hx; subst hx; exact .inr h2
   ·rw [List.getElem?_set_ne (Ne.symm e2)] at hx ⊢
    exact .inl hx
  ·have : i = S.length := by omega
   subst this
   rw [List.getElem?_append_right (by simp)] at hx ⊢
   simp at hx ⊢
   exact .inl hx
theorem k69_5 (e : Env) : lpE (FI.K ⟨[true], false, [(5, [0, 1, 5, 6]), (1000, [0, 1]), (1001, [0, 1, 5]), (1002, [0, 1, 5, 12]), (1003, [4]), (1004, [0, 1, 5, 6]), (1005, [0, 1, 5, 6, 19]), (1006, [0, 1, 5, 6]), (1007, [0, 1, 5, 6, 7]), (1008, [0, 1, 5, 6, 7, 29]), (1009, [0, 1, 5, 6]), (1010, [0, 1, 5, 6]), (1011, [0, 5]), (1012, [4])]⟩ 5) e = mkE [(0, e 0), (1, e 1), (5, e 5), (6, e 6)] := rfl
theorem c69_strip {k : Nat} {md : Md} {S : Store} {vs : List A} {D : List Nat} {id nb : Nat} {l : List Cell} {s : ByteArray} (hd : dpArgs S [true] vs = some ([.sl id 0 l.length l.length, .fn 70 [.pt nb 0 0 1]], D)) (hD : (D.all fun i => !([id, nb] : List Nat).contains i) = true := by first | rfl | simp) (hn : l.length ≤ 1048576 := by first | assumption | omega | with_reducible rfl) (hid : S[id]? = some ⟨4, l.map Cell.c, 0, false⟩) (hw : md.wr id = true) (hnb : S[nb]? = some ⟨1, [[(.v (.string (s)))]], 0, true⟩) (hk : 9 ≤ k := by omega) :
  Cal (run k) md 69 vs S (fun r S' => r = .sl id 0 (flt s l).length l.length ∧ S' = S.set id ⟨4, (flt s l).map Cell.c ++ List.replicate (l.length - (flt s l).length) zc, 0, false⟩) := by
 obtain ⟨k, rfl⟩ : ∃ j, k = j + 1 := ⟨k - 1, by omega⟩
 refine Cal.fn (n := 42) (rs := [.tmp 4]) (ids := [id, nb]) (D := D) (Xof_none rfl) g69 (by delta Tryd.f69; exact rfl) (by delta Tryd.f69; exact rfl) (by delta Tryd.f69; exact rfl) hd rfl (by first | rfl | simp [idsV, idsC]) hD (by simp) ?_
 intro md' ow; have w := ow.w; have w0 := ow.w0; have fz : md'.fz = false := ow.fz
 have hlt0 := (List.getElem?_eq_some_iff.1 hid).1
 have hlt1 := stripCap s nb hnb
 have wi := ow.old id (by simp) hw
 have hne : nb ≠ id := fun e => by rw [e, hid] at hnb; injection hnb with hnb; injection hnb with h1; omega
 have hmu1 : ∀ T : Store, ((([.pt nb 0 0 1] : List A).flatMap idsC).all fun id => decide ((S ++ T).length ≤ id) || muOk (S ++ T) (S ++ T).length id) = true := fun T => by simp [idsC, muOk, app_get hnb T, rowsAll, okC]
 have hmf1 : ∀ T : Store, ((([.pt nb 0 0 1] : List A).flatMap idsC).all fun id => muFlat (S ++ T) id) = true := fun T => by simp [idsC, muFlat, app_get hnb T, rowsAll, noRoC]
 have hD1 : (([id] : List Nat).all fun i => !((([.pt nb 0 0 1] : List A).flatMap idsC : List Nat)).contains i) = true := by simp [idsC, Ne.symm hne]
 rcases idx_cases (hitC s) l with ⟨hidx, hno⟩ | ⟨i0, hi0, hidx, hbe, hhit⟩
 ·(have F := an13 @yD @yF @yA @yB @yE @yC @hlt0 @hlt1 @hid @hnb @hw @hidx @List.getElem?_append_left.{0}; (repeat' (first | refine' dA45 | ((with_reducible apply EvO.call (vs := ?_)); exact rfl; exact rfl; exact dE11; (with_reducible apply Cal.hd (ms := []) (p := ?_)); exact dE11) | exact dC4 | fail)); all_goals clear F)
  rw [flt_none s l hno, Nat.sub_self, List.replicate_zero, List.append_nil]
  exact ⟨rfl, (set_self hid).symm⟩
 ·(have F := an13 @yD @yF @yA @yB @yE @yC @hlt0 @hlt1 @hid @hnb @hw @hidx @List.getElem?_append_left.{0}; (repeat' (first | refine' dA45 | ((with_reducible apply EvO.call (vs := ?_)); exact rfl; exact rfl; exact dE11; (with_reducible apply Cal.hd (ms := []) (p := ?_)); exact dE11) | exact dC4 | fail)); all_goals clear F)
  have e0 := mid_0 s l hi0 hbe hhit
  have e1 : (flt s (l.take (i0 + 1))).length = i0 := by rw [e0.1]; simp; omega
  apply Ev.loop (fun j e S' => ∃ jj : Nat, e = mkE [(0, .sl id 0 l.length l.length), (1, .fn 70 [.pt nb 0 0 1]), (5, (.v (.int .i64 (((flt s (l.take jj)).length : Int))))), (6, (.v (.int .i64 ((jj : Int)))))] ∧ S' = S.set id ⟨4, (mid s l jj).map Cell.c, 0, false⟩ ++ [⟨4, [], 0, false⟩] ∧ j = l.length - jj ∧ (i0 + 1 ≤ jj ∧ jj ≤ l.length))
  ·exact ⟨i0 + 1, (k69_5 _).trans dN15, (by (rw [e0.2, set_self hid])), rfl, (by omega)⟩
  rintro j e S' ⟨jj, rfl, rfl, hj, hj1⟩
  have hml := mid_len s l hj1.2
  have hft := flt_t s l hj1.2
  by_cases hli : (jj : Int) < (l.length : Int)
  ·have hlt : jj < l.length := by omega
   have hat := mid_at s l hlt
   simp only [Cell.c] at hat
   cases hb : hitC s l[jj] with
   | true =>
    have hbn : (l[jj].name.toList == s.toList) = true := hb
    (have F := an21 @yD @yF @yA @yB @yE @yC @hli @wi @hlt0 @hlt1 @hat @hml @hne @hnb @hbn @List.length_set.{0} @List.getElem?_append_left.{0} @List.set_append_left.{0} @List.getElem?_set_self.{0} @List.getElem?_set_ne.{0} @List.set_set.{0}; (repeat' (first | refine' dA46 | ((with_reducible apply EvO.call (vs := ?_)); exact rfl; exact rfl; exact dE12; (with_reducible apply Cal.hd (ms := []) (p := ?_)); exact dE12) | exact dC5 | fail)); all_goals clear F)
    apply roundQ_m; refine ⟨_, ⟨jj + 1, (k69_5 _).trans (by simp (disch := first | (intros; contradiction) | (as_aux_lemma => omega) | (as_aux_lemma => (simp only [LEN2]; first | done | omega)) | (as_aux_lemma => (simp only [LEN]; try omega))) only [flt_len_hit s l hlt hb, EV, TT, w, w0, fz, yD, yF, yA, yB, yE, yC, Nat.reduceEqDiff, Nat.reduceBeqDiff, Nat.reduceAdd, Nat.reduceMul, Nat.reduceLeDiff, Nat.reduceLT, reduceCtorEq, Int.reduceEq, Int.reduceNeg]; first | done | rfl | (congr <;> omega)), ?_, rfl, ?_⟩, ?_⟩
    ·(rw [mid_hit s l hlt hb]; exact lp_set (show _ = some _ from rfl) (by simp [lowV, okC, mkE_at]; omega) (ok_Cell _ _))
    ·omega
    ·omega
   | false =>
    have hbn : (l[jj].name.toList == s.toList) = false := hb
    have hset := mid_miss s l hlt hb
    simp only [Cell.c] at hset
    have hfl : ((flt s (l.take jj)).length : Int) < (l.length : Int) := by omega
    (have F := an23 @yD @yF @yA @yB @yE @yC @hli @wi @hlt0 @hlt1 @hat @hml @hne @hnb @hbn @hset @hfl @List.length_set.{0} @List.getElem?_append_left.{0} @List.set_append_left.{0} @List.getElem?_set_self.{0} @List.getElem?_set_ne.{0} @List.set_set.{0}; (repeat' (first | refine' dA46 | ((with_reducible apply EvO.call (vs := ?_)); exact rfl; exact rfl; exact dE12; (with_reducible apply Cal.hd (ms := []) (p := ?_)); exact dE12) | exact dC5 | fail)); all_goals clear F)
    apply roundQ_m; refine ⟨_, ⟨jj + 1, (k69_5 _).trans (by simp (disch := first | (intros; contradiction) | (as_aux_lemma => omega) | (as_aux_lemma => (simp only [LEN2]; first | done | omega)) | (as_aux_lemma => (simp only [LEN]; try omega))) only [flt_len_miss s l hlt hb, Int.natCast_add, Int.natCast_one, EV, TT, w, w0, fz, yD, yF, yA, yB, yE, yC, Nat.reduceEqDiff, Nat.reduceBeqDiff, Nat.reduceAdd, Nat.reduceMul, Nat.reduceLeDiff, Nat.reduceLT, reduceCtorEq, Int.reduceEq, Int.reduceNeg]; first | done | rfl | (congr <;> omega)), ?_, rfl, ?_⟩, ?_⟩
    ·(exact lp_set (show _ = some _ from rfl) (by simp [lowV, okC, mkE_at]; omega) (ok_Cell _ _))
    ·omega
    ·omega
  ·obtain rfl : jj = l.length := by omega
   have hfe := flt_le s l
   have hma : mid s l l.length = flt s l ++ l.drop (flt s l).length := by unfold mid; rw [List.take_length]
   rw [List.take_length, hma]
   rw [hma] at hml
   have hfi : ((flt s l).length : Int) ≤ (l.length : Int) := by omega
   have hcr := clr_rows (flt s l) (l.drop (flt s l).length) l.length (by simp; omega) [.v (.string ⟨#[]⟩), (.v (.int .i64 (0))), .v (.string ⟨#[]⟩), (.v (.int .i64 (0)))]
   have ho1 := fun m => rep_all (okC m) (l.length - (flt s l).length) rfl
   have ho2 := rep_all noRoC (l.length - (flt s l).length) rfl
   (have F := an24 @yD @yF @yA @yB @yE @yC @hcr @ho1 @ho2 @hli @hfe @hfi @wi @hlt0 @hlt1 @hml @hne @hnb @List.length_set.{0} @List.getElem?_append_left.{0} @List.set_append_left.{0} @List.getElem?_set_self.{0} @List.getElem?_set_ne.{0} @List.set_set.{0}; (repeat' (first | refine' dA46 | ((with_reducible apply EvO.call (vs := ?_)); exact rfl; exact rfl; exact dE12; (with_reducible apply Cal.hd (ms := []) (p := ?_)); exact dE12) | ((with_reducible apply CalH.mk); intro hd; first | exact c87 hd (hmu := dH2) (hmf := dH2)) | fail)); all_goals clear F)
   exact ⟨rfl, rfl⟩
end Go.Proofs.YtdpaijnbikclgaaDoorB
