/- Part of the evaluator's contracts: fail4. -/
import Derived.Test.YtdpaijnbikclgaaDoorFfail3
import Derived.Test.YtdpaijnbikclgaaDoorFclu4
import Derived.Test.YtdpaijnbikclgaaDoorFclu5
import Derived.Test.YtdpaijnbikclgaaDoorFbase
import Derived.Test.YtdpaijnbikclgaaDoorFnodeO
namespace Go.Proofs.YtdpaijnbikclgaaDoorB
open Go Go.Proofs.YtdpaijnbikclgaaDoorE
set_option linter.unusedVariables false
set_option linter.unusedSectionVars false
set_option linter.unusedSimpArgs false
set_option maxHeartbeats 4000000
set_option maxRecDepth 20000
theorem Kp.kept {D : List Nat} {S S₁ S₂ : Store} (h : Kp D S.length S₁ S₂) (k : Kept S S₁) : Kept S S₂ := ⟨by rw [h.len]; exact k.1, fun j hj => (h.old hj).trans (k.2 j hj)⟩
theorem nr_rowsK (ids : Nat → Option Nat) (l : List (List Cell)) : rowsAll noRoC (rowsK ids l) = true := by
 unfold rowsAll rowsK
 rw [List.all_eq_true]
 intro r hr
 obtain ⟨i, hi, rfl⟩ := List.mem_map.1 hr
 cases e : ids i <;> simp [rowK, noRoC]
theorem Clu.kp {D : List Nat} {S₁ S₂ : Store} {n m id id2 : Nat} {ids : Nat → Option Nat} {l : List (List Cell)} {q : List Object} (h : Clu S₁ m id id2 ids l q) (hk : Kp D n S₁ S₂) : Clu S₂ m id id2 ids l q :=
 ⟨⟨hk.get h.n.ob (nr_rowsK _ _), fun i hi k hk' => hk.get (h.n.inn i hi k hk') (nr_Cell _), h.n.nil, h.n.ne, h.n.ap⟩, hk.get h.o (nr_Object _), h.d, h.e, h.m⟩
theorem Clu.drop {S S' : Store} {m m' id id2 : Nat} {ids : Nat → Option Nat} {l : List (List Cell)} {q : List Object} (h : Clu S m id id2 ids l q) {n : Nat} (hn : n < l.length) (hm : m' ≤ m)
  (h1 : S'[id]? = some ⟨1, (rowsK ids l).set n [.v (.slice none 0 0)], 0, false⟩) (h3 : ∀ j, m ≤ j → j < S.length → j ≠ id → S'[j]? = S[j]?) : Clu S' m' id id2 (fun j => if j = n then none else ids j) (l.set n []) q := by
 have hid := h.n.id_lt
 have h0 := h.n.drop (S' := S.set id ⟨1, (rowsK ids l).set n [.v (.slice none 0 0)], 0, false⟩) hn (by rw [List.getElem?_set_self hid]) (fun j o hj ho => by rw [List.getElem?_set_ne (Ne.symm hj)]; exact ho)
 have hl : ∀ {i : Nat}, i < (l.set n []).length → i < l.length := fun hi => by simpa using hi
 have un : ∀ {i k : Nat}, (if i = n then none else ids i) = some k → ids i = some k := fun {i k} hk => by
  split at hk
  ·cases hk
  ·exact hk
 refine ⟨h0.mono (h1.trans (by rw [List.getElem?_set_self hid])) fun i k hi hk => ?_, (h3 id2 h.m.2.1 h.id2_lt h.d).trans h.o, h.d, fun i k hi hk => h.e i k (hl hi) (un hk), by have := h.m.1; omega, by have := h.m.2.1; omega, fun i k hi hk => by have := h.m.2.2 i k (hl hi) (un hk); omega⟩
 have hne : k ≠ id := fun e => h.n.ne i (hl hi) (e ▸ un hk)
 rw [List.getElem?_set_ne (Ne.symm hne)]
 exact h3 k (h.m.2.2 i k (hl hi) (un hk)) (h.n.in_lt (hl hi) (un hk)) hne
theorem nodes_lt {kk mm : Int} {l : List (List Cell)} {q : List Object} (h : goodC kk mm l q = true) : 0 < l.length := by
 by_cases hG : GoodP kk mm l q
 ·have h1 := hG.nodes.1
  have h2 := hG.shape
  simp [shp, inB] at h2
  omega
 ·rw [goodC_f hG] at h; cases h
theorem c13_no {k : Nat} {md : Md} {S : Store} {vs : List A} {D : List Nat} {kk mm : Int} {l : List (List Cell)} {q : List Object} {n : Int} (hd : dpArgs S [] vs = some ([.ag [(.v (.int .i64 (kk))), (.v (.int .i64 (mm))), .ro 1 (l.map nodeC), .ro 2 (q.map Object.c)], (.v (.int .i64 (n)))], D)) (hg : (goodC kk mm l q && inB n 0 ((l.length : Int) - 1)) = false := by first | assumption | omega | with_reducible rfl) (hn : l.length ≤ 1048576 := by first | assumption | omega | with_reducible rfl) (hq : q.length ≤ 1048576 := by first | assumption | omega | with_reducible rfl) (hcs : ∀ c ∈ l, c.length ≤ 1048576 := by first | assumption | omega | with_reducible rfl) (hns : ∀ c ∈ l, ∀ x ∈ c, x.name.size ≤ 1048576 := by first | assumption | omega | with_reducible rfl) (hqs : ∀ o ∈ q, o.name.size ≤ 9223372036854775807 := by first | assumption | omega | with_reducible rfl) (hk : 4 ≤ k := by omega) :
  Cal (run k) md 13 vs S (fun r S' => r = .tu [.ag [(.v (.int .i64 (0))), (.v (.int .i64 (0))), .v (.slice none 0 0), .v (.slice none 0 0)], (.v (.bool (false)))] ∧ Kept S S') := by
 obtain ⟨k, rfl⟩ : ∃ j, k = j + 1 := ⟨k - 1, by omega⟩
 refine Cal.fnN (n := 27) (rs := [.cell 4 31, .tmp 5]) (D := D) (Xof_none rfl) g13 (by delta Tryd.f13; exact rfl) (by delta Tryd.f13; exact rfl) (by delta Tryd.f13; exact rfl) hd rfl (by first | exact .inr (by assumption) | exact .inl rfl | exact .inl (by simp [idsV, idsC])) (by simp) ?_
 intro md' ow; have w := ow.w; have w0 := ow.w0; have fz : md'.fz = false := ow.fz
 generalize hgg : goodC kk mm l q = g at hg
 cases g
 ·repeat' (first | ((with_reducible apply EvO.off); exact rfl; exact rfl) | ((first | ((with_reducible apply EvO.call (vs := ?_)); exact rfl; exact rfl) | (with_reducible apply Cal.hd (ms := []) (p := ?_)) | ((with_reducible refine EvO.c1 (a := ?_) (S' := ?_) ?_ ?_ ?_); rotate_left 2; exact rfl) | ((with_reducible refine EvO.c0 (a := ?_) (S' := ?_) ?_ ?_); rotate_left 2) | ((with_reducible apply EvO.cons); exact rfl) | ((with_reducible apply EvO.guard); exact rfl; exact rfl) | ((with_reducible refine Ev.cond (t := ?_) ?_ ?_ ?_); rotate_left) | skip); (focus ((with_reducible refine Eq.trans ?_ rfl); simp (disch := first | (intros; contradiction) | (as_aux_lemma => first | omega | (simp only [LEN2]; try omega) | (simp only [LEN]; try omega))) only [EV, TT, w, w0, fz, yD, yF, yA, yB, yE, yC, hgg, Nat.reduceEqDiff, Nat.reduceBeqDiff, Nat.reduceAdd, Nat.reduceMul, Nat.reduceLeDiff, Nat.reduceLT, reduceCtorEq, Int.reduceEq, Int.reduceNeg, FIN, DP]; first | done | exact rfl)); try exact rfl) | ((with_reducible apply CalH.mk); intro hd; first | exact c9 hd | exact c26 hd | exact c41 hd) | (with_reducible (first | rintro r S' ⟨rfl, rfl⟩ | rintro r S' ⟨id, ids, id2, rfl, hC, hall, hold⟩); refine ⟨_, rfl, ?_⟩) | ((with_reducible refine Ev.regionH ?_); intro H) | ((with_reducible apply regH_k); exact KIs.mk rfl; (focus ((with_reducible apply EnvIs.mk); simp only [SE, Nat.reduceEqDiff, Nat.reduceAdd, reduceCtorEq]; first | done | exact rfl)); clear H) | exact KIs.mk rfl | (with_reducible first | apply Ev.seq | apply EvO.nil | apply zA | apply Ev.ret | apply zB | apply Ev.skip) | ((with_reducible refine endN_rT (vs := ?_) ?_ ?_); rotate_left) | (intro (c' : Bool) hc; cases c' <;> first | (cases hc; done) | (try simp only [HC, inB_it, inB_if] at hc)) | (intro hc; first | (cases hc; done) | (try simp only [HC, inB_it, inB_if] at hc)) | fail)
  exact ⟨.inr rfl, fun S₂ hk => ⟨rfl, Kp.kept hk (Kept.app _ _)⟩⟩
 ·simp only [Bool.true_and] at hg
  repeat' (first | ((with_reducible apply EvO.off); exact rfl; exact rfl) | ((first | ((with_reducible apply EvO.call (vs := ?_)); exact rfl; exact rfl) | (with_reducible apply Cal.hd (ms := []) (p := ?_)) | ((with_reducible refine EvO.c1 (a := ?_) (S' := ?_) ?_ ?_ ?_); rotate_left 2; exact rfl) | ((with_reducible refine EvO.c0 (a := ?_) (S' := ?_) ?_ ?_); rotate_left 2) | ((with_reducible apply EvO.cons); exact rfl) | ((with_reducible apply EvO.guard); exact rfl; exact rfl) | ((with_reducible refine Ev.cond (t := ?_) ?_ ?_ ?_); rotate_left) | skip); (focus ((with_reducible refine Eq.trans ?_ rfl); simp (disch := first | (intros; contradiction) | (as_aux_lemma => first | omega | (simp only [LEN2]; try omega) | (simp only [LEN]; try omega))) only [EV, TT, w, w0, fz, yD, yF, yA, yB, yE, yC, hgg, hg, Nat.reduceEqDiff, Nat.reduceBeqDiff, Nat.reduceAdd, Nat.reduceMul, Nat.reduceLeDiff, Nat.reduceLT, reduceCtorEq, Int.reduceEq, Int.reduceNeg, FIN, DP]; first | done | exact rfl)); try exact rfl) | ((with_reducible apply CalH.mk); intro hd; first | exact c9 hd | exact c26 hd | exact c41 hd) | (with_reducible (first | rintro r S' ⟨rfl, rfl⟩ | rintro r S' ⟨id, ids, id2, rfl, hC, hall, hold⟩); refine ⟨_, rfl, ?_⟩) | ((with_reducible refine Ev.regionH ?_); intro H) | ((with_reducible apply regH_k); exact KIs.mk rfl; (focus ((with_reducible apply EnvIs.mk); simp only [SE, Nat.reduceEqDiff, Nat.reduceAdd, reduceCtorEq]; first | done | exact rfl)); clear H) | exact KIs.mk rfl | (with_reducible first | apply Ev.seq | apply EvO.nil | apply zA | apply Ev.ret | apply zB | apply Ev.skip) | ((with_reducible refine endN_rT (vs := ?_) ?_ ?_); rotate_left) | (intro (c' : Bool) hc; cases c' <;> first | (cases hc; done) | (try simp only [HC, inB_it, inB_if] at hc)) | (intro hc; first | (cases hc; done) | (try simp only [HC, inB_it, inB_if] at hc)) | fail)
  exact ⟨.inr rfl, fun S₂ hk => ⟨rfl, Kp.kept hk (Kept.app _ _)⟩⟩
theorem c13_ok {k : Nat} {md : Md} {S : Store} {vs : List A} {D : List Nat} {kk mm : Int} {l : List (List Cell)} {q : List Object} {n : Nat} (hd : dpArgs S [] vs = some ([.ag [(.v (.int .i64 (kk))), (.v (.int .i64 (mm))), .ro 1 (l.map nodeC), .ro 2 (q.map Object.c)], (.v (.int .i64 ((n : Int))))], D)) (hg : goodC kk mm l q = true := by first | assumption | omega | with_reducible rfl) (hi : n < l.length := by first | assumption | omega | with_reducible rfl) (hn : l.length ≤ 1048576 := by first | assumption | omega | with_reducible rfl) (hq : q.length ≤ 1048576 := by first | assumption | omega | with_reducible rfl) (hcs : ∀ c ∈ l, c.length ≤ 1048576 := by first | assumption | omega | with_reducible rfl) (hns : ∀ c ∈ l, ∀ x ∈ c, x.name.size ≤ 1048576 := by first | assumption | omega | with_reducible rfl) (hqs : ∀ o ∈ q, o.name.size ≤ 9223372036854775807 := by first | assumption | omega | with_reducible rfl) (hk : 4 ≤ k := by omega) :
  Cal (run k) md 13 vs S (fun r S' => ∃ id ids id2, r = .tu [.ag [(.v (.int .i64 (kk))), (.v (.int .i64 (mm))), .sl id 0 l.length l.length, .sl id2 0 q.length q.length], (.v (.bool (true)))] ∧ Clu S' S.length id id2 ids (l.set n []) q ∧ (∀ i, i < l.length → ((ids i).isSome = decide (i ≠ n))) ∧ Kept S S') := by
 obtain ⟨k, rfl⟩ : ∃ j, k = j + 1 := ⟨k - 1, by omega⟩
 refine Cal.fnN (n := 27) (rs := [.cell 4 31, .tmp 5]) (D := D) (Xof_none rfl) g13 (by delta Tryd.f13; exact rfl) (by delta Tryd.f13; exact rfl) (by delta Tryd.f13; exact rfl) hd rfl (by first | exact .inr (by assumption) | exact .inl rfl | exact .inl (by simp [idsV, idsC])) (by simp) ?_
 intro md' ow; have w := ow.w; have w0 := ow.w0; have fz : md'.fz = false := ow.fz
 have h0 := nodes_lt hg
 have hin : inB (n : Int) 0 ((l.length : Int) - 1) = true := by simp [inB]; omega
 repeat' (first | ((with_reducible apply EvO.off); exact rfl; exact rfl) | ((first | ((with_reducible apply EvO.call (vs := ?_)); exact rfl; exact rfl) | (with_reducible apply Cal.hd (ms := []) (p := ?_)) | ((with_reducible refine EvO.c1 (a := ?_) (S' := ?_) ?_ ?_ ?_); rotate_left 2; exact rfl) | ((with_reducible refine EvO.c0 (a := ?_) (S' := ?_) ?_ ?_); rotate_left 2) | ((with_reducible apply EvO.cons); exact rfl) | ((with_reducible apply EvO.guard); exact rfl; exact rfl) | ((with_reducible refine Ev.cond (t := ?_) ?_ ?_ ?_); rotate_left) | skip); (focus ((with_reducible refine Eq.trans ?_ rfl); simp (disch := first | (intros; contradiction) | (as_aux_lemma => first | omega | (simp only [LEN2]; try omega) | (simp only [LEN]; try omega))) only [EV, TT, w, w0, fz, yD, yF, yA, yB, yE, yC, hg, hin, Nat.reduceEqDiff, Nat.reduceBeqDiff, Nat.reduceAdd, Nat.reduceMul, Nat.reduceLeDiff, Nat.reduceLT, reduceCtorEq, Int.reduceEq, Int.reduceNeg, FIN, DP]; first | done | exact rfl)); try exact rfl) | ((with_reducible apply CalH.mk); intro hd; first | exact c9 hd | exact c26 hd | exact c41 hd) | (with_reducible (first | rintro r S' ⟨rfl, rfl⟩ | rintro r S' ⟨id, ids, id2, rfl, hC, hall, hold⟩); refine ⟨_, rfl, ?_⟩) | ((with_reducible refine Ev.regionH ?_); intro H) | ((with_reducible apply regH_k); exact KIs.mk rfl; (focus ((with_reducible apply EnvIs.mk); simp only [SE, Nat.reduceEqDiff, Nat.reduceAdd, reduceCtorEq]; first | done | exact rfl)); clear H) | exact KIs.mk rfl | (with_reducible first | apply Ev.seq | apply EvO.nil | apply zA | apply Ev.ret | apply zB | apply Ev.skip) | ((with_reducible refine endN_rT (vs := ?_) ?_ ?_); rotate_left) | (intro (c' : Bool) hc; cases c' <;> first | (cases hc; done) | (try simp only [HC, inB_it, inB_if] at hc)) | (intro hc; first | (cases hc; done) | (try simp only [HC, inB_it, inB_if] at hc)) | fail)
 have hC1 := hC
 have b0 := (hold.get ((get_len0 S _).trans rfl))
 have b1 := (hold.get ((get_len S _ 1).trans rfl))
 have hKS : Kept S S' := (Kept.app S _).trans hold
 have hm := hC.m
 simp only [List.length_append, List.length_cons, List.length_nil] at hm
 have hlt := hC.lt
 have hob := hC.n.ob
 unfold obK at hob
 have hrl := rowsK_len ids l
 have w1 : ∀ k, md'.wr (S'.length + k) = true := fun k => wr_of w (by have := hlt.1; omega)
 have w2 : md'.wr S'.length = true := wr_of w (by have := hlt.1; omega)
 have hwi : md'.wr id = true := wr_of w (by omega)
 have hni : (n : Int) < (l.length : Int) := by omega
 obtain ⟨k', hk'⟩ : ∃ k', ids n = some k' := by
  cases e : ids n with
  | none => exact absurd e (hall n hi)
  | some k' => exact ⟨k', rfl⟩
 have hg2 := rowsK_at ids l hi
 rw [hk'] at hg2
 simp only [rowK] at hg2
 repeat' (first | ((with_reducible apply EvO.off); exact rfl; exact rfl) | ((first | ((with_reducible apply EvO.call (vs := ?_)); exact rfl; exact rfl) | (with_reducible apply Cal.hd (ms := []) (p := ?_)) | ((with_reducible refine EvO.c1 (a := ?_) (S' := ?_) ?_ ?_ ?_); rotate_left 2; exact rfl) | ((with_reducible refine EvO.c0 (a := ?_) (S' := ?_) ?_ ?_); rotate_left 2) | ((with_reducible apply EvO.cons); exact rfl) | ((with_reducible apply EvO.guard); exact rfl; exact rfl) | ((with_reducible refine Ev.cond (t := ?_) ?_ ?_ ?_); rotate_left) | skip); (focus ((with_reducible refine Eq.trans ?_ rfl); simp (disch := first | (intros; contradiction) | (as_aux_lemma => first | omega | (simp only [LEN2]; try omega) | (simp only [LEN]; try omega))) only [EV, TT, w, w0, fz, yD, yF, yA, yB, yE, yC, b0, b1, hob, hrl, w1, w2, hwi, hni, hi, hg2, if_true, Option.map_some, List.getElem?_append_left, List.set_append_left, List.getElem?_set_self, List.getElem?_set_ne, List.set_set, List.length_set, Nat.reduceEqDiff, Nat.reduceBeqDiff, Nat.reduceAdd, Nat.reduceMul, Nat.reduceLeDiff, Nat.reduceLT, reduceCtorEq, Int.reduceEq, Int.reduceNeg, FIN, DP]; first | done | exact rfl)); try exact rfl) | ((with_reducible apply CalH.mk); intro hd; first | exact c9 hd | exact c26 hd | exact c41 hd) | (with_reducible (first | rintro r S' ⟨rfl, rfl⟩ | rintro r S' ⟨id, ids, id2, rfl, hC, hall, hold⟩); refine ⟨_, rfl, ?_⟩) | ((with_reducible refine Ev.regionH ?_); intro H) | ((with_reducible apply regH_k); exact KIs.mk rfl; (focus ((with_reducible apply EnvIs.mk); simp only [SE, Nat.reduceEqDiff, Nat.reduceAdd, reduceCtorEq]; first | done | exact rfl)); clear H) | exact KIs.mk rfl | (with_reducible first | apply Ev.seq | apply EvO.nil | apply zA | apply Ev.ret | apply zB | apply Ev.skip) | ((with_reducible refine endN_rT (vs := ?_) ?_ ?_); rotate_left) | (intro (c' : Bool) hc; cases c' <;> first | (cases hc; done) | (try simp only [HC, inB_it, inB_if] at hc)) | (intro hc; first | (cases hc; done) | (try simp only [HC, inB_it, inB_if] at hc)) | fail)
 refine ⟨.inr rfl, fun S₂ hk => ?_⟩
 have hq : ∀ j, j < S'.length → j ≠ S.length → j ≠ S.length + 1 → j ≠ id → ∀ o o' x (y : Ob), (((S'.set S.length o).set id x).set (S.length + 1) o')[j]? = S'[j]? := fun j h0 h1 h2 h3 o o' x y => by rw [List.getElem?_set_ne (Ne.symm h2), List.getElem?_set_ne (Ne.symm h3), List.getElem?_set_ne (Ne.symm h1)]
 refine ⟨id, (fun j => if j = n then none else ids j), id2, rfl, Clu.kp (hC1.drop hi (m' := S.length) (by simp) ?_ fun j h1 h2 h3 => hq j h2 (by simp at h1; omega) (by simp at h1; omega) h3 _ _ _ ⟨0, [], 0, false⟩) hk, fun i hil => ?_, Kp.kept hk ⟨by simp; have := hKS.1; omega, fun j hj => (hq j (by have := hKS.1; omega) (by omega) (by omega) (by omega) _ _ _ ⟨0, [], 0, false⟩).trans (hKS.2 j hj)⟩⟩
 ·rw [List.getElem?_set_ne (by omega), List.getElem?_set_self (by simpa using hlt.1)]
 ·dsimp only
  by_cases e : i = n
  ·rw [if_pos e]; simp [e]
  ·rw [if_neg e]
   cases e2 : ids i with
   | none => exact absurd e2 (hall i hil)
   | some k => simp [e]
theorem c14_no {k : Nat} {md : Md} {S : Store} {vs : List A} {D : List Nat} {kk mm : Int} {l : List (List Cell)} {q : List Object} {n : Int} (hd : dpArgs S [] vs = some ([.ag [(.v (.int .i64 (kk))), (.v (.int .i64 (mm))), .ro 1 (l.map nodeC), .ro 2 (q.map Object.c)], (.v (.int .i64 (n)))], D)) (hg : (goodC kk mm l q && inB n 0 ((l.length : Int) - 1)) = false := by first | assumption | omega | with_reducible rfl) (hn : l.length ≤ 1048576 := by first | assumption | omega | with_reducible rfl) (hq : q.length ≤ 1048576 := by first | assumption | omega | with_reducible rfl) (hcs : ∀ c ∈ l, c.length ≤ 1048576 := by first | assumption | omega | with_reducible rfl) (hns : ∀ c ∈ l, ∀ x ∈ c, x.name.size ≤ 1048576 := by first | assumption | omega | with_reducible rfl) (hqs : ∀ o ∈ q, o.name.size ≤ 9223372036854775807 := by first | assumption | omega | with_reducible rfl) (hk : 12 ≤ k := by omega) :
  Cal (run k) md 14 vs S (fun r S' => r = .tu [.ag [(.v (.int .i64 (0))), (.v (.int .i64 (0))), .v (.slice none 0 0), .v (.slice none 0 0)], (.v (.bool (false)))] ∧ Kept S S') := by
 obtain ⟨k, rfl⟩ : ∃ j, k = j + 1 := ⟨k - 1, by omega⟩
 refine Cal.fnN (n := 28) (rs := [.cell 4 31, .tmp 5]) (D := D) (Xof_none rfl) g14 (by delta Tryd.f14; exact rfl) (by delta Tryd.f14; exact rfl) (by delta Tryd.f14; exact rfl) hd rfl (by first | exact .inr (by assumption) | exact .inl rfl | exact .inl (by simp [idsV, idsC])) (by simp) ?_
 intro md' ow; have w := ow.w; have w0 := ow.w0; have fz : md'.fz = false := ow.fz
 generalize hgg : goodC kk mm l q = g at hg
 cases g
 ·repeat' (first | ((with_reducible apply EvO.off); exact rfl; exact rfl) | ((first | ((with_reducible apply EvO.call (vs := ?_)); exact rfl; exact rfl) | (with_reducible apply Cal.hd (ms := []) (p := ?_)) | ((with_reducible refine EvO.c1 (a := ?_) (S' := ?_) ?_ ?_ ?_); rotate_left 2; exact rfl) | ((with_reducible refine EvO.c0 (a := ?_) (S' := ?_) ?_ ?_); rotate_left 2) | ((with_reducible apply EvO.cons); exact rfl) | ((with_reducible apply EvO.guard); exact rfl; exact rfl) | ((with_reducible refine Ev.cond (t := ?_) ?_ ?_ ?_); rotate_left) | skip); (focus ((with_reducible refine Eq.trans ?_ rfl); simp (disch := first | (intros; contradiction) | (as_aux_lemma => first | omega | (simp only [LEN2]; try omega) | (simp only [LEN]; try omega))) only [EV, TT, w, w0, fz, yD, yF, yA, yB, yE, yC, hgg, Nat.reduceEqDiff, Nat.reduceBeqDiff, Nat.reduceAdd, Nat.reduceMul, Nat.reduceLeDiff, Nat.reduceLT, reduceCtorEq, Int.reduceEq, Int.reduceNeg, FIN, DP]; first | done | exact rfl)); try exact rfl) | ((with_reducible apply CalH.mk); intro hd; first | exact c11 hd | exact c34 hd | exact c42 hd) | (with_reducible (first | rintro r S' ⟨rfl, rfl⟩ | rintro r S' ⟨id, ids, id2, rfl, hC, hall, hold⟩); refine ⟨_, rfl, ?_⟩) | ((with_reducible refine Ev.regionH ?_); intro H) | ((with_reducible apply regH_k); exact KIs.mk rfl; (focus ((with_reducible apply EnvIs.mk); simp only [SE, Nat.reduceEqDiff, Nat.reduceAdd, reduceCtorEq]; first | done | exact rfl)); clear H) | exact KIs.mk rfl | (with_reducible first | apply Ev.seq | apply EvO.nil | apply zA | apply Ev.ret | apply zB | apply Ev.skip) | ((with_reducible refine endN_rT (vs := ?_) ?_ ?_); rotate_left) | (intro (c' : Bool) hc; cases c' <;> first | (cases hc; done) | (try simp only [HC, inB_it, inB_if] at hc)) | (intro hc; first | (cases hc; done) | (try simp only [HC, inB_it, inB_if] at hc)) | fail)
  exact ⟨.inr rfl, fun S₂ hk => ⟨rfl, Kp.kept hk (Kept.app _ _)⟩⟩
 ·simp only [Bool.true_and] at hg
  repeat' (first | ((with_reducible apply EvO.off); exact rfl; exact rfl) | ((first | ((with_reducible apply EvO.call (vs := ?_)); exact rfl; exact rfl) | (with_reducible apply Cal.hd (ms := []) (p := ?_)) | ((with_reducible refine EvO.c1 (a := ?_) (S' := ?_) ?_ ?_ ?_); rotate_left 2; exact rfl) | ((with_reducible refine EvO.c0 (a := ?_) (S' := ?_) ?_ ?_); rotate_left 2) | ((with_reducible apply EvO.cons); exact rfl) | ((with_reducible apply EvO.guard); exact rfl; exact rfl) | ((with_reducible refine Ev.cond (t := ?_) ?_ ?_ ?_); rotate_left) | skip); (focus ((with_reducible refine Eq.trans ?_ rfl); simp (disch := first | (intros; contradiction) | (as_aux_lemma => first | omega | (simp only [LEN2]; try omega) | (simp only [LEN]; try omega))) only [EV, TT, w, w0, fz, yD, yF, yA, yB, yE, yC, hgg, hg, Nat.reduceEqDiff, Nat.reduceBeqDiff, Nat.reduceAdd, Nat.reduceMul, Nat.reduceLeDiff, Nat.reduceLT, reduceCtorEq, Int.reduceEq, Int.reduceNeg, FIN, DP]; first | done | exact rfl)); try exact rfl) | ((with_reducible apply CalH.mk); intro hd; first | exact c11 hd | exact c34 hd | exact c42 hd) | (with_reducible (first | rintro r S' ⟨rfl, rfl⟩ | rintro r S' ⟨id, ids, id2, rfl, hC, hall, hold⟩); refine ⟨_, rfl, ?_⟩) | ((with_reducible refine Ev.regionH ?_); intro H) | ((with_reducible apply regH_k); exact KIs.mk rfl; (focus ((with_reducible apply EnvIs.mk); simp only [SE, Nat.reduceEqDiff, Nat.reduceAdd, reduceCtorEq]; first | done | exact rfl)); clear H) | exact KIs.mk rfl | (with_reducible first | apply Ev.seq | apply EvO.nil | apply zA | apply Ev.ret | apply zB | apply Ev.skip) | ((with_reducible refine endN_rT (vs := ?_) ?_ ?_); rotate_left) | (intro (c' : Bool) hc; cases c' <;> first | (cases hc; done) | (try simp only [HC, inB_it, inB_if] at hc)) | (intro hc; first | (cases hc; done) | (try simp only [HC, inB_it, inB_if] at hc)) | fail)
  exact ⟨.inr rfl, fun S₂ hk => ⟨rfl, Kp.kept hk (Kept.app _ _)⟩⟩
theorem c14_ok {k : Nat} {md : Md} {S : Store} {vs : List A} {D : List Nat} {kk mm : Int} {l : List (List Cell)} {q : List Object} {n : Nat} (hd : dpArgs S [] vs = some ([.ag [(.v (.int .i64 (kk))), (.v (.int .i64 (mm))), .ro 1 (l.map nodeC), .ro 2 (q.map Object.c)], (.v (.int .i64 ((n : Int))))], D)) (hg : goodC kk mm l q = true := by first | assumption | omega | with_reducible rfl) (hi : n < l.length := by first | assumption | omega | with_reducible rfl) (hn : l.length ≤ 1048576 := by first | assumption | omega | with_reducible rfl) (hq : q.length ≤ 1048576 := by first | assumption | omega | with_reducible rfl) (hcs : ∀ c ∈ l, c.length ≤ 1048576 := by first | assumption | omega | with_reducible rfl) (hns : ∀ c ∈ l, ∀ x ∈ c, x.name.size ≤ 1048576 := by first | assumption | omega | with_reducible rfl) (hqs : ∀ o ∈ q, o.name.size ≤ 9223372036854775807 := by first | assumption | omega | with_reducible rfl) (hk : 12 ≤ k := by omega) :
  Cal (run k) md 14 vs S (fun r S' => ∃ id ids id2, r = .tu [.ag [(.v (.int .i64 (kk))), (.v (.int .i64 (mm))), .sl id 0 l.length l.length, .sl id2 0 q.length q.length], (.v (.bool (true)))] ∧ Clu S' S.length id id2 ids (l.set n []) q ∧ (∀ i, i < l.length → ((ids i).isSome = decide (i ≠ n))) ∧ Kept S S') := by
 obtain ⟨k, rfl⟩ : ∃ j, k = j + 1 := ⟨k - 1, by omega⟩
 refine Cal.fnN (n := 28) (rs := [.cell 4 31, .tmp 5]) (D := D) (Xof_none rfl) g14 (by delta Tryd.f14; exact rfl) (by delta Tryd.f14; exact rfl) (by delta Tryd.f14; exact rfl) hd rfl (by first | exact .inr (by assumption) | exact .inl rfl | exact .inl (by simp [idsV, idsC])) (by simp) ?_
 intro md' ow; have w := ow.w; have w0 := ow.w0; have fz : md'.fz = false := ow.fz
 have h0 := nodes_lt hg
 have hin : inB (n : Int) 0 ((l.length : Int) - 1) = true := by simp [inB]; omega
 repeat' (first | ((with_reducible apply EvO.off); exact rfl; exact rfl) | ((first | ((with_reducible apply EvO.call (vs := ?_)); exact rfl; exact rfl) | (with_reducible apply Cal.hd (ms := []) (p := ?_)) | ((with_reducible refine EvO.c1 (a := ?_) (S' := ?_) ?_ ?_ ?_); rotate_left 2; exact rfl) | ((with_reducible refine EvO.c0 (a := ?_) (S' := ?_) ?_ ?_); rotate_left 2) | ((with_reducible apply EvO.cons); exact rfl) | ((with_reducible apply EvO.guard); exact rfl; exact rfl) | ((with_reducible refine Ev.cond (t := ?_) ?_ ?_ ?_); rotate_left) | skip); (focus ((with_reducible refine Eq.trans ?_ rfl); simp (disch := first | (intros; contradiction) | (as_aux_lemma => first | omega | (simp only [LEN2]; try omega) | (simp only [LEN]; try omega))) only [EV, TT, w, w0, fz, yD, yF, yA, yB, yE, yC, hg, hin, Nat.reduceEqDiff, Nat.reduceBeqDiff, Nat.reduceAdd, Nat.reduceMul, Nat.reduceLeDiff, Nat.reduceLT, reduceCtorEq, Int.reduceEq, Int.reduceNeg, FIN, DP]; first | done | exact rfl)); try exact rfl) | ((with_reducible apply CalH.mk); intro hd; first | exact c11 hd | exact c34 hd | exact c42 hd) | (with_reducible (first | rintro r S' ⟨rfl, rfl⟩ | rintro r S' ⟨id, ids, id2, rfl, hC, hall, hold⟩); refine ⟨_, rfl, ?_⟩) | ((with_reducible refine Ev.regionH ?_); intro H) | ((with_reducible apply regH_k); exact KIs.mk rfl; (focus ((with_reducible apply EnvIs.mk); simp only [SE, Nat.reduceEqDiff, Nat.reduceAdd, reduceCtorEq]; first | done | exact rfl)); clear H) | exact KIs.mk rfl | (with_reducible first | apply Ev.seq | apply EvO.nil | apply zA | apply Ev.ret | apply zB | apply Ev.skip) | ((with_reducible refine endN_rT (vs := ?_) ?_ ?_); rotate_left) | (intro (c' : Bool) hc; cases c' <;> first | (cases hc; done) | (try simp only [HC, inB_it, inB_if] at hc)) | (intro hc; first | (cases hc; done) | (try simp only [HC, inB_it, inB_if] at hc)) | fail)
 have hC1 := hC
 have b0 := (hold.get ((get_len0 S _).trans rfl))
 have b1 := (hold.get ((get_len S _ 1).trans rfl))
 have hKS : Kept S S' := (Kept.app S _).trans hold
 have hm := hC.m
 simp only [List.length_append, List.length_cons, List.length_nil] at hm
 have hlt := hC.lt
 have hob := hC.n.ob
 unfold obK at hob
 have hrl := rowsK_len ids l
 have w1 : ∀ k, md'.wr (S'.length + k) = true := fun k => wr_of w (by have := hlt.1; omega)
 have w2 : md'.wr S'.length = true := wr_of w (by have := hlt.1; omega)
 have hwi : md'.wr id = true := wr_of w (by omega)
 have hni : (n : Int) < (l.length : Int) := by omega
 obtain ⟨k', hk'⟩ : ∃ k', ids n = some k' := by
  cases e : ids n with
  | none => exact absurd e (hall n hi)
  | some k' => exact ⟨k', rfl⟩
 have hg2 := rowsK_at ids l hi
 rw [hk'] at hg2
 simp only [rowK] at hg2
 repeat' (first | ((with_reducible apply EvO.off); exact rfl; exact rfl) | ((first | ((with_reducible apply EvO.call (vs := ?_)); exact rfl; exact rfl) | (with_reducible apply Cal.hd (ms := []) (p := ?_)) | ((with_reducible refine EvO.c1 (a := ?_) (S' := ?_) ?_ ?_ ?_); rotate_left 2; exact rfl) | ((with_reducible refine EvO.c0 (a := ?_) (S' := ?_) ?_ ?_); rotate_left 2) | ((with_reducible apply EvO.cons); exact rfl) | ((with_reducible apply EvO.guard); exact rfl; exact rfl) | ((with_reducible refine Ev.cond (t := ?_) ?_ ?_ ?_); rotate_left) | skip); (focus ((with_reducible refine Eq.trans ?_ rfl); simp (disch := first | (intros; contradiction) | (as_aux_lemma => first | omega | (simp only [LEN2]; try omega) | (simp only [LEN]; try omega))) only [EV, TT, w, w0, fz, yD, yF, yA, yB, yE, yC, b0, b1, hob, hrl, w1, w2, hwi, hni, hi, hg2, if_true, Option.map_some, List.getElem?_append_left, List.set_append_left, List.getElem?_set_self, List.getElem?_set_ne, List.set_set, List.length_set, Nat.reduceEqDiff, Nat.reduceBeqDiff, Nat.reduceAdd, Nat.reduceMul, Nat.reduceLeDiff, Nat.reduceLT, reduceCtorEq, Int.reduceEq, Int.reduceNeg, FIN, DP]; first | done | exact rfl)); try exact rfl) | ((with_reducible apply CalH.mk); intro hd; first | exact c11 hd | exact c34 hd | exact c42 hd) | (with_reducible (first | rintro r S' ⟨rfl, rfl⟩ | rintro r S' ⟨id, ids, id2, rfl, hC, hall, hold⟩); refine ⟨_, rfl, ?_⟩) | ((with_reducible refine Ev.regionH ?_); intro H) | ((with_reducible apply regH_k); exact KIs.mk rfl; (focus ((with_reducible apply EnvIs.mk); simp only [SE, Nat.reduceEqDiff, Nat.reduceAdd, reduceCtorEq]; first | done | exact rfl)); clear H) | exact KIs.mk rfl | (with_reducible first | apply Ev.seq | apply EvO.nil | apply zA | apply Ev.ret | apply zB | apply Ev.skip) | ((with_reducible refine endN_rT (vs := ?_) ?_ ?_); rotate_left) | (intro (c' : Bool) hc; cases c' <;> first | (cases hc; done) | (try simp only [HC, inB_it, inB_if] at hc)) | (intro hc; first | (cases hc; done) | (try simp only [HC, inB_it, inB_if] at hc)) | fail)
 refine ⟨.inr rfl, fun S₂ hk => ?_⟩
 have hq : ∀ j, j < S'.length → j ≠ S.length → j ≠ S.length + 1 → j ≠ id → ∀ (o : Ob) o' x y, ((S'.set id x).set (S.length + 1) o' ++ y)[j]? = S'[j]? := fun j h0 h1 h2 h3 o o' x y => by rw [List.getElem?_append_left (by simpa using h0), List.getElem?_set_ne (Ne.symm h2), List.getElem?_set_ne (Ne.symm h3)]
 refine ⟨id, (fun j => if j = n then none else ids j), id2, rfl, Clu.kp (hC1.drop hi (m' := S.length) (by simp) ?_ fun j h1 h2 h3 => hq j h2 (by simp at h1; omega) (by simp at h1; omega) h3 ⟨0, [], 0, false⟩ _ _ _) hk, fun i hil => ?_, Kp.kept hk ⟨by simp; have := hKS.1; omega, fun j hj => (hq j (by have := hKS.1; omega) (by omega) (by omega) (by omega) ⟨0, [], 0, false⟩ _ _ _).trans (hKS.2 j hj)⟩⟩
 ·rw [List.getElem?_append_left (by simpa using hlt.1), List.getElem?_set_ne (by omega), List.getElem?_set_self (by simpa using hlt.1)]
 ·dsimp only
  by_cases e : i = n
  ·rw [if_pos e]; simp [e]
  ·rw [if_neg e]
   cases e2 : ids i with
   | none => exact absurd e2 (hall i hil)
   | some k => simp [e]
end Go.Proofs.YtdpaijnbikclgaaDoorB
