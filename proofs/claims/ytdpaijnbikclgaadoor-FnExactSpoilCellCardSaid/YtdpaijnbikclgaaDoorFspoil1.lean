/- Part of the evaluator's contracts: spoil1. -/
import Derived.Test.YtdpaijnbikclgaaDoorFfail4
import Derived.Test.YtdpaijnbikclgaaDoorFclu4
import Derived.Test.YtdpaijnbikclgaaDoorFbase
import Derived.Test.YtdpaijnbikclgaaDoorFfail3
import Derived.Test.YtdpaijnbikclgaaDoorFclu5
import Derived.Test.YtdpaijnbikclgaaDoorFnodeO
namespace Go.Proofs.YtdpaijnbikclgaaDoorB
open Go Go.Proofs.YtdpaijnbikclgaaDoorE
set_option linter.unusedVariables false
set_option linter.unusedSectionVars false
set_option linter.unusedSimpArgs false
set_option maxHeartbeats 4000000
set_option maxRecDepth 20000
def nums (x : ByteArray) : List Int := x.data.toList.map fun b => (b.toNat : Int)
def u8R (n : Int) : List A := [.v (.int .u8 n)]
def inc8 (n : Int) : Int := IntKind.u8.wrap (n + 1)
def spN (x : ByteArray) (i : Nat) : List Int := ((nums x).take i).map inc8 ++ (nums x).drop i
def bump (x : ByteArray) : ByteArray := strOfNums ((nums x).map inc8)
theorem nums_len (x : ByteArray) : (nums x).length = x.size := by simp only [nums, List.length_map, Array.length_toList]; rfl
theorem strRows_nums (x : ByteArray) : strRows x = (nums x).map u8R := by simp [strRows, nums, u8R, byteRow]
theorem spN_len (x : ByteArray) {i : Nat} (h : i ≤ x.size) : (spN x i).length = x.size := by
 have := nums_len x
 simp [spN]; omega
theorem spN_at (x : ByteArray) {i : Nat} (h : i < x.size) : ((spN x i).map u8R)[i]? = some (u8R ((nums x)[i]'(by rw [nums_len]; exact h))) := by
 have hn := nums_len x
 have hl : ((nums x).take i).length = i := by simp; omega
 rw [List.getElem?_map, spN, List.getElem?_append_right (by rw [List.length_map]; omega), List.length_map, hl, Nat.sub_self, List.getElem?_drop]
 simp [hn, h]
theorem spN_step (x : ByteArray) {i : Nat} (h : i < x.size) : ((spN x i).map u8R).set i (u8R (inc8 ((nums x)[i]'(by rw [nums_len]; exact h)))) = (spN x (i + 1)).map u8R := by
 have hn := nums_len x
 have hl : ((nums x).take i).length = i := by simp; omega
 rw [← List.map_set]
 congr 1
 rw [spN, List.set_append, if_neg (by rw [List.length_map]; omega), List.length_map, hl, Nat.sub_self, List.drop_eq_getElem_cons (by omega), List.set_cons_zero, spN, List.take_add_one, List.map_append, List.append_assoc, List.getElem?_eq_getElem (by omega)]
 rfl
theorem spN_0 (x : ByteArray) : spN x 0 = nums x := by simp [spN]
theorem spN_all (x : ByteArray) : spN x x.size = (nums x).map inc8 := by
 rw [spN, ← nums_len x, List.take_length, List.drop_length, List.append_nil]
theorem mapM_u8R : ∀ l : List Int, (l.map u8R).mapM byteOfRow = some l
 | [] => rfl
 | a :: l => by
  rw [List.map_cons, List.mapM_cons, mapM_u8R l]; rfl
theorem dataE (s : ByteArray) : (s.toList == (ByteArray.mk #[]).toList) = (s.size == 0) := by
 rw [toL, toL]
 have e : s.size = s.data.toList.length := by rw [Array.length_toList]; rfl
 rw [e]
 cases s.data.toList <;> rfl
def spoilL (l : List (List Cell)) (n k : Nat) : List (List Cell) := match l[n]? with
 | some c => match c[k]? with
  | some x => l.set n (c.set k { x with data := bump x.data })
  | none => l
 | none => l
noncomputable def okS (kk mm : Int) (l : List (List Cell)) (q : List Object) (n k : Int) : Bool :=
 goodC kk mm l q && inB n 0 ((l.length : Int) - 1) && (match l[n.toNat]? with
  | some c => inB k 0 ((c.length : Int) - 1) && (match c[k.toNat]? with
   | some x => !(x.data.size == 0)
   | none => false)
  | none => false)
theorem okS_at {kk mm : Int} {l : List (List Cell)} {q : List Object} {n k : Int} (h : okS kk mm l q n k = true) : goodC kk mm l q = true ∧ inB n 0 ((l.length : Int) - 1) = true ∧ ∃ (n' k' : Nat) (h1 : n' < l.length) (h2 : k' < l[n'].length), n = (n' : Int) ∧ k = (k' : Int) ∧ inB (k' : Int) 0 ((l[n'].length : Int) - 1) = true ∧ l[n'][k'].data.size ≠ 0 := by
 unfold okS at h
 simp only [Bool.and_eq_true] at h
 obtain ⟨⟨h1, h2⟩, h3⟩ := h
 have h4 := h2
 simp only [inB, Bool.and_eq_true, decide_eq_true_eq] at h4
 obtain ⟨n', rfl⟩ : ∃ n' : Nat, n = (n' : Int) := ⟨n.toNat, by omega⟩
 have hn : n' < l.length := by omega
 rw [Int.toNat_natCast, List.getElem?_eq_getElem hn] at h3
 simp only [Bool.and_eq_true] at h3
 obtain ⟨h5, h6⟩ := h3
 have h7 := h5
 simp only [inB, Bool.and_eq_true, decide_eq_true_eq] at h7
 obtain ⟨k', rfl⟩ : ∃ n' : Nat, k = (n' : Int) := ⟨k.toNat, by omega⟩
 have hk : k' < l[n'].length := by omega
 rw [Int.toNat_natCast, List.getElem?_eq_getElem hk] at h6
 exact ⟨h1, h2, n', k', hn, hk, rfl, rfl, h5, by simpa using h6⟩
theorem okS_nat {kk mm : Int} {l : List (List Cell)} {q : List Object} {n k : Int} (h : okS kk mm l q n k = true) : ∃ n' k' : Nat, n = (n' : Int) ∧ k = (k' : Int) := by
 obtain ⟨_, _, n', k', _, _, e1, e2, _⟩ := okS_at h
 exact ⟨n', k', e1, e2⟩
theorem spoilL_at {l : List (List Cell)} {n k : Nat} (h1 : n < l.length) (h2 : k < l[n].length) : spoilL l n k = l.set n (l[n].set k { l[n][k] with data := bump l[n][k].data }) := by
 unfold spoilL
 rw [List.getElem?_eq_getElem h1]
 simp only
 rw [List.getElem?_eq_getElem h2]
theorem spoilL_len (l : List (List Cell)) (n k : Nat) : (spoilL l n k).length = l.length := by
 unfold spoilL
 split
 ·split <;> simp
 ·rfl
theorem totN_upd (l : List (List Cell)) (i : Nat) (c : List Cell) (h : ∀ x, l[i]? = some x → c.length = x.length) : totN (l.set i c) = totN l := by
 induction l generalizing i with
 | nil => simp
 | cons x l ih =>
  cases i with
  | zero => have := h x rfl; simp [totN, this]
  | succ i => rw [List.set_cons_succ, totN_cons, totN_cons, ih i (fun x hx => h x (by simpa using hx))]
theorem spoilL_tot (l : List (List Cell)) (n k : Nat) : totN (spoilL l n k) ≤ totN l := by
 unfold spoilL
 split
 ·rename_i c hc
  split
  ·rw [totN_upd _ _ _ (fun x hx => by rw [hc] at hx; injection hx with hx; subst hx; simp)]; exact Nat.le_refl _
  ·exact Nat.le_refl _
 ·exact Nat.le_refl _
theorem spoilL_mem {l : List (List Cell)} {n k b : Nat} (h : ∀ c ∈ l, c.length ≤ b) : ∀ c ∈ spoilL l n k, c.length ≤ b := fun c hc => by
 unfold spoilL at hc
 split at hc
 ·rename_i d hd
  split at hc
  ·rcases List.mem_or_eq_of_mem_set hc with h1 | h1
   ·exact h c h1
   ·subst h1; rw [List.length_set]; exact h d (List.mem_of_getElem? hd)
  ·exact h c hc
 ·exact h c hc
theorem Clu.upd {S S' : Store} {m m' id id2 : Nat} {ids : Nat → Option Nat} {l : List (List Cell)} {q : List Object} (h : Clu S m id id2 ids l q) {n k : Nat} (hn : n < l.length) (hk : ids n = some k) {c : List Cell} (hc : c.length = l[n].length) (hm : m' ≤ m)
  (h2 : S'[k]? = some (obC c)) (h3 : ∀ j, m ≤ j → j < S.length → j ≠ k → S'[j]? = S[j]?) : Clu S' m' id id2 ids (l.set n c) q := by
 have hkl := h.n.in_lt hn hk
 have h0 := h.n.upd (S' := S.set k (obC c)) hn hk hc (by rw [List.getElem?_set_self hkl]) (fun j o hj ho => by rw [List.getElem?_set_ne (Ne.symm hj)]; exact ho)
 have hl : ∀ {i : Nat}, i < (l.set n c).length → i < l.length := fun hi => by simpa using hi
 have hmv : ∀ j, m ≤ j → j < S.length → S'[j]? = (S.set k (obC c))[j]? := fun j h1 h4 => by
  by_cases e : j = k
  ·subst e; rw [h2, List.getElem?_set_self hkl]
  ·rw [List.getElem?_set_ne (Ne.symm e)]; exact h3 j h1 h4 e
 exact ⟨h0.mono (hmv _ h.m.1 h.n.id_lt) fun i j hi hj => hmv _ (h.m.2.2 i j (hl hi) hj) (h.n.in_lt (hl hi) hj), (h3 id2 h.m.2.1 h.id2_lt (fun e => h.e n k hn hk e.symm)).trans h.o, h.d, fun i j hi hj => h.e i j (hl hi) hj, by have := h.m.1; omega, by have := h.m.2.1; omega, fun i j hi hj => by have := h.m.2.2 i j (hl hi) hj; omega⟩
theorem k17_6 (e : Env) : lpE (FI.K ⟨[], false, [(6, [1, 2, 3, 6, 8, 63, 64]), (1000, [1, 2, 3, 6]), (1001, [1, 2, 3, 6, 47]), (1002, [6, 7]), (1003, [1, 2, 3, 6]), (1004, [1, 2, 3, 6, 8]), (1005, [1, 2, 3, 6, 8, 63, 64]), (1006, [1, 2, 3, 6, 8, 63, 64, 65]), (1007, [1, 2, 3, 6, 8, 9, 63, 64]), (1008, [1, 2, 3, 6, 8, 63, 64]), (1009, [1, 2, 3, 6, 8, 63, 64]), (1010, [3, 6]), (1011, [6, 7]), (999999, [])]⟩ 6) e = mkE [(1, e 1), (2, e 2), (3, e 3), (6, e 6), (8, e 8), (63, e 63), (64, e 64)] := rfl
theorem c17_no {k : Nat} {md : Md} {S : Store} {vs : List A} {D : List Nat} {kk mm : Int} {l : List (List Cell)} {q : List Object} {n kx : Int} (hd : dpArgs S [] vs = some ([.ag [(.v (.int .i64 (kk))), (.v (.int .i64 (mm))), .ro 1 (l.map nodeC), .ro 2 (q.map Object.c)], (.v (.int .i64 (n))), (.v (.int .i64 (kx)))], D)) (hg : okS kk mm l q n kx = false := by first | assumption | omega | with_reducible rfl) (hn : l.length ≤ 1048576 := by first | assumption | omega | with_reducible rfl) (hq : q.length ≤ 1048576 := by first | assumption | omega | with_reducible rfl) (hcs : ∀ c ∈ l, c.length ≤ 1048576 := by first | assumption | omega | with_reducible rfl) (hns : ∀ c ∈ l, ∀ x ∈ c, x.name.size ≤ 1048576 := by first | assumption | omega | with_reducible rfl) (hqs : ∀ o ∈ q, o.name.size ≤ 9223372036854775807 := by first | assumption | omega | with_reducible rfl) (hk : 4 ≤ k := by omega) :
  Cal (run k) md 17 vs S (fun r S' => r = .tu [.ag [(.v (.int .i64 (0))), (.v (.int .i64 (0))), .v (.slice none 0 0), .v (.slice none 0 0)], (.v (.bool (false)))] ∧ Kept S S') := by
 obtain ⟨k, rfl⟩ : ∃ j, k = j + 1 := ⟨k - 1, by omega⟩
 refine Cal.fnN (n := 86) (rs := [.cell 6 31, .tmp 7]) (D := D) (Xof_none rfl) g17 (by delta Tryd.f17; exact rfl) (by delta Tryd.f17; exact rfl) (by delta Tryd.f17; exact rfl) hd rfl (by first | exact .inr (by assumption) | exact .inl rfl | exact .inl (by simp [idsV, idsC])) (by simp) ?_
 intro md' ow; have w := ow.w; have w0 := ow.w0; have fz : md'.fz = false := ow.fz
 unfold okS at hg
 cases hgg : goodC kk mm l q with
 | false =>
  repeat' (first | ((with_reducible apply EvO.off); exact rfl; exact rfl) | ((with_reducible apply EvT.off); exact rfl; exact rfl) | ((first | ((with_reducible apply EvO.call (vs := ?_)); exact rfl; exact rfl) | ((with_reducible apply EvT.call (vs := ?_)); exact rfl; exact rfl) | (with_reducible apply Cal.hd (ms := []) (p := ?_)) | ((with_reducible refine qA ?_ ?_ ?_ ?_ ?_); rotate_left 2; exact rfl) | ((with_reducible refine qB ?_ ?_ ?_ ?_); rotate_left 2) | ((with_reducible apply EvO.cons); exact rfl) | ((with_reducible refine qC ?_ ?_ ?_ ?_ ?_ ?_); rotate_left 2; exact rfl; exact rfl) | ((with_reducible refine qD ?_ ?_ ?_ ?_ ?_); rotate_left 2; exact rfl) | ((with_reducible apply EvT.cons); exact rfl; exact rfl) | ((with_reducible apply EvO.guard); exact rfl; exact rfl) | ((with_reducible apply EvT.guard); exact rfl; exact rfl) | ((with_reducible refine Ev.cond (t := ?_) ?_ ?_ ?_); rotate_left) | skip); (focus ((with_reducible refine Eq.trans ?_ rfl); simp (disch := first | (intros; contradiction) | (as_aux_lemma => first | omega | (simp only [LEN]; try omega))) only [EV, TT, w, w0, fz, yD, yF, yA, yB, yE, yC, hgg, Nat.reduceEqDiff, Nat.reduceBeqDiff, Nat.reduceAdd, Nat.reduceMul, Nat.reduceLeDiff, Nat.reduceLT, reduceCtorEq, Int.reduceEq, Int.reduceNeg, FIN, DP]; first | done | exact rfl)); try exact rfl) | ((with_reducible apply CalH.mk); intro hd; first | exact c9 hd | exact c26 hd | exact c41 hd) | (with_reducible (first | rintro r S' ⟨rfl, rfl⟩ | rintro r S' ⟨id, ids, id2, rfl, hC, hall, hold⟩); refine ⟨_, rfl, ?_⟩) | ((with_reducible refine Ev.regionH ?_); intro H) | ((with_reducible apply regH_k); exact KIs.mk rfl; (focus ((with_reducible apply EnvIs.mk); simp only [SE, Nat.reduceEqDiff, Nat.reduceAdd, reduceCtorEq]; try exact rfl)); clear H) | exact KIs.mk rfl | (with_reducible first | apply Ev.seq | apply EvO.nil | apply zA | apply Ev.ret | apply zB | apply Ev.skip | apply Ev.exit | apply Ev.block | apply zC | apply zD | apply zE | apply zF | apply zH | apply zI) | ((with_reducible refine endN_rT (vs := ?_) ?_ ?_); rotate_left) | ((with_reducible refine zG ?_ ?_); exact rfl) | ((with_reducible refine Ev.drawnH ?_ ?_); (focus kernel_rfl); intro H) | ((with_reducible refine EvT.nil ?_); refine ⟨drawn_mk (hs := []) (by repeat' (first | exact trivial | refine ⟨.inl rfl, ?_⟩ | refine ⟨.inr rfl, ?_⟩ | (refine ⟨.inr ?_, ?_⟩; (focus (simp only [app_app, List.cons_append, List.nil_append, len_app, List.length_cons, List.length_nil, len_lit, Nat.zero_add, Nat.reduceAdd]; done))))) (by kernel_rfl) ?_, ?_⟩) | with_reducible exact List.forall_mem_nil _ | with_reducible refine List.forall_mem_cons.2 ⟨?_, ?_⟩ | ((with_reducible apply stab_off); exact rfl; exact rfl) | ((with_reducible apply stab_mk); exact rfl; exact rfl; exact rfl; exact rfl) | ((first | (intro (c' : Bool) hc; cases c') | intro hc) <;> first | (cases hc; done) | (try simp only [HC, inB_it, inB_if] at hc)) | fail)
  all_goals exact ⟨.inr rfl, fun S₂ hk => ⟨rfl, Kp.kept hk (Kept.app _ _)⟩⟩
 | true =>
  cases hin : inB n 0 ((l.length : Int) - 1) with
  | false =>
   repeat' (first | ((with_reducible apply EvO.off); exact rfl; exact rfl) | ((with_reducible apply EvT.off); exact rfl; exact rfl) | ((first | ((with_reducible apply EvO.call (vs := ?_)); exact rfl; exact rfl) | ((with_reducible apply EvT.call (vs := ?_)); exact rfl; exact rfl) | (with_reducible apply Cal.hd (ms := []) (p := ?_)) | ((with_reducible refine qA ?_ ?_ ?_ ?_ ?_); rotate_left 2; exact rfl) | ((with_reducible refine qB ?_ ?_ ?_ ?_); rotate_left 2) | ((with_reducible apply EvO.cons); exact rfl) | ((with_reducible refine qC ?_ ?_ ?_ ?_ ?_ ?_); rotate_left 2; exact rfl; exact rfl) | ((with_reducible refine qD ?_ ?_ ?_ ?_ ?_); rotate_left 2; exact rfl) | ((with_reducible apply EvT.cons); exact rfl; exact rfl) | ((with_reducible apply EvO.guard); exact rfl; exact rfl) | ((with_reducible apply EvT.guard); exact rfl; exact rfl) | ((with_reducible refine Ev.cond (t := ?_) ?_ ?_ ?_); rotate_left) | skip); (focus ((with_reducible refine Eq.trans ?_ rfl); simp (disch := first | (intros; contradiction) | (as_aux_lemma => first | omega | (simp only [LEN]; try omega))) only [EV, TT, w, w0, fz, yD, yF, yA, yB, yE, yC, hgg, hin, Nat.reduceEqDiff, Nat.reduceBeqDiff, Nat.reduceAdd, Nat.reduceMul, Nat.reduceLeDiff, Nat.reduceLT, reduceCtorEq, Int.reduceEq, Int.reduceNeg, FIN, DP]; first | done | exact rfl)); try exact rfl) | ((with_reducible apply CalH.mk); intro hd; first | exact c9 hd | exact c26 hd | exact c41 hd) | (with_reducible (first | rintro r S' ⟨rfl, rfl⟩ | rintro r S' ⟨id, ids, id2, rfl, hC, hall, hold⟩); refine ⟨_, rfl, ?_⟩) | ((with_reducible refine Ev.regionH ?_); intro H) | ((with_reducible apply regH_k); exact KIs.mk rfl; (focus ((with_reducible apply EnvIs.mk); simp only [SE, Nat.reduceEqDiff, Nat.reduceAdd, reduceCtorEq]; try exact rfl)); clear H) | exact KIs.mk rfl | (with_reducible first | apply Ev.seq | apply EvO.nil | apply zA | apply Ev.ret | apply zB | apply Ev.skip | apply Ev.exit | apply Ev.block | apply zC | apply zD | apply zE | apply zF | apply zH | apply zI) | ((with_reducible refine endN_rT (vs := ?_) ?_ ?_); rotate_left) | ((with_reducible refine zG ?_ ?_); exact rfl) | ((with_reducible refine Ev.drawnH ?_ ?_); (focus kernel_rfl); intro H) | ((with_reducible refine EvT.nil ?_); refine ⟨drawn_mk (hs := []) (by repeat' (first | exact trivial | refine ⟨.inl rfl, ?_⟩ | refine ⟨.inr rfl, ?_⟩ | (refine ⟨.inr ?_, ?_⟩; (focus (simp only [app_app, List.cons_append, List.nil_append, len_app, List.length_cons, List.length_nil, len_lit, Nat.zero_add, Nat.reduceAdd]; done))))) (by kernel_rfl) ?_, ?_⟩) | with_reducible exact List.forall_mem_nil _ | with_reducible refine List.forall_mem_cons.2 ⟨?_, ?_⟩ | ((with_reducible apply stab_off); exact rfl; exact rfl) | ((with_reducible apply stab_mk); exact rfl; exact rfl; exact rfl; exact rfl) | ((first | (intro (c' : Bool) hc; cases c') | intro hc) <;> first | (cases hc; done) | (try simp only [HC, inB_it, inB_if] at hc)) | fail)
   all_goals exact ⟨.inr rfl, fun S₂ hk => ⟨rfl, Kp.kept hk (Kept.app _ _)⟩⟩
  | true =>
   have h2 := hin
   simp only [inB, Bool.and_eq_true, decide_eq_true_eq] at h2
   obtain ⟨n, rfl⟩ : ∃ n' : Nat, n = (n' : Int) := ⟨n.toNat, by omega⟩
   have hnl : n < l.length := by omega
   have hnz := hcs l[n] (by simp)
   simp only [hgg, hin, Int.toNat_natCast, List.getElem?_eq_getElem hnl, Bool.true_and] at hg
   cases hik : inB kx 0 ((l[n].length : Int) - 1) with
   | false =>
    repeat' (first | ((with_reducible apply EvO.off); exact rfl; exact rfl) | ((with_reducible apply EvT.off); exact rfl; exact rfl) | ((first | ((with_reducible apply EvO.call (vs := ?_)); exact rfl; exact rfl) | ((with_reducible apply EvT.call (vs := ?_)); exact rfl; exact rfl) | (with_reducible apply Cal.hd (ms := []) (p := ?_)) | ((with_reducible refine qA ?_ ?_ ?_ ?_ ?_); rotate_left 2; exact rfl) | ((with_reducible refine qB ?_ ?_ ?_ ?_); rotate_left 2) | ((with_reducible apply EvO.cons); exact rfl) | ((with_reducible refine qC ?_ ?_ ?_ ?_ ?_ ?_); rotate_left 2; exact rfl; exact rfl) | ((with_reducible refine qD ?_ ?_ ?_ ?_ ?_); rotate_left 2; exact rfl) | ((with_reducible apply EvT.cons); exact rfl; exact rfl) | ((with_reducible apply EvO.guard); exact rfl; exact rfl) | ((with_reducible apply EvT.guard); exact rfl; exact rfl) | ((with_reducible refine Ev.cond (t := ?_) ?_ ?_ ?_); rotate_left) | skip); (focus ((with_reducible refine Eq.trans ?_ rfl); simp (disch := first | (intros; contradiction) | (as_aux_lemma => first | omega | (simp only [LEN]; try omega))) only [EV, TT, w, w0, fz, yD, yF, yA, yB, yE, yC, hgg, hin, hik, Nat.reduceEqDiff, Nat.reduceBeqDiff, Nat.reduceAdd, Nat.reduceMul, Nat.reduceLeDiff, Nat.reduceLT, reduceCtorEq, Int.reduceEq, Int.reduceNeg, FIN, DP]; first | done | exact rfl)); try exact rfl) | ((with_reducible apply CalH.mk); intro hd; first | exact c9 hd | exact c26 hd | exact c41 hd) | (with_reducible (first | rintro r S' ⟨rfl, rfl⟩ | rintro r S' ⟨id, ids, id2, rfl, hC, hall, hold⟩); refine ⟨_, rfl, ?_⟩) | ((with_reducible refine Ev.regionH ?_); intro H) | ((with_reducible apply regH_k); exact KIs.mk rfl; (focus ((with_reducible apply EnvIs.mk); simp only [SE, Nat.reduceEqDiff, Nat.reduceAdd, reduceCtorEq]; try exact rfl)); clear H) | exact KIs.mk rfl | (with_reducible first | apply Ev.seq | apply EvO.nil | apply zA | apply Ev.ret | apply zB | apply Ev.skip | apply Ev.exit | apply Ev.block | apply zC | apply zD | apply zE | apply zF | apply zH | apply zI) | ((with_reducible refine endN_rT (vs := ?_) ?_ ?_); rotate_left) | ((with_reducible refine zG ?_ ?_); exact rfl) | ((with_reducible refine Ev.drawnH ?_ ?_); (focus kernel_rfl); intro H) | ((with_reducible refine EvT.nil ?_); refine ⟨drawn_mk (hs := []) (by repeat' (first | exact trivial | refine ⟨.inl rfl, ?_⟩ | refine ⟨.inr rfl, ?_⟩ | (refine ⟨.inr ?_, ?_⟩; (focus (simp only [app_app, List.cons_append, List.nil_append, len_app, List.length_cons, List.length_nil, len_lit, Nat.zero_add, Nat.reduceAdd]; done))))) (by kernel_rfl) ?_, ?_⟩) | with_reducible exact List.forall_mem_nil _ | with_reducible refine List.forall_mem_cons.2 ⟨?_, ?_⟩ | ((with_reducible apply stab_off); exact rfl; exact rfl) | ((with_reducible apply stab_mk); exact rfl; exact rfl; exact rfl; exact rfl) | ((first | (intro (c' : Bool) hc; cases c') | intro hc) <;> first | (cases hc; done) | (try simp only [HC, inB_it, inB_if] at hc)) | fail)
    all_goals exact ⟨.inr rfl, fun S₂ hk => ⟨rfl, Kp.kept hk (Kept.app _ _)⟩⟩
   | true =>
    have h3 := hik
    simp only [inB, Bool.and_eq_true, decide_eq_true_eq] at h3
    obtain ⟨kx, rfl⟩ : ∃ n' : Nat, kx = (n' : Int) := ⟨kx.toNat, by omega⟩
    have hkl : kx < l[n].length := by omega
    simp only [hik, Int.toNat_natCast, List.getElem?_eq_getElem hkl, Bool.true_and, Bool.not_eq_false', beq_iff_eq] at hg
    have hde : (l[n][kx].data.toList == (ByteArray.mk #[]).toList) = true := by rw [dataE, hg]; rfl
    repeat' (first | ((with_reducible apply EvO.off); exact rfl; exact rfl) | ((with_reducible apply EvT.off); exact rfl; exact rfl) | ((first | ((with_reducible apply EvO.call (vs := ?_)); exact rfl; exact rfl) | ((with_reducible apply EvT.call (vs := ?_)); exact rfl; exact rfl) | (with_reducible apply Cal.hd (ms := []) (p := ?_)) | ((with_reducible refine qA ?_ ?_ ?_ ?_ ?_); rotate_left 2; exact rfl) | ((with_reducible refine qB ?_ ?_ ?_ ?_); rotate_left 2) | ((with_reducible apply EvO.cons); exact rfl) | ((with_reducible refine qC ?_ ?_ ?_ ?_ ?_ ?_); rotate_left 2; exact rfl; exact rfl) | ((with_reducible refine qD ?_ ?_ ?_ ?_ ?_); rotate_left 2; exact rfl) | ((with_reducible apply EvT.cons); exact rfl; exact rfl) | ((with_reducible apply EvO.guard); exact rfl; exact rfl) | ((with_reducible apply EvT.guard); exact rfl; exact rfl) | ((with_reducible refine Ev.cond (t := ?_) ?_ ?_ ?_); rotate_left) | skip); (focus ((with_reducible refine Eq.trans ?_ rfl); simp (disch := first | (intros; contradiction) | (as_aux_lemma => first | omega | (simp only [LEN]; try omega))) only [EV, TT, w, w0, fz, yD, yF, yA, yB, yE, yC, hgg, hin, hik, hde, Nat.reduceEqDiff, Nat.reduceBeqDiff, Nat.reduceAdd, Nat.reduceMul, Nat.reduceLeDiff, Nat.reduceLT, reduceCtorEq, Int.reduceEq, Int.reduceNeg, FIN, DP]; first | done | exact rfl)); try exact rfl) | ((with_reducible apply CalH.mk); intro hd; first | exact c9 hd | exact c26 hd | exact c41 hd) | (with_reducible (first | rintro r S' ⟨rfl, rfl⟩ | rintro r S' ⟨id, ids, id2, rfl, hC, hall, hold⟩); refine ⟨_, rfl, ?_⟩) | ((with_reducible refine Ev.regionH ?_); intro H) | ((with_reducible apply regH_k); exact KIs.mk rfl; (focus ((with_reducible apply EnvIs.mk); simp only [SE, Nat.reduceEqDiff, Nat.reduceAdd, reduceCtorEq]; try exact rfl)); clear H) | exact KIs.mk rfl | (with_reducible first | apply Ev.seq | apply EvO.nil | apply zA | apply Ev.ret | apply zB | apply Ev.skip | apply Ev.exit | apply Ev.block | apply zC | apply zD | apply zE | apply zF | apply zH | apply zI) | ((with_reducible refine endN_rT (vs := ?_) ?_ ?_); rotate_left) | ((with_reducible refine zG ?_ ?_); exact rfl) | ((with_reducible refine Ev.drawnH ?_ ?_); (focus kernel_rfl); intro H) | ((with_reducible refine EvT.nil ?_); refine ⟨drawn_mk (hs := []) (by repeat' (first | exact trivial | refine ⟨.inl rfl, ?_⟩ | refine ⟨.inr rfl, ?_⟩ | (refine ⟨.inr ?_, ?_⟩; (focus (simp only [app_app, List.cons_append, List.nil_append, len_app, List.length_cons, List.length_nil, len_lit, Nat.zero_add, Nat.reduceAdd]; done))))) (by kernel_rfl) ?_, ?_⟩) | with_reducible exact List.forall_mem_nil _ | with_reducible refine List.forall_mem_cons.2 ⟨?_, ?_⟩ | ((with_reducible apply stab_off); exact rfl; exact rfl) | ((with_reducible apply stab_mk); exact rfl; exact rfl; exact rfl; exact rfl) | ((first | (intro (c' : Bool) hc; cases c') | intro hc) <;> first | (cases hc; done) | (try simp only [HC, inB_it, inB_if] at hc)) | fail)
    all_goals exact ⟨.inr rfl, fun S₂ hk => ⟨rfl, Kp.kept hk (Kept.app _ _)⟩⟩
theorem k18_7 (e : Env) : lpE (FI.K ⟨[], false, [(7, [6, 8, 9, 10, 67, 68]), (1000, [1, 2, 3, 6]), (1001, [1, 2, 3, 6, 49]), (1002, [6, 7]), (1003, [1, 2, 6, 8]), (1004, [6, 8, 9]), (1005, [6, 8, 9, 10]), (1006, [6, 8, 9, 10, 67, 68]), (1007, [6, 8, 9, 10, 67, 68, 69]), (1008, [6, 8, 9, 10, 11, 67, 68]), (1009, [6, 8, 9, 10, 67, 68]), (1010, [6, 8, 9, 10, 67, 68]), (1011, [6, 8]), (1012, [6, 7]), (999999, [])]⟩ 7) e = mkE [(6, e 6), (8, e 8), (9, e 9), (10, e 10), (67, e 67), (68, e 68)] := rfl
theorem c18_no {k : Nat} {md : Md} {S : Store} {vs : List A} {D : List Nat} {kk mm : Int} {l : List (List Cell)} {q : List Object} {n kx : Int} (hd : dpArgs S [] vs = some ([.ag [(.v (.int .i64 (kk))), (.v (.int .i64 (mm))), .ro 1 (l.map nodeC), .ro 2 (q.map Object.c)], (.v (.int .i64 (n))), (.v (.int .i64 (kx)))], D)) (hg : okS kk mm l q n kx = false := by first | assumption | omega | with_reducible rfl) (hn : l.length ≤ 1048576 := by first | assumption | omega | with_reducible rfl) (hq : q.length ≤ 1048576 := by first | assumption | omega | with_reducible rfl) (hcs : ∀ c ∈ l, c.length ≤ 1048576 := by first | assumption | omega | with_reducible rfl) (hns : ∀ c ∈ l, ∀ x ∈ c, x.name.size ≤ 1048576 := by first | assumption | omega | with_reducible rfl) (hqs : ∀ o ∈ q, o.name.size ≤ 9223372036854775807 := by first | assumption | omega | with_reducible rfl) (hk : 12 ≤ k := by omega) :
  Cal (run k) md 18 vs S (fun r S' => r = .tu [.ag [(.v (.int .i64 (0))), (.v (.int .i64 (0))), .v (.slice none 0 0), .v (.slice none 0 0)], (.v (.bool (false)))] ∧ Kept S S') := by
 obtain ⟨k, rfl⟩ : ∃ j, k = j + 1 := ⟨k - 1, by omega⟩
 refine Cal.fnN (n := 84) (rs := [.cell 6 31, .tmp 7]) (D := D) (Xof_none rfl) g18 (by delta Tryd.f18; exact rfl) (by delta Tryd.f18; exact rfl) (by delta Tryd.f18; exact rfl) hd rfl (by first | exact .inr (by assumption) | exact .inl rfl | exact .inl (by simp [idsV, idsC])) (by simp) ?_
 intro md' ow; have w := ow.w; have w0 := ow.w0; have fz : md'.fz = false := ow.fz
 unfold okS at hg
 cases hgg : goodC kk mm l q with
 | false =>
  repeat' (first | ((with_reducible apply EvO.off); exact rfl; exact rfl) | ((first | ((with_reducible apply EvO.call (vs := ?_)); exact rfl; exact rfl) | (with_reducible apply Cal.hd (ms := []) (p := ?_)) | ((with_reducible refine qA ?_ ?_ ?_ ?_ ?_); rotate_left 2; exact rfl) | ((with_reducible refine qB ?_ ?_ ?_ ?_); rotate_left 2) | ((with_reducible apply EvO.cons); exact rfl) | ((with_reducible apply EvO.guard); exact rfl; exact rfl) | ((with_reducible refine Ev.cond (t := ?_) ?_ ?_ ?_); rotate_left) | skip); (focus ((with_reducible refine Eq.trans ?_ rfl); simp (disch := first | (intros; contradiction) | (as_aux_lemma => first | omega | (simp only [LEN]; try omega))) only [EV, TT, w, w0, fz, yD, yF, yA, yB, yE, yC, hgg, Nat.reduceEqDiff, Nat.reduceBeqDiff, Nat.reduceAdd, Nat.reduceMul, Nat.reduceLeDiff, Nat.reduceLT, reduceCtorEq, Int.reduceEq, Int.reduceNeg, FIN, DP]; first | done | exact rfl)); try exact rfl) | ((with_reducible apply CalH.mk); intro hd; first | exact c11 hd | exact c34 hd | exact c42 hd) | (with_reducible (first | rintro r S' ⟨rfl, rfl⟩ | rintro r S' ⟨id, ids, id2, rfl, hC, hall, hold⟩); refine ⟨_, rfl, ?_⟩) | ((with_reducible refine Ev.regionH ?_); intro H) | ((with_reducible apply regH_k); exact KIs.mk rfl; (focus ((with_reducible apply EnvIs.mk); simp only [SE, Nat.reduceEqDiff, Nat.reduceAdd, reduceCtorEq]; try exact rfl)); clear H) | exact KIs.mk rfl | (with_reducible first | apply Ev.seq | apply EvO.nil | apply zA | apply Ev.ret | apply zB | apply Ev.skip | apply Ev.exit | apply Ev.block | apply zC | apply zD | apply zE | apply zF | apply zH | apply zI) | ((with_reducible refine endN_rT (vs := ?_) ?_ ?_); rotate_left) | ((with_reducible refine zG ?_ ?_); exact rfl) | ((first | (intro (c' : Bool) hc; cases c') | intro hc) <;> first | (cases hc; done) | (try simp only [HC, inB_it, inB_if] at hc)) | fail)
  all_goals exact ⟨.inr rfl, fun S₂ hk => ⟨rfl, Kp.kept hk (Kept.app _ _)⟩⟩
 | true =>
  cases hin : inB n 0 ((l.length : Int) - 1) with
  | false =>
   repeat' (first | ((with_reducible apply EvO.off); exact rfl; exact rfl) | ((first | ((with_reducible apply EvO.call (vs := ?_)); exact rfl; exact rfl) | (with_reducible apply Cal.hd (ms := []) (p := ?_)) | ((with_reducible refine qA ?_ ?_ ?_ ?_ ?_); rotate_left 2; exact rfl) | ((with_reducible refine qB ?_ ?_ ?_ ?_); rotate_left 2) | ((with_reducible apply EvO.cons); exact rfl) | ((with_reducible apply EvO.guard); exact rfl; exact rfl) | ((with_reducible refine Ev.cond (t := ?_) ?_ ?_ ?_); rotate_left) | skip); (focus ((with_reducible refine Eq.trans ?_ rfl); simp (disch := first | (intros; contradiction) | (as_aux_lemma => first | omega | (simp only [LEN]; try omega))) only [EV, TT, w, w0, fz, yD, yF, yA, yB, yE, yC, hgg, hin, Nat.reduceEqDiff, Nat.reduceBeqDiff, Nat.reduceAdd, Nat.reduceMul, Nat.reduceLeDiff, Nat.reduceLT, reduceCtorEq, Int.reduceEq, Int.reduceNeg, FIN, DP]; first | done | exact rfl)); try exact rfl) | ((with_reducible apply CalH.mk); intro hd; first | exact c11 hd | exact c34 hd | exact c42 hd) | (with_reducible (first | rintro r S' ⟨rfl, rfl⟩ | rintro r S' ⟨id, ids, id2, rfl, hC, hall, hold⟩); refine ⟨_, rfl, ?_⟩) | ((with_reducible refine Ev.regionH ?_); intro H) | ((with_reducible apply regH_k); exact KIs.mk rfl; (focus ((with_reducible apply EnvIs.mk); simp only [SE, Nat.reduceEqDiff, Nat.reduceAdd, reduceCtorEq]; try exact rfl)); clear H) | exact KIs.mk rfl | (with_reducible first | apply Ev.seq | apply EvO.nil | apply zA | apply Ev.ret | apply zB | apply Ev.skip | apply Ev.exit | apply Ev.block | apply zC | apply zD | apply zE | apply zF | apply zH | apply zI) | ((with_reducible refine endN_rT (vs := ?_) ?_ ?_); rotate_left) | ((with_reducible refine zG ?_ ?_); exact rfl) | ((first | (intro (c' : Bool) hc; cases c') | intro hc) <;> first | (cases hc; done) | (try simp only [HC, inB_it, inB_if] at hc)) | fail)
   all_goals exact ⟨.inr rfl, fun S₂ hk => ⟨rfl, Kp.kept hk (Kept.app _ _)⟩⟩
  | true =>
   have h2 := hin
   simp only [inB, Bool.and_eq_true, decide_eq_true_eq] at h2
   obtain ⟨n, rfl⟩ : ∃ n' : Nat, n = (n' : Int) := ⟨n.toNat, by omega⟩
   have hnl : n < l.length := by omega
   have hnz := hcs l[n] (by simp)
   simp only [hgg, hin, Int.toNat_natCast, List.getElem?_eq_getElem hnl, Bool.true_and] at hg
   cases hik : inB kx 0 ((l[n].length : Int) - 1) with
   | false =>
    repeat' (first | ((with_reducible apply EvO.off); exact rfl; exact rfl) | ((first | ((with_reducible apply EvO.call (vs := ?_)); exact rfl; exact rfl) | (with_reducible apply Cal.hd (ms := []) (p := ?_)) | ((with_reducible refine qA ?_ ?_ ?_ ?_ ?_); rotate_left 2; exact rfl) | ((with_reducible refine qB ?_ ?_ ?_ ?_); rotate_left 2) | ((with_reducible apply EvO.cons); exact rfl) | ((with_reducible apply EvO.guard); exact rfl; exact rfl) | ((with_reducible refine Ev.cond (t := ?_) ?_ ?_ ?_); rotate_left) | skip); (focus ((with_reducible refine Eq.trans ?_ rfl); simp (disch := first | (intros; contradiction) | (as_aux_lemma => first | omega | (simp only [LEN]; try omega))) only [EV, TT, w, w0, fz, yD, yF, yA, yB, yE, yC, hgg, hin, hik, Nat.reduceEqDiff, Nat.reduceBeqDiff, Nat.reduceAdd, Nat.reduceMul, Nat.reduceLeDiff, Nat.reduceLT, reduceCtorEq, Int.reduceEq, Int.reduceNeg, FIN, DP]; first | done | exact rfl)); try exact rfl) | ((with_reducible apply CalH.mk); intro hd; first | exact c11 hd | exact c34 hd | exact c42 hd) | (with_reducible (first | rintro r S' ⟨rfl, rfl⟩ | rintro r S' ⟨id, ids, id2, rfl, hC, hall, hold⟩); refine ⟨_, rfl, ?_⟩) | ((with_reducible refine Ev.regionH ?_); intro H) | ((with_reducible apply regH_k); exact KIs.mk rfl; (focus ((with_reducible apply EnvIs.mk); simp only [SE, Nat.reduceEqDiff, Nat.reduceAdd, reduceCtorEq]; try exact rfl)); clear H) | exact KIs.mk rfl | (with_reducible first | apply Ev.seq | apply EvO.nil | apply zA | apply Ev.ret | apply zB | apply Ev.skip | apply Ev.exit | apply Ev.block | apply zC | apply zD | apply zE | apply zF | apply zH | apply zI) | ((with_reducible refine endN_rT (vs := ?_) ?_ ?_); rotate_left) | ((with_reducible refine zG ?_ ?_); exact rfl) | ((first | (intro (c' : Bool) hc; cases c') | intro hc) <;> first | (cases hc; done) | (try simp only [HC, inB_it, inB_if] at hc)) | fail)
    all_goals exact ⟨.inr rfl, fun S₂ hk => ⟨rfl, Kp.kept hk (Kept.app _ _)⟩⟩
   | true =>
    have h3 := hik
    simp only [inB, Bool.and_eq_true, decide_eq_true_eq] at h3
    obtain ⟨kx, rfl⟩ : ∃ n' : Nat, kx = (n' : Int) := ⟨kx.toNat, by omega⟩
    have hkl : kx < l[n].length := by omega
    simp only [hik, Int.toNat_natCast, List.getElem?_eq_getElem hkl, Bool.true_and, Bool.not_eq_false', beq_iff_eq] at hg
    have hde : (l[n][kx].data.toList == (ByteArray.mk #[]).toList) = true := by rw [dataE, hg]; rfl
    repeat' (first | ((with_reducible apply EvO.off); exact rfl; exact rfl) | ((first | ((with_reducible apply EvO.call (vs := ?_)); exact rfl; exact rfl) | (with_reducible apply Cal.hd (ms := []) (p := ?_)) | ((with_reducible refine qA ?_ ?_ ?_ ?_ ?_); rotate_left 2; exact rfl) | ((with_reducible refine qB ?_ ?_ ?_ ?_); rotate_left 2) | ((with_reducible apply EvO.cons); exact rfl) | ((with_reducible apply EvO.guard); exact rfl; exact rfl) | ((with_reducible refine Ev.cond (t := ?_) ?_ ?_ ?_); rotate_left) | skip); (focus ((with_reducible refine Eq.trans ?_ rfl); simp (disch := first | (intros; contradiction) | (as_aux_lemma => first | omega | (simp only [LEN]; try omega))) only [EV, TT, w, w0, fz, yD, yF, yA, yB, yE, yC, hgg, hin, hik, hde, Nat.reduceEqDiff, Nat.reduceBeqDiff, Nat.reduceAdd, Nat.reduceMul, Nat.reduceLeDiff, Nat.reduceLT, reduceCtorEq, Int.reduceEq, Int.reduceNeg, FIN, DP]; first | done | exact rfl)); try exact rfl) | ((with_reducible apply CalH.mk); intro hd; first | exact c11 hd | exact c34 hd | exact c42 hd) | (with_reducible (first | rintro r S' ⟨rfl, rfl⟩ | rintro r S' ⟨id, ids, id2, rfl, hC, hall, hold⟩); refine ⟨_, rfl, ?_⟩) | ((with_reducible refine Ev.regionH ?_); intro H) | ((with_reducible apply regH_k); exact KIs.mk rfl; (focus ((with_reducible apply EnvIs.mk); simp only [SE, Nat.reduceEqDiff, Nat.reduceAdd, reduceCtorEq]; try exact rfl)); clear H) | exact KIs.mk rfl | (with_reducible first | apply Ev.seq | apply EvO.nil | apply zA | apply Ev.ret | apply zB | apply Ev.skip | apply Ev.exit | apply Ev.block | apply zC | apply zD | apply zE | apply zF | apply zH | apply zI) | ((with_reducible refine endN_rT (vs := ?_) ?_ ?_); rotate_left) | ((with_reducible refine zG ?_ ?_); exact rfl) | ((first | (intro (c' : Bool) hc; cases c') | intro hc) <;> first | (cases hc; done) | (try simp only [HC, inB_it, inB_if] at hc)) | fail)
    all_goals exact ⟨.inr rfl, fun S₂ hk => ⟨rfl, Kp.kept hk (Kept.app _ _)⟩⟩
end Go.Proofs.YtdpaijnbikclgaaDoorB
