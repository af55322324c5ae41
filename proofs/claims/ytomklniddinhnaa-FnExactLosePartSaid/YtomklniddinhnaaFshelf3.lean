/- Part of the evaluator's contracts: shelf3. -/
import Derived.Test.YtomklniddinhnaaFshelf1
import Derived.Test.YtomklniddinhnaaFshelf2
import Derived.Test.YtomklniddinhnaaFslPart
namespace Go.Proofs.YtomklniddinhnaaB
open Go Go.Proofs.YtomklniddinhnaaE
set_option linter.unusedVariables false
set_option linter.unusedSectionVars false
set_option linter.unusedSimpArgs false
set_option maxHeartbeats 4000000
set_option maxRecDepth 20000
theorem c36 {k : Nat} {md : Md} {S : Store} {vs : List A} {D : List Nat} {a b : Int} {s : ByteArray} (hd : dpArgs S [] vs = some ([.ag [(.v (.int .i64 (a))), (.v (.int .i64 (b))), (.v (.string (s)))]], D))  (hk : 1 ≤ k) :
    Cal (run k) md 36 vs S (fun r S' => r = (.v (.bool (false))) ∧ S' = S) := by
  obtain ⟨k, rfl⟩ : ∃ j, k = j + 1 := ⟨k - 1, by omega⟩
  refine Cal.fn (n := 3) (rs := [.tmp 2]) (ids := []) (D := D) (Xof_none rfl) g36 (by delta Try.f36; exact rfl) (by delta Try.f36; exact rfl) (by delta Try.f36; exact rfl) hd (by first | rfl | simp [idsV, idsC]) (by simp) (by simp) ?_
  intro md' ow; have w := ow.w; have w0 := ow.w0; have fz : md'.fz = false := ow.fz
  repeat' (first
    | ((with_reducible apply EvO.off); (focus (exact rfl)); (focus (exact rfl)))
    | ((first | ((with_reducible refine EvO.c1 (a := ?_) (S' := ?_) ?_ ?_ ?_); rotate_left 2; (focus (exact rfl))) | ((with_reducible refine EvO.c0 (a := ?_) (S' := ?_) ?_ ?_); rotate_left 2) | ((with_reducible apply EvO.cons); (focus (exact rfl))) | ((with_reducible apply EvO.guard); (focus (exact rfl)); (focus (exact rfl))) | ((with_reducible refine Ev.cond (t := ?_) ?_ ?_ ?_); rotate_left) | skip); (focus ((with_reducible refine Eq.trans ?_ rfl); simp (disch := first | (intros; contradiction) | (as_aux_lemma => omega) | (as_aux_lemma => (simp only [LEN2]; first | done | omega)) | (as_aux_lemma => (simp only [LEN]; first | done | omega))) only [EV, TT, w, w0, fz, FX_mark, FX_el_Part, FX_el_Kept, Nat.reduceEqDiff, Nat.reduceBeqDiff, Nat.reduceAdd, Nat.reduceMul, Nat.reduceLeDiff, Nat.reduceLT, reduceCtorEq, Int.reduceEq, Int.reduceNeg, FIN, DP]; first | done | exact rfl)); try (focus (exact rfl)))
    | with_reducible refine Ev.seq ?_
    | ((with_reducible refine Ev.regionH ?_); intro H)
    | with_reducible refine EvO.nil ?_
    | ((with_reducible apply regH_k); (focus (exact KIs.mk rfl)); (focus ((with_reducible apply EnvIs.mk); simp only [SE, Nat.reduceEqDiff, Nat.reduceAdd, reduceCtorEq]; first | done | exact rfl)); clear H)
    | exact KIs.mk rfl
    | with_reducible first | refine Ev.skip ?_ | refine Ev.ret ?_ | refine Ev.exit ?_ | refine Ev.block ?_ | refine thenQ_n ?_ | refine thenQ_x ?_ | refine thenQ_r ?_ | refine blockQ_n ?_ | refine blockQ_r ?_ | refine blockQ_x0 ?_ | refine roundQ_x ?_ | refine roundQ_r ?_
    | ((with_reducible refine endQ_r (vs := ?_) (vs' := ?_) (S₂ := ?_) ?_ ?_ ?_); rotate_left 3)
    | ((with_reducible refine blockQ_x1 ?_ ?_); exact rfl)
    | (intro c' hc; cases c' <;> first | (cases hc; done) | (try simp only [HC, inB_it, inB_if] at hc))
    | (intro hc; first | (cases hc; done) | (try simp only [HC, inB_it, inB_if] at hc))
    | fail)
  exact ⟨rfl, rfl⟩
theorem k63_5 (e : Env) : lpE (FI.K ⟨[true], false, [(5, [0, 1, 5, 6]), (1000, [0, 1]), (1001, [0, 1, 5]), (1002, [0, 1, 5, 12]), (1003, [4]), (1004, [0, 1, 5, 6]), (1005, [0, 1, 5, 6, 19]), (1006, [0, 1, 5, 6]), (1007, [0, 1, 5, 6, 7]), (1008, [0, 1, 5, 6, 7, 29]), (1009, [0, 1, 5, 6]), (1010, [0, 1, 5, 6]), (1011, [0, 5]), (1012, [4])]⟩ 5) e = mkE [(0, e 0), (1, e 1), (5, e 5), (6, e 6)] := rfl
theorem c63_nb {k : Nat} {md : Md} {S : Store} {vs : List A} {D : List Nat} {id : Nat} {l : List Part} (hd : dpArgs S [true] vs = some ([.sl id 0 l.length l.length, .fn 36 []], D)) (hD : (D.all fun i => !([id] : List Nat).contains i) = true) (hn : l.length ≤ 1048576) (hid : S[id]? = some ⟨3, l.map Part.c, 0, false⟩) (hw : md.wr id = true) (hk : 6 ≤ k) :
    Cal (run k) md 63 vs S (fun r S' => r = .sl id 0 l.length l.length ∧ S' = S) := by
  obtain ⟨k, rfl⟩ : ∃ j, k = j + 1 := ⟨k - 1, by omega⟩
  refine Cal.fn (n := 42) (rs := [.tmp 4]) (ids := [id]) (D := D) (Xof_none rfl) g63 (by delta Try.f63; exact rfl) (by delta Try.f63; exact rfl) (by delta Try.f63; exact rfl) hd (by first | rfl | simp [idsV, idsC]) hD (by simp) ?_
  intro md' ow; have w := ow.w; have w0 := ow.w0; have fz : md'.fz = false := ow.fz
  have hlt0 := (List.getElem?_eq_some_iff.1 hid).1
  have wi := ow.old id (by simp) hw
  have hidx : idxI (fun _ => false) l = -1 := idxI_none (fun _ _ => rfl)
  repeat' (first
    | ((with_reducible apply EvO.off); (focus (exact rfl)); (focus (exact rfl)))
    | ((first | ((with_reducible apply EvO.call (vs := ?_)); (focus (exact rfl)); (focus (exact rfl))) | (with_reducible apply Cal.hd (ms := []) (p := ?_)) | ((with_reducible refine EvO.c1 (a := ?_) (S' := ?_) ?_ ?_ ?_); rotate_left 2; (focus (exact rfl))) | ((with_reducible refine EvO.c0 (a := ?_) (S' := ?_) ?_ ?_); rotate_left 2) | ((with_reducible apply EvO.cons); (focus (exact rfl))) | ((with_reducible apply EvO.guard); (focus (exact rfl)); (focus (exact rfl))) | ((with_reducible refine Ev.cond (t := ?_) ?_ ?_ ?_); rotate_left) | skip); (focus ((with_reducible refine Eq.trans ?_ rfl); simp (disch := first | (intros; contradiction) | (as_aux_lemma => omega) | (as_aux_lemma => (simp only [LEN2]; first | done | omega)) | (as_aux_lemma => (simp only [LEN]; first | done | omega))) only [EV, TT, EVM, w, w0, fz, FX_mark, FX_el_Part, FX_el_Kept, hlt0, hid, hw, hidx, Nat.reduceEqDiff, Nat.reduceBeqDiff, Nat.reduceAdd, Nat.reduceMul, Nat.reduceLeDiff, Nat.reduceLT, reduceCtorEq, Int.reduceEq, Int.reduceNeg, FIN, DP]; first | done | exact rfl)); try (focus (exact rfl)))
    | ((with_reducible apply CalH.mk); intro hd; first | exact c89 (hd := hd) (hD := by first | rfl | simp) (hn := by first | assumption | omega | with_reducible rfl) (d := 3) (p := fun _ => false) (g := 36) (hcl := fun x _ k md hk => c36 (hd := rfl) (hk := by omega)) (hmu := rfl) (hmf := rfl) (hk := by omega))
    | (with_reducible (first | rintro r S' ⟨rfl, rfl⟩); refine ⟨_, rfl, ?_⟩)
    | with_reducible refine Ev.seq ?_
    | ((with_reducible refine Ev.regionH ?_); intro H)
    | with_reducible refine EvO.nil ?_
    | ((with_reducible apply regH_k); (focus (exact KIs.mk rfl)); (focus ((with_reducible apply EnvIs.mk); simp only [SE, Nat.reduceEqDiff, Nat.reduceAdd, reduceCtorEq]; first | done | exact rfl)); clear H)
    | exact KIs.mk rfl
    | with_reducible first | refine Ev.skip ?_ | refine Ev.ret ?_ | refine Ev.exit ?_ | refine Ev.block ?_ | refine thenQ_n ?_ | refine thenQ_x ?_ | refine thenQ_r ?_ | refine blockQ_n ?_ | refine blockQ_r ?_ | refine blockQ_x0 ?_ | refine roundQ_x ?_ | refine roundQ_r ?_
    | ((with_reducible refine endQ_r (vs := ?_) (vs' := ?_) (S₂ := ?_) ?_ ?_ ?_); rotate_left 3)
    | ((with_reducible refine blockQ_x1 ?_ ?_); exact rfl)
    | (intro c' hc; cases c' <;> first | (cases hc; done) | (try simp only [HC, inB_it, inB_if] at hc))
    | (intro hc; first | (cases hc; done) | (try simp only [HC, inB_it, inB_if] at hc))
    | fail)
  all_goals exact ⟨rfl, rfl⟩
theorem del_rows {m : List (List A)} {i n : Nat} {z : List A} (hn : m.length = n) (hi : i < n) :
    List.take (i + (n - (i + 1))) (List.take i m ++ List.drop (i + 1) m ++ List.drop (i + (n - (i + 1))) m) ++ List.replicate (n - (i + (n - (i + 1)))) z ++ List.drop (i + (n - (i + 1)) + (n - (i + (n - (i + 1))))) (List.take i m ++ List.drop (i + 1) m ++ List.drop (i + (n - (i + 1))) m) = m.eraseIdx i ++ [z] := by
  have e1 : i + (n - (i + 1)) = n - 1 := by omega
  have e2 : n - (n - 1) = 1 := by omega
  have e3 : (List.take i m ++ List.drop (i + 1) m).length = n - 1 := by simp; omega
  have e4 : List.drop (n - 1 + 1) (List.take i m ++ List.drop (i + 1) m ++ List.drop (n - 1) m) = [] := List.drop_eq_nil_of_le (by rw [List.length_append, e3, List.length_drop]; omega)
  rw [e1, e2, e4, List.take_left' e3, List.append_nil, List.eraseIdx_eq_take_drop_succ]
  rfl
theorem c37_one {k : Nat} {md : Md} {S : Store} {vs : List A} {D : List Nat} {id i : Nat} {l : List Part} (hd : dpArgs S [true] vs = some ([.sl id 0 l.length l.length, (.v (.int .i64 ((i : Int)))), (.v (.int .i64 ((i : Int) + 1)))], D)) (hD : (D.all fun i => !([id] : List Nat).contains i) = true) (hn : l.length ≤ 1048576) (hi : i < l.length) (hid : S[id]? = some ⟨3, l.map Part.c, 0, false⟩) (hw : md.wr id = true) (hk : 1 ≤ k) :
    Cal (run k) md 37 vs S (fun r S' => r = .sl id 0 (l.length - 1) l.length ∧ S' = S.set id ⟨3, (l.eraseIdx i).map Part.c ++ [[.v (.int .i64 0), .v (.int .i64 0), .v (.string ⟨#[]⟩)]], 0, false⟩) := by
  obtain ⟨k, rfl⟩ : ∃ j, k = j + 1 := ⟨k - 1, by omega⟩
  refine Cal.fn (n := 33) (rs := [.tmp 6]) (ids := [id]) (D := D) (Xof_none rfl) g37 (by delta Try.f37; exact rfl) (by delta Try.f37; exact rfl) (by delta Try.f37; exact rfl) hd (by first | rfl | simp [idsV, idsC]) hD (by simp) ?_
  intro md' ow; have w := ow.w; have w0 := ow.w0; have fz : md'.fz = false := ow.fz
  have hlt0 := (List.getElem?_eq_some_iff.1 hid).1
  have wi := ow.old id (by simp) hw
  have h5 : ((i : Int) == (i : Int) + 1) = false := by simp; omega
  have t1 : ((i : Int) + 1).toNat = i + 1 := by omega
  have hlr : leafRows (List.drop (i + 1) (List.map Part.c l)) = true := by rw [← List.map_drop]; exact lf_Part _
  have hld : (List.drop (i + 1) (List.map Part.c l)).length = l.length - (i + 1) := by simp
  have hb6 : (List.take i (List.map Part.c l) ++ List.drop (i + 1) (List.map Part.c l) ++ List.drop (i + (l.length - (i + 1))) (List.map Part.c l)).length = l.length := by simp; omega
  have hdr := del_rows (m := l.map Part.c) (n := l.length) (i := i) (z := [.v (.int .i64 0), .v (.int .i64 0), .v (.string ⟨#[]⟩)]) (by simp) hi
  have hme : (l.map Part.c).eraseIdx i = (l.eraseIdx i).map Part.c := by rw [List.eraseIdx_eq_take_drop_succ, List.eraseIdx_eq_take_drop_succ, List.map_append, List.map_take, List.map_drop]
  repeat' (first
    | ((with_reducible apply EvO.off); (focus (exact rfl)); (focus (exact rfl))) | ((with_reducible apply EvT.off); (focus (exact rfl)); (focus (exact rfl)))
    | ((first | ((with_reducible refine EvO.c1 (a := ?_) (S' := ?_) ?_ ?_ ?_); rotate_left 2; (focus (exact rfl))) | ((with_reducible refine EvO.c0 (a := ?_) (S' := ?_) ?_ ?_); rotate_left 2) | ((with_reducible apply EvO.cons); (focus (exact rfl))) | ((with_reducible refine EvT.c1 (a := ?_) (S' := ?_) ?_ ?_ ?_ ?_); rotate_left 2; (focus (exact rfl)); (focus (exact rfl))) | ((with_reducible refine EvT.c0 (a := ?_) (S' := ?_) ?_ ?_ ?_); rotate_left 2; (focus (exact rfl))) | ((with_reducible apply EvT.cons); (focus (exact rfl)); (focus (exact rfl))) | ((with_reducible apply EvO.guard); (focus (exact rfl)); (focus (exact rfl))) | ((with_reducible apply EvT.guard); (focus (exact rfl)); (focus (exact rfl))) | ((with_reducible refine Ev.cond (t := ?_) ?_ ?_ ?_); rotate_left) | skip); (focus ((with_reducible refine Eq.trans ?_ rfl); simp (disch := first | (intros; contradiction) | (as_aux_lemma => omega) | (as_aux_lemma => (simp only [LEN2]; first | done | omega)) | (as_aux_lemma => (simp only [LEN]; first | done | omega))) only [EV, TT, EVM, w, w0, fz, FX_mark, FX_el_Part, FX_el_Kept, hdr, hme, hw, hb6, wi, hlr, hld, t1, h5, hlt0, hid, Nat.reduceEqDiff, Nat.reduceBeqDiff, Nat.reduceAdd, Nat.reduceMul, Nat.reduceLeDiff, Nat.reduceLT, reduceCtorEq, Int.reduceEq, Int.reduceNeg, FIN, DP]; first | done | exact rfl)); try (focus (exact rfl)))
    | with_reducible refine Ev.seq ?_
    | ((with_reducible refine Ev.regionH ?_); intro H)
    | with_reducible refine EvO.nil ?_
    | ((with_reducible apply regH_k); (focus (exact KIs.mk rfl)); (focus ((with_reducible apply EnvIs.mk); simp only [SE, Nat.reduceEqDiff, Nat.reduceAdd, reduceCtorEq]; first | done | exact rfl)); clear H)
    | exact KIs.mk rfl
    | with_reducible first | refine Ev.skip ?_ | refine Ev.ret ?_ | refine Ev.exit ?_ | refine Ev.block ?_ | refine thenQ_n ?_ | refine thenQ_x ?_ | refine thenQ_r ?_ | refine blockQ_n ?_ | refine blockQ_r ?_ | refine blockQ_x0 ?_ | refine roundQ_x ?_ | refine roundQ_r ?_
    | ((with_reducible refine endQ_r (vs := ?_) (vs' := ?_) (S₂ := ?_) ?_ ?_ ?_); rotate_left 3)
    | ((with_reducible refine blockQ_x1 ?_ ?_); exact rfl)
    | ((with_reducible refine Ev.drawnH ?_ ?_); (focus kernel_rfl); intro H)
    | ((with_reducible refine EvT.nil ?_); refine ⟨drawn_mk (hs := []) (by repeat' (first | exact trivial | refine ⟨.inl rfl, ?_⟩ | refine ⟨.inr rfl, ?_⟩ | (refine ⟨.inr ?_, ?_⟩; (focus (simp only [app_app, List.cons_append, List.nil_append, len_app, List.length_cons, List.length_nil, len_lit, Nat.zero_add, Nat.reduceAdd]; done))))) (by kernel_rfl) ?_, ?_⟩)
    | with_reducible exact List.forall_mem_nil _
    | with_reducible refine List.forall_mem_cons.2 ⟨?_, ?_⟩
    | ((with_reducible apply stab_off); (focus (exact rfl)); (focus (exact rfl)))
    | ((with_reducible apply stab_mk); (focus (exact rfl)); (focus (exact rfl)); (focus (exact rfl)); (focus (exact rfl)))
    | (intro c' hc; cases c' <;> first | (cases hc; done) | (try simp only [HC, inB_it, inB_if] at hc))
    | (intro hc; first | (cases hc; done) | (try simp only [HC, inB_it, inB_if] at hc))
    | fail)
  exact ⟨by rw [resA, show i + (l.length - (i + 1)) = l.length - 1 by omega], rfl⟩
end Go.Proofs.YtomklniddinhnaaB
