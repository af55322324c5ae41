/- Part of the evaluator's contracts: shelf1. -/
import Derived.Test.YtomklniddinhnaaFstShelf
import Derived.Test.YtomklniddinhnaaFslKept
import Derived.Test.YtomklniddinhnaaFshelfT
import Derived.Test.YtomklniddinhnaaFcmp
import Derived.Test.YtomklniddinhnaaFbase
namespace Go.Proofs.YtomklniddinhnaaB
open Go Go.Proofs.YtomklniddinhnaaE
set_option linter.unusedVariables false
set_option linter.unusedSectionVars false
set_option linter.unusedSimpArgs false
set_option maxHeartbeats 4000000
set_option maxRecDepth 20000
def okKept (k : Kept) : Bool := inB k.tier 1 3 && inB k.size 0 60
def okPart (q : List Kept) (x : Part) : Bool := inB x.gen 1 (q.length + 1) && inB x.no 0 4 && decide ((x.data.size : Int) ≤ 60) &&
  (if x.gen ≤ q.length then match q[(x.gen - 1).toNat]? with | some k => decide (x.no < many k.tier) && decide ((x.data.size : Int) = long k.tier k.size) | none => true else true)
def ltPart (a b : Part) : Bool := decide (a.gen < b.gen) || (decide (a.gen = b.gen) && decide (a.no < b.no))
def goodAt (l : List Part) (q : List Kept) (i : Nat) : Bool := match l[i]? with
  | none => true
  | some x => okPart q x && (match i with | 0 => true | j + 1 => match l[j]? with | some y => ltPart y x | none => true)
def good (l : List Part) (q : List Kept) : Bool := decide (l.length ≤ 40) && inB q.length 1 60 && q.all okKept && (List.range l.length).all (goodAt l q)
theorem okKept_e {k : Kept} (h : okKept k = true) : (1 ≤ k.tier ∧ k.tier ≤ 3) ∧ 0 ≤ k.size ∧ k.size ≤ 60 := by
  simp only [okKept, Bool.and_eq_true, inB_it] at h; exact h
theorem okKept_m {k : Kept} (h1 : 1 ≤ k.tier ∧ k.tier ≤ 3) (h2 : 0 ≤ k.size ∧ k.size ≤ 60) : okKept k = true := by
  simp only [okKept, Bool.and_eq_true, inB_it]; exact ⟨h1, h2⟩
theorem good_t {l : List Part} {q : List Kept} (h1 : l.length ≤ 40) (h2 : inB q.length 1 60 = true) (h3 : ∀ k ∈ q, okKept k = true) (h4 : ∀ i, i < l.length → goodAt l q i = true) : good l q = true := by
  simp only [good, Bool.and_eq_true, decide_eq_true_eq, List.all_eq_true, List.mem_range]; exact ⟨⟨⟨h1, h2⟩, h3⟩, h4⟩
theorem good_e {l : List Part} {q : List Kept} (h : good l q = true) : l.length ≤ 40 ∧ inB q.length 1 60 = true ∧ (∀ k ∈ q, okKept k = true) ∧ ∀ i, i < l.length → goodAt l q i = true := by
  simp only [good, Bool.and_eq_true, decide_eq_true_eq, List.all_eq_true, List.mem_range] at h; exact ⟨h.1.1.1, h.1.1.2, h.1.2, h.2⟩
theorem good_f {l : List Part} {q : List Kept} (h : ¬ (l.length ≤ 40 ∧ inB q.length 1 60 = true ∧ (∀ k ∈ q, okKept k = true) ∧ ∀ i, i < l.length → goodAt l q i = true)) : good l q = false := by
  cases e : good l q with
  | false => rfl
  | true => exact absurd (good_e e) h
/-- what makes a part right at its place, in numbers -/
structure AtP (l : List Part) (q : List Kept) (i : Nat) (h : i < l.length) : Prop where
  g : 1 ≤ l[i].gen ∧ l[i].gen ≤ (q.length : Int) + 1
  n : 0 ≤ l[i].no ∧ l[i].no ≤ 4
  s : (l[i].data.size : Int) ≤ 60
  k : l[i].gen ≤ (q.length : Int) → ∀ hk : (l[i].gen - 1).toNat < q.length, l[i].no < many q[(l[i].gen - 1).toNat].tier ∧ (l[i].data.size : Int) = longW q[(l[i].gen - 1).toNat].tier q[(l[i].gen - 1).toNat].size
  o : ∀ h0 : 0 < i, l[i - 1].gen < l[i].gen ∨ (l[i - 1].gen = l[i].gen ∧ l[i - 1].no < l[i].no)
theorem goodAt_iff {l : List Part} {q : List Kept} (hq : ∀ k ∈ q, okKept k = true) {i : Nat} (h : i < l.length) : goodAt l q i = true ↔ AtP l q i h := by
  have e1 : l[i]? = some l[i] := List.getElem?_eq_getElem h
  have lw : ∀ hk : (l[i].gen - 1).toNat < q.length, longW q[(l[i].gen - 1).toNat].tier q[(l[i].gen - 1).toNat].size = long q[(l[i].gen - 1).toNat].tier q[(l[i].gen - 1).toNat].size := fun hk =>
    longW_eq (by have := (okKept_e (hq _ (List.getElem_mem hk))).2; omega)
  have prev : (match i with | 0 => true | j + 1 => match l[j]? with | some y => ltPart y l[i] | none => true) = true ↔ ∀ h0 : 0 < i, l[i - 1].gen < l[i].gen ∨ (l[i - 1].gen = l[i].gen ∧ l[i - 1].no < l[i].no) := by
    cases i with
    | zero => simp
    | succ j =>
      have e2 : l[j]? = some l[j] := List.getElem?_eq_getElem (by omega)
      simp only [e2, ltPart, Bool.or_eq_true, Bool.and_eq_true, decide_eq_true_eq]
      exact ⟨fun h _ => h, fun h => h (by omega)⟩
  have kk : (if l[i].gen ≤ q.length then match q[(l[i].gen - 1).toNat]? with | some k => decide (l[i].no < many k.tier) && decide ((l[i].data.size : Int) = long k.tier k.size) | none => true else true) = true ↔
      (l[i].gen ≤ (q.length : Int) → ∀ hk : (l[i].gen - 1).toNat < q.length, l[i].no < many q[(l[i].gen - 1).toNat].tier ∧ (l[i].data.size : Int) = longW q[(l[i].gen - 1).toNat].tier q[(l[i].gen - 1).toNat].size) := by
    by_cases hg : l[i].gen ≤ (q.length : Int)
    · rw [if_pos hg]
      by_cases hk : (l[i].gen - 1).toNat < q.length
      · simp only [List.getElem?_eq_getElem hk, Bool.and_eq_true, decide_eq_true_eq]
        exact ⟨fun h _ _ => by rw [lw hk]; exact h, fun h => by have := h hg hk; rw [lw hk] at this; exact this⟩
      · rw [List.getElem?_eq_none (by omega)]; simp only [true_iff]; exact fun _ h => absurd h hk
    · rw [if_neg hg]; simp only [true_iff]; exact fun h => absurd h hg
  simp only [goodAt, e1, okPart, Bool.and_eq_true, inB_it, decide_eq_true_eq]
  rw [prev, kk]
  exact ⟨fun ⟨⟨⟨⟨h1, h2⟩, h3⟩, h4⟩, h5⟩ => ⟨h1, h2, h3, h4, h5⟩, fun h => ⟨⟨⟨⟨h.g, h.n⟩, h.s⟩, h.k⟩, h.o⟩⟩
theorem below_s {P : Nat → Prop} {i : Nat} (h : ∀ j, j < i → P j) (hi : P i) : ∀ j, j < i + 1 → P j := fun j hj => by
  by_cases e : j = i
  · exact e ▸ hi
  · exact h j (by omega)
theorem k28_4 (e : Env) : lpE (FI.K ⟨[], false, [(4, [1, 23, 24, 25]), (10, [1, 41, 42, 43]), (1000, [1]), (1001, [1, 21]), (1002, [2]), (1003, [1, 23, 24, 25]), (1004, [1, 23, 24, 25, 26]), (1005, [1, 4, 23, 24, 25]), (1006, [1, 23, 24, 25, 38]), (1007, [2]), (1008, [1, 23, 24, 25]), (1009, [1, 41, 42, 43]), (1010, [1, 41, 42, 43, 44]), (1011, [1, 5, 6, 41, 42, 43]), (1012, [1, 5, 6, 41, 42, 43, 49]), (1013, [1, 6, 7, 41, 42, 43]), (1014, [1, 6, 41, 42, 43, 74]), (1015, [2]), (1016, [1, 6, 41, 42, 43, 94]), (1017, [2]), (1018, [1, 6, 41, 42, 43, 100]), (1019, [1, 6, 8, 41, 42, 43]), (1020, [1, 6, 8, 9, 41, 42, 43]), (1021, [1, 41, 42, 43, 128]), (1022, [2]), (1023, [1, 41, 42, 43]), (1024, [2])]⟩ 4) e = mkE [(1, e 1), (23, e 23), (24, e 24), (25, e 25)] := rfl
theorem k28_10 (e : Env) : lpE (FI.K ⟨[], false, [(4, [1, 23, 24, 25]), (10, [1, 41, 42, 43]), (1000, [1]), (1001, [1, 21]), (1002, [2]), (1003, [1, 23, 24, 25]), (1004, [1, 23, 24, 25, 26]), (1005, [1, 4, 23, 24, 25]), (1006, [1, 23, 24, 25, 38]), (1007, [2]), (1008, [1, 23, 24, 25]), (1009, [1, 41, 42, 43]), (1010, [1, 41, 42, 43, 44]), (1011, [1, 5, 6, 41, 42, 43]), (1012, [1, 5, 6, 41, 42, 43, 49]), (1013, [1, 6, 7, 41, 42, 43]), (1014, [1, 6, 41, 42, 43, 74]), (1015, [2]), (1016, [1, 6, 41, 42, 43, 94]), (1017, [2]), (1018, [1, 6, 41, 42, 43, 100]), (1019, [1, 6, 8, 41, 42, 43]), (1020, [1, 6, 8, 9, 41, 42, 43]), (1021, [1, 41, 42, 43, 128]), (1022, [2]), (1023, [1, 41, 42, 43]), (1024, [2])]⟩ 10) e = mkE [(1, e 1), (41, e 41), (42, e 42), (43, e 43)] := rfl
theorem c28 {k : Nat} {md : Md} {S : Store} {vs : List A} {D : List Nat} {l : List Part} {q : List Kept} (hd : dpArgs S [] vs = some ([.ag [.ro 3 (l.map Part.c), .ro 2 (q.map Kept.c)]], D)) (hl : l.length ≤ 1048576) (hq : q.length ≤ 1048576) (hk : 3 ≤ k) :
    Cal (run k) md 28 vs S (fun r S' => r = (.v (.bool (good l q))) ∧ S' = S) := by
  obtain ⟨k, rfl⟩ : ∃ j, k = j + 1 := ⟨k - 1, by omega⟩
  refine Cal.fn (n := 130) (rs := [.tmp 2]) (ids := []) (D := D) (Xof_none rfl) g28 (by delta Try.f28; exact rfl) (by delta Try.f28; exact rfl) (by delta Try.f28; exact rfl) hd (by first | rfl | simp [idsV, idsC]) (by simp) (by simp) ?_
  intro md' ow; have w := ow.w; have w0 := ow.w0; have fz : md'.fz = false := ow.fz
  repeat' (first
    | ((with_reducible apply EvO.off); (focus (exact rfl)); (focus (exact rfl))) | ((with_reducible apply EvT.off); (focus (exact rfl)); (focus (exact rfl)))
    | ((first | ((with_reducible apply EvO.call (vs := ?_)); (focus (exact rfl)); (focus (exact rfl))) | ((with_reducible apply EvT.call (vs := ?_)); (focus (exact rfl)); (focus (exact rfl))) | (with_reducible apply Cal.hd (ms := []) (p := ?_)) | ((with_reducible refine EvO.c1 (a := ?_) (S' := ?_) ?_ ?_ ?_); rotate_left 2; (focus (exact rfl))) | ((with_reducible refine EvO.c0 (a := ?_) (S' := ?_) ?_ ?_); rotate_left 2) | ((with_reducible apply EvO.cons); (focus (exact rfl))) | ((with_reducible refine EvT.c1 (a := ?_) (S' := ?_) ?_ ?_ ?_ ?_); rotate_left 2; (focus (exact rfl)); (focus (exact rfl))) | ((with_reducible refine EvT.c0 (a := ?_) (S' := ?_) ?_ ?_ ?_); rotate_left 2; (focus (exact rfl))) | ((with_reducible apply EvT.cons); (focus (exact rfl)); (focus (exact rfl))) | ((with_reducible apply EvO.guard); (focus (exact rfl)); (focus (exact rfl))) | ((with_reducible apply EvT.guard); (focus (exact rfl)); (focus (exact rfl))) | ((with_reducible refine Ev.cond (t := ?_) ?_ ?_ ?_); rotate_left) | skip); (focus ((with_reducible refine Eq.trans ?_ rfl); simp (disch := first | (intros; contradiction) | (as_aux_lemma => omega) | (as_aux_lemma => (simp only [LEN2]; first | done | omega)) | (as_aux_lemma => (simp only [LEN]; first | done | omega))) only [EV, TT, w, w0, fz, FX_mark, FX_el_Part, FX_el_Kept, Nat.reduceEqDiff, Nat.reduceBeqDiff, Nat.reduceAdd, Nat.reduceMul, Nat.reduceLeDiff, Nat.reduceLT, reduceCtorEq, Int.reduceEq, Int.reduceNeg, FIN, DP]; first | done | exact rfl)); try (focus (exact rfl)))
    | ((with_reducible apply CalH.mk); intro hd; first | exact c29 (hd := hd)   (hk := by omega) | exact c44 (hd := hd)   (hk := by omega) | exact c55 (hd := hd)   (hk := by omega) | exact c56 (hd := hd)   (hk := by omega))
    | (with_reducible (first | rintro r S' ⟨rfl, rfl⟩); refine ⟨_, rfl, ?_⟩)
    | with_reducible refine Ev.seq ?_
    | ((with_reducible refine Ev.regionH ?_); intro H)
    | with_reducible refine EvO.nil ?_
    | ((with_reducible apply regH_k); (focus (exact KIs.mk rfl)); (focus ((with_reducible apply EnvIs.mk); simp only [SE, Nat.reduceEqDiff, Nat.reduceAdd, reduceCtorEq]; first | done | exact rfl)); clear H)
    | exact KIs.mk rfl
    | with_reducible first | refine Ev.skip ?_ | refine Ev.ret ?_ | refine Ev.exit ?_ | refine Ev.block ?_ | refine thenQ_n ?_ | refine thenQ_x ?_ | refine thenQ_r ?_ | refine blockQ_n ?_ | refine blockQ_r ?_ | refine blockQ_x0 ?_ | refine roundQ_x ?_ | refine roundQ_r ?_
    | ((with_reducible refine endQ_r (vs := ?_) (vs' := ?_) (S₂ := ?_) ?_ ?_ ?_); rotate_left 3)
    | ((with_reducible refine blockQ_x1 ?_ ?_); exact rfl)
    | ((with_reducible refine Ev.drawnH ?_ ?_); (focus kernel_rfl); intro H)
    | ((with_reducible refine EvT.nil ?_); refine ⟨drawn_mk (hs := [(6, 12)]) (by repeat' (first | exact trivial | refine ⟨.inl rfl, ?_⟩ | refine ⟨.inr rfl, ?_⟩ | (refine ⟨.inr ?_, ?_⟩; (focus (simp only [app_app, List.cons_append, List.nil_append, len_app, List.length_cons, List.length_nil, len_lit, Nat.zero_add, Nat.reduceAdd]; done))))) (by kernel_rfl) ?_, ?_⟩)
    | with_reducible exact List.forall_mem_nil _
    | with_reducible refine List.forall_mem_cons.2 ⟨?_, ?_⟩
    | ((with_reducible apply stab_off); (focus (exact rfl)); (focus (exact rfl)))
    | ((with_reducible apply stab_mk); (focus (exact rfl)); (focus (exact rfl)); (focus (exact rfl)); (focus (exact rfl)))
    | (intro c' hc; cases c' <;> first | (cases hc; done) | (try simp only [HC, inB_it, inB_if] at hc))
    | (intro hc; first | (cases hc; done) | (try simp only [HC, inB_it, inB_if] at hc))
    | fail)
  any_goals (refine ⟨?_, rfl⟩; rw [resA, good_f ?_]; rintro ⟨h1, h2, -, -⟩; have h2 := inB_t h2; omega)
  apply Ev.loop (fun j e S' => ∃ i : Nat, e = mkE [(1, .pt S.length 0 0 1), (23, .ro 2 (q.map Kept.c)), (24, (.v (.int .i64 ((q.length : Int))))), (25, (.v (.int .i64 ((i : Int)))))] ∧ S' = S ++ [⟨2, [[.ro 3 (l.map Part.c), .ro 2 (q.map Kept.c)]], 0, true⟩] ∧ j = q.length - i ∧ (i ≤ q.length) ∧ (∀ x ∈ q.take i, okKept x = true))
  · exact ⟨0, (k28_4 _).trans (by simp (disch := first | (intros; contradiction) | (as_aux_lemma => omega) | (as_aux_lemma => (simp only [LEN2]; first | done | omega)) | (as_aux_lemma => (simp only [LEN]; first | done | omega))) only [EV, TT, w, w0, fz, FX_mark, FX_el_Part, FX_el_Kept, Nat.reduceEqDiff, Nat.reduceBeqDiff, Nat.reduceAdd, Nat.reduceMul, Nat.reduceLeDiff, Nat.reduceLT, reduceCtorEq, Int.reduceEq, Int.reduceNeg]; first | done | rfl | (congr <;> omega)), (by first | rfl | (simp only [app_app, List.cons_append, List.nil_append]; done)), rfl, (by first | omega | rfl | (simp; done)), (by first | omega | rfl | (simp; done))⟩
  rintro j e S' ⟨i, rfl, rfl, hj, hi, hp⟩
  by_cases hli : (i : Int) < (q.length : Int)
  · have hlt : i < q.length := by omega
    repeat' (first
      | ((with_reducible apply EvO.off); (focus (exact rfl)); (focus (exact rfl))) | ((with_reducible apply EvT.off); (focus (exact rfl)); (focus (exact rfl)))
      | ((first | ((with_reducible apply EvO.call (vs := ?_)); (focus (exact rfl)); (focus (exact rfl))) | ((with_reducible apply EvT.call (vs := ?_)); (focus (exact rfl)); (focus (exact rfl))) | (with_reducible apply Cal.hd (ms := []) (p := ?_)) | ((with_reducible refine EvO.c1 (a := ?_) (S' := ?_) ?_ ?_ ?_); rotate_left 2; (focus (exact rfl))) | ((with_reducible refine EvO.c0 (a := ?_) (S' := ?_) ?_ ?_); rotate_left 2) | ((with_reducible apply EvO.cons); (focus (exact rfl))) | ((with_reducible refine EvT.c1 (a := ?_) (S' := ?_) ?_ ?_ ?_ ?_); rotate_left 2; (focus (exact rfl)); (focus (exact rfl))) | ((with_reducible refine EvT.c0 (a := ?_) (S' := ?_) ?_ ?_ ?_); rotate_left 2; (focus (exact rfl))) | ((with_reducible apply EvT.cons); (focus (exact rfl)); (focus (exact rfl))) | ((with_reducible apply EvO.guard); (focus (exact rfl)); (focus (exact rfl))) | ((with_reducible apply EvT.guard); (focus (exact rfl)); (focus (exact rfl))) | ((with_reducible refine Ev.cond (t := ?_) ?_ ?_ ?_); rotate_left) | skip); (focus ((with_reducible refine Eq.trans ?_ rfl); simp (disch := first | (intros; contradiction) | (as_aux_lemma => omega) | (as_aux_lemma => (simp only [LEN2]; first | done | omega)) | (as_aux_lemma => (simp only [LEN]; first | done | omega))) only [EV, TT, w, w0, fz, FX_mark, FX_el_Part, FX_el_Kept, hli, Nat.reduceEqDiff, Nat.reduceBeqDiff, Nat.reduceAdd, Nat.reduceMul, Nat.reduceLeDiff, Nat.reduceLT, reduceCtorEq, Int.reduceEq, Int.reduceNeg, FIN, DP]; first | done | exact rfl)); try (focus (exact rfl)))
      | ((with_reducible apply CalH.mk); intro hd; first | exact c29 (hd := hd)   (hk := by omega) | exact c44 (hd := hd)   (hk := by omega) | exact c55 (hd := hd)   (hk := by omega) | exact c56 (hd := hd)   (hk := by omega))
      | (with_reducible (first | rintro r S' ⟨rfl, rfl⟩); refine ⟨_, rfl, ?_⟩)
      | with_reducible refine Ev.seq ?_
      | ((with_reducible refine Ev.regionH ?_); intro H)
      | with_reducible refine EvO.nil ?_
      | ((with_reducible apply regH_k); (focus (exact KIs.mk rfl)); (focus ((with_reducible apply EnvIs.mk); simp only [SE, Nat.reduceEqDiff, Nat.reduceAdd, reduceCtorEq]; first | done | exact rfl)); clear H)
      | exact KIs.mk rfl
      | with_reducible first | refine Ev.skip ?_ | refine Ev.ret ?_ | refine Ev.exit ?_ | refine Ev.block ?_ | refine thenQ_n ?_ | refine thenQ_x ?_ | refine thenQ_r ?_ | refine blockQ_n ?_ | refine blockQ_r ?_ | refine blockQ_x0 ?_ | refine roundQ_x ?_ | refine roundQ_r ?_
      | ((with_reducible refine endQ_r (vs := ?_) (vs' := ?_) (S₂ := ?_) ?_ ?_ ?_); rotate_left 3)
      | ((with_reducible refine blockQ_x1 ?_ ?_); exact rfl)
      | ((with_reducible refine Ev.drawnH ?_ ?_); (focus kernel_rfl); intro H)
      | ((with_reducible refine EvT.nil ?_); refine ⟨drawn_mk (hs := [(6, 12)]) (by repeat' (first | exact trivial | refine ⟨.inl rfl, ?_⟩ | refine ⟨.inr rfl, ?_⟩ | (refine ⟨.inr ?_, ?_⟩; (focus (simp only [app_app, List.cons_append, List.nil_append, len_app, List.length_cons, List.length_nil, len_lit, Nat.zero_add, Nat.reduceAdd]; done))))) (by kernel_rfl) ?_, ?_⟩)
      | with_reducible exact List.forall_mem_nil _
      | with_reducible refine List.forall_mem_cons.2 ⟨?_, ?_⟩
      | ((with_reducible apply stab_off); (focus (exact rfl)); (focus (exact rfl)))
      | ((with_reducible apply stab_mk); (focus (exact rfl)); (focus (exact rfl)); (focus (exact rfl)); (focus (exact rfl)))
      | (intro c' hc; cases c' <;> first | (cases hc; done) | (try simp only [HC, inB_it, inB_if] at hc))
      | (intro hc; first | (cases hc; done) | (try simp only [HC, inB_it, inB_if] at hc))
      | fail)
    any_goals (refine ⟨?_, rfl⟩; rw [resA, good_f ?_]; rintro ⟨-, -, h3, -⟩; have := okKept_e (h3 q[i] (List.getElem_mem hlt)); omega)
    apply roundQ_m; refine ⟨_, ⟨i + 1, (k28_4 _).trans (by simp (disch := first | (intros; contradiction) | (as_aux_lemma => omega) | (as_aux_lemma => (simp only [LEN2]; first | done | omega)) | (as_aux_lemma => (simp only [LEN]; first | done | omega))) only [EV, TT, w, w0, fz, FX_mark, FX_el_Part, FX_el_Kept, Nat.reduceEqDiff, Nat.reduceBeqDiff, Nat.reduceAdd, Nat.reduceMul, Nat.reduceLeDiff, Nat.reduceLT, reduceCtorEq, Int.reduceEq, Int.reduceNeg]; first | done | rfl | (congr <;> omega)), ?_, rfl, ?_, ?_⟩, ?_⟩
    · first | exact lpG_same | exact lpG_grow rfl | (refine (congrArg (fun K => lpG K _ _ _) (show _ = some _ from rfl)).trans (lpG_cut rfl ?_); simp [lowV, okC, mkE_at]; done) | (refine (congrArg (fun K => lpG K _ _ _) (show _ = some _ from rfl)).trans (lpG_mod rfl rfl ?_ ?_) <;> simp [lowV, okC, mkE_at, rowsAll_cons, rowsAll_nil, FX_mark, FX_el_Part, FX_el_Kept]; done) | (refine (lpG_len ?_).trans ?_; (focus (simp only [len_app, List.length_cons, List.length_nil, List.length_set]; done)); first | rfl | (simp (disch := first | (intros; contradiction) | (as_aux_lemma => omega) | (as_aux_lemma => (simp only [LEN2]; first | done | omega)) | (as_aux_lemma => (simp only [LEN]; first | done | omega))) only [EV, TT, w, w0, fz, FX_mark, FX_el_Part, FX_el_Kept, Nat.reduceEqDiff, Nat.reduceBeqDiff, Nat.reduceAdd, Nat.reduceMul, Nat.reduceLeDiff, Nat.reduceLT, reduceCtorEq, Int.reduceEq, Int.reduceNeg]; first | done | rfl)) | (refine (congrArg (fun K => lpG K _ _ _) (show _ = some _ from rfl)).trans (lpG_grow ?_); simp only [lowV, okC, EV, Nat.reduceEqDiff, Nat.reduceBeqDiff, Nat.reduceAdd, Nat.reduceMul, Nat.reduceLeDiff, Nat.reduceLT, reduceCtorEq, Int.reduceEq, Int.reduceNeg]; done)
    · omega
    · (intro x hx; rw [List.take_add_one, List.getElem?_eq_getElem hlt] at hx; rcases List.mem_append.1 hx with h | h; exact hp x h; simp at h; subst h; exact okKept_m (by omega) (by omega))
    · omega
  · obtain rfl : i = q.length := by omega
    repeat' (first
      | ((with_reducible apply EvO.off); (focus (exact rfl)); (focus (exact rfl))) | ((with_reducible apply EvT.off); (focus (exact rfl)); (focus (exact rfl)))
      | ((first | ((with_reducible apply EvO.call (vs := ?_)); (focus (exact rfl)); (focus (exact rfl))) | ((with_reducible apply EvT.call (vs := ?_)); (focus (exact rfl)); (focus (exact rfl))) | (with_reducible apply Cal.hd (ms := []) (p := ?_)) | ((with_reducible refine EvO.c1 (a := ?_) (S' := ?_) ?_ ?_ ?_); rotate_left 2; (focus (exact rfl))) | ((with_reducible refine EvO.c0 (a := ?_) (S' := ?_) ?_ ?_); rotate_left 2) | ((with_reducible apply EvO.cons); (focus (exact rfl))) | ((with_reducible refine EvT.c1 (a := ?_) (S' := ?_) ?_ ?_ ?_ ?_); rotate_left 2; (focus (exact rfl)); (focus (exact rfl))) | ((with_reducible refine EvT.c0 (a := ?_) (S' := ?_) ?_ ?_ ?_); rotate_left 2; (focus (exact rfl))) | ((with_reducible apply EvT.cons); (focus (exact rfl)); (focus (exact rfl))) | ((with_reducible apply EvO.guard); (focus (exact rfl)); (focus (exact rfl))) | ((with_reducible apply EvT.guard); (focus (exact rfl)); (focus (exact rfl))) | ((with_reducible refine Ev.cond (t := ?_) ?_ ?_ ?_); rotate_left) | skip); (focus ((with_reducible refine Eq.trans ?_ rfl); simp (disch := first | (intros; contradiction) | (as_aux_lemma => omega) | (as_aux_lemma => (simp only [LEN2]; first | done | omega)) | (as_aux_lemma => (simp only [LEN]; first | done | omega))) only [EV, TT, w, w0, fz, FX_mark, FX_el_Part, FX_el_Kept, hli, Nat.reduceEqDiff, Nat.reduceBeqDiff, Nat.reduceAdd, Nat.reduceMul, Nat.reduceLeDiff, Nat.reduceLT, reduceCtorEq, Int.reduceEq, Int.reduceNeg, FIN, DP]; first | done | exact rfl)); try (focus (exact rfl)))
      | ((with_reducible apply CalH.mk); intro hd; first | exact c29 (hd := hd)   (hk := by omega) | exact c44 (hd := hd)   (hk := by omega) | exact c55 (hd := hd)   (hk := by omega) | exact c56 (hd := hd)   (hk := by omega))
      | (with_reducible (first | rintro r S' ⟨rfl, rfl⟩); refine ⟨_, rfl, ?_⟩)
      | with_reducible refine Ev.seq ?_
      | ((with_reducible refine Ev.regionH ?_); intro H)
      | with_reducible refine EvO.nil ?_
      | ((with_reducible apply regH_k); (focus (exact KIs.mk rfl)); (focus ((with_reducible apply EnvIs.mk); simp only [SE, Nat.reduceEqDiff, Nat.reduceAdd, reduceCtorEq]; first | done | exact rfl)); clear H)
      | exact KIs.mk rfl
      | with_reducible first | refine Ev.skip ?_ | refine Ev.ret ?_ | refine Ev.exit ?_ | refine Ev.block ?_ | refine thenQ_n ?_ | refine thenQ_x ?_ | refine thenQ_r ?_ | refine blockQ_n ?_ | refine blockQ_r ?_ | refine blockQ_x0 ?_ | refine roundQ_x ?_ | refine roundQ_r ?_
      | ((with_reducible refine endQ_r (vs := ?_) (vs' := ?_) (S₂ := ?_) ?_ ?_ ?_); rotate_left 3)
      | ((with_reducible refine blockQ_x1 ?_ ?_); exact rfl)
      | ((with_reducible refine Ev.drawnH ?_ ?_); (focus kernel_rfl); intro H)
      | ((with_reducible refine EvT.nil ?_); refine ⟨drawn_mk (hs := [(6, 12)]) (by repeat' (first | exact trivial | refine ⟨.inl rfl, ?_⟩ | refine ⟨.inr rfl, ?_⟩ | (refine ⟨.inr ?_, ?_⟩; (focus (simp only [app_app, List.cons_append, List.nil_append, len_app, List.length_cons, List.length_nil, len_lit, Nat.zero_add, Nat.reduceAdd]; done))))) (by kernel_rfl) ?_, ?_⟩)
      | with_reducible exact List.forall_mem_nil _
      | with_reducible refine List.forall_mem_cons.2 ⟨?_, ?_⟩
      | ((with_reducible apply stab_off); (focus (exact rfl)); (focus (exact rfl)))
      | ((with_reducible apply stab_mk); (focus (exact rfl)); (focus (exact rfl)); (focus (exact rfl)); (focus (exact rfl)))
      | (intro c' hc; cases c' <;> first | (cases hc; done) | (try simp only [HC, inB_it, inB_if] at hc))
      | (intro hc; first | (cases hc; done) | (try simp only [HC, inB_it, inB_if] at hc))
      | fail)
    apply Ev.loop (fun j e S' => ∃ i : Nat, e = mkE [(1, .pt S.length 0 0 1), (41, .ro 3 (l.map Part.c)), (42, (.v (.int .i64 ((l.length : Int))))), (43, (.v (.int .i64 ((i : Int)))))] ∧ S' = S ++ [⟨2, [[.ro 3 (l.map Part.c), .ro 2 (q.map Kept.c)]], 0, true⟩] ∧ j = l.length - i ∧ (i ≤ l.length) ∧ (∀ j, j < i → goodAt l q j = true))
    · exact ⟨0, (k28_10 _).trans (by simp (disch := first | (intros; contradiction) | (as_aux_lemma => omega) | (as_aux_lemma => (simp only [LEN2]; first | done | omega)) | (as_aux_lemma => (simp only [LEN]; first | done | omega))) only [EV, TT, w, w0, fz, FX_mark, FX_el_Part, FX_el_Kept, Nat.reduceEqDiff, Nat.reduceBeqDiff, Nat.reduceAdd, Nat.reduceMul, Nat.reduceLeDiff, Nat.reduceLT, reduceCtorEq, Int.reduceEq, Int.reduceNeg]; first | done | rfl | (congr <;> omega)), (by first | rfl | (simp only [app_app, List.cons_append, List.nil_append]; done)), rfl, (by first | omega | rfl | (simp; done)), (by first | omega | rfl | (simp; done))⟩
    rintro j e S' ⟨i, rfl, rfl, hj, hi, hp'⟩
    by_cases hli : (i : Int) < (l.length : Int)
    · have hlt : i < l.length := by omega
      have hqq : ∀ k ∈ q, okKept k = true := by rw [List.take_length] at hp; exact hp
      by_cases h0 : (0 : Int) < (i : Int)
      · have e0 : ((i : Int) - 1).toNat = i - 1 := by omega
        repeat' (first
          | ((with_reducible apply EvO.off); (focus (exact rfl)); (focus (exact rfl))) | ((with_reducible apply EvT.off); (focus (exact rfl)); (focus (exact rfl)))
          | ((first | ((with_reducible apply EvO.call (vs := ?_)); (focus (exact rfl)); (focus (exact rfl))) | ((with_reducible apply EvT.call (vs := ?_)); (focus (exact rfl)); (focus (exact rfl))) | (with_reducible apply Cal.hd (ms := []) (p := ?_)) | ((with_reducible refine EvO.c1 (a := ?_) (S' := ?_) ?_ ?_ ?_); rotate_left 2; (focus (exact rfl))) | ((with_reducible refine EvO.c0 (a := ?_) (S' := ?_) ?_ ?_); rotate_left 2) | ((with_reducible apply EvO.cons); (focus (exact rfl))) | ((with_reducible refine EvT.c1 (a := ?_) (S' := ?_) ?_ ?_ ?_ ?_); rotate_left 2; (focus (exact rfl)); (focus (exact rfl))) | ((with_reducible refine EvT.c0 (a := ?_) (S' := ?_) ?_ ?_ ?_); rotate_left 2; (focus (exact rfl))) | ((with_reducible apply EvT.cons); (focus (exact rfl)); (focus (exact rfl))) | ((with_reducible apply EvO.guard); (focus (exact rfl)); (focus (exact rfl))) | ((with_reducible apply EvT.guard); (focus (exact rfl)); (focus (exact rfl))) | ((with_reducible refine Ev.cond (t := ?_) ?_ ?_ ?_); rotate_left) | skip); (focus ((with_reducible refine Eq.trans ?_ rfl); simp (disch := first | (intros; contradiction) | (as_aux_lemma => omega) | (as_aux_lemma => (simp only [LEN2]; first | done | omega)) | (as_aux_lemma => (simp only [LEN]; first | done | omega))) only [EV, TT, w, w0, fz, FX_mark, FX_el_Part, FX_el_Kept, hli, h0, e0, Nat.reduceEqDiff, Nat.reduceBeqDiff, Nat.reduceAdd, Nat.reduceMul, Nat.reduceLeDiff, Nat.reduceLT, reduceCtorEq, Int.reduceEq, Int.reduceNeg, FIN, DP]; first | done | exact rfl)); try (focus (exact rfl)))
          | ((with_reducible apply CalH.mk); intro hd; first | exact c29 (hd := hd)   (hk := by omega) | exact c44 (hd := hd)   (hk := by omega) | exact c55 (hd := hd)   (hk := by omega) | exact c56 (hd := hd)   (hk := by omega))
          | (with_reducible (first | rintro r S' ⟨rfl, rfl⟩); refine ⟨_, rfl, ?_⟩)
          | with_reducible refine Ev.seq ?_
          | ((with_reducible refine Ev.regionH ?_); intro H)
          | with_reducible refine EvO.nil ?_
          | ((with_reducible apply regH_k); (focus (exact KIs.mk rfl)); (focus ((with_reducible apply EnvIs.mk); simp only [SE, Nat.reduceEqDiff, Nat.reduceAdd, reduceCtorEq]; first | done | exact rfl)); clear H)
          | exact KIs.mk rfl
          | with_reducible first | refine Ev.skip ?_ | refine Ev.ret ?_ | refine Ev.exit ?_ | refine Ev.block ?_ | refine thenQ_n ?_ | refine thenQ_x ?_ | refine thenQ_r ?_ | refine blockQ_n ?_ | refine blockQ_r ?_ | refine blockQ_x0 ?_ | refine roundQ_x ?_ | refine roundQ_r ?_
          | ((with_reducible refine endQ_r (vs := ?_) (vs' := ?_) (S₂ := ?_) ?_ ?_ ?_); rotate_left 3)
          | ((with_reducible refine blockQ_x1 ?_ ?_); exact rfl)
          | ((with_reducible refine Ev.drawnH ?_ ?_); (focus kernel_rfl); intro H)
          | ((with_reducible refine EvT.nil ?_); refine ⟨drawn_mk (hs := [(6, 12)]) (by repeat' (first | exact trivial | refine ⟨.inl rfl, ?_⟩ | refine ⟨.inr rfl, ?_⟩ | (refine ⟨.inr ?_, ?_⟩; (focus (simp only [app_app, List.cons_append, List.nil_append, len_app, List.length_cons, List.length_nil, len_lit, Nat.zero_add, Nat.reduceAdd]; done))))) (by kernel_rfl) ?_, ?_⟩)
          | with_reducible exact List.forall_mem_nil _
          | with_reducible refine List.forall_mem_cons.2 ⟨?_, ?_⟩
          | ((with_reducible apply stab_off); (focus (exact rfl)); (focus (exact rfl)))
          | ((with_reducible apply stab_mk); (focus (exact rfl)); (focus (exact rfl)); (focus (exact rfl)); (focus (exact rfl)))
          | (intro c' hc; cases c' <;> first | (cases hc; done) | (try simp only [HC, inB_it, inB_if] at hc))
          | (intro hc; first | (cases hc; done) | (try simp only [HC, inB_it, inB_if] at hc))
          | fail)
        any_goals (refine ⟨?_, rfl⟩; rw [resA, good_f ?_]; rintro ⟨-, -, -, h4⟩; have hh := (goodAt_iff hqq hlt).1 (h4 i hlt); have a1 := hh.g; have a2 := hh.n; have a3 := hh.s; have a4 := hh.o (by omega); first | omega | (have a5 := hh.k (by omega) (by omega); omega))
        all_goals (have hat : goodAt l q i = true := (goodAt_iff hqq hlt).2 ⟨by omega, by omega, by omega, fun _ _ => by first | omega | exact ⟨by omega, by assumption⟩, fun _ => by omega⟩)
        all_goals
          apply roundQ_m; refine ⟨_, ⟨i + 1, (k28_10 _).trans (by simp (disch := first | (intros; contradiction) | (as_aux_lemma => omega) | (as_aux_lemma => (simp only [LEN2]; first | done | omega)) | (as_aux_lemma => (simp only [LEN]; first | done | omega))) only [EV, TT, w, w0, fz, FX_mark, FX_el_Part, FX_el_Kept, Nat.reduceEqDiff, Nat.reduceBeqDiff, Nat.reduceAdd, Nat.reduceMul, Nat.reduceLeDiff, Nat.reduceLT, reduceCtorEq, Int.reduceEq, Int.reduceNeg]; first | done | rfl | (congr <;> omega)), ?_, rfl, ?_, ?_⟩, ?_⟩
          · first | exact lpG_same | exact lpG_grow rfl | (refine (congrArg (fun K => lpG K _ _ _) (show _ = some _ from rfl)).trans (lpG_cut rfl ?_); simp [lowV, okC, mkE_at]; done) | (refine (congrArg (fun K => lpG K _ _ _) (show _ = some _ from rfl)).trans (lpG_mod rfl rfl ?_ ?_) <;> simp [lowV, okC, mkE_at, rowsAll_cons, rowsAll_nil, FX_mark, FX_el_Part, FX_el_Kept]; done) | (refine (lpG_len ?_).trans ?_; (focus (simp only [len_app, List.length_cons, List.length_nil, List.length_set]; done)); first | rfl | (simp (disch := first | (intros; contradiction) | (as_aux_lemma => omega) | (as_aux_lemma => (simp only [LEN2]; first | done | omega)) | (as_aux_lemma => (simp only [LEN]; first | done | omega))) only [EV, TT, w, w0, fz, FX_mark, FX_el_Part, FX_el_Kept, Nat.reduceEqDiff, Nat.reduceBeqDiff, Nat.reduceAdd, Nat.reduceMul, Nat.reduceLeDiff, Nat.reduceLT, reduceCtorEq, Int.reduceEq, Int.reduceNeg]; first | done | rfl)) | (refine (congrArg (fun K => lpG K _ _ _) (show _ = some _ from rfl)).trans (lpG_grow ?_); simp only [lowV, okC, EV, Nat.reduceEqDiff, Nat.reduceBeqDiff, Nat.reduceAdd, Nat.reduceMul, Nat.reduceLeDiff, Nat.reduceLT, reduceCtorEq, Int.reduceEq, Int.reduceNeg]; done)
          · omega
          · exact below_s hp' hat
          · omega
      · repeat' (first
          | ((with_reducible apply EvO.off); (focus (exact rfl)); (focus (exact rfl))) | ((with_reducible apply EvT.off); (focus (exact rfl)); (focus (exact rfl)))
          | ((first | ((with_reducible apply EvO.call (vs := ?_)); (focus (exact rfl)); (focus (exact rfl))) | ((with_reducible apply EvT.call (vs := ?_)); (focus (exact rfl)); (focus (exact rfl))) | (with_reducible apply Cal.hd (ms := []) (p := ?_)) | ((with_reducible refine EvO.c1 (a := ?_) (S' := ?_) ?_ ?_ ?_); rotate_left 2; (focus (exact rfl))) | ((with_reducible refine EvO.c0 (a := ?_) (S' := ?_) ?_ ?_); rotate_left 2) | ((with_reducible apply EvO.cons); (focus (exact rfl))) | ((with_reducible refine EvT.c1 (a := ?_) (S' := ?_) ?_ ?_ ?_ ?_); rotate_left 2; (focus (exact rfl)); (focus (exact rfl))) | ((with_reducible refine EvT.c0 (a := ?_) (S' := ?_) ?_ ?_ ?_); rotate_left 2; (focus (exact rfl))) | ((with_reducible apply EvT.cons); (focus (exact rfl)); (focus (exact rfl))) | ((with_reducible apply EvO.guard); (focus (exact rfl)); (focus (exact rfl))) | ((with_reducible apply EvT.guard); (focus (exact rfl)); (focus (exact rfl))) | ((with_reducible refine Ev.cond (t := ?_) ?_ ?_ ?_); rotate_left) | skip); (focus ((with_reducible refine Eq.trans ?_ rfl); simp (disch := first | (intros; contradiction) | (as_aux_lemma => omega) | (as_aux_lemma => (simp only [LEN2]; first | done | omega)) | (as_aux_lemma => (simp only [LEN]; first | done | omega))) only [EV, TT, w, w0, fz, FX_mark, FX_el_Part, FX_el_Kept, hli, h0, Nat.reduceEqDiff, Nat.reduceBeqDiff, Nat.reduceAdd, Nat.reduceMul, Nat.reduceLeDiff, Nat.reduceLT, reduceCtorEq, Int.reduceEq, Int.reduceNeg, FIN, DP]; first | done | exact rfl)); try (focus (exact rfl)))
          | ((with_reducible apply CalH.mk); intro hd; first | exact c29 (hd := hd)   (hk := by omega) | exact c44 (hd := hd)   (hk := by omega) | exact c55 (hd := hd)   (hk := by omega) | exact c56 (hd := hd)   (hk := by omega))
          | (with_reducible (first | rintro r S' ⟨rfl, rfl⟩); refine ⟨_, rfl, ?_⟩)
          | with_reducible refine Ev.seq ?_
          | ((with_reducible refine Ev.regionH ?_); intro H)
          | with_reducible refine EvO.nil ?_
          | ((with_reducible apply regH_k); (focus (exact KIs.mk rfl)); (focus ((with_reducible apply EnvIs.mk); simp only [SE, Nat.reduceEqDiff, Nat.reduceAdd, reduceCtorEq]; first | done | exact rfl)); clear H)
          | exact KIs.mk rfl
          | with_reducible first | refine Ev.skip ?_ | refine Ev.ret ?_ | refine Ev.exit ?_ | refine Ev.block ?_ | refine thenQ_n ?_ | refine thenQ_x ?_ | refine thenQ_r ?_ | refine blockQ_n ?_ | refine blockQ_r ?_ | refine blockQ_x0 ?_ | refine roundQ_x ?_ | refine roundQ_r ?_
          | ((with_reducible refine endQ_r (vs := ?_) (vs' := ?_) (S₂ := ?_) ?_ ?_ ?_); rotate_left 3)
          | ((with_reducible refine blockQ_x1 ?_ ?_); exact rfl)
          | ((with_reducible refine Ev.drawnH ?_ ?_); (focus kernel_rfl); intro H)
          | ((with_reducible refine EvT.nil ?_); refine ⟨drawn_mk (hs := [(6, 12)]) (by repeat' (first | exact trivial | refine ⟨.inl rfl, ?_⟩ | refine ⟨.inr rfl, ?_⟩ | (refine ⟨.inr ?_, ?_⟩; (focus (simp only [app_app, List.cons_append, List.nil_append, len_app, List.length_cons, List.length_nil, len_lit, Nat.zero_add, Nat.reduceAdd]; done))))) (by kernel_rfl) ?_, ?_⟩)
          | with_reducible exact List.forall_mem_nil _
          | with_reducible refine List.forall_mem_cons.2 ⟨?_, ?_⟩
          | ((with_reducible apply stab_off); (focus (exact rfl)); (focus (exact rfl)))
          | ((with_reducible apply stab_mk); (focus (exact rfl)); (focus (exact rfl)); (focus (exact rfl)); (focus (exact rfl)))
          | (intro c' hc; cases c' <;> first | (cases hc; done) | (try simp only [HC, inB_it, inB_if] at hc))
          | (intro hc; first | (cases hc; done) | (try simp only [HC, inB_it, inB_if] at hc))
          | fail)
        any_goals (refine ⟨?_, rfl⟩; rw [resA, good_f ?_]; rintro ⟨-, -, -, h4⟩; have hh := (goodAt_iff hqq hlt).1 (h4 i hlt); have a1 := hh.g; have a2 := hh.n; have a3 := hh.s; first | omega | (have a5 := hh.k (by omega) (by omega); omega))
        all_goals (have hat : goodAt l q i = true := (goodAt_iff hqq hlt).2 ⟨by omega, by omega, by omega, fun _ _ => by first | omega | exact ⟨by omega, by assumption⟩, fun _ => by omega⟩)
        all_goals
          apply roundQ_m; refine ⟨_, ⟨i + 1, (k28_10 _).trans (by simp (disch := first | (intros; contradiction) | (as_aux_lemma => omega) | (as_aux_lemma => (simp only [LEN2]; first | done | omega)) | (as_aux_lemma => (simp only [LEN]; first | done | omega))) only [EV, TT, w, w0, fz, FX_mark, FX_el_Part, FX_el_Kept, Nat.reduceEqDiff, Nat.reduceBeqDiff, Nat.reduceAdd, Nat.reduceMul, Nat.reduceLeDiff, Nat.reduceLT, reduceCtorEq, Int.reduceEq, Int.reduceNeg]; first | done | rfl | (congr <;> omega)), ?_, rfl, ?_, ?_⟩, ?_⟩
          · first | exact lpG_same | exact lpG_grow rfl | (refine (congrArg (fun K => lpG K _ _ _) (show _ = some _ from rfl)).trans (lpG_cut rfl ?_); simp [lowV, okC, mkE_at]; done) | (refine (congrArg (fun K => lpG K _ _ _) (show _ = some _ from rfl)).trans (lpG_mod rfl rfl ?_ ?_) <;> simp [lowV, okC, mkE_at, rowsAll_cons, rowsAll_nil, FX_mark, FX_el_Part, FX_el_Kept]; done) | (refine (lpG_len ?_).trans ?_; (focus (simp only [len_app, List.length_cons, List.length_nil, List.length_set]; done)); first | rfl | (simp (disch := first | (intros; contradiction) | (as_aux_lemma => omega) | (as_aux_lemma => (simp only [LEN2]; first | done | omega)) | (as_aux_lemma => (simp only [LEN]; first | done | omega))) only [EV, TT, w, w0, fz, FX_mark, FX_el_Part, FX_el_Kept, Nat.reduceEqDiff, Nat.reduceBeqDiff, Nat.reduceAdd, Nat.reduceMul, Nat.reduceLeDiff, Nat.reduceLT, reduceCtorEq, Int.reduceEq, Int.reduceNeg]; first | done | rfl)) | (refine (congrArg (fun K => lpG K _ _ _) (show _ = some _ from rfl)).trans (lpG_grow ?_); simp only [lowV, okC, EV, Nat.reduceEqDiff, Nat.reduceBeqDiff, Nat.reduceAdd, Nat.reduceMul, Nat.reduceLeDiff, Nat.reduceLT, reduceCtorEq, Int.reduceEq, Int.reduceNeg]; done)
          · omega
          · exact below_s hp' hat
          · omega
    · obtain rfl : i = l.length := by omega
      repeat' (first
        | ((with_reducible apply EvO.off); (focus (exact rfl)); (focus (exact rfl))) | ((with_reducible apply EvT.off); (focus (exact rfl)); (focus (exact rfl)))
        | ((first | ((with_reducible apply EvO.call (vs := ?_)); (focus (exact rfl)); (focus (exact rfl))) | ((with_reducible apply EvT.call (vs := ?_)); (focus (exact rfl)); (focus (exact rfl))) | (with_reducible apply Cal.hd (ms := []) (p := ?_)) | ((with_reducible refine EvO.c1 (a := ?_) (S' := ?_) ?_ ?_ ?_); rotate_left 2; (focus (exact rfl))) | ((with_reducible refine EvO.c0 (a := ?_) (S' := ?_) ?_ ?_); rotate_left 2) | ((with_reducible apply EvO.cons); (focus (exact rfl))) | ((with_reducible refine EvT.c1 (a := ?_) (S' := ?_) ?_ ?_ ?_ ?_); rotate_left 2; (focus (exact rfl)); (focus (exact rfl))) | ((with_reducible refine EvT.c0 (a := ?_) (S' := ?_) ?_ ?_ ?_); rotate_left 2; (focus (exact rfl))) | ((with_reducible apply EvT.cons); (focus (exact rfl)); (focus (exact rfl))) | ((with_reducible apply EvO.guard); (focus (exact rfl)); (focus (exact rfl))) | ((with_reducible apply EvT.guard); (focus (exact rfl)); (focus (exact rfl))) | ((with_reducible refine Ev.cond (t := ?_) ?_ ?_ ?_); rotate_left) | skip); (focus ((with_reducible refine Eq.trans ?_ rfl); simp (disch := first | (intros; contradiction) | (as_aux_lemma => omega) | (as_aux_lemma => (simp only [LEN2]; first | done | omega)) | (as_aux_lemma => (simp only [LEN]; first | done | omega))) only [EV, TT, w, w0, fz, FX_mark, FX_el_Part, FX_el_Kept, hli, Nat.reduceEqDiff, Nat.reduceBeqDiff, Nat.reduceAdd, Nat.reduceMul, Nat.reduceLeDiff, Nat.reduceLT, reduceCtorEq, Int.reduceEq, Int.reduceNeg, FIN, DP]; first | done | exact rfl)); try (focus (exact rfl)))
        | ((with_reducible apply CalH.mk); intro hd; first | exact c29 (hd := hd)   (hk := by omega) | exact c44 (hd := hd)   (hk := by omega) | exact c55 (hd := hd)   (hk := by omega) | exact c56 (hd := hd)   (hk := by omega))
        | (with_reducible (first | rintro r S' ⟨rfl, rfl⟩); refine ⟨_, rfl, ?_⟩)
        | with_reducible refine Ev.seq ?_
        | ((with_reducible refine Ev.regionH ?_); intro H)
        | with_reducible refine EvO.nil ?_
        | ((with_reducible apply regH_k); (focus (exact KIs.mk rfl)); (focus ((with_reducible apply EnvIs.mk); simp only [SE, Nat.reduceEqDiff, Nat.reduceAdd, reduceCtorEq]; first | done | exact rfl)); clear H)
        | exact KIs.mk rfl
        | with_reducible first | refine Ev.skip ?_ | refine Ev.ret ?_ | refine Ev.exit ?_ | refine Ev.block ?_ | refine thenQ_n ?_ | refine thenQ_x ?_ | refine thenQ_r ?_ | refine blockQ_n ?_ | refine blockQ_r ?_ | refine blockQ_x0 ?_ | refine roundQ_x ?_ | refine roundQ_r ?_
        | ((with_reducible refine endQ_r (vs := ?_) (vs' := ?_) (S₂ := ?_) ?_ ?_ ?_); rotate_left 3)
        | ((with_reducible refine blockQ_x1 ?_ ?_); exact rfl)
        | ((with_reducible refine Ev.drawnH ?_ ?_); (focus kernel_rfl); intro H)
        | ((with_reducible refine EvT.nil ?_); refine ⟨drawn_mk (hs := [(6, 12)]) (by repeat' (first | exact trivial | refine ⟨.inl rfl, ?_⟩ | refine ⟨.inr rfl, ?_⟩ | (refine ⟨.inr ?_, ?_⟩; (focus (simp only [app_app, List.cons_append, List.nil_append, len_app, List.length_cons, List.length_nil, len_lit, Nat.zero_add, Nat.reduceAdd]; done))))) (by kernel_rfl) ?_, ?_⟩)
        | with_reducible exact List.forall_mem_nil _
        | with_reducible refine List.forall_mem_cons.2 ⟨?_, ?_⟩
        | ((with_reducible apply stab_off); (focus (exact rfl)); (focus (exact rfl)))
        | ((with_reducible apply stab_mk); (focus (exact rfl)); (focus (exact rfl)); (focus (exact rfl)); (focus (exact rfl)))
        | (intro c' hc; cases c' <;> first | (cases hc; done) | (try simp only [HC, inB_it, inB_if] at hc))
        | (intro hc; first | (cases hc; done) | (try simp only [HC, inB_it, inB_if] at hc))
        | fail)
      exact ⟨by rw [resA, good_t (by omega) (inB_it.2 (by omega)) (by rw [List.take_length] at hp; exact hp) hp'], rfl⟩
end Go.Proofs.YtomklniddinhnaaB
