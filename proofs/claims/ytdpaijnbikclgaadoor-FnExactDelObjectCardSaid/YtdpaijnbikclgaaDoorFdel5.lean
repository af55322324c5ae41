/- Part of the evaluator's contracts: del5. -/
import Derived.Test.YtdpaijnbikclgaaDoorFdel4
namespace Go.Proofs.YtdpaijnbikclgaaDoorB
open Go Go.Proofs.YtdpaijnbikclgaaDoorE
set_option linter.unusedVariables false
set_option linter.unusedSectionVars false
set_option linter.unusedSimpArgs false
set_option maxHeartbeats 4000000
set_option maxRecDepth 20000
theorem k47_2 (e : Env) : lpE (FI.K ⟨[true], false, [(2, [1, 2, 4, 11, 12, 13]), (6, [1, 2, 4, 5, 7, 11, 12, 13, 19, 20, 21]), (1000, [1, 2, 4]), (1001, [1, 2, 4, 11, 12, 13]), (1002, [1, 2, 4, 11, 12, 13, 14]), (1003, [1, 2, 4, 5, 6, 11, 12, 13]), (1004, [1, 2, 4, 5, 6, 7, 11, 12, 13]), (1005, [1, 2, 4, 5, 7, 11, 12, 13, 19, 20, 21]), (1006, [1, 2, 4, 5, 7, 11, 12, 13, 19, 20, 21, 22]), (1007, [1, 2, 4, 5, 7, 9, 11, 12, 13, 19, 20, 21]), (1008, [1, 2, 4, 5, 7, 9, 11, 12, 13, 19, 20, 21, 28]), (1009, [1, 2, 4, 5, 7, 11, 12, 13, 19, 20, 21]), (1010, [1, 2, 4, 5, 7, 11, 12, 13, 19, 20, 21]), (1011, [1, 2, 4, 11, 12, 13]), (1012, [1, 2, 4, 11, 12, 13]), (1013, [4]), (999999, [])]⟩ 2) e = mkE [(1, e 1), (2, e 2), (4, e 4), (11, e 11), (12, e 12), (13, e 13)] := rfl
theorem k47_6 (e : Env) : lpE (FI.K ⟨[true], false, [(2, [1, 2, 4, 11, 12, 13]), (6, [1, 2, 4, 5, 7, 11, 12, 13, 19, 20, 21]), (1000, [1, 2, 4]), (1001, [1, 2, 4, 11, 12, 13]), (1002, [1, 2, 4, 11, 12, 13, 14]), (1003, [1, 2, 4, 5, 6, 11, 12, 13]), (1004, [1, 2, 4, 5, 6, 7, 11, 12, 13]), (1005, [1, 2, 4, 5, 7, 11, 12, 13, 19, 20, 21]), (1006, [1, 2, 4, 5, 7, 11, 12, 13, 19, 20, 21, 22]), (1007, [1, 2, 4, 5, 7, 9, 11, 12, 13, 19, 20, 21]), (1008, [1, 2, 4, 5, 7, 9, 11, 12, 13, 19, 20, 21, 28]), (1009, [1, 2, 4, 5, 7, 11, 12, 13, 19, 20, 21]), (1010, [1, 2, 4, 5, 7, 11, 12, 13, 19, 20, 21]), (1011, [1, 2, 4, 11, 12, 13]), (1012, [1, 2, 4, 11, 12, 13]), (1013, [4]), (999999, [])]⟩ 6) e = mkE [(1, e 1), (2, e 2), (4, e 4), (5, e 5), (7, e 7), (11, e 11), (12, e 12), (13, e 13), (19, e 19), (20, e 20), (21, e 21)] := rfl
theorem c47 {k : Nat} {md : Md} {S : Store} {vs : List A} {D : List Nat} {id : Nat} {ids : Nat → Option Nat} {l : List (List Cell)} {kk mm : Int} {id2 n2 v2 : Nat} {s : ByteArray} (hd : dpArgs S [true] vs = some ([.ag [(.v (.int .i64 (kk))), (.v (.int .i64 (mm))), .sl id 0 l.length l.length, .sl id2 0 n2 v2], (.v (.string (s)))], D)) (hD0 : D = [] := by first | assumption | omega | with_reducible rfl) (hN : Nst S id ids l := by first | assumption | omega | with_reducible rfl) (hall : ∀ i, i < l.length → ids i ≠ none := by first | assumption | omega | with_reducible rfl) (hwi : md.wr id = true) (hn : l.length ≤ 1048576 := by first | assumption | omega | with_reducible rfl) (hcs : ∀ c ∈ l, c.length ≤ 1048576 := by first | assumption | omega | with_reducible rfl) (hk : 1 ≤ k := by omega) :
  Cal (run k) md 47 vs S (fun r S' => ∃ ids', r = .ag [(.v (.int .i64 (kk))), (.v (.int .i64 (mm))), .sl id 0 l.length l.length, .sl id2 0 n2 v2] ∧ Nst S' id ids' (l.map (flt s)) ∧ (∀ i, i < l.length → ids' i ≠ none) ∧ (∀ i k, i < l.length → ids' i = some k → S.length ≤ k) ∧ S.length ≤ S'.length ∧ ∀ j, j < S.length → j ≠ id → S'[j]? = S[j]?) := by
 obtain ⟨k, rfl⟩ : ∃ j, k = j + 1 := ⟨k - 1, by omega⟩
 refine Cal.fnN (n := 42) (rs := [.cell 4 31]) (D := D) (Xof_none rfl) g47 (by delta Tryd.f47; exact rfl) (by delta Tryd.f47; exact rfl) (by delta Tryd.f47; exact rfl) hd rfl (by first | exact .inr (by assumption) | exact .inl rfl | exact .inl (by simp [idsV, idsC])) (by simp) ?_
 intro md' ow; have w := ow.w; have w0 := ow.w0; have fz : md'.fz = false := ow.fz
 subst hD0
 have hallw := ow.all rfl
 have hid0 := hN.id_lt
 have hob0 := hN.ob
 unfold obK at hob0
 (have F := an6 @yD @yF @yA @yB @yE @yC; (repeat' (first | refine' dA41 | fail)); all_goals clear F)
 apply Ev.loop (fun j e S' => ∃ i : Nat, ∃ ids2 : Nat → Option Nat, ∃ u : Store, e = mkE [(1, (.v (.string (s)))), (2, .pt S.length 0 0 1), (4, .pt (S.length + 1) 0 0 1), (11, .sl id 0 l.length l.length), (12, (.v (.int .i64 ((l.length : Int))))), (13, (.v (.int .i64 ((i : Int)))))] ∧ S' = u ∧ j = l.length - i ∧ (i ≤ l.length) ∧ (Nst u id ids2 (stL s l i)) ∧ (∀ j, j < l.length → ids2 j ≠ none) ∧ (∀ j k, j < i → ids2 j = some k → S.length + 2 ≤ k) ∧ (∀ j, i ≤ j → ids2 j = ids j) ∧ (u[S.length]? = some ⟨4, [[(.v (.int .i64 (kk))), (.v (.int .i64 (mm))), .sl id 0 l.length l.length, .sl id2 0 n2 v2]], 0, true⟩) ∧ (u[S.length + 1]? = some ⟨4, [[(.v (.int .i64 (0))), (.v (.int .i64 (0))), .v (.slice none 0 0), .v (.slice none 0 0)]], 0, true⟩) ∧ (S.length + 2 ≤ u.length) ∧ (∀ j, j < S.length → j ≠ id → u[j]? = S[j]?))
 ·exact ⟨0, ids, _, (k47_2 _).trans dN15, (by first | rfl | (simp only [app_app, List.cons_append, List.nil_append]; done)), rfl, (by omega), (by (exact (hN.app _).mono rfl fun _ _ _ _ => rfl)), (by (exact hall)), (by (intro j k h; omega)), (by (intro j h; rfl)), (by (exact get_len0 _ _)), (by (exact get_len _ _ _)), (by simp), (by (intro j hj h1; exact List.getElem?_append_left hj))⟩
 rintro j e S' ⟨i, ids2, u, rfl, rfl, hj, hi, hNu, hal, hge, hsm, fb0, fb1, hlu, hku⟩
 generalize hTT : S' = T at *
 have hpl := stL_len s l hi
 have hob := hNu.ob
 unfold obK at hob
 have hrl := rowsK_len ids2 (stL s l i)
 rw [hpl] at hrl
 have hwid := hallw id hwi
 have w1 : ∀ k, md'.wr (T.length + k) = true := fun k => wr_of w (by omega)
 have w2 : md'.wr T.length = true := wr_of w (by omega)
 by_cases hli : (i : Int) < (l.length : Int)
 ·have hlt : i < l.length := by omega
  have hat := stL_at s l hlt
  have hat2 : (stL s l i)[i]'(by rw [hpl]; exact hlt) = l[i] := by
   rw [List.getElem?_eq_getElem (by rw [hpl]; exact hlt)] at hat; injection hat
  obtain ⟨k', hk'⟩ : ∃ k', ids2 i = some k' := by
   cases e : ids2 i with
   | none => exact absurd e (hal i hlt)
   | some k' => exact ⟨k', rfl⟩
  have hg := rowsK_at ids2 (stL s l i) (i := i) (by rw [hpl]; exact hlt)
  rw [hat2, hk'] at hg
  simp only [rowK] at hg
  have hin := hNu.inn i (by rw [hpl]; exact hlt) k' hk'
  rw [hat2] at hin
  unfold obC at hin
  have hkl := (List.getElem?_eq_some_iff.1 hin).1
  have hcl := hcs l[i] (by simp)
  (have F := an18 @yD @yF @yA @yB @yE @yC @hli @fb0 @fb1 @hob @hrl @hg @hin @w1 @w2 @if_true.{0} @List.getElem?_append_left.{0} @List.set_append_left.{0}; (repeat' (first | refine' dA50 | fail)); all_goals clear F)
  apply Ev.loop (fun j e S' => ∃ jj : Nat, e = mkE [(1, (.v (.string (s)))), (2, .pt S.length 0 0 1), (4, .pt (S.length + 1) 0 0 1), (5, (.v (.int .i64 ((i : Int))))), (7, .sl (T.length + 1) 0 (flt s (l[i].take jj)).length (flt s (l[i].take jj)).length), (11, .sl id 0 l.length l.length), (12, (.v (.int .i64 ((l.length : Int))))), (13, (.v (.int .i64 ((i : Int))))), (19, .sl k' 0 l[i].length l[i].length), (20, (.v (.int .i64 ((l[i].length : Int))))), (21, (.v (.int .i64 ((jj : Int)))))] ∧ S' = T ++ [⟨1, [[.sl k' 0 l[i].length l[i].length]], 0, true⟩, ⟨4, (flt s (l[i].take jj)).map Cell.c, 0, false⟩] ∧ j = l[i].length - jj ∧ (jj ≤ l[i].length))
  ·exact ⟨0, (k47_6 _).trans dN15, (by first | rfl | (simp only [app_app, List.cons_append, List.nil_append]; done)), rfl, (by first | omega | rfl | (simp; done))⟩
  rintro j e S' ⟨jj, rfl, rfl, hj, hjl⟩
  have hft := flt_t s l[i] hjl
  by_cases hlj : (jj : Int) < (l[i].length : Int)
  ·have hltj : jj < l[i].length := by omega
   have hgc : (l[i].map Cell.c)[jj]? = some (Cell.c l[i][jj]) := by rw [List.getElem?_map, List.getElem?_eq_getElem hltj]; rfl
   simp only [Cell.c] at hgc
   cases hb : hitC s l[i][jj] with
   | true =>
    have hbn : (l[i][jj].name.toList == s.toList) = true := hb
    have hbm : (l[i][jj].name.toList != s.toList) = false := by unfold bne; rw [hbn]; rfl
    (have F := an15 @yD @yF @yA @yB @yE @yC @hlj @hin @hgc @hbn @hbm @w1 @w2 @List.getElem?_append_left.{0} @List.set_append_left.{0}; (repeat' (first | refine' dA41 | fail)); all_goals clear F)
    have hfe : flt s (l[i].take (jj + 1)) = flt s (l[i].take jj) := by rw [flt_s s l[i] hltj, if_pos hb, List.append_nil]
    apply roundQ_m; refine ⟨_, ⟨jj + 1, (k47_6 _).trans (by simp (disch := first | (intros; contradiction) | (as_aux_lemma => omega) | (as_aux_lemma => (simp only [LEN2]; first | done | omega)) | (as_aux_lemma => (simp only [LEN]; try omega))) only [hfe, EV, TT, w, w0, fz, yD, yF, yA, yB, yE, yC, Nat.reduceEqDiff, Nat.reduceBeqDiff, Nat.reduceAdd, Nat.reduceMul, Nat.reduceLeDiff, Nat.reduceLT, reduceCtorEq, Int.reduceEq, Int.reduceNeg]; first | done | rfl | (congr <;> omega)), ?_, rfl, ?_⟩, ?_⟩
    ·(rw [hfe]; refine (congrArg (fun K => lpG K _ _ _) (show _ = some _ from rfl)).trans (lpG_cut rfl ?_); (simp [lowV, okC, mkE_at]; omega))
    ·omega
    ·omega
   | false =>
    have hbn : (l[i][jj].name.toList == s.toList) = false := hb
    have hbm : (l[i][jj].name.toList != s.toList) = true := by unfold bne; rw [hbn]; rfl
    have hfs : (flt s (l[i].take jj)).map Cell.c ++ [[(.v (.string (l[i][jj].name))), (.v (.int .i64 (l[i][jj].no))), (.v (.string (l[i][jj].data))), (.v (.int .i64 (l[i][jj].sum)))]] = (flt s (l[i].take (jj + 1))).map Cell.c := by rw [flt_s s l[i] hltj, if_neg (by simp [hb]), List.map_append]; rfl
    (have F := an16 @yD @yF @yA @yB @yE @yC @hlj @hin @hgc @hbn @hbm @hfs @w1 @w2 @List.getElem?_append_left.{0} @List.set_append_left.{0}; (repeat' (first | refine' dA41 | fail)); all_goals clear F)
    have hfm := flt_len_miss s l[i] hltj hb
    apply roundQ_m; refine ⟨_, ⟨jj + 1, (k47_6 _).trans (by simp (disch := first | (intros; contradiction) | (as_aux_lemma => omega) | (as_aux_lemma => (simp only [LEN2]; first | done | omega)) | (as_aux_lemma => (simp only [LEN]; try omega))) only [hfm, EV, TT, w, w0, fz, yD, yF, yA, yB, yE, yC, Nat.reduceEqDiff, Nat.reduceBeqDiff, Nat.reduceAdd, Nat.reduceMul, Nat.reduceLeDiff, Nat.reduceLT, reduceCtorEq, Int.reduceEq, Int.reduceNeg]; first | done | rfl | (congr <;> omega)), ?_, rfl, ?_⟩, ?_⟩
    ·(refine (congrArg (fun K => lpG K _ _ _) (show _ = some _ from rfl)).trans (lpG_mod rfl rfl ?_ ?_) <;> (simp [lowV, okC, mkE_at, rowsAll_cons, rowsAll_nil, ok_Cell]; try omega))
    ·omega
    ·omega
  ·obtain rfl : jj = l[i].length := by omega
   rw [List.take_length]
   (have F := an18 @yD @yF @yA @yB @yE @yC @hlj @fb0 @fb1 @hob @hrl @hg @hwid @w1 @w2 @if_true.{0} @List.getElem?_append_left.{0} @List.set_append_left.{0}; (repeat' (first | refine' dA50 | fail)); all_goals clear F)
   have hidT := hNu.id_lt
   have hq : ∀ j, j < T.length → j ≠ id → ∀ o x, (T.set id o ++ x)[j]? = T[j]? := fun j h1 h2 o x => by rw [List.getElem?_append_left (by simpa using h1), List.getElem?_set_ne (Ne.symm h2)]
   have hput : Nst (T.set id ⟨1, (rowsK ids2 (stL s l i)).set i [.sl (T.length + 1) 0 (flt s l[i]).length (flt s l[i]).length], 0, false⟩ ++ [⟨1, [[.sl k' 0 l[i].length l[i].length]], 0, true⟩, obC (flt s l[i])]) id (fun j => if j = i then some (T.length + 1) else ids2 j) (stL s l (i + 1)) := by
    rw [← stL_step s l hlt]
    refine hNu.put (by rw [hpl]; exact hlt) (flt s l[i]) (by omega) ?_ ?_ fun j o hj ho => (hq j (List.getElem?_eq_some_iff.1 ho).1 hj _ _).trans ho
    ·rw [List.getElem?_append_left (by simpa using hidT), List.getElem?_set_self hidT]
    ·rw [List.getElem?_append_right (by simp)]; simp
   apply roundQ_m; refine ⟨_, ⟨i + 1, (fun j => if j = i then some (T.length + 1) else ids2 j), (T.set id ⟨1, (rowsK ids2 (stL s l i)).set i [.sl (T.length + 1) 0 (flt s l[i]).length (flt s l[i]).length], 0, false⟩ ++ [⟨1, [[.sl k' 0 l[i].length l[i].length]], 0, true⟩, obC (flt s l[i])]), (k47_2 _).trans dN15, ?_, rfl, ?_, ?_, ?_, ?_, ?_, ?_, ?_, ?_, ?_⟩, ?_⟩
   ·(refine lpG_keep hob (by rw [List.getElem?_append_left (by simpa using hidT), List.getElem?_set_self hidT]) (rowsK_ok fun j k hj hk => hNu.in_lt hj hk) (rowsK_no (List.getElem?_set_self (by rw [hrl]; omega)) (by simp [okC])))
   ·omega
   ·(exact hput)
   ·(intro j hj; dsimp only; by_cases e : j = i; (rw [if_pos e]; simp); (rw [if_neg e]; exact hal j hj))
   ·(intro j k hj hk; dsimp only at hk; by_cases e : j = i; (rw [if_pos e] at hk; injection hk with hk; omega); (rw [if_neg e] at hk; exact hge j k (by omega) hk))
   ·(intro j hj; dsimp only; rw [if_neg (by omega)]; exact hsm j (by omega))
   ·(exact (hq _ (by omega) (by omega) _ _).trans fb0)
   ·(exact (hq _ (by omega) (by omega) _ _).trans fb1)
   ·(simp; omega)
   ·(intro j hj h1; exact (hq j (by omega) h1 _ _).trans (hku j hj h1))
   ·omega
 ·obtain rfl : i = l.length := by omega
  have he : stL s l l.length = l.map (flt s) := by simp [stL]
  rw [he] at hNu
  (have F := an12 @yD @yF @yA @yB @yE @yC @hli @fb0 @fb1 @List.getElem?_set_self.{0} @List.getElem?_set_ne.{0} @List.length_set.{0}; (repeat' (first | refine' dA41 | fail)); all_goals clear F)
  refine ⟨.inl rfl, fun S₂ hk => ?_⟩
  rw [hk.nil]
  have hq : ∀ j, j ≠ S.length + 1 → ∀ o, (T.set (S.length + 1) o)[j]? = T[j]? := fun j h1 o => by rw [List.getElem?_set_ne (Ne.symm h1)]
  exact ⟨ids2, rfl, hNu.mono (hq _ (by omega) _) (fun i k hi hk => hq _ (by have := hge i k (by simpa using hi) hk; omega) _), hal, fun i k hi hk => by have := hge i k hi hk; omega, by simp; omega, fun j hj h1 => (hq j (by omega) _).trans (hku j hj h1)⟩
end Go.Proofs.YtdpaijnbikclgaaDoorB
