/- Part of the evaluator's contracts: lead. -/
import Derived.Test.YtomklniddinhnaaFshelf2
namespace Go.Proofs.YtomklniddinhnaaB
open Go Go.Proofs.YtomklniddinhnaaE
set_option linter.unusedVariables false
set_option linter.unusedSectionVars false
set_option linter.unusedSimpArgs false
set_option maxHeartbeats 4000000
set_option maxRecDepth 20000
def ldP {α : Type} (p : α → Bool) : List α → Nat
 | [] => 0
 | a :: l => if p a = true then ldP p l + 1 else 0
theorem ldP_le {α : Type} (p : α → Bool) : ∀ l : List α, ldP p l ≤ l.length
 | [] => Nat.le_refl _
 | b :: l => by simp only [ldP]; split; (have := ldP_le p l; simp; omega); (simp)
theorem ldP_in {α : Type} (p : α → Bool) : ∀ (l : List α) (j : Nat) (x : α), j < ldP p l → l[j]? = some x → p x = true
 | [], j, x, h, hx => by simp [ldP] at h
 | b :: l, j, x, h, hx => by
  simp only [ldP] at h
  split at h
  ·rename_i e
   cases j with
   | zero => simp at hx; exact hx ▸ e
   | succ j => exact ldP_in p l j x (by omega) (by simpa using hx)
  ·omega
theorem ldP_out {α : Type} (p : α → Bool) : ∀ (l : List α) (x : α), l[ldP p l]? = some x → p x = false
 | [], x, h => by simp [ldP] at h
 | b :: l, x, h => by
  simp only [ldP] at h
  split at h
  ·exact ldP_out p l x (by simpa using h)
  ·rename_i e; simp at h; exact h ▸ (by simpa using e)
theorem ldP_all {α : Type} (p : α → Bool) : ∀ (l : List α), (∀ x ∈ l, p x = true) → ldP p l = l.length
 | [], _ => rfl
 | b :: l, h => by simp only [ldP]; rw [if_pos (h b (by simp)), ldP_all p l fun x hx => h x (by simp [hx])]; rfl
def posP (l : List Part) (x : Part) : Nat := ldP (fun y => ltPart y x) l
def hasP (l : List Part) (x : Part) : Bool := match l[posP l x]? with | some y => decide (y.gen = x.gen ∧ y.no = x.no) | none => false
def srtP (l : List Part) : Prop := ∀ a b (hab : a < b) (hb : b < l.length), ltPart (l[a]'(by omega)) l[b] = true
theorem posP_le (l : List Part) (x : Part) : posP l x ≤ l.length := ldP_le _ l
theorem cmpQ_lt (a b : Part) : (orI (cmpI a.gen b.gen) (cmpI a.no b.no) < 0) ↔ ltPart a b = true := by
 unfold orI cmpI ltPart
 simp only [Bool.or_eq_true, Bool.and_eq_true, decide_eq_true_eq]
 repeat' split
 all_goals omega
theorem cmpQ_eq (a b : Part) : (orI (cmpI a.gen b.gen) (cmpI a.no b.no) == 0) = decide (a.gen = b.gen ∧ a.no = b.no) := by
 rw [Bool.eq_iff_iff, beq_iff_eq, decide_eq_true_eq]
 unfold orI cmpI
 repeat' split
 all_goals omega
theorem cmpQ_in {l : List Part} {x : Part} {i : Nat} (h : i < posP l x) (hi : i < l.length) : orI (cmpI l[i].gen x.gen) (cmpI l[i].no x.no) < 0 :=
 (cmpQ_lt _ _).2 (ldP_in _ l i l[i] h (List.getElem?_eq_getElem hi))
theorem cmpQ_out {l : List Part} {x : Part} (hs : srtP l) {i : Nat} (h : posP l x ≤ i) (hi : i < l.length) : ¬ orI (cmpI l[i].gen x.gen) (cmpI l[i].no x.no) < 0 := by
 rw [cmpQ_lt]
 have hlt : posP l x < l.length := by omega
 have hp : ltPart l[posP l x] x = false := ldP_out (fun y => ltPart y x) l l[posP l x] (List.getElem?_eq_getElem hlt)
 by_cases e : posP l x = i
 ·subst e; rw [hp]; exact Bool.false_ne_true
 ·have hl := hs (posP l x) i (by omega) hi
  intro hc
  simp only [ltPart, Bool.or_eq_true, Bool.and_eq_true, decide_eq_true_eq, Bool.or_eq_false_iff, Bool.and_eq_false_iff, decide_eq_false_iff_not] at hp hl hc
  omega
theorem hasP_in {l : List Part} {x : Part} (h : posP l x < l.length) : hasP l x = decide ((l[posP l x]).gen = x.gen ∧ (l[posP l x]).no = x.no) := by
 unfold hasP; rw [List.getElem?_eq_getElem h]
theorem hasP_no {l : List Part} {x : Part} (h : ¬ posP l x < l.length) : hasP l x = false := by
 unfold hasP; rw [List.getElem?_eq_none (by omega)]
theorem halfP (i jj : Nat) (h : i ≤ 1048576 ∧ jj ≤ 1048576) : (IntKind.u64.wrap ((i : Int) + (jj : Int))).fdiv (2 ^ (min (Int.toNat 1) IntKind.u64.bits)) = (((i + jj) / 2 : Nat) : Int) := by
 rw [IntKind.wrap_u64]
 have e : min (Int.toNat 1) IntKind.u64.bits = 1 := rfl
 rw [e, Int.fdiv_eq_ediv_of_nonneg _ (by decide)]
 omega
theorem k76_3 (e : Env) : lpE (FI.K ⟨[], false, [(3, [0, 2, 4, 8, 9, 10]), (1000, [0, 2, 4]), (1001, [0, 2, 4, 8]), (1002, [0, 2, 4, 8, 9, 10]), (1003, [0, 2, 4, 8, 9, 10, 17]), (1004, [0, 2, 4, 8, 9, 10, 11]), (1005, [0, 2, 4, 8, 9, 10, 11, 31]), (1006, [0, 2, 4, 8, 9, 10]), (1007, [0, 2, 4, 8, 9, 10]), (1008, [6, 7])]⟩ 3) e = mkE [(0, e 0), (2, e 2), (4, e 4), (8, e 8), (9, e 9), (10, e 10)] := rfl
theorem c76_cp {k : Nat} {md : Md} {S : Store} {vs : List A} {D : List Nat} {l : List Part} {x : Part} (hd : dpArgs S [] vs = some ([.ro 3 (l.map Part.c), .ag [(.v (.int .i64 (x.gen))), (.v (.int .i64 (x.no))), (.v (.string (x.data)))], .fn 62 []], D)) (hl : l.length ≤ 1048576 := by first | assumption | omega | with_reducible rfl) (hs : srtP l := by first | assumption | omega | with_reducible rfl) (hk : 12 ≤ k := by omega) :
  Cal (run k) md 76 vs S (fun r S' => r = .tu [(.v (.int .i64 ((posP l x : Int)))), (.v (.bool (hasP l x)))] ∧ S' = S) := by
 obtain ⟨k, rfl⟩ : ∃ j, k = j + 1 := ⟨k - 1, by omega⟩
 refine Cal.fn (n := 49) (rs := [.tmp 6, .tmp 7]) (ids := []) (D := D) (Xof_none rfl) g76 (by delta Try.f76; exact rfl) (by delta Try.f76; exact rfl) (by delta Try.f76; exact rfl) hd rfl (by first | rfl | simp [idsV, idsC]) (by simp) (by simp) ?_
 intro md' ow; have w := ow.w; have w0 := ow.w0; have fz : md'.fz = false := ow.fz
 have hle := posP_le l x
 (have F := an3 @yD @yB @yA; (repeat' (first | refine' dA23 | fail)); all_goals clear F)
 apply Ev.loop (fun j e S' => ∃ i : Nat, ∃ jj : Nat, e = mkE [(0, .ro 3 (l.map Part.c)), (2, .fn 62 []), (4, .pt S.length 0 0 1), (8, (.v (.int .i64 ((l.length : Int))))), (9, (.v (.int .i64 ((i : Int))))), (10, (.v (.int .i64 ((jj : Int)))))] ∧ S' = S ++ [⟨3, [[(.v (.int .i64 (x.gen))), (.v (.int .i64 (x.no))), (.v (.string (x.data)))]], 0, true⟩] ∧ j = jj - i ∧ (i ≤ posP l x) ∧ (posP l x ≤ jj ∧ jj ≤ l.length))
 ·exact ⟨0, l.length, (k76_3 _).trans (by simp (disch := first | (intros; contradiction) | (as_aux_lemma => omega) | (as_aux_lemma => (simp only [LEN2]; first | done | omega)) | (as_aux_lemma => (simp only [LEN]; try omega))) only [EV, TT, w, w0, fz, yD, yB, yA, Nat.reduceEqDiff, Nat.reduceBeqDiff, Nat.reduceAdd, Nat.reduceMul, Nat.reduceLeDiff, Nat.reduceLT, reduceCtorEq, Int.reduceEq, Int.reduceNeg]; first | done | rfl | (congr <;> omega)), (by first | rfl | (simp only [app_app, List.cons_append, List.nil_append]; done)), rfl, (by omega), (by omega)⟩
 rintro j e S' ⟨i, jj, rfl, rfl, hj, hi, hjj⟩
 have hh := halfP i jj (by omega)
 by_cases hlt : i < jj
 ·have hli : (i : Int) < (jj : Int) := by omega
  have hm1 : (i + jj) / 2 < l.length := by omega
  have hm2 : i ≤ (i + jj) / 2 ∧ (i + jj) / 2 < jj := by omega
  generalize hmm : (i + jj) / 2 = y at *
  by_cases hp : y < posP l x
  ·have hc1 := cmpQ_in hp hm1
   generalize hcc : orI (cmpI l[y].gen x.gen) (cmpI l[y].no x.no) = z at *
   (have F := an7 @yD @yB @yA @hli @hh @hcc @hc1; (repeat' (first | refine' dA24 | ((with_reducible first | apply EvO.call (vs := ?_) | apply EvT.call (vs := ?_)); exact rfl; exact rfl; exact dE7; (with_reducible apply Cal.hd (ms := []) (p := ?_)); exact dE7) | exact dC3 | fail)); all_goals clear F)
   all_goals first | (exfalso; omega) | skip
   all_goals
    apply roundQ_m; refine ⟨_, ⟨y + 1, jj, (k76_3 _).trans dN9, ?_, rfl, ?_, ?_⟩, ?_⟩
    ·exact dS2
    ·omega
    ·omega
    ·omega
  ·have hc1 := cmpQ_out hs (show posP l x ≤ y by omega) hm1
   generalize hcc : orI (cmpI l[y].gen x.gen) (cmpI l[y].no x.no) = z at *
   (have F := an7 @yD @yB @yA @hli @hh @hcc @hc1; (repeat' (first | refine' dA24 | ((with_reducible first | apply EvO.call (vs := ?_) | apply EvT.call (vs := ?_)); exact rfl; exact rfl; exact dE7; (with_reducible apply Cal.hd (ms := []) (p := ?_)); exact dE7) | exact dC3 | fail)); all_goals clear F)
   all_goals first | (exfalso; omega) | skip
   all_goals
    apply roundQ_m; refine ⟨_, ⟨i, y, (k76_3 _).trans dN9, ?_, rfl, ?_, ?_⟩, ?_⟩
    ·exact dS2
    ·omega
    ·omega
    ·omega
 ·have hli : ¬ (i : Int) < (jj : Int) := by omega
  obtain rfl : i = posP l x := by omega
  by_cases hlq : (posP l x : Int) < (l.length : Int)
  ·have hl2 : posP l x < l.length := by omega
   have hcq := cmpQ_eq l[posP l x] x
   rw [← hasP_in hl2] at hcq
   (have F := an6 @yD @yB @yA @hli @hlq @hcq; (repeat' (first | refine' dA24 | ((with_reducible first | apply EvO.call (vs := ?_) | apply EvT.call (vs := ?_)); exact rfl; exact rfl; exact dE7; (with_reducible apply Cal.hd (ms := []) (p := ?_)); exact dE7) | ((with_reducible apply CalH.mk); intro hd; first | exact c62 (k := k) hd (a := l[posP l x].gen) (b := l[posP l x].no) (c := x.gen) (d := x.no)) | fail)); all_goals clear F)
   all_goals first | (exfalso; omega) | exact ⟨rfl, rfl⟩
  ·have hno := hasP_no (l := l) (x := x) (by omega)
   (have F := an6 @yD @yB @yA @hli @hlq @hno; (repeat' (first | refine' dA23 | fail)); all_goals clear F)
   all_goals first | (exfalso; omega) | (refine ⟨?_, rfl⟩; rw [hno]; rfl)
end Go.Proofs.YtomklniddinhnaaB
