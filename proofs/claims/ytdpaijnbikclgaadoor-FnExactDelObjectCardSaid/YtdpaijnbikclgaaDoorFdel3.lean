/- Part of the evaluator's contracts: del3. -/
import Derived.Test.YtdpaijnbikclgaaDoorFdel2
namespace Go.Proofs.YtdpaijnbikclgaaDoorB
open Go Go.Proofs.YtdpaijnbikclgaaDoorE
set_option linter.unusedVariables false
set_option linter.unusedSectionVars false
set_option linter.unusedSimpArgs false
set_option maxHeartbeats 4000000
set_option maxRecDepth 20000
theorem del_rows2 {m : List (List A)} {i n : Nat} {z : List A} (hn : m.length = n) (hi : i < n) :
  List.take (i + (n - (i + 1))) (List.take i m ++ List.drop (i + 1) m ++ List.drop (i + (n - (i + 1))) m) ++ List.replicate (n - (i + (n - (i + 1)))) z ++ List.drop (i + (n - (i + 1)) + (n - (i + (n - (i + 1))))) (List.take i m ++ List.drop (i + 1) m ++ List.drop (i + (n - (i + 1))) m) = m.eraseIdx i ++ [z] := by
 have e1 : i + (n - (i + 1)) = n - 1 := by omega
 have e2 : n - (n - 1) = 1 := by omega
 have e3 : (List.take i m ++ List.drop (i + 1) m).length = n - 1 := by simp; omega
 have e4 : List.drop (n - 1 + 1) (List.take i m ++ List.drop (i + 1) m ++ List.drop (n - 1) m) = [] := List.drop_eq_nil_of_le (by rw [List.length_append, e3, List.length_drop]; omega)
 rw [e1, e2, e4, List.take_left' e3, List.append_nil, List.eraseIdx_eq_take_drop_succ]
 rfl
theorem c48_one {k : Nat} {md : Md} {S : Store} {vs : List A} {D : List Nat} {id i : Nat} {l : List Object} (hd : dpArgs S [true] vs = some ([.sl id 0 l.length l.length, (.v (.int .i64 ((i : Int)))), (.v (.int .i64 ((i : Int) + 1)))], D)) (hD : (D.all fun i => !([id] : List Nat).contains i) = true := by first | rfl | simp) (hn : l.length ≤ 1048576 := by first | assumption | omega | with_reducible rfl) (hi : i < l.length := by first | assumption | omega | with_reducible rfl) (hid : S[id]? = some ⟨2, l.map Object.c, 0, false⟩) (hw : md.wr id = true) (hk : 1 ≤ k := by omega) :
  Cal (run k) md 48 vs S (fun r S' => r = .sl id 0 (l.length - 1) l.length ∧ S' = S.set id ⟨2, (l.eraseIdx i).map Object.c ++ [[.v (.string ⟨#[]⟩), .v (.int .i64 0)]], 0, false⟩) := by
 obtain ⟨k, rfl⟩ : ∃ j, k = j + 1 := ⟨k - 1, by omega⟩
 refine Cal.fn (n := 33) (rs := [.tmp 6]) (ids := [id]) (D := D) (Xof_none rfl) g48 (by delta Tryd.f48; exact rfl) (by delta Tryd.f48; exact rfl) (by delta Tryd.f48; exact rfl) hd rfl (by first | rfl | simp [idsV, idsC]) hD (by simp) ?_
 intro md' ow; have w := ow.w; have w0 := ow.w0; have fz : md'.fz = false := ow.fz
 have hlt0 := (List.getElem?_eq_some_iff.1 hid).1
 have wi := ow.old id (by simp) hw
 have h5 : ((i : Int) == (i : Int) + 1) = false := by simp; omega
 have t1 : ((i : Int) + 1).toNat = i + 1 := by omega
 have hlr : leafRows (List.drop (i + 1) (List.map Object.c l)) = true := by rw [← List.map_drop]; exact lf_Object _
 have hld : (List.drop (i + 1) (List.map Object.c l)).length = l.length - (i + 1) := by simp
 have hb6 : (List.take i (List.map Object.c l) ++ List.drop (i + 1) (List.map Object.c l) ++ List.drop (i + (l.length - (i + 1))) (List.map Object.c l)).length = l.length := by simp; omega
 have hdr := del_rows2 (m := l.map Object.c) (n := l.length) (i := i) (z := [.v (.string ⟨#[]⟩), .v (.int .i64 0)]) (by simp) hi
 have hme : (l.map Object.c).eraseIdx i = (l.eraseIdx i).map Object.c := by rw [List.eraseIdx_eq_take_drop_succ, List.eraseIdx_eq_take_drop_succ, List.map_append, List.map_take, List.map_drop]
 (have F := an17 @yD @yF @yA @yB @yE @yC @hdr @hme @hw @hb6 @wi @hlr @hld @t1 @h5 @hlt0 @hid; (repeat' (first | refine' dA49 | fail)); all_goals clear F)
 exact ⟨by rw [resA, show i + (l.length - (i + 1)) = l.length - 1 by omega], rfl⟩
theorem Nsp.read {S : Store} {id : Nat} {ids : Nat → Option Nat} {l : List (List Cell)} {pd : Nat → Nat} (h : Nsp S id ids l pd) (hall : ∀ i, i < l.length → ids i ≠ none) (h0 : 0 < l.length) : ∃ D, dpC S (.sl id 0 l.length l.length) = some (.ro 1 (l.map nodeC), D) := by
 have key : ∀ n, n ≤ l.length → ∃ D, dpR S ((rowsP ids l pd).drop n) = some ((l.map nodeC).drop n, D) := fun n hn => by
  obtain ⟨d, rfl⟩ : ∃ d, n = l.length - d := ⟨l.length - n, by omega⟩
  induction d with
  | zero => exact ⟨[], by rw [List.drop_eq_nil_of_le (by rw [rowsP_len]; omega), List.drop_eq_nil_of_le (by simp)]; rfl⟩
  | succ d ih =>
   rcases Nat.lt_or_ge d l.length with hd | hd
   ·have hlt : l.length - (d + 1) < l.length := by omega
    obtain ⟨D, hD⟩ := ih (by omega)
    rw [show l.length - d = l.length - (d + 1) + 1 by omega] at hD
    have a1 := rowsP_at ids l pd hlt
    have a2 : (l.map nodeC)[l.length - (d + 1)]? = some (nodeC l[l.length - (d + 1)]) := by rw [List.getElem?_map, List.getElem?_eq_getElem hlt]; rfl
    obtain ⟨b1, c1⟩ := List.getElem?_eq_some_iff.1 a1
    obtain ⟨b2, c2⟩ := List.getElem?_eq_some_iff.1 a2
    rw [List.drop_eq_getElem_cons b1, List.drop_eq_getElem_cons b2, c1, c2]
    have : ∃ D1, dpL1 S (rowP (ids (l.length - (d + 1))) l[l.length - (d + 1)] (pd (l.length - (d + 1)))) = some (nodeC l[l.length - (d + 1)], D1) := by
     cases e : ids (l.length - (d + 1)) with
     | none => exact absurd e (hall _ hlt)
     | some k =>
      have hk := h.inn _ hlt k e
      refine ⟨[k] ++ [], ?_⟩
      have hf : flatRowsB (List.map Cell.c l[l.length - (d + 1)] ++ List.replicate (pd (l.length - (d + 1))) zc) = true := by
       unfold flatRowsB
       rw [List.all_append, Bool.and_eq_true]
       exact ⟨flat_map Cell.c (fun _ => rfl) _, by rw [List.all_eq_true]; intro r hr; rw [List.eq_of_mem_replicate hr]; rfl⟩
      simp only [rowP, dpL1, dpC1, hk, obP]
      rw [if_pos ⟨by simp, hf⟩]
      simp [nodeC, List.take_left']
    obtain ⟨D1, hD1⟩ := this
    exact ⟨D1 ++ D, by simp only [dpR, hD1, hD]⟩
   ·rw [show l.length - (d + 1) = l.length - d by omega]; exact ih (by omega)
 obtain ⟨D, hD⟩ := key 0 (by omega)
 simp only [List.drop_zero] at hD
 have hl : (rowsP ids l pd).length = l.length := rowsP_len ids l pd
 simp only [dpC, h.ob]
 split
 ·rename_i hc
  exfalso
  have hm : rowP (ids 0) l[0] (pd 0) ∈ rowsP ids l pd := List.mem_of_getElem? (rowsP_at ids l pd h0)
  have := List.all_eq_true.1 hc.2 _ hm
  cases e : ids 0 with
  | none => exact hall 0 h0 e
  | some k => rw [e] at this; simp [rowP, flatC] at this
 ·rw [hD]
  refine ⟨[id] ++ D, ?_⟩
  simp only [hl, fl_node, and_self, if_true, List.drop_zero]
  rw [List.take_of_length_le (by simp)]
end Go.Proofs.YtdpaijnbikclgaaDoorB
