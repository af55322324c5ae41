/- The law FnExactNewCluster holds: for every argument within the row's bounds the printed function answers true. No further condition. -/
import Derived.Test.YtppgkkejddjacaaPFnExactNewClusterx5
set_option linter.unusedVariables false
namespace Go.Proofs.Ytppgkkejddjacaa.Pure
open Go.RowKit Go.Proofs.Ytppgkkejddjacaa.PFnExactNewCluster Go.Proofs.YtppgkkejddjacaaW.PrintWords Go.Proofs.YtppgkkejddjacaaW.PrintLast
namespace QFnExactNewCluster
/-! ### Rounds -/
theorem Ev.pos {α : Type} {c : Prop} [Decidable c] {g f : Nat → Option α} {r : α} (hc : c) (h : Ev g r) : Ev (fun k => if c then g k else f k) r :=
  Ev.congr (fun _ => if_pos hc) h
theorem Ev.neg {α : Type} {c : Prop} [Decidable c] {g f : Nat → Option α} {r : α} (hc : ¬ c) (h : Ev f r) : Ev (fun k => if c then g k else f k) r :=
  Ev.congr (fun _ => if_neg hc) h
theorem Ev.bindo {α β : Type} {o : Option α} {f : Nat → α → Option β} {a : α} {r : β} (h : o = some a) (k : Ev (fun n => f n a) r) : Ev (fun n => o.bind (f n)) r :=
  Ev.congr (fun n => by rw [h]; rfl) k
theorem Ev.eq {α : Type} {g : Nat → Option α} {r s : α} (h : Ev g r) (e : r = s) : Ev g s := e ▸ h
theorem wrap64_id {x : Int} (h1 : -9223372036854775808 ≤ x) (h2 : x ≤ 9223372036854775807) : wrap64 x = x := by
  unfold wrap64
  omega
theorem wrap64_lo (x : Int) : -9223372036854775808 ≤ wrap64 x ∧ wrap64 x ≤ 9223372036854775807 := by
  unfold wrap64
  omega
theorem wf_i64 {x : Int} (h : (Lit.int .i64 x).wf = true) : -9223372036854775808 ≤ x ∧ x ≤ 9223372036854775807 := by
  simp [Lit.wf, IntKind.min, IntKind.max, IntKind.signed, IntKind.bits] at h
  omega
/-- Is a number in a range? -/
def inB (a b c : Int) : Bool := decide (b ≤ a) && decide (a ≤ c)
theorem inB_iff {a b c : Int} : inB a b c = true ↔ b ≤ a ∧ a ≤ c := by simp [inB]
theorem inB_no {a b c : Int} : inB a b c = false ↔ ¬ (b ≤ a ∧ a ≤ c) := by rw [← inB_iff]; simp

theorem l1In_eq (a b c : Int) : spec_l1In.f a b c = some (inB a b c) := by
  unfold spec_l1In.f inB
  by_cases h : b ≤ a <;> simp [h]
theorem within_eq (a b c : Int) : impl_within.f a b c = some (inB a b c) := by
  unfold impl_within.f inB
  by_cases h : b ≤ a <;> simp [h]

abbrev NN := S127
theorem newCluster_both (a b c : Int) : ∃ (x y : Int) (n : Nat) (ok : Bool), n ≤ 12 ∧ spec_NewCluster.f a b c = some (x, y, List.replicate n z127, [], ok) ∧ impl_NewCluster.f a b c = some (x, y, List.replicate n z127, [], ok) := by
  unfold spec_NewCluster.f impl_NewCluster.f spec_GoodShape.f impl_GoodShape.f
  simp only [l1In_eq, within_eq, Option.bind_some]
  by_cases h1 : inB b 1 8 = true
  case neg => simp only [Bool.not_eq_true] at h1; exact ⟨0, 0, 0, false, by omega, by simp [h1], by simp [h1]⟩
  by_cases h2 : inB c 1 6 = true
  case neg => simp only [Bool.not_eq_true] at h2; exact ⟨0, 0, 0, false, by omega, by simp [h1, h2], by simp [h1, h2]⟩
  by_cases h3 : inB a (wrap64 (b + c)) 12 = true
  case neg => simp only [Bool.not_eq_true] at h3; exact ⟨0, 0, 0, false, by omega, by simp [h1, h2, h3], by simp [h1, h2, h3]⟩
  have k1 := inB_iff.1 h1
  have k2 := inB_iff.1 h2
  have k3 := inB_iff.1 h3
  rw [wrap64_id (by omega) (by omega)] at k3
  have h4 : 0 ≤ a := by omega
  have h5 : a.toNat ≤ 11728124029610 := by omega
  exact ⟨b, c, a.toNat, true, by omega, by simp [h1, h2, h3, h4, h5], by simp [h1, h2, h3, h4, h5]⟩
theorem rdrep (n i : Nat) : rd_T127 (List.replicate n z127) (i : Int) = z127 := by
  unfold rd_T127
  rw [List.getD_eq_getElem?_getD, Int.toNat_natCast, List.getElem?_replicate]
  split <;> rfl
theorem eqNodeS_loop (n : Nat) (hn : n ≤ 12) : ∀ (d i : Nat), i + d = n → Ev (fun k => laws_eqNodeS.l0 k (List.replicate n z127) (List.replicate n z127) (i : Int)) true := by
  intro d
  induction d with
  | zero =>
    intro i hi
    exact Ev.step (fun k => laws_eqNodeS.l0.eq_2 _ _ _ _) (Ev.neg (by simp; omega) (Ev.now _))
  | succ d ih =>
    intro i hi
    have hc : Ev (fun k => laws_eqNode.f k [] []) true := by
      unfold laws_eqNode.f laws_eqCellS.f
      exact Ev.bind (Ev.pos rfl (Ev.step (fun k => laws_eqCellS.l0.eq_2 _ _ _ _) (Ev.neg (by simp) (Ev.now _)))) (Ev.pos rfl (Ev.now _))
    refine Ev.step (fun k => laws_eqNodeS.l0.eq_2 _ _ _ _) (Ev.pos (by simp; omega) (Ev.pos (by omega) (Ev.pos (by simp; omega) ?_)))
    rw [rdrep, wrap64_id (by omega) (by omega)]
    exact Ev.bind hc (Ev.pos rfl (ih (i + 1) (by omega)))
theorem eqCluster_ev (x y : Int) (n : Nat) (hn : n ≤ 12) : Ev (fun k => laws_eqCluster.f k x y (List.replicate n z127) [] x y (List.replicate n z127) []) true := by
  unfold laws_eqCluster.f laws_eqNodeS.f laws_eqObjectS.f
  exact Ev.pos rfl (Ev.pos rfl (Ev.bind (Ev.pos rfl (eqNodeS_loop n hn n 0 (by omega))) (Ev.pos rfl (Ev.bind (Ev.pos rfl (Ev.step (fun k => laws_eqObjectS.l0.eq_2 _ _ _ _) (Ev.neg (by simp) (Ev.now _)))) (Ev.pos rfl (Ev.now _))))))
theorem allrep (n : Nat) : (List.replicate n z127).all (fun x => x.f0.isEmpty) = true := by
  rw [List.all_eq_true]
  intro x hx
  rw [List.eq_of_mem_replicate hx]; rfl
theorem markCluster_ev (x y : Int) (n : Nat) : Ev (fun k => laws_markCluster.f k x y (List.replicate n z127) [] 1) (1, []) := by
  unfold laws_markCluster.f laws_markObjectS.f
  exact Ev.bindo (by unfold laws_markNodeS.f; rw [if_pos (allrep n)]) (Ev.bind (Ev.step (fun k => laws_markObjectS.l0.eq_2 _ _ _ _) (Ev.neg (by simp) (Ev.now _))) (Ev.now _))
theorem heldCluster_ev (x y : Int) (n : Nat) : Ev (fun k => laws_heldCluster.f k x y (List.replicate n z127) [] 1) 1 := by
  unfold laws_heldCluster.f laws_heldObjectS.f
  exact Ev.bindo (by unfold laws_heldNodeS.f; rw [if_pos ⟨allrep n, by omega⟩]) (Ev.neg (by omega) (Ev.bind (Ev.step (fun k => laws_heldObjectS.l0.eq_2 _ _ _ _) (Ev.neg (by simp) (Ev.now _))) (Ev.neg (by omega) (Ev.now _))))
end QFnExactNewCluster
open QFnExactNewCluster
theorem FnExactNewCluster : laws_FnExactNewCluster.Pure := by
  intro a b c _ _ _
  refine Ev.rounds ?_
  unfold laws_FnExactNewCluster.f
  obtain ⟨x, y, n, ok, hn, h1, h2⟩ := newCluster_both a b c
  have e := eqCluster_ev x y n hn
  have m := markCluster_ev x y n
  have h := heldCluster_ev x y n
  refine Ev.bindo h1 (Ev.bindo h2 (Ev.bind e (Ev.pos rfl ?_)))
  refine Ev.step (fun k => laws_FnExactNewCluster.j0.eq_2 _ _ _ _ _ _ _ _ _ _ _ _ _ _) (Ev.neg (by simp) (Ev.bind m (Ev.bind h (Ev.neg (by omega) (Ev.pos rfl (Ev.bindo h2 (Ev.bind e (Ev.pos rfl ?_))))))))
  exact Ev.step (fun k => laws_FnExactNewCluster.j1.eq_2 _ _ _ _ _ _ _) (Ev.neg (by simp) (Ev.bind h (Ev.neg (by omega) (Ev.pos rfl (Ev.now _)))))

end Go.Proofs.Ytppgkkejddjacaa.Pure
