/- Part of the evaluator's contracts: gf2. -/
import Derived.Test.YtomklniddinhnaaFgf
namespace Go.Proofs.YtomklniddinhnaaB
open Go Go.Proofs.YtomklniddinhnaaE
set_option linter.unusedVariables false
set_option linter.unusedSectionVars false
set_option linter.unusedSimpArgs false
set_option maxHeartbeats 4000000
set_option maxRecDepth 20000
def pwS (a : Nat) : Nat → Nat
 | 0 => 1
 | k + 1 => tm (pwS a k) a
theorem pwS_lt {a : Nat} (h : a < 256) : ∀ k, pwS a k < 256
 | 0 => by simp [pwS]
 | k + 1 => tm_lt _ (pwS_lt h k)
def pwF : Nat → Nat → Nat → Nat → Nat
 | 0, o, _, _ => o
 | f + 1, o, a, n => if n = 0 then o else pwF f (if n % 2 = 1 then tm o a else o) (tm a a) (n / 2)
theorem pwF_z (f o a : Nat) : pwF f o a 0 = o := by cases f <;> simp [pwF]
def invN (a : Nat) : Nat := if a = 0 then 0 else pwS a 254
theorem invN_lt {a : Nat} (h : a < 256) : invN a < 256 := by unfold invN; split; (decide); (exact pwS_lt h _)
def stN {α : Type} (n : Nat) (f : Nat → α) : α := Nat.rec (motive := fun _ => α) (f 0) (fun m _ => f (m + 1)) n
theorem stN_eq {α : Type} (n : Nat) (f : Nat → α) : stN n f = f n := by cases n <;> rfl
def pwK (a : Nat) : Nat → Nat → Nat
 | 0, o => o
 | k + 1, o => stN (tm o a) (pwK a k)
theorem pwK_eq (a : Nat) : ∀ k i, pwK a k (pwS a i) = pwS a (i + k)
 | 0, i => rfl
 | k + 1, i => by rw [pwK, stN_eq, show tm (pwS a i) a = pwS a (i + 1) from rfl, pwK_eq a k (i + 1)]; congr 1; omega
def pwG : Nat → Nat → Nat → Nat → Nat
 | 0, o, _, _ => o
 | f + 1, o, a, n => if n = 0 then o else stN (if n % 2 = 1 then tm o a else o) fun o' => stN (tm a a) fun a' => pwG f o' a' (n / 2)
theorem pwG_eq : ∀ f o a n, pwG f o a n = pwF f o a n
 | 0, _, _, _ => rfl
 | f + 1, o, a, n => by
  rw [pwG, pwF]
  split
  ·rfl
  ·rw [stN_eq, stN_eq, pwG_eq f]
theorem inv_dec : ∀ a : Fin 256, pwG 8 1 a.val 254 = if a.val = 0 then 0 else pwK a.val 254 1 := by decide +kernel
theorem inv_eq (a : Fin 256) : pwF 8 1 a.val 254 = invN a.val := by
 rw [← pwG_eq, inv_dec, invN]
 have := pwK_eq a.val 254 0
 rw [show pwS a.val 0 = 1 from rfl, show 0 + 254 = 254 from rfl] at this
 rw [this]
theorem k125_2 (e : Env) : lpE (FI.K ⟨[], false, [(2, [0, 1, 5]), (1000, [0, 1]), (1001, [0, 1, 5]), (1002, [0, 1, 5, 7]), (1003, [0, 1, 5]), (1004, [0, 1, 5]), (1005, [4])]⟩ 2) e = mkE [(0, e 0), (1, e 1), (5, e 5)] := rfl
theorem c125 {k : Nat} {md : Md} {S : Store} {vs : List A} {D : List Nat} {a n : Nat} (hd : dpArgs S [] vs = some ([(.v (.int .u8 ((a : Int)))), (.v (.int .i64 ((n : Int))))], D)) (ha : a < 256 := by first | assumption | omega | with_reducible rfl) (hn : n ≤ 1048576 := by first | assumption | omega | with_reducible rfl) (hk : 2 ≤ k := by omega) :
  Cal (run k) md 125 vs S (fun r S' => r = (.v (.int .u8 ((pwS a n : Int)))) ∧ S' = S) := by
 obtain ⟨k, rfl⟩ : ∃ j, k = j + 1 := ⟨k - 1, by omega⟩
 refine Cal.fn (n := 14) (rs := [.tmp 4]) (ids := []) (D := D) (Xof_none rfl) g125 (by delta Try.f125; exact rfl) (by delta Try.f125; exact rfl) (by delta Try.f125; exact rfl) hd rfl (by first | rfl | simp [idsV, idsC]) (by simp) (by simp) ?_
 intro md' ow; have w := ow.w; have w0 := ow.w0; have fz : md'.fz = false := ow.fz
 (repeat' (first | refine' dA27 | ((with_reducible apply EvO.call (vs := ?_)); exact rfl; exact rfl; exact dE6; (with_reducible apply Cal.hd (ms := []) (p := ?_)); exact dE6) | ((with_reducible apply CalH.mk); intro hd; first | exact c90 hd) | fail))
 apply Ev.loop (fun j e S' => ∃ i : Nat, e = mkE [(0, (.v (.int .u8 ((a : Int))))), (1, (.v (.int .i64 (((n - i : Nat) : Int))))), (5, (.v (.int .u8 ((pwS a i : Int)))))] ∧ S' = S ∧ j = n - i ∧ (i ≤ n))
 ·exact ⟨0, (k125_2 _).trans dN8, (by first | rfl | (simp only [app_app, List.cons_append, List.nil_append]; done)), rfl, (by omega)⟩
 rintro j e S' ⟨i, rfl, rfl, hj, hi⟩
 have hl := pwS_lt ha i
 by_cases hy : (0 : Int) < ((n - i : Nat) : Int)
 ·have e1 : ((n - i : Nat) : Int) - 1 = ((n - (i + 1) : Nat) : Int) := by omega
  (have F := @e1; (repeat' (first | refine' dA28 | ((with_reducible apply EvO.call (vs := ?_)); exact rfl; exact rfl; exact dE8; (with_reducible apply Cal.hd (ms := []) (p := ?_)); exact dE8) | ((with_reducible apply CalH.mk); intro hd; first | exact c90 hd) | fail)); all_goals clear F)
  apply roundQ_m; refine ⟨_, ⟨i + 1, (k125_2 _).trans dN8, ?_, rfl, ?_⟩, ?_⟩
  ·exact dS1
  ·first | omega | rfl | assumption | (simp; done)
  ·omega
 ·obtain rfl : i = n := by omega
  (repeat' (first | refine' dA29 | ((with_reducible apply EvO.call (vs := ?_)); exact rfl; exact rfl; exact dE9; (with_reducible apply Cal.hd (ms := []) (p := ?_)); exact dE9) | ((with_reducible apply CalH.mk); intro hd; first | exact c90 hd) | fail))
  exact ⟨rfl, rfl⟩
theorem k131_2 (e : Env) : lpE (FI.K ⟨[], false, [(2, [0, 1, 5]), (1000, [0, 1]), (1001, [0, 1, 5]), (1002, [0, 1, 5, 7]), (1003, [0, 1, 5]), (1004, [0, 1, 5, 12]), (1005, [0, 1, 5]), (1006, [0, 1, 5]), (1007, [4])]⟩ 2) e = mkE [(0, e 0), (1, e 1), (5, e 5)] := rfl
theorem c131 {k : Nat} {md : Md} {S : Store} {vs : List A} {D : List Nat} {a n : Nat} (hd : dpArgs S [] vs = some ([(.v (.int .u8 ((a : Int)))), (.v (.int .i64 ((n : Int))))], D)) (ha : a < 256 := by first | assumption | omega | with_reducible rfl) (hn : n < 256 := by first | assumption | omega | with_reducible rfl) (hk : 2 ≤ k := by omega) :
  Cal (run k) md 131 vs S (fun r S' => r = (.v (.int .u8 ((pwF 8 1 a n : Int)))) ∧ S' = S) := by
 obtain ⟨k, rfl⟩ : ∃ j, k = j + 1 := ⟨k - 1, by omega⟩
 refine Cal.fn (n := 20) (rs := [.tmp 4]) (ids := []) (D := D) (Xof_none rfl) g131 (by delta Try.f131; exact rfl) (by delta Try.f131; exact rfl) (by delta Try.f131; exact rfl) hd rfl (by first | rfl | simp [idsV, idsC]) (by simp) (by simp) ?_
 intro md' ow; have w := ow.w; have w0 := ow.w0; have fz : md'.fz = false := ow.fz
 (repeat' (first | refine' dA27 | ((with_reducible apply EvO.call (vs := ?_)); exact rfl; exact rfl; exact dE6; (with_reducible apply Cal.hd (ms := []) (p := ?_)); exact dE6) | ((with_reducible apply CalH.mk); intro hd; first | exact c112 hd) | fail))
 apply Ev.loop (fun j e S' => ∃ i : Nat, ∃ o : Nat, ∃ x : Nat, e = mkE [(0, (.v (.int .u8 ((x : Int))))), (1, (.v (.int .i64 (((n / 2 ^ i : Nat) : Int))))), (5, (.v (.int .u8 ((o : Int)))))] ∧ S' = S ∧ j = 8 - i ∧ (i ≤ 8) ∧ (o < 256) ∧ (x < 256) ∧ (pwF (8 - i) o x (n / 2 ^ i) = pwF 8 1 a n))
 ·exact ⟨0, 1, a, (k131_2 _).trans dN8, (by first | rfl | (simp only [app_app, List.cons_append, List.nil_append]; done)), rfl, (by omega), (by omega), (by exact ha), (by simp)⟩
 rintro j e S' ⟨i, o, x, rfl, rfl, hj, hi, ho, hx, he⟩
 have hyb : n / 2 ^ i ≤ n := Nat.div_le_self _ _
 by_cases hy : (0 : Int) < ((n / 2 ^ i : Nat) : Int)
 ·have hi8 : i < 8 := by
   rcases Nat.lt_or_ge i 8 with h | h
   ·exact h
   ·have e : i = 8 := by omega
    have h8 : n / 2 ^ 8 = 0 := Nat.div_eq_of_lt (by omega)
    rw [e, h8] at hy; exact absurd hy (by decide)
  have hne : ¬ n / 2 ^ i = 0 := fun e => by rw [e] at hy; exact absurd hy (by decide)
  have e1 := and1_64 (n / 2 ^ i) (by omega)
  have e5 := shr1 n i
  have hx2 := tm_lt x hx
  have hf : 8 - i = (8 - (i + 1)) + 1 := by omega
  rw [hf, pwF, if_neg hne, ← div_pow_s] at he
  by_cases hp : n / 2 ^ i % 2 = 1
  ·have hp2 := odd_t hp
   have ho2 := tm_lt x ho
   rw [if_pos hp] at he
   (have F := an3 @e1 @e5 @hp2; (repeat' (first | refine' dA28 | ((with_reducible apply EvO.call (vs := ?_)); exact rfl; exact rfl; exact dE8; (with_reducible apply Cal.hd (ms := []) (p := ?_)); exact dE8) | ((with_reducible apply CalH.mk); intro hd; first | exact c112 (k := k) hd (b := x)) | fail)); all_goals clear F)
   apply roundQ_m; refine ⟨_, ⟨i + 1, tm o x, tm x x, (k131_2 _).trans dN8, ?_, rfl, ?_, ?_, ?_, ?_⟩, ?_⟩
   ·exact dS1
   ·omega
   ·exact ho2
   ·exact hx2
   ·exact he
   ·omega
  ·have hp2 := odd_f hp
   rw [if_neg hp] at he
   (have F := an3 @e1 @e5 @hp2; (repeat' (first | refine' dA28 | ((with_reducible apply EvO.call (vs := ?_)); exact rfl; exact rfl; exact dE8; (with_reducible apply Cal.hd (ms := []) (p := ?_)); exact dE8) | ((with_reducible apply CalH.mk); intro hd; first | exact c112 hd) | fail)); all_goals clear F)
   apply roundQ_m; refine ⟨_, ⟨i + 1, o, tm x x, (k131_2 _).trans dN8, ?_, rfl, ?_, ?_, ?_, ?_⟩, ?_⟩
   ·exact dS1
   ·omega
   ·exact ho
   ·exact hx2
   ·exact he
   ·omega
 ·have hz : n / 2 ^ i = 0 := (Nat.eq_zero_or_pos _).resolve_right fun h => hy (Int.natCast_pos.2 h)
  rw [hz, pwF_z] at he
  (repeat' (first | refine' dA29 | ((with_reducible apply EvO.call (vs := ?_)); exact rfl; exact rfl; exact dE9; (with_reducible apply Cal.hd (ms := []) (p := ?_)); exact dE9) | ((with_reducible apply CalH.mk); intro hd; first | exact c112 hd) | fail))
  exact ⟨by rw [← he]; rfl, rfl⟩
theorem c105 {k : Nat} {md : Md} {S : Store} {vs : List A} {D : List Nat} {a : Nat} (hd : dpArgs S [] vs = some ([(.v (.int .u8 ((a : Int))))], D)) (ha : a < 256 := by first | assumption | omega | with_reducible rfl) (hk : 3 ≤ k := by omega) :
  Cal (run k) md 105 vs S (fun r S' => r = (.v (.int .u8 ((invN a : Int)))) ∧ S' = S) := by
 obtain ⟨k, rfl⟩ : ∃ j, k = j + 1 := ⟨k - 1, by omega⟩
 refine Cal.fn (n := 7) (rs := [.tmp 2]) (ids := []) (D := D) (Xof_none rfl) g105 (by delta Try.f105; exact rfl) (by delta Try.f105; exact rfl) (by delta Try.f105; exact rfl) hd rfl (by first | rfl | simp [idsV, idsC]) (by simp) (by simp) ?_
 intro md' ow; have w := ow.w; have w0 := ow.w0; have fz : md'.fz = false := ow.fz
 by_cases h0 : a = 0
 ·subst h0
  (repeat' (first | refine' dA19 | ((with_reducible apply EvO.call (vs := ?_)); exact rfl; exact rfl; exact dE6; (with_reducible apply Cal.hd (ms := []) (p := ?_)); exact dE6) | ((with_reducible apply CalH.mk); intro hd; first | exact c125 hd) | fail))
  exact ⟨rfl, rfl⟩
 ·have h1 : ((a : Int) == 0) = false := by simp; omega
  (have F := @h1; (repeat' (first | refine' dA30 | ((with_reducible apply EvO.call (vs := ?_)); exact rfl; exact rfl; exact dE7; (with_reducible apply Cal.hd (ms := []) (p := ?_)); exact dE7) | ((with_reducible apply CalH.mk); intro hd; first | exact c125 (k := k) hd (a := a) (n := 254)) | fail)); all_goals clear F)
  exact ⟨by unfold invN; rw [if_neg h0]; rfl, rfl⟩
theorem c113 {k : Nat} {md : Md} {S : Store} {vs : List A} {D : List Nat} {a : Nat} (hd : dpArgs S [] vs = some ([(.v (.int .u8 ((a : Int))))], D)) (ha : a < 256 := by first | assumption | omega | with_reducible rfl) (hk : 3 ≤ k := by omega) :
  Cal (run k) md 113 vs S (fun r S' => r = (.v (.int .u8 ((invN a : Int)))) ∧ S' = S) := by
 obtain ⟨k, rfl⟩ : ∃ j, k = j + 1 := ⟨k - 1, by omega⟩
 refine Cal.fn (n := 5) (rs := [.tmp 2]) (ids := []) (D := D) (Xof_none rfl) g113 (by delta Try.f113; exact rfl) (by delta Try.f113; exact rfl) (by delta Try.f113; exact rfl) hd rfl (by first | rfl | simp [idsV, idsC]) (by simp) (by simp) ?_
 intro md' ow; have w := ow.w; have w0 := ow.w0; have fz : md'.fz = false := ow.fz
 (repeat' (first | refine' dA17 | ((with_reducible apply EvO.call (vs := ?_)); exact rfl; exact rfl; exact dE6; (with_reducible apply Cal.hd (ms := []) (p := ?_)); exact dE6) | ((with_reducible apply CalH.mk); intro hd; first | exact c131 (k := k) hd (a := a) (n := 254)) | fail))
 exact ⟨by rw [← inv_eq ⟨a, ha⟩]; rfl, rfl⟩
end Go.Proofs.YtomklniddinhnaaB
