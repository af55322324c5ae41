/- Part of the evaluator's contracts: gf. -/
import Derived.Test.YtomklniddinhnaaFbase
import Derived.Test.YtomklniddinhnaaEXBits
namespace Go.Proofs.YtomklniddinhnaaB
open Go Go.Proofs.YtomklniddinhnaaE
set_option linter.unusedVariables false
set_option linter.unusedSectionVars false
set_option linter.unusedSimpArgs false
set_option maxHeartbeats 4000000
set_option maxRecDepth 20000
def dbl (x : Nat) : Nat := if 255 < 2 * x then (2 * x) ^^^ 283 else 2 * x
theorem dbl_lt {x : Nat} (h : x < 256) : dbl x < 256 := by
 have : ∀ x : Fin 256, dbl x.val < 256 := by decide
 exact this ⟨x, h⟩
def dblN (a : Nat) : Nat → Nat
 | 0 => a
 | i + 1 => dbl (dblN a i)
theorem dblN_lt {a : Nat} (h : a < 256) : ∀ i, dblN a i < 256
 | 0 => h
 | i + 1 => dbl_lt (dblN_lt h i)
def tmO (a b : Nat) : Nat → Nat
 | 0 => 0
 | i + 1 => if b / 2 ^ i % 2 = 1 then tmO a b i ^^^ dblN a i else tmO a b i
theorem tmO_lt {a : Nat} (b : Nat) (h : a < 256) : ∀ i, tmO a b i < 256
 | 0 => by simp [tmO]
 | i + 1 => by
  have h1 := tmO_lt b h i
  simp only [tmO]; split
  ·exact xor_lt8 h1 (dblN_lt h i)
  ·exact h1
theorem tmO_stop (a : Nat) {b i : Nat} (h : b / 2 ^ i = 0) : ∀ d, tmO a b (i + d) = tmO a b i
 | 0 => rfl
 | d + 1 => by
  have h2 : b / 2 ^ (i + d) = 0 := by rw [Nat.pow_add, ← Nat.div_div_eq_div_mul, h, Nat.zero_div]
  rw [show i + (d + 1) = (i + d) + 1 from rfl, tmO, h2, if_neg (by decide), tmO_stop a h d]
def tm (a b : Nat) : Nat := tmO a b 8
theorem tm_lt {a : Nat} (b : Nat) (h : a < 256) : tm a b < 256 := tmO_lt b h 8
theorem div_pow_s (b i : Nat) : b / 2 ^ (i + 1) = b / 2 ^ i / 2 := by rw [Nat.pow_succ, Nat.div_div_eq_div_mul]
theorem shl1 (x : Nat) : (x : Int) * 2 ^ (min (Int.toNat 1) IntKind.i64.bits) = ((2 * x : Nat) : Int) := by
 have e : min (Int.toNat 1) IntKind.i64.bits = 1 := rfl
 rw [e]; omega
theorem shr1 (b i : Nat) : ((b / 2 ^ i : Nat) : Int).fdiv (2 ^ (min (Int.toNat 1) IntKind.i64.bits)) = ((b / 2 ^ (i + 1) : Nat) : Int) := by
 have e : min (Int.toNat 1) IntKind.i64.bits = 1 := rfl
 rw [e, Int.fdiv_eq_ediv_of_nonneg _ (by decide), div_pow_s]; omega
theorem odd_t {n : Nat} (h : n % 2 = 1) : (((n % 2 : Nat) : Int) == 1) = true := by rw [h]; rfl
theorem odd_f {n : Nat} (h : ¬ n % 2 = 1) : (((n % 2 : Nat) : Int) == 1) = false := by rw [show n % 2 = 0 by omega]; rfl
theorem k90_4 (e : Env) : lpE (FI.K ⟨[], false, [(4, [5, 6, 7]), (1000, [0, 1]), (1001, [0, 1, 5]), (1002, [1, 5, 6]), (1003, [5, 6, 7]), (1004, [5, 6, 7, 13]), (1005, [5, 6, 7]), (1006, [5, 6, 7, 18]), (1007, [5, 6, 7]), (1008, [5, 6, 7]), (1009, [5, 6, 7, 25]), (1010, [5, 6, 7]), (1011, [4])]⟩ 4) e = mkE [(5, e 5), (6, e 6), (7, e 7)] := rfl
theorem c90 {k : Nat} {md : Md} {S : Store} {vs : List A} {D : List Nat} {a b : Nat} (hd : dpArgs S [] vs = some ([(.v (.int .u8 ((a : Int)))), (.v (.int .u8 ((b : Int))))], D)) (ha : a < 256 := by first | assumption | omega | with_reducible rfl) (hb : b < 256 := by first | assumption | omega | with_reducible rfl) (hk : 1 ≤ k := by omega) :
  Cal (run k) md 90 vs S (fun r S' => r = (.v (.int .u8 ((tm a b : Int)))) ∧ S' = S) := by
 obtain ⟨k, rfl⟩ : ∃ j, k = j + 1 := ⟨k - 1, by omega⟩
 refine Cal.fn (n := 30) (rs := [.tmp 4]) (ids := []) (D := D) (Xof_none rfl) g90 (by delta Try.f90; exact rfl) (by delta Try.f90; exact rfl) (by delta Try.f90; exact rfl) hd rfl (by first | rfl | simp [idsV, idsC]) (by simp) (by simp) ?_
 intro md' ow; have w := ow.w; have w0 := ow.w0; have fz : md'.fz = false := ow.fz
 (repeat' (first | refine' dA20 | fail))
 apply Ev.loop (fun j e S' => ∃ i : Nat, e = mkE [(5, (.v (.int .i64 ((tmO a b i : Int))))), (6, (.v (.int .i64 ((dblN a i : Int))))), (7, (.v (.int .i64 (((b / 2 ^ i : Nat) : Int)))))] ∧ S' = S ∧ j = 8 - i ∧ (i ≤ 8))
 ·exact ⟨0, (k90_4 _).trans dN8, (by first | rfl | (simp only [app_app, List.cons_append, List.nil_append]; done)), rfl, (by omega)⟩
 rintro j e S' ⟨i, rfl, rfl, hj, hi⟩
 have ho := tmO_lt b ha i
 have hx := dblN_lt ha i
 have hyb : b / 2 ^ i ≤ b := Nat.div_le_self _ _
 by_cases hy : (0 : Int) < ((b / 2 ^ i : Nat) : Int)
 ·have hi8 : i < 8 := by
   rcases Nat.lt_or_ge i 8 with h | h
   ·exact h
   ·have e : i = 8 := by omega
    have h8 : b / 2 ^ 8 = 0 := Nat.div_eq_of_lt (by omega)
    rw [e, h8] at hy; exact absurd hy (by decide)
  have e1 := and1_64 (b / 2 ^ i) (by omega)
  have e2 := xor64 (tmO a b i) (dblN a i) (by omega) (by omega)
  have e3 := shl1 (dblN a i)
  have e4 := xor64 (2 * dblN a i) 283 (by omega) (by omega)
  have e5 := shr1 b i
  by_cases hp : b / 2 ^ i % 2 = 1
  ·have hp2 := odd_t hp
   have ht : tmO a b (i + 1) = tmO a b i ^^^ dblN a i := by rw [tmO, if_pos hp]
   have hxl := xor_lt8 ho hx
   by_cases hd : (255 : Int) < ((2 * dblN a i : Nat) : Int)
   ·have hd2 : dblN a (i + 1) = (2 * dblN a i) ^^^ 283 := by rw [dblN, dbl, if_pos (by omega)]
    have hdl := dblN_lt ha (i + 1)
    (have F := an7 @e1 @e2 @e3 @e4 @e5 @hp2 @hd; (repeat' (first | refine' dA25 | fail)); all_goals clear F)
    apply roundQ_m; refine ⟨_, ⟨i + 1, (k90_4 _).trans dN10, ?_, rfl, ?_⟩, ?_⟩
    ·exact dS3
    ·omega
    ·omega
   ·have hd2 : dblN a (i + 1) = 2 * dblN a i := by rw [dblN, dbl, if_neg (by omega)]
    (have F := an6 @e1 @e2 @e3 @e5 @hp2 @hd; (repeat' (first | refine' dA25 | fail)); all_goals clear F)
    apply roundQ_m; refine ⟨_, ⟨i + 1, (k90_4 _).trans dN10, ?_, rfl, ?_⟩, ?_⟩
    ·exact dS3
    ·omega
    ·omega
  ·have hp2 := odd_f hp
   have ht : tmO a b (i + 1) = tmO a b i := by rw [tmO, if_neg hp]
   by_cases hd : (255 : Int) < ((2 * dblN a i : Nat) : Int)
   ·have hd2 : dblN a (i + 1) = (2 * dblN a i) ^^^ 283 := by rw [dblN, dbl, if_pos (by omega)]
    (have F := an7 @e1 @e2 @e3 @e4 @e5 @hp2 @hd; (repeat' (first | refine' dA25 | fail)); all_goals clear F)
    apply roundQ_m; refine ⟨_, ⟨i + 1, (k90_4 _).trans dN10, ?_, rfl, ?_⟩, ?_⟩
    ·exact dS3
    ·omega
    ·omega
   ·have hd2 : dblN a (i + 1) = 2 * dblN a i := by rw [dblN, dbl, if_neg (by omega)]
    (have F := an6 @e1 @e2 @e3 @e5 @hp2 @hd; (repeat' (first | refine' dA25 | fail)); all_goals clear F)
    apply roundQ_m; refine ⟨_, ⟨i + 1, (k90_4 _).trans dN10, ?_, rfl, ?_⟩, ?_⟩
    ·exact dS3
    ·omega
    ·omega
 ·have hz : b / 2 ^ i = 0 := (Nat.eq_zero_or_pos _).resolve_right fun h => hy (Int.natCast_pos.2 h)
  have hst : tm a b = tmO a b i := by
   have := tmO_stop a hz (8 - i)
   rw [show i + (8 - i) = 8 by omega] at this; exact this
  have htl : tmO a b i < 256 := ho
  (repeat' (first | refine' dA26 | fail))
  exact ⟨by rw [hst]; rfl, rfl⟩
theorem k112_3 (e : Env) : lpE (FI.K ⟨[], false, [(3, [1, 5, 6, 7]), (1000, [0, 1]), (1001, [0, 1, 5]), (1002, [1, 5, 6, 7]), (1003, [1, 5, 6, 7, 11]), (1004, [1, 5, 6, 7]), (1005, [1, 5, 6, 7, 18]), (1006, [1, 5, 6, 7]), (1007, [1, 5, 6, 7]), (1008, [1, 5, 6, 7, 25]), (1009, [1, 5, 6, 7]), (1010, [4])]⟩ 3) e = mkE [(1, e 1), (5, e 5), (6, e 6), (7, e 7)] := rfl
theorem c112 {k : Nat} {md : Md} {S : Store} {vs : List A} {D : List Nat} {a b : Nat} (hd : dpArgs S [] vs = some ([(.v (.int .u8 ((a : Int)))), (.v (.int .u8 ((b : Int))))], D)) (ha : a < 256 := by first | assumption | omega | with_reducible rfl) (hb : b < 256 := by first | assumption | omega | with_reducible rfl) (hk : 1 ≤ k := by omega) :
  Cal (run k) md 112 vs S (fun r S' => r = (.v (.int .u8 ((tm a b : Int)))) ∧ S' = S) := by
 obtain ⟨k, rfl⟩ : ∃ j, k = j + 1 := ⟨k - 1, by omega⟩
 refine Cal.fn (n := 30) (rs := [.tmp 4]) (ids := []) (D := D) (Xof_none rfl) g112 (by delta Try.f112; exact rfl) (by delta Try.f112; exact rfl) (by delta Try.f112; exact rfl) hd rfl (by first | rfl | simp [idsV, idsC]) (by simp) (by simp) ?_
 intro md' ow; have w := ow.w; have w0 := ow.w0; have fz : md'.fz = false := ow.fz
 (repeat' (first | refine' dA20 | fail))
 apply Ev.loop (fun j e S' => ∃ i : Nat, e = mkE [(1, (.v (.int .u8 ((b : Int))))), (5, (.v (.int .i64 ((tmO a b i : Int))))), (6, (.v (.int .i64 ((i : Int))))), (7, (.v (.int .i64 ((dblN a i : Int)))))] ∧ S' = S ∧ j = 8 - i ∧ (i ≤ 8))
 ·exact ⟨0, (k112_3 _).trans dN8, (by first | rfl | (simp only [app_app, List.cons_append, List.nil_append]; done)), rfl, (by omega)⟩
 rintro j e S' ⟨i, rfl, rfl, hj, hi⟩
 have ho := tmO_lt b ha i
 have hx := dblN_lt ha i
 have hyb : b / 2 ^ i ≤ b := Nat.div_le_self _ _
 by_cases hy : (i : Int) < 8
 ·have hi8 : i < 8 := by omega
  have e1 := and1_8 (b / 2 ^ i) (by omega)
  have e2 := xor64 (tmO a b i) (dblN a i) (by omega) (by omega)
  have e3 := shl1 (dblN a i)
  have e4 := xor64 (2 * dblN a i) 283 (by omega) (by omega)
  have e5 := shr_nat b i IntKind.u8.bits (by have : IntKind.u8.bits = 8 := rfl; omega)
  by_cases hp : b / 2 ^ i % 2 = 1
  ·have hp2 := odd_t hp
   have ht : tmO a b (i + 1) = tmO a b i ^^^ dblN a i := by rw [tmO, if_pos hp]
   have hxl := xor_lt8 ho hx
   by_cases hd : (255 : Int) < ((2 * dblN a i : Nat) : Int)
   ·have hd2 : dblN a (i + 1) = (2 * dblN a i) ^^^ 283 := by rw [dblN, dbl, if_pos (by omega)]
    have hdl := dblN_lt ha (i + 1)
    (have F := an7 @e1 @e2 @e3 @e4 @e5 @hp2 @hd; (repeat' (first | refine' dA25 | fail)); all_goals clear F)
    apply roundQ_m; refine ⟨_, ⟨i + 1, (k112_3 _).trans dN10, ?_, rfl, ?_⟩, ?_⟩
    ·exact dS3
    ·omega
    ·omega
   ·have hd2 : dblN a (i + 1) = 2 * dblN a i := by rw [dblN, dbl, if_neg (by omega)]
    (have F := an6 @e1 @e2 @e3 @e5 @hp2 @hd; (repeat' (first | refine' dA25 | fail)); all_goals clear F)
    apply roundQ_m; refine ⟨_, ⟨i + 1, (k112_3 _).trans dN10, ?_, rfl, ?_⟩, ?_⟩
    ·exact dS3
    ·omega
    ·omega
  ·have hp2 := odd_f hp
   have ht : tmO a b (i + 1) = tmO a b i := by rw [tmO, if_neg hp]
   by_cases hd : (255 : Int) < ((2 * dblN a i : Nat) : Int)
   ·have hd2 : dblN a (i + 1) = (2 * dblN a i) ^^^ 283 := by rw [dblN, dbl, if_pos (by omega)]
    (have F := an7 @e1 @e2 @e3 @e4 @e5 @hp2 @hd; (repeat' (first | refine' dA25 | fail)); all_goals clear F)
    apply roundQ_m; refine ⟨_, ⟨i + 1, (k112_3 _).trans dN10, ?_, rfl, ?_⟩, ?_⟩
    ·exact dS3
    ·omega
    ·omega
   ·have hd2 : dblN a (i + 1) = 2 * dblN a i := by rw [dblN, dbl, if_neg (by omega)]
    (have F := an6 @e1 @e2 @e3 @e5 @hp2 @hd; (repeat' (first | refine' dA25 | fail)); all_goals clear F)
    apply roundQ_m; refine ⟨_, ⟨i + 1, (k112_3 _).trans dN10, ?_, rfl, ?_⟩, ?_⟩
    ·exact dS3
    ·omega
    ·omega
 ·obtain rfl : i = 8 := by omega
  (repeat' (first | refine' dA26 | fail))
  exact ⟨rfl, rfl⟩
end Go.Proofs.YtomklniddinhnaaB
