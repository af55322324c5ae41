/- Part of the proof: an evaluator (YtdpaijnbikclgaaDoorEXTrim). -/
import Derived.Shelf.Strings.SlTrimAscii
import Derived.Test.YtdpaijnbikclgaaDoorEX
set_option linter.unusedVariables false
set_option linter.unusedSectionVars false
set_option linter.unusedSimpArgs false
namespace Go.Proofs.YtdpaijnbikclgaaDoorE
open Go
def fTrim : List Value → Option Value
 | [.string s, .string c] => if s.size ≤ 9223372036854775807 ∧ c.size < 4294967281 ∧ (c.data.toList.all fun b => decide (b.toNat < 128)) = true then some (.string ⟨(Go.Lib.trimS s.data.toList c.data.toList).toArray⟩) else none
 | _ => none
theorem trim_xok {P : Program} {ρ : Go.Shelf.Ren} (L : Go.Proofs.Lays.n160 P ρ) (h116 : (P.info? (ρ.t 116)).map (fun i => (i.zero, i.size)) = some (some (.agg (Array.replicate 256 (.bool false))), 256)) {fn : Func} (hf : P.funcs[ρ.f 160]? = some fn) (hn : (fn.name == "runtime.NumGoroutine") = false) (hb : fn.body.isNone = false) :
  XOk P (ρ.f 160) (xVal fTrim) := xVal_ok hf hn hb fun l v h w => by
 unfold fTrim at h
 split at h
 ·split at h
  ·rename_i s c hh
   injection h with h; subst h
   exact Go.Proofs.Any.strings_Trim_laid L h116 s c w hh.1 hh.2.1 (Go.Proofs.ascii_of_all hh.2.2)
  ·cases h
 ·cases h
theorem dropWhile_nil {α : Type} {p : α → Bool} : ∀ {l : List α}, l.dropWhile p = [] ↔ ∀ b ∈ l, p b = true
 | [] => by simp
 | a :: l => by
  rw [List.dropWhile_cons]
  split
  ·rename_i h
   rw [dropWhile_nil]
   exact ⟨fun h1 b hb => (List.mem_cons.1 hb).elim (fun e => e ▸ h) (h1 b), fun h1 b hb => h1 b (List.mem_cons_of_mem _ hb)⟩
  ·rename_i h
   exact ⟨fun h1 => by simp at h1, fun h1 => absurd (h1 a (List.mem_cons_self ..)) h⟩
theorem trimS_nil {l cs : List UInt8} : (Go.Lib.trimS l cs = []) ↔ ∀ b ∈ l, b ∈ cs := by
 unfold Go.Lib.trimS Go.Lib.trimRightS Go.Lib.trimLeftS
 rw [dropWhile_nil]
 constructor
 ·intro h b hb
  by_cases hd : b ∈ l.reverse.dropWhile (cs.contains ·)
  ·have := h b (List.mem_reverse.2 hd); simpa using this
  ·have e : l.reverse = l.reverse.takeWhile (cs.contains ·) ++ l.reverse.dropWhile (cs.contains ·) := (List.takeWhile_append_dropWhile ..).symm
   have hb' := List.mem_reverse.2 hb
   rw [e] at hb'
   rcases List.mem_append.1 hb' with hb' | hb'
   ·have := List.all_eq_true.1 (List.all_takeWhile (p := (cs.contains ·)) (l := l.reverse)) b hb'
    simpa using this
   ·exact absurd hb' hd
 ·intro h b hb
  have e : l.reverse.dropWhile (cs.contains ·) = [] := by rw [dropWhile_nil]; intro b hb; simpa using h b (List.mem_reverse.1 hb)
  rw [e] at hb; simp at hb
end Go.Proofs.YtdpaijnbikclgaaDoorE
