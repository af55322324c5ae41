/- Part of the evaluator's contracts: shelf1. -/
import Derived.Test.YtomklniddinhnaaFstShelf
import Derived.Test.YtomklniddinhnaaFshelfT
import Derived.Test.YtomklniddinhnaaFcmp
namespace Go.Proofs.YtomklniddinhnaaB
open Go Go.Proofs.YtomklniddinhnaaE
set_option linter.unusedVariables false
set_option linter.unusedSectionVars false
set_option linter.unusedSimpArgs false
set_option maxHeartbeats 4000000
set_option maxRecDepth 20000
def okKept (k : Tkp) : Bool := inB k.tier 1 3 && inB k.size 0 60
def okPart (q : List Tkp) (x : Part) : Bool := inB x.gen 1 (q.length + 1) && inB x.no 0 4 && decide ((x.data.size : Int) ≤ 60) &&
 (if x.gen ≤ q.length then match q[(x.gen - 1).toNat]? with | some k => decide (x.no < many k.tier) && decide ((x.data.size : Int) = long k.tier k.size) | none => true else true)
def ltPart (a b : Part) : Bool := decide (a.gen < b.gen) || (decide (a.gen = b.gen) && decide (a.no < b.no))
def goodAt (l : List Part) (q : List Tkp) (i : Nat) : Bool := match l[i]? with
 | none => true
 | some x => okPart q x && (match i with | 0 => true | j + 1 => match l[j]? with | some y => ltPart y x | none => true)
def good (l : List Part) (q : List Tkp) : Bool := decide (l.length ≤ 40) && inB q.length 1 60 && q.all okKept && (List.range l.length).all (goodAt l q)
structure AtP (l : List Part) (q : List Tkp) (i : Nat) (h : i < l.length) : Prop where
 g : 1 ≤ l[i].gen ∧ l[i].gen ≤ (q.length : Int) + 1
 n : 0 ≤ l[i].no ∧ l[i].no ≤ 4
 s : (l[i].data.size : Int) ≤ 60
 k : l[i].gen ≤ (q.length : Int) → ∀ hk : (l[i].gen - 1).toNat < q.length, l[i].no < many q[(l[i].gen - 1).toNat].tier ∧ (l[i].data.size : Int) = longW q[(l[i].gen - 1).toNat].tier q[(l[i].gen - 1).toNat].size
 o : ∀ h0 : 0 < i, l[i - 1].gen < l[i].gen ∨ (l[i - 1].gen = l[i].gen ∧ l[i - 1].no < l[i].no)
end Go.Proofs.YtomklniddinhnaaB
