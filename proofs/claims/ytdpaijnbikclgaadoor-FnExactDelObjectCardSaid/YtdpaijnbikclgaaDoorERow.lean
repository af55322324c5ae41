/- Part of the proof: an evaluator (YtdpaijnbikclgaaDoorERow). -/
import Derived.Below
import Derived.Deep.Slices
import Derived.Lib.SmallJoins
import Derived.ChangeArms
import Derived.SizedLaws
import Derived.Test.YtdpaijnbikclgaaDoorEWp
set_option linter.unusedVariables false
set_option linter.unusedSimpArgs false
set_option linter.unusedSectionVars false
namespace Go.Proofs.YtdpaijnbikclgaaDoorE
open Go Go.RowKit
theorem bridge {P : Program} (hM : P.follows .mixedOrders = true) {fi : Nat → FI} {X : Cl} (hX : CallOk P X) {k g : Nat} {as : List A} {w : World} {vals : Array Value} (h : Cal (evF (tiOf P) regA (FsP P fi) X k) ⟨fun _ => true, 0, false⟩ g as [] fun r S' => r = .v (.bool true)) (hl : as.length = vals.size)
  (hr : ∀ j, j < as.length → Rel [] (fun _ => none) (fun b => b < w.heap.size) w.heap (as.getD j .dead) (vals.getD j undef)) : Calls P g vals w fun e w' => e = .returned (.bool true) ∧ Below w.heap.size w w' := by
 obtain ⟨r, S', h1, rfl⟩ := h
 have ok := evF_ok (TOk_ti P) (FsP_ok P fi) (fun C hC => regA_ok (TOk_ti P) hM hC) hX k
 obtain ⟨_, hc⟩ := ok _ _ _ _ _ _ h1
 have s : Sim ⟨fun _ => True, 0, w.heap.size⟩ [] (fun _ => none) (fun b => b < w.heap.size) (fun b => b < w.heap.size) w.heap :=
  ⟨fun id o ho => by simp at ho, fun id id' o o' ad ad' ho => by simp at ho, fun b hb => hb, fun b hb => hb, fun id o ad _ ho => by simp at ho, Nat.le_refl _⟩
 refine Calls.mono (hc _ _ _ _ w vals s ⟨fun _ _ => trivial, rfl⟩ hl hr) ?_
 rintro e w' ⟨x, rfl, σ', I', F', _, E, rx, e1, e2, e3⟩
 have := relv rx
 subst this
 exact ⟨rfl, e1, e2, e3, E.size, fun b hb => (E.imm b hb).2⟩
def OpensA {α : Type} (P : Program) (t : TypeId) (sz : Nat) (row : α → List A) (Fit : α → Prop) : Prop :=
 ∀ (H : Type) (enc : TypeId × Value → H) (w : World) (spare : Nat → Bool) (n : Nat) (cs : List Value) (x : DataW H × List MemPlace),
  DataW.trod enc P w 0 spare true n t cs = some x → (∀ m ∈ x.1.weights P t, m ≤ reachBytes) → ∃ v, (row v).length = sz ∧ cs.length = sz ∧
   (∀ j, j < sz → flatC ((row v).getD j .dead) = true ∧ Rel [] (fun _ => none) (fun b => b < w.heap.size) w.heap ((row v).getD j .dead) (cs.getD j undef)) ∧ Fit v
theorem opensA_one {α : Type} {P : Program} {t : TypeId} {f : α → Value} {Fit : α → Prop} (h : ∀ (H : Type) (enc : TypeId × Value → H) (w : World) (spare : Nat → Bool) (n : Nat) (cs : List Value) (x : DataW H × List MemPlace),
  DataW.trod enc P w 0 spare true n t cs = some x → (∀ m ∈ x.1.weights P t, m ≤ reachBytes) → ∃ v, cs = [f v] ∧ Fit v) : OpensA P t 1 (fun v => [.v (f v)]) Fit := by
 intro H enc w spare n cs x h1 h2
 obtain ⟨v, rfl, hf⟩ := h H enc w spare n cs x h1 h2
 refine ⟨v, rfl, rfl, fun j hj => ?_, hf⟩
 obtain rfl : j = 0 := by omega
 exact ⟨rfl, .v _⟩
theorem opensA_int {P : Program} {t : TypeId} {k : IntKind} (hu : P.underlying t = some (.int k)) : OpensA P t 1 (fun n => [.v (.int k n)]) (fun n => (Lit.int k n).wf = true) :=
 opensA_one fun H enc w spare n cs x h hw => by
  obtain ⟨m, rfl, rfl, hwf⟩ := DataW.trod_int hu h
  exact ⟨m, rfl, hwf⟩
theorem opensA_string {P : Program} {t : TypeId} (hu : P.underlying t = some .string) : OpensA P t 1 (fun s => [.v (.string s)]) (fun s => s.size ≤ 140737488351232) :=
 opensA_one fun H enc w spare n cs x h hw => by
  obtain ⟨s, rfl, rfl, hs⟩ := DataW.trod_string hu h
  refine ⟨s, rfl, ?_⟩
  have := hw s.data.toList.length (by simp [DataW.weights])
  rw [Array.length_toList] at this
  exact this
theorem list_ofA {α : Type} {p : Nat → α → Prop} : ∀ (n : Nat), (∀ i, i < n → ∃ x, p i x) → ∃ xs : List α, xs.length = n ∧ ∀ (i : Nat) (x : α), xs[i]? = some x → p i x := by
 intro n
 induction n with
 | zero => intro _; exact ⟨[], rfl, fun i x h => by simp at h⟩
 | succ n ih =>
  intro h
  obtain ⟨xs, hl, hp⟩ := ih (fun i hi => h i (by omega))
  obtain ⟨x, hx⟩ := h n (by omega)
  refine ⟨xs ++ [x], by simp [hl], fun i y hy => ?_⟩
  by_cases hi : i < xs.length
  ·rw [List.getElem?_append_left hi] at hy
   exact hp i y hy
  ·rw [List.getElem?_append_right (by omega)] at hy
   have hi' : i - xs.length = 0 := by
    have := (List.getElem?_eq_some_iff.1 hy).1
    simp at this
    omega
   rw [hi'] at hy
   simp at hy
   subst hy
   have : i = n := by omega
   subst this
   exact hx
theorem mem_weightsAllA {H : Type} {P : Program} {e : TypeId} : ∀ {ds : List (DataW H)} {d : DataW H}, d ∈ ds → ∀ m ∈ d.weights P e, m ∈ DataW.weightsAll P e ds
 | d0 :: r, d, h, m, hm => by
  simp only [DataW.weightsAll, List.mem_append]
  rcases List.mem_cons.1 h with rfl | h
  ·exact .inl hm
  ·exact .inr (mem_weightsAllA h m hm)
theorem cellq_at {w : World} {a : Addr} {v : Value} (h : w.cell? a = some v) : a.spot = none ∧ ∃ c t f, w.heap[a.block]? = some (.cells c t f) ∧ c[a.off]? = some v := by
 unfold World.cell? at h
 split at h
 ·rename_i c t f hb
  split at h
  ·cases h
  ·rename_i hs
   exact ⟨by simpa using hs, c, t, f, hb, h⟩
 ·cases h
theorem opensA_slice {α : Type} {P : Program} {t e : TypeId} {sz : Nat} {row : α → List A} {Fit : α → Prop} (hu : P.underlying t = some (.slice e)) (hs : P.cellsOf e = sz) (hp : 0 < sz) (hd : OpensA P e sz row Fit) :
  OpensA P t 1 (fun l : List α => [.ro sz (l.map row)]) (fun l => l.length ≤ 9223372036854775807 ∧ l.length * P.bytesOf e ≤ 140737488351232 ∧ ∀ x ∈ l, Fit x) := by
 intro H enc w spare n cs x h hw
 rcases Deep.open_slice hu h with ⟨rfl, rfl⟩ | ⟨a, len, cap, m, n', D, Pl, rfl, hb, hl, hm, hmm, rfl, hx⟩
 ·refine ⟨[], rfl, rfl, fun j hj => ?_, by simp, by simp, by simp⟩
  obtain rfl : j = 0 := by omega
  exact ⟨rfl, .ro0 _ _ _⟩
 ·have hle : len ≤ m := by rw [hmm]; split <;> omega
  have hall : ∀ k ∈ (len + (m - len)) * P.bytesOf e :: (DataW.weightsAll P e ((List.range len).map D) ++ DataW.weightsAll P e ((List.range (m - len)).map fun j => D (len + j))), k ≤ reachBytes := by
   intro k hk
   refine hw k ?_
   simp only [DataW.weights, hu, List.length_map, List.length_range]
   exact hk
  have h1 := hall _ List.mem_cons_self
  have h2 : len * P.bytesOf e ≤ 140737488351232 := Nat.le_trans (Nat.mul_le_mul_right _ (by omega)) h1
  have hwi : ∀ i, i < len → ∀ k ∈ (D i).weights P e, k ≤ reachBytes := fun i hi k hk =>
   hall k (List.mem_cons_of_mem _ (List.mem_append_left _ (mem_weightsAllA (List.mem_map.2 ⟨i, List.mem_range.2 hi, rfl⟩) k hk)))
  obtain ⟨xs, hxl, hxp⟩ := list_ofA (p := fun i v => ((row v).length = sz ∧ ∀ j, j < sz → flatC ((row v).getD j .dead) = true ∧ ∃ z, w.cell? ((a.add (i * sz)).add j) = some z ∧ Rel [] (fun _ => none) (fun b => b < w.heap.size) w.heap ((row v).getD j .dead) z) ∧ Fit v) len (fun i hi => by
   obtain ⟨cs', hc, ht⟩ := hx i (by omega)
   obtain ⟨v, k1, k2, k3, hf⟩ := hd H enc w spare n' cs' (D i, Pl i) ht (hwi i hi)
   refine ⟨v, ⟨k1, fun j hj => ⟨(k3 j hj).1, ?_⟩⟩, hf⟩
   obtain ⟨_, _, hat⟩ := World.cells?_some hc
   rw [hs] at hat
   refine ⟨cs'.getD j undef, ?_, (k3 j hj).2⟩
   rw [hat j hj]
   simp [show j < cs'.length by omega])
  have hmax : len ≤ 9223372036854775807 := by
   have : cap ≤ maxLen := hm
   unfold maxLen at this
   omega
  refine ⟨xs, rfl, rfl, fun j hj => ?_, by omega, by rw [hxl]; exact h2, fun x hx' => ?_⟩
  ·obtain rfl : j = 0 := by omega
   refine ⟨rfl, ?_⟩
   show Rel _ _ _ _ (.ro sz (xs.map row)) (.slice (some a) len cap)
   rcases Nat.eq_zero_or_pos len with hz | hz
   ·subst hz
    obtain rfl : xs = [] := List.length_eq_zero_iff.1 hxl
    exact .ro0 _ _ _
   ·have get : ∀ i, (hi : i < len) → ∃ v, xs[i]? = some v := fun i hi => ⟨xs[i], List.getElem?_eq_getElem (by omega)⟩
    obtain ⟨v0, hv0⟩ := get 0 hz
    obtain ⟨⟨_, q⟩, _⟩ := hxp 0 v0 hv0
    obtain ⟨_, z, hz0, _⟩ := q 0 hp
    have e0 : (a.add (0 * sz)).add 0 = a := by simp [Addr.add]
    rw [e0] at hz0
    obtain ⟨hsp, c, ty, fr, hbk, _⟩ := cellq_at hz0
    have at_ : ∀ i v, xs[i]? = some v → ∀ j, j < sz → a.off + i * sz + j < c.size ∧ Rel [] (fun _ => none) (fun b => b < w.heap.size) w.heap ((row v).getD j .dead) (c.getD (a.off + i * sz + j) undef) := fun i v hv j hj => by
     obtain ⟨⟨_, q⟩, _⟩ := hxp i v hv
     obtain ⟨_, z, hz1, hr⟩ := q j hj
     have ea : (a.add (i * sz)).add j = ⟨a.block, a.off + i * sz + j, none⟩ := by rw [addr_add hsp, addr_add rfl]
     rw [ea] at hz1
     obtain ⟨_, c', ty', fr', hb', hg⟩ := cellq_at hz1
     have hb' : w.heap[a.block]? = some (.cells c' ty' fr') := hb'
     rw [hbk] at hb'; injection hb' with hb'; injection hb' with e1 e2 e3; subst e1
     have hg : c[a.off + i * sz + j]? = some z := hg
     have hlt := (Array.getElem?_eq_some_iff.1 hg).1
     refine ⟨hlt, ?_⟩
     have : c.getD (a.off + i * sz + j) undef = z := by simp [hg]
     rw [this]; exact hr
    have hlen : (xs.map row).length = len := by simp [hxl]
    have rg : ∀ i, i < len → ∃ v, xs[i]? = some v ∧ (xs.map row).getD i [] = row v := fun i hi => by
     obtain ⟨v, hv⟩ := get i hi
     exact ⟨v, hv, by simp [hv]⟩
    rw [← hlen]
    refine .ro sz _ a cap c ty fr hsp (Array.getElem?_eq_some_iff.1 hbk).1 hbk (fun i hi => ?_) ?_ (by omega) (fun i j => ?_) (fun i j hi hj => ?_)
    ·rw [hlen] at hi
     obtain ⟨v, hv, e⟩ := rg i hi
     rw [e]; exact (hxp i v hv).1.1
    ·obtain ⟨v, hv⟩ := get (len - 1) (by omega)
     have := (at_ (len - 1) v hv (sz - 1) (by omega)).1
     have e1 : len * sz = (len - 1) * sz + sz := by
      have : len = (len - 1) + 1 := by omega
      rw [this, Nat.add_mul]; simp
     rw [hlen]; omega
    ·by_cases hi : i < len
     ·obtain ⟨v, hv, e⟩ := rg i hi
      rw [e]
      by_cases hj : j < sz
      ·exact ((hxp i v hv).1.2 j hj).1
      ·rw [List.getD_eq_getElem?_getD, List.getElem?_eq_none (by have := (hxp i v hv).1.1; omega)]; rfl
     ·have : (xs.map row).getD i [] = [] := by simp [show xs.length ≤ i by omega]
      rw [this]; rfl
    ·rw [hlen] at hi
     obtain ⟨v, hv, e⟩ := rg i hi
     rw [e]; exact (at_ i v hv j hj).2
  ·obtain ⟨j, hj⟩ := List.mem_iff_getElem?.1 hx'
   exact (hxp j x hj).2
def FieldsA {α : Type} (P : Program) (sz : Nat) (row : α → List A) (Fit : α → Prop) (fs : List Field) (off : Nat) : Prop :=
 ∀ (H : Type) (enc : TypeId × Value → H) (w : World) (spare : Nat → Bool) (n : Nat) (cs : List Value) (xs : List (DataW H × List MemPlace)), cs.length = off + sz → xs.length = fs.length →
  (∀ (i : Nat) (f : Field), fs[i]? = some f → DataW.trod enc P w 0 spare true n f.type ((cs.drop f.offset).take (P.cellsOf f.type)) = xs[i]?) →
  (∀ m ∈ DataW.weightsEach P (fs.map (·.type)) (xs.map (·.1)), m ≤ reachBytes) → ∃ v, (row v).length = sz ∧
   (∀ j, j < sz → flatC ((row v).getD j .dead) = true ∧ Rel [] (fun _ => none) (fun b => b < w.heap.size) w.heap ((row v).getD j .dead) (cs.getD (off + j) undef)) ∧ Fit v
theorem fieldA_one {α : Type} {P : Program} {sz : Nat} {row : α → List A} {Fit : α → Prop} {f : Field} {off : Nat} (ho : f.offset = off) (hs : P.cellsOf f.type = sz) (hd : OpensA P f.type sz row Fit) {H : Type} {enc : TypeId × Value → H} {w : World} {spare : Nat → Bool} {n : Nat} {cs : List Value} {x : DataW H × List MemPlace}
  (hl : off + sz ≤ cs.length) (h0 : DataW.trod enc P w 0 spare true n f.type ((cs.drop f.offset).take (P.cellsOf f.type)) = some x) (hw : ∀ m ∈ x.1.weights P f.type, m ≤ reachBytes) :
  ∃ v, (row v).length = sz ∧ (∀ j, j < sz → flatC ((row v).getD j .dead) = true ∧ Rel [] (fun _ => none) (fun b => b < w.heap.size) w.heap ((row v).getD j .dead) (cs.getD (off + j) undef)) ∧ Fit v := by
 rw [ho, hs] at h0
 obtain ⟨v, k1, k2, k3, k4⟩ := hd H enc w spare n _ x h0 hw
 refine ⟨v, k1, fun j hj => ⟨(k3 j hj).1, ?_⟩, k4⟩
 have e : ((cs.drop off).take sz).getD j undef = cs.getD (off + j) undef := by
  simp only [List.getD_eq_getElem?_getD, List.getElem?_take, if_pos hj, List.getElem?_drop]
 rw [← e]; exact (k3 j hj).2
theorem fieldsA_last {α : Type} {P : Program} {sz : Nat} {row : α → List A} {Fit : α → Prop} {f : Field} {off : Nat} (ho : f.offset = off) (hs : P.cellsOf f.type = sz) (hd : OpensA P f.type sz row Fit) : FieldsA P sz row Fit [f] off := by
 intro H enc w spare n cs xs hl hx ht hw
 match xs, hx with
 | [x], _ => exact fieldA_one ho hs hd (by omega) (ht 0 f rfl) (fun m hm => hw m (by simp only [List.map_cons, List.map_nil, DataW.weightsEach, List.mem_append]; exact Or.inl hm))
theorem fieldsA_cons {α β : Type} {P : Program} {s1 s2 : Nat} {r1 : α → List A} {r2 : β → List A} {F1 : α → Prop} {F2 : β → Prop} {f : Field} {fs : List Field} {off : Nat} (ho : f.offset = off) (hs : P.cellsOf f.type = s1) (hd : OpensA P f.type s1 r1 F1)
  (hr : FieldsA P s2 r2 F2 fs (off + s1)) : FieldsA P (s1 + s2) (fun v : α × β => r1 v.1 ++ r2 v.2) (fun v => F1 v.1 ∧ F2 v.2) (f :: fs) off := by
 intro H enc w spare n cs xs hl hx ht hw
 match xs, hx with
 | x :: xs, hx =>
  obtain ⟨v, k1, k2, k3⟩ := fieldA_one ho hs hd (by omega) (ht 0 f rfl) (fun m hm => hw m (by simp only [List.map_cons, DataW.weightsEach, List.mem_append]; exact Or.inl hm))
  obtain ⟨v', q1, q2, q3⟩ := hr H enc w spare n cs xs (by omega) (by simpa using hx) (fun i g hg => by simpa using ht (i + 1) g (by simpa using hg)) (fun m hm => hw m (by simp only [List.map_cons, DataW.weightsEach, List.mem_append]; exact Or.inr hm))
  refine ⟨(v, v'), by simp [k1, q1], fun j hj => ?_, k3, q3⟩
  simp only
  by_cases h1 : j < s1
  ·have e : (r1 v ++ r2 v').getD j .dead = (r1 v).getD j .dead := by rw [List.getD_eq_getElem?_getD, List.getElem?_append_left (by omega)]; rfl
   rw [e]; exact k2 j h1
  ·have e : (r1 v ++ r2 v').getD j .dead = (r2 v').getD (j - s1) .dead := by rw [List.getD_eq_getElem?_getD, List.getElem?_append_right (by omega), k1]; rfl
   rw [e]
   have := q2 (j - s1) (by omega)
   rwa [show off + s1 + (j - s1) = off + j by omega] at this
theorem opensA_struct {α : Type} {P : Program} {sz : Nat} {row : α → List A} {Fit : α → Prop} {t : TypeId} {fs : Array Field} (hu : P.underlying t = some (.struct fs)) (hs : P.cellsOf t = sz) (hf : FieldsA P sz row Fit fs.toList 0) : OpensA P t sz row Fit := by
 intro H enc w spare n cs x h hw
 obtain ⟨xs, n', _, rfl, hl, hlen, hg⟩ := DataW.trod_struct hu h
 obtain ⟨v, k1, k2, k3⟩ := hf H enc w spare n' cs xs (by omega) (by simpa using hlen) (fun i f hi => hg i f (by simpa using hi)) (fun m hm => hw m (by simp only [DataW.weights, hu]; exact hm))
 exact ⟨v, k1, by omega, fun j hj => by simpa using k2 j hj, k3⟩
theorem opensA_iso {α β : Type} {P : Program} {t : TypeId} {sz : Nat} {row : α → List A} {Fit : α → Prop} (g : α → β) {row' : β → List A} {Fit' : β → Prop} (hr : ∀ v, row' (g v) = row v) (hF : ∀ v, Fit v → Fit' (g v)) (hd : OpensA P t sz row Fit) : OpensA P t sz row' Fit' := by
 intro H enc w spare n cs x h hw
 obtain ⟨v, k1, k2, k3, k4⟩ := hd H enc w spare n cs x h hw
 exact ⟨g v, by rw [hr]; exact k1, k2, by rw [hr]; exact k3, hF v k4⟩
theorem opensA_arg {α : Type} {P : Program} {sz : Nat} {row : α → List A} {Fit : α → Prop} {t : TypeId} (hd : OpensA P t sz row Fit) {H : Type} {enc : TypeId × Value → H} {W : World} {v : Value} {x : DataW H} {ps : List MemPlace} {ts : List TypeId} {ds : List (DataW H)} {j : Nat}
  (hsz : (DataW.weightsEach P ts ds).all (· ≤ reachBytes) = true) (ht : ts[j]? = some t) (hx : ds[j]? = some x) (h : DataW.Trod enc P W 0 (fun _ => true) true t v x ps) : ∃ y, (row y).length = sz ∧ v.cells.size = sz ∧
   (∀ j, j < sz → Rel [] (fun _ => none) (fun b => b < W.heap.size) W.heap ((row y).getD j .dead) (v.cells.getD j undef)) ∧ Fit y := by
 obtain ⟨n, hn⟩ := h
 obtain ⟨y, k1, k2, k3, k4⟩ := hd H enc W _ n _ (x, ps) hn (fun m hm => by
  have := List.all_eq_true.1 hsz m (DataW.weights_mem_each ht hx m hm)
  simpa using this)
 exact ⟨y, k1, by simpa using k2, fun j hj => by have := (k3 j hj).2; simpa using this, k4⟩
theorem arg_agg {h : Array Obj} {σ : Place} {I : Nat → Prop} {row : List A} {sz : Nat} {cs : Array Value} (hl : row.length = sz) (hn : (Value.agg cs).cells.size = sz) (hr : ∀ j, j < sz → Rel [] σ I h (row.getD j .dead) ((Value.agg cs).cells.getD j undef)) : Rel [] σ I h (.ag row) (.agg cs) :=
 .ag row cs (hl.trans hn.symm) fun j hj => hr j (by omega)
end Go.Proofs.YtdpaijnbikclgaaDoorE
