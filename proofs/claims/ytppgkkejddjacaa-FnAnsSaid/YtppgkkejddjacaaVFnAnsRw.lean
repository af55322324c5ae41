/- General facts for the rows: what an argument that can be read holds, as plain lists and numbers, kind by kind; its numbers are of their kinds, its strings and slices within the reach. No condition beyond the types' shapes. -/
import Derived.Test.YtppgkkejddjacaaVFnAnsWMore
import Derived.Deep.Slices
import Derived.Lib.SmallJoins
import Derived.ChangeArms
import Derived.SizedLaws
set_option linter.unusedVariables false
namespace Go.Proofs.Ytppgkkejddjacaa.Rw
open Go Go.ChangeShapes Go.WideShapes Go.Deep Go.Joins Go.RowKit Go.Proofs.YtppgkkejddjacaaW.PrintWords
theorem mem_weightsAll {H : Type} {P : Program} {e : TypeId} : ∀ {ds : List (DataW H)} {d : DataW H}, d ∈ ds → ∀ m ∈ d.weights P e, m ∈ DataW.weightsAll P e ds
  | d0 :: r, d, h, m, hm => by
    simp only [DataW.weightsAll, List.mem_append]
    rcases List.mem_cons.1 h with rfl | h
    · exact .inl hm
    · exact .inr (mem_weightsAll h m hm)
/-- What reads at type t is of kind d, and Fit holds of it. -/
def Opens {α : Type} (P : Program) (d : Kd α) (Fit : α → Prop) (t : TypeId) : Prop :=
  ∀ (H : Type) (enc : TypeId × Value → H) (w : World) (spare : Nat → Bool) (n : Nat) (cs : List Value) (x : DataW H × List MemPlace),
    DataW.trod enc P w 0 spare true n t cs = some x → (∀ m ∈ x.1.weights P t, m ≤ reachBytes) → ∃ v, d.K w v cs ∧ Fit v
theorem opens_int {P : Program} {t : TypeId} {k : IntKind} (hu : P.underlying t = some (.int k)) : Opens P (Kd.int k) (fun n => (Lit.int k n).wf = true) t := by
  intro H enc w spare n cs x h hw
  obtain ⟨m, rfl, rfl, hwf⟩ := DataW.trod_int hu h
  exact ⟨m, rfl, hwf⟩
theorem opens_bool {P : Program} {t : TypeId} (hu : P.underlying t = some .bool) : Opens P Kd.bool (fun _ => True) t := by
  intro H enc w spare n cs x h hw
  obtain ⟨b, rfl, rfl⟩ := DataW.trod_bool hu h
  exact ⟨b, rfl, trivial⟩
theorem opens_string {P : Program} {t : TypeId} (hu : P.underlying t = some .string) : Opens P Kd.string (fun s => s.size ≤ 140737488351232) t := by
  intro H enc w spare n cs x h hw
  obtain ⟨s, rfl, rfl, hs⟩ := DataW.trod_string hu h
  refine ⟨s, rfl, ?_⟩
  have := hw s.data.toList.length (by simp [DataW.weights])
  rw [Array.length_toList] at this
  exact this
theorem list_of {α : Type} {p : Nat → α → Prop} : ∀ (n : Nat), (∀ i, i < n → ∃ x, p i x) → ∃ xs : List α, xs.length = n ∧ ∀ (i : Nat) (x : α), xs[i]? = some x → p i x := by
  intro n
  induction n with
  | zero => intro _; exact ⟨[], rfl, fun i x h => by simp at h⟩
  | succ n ih =>
    intro h
    obtain ⟨xs, hl, hp⟩ := ih (fun i hi => h i (by omega))
    obtain ⟨x, hx⟩ := h n (by omega)
    refine ⟨xs ++ [x], by simp [hl], fun i y hy => ?_⟩
    by_cases hi : i < xs.length
    · rw [List.getElem?_append_left hi] at hy
      exact hp i y hy
    · rw [List.getElem?_append_right (by omega)] at hy
      have hi' : i - xs.length = 0 := by
        have := (List.getElem?_eq_some_iff.1 hy).1
        simp at this
        omega
      rw [hi'] at hy
      simp at hy
      subst hy
      have : i = n := by omega
      subst this
      exact hx
theorem opens_slice {α : Type} {d : Kd α} {Fit : α → Prop} {P : Program} {t e : TypeId} (e' : Nat) (B : Nat) (hu : P.underlying t = some (.slice e)) (hs : P.cellsOf e = d.sz) (hB : P.bytesOf e = B) (hd : Opens P d Fit e) :
    Opens P (Kd.slice e' d) (fun xs => xs.length ≤ maxLen ∧ xs.length * B ≤ 140737488351232 ∧ ∀ x ∈ xs, Fit x) t := by
  subst hB
  intro H enc w spare n cs x h hw
  rcases open_slice hu h with ⟨rfl, rfl⟩ | ⟨a, len, cap, m, n', D, Pl, rfl, hb, hl, hm, hmm, rfl, hx⟩
  · exact ⟨[], ⟨none, 0, rfl, Nat.le_refl _, rfl, by simp, fun h => absurd h (by simp)⟩, by simp [maxLen], by simp, by simp⟩
  · have hle : len ≤ m := by rw [hmm]; split <;> omega
    have hall : ∀ k ∈ (len + (m - len)) * P.bytesOf e :: (DataW.weightsAll P e ((List.range len).map D) ++ DataW.weightsAll P e ((List.range (m - len)).map fun j => D (len + j))), k ≤ reachBytes := by
      intro k hk
      refine hw k ?_
      simp only [DataW.weights, hu, List.length_map, List.length_range]
      exact hk
    have h1 := hall _ List.mem_cons_self
    have h2 : len * P.bytesOf e ≤ 140737488351232 := Nat.le_trans (Nat.mul_le_mul_right _ (by omega)) h1
    have hwi : ∀ i, i < len → ∀ k ∈ (D i).weights P e, k ≤ reachBytes := fun i hi k hk =>
      hall k (List.mem_cons_of_mem _ (List.mem_append_left _ (mem_weightsAll (List.mem_map.2 ⟨i, List.mem_range.2 hi, rfl⟩) k hk)))
    obtain ⟨xs, hxl, hxp⟩ := list_of (p := fun i v => (∃ cs', w.cells? 0 (a.add (i * P.cellsOf e)) (P.cellsOf e) = some cs' ∧ d.K w v cs') ∧ Fit v) len (fun i hi => by
      obtain ⟨cs', hc, ht⟩ := hx i (by omega)
      obtain ⟨v, hk, hf⟩ := hd H enc w spare n' cs' (D i, Pl i) ht (hwi i hi)
      exact ⟨v, ⟨cs', hc, hk⟩, hf⟩)
    have hmax : len ≤ 9223372036854775807 := by
      have : cap ≤ maxLen := hm
      unfold maxLen at this
      omega
    refine ⟨xs, ⟨some a, cap, by rw [hxl], by omega, hxl ▸ rfl, by omega, fun _ => ⟨a, rfl, fun j p hj => ?_⟩⟩, by omega, by rw [hxl]; exact h2, fun x hx' => ?_⟩
    · obtain ⟨⟨cs', hc, hk⟩, _⟩ := hxp j p hj
      refine ⟨cs', d.K_len hk, hk, fun i u hu' => ?_⟩
      obtain ⟨_, hlen, hat⟩ := World.cells?_some hc
      have hi : i < cs'.length := (List.getElem?_eq_some_iff.1 hu').1
      have := hat i (by omega)
      rw [Go.Deep.add_add] at this
      rw [hs] at this
      rw [this]
      exact hu'
    · obtain ⟨j, hj⟩ := List.mem_iff_getElem?.1 hx'
      exact (hxp j x hj).2
/-- Fields in line, from off on. -/
def FieldsOpen {α : Type} (P : Program) (d : Kd α) (Fit : α → Prop) (fs : List Field) (off : Nat) : Prop :=
  ∀ (H : Type) (enc : TypeId × Value → H) (w : World) (spare : Nat → Bool) (n : Nat) (cs : List Value) (xs : List (DataW H × List MemPlace)), cs.length = off + d.sz → xs.length = fs.length →
    (∀ (i : Nat) (f : Field), fs[i]? = some f → DataW.trod enc P w 0 spare true n f.type ((cs.drop f.offset).take (P.cellsOf f.type)) = xs[i]?) →
    (∀ m ∈ DataW.weightsEach P (fs.map (·.type)) (xs.map (·.1)), m ≤ reachBytes) → ∃ v, d.K w v (cs.drop off) ∧ Fit v
theorem fields_last {α : Type} {P : Program} {d : Kd α} {Fit : α → Prop} {f : Field} {off : Nat} (ho : f.offset = off) (hs : P.cellsOf f.type = d.sz) (hd : Opens P d Fit f.type) : FieldsOpen P d Fit [f] off := by
  intro H enc w spare n cs xs hl hx ht hw
  match xs, hx with
  | [x], _ =>
    have h0 := ht 0 f rfl
    rw [ho, hs, List.take_of_length_le (by rw [List.length_drop]; omega)] at h0
    exact hd H enc w spare n _ x h0 (fun m hm => hw m (by simp only [List.map_cons, List.map_nil, DataW.weightsEach, List.mem_append]; exact Or.inl hm))
theorem fields_cons {α β : Type} {P : Program} {d : Kd α} {d' : Kd β} {Fit : α → Prop} {Fit' : β → Prop} {f : Field} {fs : List Field} {off : Nat} (ho : f.offset = off) (hs : P.cellsOf f.type = d.sz) (hd : Opens P d Fit f.type)
    (hr : FieldsOpen P d' Fit' fs (off + d.sz)) : FieldsOpen P (Kd.pair d d') (fun v => Fit v.1 ∧ Fit' v.2) (f :: fs) off := by
  intro H enc w spare n cs xs hl hx ht hw
  match xs, hx with
  | x :: xs, hx =>
    have h0 := ht 0 f rfl
    rw [ho, hs] at h0
    obtain ⟨v, hv, hf⟩ := hd H enc w spare n _ x h0 (fun m hm => hw m (by simp only [List.map_cons, DataW.weightsEach, List.mem_append]; exact Or.inl hm))
    have hsz : (Kd.pair d d').sz = d.sz + d'.sz := rfl
    obtain ⟨v', hv', hf'⟩ := hr H enc w spare n cs xs (by omega) (by simpa using hx) (fun i g hg => by simpa using ht (i + 1) g (by simpa using hg)) (fun m hm => hw m (by simp only [List.map_cons, DataW.weightsEach, List.mem_append]; exact Or.inr hm))
    refine ⟨(v, v'), ⟨_, _, ?_, hv, hv'⟩, hf, hf'⟩
    rw [← List.drop_drop, List.take_append_drop]
theorem opens_struct {α : Type} {P : Program} {d : Kd α} {Fit : α → Prop} {t : TypeId} {fs : Array Field} (hu : P.underlying t = some (.struct fs)) (hs : P.cellsOf t = d.sz) (hf : FieldsOpen P d Fit fs.toList 0) : Opens P d Fit t := by
  intro H enc w spare n cs x h hw
  obtain ⟨xs, n', _, rfl, hl, hlen, hg⟩ := DataW.trod_struct hu h
  have := hf H enc w spare n' cs xs (by omega) (by simpa using hlen) (fun i f hi => hg i f (by simpa using hi)) (fun m hm => hw m (by simp only [DataW.weights, hu]; exact hm))
  simpa using this
theorem opens_iso {α β : Type} {P : Program} {d : Kd α} {Fit : α → Prop} {t : TypeId} {f : β → α} (g : α → β) (hfg : ∀ v, f (g v) = v) (hd : Opens P d Fit t) : Opens P (Kd.iso d f) (fun b => Fit (f b)) t := by
  intro H enc w spare n cs x h hw
  obtain ⟨v, hv, hF⟩ := hd H enc w spare n cs x h hw
  exact ⟨g v, by show d.K w (f (g v)) cs; rw [hfg]; exact hv, by show Fit (f (g v)); rw [hfg]; exact hF⟩
/-- An argument. -/
theorem opens_arg {α : Type} {P : Program} {d : Kd α} {Fit : α → Prop} {t : TypeId} (hd : Opens P d Fit t) {H : Type} {enc : TypeId × Value → H} {W : World} {v : Value} {x : DataW H} {ps : List MemPlace} {ts : List TypeId} {ds : List (DataW H)} {j : Nat}
    (hsz : (DataW.weightsEach P ts ds).all (· ≤ reachBytes) = true) (ht : ts[j]? = some t) (hx : ds[j]? = some x) (h : DataW.Trod enc P W 0 (fun _ => true) true t v x ps) : ∃ y, d.K W y v.cells.toList ∧ Fit y := by
  obtain ⟨n, hn⟩ := h
  exact hd H enc W _ n _ (x, ps) hn (fun m hm => by
    have := List.all_eq_true.1 hsz m (DataW.weights_mem_each ht hx m hm)
    simpa using this)
end Go.Proofs.Ytppgkkejddjacaa.Rw
