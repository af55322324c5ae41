/- Part of the evaluator's contracts: ins. -/
import Derived.Test.YtomklniddinhnaaFlead
import Derived.Test.YtomklniddinhnaaFkept
import Derived.Test.YtomklniddinhnaaFparts6
import Derived.Test.YtomklniddinhnaaFshelf2
namespace Go.Proofs.YtomklniddinhnaaB
open Go Go.Proofs.YtomklniddinhnaaE
set_option linter.unusedVariables false
set_option linter.unusedSectionVars false
set_option linter.unusedSimpArgs false
set_option maxHeartbeats 4000000
set_option maxRecDepth 20000
theorem c77_end {k : Nat} {md : Md} {S : Store} {vs : List A} {D : List Nat} {id : Nat} {l : List Part} {x : Part} (hd : dpArgs S [true] vs = some ([.sl id 0 l.length l.length, (.v (.int .i64 ((l.length : Int)))), .ro 3 [[(.v (.int .i64 (x.gen))), (.v (.int .i64 (x.no))), (.v (.string (x.data)))]]], D)) (hD : (D.all fun i => !([id] : List Nat).contains i) = true := by first | rfl | simp) (hn : l.length ≤ 1048575 := by first | assumption | omega | with_reducible rfl) (hid : S[id]? = some ⟨3, l.map Part.c, 0, false⟩) (hw : md.wr id = true) (hk : 4 ≤ k := by omega) :
  Cal (run k) md 77 vs S (fun r S' => r = .sl id 0 (l.length + 1) (l.length + 1) ∧ S' = S.set id ⟨3, (l ++ [x]).map Part.c, 0, false⟩) := by
 obtain ⟨k, rfl⟩ : ∃ j, k = j + 1 := ⟨k - 1, by omega⟩
 refine Cal.fn (n := 95) (rs := [.tmp 6]) (ids := [id]) (D := D) (Xof_none rfl) g77 (by delta Try.f77; exact rfl) (by delta Try.f77; exact rfl) (by delta Try.f77; exact rfl) hd rfl (by first | rfl | simp [idsV, idsC]) hD (by simp) ?_
 intro md' ow; have w := ow.w; have w0 := ow.w0; have fz : md'.fz = false := ow.fz
 have hlt0 := (List.getElem?_eq_some_iff.1 hid).1
 have wi := ow.old id (by simp) hw
 have hm : List.map Part.c l ++ [[(.v (.int .i64 (x.gen))), (.v (.int .i64 (x.no))), (.v (.string (x.data)))]] = List.map Part.c (l ++ [x]) := by simp [Part.c]
 (have F := an11 @yD @yE @yG @yF @yB @yA @yC @hlt0 @hid @wi @hm; (repeat' (first | refine' dA85 | ((with_reducible first | apply EvO.call (vs := ?_) | apply EvT.call (vs := ?_)); exact rfl; exact rfl; exact dE31) | fail)); all_goals clear F)
 exact ⟨rfl, rfl⟩
theorem c77_nil {k : Nat} {md : Md} {S : Store} {vs : List A} {D : List Nat} {x : Part} (hd : dpArgs S [true] vs = some ([.v (.slice none 0 0), (.v (.int .i64 (0))), .ro 3 [[(.v (.int .i64 (x.gen))), (.v (.int .i64 (x.no))), (.v (.string (x.data)))]]], D))  (hk : 4 ≤ k := by omega) :
  Cal (run k) md 77 vs S (fun r S' => r = .sl S.length 0 1 1 ∧ S' = S ++ [⟨3, [[(.v (.int .i64 (x.gen))), (.v (.int .i64 (x.no))), (.v (.string (x.data)))]], 0, false⟩]) := by
 obtain ⟨k, rfl⟩ : ∃ j, k = j + 1 := ⟨k - 1, by omega⟩
 refine Cal.fn (n := 95) (rs := [.tmp 6]) (ids := []) (D := D) (Xof_none rfl) g77 (by delta Try.f77; exact rfl) (by delta Try.f77; exact rfl) (by delta Try.f77; exact rfl) hd rfl (by first | rfl | simp [idsV, idsC]) (by simp) (by simp) ?_
 intro md' ow; have w := ow.w; have w0 := ow.w0; have fz : md'.fz = false := ow.fz
 have h1 : ∀ v, flatC (.v v) = true := fun _ => rfl
 have h2 : ∀ v, noRoC (.v v) = true := fun _ => rfl
 (have F := an11 @yD @yE @yG @yF @yB @yA @yC @h1 @h2 @rowsAll_cons @rowsAll_nil; (repeat' (first | refine' dA86 | ((with_reducible first | apply EvO.call (vs := ?_) | apply EvT.call (vs := ?_)); exact rfl; exact rfl; exact dE7) | fail)); all_goals clear F)
 exact ⟨rfl, rfl⟩
theorem c76_nil {k : Nat} {md : Md} {S : Store} {vs : List A} {D : List Nat} {x : Part} (hd : dpArgs S [] vs = some ([.v (.slice none 0 0), .ag [(.v (.int .i64 (x.gen))), (.v (.int .i64 (x.no))), (.v (.string (x.data)))], .fn 62 []], D))  (hk : 1 ≤ k := by omega) :
  Cal (run k) md 76 vs S (fun r S' => r = .tu [(.v (.int .i64 (0))), (.v (.bool (false)))] ∧ S' = S) := by
 obtain ⟨k, rfl⟩ : ∃ j, k = j + 1 := ⟨k - 1, by omega⟩
 refine Cal.fn (n := 49) (rs := [.tmp 6, .tmp 7]) (ids := []) (D := D) (Xof_none rfl) g76 (by delta Try.f76; exact rfl) (by delta Try.f76; exact rfl) (by delta Try.f76; exact rfl) hd rfl (by first | rfl | simp [idsV, idsC]) (by simp) (by simp) ?_
 intro md' ow; have w := ow.w; have w0 := ow.w0; have fz : md'.fz = false := ow.fz
 (have F := an7 @yD @yE @yG @yF @yB @yA @yC; (repeat' (first | refine' dA23 | fail)); all_goals clear F)
 apply Ev.loop (fun j e S' => ∃ i : Nat, e = mkE [(0, .v (.slice none 0 0)), (2, .fn 62 []), (4, .pt S.length 0 0 1), (8, (.v (.int .i64 (0)))), (9, (.v (.int .i64 (0)))), (10, (.v (.int .i64 (0))))] ∧ S' = S ++ [⟨3, [[(.v (.int .i64 (x.gen))), (.v (.int .i64 (x.no))), (.v (.string (x.data)))]], 0, true⟩] ∧ j = 0 ∧ (i = 0))
 ·exact ⟨0, (k76_3 _).trans dN15, (by first | rfl | (simp only [app_app, List.cons_append, List.nil_append]; done)), rfl, (by first | omega | rfl | (simp; done))⟩
 rintro j e S' ⟨i, rfl, rfl, hj, hi⟩
 (have F := an7 @yD @yE @yG @yF @yB @yA @yC; (repeat' (first | refine' dA23 | fail)); all_goals clear F)
 exact ⟨rfl, rfl⟩
structure Grw (S S' : Store) (id : Nat) (lv : A) (l : List Part) (nw old : Nat → Prop) : Prop where
 len : S.length ≤ S'.length
 at_ : ∃ pid, S'[id]? = some ⟨2, [[.sl pid 0 l.length l.length, lv]], 0, true⟩ ∧ S'[pid]? = some ⟨3, l.map Part.c, 0, false⟩ ∧ nw pid
 kept : ∀ j, j < S.length → j ≠ id → ¬ old j → S'[j]? = S[j]?
theorem c49_nil {k : Nat} {md : Md} {S : Store} {vs : List A} {D : List Nat} {id : Nat} {lv : A} {x : Part} (hd : dpArgs S [true] vs = some ([.pt id 0 0 1, (.v (.int .i64 (x.gen))), (.v (.int .i64 (x.no))), (.v (.string (x.data)))], D)) (hD0 : D = [] := by first | assumption | omega | with_reducible rfl) (hid : S[id]? = some ⟨2, [[.v (.slice none 0 0), lv]], 0, true⟩) (hwi : md.wr id = true) (hk : 20 ≤ k := by omega) :
  Cal (run k) md 49 vs S (fun r S' => r = .tu [] ∧ Grw S S' id lv [x] (fun j => S.length ≤ j) (fun _ => False)) := by
 obtain ⟨k, rfl⟩ : ∃ j, k = j + 1 := ⟨k - 1, by omega⟩
 refine Cal.fnN (n := 43) (rs := []) (D := D) (Xof_none rfl) g49 (by delta Try.f49; exact rfl) (by delta Try.f49; exact rfl) (by delta Try.f49; exact rfl) hd rfl (by first | exact .inr (by assumption) | exact .inl rfl | exact .inl (by simp [idsV, idsC])) (by simp) ?_
 intro md' ow; have w := ow.w; have w0 := ow.w0; have fz : md'.fz = false := ow.fz
 subst hD0
 have hidl := (List.getElem?_eq_some_iff.1 hid).1
 have hallw := ow.all rfl
 have hwid := hallw id hwi
 (have F := an11 @yD @yE @yG @yF @yB @yA @yC @hid @hidl @List.getElem?_append_left.{0} @List.set_append_left.{0}; (repeat' (first | refine' dA87 | ((with_reducible first | apply EvO.call (vs := ?_) | apply EvT.call (vs := ?_)); exact rfl; exact rfl; exact dE32; (first | (with_reducible apply Cal.hd (g := 77) (ms := [true]) (p := ?_)) | (with_reducible apply Cal.hd (ms := []) (p := ?_))); exact dE32) | ((with_reducible apply CalH.mk); intro hd; first | exact c77_nil (k := k) hd (x := x) | exact c76_nil (k := k) hd (x := x) | exact c76_cp hd | exact c62 hd | exact c77_end hd (hid := dH2) (hw := dH2)) | fail)); all_goals clear F)
 refine ⟨.inl rfl, fun S₂ hk => ?_⟩
 rw [hk.nil]
 refine ⟨rfl, by simp, ⟨S.length + 2, ?_, ?_, (by show S.length ≤ S.length + 2; omega)⟩, fun j hj h1 _ => ?_⟩
 ·rw [List.getElem?_append_left (by simpa using hidl), List.getElem?_set_self hidl]; rfl
 ·rw [List.getElem?_append_right (by simp)]; simp [Part.c]
 ·rw [List.getElem?_append_left (by simpa using hj), List.getElem?_set_ne (Ne.symm h1)]
theorem c49_end {k : Nat} {md : Md} {S : Store} {vs : List A} {D : List Nat} {id pid n : Nat} {lv : A} {l : List Part} {x : Part} (hd : dpArgs S [true] vs = some ([.pt id 0 0 1, (.v (.int .i64 (x.gen))), (.v (.int .i64 (x.no))), (.v (.string (x.data)))], D)) (hD0 : D = [] := by first | assumption | omega | with_reducible rfl) (hln : l.length = n := by first | assumption | omega | with_reducible rfl) (hid : S[id]? = some ⟨2, [[.sl pid 0 n n, lv]], 0, true⟩) (hpd : S[pid]? = some ⟨3, l.map Part.c, 0, false⟩) (hwi : md.wr id = true) (hwp : md.wr pid = true) (hn : l.length ≤ 1000000 := by first | assumption | omega | with_reducible rfl) (hs : srtP l := by first | assumption | omega | with_reducible rfl) (hx : ∀ y ∈ l, ltPart y x = true := by first | assumption | omega | with_reducible rfl) (hk : 20 ≤ k := by omega) :
  Cal (run k) md 49 vs S (fun r S' => r = .tu [] ∧ Grw S S' id lv (l ++ [x]) (fun j => j = pid) (fun j => j = pid)) := by
 obtain ⟨k, rfl⟩ : ∃ j, k = j + 1 := ⟨k - 1, by omega⟩
 refine Cal.fnN (n := 43) (rs := []) (D := D) (Xof_none rfl) g49 (by delta Try.f49; exact rfl) (by delta Try.f49; exact rfl) (by delta Try.f49; exact rfl) hd rfl (by first | exact .inr (by assumption) | exact .inl rfl | exact .inl (by simp [idsV, idsC])) (by simp) ?_
 intro md' ow; have w := ow.w; have w0 := ow.w0; have fz : md'.fz = false := ow.fz
 subst hD0
 subst hln
 have hidl := (List.getElem?_eq_some_iff.1 hid).1
 have hpdl := (List.getElem?_eq_some_iff.1 hpd).1
 have hallw := ow.all rfl
 have hwid := hallw id hwi
 have hwpd := hallw pid hwp
 have hne : pid ≠ id := by rintro rfl; rw [hpd] at hid; injection hid with hid; injection hid; omega
 have hpe : posP l x = l.length := ldP_all _ l hx
 have hDp : ([S.length + 1].all fun i => !([pid] : List Nat).contains i) = true := by simp; omega
 have hhe : hasP l x = false := hasP_no (by omega)
 (have F := an17 @yD @yE @yG @yF @yB @yA @yC @hid @hpd @hpe @hhe @hidl @hpdl @List.getElem?_append_left.{0} @List.set_append_left.{0} @List.getElem?_set_ne.{0} @List.length_set.{0}; (repeat' (first | refine' dA88 | ((with_reducible first | apply EvO.call (vs := ?_) | apply EvT.call (vs := ?_)); exact rfl; exact rfl; exact dE33; (first | (with_reducible apply Cal.hd (g := 77) (ms := [true]) (p := ?_)) | (with_reducible apply Cal.hd (ms := []) (p := ?_))); exact dE33) | ((with_reducible apply CalH.mk); intro hd; first | exact c77_end (k := k) hd (hid := dH3) (hw := dH3) (l := l) (x := x) (hD := hDp) | exact c76_cp (k := k) hd (l := l) (x := x) (hs := hs) | exact c76_nil hd | exact c62 hd | exact c77_nil hd) | fail)); all_goals clear F)
 refine ⟨.inl rfl, fun S₂ hk => ?_⟩
 rw [hk.nil]
 refine ⟨rfl, by simp, ⟨pid, ?_, ?_, rfl⟩, fun j hj h1 h2 => ?_⟩
 ·rw [List.getElem?_append_left (by simpa using hidl), List.getElem?_set_self (by simpa using hidl)]; simp
 ·rw [List.getElem?_append_left (by simpa using hpdl), List.getElem?_set_ne (Ne.symm hne), List.getElem?_set_self hpdl]
 ·rw [List.getElem?_append_left (by simpa using hj), List.getElem?_set_ne (Ne.symm h1), List.getElem?_set_ne (Ne.symm h2)]
end Go.Proofs.YtomklniddinhnaaB
