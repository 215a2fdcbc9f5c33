/- The walks of FnExactTakeRoom: Go's calls come to what the Lean functions beside them say; no condition. -/
import Derived.Test.YtfhfaeeokibhaaaQFnExactTakeRoomx0
import Derived.Test.YtfhfaeeokibhaaaQFnExactTakeRoomx3
import Derived.Test.YtfhfaeeokibhaaaQFnExactTakeRoomx4
namespace Go.Proofs.Ytfhfaeeokibhaaa.PFnExactTakeRoom
open Go.RowKit Go.Proofs.YtfhfaeeokibhaaaW.PrintWords Go.Proofs.YtfhfaeeokibhaaaW.PrintLast Go.Proofs.YtfhfaeeokibhaaaW.PrintMore
attribute [local go_sem] max2_int min2_int max_two min_two max_three min_three max_four min_four   -- for this text's walks alone
set_option linter.unusedVariables false
set_option linter.unusedSimpArgs false
set_option maxRecDepth 100000

/-! ### spec_GoodFree: function 17 -/
def spec_GoodFree.f (k : Nat) (a0_0 : Int) (l0_1 : List (S49)) (l0_2 : List (S49)) : Option (Bool) := (spec_l5Place.f k l0_1 a0_0).bind fun t192 => (if t192 = true then ((spec_l5BySize.f k l0_1).bind fun t193 => ((spec_l5Same.f k t193 l0_2).bind fun t196 => (some t196))) else (some false))
theorem spec_GoodFree.mono : ∀ a0 a1 a2 k, LeO (spec_GoodFree.f k a0 a1 a2) (spec_GoodFree.f (k + 1) a0 a1 a2) := by
 intro a0 a1 a2 k
 unfold spec_GoodFree.f
 repeat' first
   | (with_reducible exact spec_l5BySize.mono _ _)
   | (with_reducible exact spec_l5Place.mono _ _ _)
   | (with_reducible exact spec_l5Same.mono _ _ _)
   | (with_reducible exact LeO.refl _)
   | (with_reducible exact LeO.none _)
   | (with_reducible refine LeO.ite ?_ ?_)
   | (with_reducible refine LeO.bind ?_ (fun _ => ?_))
   | exact spec_l5BySize.mono _ _
   | exact spec_l5Place.mono _ _ _
   | exact spec_l5Same.mono _ _ _
   | exact LeO.none _
   | refine LeO.ite ?_ ?_
   | refine LeO.bind ?_ (fun _ => ?_)
def spec_GoodFree.T1 : Bool × List (List Nat × List Nat) := (true, [([], []), ([0], [0]), ([], []), ([2], [2]), ([1, 3], [1, 3]), ([4, 4], [4]), ([5], [5]), ([6, 5], [5, 6]), ([7, 5, 5], [5, 7]), ([5], [5]), ([9, 5], [5, 9]), ([8, 10, 8, 5], [5, 8, 10]), ([5, 11], [5, 11]), ([12, 11, 0, 1, 2, 3, 4, 5, 6, 7, 8, 9, 10, 11, 12], [12])])
def spec_GoodFree.B1 : List Nat := [0, 1, 0, 4, 15, 31, 63, 127, 255, 63, 575, 2047, 4095, 8191]
theorem spec_GoodFree.tab1 : rtab .any (opsOf Try.f17 1) = spec_GoodFree.T1 := by kernel_rfl
theorem spec_GoodFree.bits1 : waitsOk spec_GoodFree.T1.2 spec_GoodFree.B1 = true := by kernel_rfl
set_option maxHeartbeats 8000000 in
set_option maxRecDepth 100000 in
theorem spec_GoodFree.calls (k : Nat) (a0_0 : Int) (A0_1 : Option Addr) (c0_1 : Nat) (l0_1 : List (S49)) (A0_2 : Option Addr) (c0_2 : Nat) (l0_2 : List (S49)) (r : Bool) (w : World) (hr0_1 : Kd.C k49 w A0_1 l0_1.length l0_1) (hc0_1 : l0_1.length ≤ c0_1) (hr0_2 : Kd.C k49 w A0_2 l0_2.length l0_2) (hc0_2 : l0_2.length ≤ c0_2) (h : spec_GoodFree.f k a0_0 l0_1 l0_2 = some r) :
  Calls Try.prog 17 #[.agg #[.int .i64 a0_0, .slice A0_1 l0_1.length c0_1, .slice A0_2 l0_2.length c0_2]] w fun e w' => e = .returned (.bool r) ∧ Below w.heap.size w w' := by
 have hu24 := Try.underlying24
 have HR0_1 := aM hr0_1
 have HC0_1 := aM hc0_1
 clear hr0_1 hc0_1
 have HR0_2 := aM hr0_2
 have HC0_2 := aM hc0_2
 clear hr0_2 hc0_2
 have HB := aM (Below.refl w.heap.size w)
 have H : ((spec_l5Place.f k l0_1 a0_0).bind fun t192 => (if t192 = true then ((spec_l5BySize.f k l0_1).bind fun t193 => ((spec_l5Same.f k t193 l0_2).bind fun t196 => (some t196))) else (some false))) = some r := h
 clear h
 replace H := Option.bind_eq_some_iff.mp H
 obtain ⟨t192, A20, H⟩ := H
 replace H : (if t192 = true then ((spec_l5BySize.f k l0_1).bind fun t193 => ((spec_l5Same.f k t193 l0_2).bind fun t196 => (some t196))) else (some false)) = some r := H
 have A2 := aM A20
 clear A20
 by_cases c3 : t192 = true
 ·subst c3
  have H1 : ((spec_l5BySize.f k l0_1).bind fun t193 => ((spec_l5Same.f k t193 l0_2).bind fun t196 => (some t196))) = some r := by rw [if_pos rfl] at H; exact H
  clear H
  have H := H1
  clear H1
  replace H := Option.bind_eq_some_iff.mp H
  obtain ⟨t193, A40, H⟩ := H
  replace H : ((spec_l5Same.f k t193 l0_2).bind fun t196 => (some t196)) = some r := H
  have A4 := aM A40
  clear A40
  replace H := Option.bind_eq_some_iff.mp H
  obtain ⟨t196, A50, H⟩ := H
  replace H : (some t196) = some r := H
  have A5 := aM A50
  clear A50
  obtain rfl := Option.some.inj H
  go_enter Try.func17, Try.ntmps17
  try go_wp2_with (first | ((with_reducible refine gate_dst (N := 1) rfl ?_); refine box_event ?hg (N := 1) ?hd (cs := #[.int .i64 a0_0, .slice A0_1 l0_1.length c0_1, .slice A0_2 l0_2.length c0_2]) (t := 24) ?hr ?_; (case hd => rfl); (case hg => rfl); (case hr => first | (go_simp; done) | (go_simp; rfl)); intro gb191 hg w6 hbox hb; have BK191 := aM (hbox); have GW191 := aM ((by rw [hg]; exact (zZ (zH HB.out)) : w.heap.size ≤ gb191)); have GE191 := aM ((by rw [hg]; exact (zZ (zH HB.out)) : w.heap.size ≤ gb191)); replace HB := aM (zT (zH HB.out) hb); clear hb hbox hg))
  replace BK191 := aM (yD BK191.out)
  replace HB := aM (zD HB.out)
  refine start_ (n := 14) (S := fun w' => w'.cell? ⟨gb191, 0, none⟩ = some (.int .i64 a0_0) ∧ w'.cell? ⟨gb191, 1, none⟩ = some (.slice A0_1 l0_1.length c0_1) ∧ w'.cell? ⟨gb191, 2, none⟩ = some (.slice A0_2 l0_2.length c0_2)) (ds := []) #[fF,fF,fF,fF,fF,fF,fF,fF,fF,fF,fF,fF,fF,fF] (by kernel_rfl) rfl rfl ⟨yc BK191.out 0, yc BK191.out 1, yc BK191.out 2⟩ (fun hHeld => ?_); refine with_tabW spec_GoodFree.tab1 spec_GoodFree.bits1 (fun HT_ HW_ => ?_)
  generalize w6.drew = w7 at BK191 HB hHeld ⊢
  refine pure_ (i := 0) (N := some 3) (v := ?_) (a' := ?_) #[tT,fF,fF,fF,fF,fF,fF,fF,fF,fF,fF,fF,fF,fF] rfl rfl (any_of HT_.out (by kernel_rfl)) (fun _ _ _ h => h) (Or.inl ⟨by rfl, ?_⟩) ?_ ?_
  rotate_left
  ·intro w'
   go_simp
   with_reducible rfl
  rotate_left
  ·simp only [Act.put, qA, qB, qC, i64_w, i32_w]
   rfl
  refine pure_ (i := 2) (N := some 5) (v := ?_) (a' := ?_) #[tT,fF,tT,fF,fF,fF,fF,fF,fF,fF,fF,fF,fF,fF] rfl rfl (any_of HT_.out (by kernel_rfl)) (fun _ _ _ h => h) (Or.inl ⟨by rfl, ?_⟩) ?_ ?_
  rotate_left
  ·intro w'
   go_simp
   with_reducible rfl
  rotate_left
  ·simp only [Act.put, qA, qB, qC, i64_w, i32_w]
   rfl
  refine take_ (i := 1) (N := some 4) (v := ?_) (a' := ?_) #[tT,tT,tT,fF,fF,fF,fF,fF,fF,fF,fF,fF,fF,fF] rfl rfl (take_ofW HT_.out HW_.out (by kernel_rfl)) (fun _ _ _ h => h) (Or.inl ⟨by rfl, ?_⟩) hHeld ?_ ?_
  rotate_left
  ·rintro w' ⟨s0, s1, s2⟩
   go_simp
   with_reducible rfl
  rotate_left
  ·simp only [Act.put, qA, qB, qC, i64_w, i32_w]
   rfl
  refine take_ (i := 3) (N := some 6) (v := ?_) (a' := ?_) #[tT,tT,tT,tT,fF,fF,fF,fF,fF,fF,fF,fF,fF,fF] rfl rfl (take_ofW HT_.out HW_.out (by kernel_rfl)) (fun _ _ _ h => h) (Or.inl ⟨by rfl, ?_⟩) hHeld ?_ ?_
  rotate_left
  ·rintro w' ⟨s0, s1, s2⟩
   go_simp
   with_reducible rfl
  rotate_left
  ·simp only [Act.put, qA, qB, qC, i64_w, i32_w]
   rfl
  refine one_ (i := 4) (N := some 7) #[tT,tT,tT,tT,tT,fF,fF,fF,fF,fF,fF,fF,fF,fF] rfl rfl (one_of HT_.out (by kernel_rfl)) (by decide) (fun K hK => ?_)
  refine gS Try.func41 (by kernel_rfl) rfl #[.slice A0_1 l0_1.length c0_1, .int .i64 a0_0] (by rfl) rfl rfl ?_
  with_reducible refine (spec_l5Place.calls k _ _ l0_1 a0_0 true _ ?side1 ?side2 A2.out).mono ?_
  (case side1 => exact cK HR0_1.out HB.out)
  (case side2 => exact HC0_1.out)
  rintro e w8 ⟨rfl, hb⟩
  refine ⟨_, rfl, ?_⟩
  replace BK191 := yK BK191.out hb
  replace HB := aM (zT (zH HB.out) hb)
  (try clear hb)
  refine hK.out _ _ ⟨yc BK191.out 0, yc BK191.out 1, yc BK191.out 2⟩ (fun hHeld => ?_)
  clear hK K
  refine norm_ (a' := ?_) ?_ ?_
  rotate_left
  ·show Act.put _ (some 7) _ = _
   simp only [Act.put, qA, qB, qC, i64_w, i32_w]
   rfl
  refine pure_ (i := 5) (N := some 8) (v := ?_) (a' := ?_) #[tT,tT,tT,tT,tT,tT,fF,fF,fF,fF,fF,fF,fF,fF] rfl rfl (any_of HT_.out (by kernel_rfl)) (fun _ _ _ h => h) (Or.inl ⟨by rfl, ?_⟩) ?_ ?_
  rotate_left
  ·intro w'
   go_simp
   with_reducible rfl
  rotate_left
  ·simp only [Act.put, qA, qB, qC, i64_w, i32_w]
   rfl
  refine pure_ (i := 6) (N := some 9) (v := ?_) (a' := ?_) #[tT,tT,tT,tT,tT,tT,tT,fF,fF,fF,fF,fF,fF,fF] rfl rfl (any_of HT_.out (by kernel_rfl)) (fun _ _ _ h => h) (Or.inl ⟨by rfl, ?_⟩) ?_ ?_
  rotate_left
  ·intro w'
   go_simp
   with_reducible rfl
  rotate_left
  ·simp only [Act.put, qA, qB, qC, i64_w, i32_w]
   rfl
  refine pure_ (i := 9) (N := some 12) (v := ?_) (a' := ?_) #[tT,tT,tT,tT,tT,tT,tT,fF,fF,tT,fF,fF,fF,fF] rfl rfl (any_of HT_.out (by kernel_rfl)) (fun _ _ _ h => h) (Or.inl ⟨by rfl, ?_⟩) ?_ ?_
  rotate_left
  ·intro w'
   go_simp
   with_reducible rfl
  rotate_left
  ·simp only [Act.put, qA, qB, qC, i64_w, i32_w]
   rfl
  refine take_ (i := 7) (N := some 10) (v := ?_) (a' := ?_) #[tT,tT,tT,tT,tT,tT,tT,tT,fF,tT,fF,fF,fF,fF] rfl rfl (take_ofW HT_.out HW_.out (by kernel_rfl)) (fun _ _ _ h => h) (Or.inl ⟨by rfl, ?_⟩) hHeld ?_ ?_
  rotate_left
  ·rintro w' ⟨s0, s1, s2⟩
   go_simp
   with_reducible rfl
  rotate_left
  ·simp only [Act.put, qA, qB, qC, i64_w, i32_w]
   rfl
  refine take_ (i := 10) (N := some 13) (v := ?_) (a' := ?_) #[tT,tT,tT,tT,tT,tT,tT,tT,fF,tT,tT,fF,fF,fF] rfl rfl (take_ofW HT_.out HW_.out (by kernel_rfl)) (fun _ _ _ h => h) (Or.inl ⟨by rfl, ?_⟩) hHeld ?_ ?_
  rotate_left
  ·rintro w' ⟨s0, s1, s2⟩
   go_simp
   with_reducible rfl
  rotate_left
  ·simp only [Act.put, qA, qB, qC, i64_w, i32_w]
   rfl
  refine one_ (i := 8) (N := some 11) #[tT,tT,tT,tT,tT,tT,tT,tT,tT,tT,tT,fF,fF,fF] rfl rfl (one_of HT_.out (by kernel_rfl)) (by decide) (fun K hK => ?_)
  refine gS Try.func43 (by kernel_rfl) rfl #[.slice A0_1 l0_1.length c0_1] (by rfl) rfl rfl ?_
  with_reducible refine (spec_l5BySize.calls k _ _ l0_1 t193 _ ?side1 ?side2 A4.out).mono ?_
  (case side1 => exact cK HR0_1.out HB.out)
  (case side2 => exact HC0_1.out)
  rintro e w9 ⟨v194, rfl, ho0, hb⟩
  refine ⟨_, rfl, ?_⟩
  have HO195 := aM (xL ho0 (zZ (zH HB.out)))
  replace BK191 := yK BK191.out hb
  replace HB := aM (zT (zH HB.out) hb)
  (try clear hb); (try clear ho0)
  obtain ⟨Ao10, co10, eo10⟩ := Kd.R_slice HO195.out
  (first | subst eo10 | obtain ⟨rfl, rfl⟩ := eI eo10)
  refine hK.out _ _ ⟨yc BK191.out 0, yc BK191.out 1, yc BK191.out 2⟩ (fun hHeld => ?_)
  clear hK K
  refine norm_ (a' := ?_) ?_ ?_
  rotate_left
  ·show Act.put _ (some 11) _ = _
   simp only [Act.put, qA, qB, qC, i64_w, i32_w]
   rfl
  refine one_ (i := 11) (N := some 14) #[tT,tT,tT,tT,tT,tT,tT,tT,tT,tT,tT,tT,fF,fF] rfl rfl (one_of HT_.out (by kernel_rfl)) (by decide) (fun K hK => ?_)
  refine gS Try.func42 (by kernel_rfl) rfl #[.slice Ao10 t193.length co10, .slice A0_2 l0_2.length c0_2] (by rfl) rfl rfl ?_
  with_reducible refine (spec_l5Same.calls k _ _ t193 _ _ l0_2 t196 _ ?side1 ?side2 ?side3 ?side4 A5.out).mono ?_
  (case side1 => repeat (first | exact (Kd.R_reads' HO195.out).2.2 | (with_reducible refine cA ?_ _) | (with_reducible refine cN ?_ _) | (with_reducible refine cD ?_)))
  (case side2 => exact (Kd.R_reads' HO195.out).2.1)
  (case side3 => exact cK HR0_2.out HB.out)
  (case side4 => exact HC0_2.out)
  rintro e w' ⟨rfl, ⟨nd, rfl⟩⟩
  refine ⟨_, rfl, ?_⟩
  refine hK.out _ _ ⟨yc BK191.out 0, yc BK191.out 1, yc BK191.out 2⟩ (fun hHeld => ?_)
  clear hK K
  refine norm_ (a' := ?_) ?_ ?_
  rotate_left
  ·show Act.put _ (some 14) _ = _
   simp only [Act.put, qA, qB, qC, i64_w, i32_w]
   rfl
  refine pure_ (i := 12) (N := some 15) (v := ?_) (a' := ?_) #[tT,tT,tT,tT,tT,tT,tT,tT,tT,tT,tT,tT,tT,fF] rfl rfl (any_of HT_.out (by kernel_rfl)) (fun _ _ _ h => h) (Or.inl ⟨by rfl, ?_⟩) ?_ ?_
  rotate_left
  ·intro w'
   go_simp
   with_reducible rfl
  rotate_left
  ·simp only [Act.put, qA, qB, qC, i64_w, i32_w]
   rfl
  refine pure_ (i := 13) (N := some 2) (v := ?_) (a' := ?_) #[tT,tT,tT,tT,tT,tT,tT,tT,tT,tT,tT,tT,tT,tT] rfl rfl (any_of HT_.out (by kernel_rfl)) (fun _ _ _ h => h) (Or.inl ⟨by rfl, ?_⟩) ?_ ?_
  rotate_left
  ·intro w'
   go_simp
   with_reducible rfl
  rotate_left
  ·simp only [Act.put, qA, qB, qC, i64_w, i32_w]
   rfl
  refine done_ (done_of HT_.out (by kernel_rfl)) ?_
  try go_wp2
  go_ret
  exact ⟨by first | rfl | (simp [errW_none, errW_some] <;> rfl) | (simp [*, errW_none, errW_some] <;> rfl), zH HB.out⟩
 ·replace c3 := Bool.eq_false_iff.mpr c3
  subst c3
  have H1 : (some false) = some r := by rw [if_neg (show ¬ (false = true) by decide)] at H; exact H
  clear H
  have H := H1
  clear H1
  obtain rfl := Option.some.inj H
  go_enter Try.func17, Try.ntmps17
  try go_wp2_with (first | ((with_reducible refine gate_dst (N := 1) rfl ?_); refine box_event ?hg (N := 1) ?hd (cs := #[.int .i64 a0_0, .slice A0_1 l0_1.length c0_1, .slice A0_2 l0_2.length c0_2]) (t := 24) ?hr ?_; (case hd => rfl); (case hg => rfl); (case hr => first | (go_simp; done) | (go_simp; rfl)); intro gb191 hg w11 hbox hb; have BK191 := aM (hbox); have GW191 := aM ((by rw [hg]; exact (zZ (zH HB.out)) : w.heap.size ≤ gb191)); have GE191 := aM ((by rw [hg]; exact (zZ (zH HB.out)) : w.heap.size ≤ gb191)); replace HB := aM (zT (zH HB.out) hb); clear hb hbox hg))
  replace BK191 := aM (yD BK191.out)
  replace HB := aM (zD HB.out)
  refine start_ (n := 14) (S := fun w' => w'.cell? ⟨gb191, 0, none⟩ = some (.int .i64 a0_0) ∧ w'.cell? ⟨gb191, 1, none⟩ = some (.slice A0_1 l0_1.length c0_1) ∧ w'.cell? ⟨gb191, 2, none⟩ = some (.slice A0_2 l0_2.length c0_2)) (ds := []) #[fF,fF,fF,fF,fF,fF,fF,fF,fF,fF,fF,fF,fF,fF] (by kernel_rfl) rfl rfl ⟨yc BK191.out 0, yc BK191.out 1, yc BK191.out 2⟩ (fun hHeld => ?_); refine with_tabW spec_GoodFree.tab1 spec_GoodFree.bits1 (fun HT_ HW_ => ?_)
  generalize w11.drew = w12 at BK191 HB hHeld ⊢
  refine pure_ (i := 0) (N := some 3) (v := ?_) (a' := ?_) #[tT,fF,fF,fF,fF,fF,fF,fF,fF,fF,fF,fF,fF,fF] rfl rfl (any_of HT_.out (by kernel_rfl)) (fun _ _ _ h => h) (Or.inl ⟨by rfl, ?_⟩) ?_ ?_
  rotate_left
  ·intro w'
   go_simp
   with_reducible rfl
  rotate_left
  ·simp only [Act.put, qA, qB, qC, i64_w, i32_w]
   rfl
  refine pure_ (i := 2) (N := some 5) (v := ?_) (a' := ?_) #[tT,fF,tT,fF,fF,fF,fF,fF,fF,fF,fF,fF,fF,fF] rfl rfl (any_of HT_.out (by kernel_rfl)) (fun _ _ _ h => h) (Or.inl ⟨by rfl, ?_⟩) ?_ ?_
  rotate_left
  ·intro w'
   go_simp
   with_reducible rfl
  rotate_left
  ·simp only [Act.put, qA, qB, qC, i64_w, i32_w]
   rfl
  refine take_ (i := 1) (N := some 4) (v := ?_) (a' := ?_) #[tT,tT,tT,fF,fF,fF,fF,fF,fF,fF,fF,fF,fF,fF] rfl rfl (take_ofW HT_.out HW_.out (by kernel_rfl)) (fun _ _ _ h => h) (Or.inl ⟨by rfl, ?_⟩) hHeld ?_ ?_
  rotate_left
  ·rintro w' ⟨s0, s1, s2⟩
   go_simp
   with_reducible rfl
  rotate_left
  ·simp only [Act.put, qA, qB, qC, i64_w, i32_w]
   rfl
  refine take_ (i := 3) (N := some 6) (v := ?_) (a' := ?_) #[tT,tT,tT,tT,fF,fF,fF,fF,fF,fF,fF,fF,fF,fF] rfl rfl (take_ofW HT_.out HW_.out (by kernel_rfl)) (fun _ _ _ h => h) (Or.inl ⟨by rfl, ?_⟩) hHeld ?_ ?_
  rotate_left
  ·rintro w' ⟨s0, s1, s2⟩
   go_simp
   with_reducible rfl
  rotate_left
  ·simp only [Act.put, qA, qB, qC, i64_w, i32_w]
   rfl
  refine one_ (i := 4) (N := some 7) #[tT,tT,tT,tT,tT,fF,fF,fF,fF,fF,fF,fF,fF,fF] rfl rfl (one_of HT_.out (by kernel_rfl)) (by decide) (fun K hK => ?_)
  refine gS Try.func41 (by kernel_rfl) rfl #[.slice A0_1 l0_1.length c0_1, .int .i64 a0_0] (by rfl) rfl rfl ?_
  with_reducible refine (spec_l5Place.calls k _ _ l0_1 a0_0 false _ ?side1 ?side2 A2.out).mono ?_
  (case side1 => exact cK HR0_1.out HB.out)
  (case side2 => exact HC0_1.out)
  rintro e w13 ⟨rfl, hb⟩
  refine ⟨_, rfl, ?_⟩
  replace BK191 := yK BK191.out hb
  replace HB := aM (zT (zH HB.out) hb)
  (try clear hb)
  refine hK.out _ _ ⟨yc BK191.out 0, yc BK191.out 1, yc BK191.out 2⟩ (fun hHeld => ?_)
  clear hK K
  refine norm_ (a' := ?_) ?_ ?_
  rotate_left
  ·show Act.put _ (some 7) _ = _
   simp only [Act.put, qA, qB, qC, i64_w, i32_w]
   rfl
  refine pure_ (i := 5) (N := some 8) (v := ?_) (a' := ?_) #[tT,tT,tT,tT,tT,tT,fF,fF,fF,fF,fF,fF,fF,fF] rfl rfl (any_of HT_.out (by kernel_rfl)) (fun _ _ _ h => h) (Or.inl ⟨by rfl, ?_⟩) ?_ ?_
  rotate_left
  ·intro w'
   go_simp
   with_reducible rfl
  rotate_left
  ·simp only [Act.put, qA, qB, qC, i64_w, i32_w]
   rfl
  refine pure_ (i := 6) (N := some 9) (v := undef) (a' := ?_) #[tT,tT,tT,tT,tT,tT,tT,fF,fF,fF,fF,fF,fF,fF] rfl rfl (any_of HT_.out (by kernel_rfl)) (fun _ _ _ h => h) (Or.inr ⟨by rfl, rfl⟩) ?_ ?_
  rotate_left
  ·simp only [Act.put, qA, qB, qC, i64_w, i32_w]
   rfl
  refine pure_ (i := 7) (N := some 10) (v := undef) (a' := ?_) #[tT,tT,tT,tT,tT,tT,tT,tT,fF,fF,fF,fF,fF,fF] rfl rfl (any_of HT_.out (by kernel_rfl)) (fun _ _ _ h => h) (Or.inr ⟨by rfl, rfl⟩) ?_ ?_
  rotate_left
  ·simp only [Act.put, qA, qB, qC, i64_w, i32_w]
   rfl
  refine pure_ (i := 8) (N := some 11) (v := undef) (a' := ?_) #[tT,tT,tT,tT,tT,tT,tT,tT,tT,fF,fF,fF,fF,fF] rfl rfl (any_of HT_.out (by kernel_rfl)) (fun _ _ _ h => h) (Or.inr ⟨by rfl, rfl⟩) ?_ ?_
  rotate_left
  ·simp only [Act.put, qA, qB, qC, i64_w, i32_w]
   rfl
  refine pure_ (i := 9) (N := some 12) (v := undef) (a' := ?_) #[tT,tT,tT,tT,tT,tT,tT,tT,tT,tT,fF,fF,fF,fF] rfl rfl (any_of HT_.out (by kernel_rfl)) (fun _ _ _ h => h) (Or.inr ⟨by rfl, rfl⟩) ?_ ?_
  rotate_left
  ·simp only [Act.put, qA, qB, qC, i64_w, i32_w]
   rfl
  refine pure_ (i := 10) (N := some 13) (v := undef) (a' := ?_) #[tT,tT,tT,tT,tT,tT,tT,tT,tT,tT,tT,fF,fF,fF] rfl rfl (any_of HT_.out (by kernel_rfl)) (fun _ _ _ h => h) (Or.inr ⟨by rfl, rfl⟩) ?_ ?_
  rotate_left
  ·simp only [Act.put, qA, qB, qC, i64_w, i32_w]
   rfl
  refine pure_ (i := 11) (N := some 14) (v := undef) (a' := ?_) #[tT,tT,tT,tT,tT,tT,tT,tT,tT,tT,tT,tT,fF,fF] rfl rfl (any_of HT_.out (by kernel_rfl)) (fun _ _ _ h => h) (Or.inr ⟨by rfl, rfl⟩) ?_ ?_
  rotate_left
  ·simp only [Act.put, qA, qB, qC, i64_w, i32_w]
   rfl
  refine pure_ (i := 12) (N := some 15) (v := ?_) (a' := ?_) #[tT,tT,tT,tT,tT,tT,tT,tT,tT,tT,tT,tT,tT,fF] rfl rfl (any_of HT_.out (by kernel_rfl)) (fun _ _ _ h => h) (Or.inl ⟨by rfl, ?_⟩) ?_ ?_
  rotate_left
  ·intro w'
   go_simp
   with_reducible rfl
  rotate_left
  ·simp only [Act.put, qA, qB, qC, i64_w, i32_w]
   rfl
  refine pure_ (i := 13) (N := some 2) (v := ?_) (a' := ?_) #[tT,tT,tT,tT,tT,tT,tT,tT,tT,tT,tT,tT,tT,tT] rfl rfl (any_of HT_.out (by kernel_rfl)) (fun _ _ _ h => h) (Or.inl ⟨by rfl, ?_⟩) ?_ ?_
  rotate_left
  ·intro w'
   go_simp
   with_reducible rfl
  rotate_left
  ·simp only [Act.put, qA, qB, qC, i64_w, i32_w]
   rfl
  refine done_ (done_of HT_.out (by kernel_rfl)) ?_
  try go_wp2
  go_ret
  exact ⟨by first | rfl | (simp [errW_none, errW_some] <;> rfl) | (simp [*, errW_none, errW_some] <;> rfl), zH HB.out⟩

/-! ### spec_l5Of: function 37 -/
def spec_l5Of.f (k : Nat) (a0 : Int) (l1 : List (S49)) : Option (Int × (List (S49)) × (List (S49))) := (some (([] : List (S49)) : List (S49))).bind fun y198 => (if y198.length + l1.length < 8796093022208 then ((spec_l5BySize.f k l1).bind fun t204 => (some (a0, (y198 ++ l1), t204))) else (none))
theorem spec_l5Of.mono : ∀ a0 a1 k, LeO (spec_l5Of.f k a0 a1) (spec_l5Of.f (k + 1) a0 a1) := by
 intro a0 a1 k
 unfold spec_l5Of.f
 repeat' first
   | (with_reducible exact spec_l5BySize.mono _ _)
   | (with_reducible exact LeO.refl _)
   | (with_reducible exact LeO.none _)
   | (with_reducible refine LeO.ite ?_ ?_)
   | (with_reducible refine LeO.bind ?_ (fun _ => ?_))
   | exact spec_l5BySize.mono _ _
   | exact LeO.none _
   | refine LeO.ite ?_ ?_
   | refine LeO.bind ?_ (fun _ => ?_)
set_option maxHeartbeats 8000000 in
set_option maxRecDepth 100000 in
theorem spec_l5Of.calls (k : Nat) (a0 : Int) (A1 : Option Addr) (c1 : Nat) (l1 : List (S49)) (r1 : Int) (r2 : List (S49)) (r3 : List (S49)) (w : World) (hr1 : Kd.C k49 w A1 l1.length l1) (hc1 : l1.length ≤ c1) (h : spec_l5Of.f k a0 l1 = some (r1, r2, r3)) :
  Calls Try.prog 37 #[.int .i64 a0, .slice A1 l1.length c1] w fun e w' => ∃ v1_ v2_ : Value, e = .returned (.agg #[.int .i64 r1, v1_, v2_]) ∧ Kd.R k49 49 w' w.heap.size (fun k_ => some k_ ≠ (v2_ : Value).ownBlock) v1_ r2 ∧ Kd.R k49 49 w' w.heap.size (fun k_ => some k_ ≠ (v1_ : Value).ownBlock) v2_ r3 ∧ Below w.heap.size w w' := by
 have hu24 := Try.underlying24
 have HR1 := aM hr1
 have HC1 := aM hc1
 clear hr1 hc1
 have HB := aM (Below.refl w.heap.size w)
 have H : ((some (([] : List (S49)) : List (S49))).bind fun y198 => (if y198.length + l1.length < 8796093022208 then ((spec_l5BySize.f k l1).bind fun t204 => (some (a0, (y198 ++ l1), t204))) else (none))) = some (r1, r2, r3) := h
 clear h
 obtain ⟨y198, hy198⟩ : ∃ y_ : List (S49), y_ = (([] : List (S49))) := ⟨_, rfl⟩
 replace H : (if y198.length + l1.length < 8796093022208 then ((spec_l5BySize.f k l1).bind fun t204 => (some (a0, (y198 ++ l1), t204))) else (none)) = some (r1, r2, r3) := by first | (rw [hy198]; with_reducible exact H) | (have H2_ := (Option.bind_some _ _).symm.trans H; rw [hy198]; with_reducible exact H2_) | (have H2_ := (Option.bind_some _ _).symm.trans H; with_reducible exact H2_) | with_reducible exact H | (rw [hy198]; exact H) | exact H
 have Ny198 := aM hy198
 clear hy198
 by_cases c3 : y198.length + l1.length < 8796093022208
 ·rw [if_pos c3] at H
  have LMc3 := aM c3
  clear c3
  obtain ⟨y201, hy201⟩ : ∃ y_ : List (S49), y_ = (y198 ++ l1) := ⟨_, rfl⟩
  replace H : ((spec_l5BySize.f k l1).bind fun t204 => (some (a0, y201, t204))) = some (r1, r2, r3) := by first | (rw [hy201]; with_reducible exact H) | (have H2_ := (Option.bind_some _ _).symm.trans H; rw [hy201]; with_reducible exact H2_) | (have H2_ := (Option.bind_some _ _).symm.trans H; with_reducible exact H2_) | with_reducible exact H | (rw [hy201]; exact H) | exact H
  have Ny201 := aM hy201
  clear hy201
  replace H := Option.bind_eq_some_iff.mp H
  obtain ⟨t204, A40, H⟩ := H
  replace H : (some (a0, y201, t204)) = some (r1, r2, r3) := H
  have A4 := aM A40
  clear A40
  simp only [Option.some.injEq, Prod.mk.injEq] at H
  obtain ⟨rfl, rfl, rfl⟩ := H
  go_enter Try.func37, Try.ntmps37
  go_wp2_with (first | ((with_reducible refine gate_dst (N := 4) rfl ?_); refine box_event ?hg (N := 4) ?hd (cs := #[.int .i64 0, .slice none 0 0, .slice none 0 0]) (t := 24) ?hr ?_; (case hd => rfl); (case hg => rfl); (case hr => first | (go_simp; done) | (go_simp; rfl)); intro gb197 hg w5 hbox hb; have BK197 := aM (hbox); have GW197 := aM ((by rw [hg]; exact (zZ (zH HB.out)) : w.heap.size ≤ gb197)); have GE197 := aM ((by rw [hg]; exact (zZ (zH HB.out)) : w.heap.size ≤ gb197)); replace HB := aM (zT (zH HB.out) hb); clear hb hbox hg) | ((with_reducible refine gate_dst (N := 6) rfl ?_); refine Kd.R_lit k49 _ 49 ?hg (N := 6) ?hd (xs := ([] : List (S49))) (inner := []) (ok := fun _ => True) (okp := fun _ => True) ?hr ?hp (fun _ hk => hk) trivial (Below.refl _ _) (Nat.le_refl _) (by simp) ?_; (case hd => rfl); (case hg => rfl); (case hr => first | (go_simp; done) | (go_simp; rfl)); (case hp => exact (Reps.none _ _)); intro v199 w6 ho7 hb hg_ hnew_; clear hg_ hnew_; (first | rw [← Ny198.out] at ho7 | (simp only [Int.reduceToNat] at ho7; rw [← Ny198.out] at ho7)); have HO200 := aM (xL ho7 (zZ (zH HB.out))); replace BK197 := yK BK197.out hb; replace HB := aM (zT (zH HB.out) hb); clear hb ho7) | ((with_reducible refine gate_builtin (b := .append) (xs := #[.tmp 6, .tmp 7]) rfl ?_); at_builtin; refine Kd.R_append_rows k49 (w0 := w) w.heap.size rfl (.tmp 6) (.tmp 7) 22 49 (.agg #[(.int .i64 0), (.int .i64 0)]) 16 rfl Try.underlying22 info49 rfl (by decide) (by omega) v199 y198 l1 _ _ _ (fun _ => True) (fun _ => False) rfl rfl ?aO ?aR (fun _ _ h => h) (fun _ h => h.elim) ?aF ?aB ?aS ?aL ?_; (case aR => exact cK HR1.out HB.out); (case aB => exact (zH HB.out)); (case aF => exact (fun _ _ => trivial)); (case aO => exact (xH HO200.out)); (case aS => exact (zZ (zH HB.out))); (case aL => have := LMc3.out; omega); intro v202 w8 ho hb hg hat; rw [← Ny201.out] at ho; replace BK197 := aM (blk_grown (g := gb197) (o := .cells #[.int .i64 0, .slice none 0 0, .slice none 0 0] 24 (0, 0)) (yH BK197.out) hg (Kd.R_ne HO200.out BK197.out (by decide))); replace HB := aM (hb); have HO203 := aM (ho); clear HO200; clear ho hb hg hat) | ((with_reducible refine gate_callee (f := 43) rfl ?_); refine goesL_ (some 10) rfl rfl Try.func43 (by kernel_rfl) rfl #[.slice A1 l1.length c1] rfl (by (try simp only [List.map_toArray, List.map_cons, List.map_nil]); first | done | rfl | (simp only [List.length_drop, List.length_take]; rfl)) ?_; (with_reducible refine (spec_l5BySize.calls k _ _ l1 t204 _ ?side1 ?side2 A4.out).mono ?_); (case side1 => exact cK HR1.out HB.out); (case side2 => exact HC1.out); rintro e w9 ⟨v205, rfl, ho0, hb⟩; refine ⟨_, rfl, ?_⟩; have HO206 := aM (xL (Kd.R_new' ho0 (Kd.R_lt (xH HO203.out))) (zZ (zH HB.out))); replace HO203 := aM (Kd.R_elder' (xH HO203.out) (Kd.R_base ho0) hb); replace BK197 := yK BK197.out hb; replace HB := aM (zT (zH HB.out) hb); (try clear hb); (try clear ho0); obtain ⟨Ao10, co10, eo10⟩ := Kd.R_slice HO206.out; subst eo10; obtain ⟨Ao11, co11, eo11⟩ := Kd.R_slice HO203.out; subst eo11; have hcz12_0 : w9.cell? ⟨gb197, 0, none⟩ = some (.int .i64 0) := yc BK197.out 0; have hcz12_1 : w9.cell? ⟨gb197, 1, none⟩ = some (.slice none 0 0) := yc BK197.out 1; have hcz12_2 : w9.cell? ⟨gb197, 2, none⟩ = some (.slice none 0 0) := yc BK197.out 2; have hfz12_0 := yZ BK197.out 0; have hfz12_1 := yZ BK197.out 1; have hfz12_2 := yZ BK197.out 2))
  refine bodyPost_ret (results_cell_row rfl _ _ gb197 24 #[.int .i64 a0, .slice Ao11 y201.length co11, .slice Ao10 t204.length co10] (0, 0) _ rfl (by (with_reducible repeat (first | refine yN ?_ _ | refine yD ?_ | refine yA ?_ _)); refine yP (cs := #[.int .i64 a0, .slice Ao11 y201.length co11, .slice none 0 0]) ?_ 2 _ rfl; (with_reducible repeat (first | refine yN ?_ _ | refine yD ?_ | refine yA ?_ _)); refine yP (cs := #[.int .i64 a0, .slice none 0 0, .slice none 0 0]) ?_ 1 _ rfl; (with_reducible repeat (first | refine yN ?_ _ | refine yD ?_ | refine yA ?_ _)); refine yP (cs := #[.int .i64 0, .slice none 0 0, .slice none 0 0]) ?_ 0 _ rfl; (with_reducible repeat (first | refine yN ?_ _ | refine yD ?_ | refine yA ?_ _)); exact BK197.out) Try.underlying24 rfl (by kernel_rfl)) rfl ?_
  exact ⟨_, _, by first | rfl | (simp [errW_none, errW_some] <;> rfl) | (simp [*, errW_none, errW_some] <;> rfl), xH (xM (xF (p := ⟨gb197, 2, none⟩) (xF (p := ⟨gb197, 1, none⟩) (xF (p := ⟨gb197, 0, none⟩) (xT HO203.out BK197.out (by decide)) (fun _ hk => hk.2) (.int .i64 a0)) (fun _ hk => hk.2) (.slice Ao11 y201.length co11)) (fun _ hk => hk.2) (.slice Ao10 t204.length co10)) (fun _ hk => hk.1.2)), xH (xM (xF (p := ⟨gb197, 2, none⟩) (xF (p := ⟨gb197, 1, none⟩) (xF (p := ⟨gb197, 0, none⟩) (xT HO206.out BK197.out (by decide)) (fun _ hk => hk.2) (.int .i64 a0)) (fun _ hk => hk.2) (.slice Ao11 y201.length co11)) (fun _ hk => hk.2) (.slice Ao10 t204.length co10)) (fun _ hk => hk.1.2)), zH HB.out⟩
 ·rw [if_neg c3] at H
  exact absurd H (by simp)

/-! ### spec_l5Within: function 47 -/
def spec_l5Within.l0 : Nat → List (S49) → Int → Int → Int → Int → Option (Int)
 | 0, _, _, _, _, _ => none
 | k + 1, x7, x8, x9, x208000, x208001 => if x9 < x8 then (if 0 ≤ x9 then (if x9 < (x7.length : Int) then (if ((rd_T49 x7 x9).f0) ≤ x208000 then (if (wrap64 (x208000 + x208001)) ≤ (wrap64 (((rd_T49 x7 x9).f0) + ((rd_T49 x7 x9).f1))) then (some x9) else (spec_l5Within.l0 k x7 x8 (wrap64 (x9 + 1)) x208000 x208001)) else (spec_l5Within.l0 k x7 x8 (wrap64 (x9 + 1)) x208000 x208001)) else (none)) else (none)) else (some (-1))
def spec_l5Within.f (k : Nat) (l0 : List (S49)) (a1_0 : Int) (a1_1 : Int) : Option (Int) := spec_l5Within.l0 k l0 (l0.length : Int) 0 a1_0 a1_1
theorem spec_l5Within.mono_l : ∀ k, (∀ y0 y1 y2 y3 y4, LeO (spec_l5Within.l0 k y0 y1 y2 y3 y4) (spec_l5Within.l0 (k + 1) y0 y1 y2 y3 y4))
 | 0 => fun _ _ _ _ _ r h => by change none = some r at h; cases h
 | k + 1 => by
  have ih0 := spec_l5Within.mono_l k
  ·intro y0 y1 y2 y3 y4
   unfold spec_l5Within.l0
   repeat' first
   | (with_reducible exact ih0 _ _ _ _ _)
   | (with_reducible exact LeO.refl _)
   | (with_reducible exact LeO.none _)
   | (with_reducible refine LeO.ite ?_ ?_)
   | (with_reducible refine LeO.bind ?_ (fun _ => ?_))
   | exact ih0 _ _ _ _ _
   | exact LeO.none _
   | refine LeO.ite ?_ ?_
   | refine LeO.bind ?_ (fun _ => ?_)
theorem spec_l5Within.mono : ∀ a0 a1 a2 k, LeO (spec_l5Within.f k a0 a1 a2) (spec_l5Within.f (k + 1) a0 a1 a2) := by
 intro a0 a1 a2 k
 have ih0 := spec_l5Within.mono_l k
 unfold spec_l5Within.f
 repeat' first
   | (with_reducible exact ih0 _ _ _ _ _)
   | (with_reducible exact LeO.refl _)
   | (with_reducible exact LeO.none _)
   | (with_reducible refine LeO.ite ?_ ?_)
   | (with_reducible refine LeO.bind ?_ (fun _ => ?_))
   | exact ih0 _ _ _ _ _
   | exact LeO.none _
   | refine LeO.ite ?_ ?_
   | refine LeO.bind ?_ (fun _ => ?_)
set_option maxHeartbeats 8000000 in
set_option maxRecDepth 100000 in
theorem spec_l5Within.calls (k : Nat) (A0 : Option Addr) (c0 : Nat) (l0 : List (S49)) (a1_0 : Int) (a1_1 : Int) (r : Int) (w : World) (hr0 : Kd.C k49 w A0 l0.length l0) (hc0 : l0.length ≤ c0) (h : spec_l5Within.f k l0 a1_0 a1_1 = some r) :
  Calls Try.prog 47 #[.slice A0 l0.length c0, .agg #[.int .i64 a1_0, .int .i64 a1_1]] w fun e w' => e = .returned (.int .i64 r) ∧ Below w.heap.size w w' := by
 have hu49 := Try.underlying49
 have HR0 := aM hr0
 have HC0 := aM hc0
 clear hr0 hc0
 have HB := aM (Below.refl w.heap.size w)
 have H : (spec_l5Within.l0 k l0 (l0.length : Int) 0 a1_0 a1_1) = some r := h
 clear h
 have H' := aM H
 clear H
 go_enter Try.func47, Try.ntmps47
 go_wp2_with (first | ((with_reducible refine gate_dst (N := 3) rfl ?_); refine box_event ?hg (N := 3) ?hd (cs := #[.int .i64 a1_0, .int .i64 a1_1]) (t := 49) ?hr ?_; (case hd => rfl); (case hg => rfl); (case hr => first | (go_simp; done) | (go_simp; rfl)); intro gb207 hg w3 hbox hb; have BK207 := aM (hbox); have GW207 := aM ((by rw [hg]; exact (zZ (zH HB.out)) : w.heap.size ≤ gb207)); have GE207 := aM ((by rw [hg]; exact (zZ (zH HB.out)) : w.heap.size ≤ gb207)); replace HB := aM (zT (zH HB.out) hb); clear hb hbox hg))
 go_loopg [9] k (fun kq v9 w' => ∃ (x9_1 : Int), v9 = .int .i64 x9_1 ∧ Aside0 (spec_l5Within.l0 kq l0 (l0.length : Int) x9_1 a1_0 a1_1 = some r) ∧ Aside0 (kq ≤ k) ∧ Aside0 (w'.heap[gb207]? = some (.cells #[.int .i64 a1_0, .int .i64 a1_1] 49 (0, 0))) ∧ Aside0 (Below w.heap.size w w'))
 case atStart => exact ⟨(0), (by first | rfl | (simp; done) | (simp [*]; done)), H', ⟨Nat.le_refl _⟩, ⟨yH BK207.out⟩, ⟨zH HB.out⟩⟩
 case round =>
  clear H'
  (try clear p2)
  obtain ⟨x9_1, rfl, HA, HK1, BK207, HB⟩ := hrel
  cases gk with
  | zero => exact absurd HA.out (fun h_ => by change none = some _ at h_; cases h_)
  | succ k1 =>
   have H := HA.out
   clear HA
   simp only [spec_l5Within.l0] at H
   by_cases c4 : x9_1 < (l0.length : Int)
   ·rw [if_pos c4] at H
    have c4b0 : decide (x9_1 < (l0.length : Int)) = true := decide_eq_true c4
    clear c4
    by_cases c5 : 0 ≤ x9_1
    ·rw [if_pos c5] at H
     have c5b0 : decide (0 ≤ x9_1) = true := decide_eq_true c5
     clear c5
     by_cases c6 : x9_1 < (l0.length : Int)
     ·rw [if_pos c6] at H
      have c6b0 : decide (x9_1 < (l0.length : Int)) = true := decide_eq_true c6
      clear c6
      by_cases c7 : ((rd_T49 l0 x9_1).f0) ≤ a1_0
      ·rw [if_pos c7] at H
       have c7b0 : decide (((rd_T49 l0 x9_1).f0) ≤ a1_0) = true := decide_eq_true c7
       clear c7
       by_cases c8 : (wrap64 (a1_0 + a1_1)) ≤ (wrap64 (((rd_T49 l0 x9_1).f0) + ((rd_T49 l0 x9_1).f1)))
       ·rw [if_pos c8] at H
        have c8b0 : decide ((wrap64 (a1_0 + a1_1)) ≤ (wrap64 (((rd_T49 l0 x9_1).f0) + ((rd_T49 l0 x9_1).f1)))) = true := decide_eq_true c8
        clear c8
        obtain rfl := Option.some.inj H
        have p208 : 0 ≤ (x9_1 : Int) := of_decide_eq_true (by first | (with_reducible assumption) | assumption)
        have q208 : x9_1 < (l0.length : Int) := of_decide_eq_true (by first | (with_reducible assumption) | assumption)
        obtain ⟨ad208, e208, hx208_0, hx208_1⟩ := at_T49 HR0.out x9_1 p208 q208
        cases e208
        replace hx208_0 := (HB.out.cell (World.block_lt_of_cell? w _ hx208_0)).trans hx208_0
        replace hx208_1 := (HB.out.cell (World.block_lt_of_cell? w _ hx208_1)).trans hx208_1
        replace p208 := eq_true p208
        replace q208 := eq_true q208
        go_wp2_with (first | ((with_reducible refine gate_dst (N := 6) rfl ?_); refine box_event ?hg (N := 6) ?hd (cs := #[.int .i64 0, .int .i64 0]) (t := 49) ?hr ?_; (case hd => rfl); (case hg => rfl); (case hr => first | (go_simp; done) | (go_simp; rfl)); intro gb209 hg w9 hbox hb; have BK209 := aM (hbox); have GW209 := aM ((by rw [hg]; exact (zZ (zH HB.out)) : w.heap.size ≤ gb209)); have GE209 := aM ((by rw [hg]; exact (zZ (zH HB.out)) : w.heap.size ≤ gb209)); replace HB := aM (zT (zH HB.out) hb); have NB207_209 := nL BK207.out hg; have NB209_207 := nR BK207.out hg; replace BK207 := yK BK207.out hb; clear hb hbox hg; have hnb10 := NB209_207.out; have hnc10 := NB207_209.out; have hcz11_0 : w9.cell? ⟨gb209, 0, none⟩ = some (.int .i64 0) := yc BK209.out 0; have hcz11_1 : w9.cell? ⟨gb209, 1, none⟩ = some (.int .i64 0) := yc BK209.out 1; have hfz11_0 := yZ BK209.out 0; have hfz11_1 := yZ BK209.out 1; have hcz12_0 : w9.cell? ⟨gb207, 0, none⟩ = some (.int .i64 a1_0) := yc BK207.out 0; have hcz12_1 : w9.cell? ⟨gb207, 1, none⟩ = some (.int .i64 a1_1) := yc BK207.out 1; have hfz12_0 := yZ BK207.out 0; have hfz12_1 := yZ BK207.out 1))
        go_ret
        exact ⟨by first | rfl | (simp [errW_none, errW_some] <;> rfl) | (simp [*, errW_none, errW_some] <;> rfl), zH HB.out⟩
       ·rw [if_neg c8] at H
        have c8b0 : decide ((wrap64 (a1_0 + a1_1)) ≤ (wrap64 (((rd_T49 l0 x9_1).f0) + ((rd_T49 l0 x9_1).f1)))) = false := decide_eq_false c8
        clear c8
        have H' := aM H
        clear H
        have p208 : 0 ≤ (x9_1 : Int) := of_decide_eq_true (by first | (with_reducible assumption) | assumption)
        have q208 : x9_1 < (l0.length : Int) := of_decide_eq_true (by first | (with_reducible assumption) | assumption)
        obtain ⟨ad208, e208, hx208_0, hx208_1⟩ := at_T49 HR0.out x9_1 p208 q208
        cases e208
        replace hx208_0 := (HB.out.cell (World.block_lt_of_cell? w _ hx208_0)).trans hx208_0
        replace hx208_1 := (HB.out.cell (World.block_lt_of_cell? w _ hx208_1)).trans hx208_1
        replace p208 := eq_true p208
        replace q208 := eq_true q208
        go_wp2_with (first | ((with_reducible refine gate_dst (N := 6) rfl ?_); refine box_event ?hg (N := 6) ?hd (cs := #[.int .i64 0, .int .i64 0]) (t := 49) ?hr ?_; (case hd => rfl); (case hg => rfl); (case hr => first | (go_simp; done) | (go_simp; rfl)); intro gb209 hg w13 hbox hb; have BK209 := aM (hbox); have GW209 := aM ((by rw [hg]; exact (zZ (zH HB.out)) : w.heap.size ≤ gb209)); have GE209 := aM ((by rw [hg]; exact (zZ (zH HB.out)) : w.heap.size ≤ gb209)); replace HB := aM (zT (zH HB.out) hb); have NB207_209 := nL BK207.out hg; have NB209_207 := nR BK207.out hg; replace BK207 := yK BK207.out hb; clear hb hbox hg; have hnb14 := NB209_207.out; have hnc14 := NB207_209.out; have hcz15_0 : w13.cell? ⟨gb209, 0, none⟩ = some (.int .i64 0) := yc BK209.out 0; have hcz15_1 : w13.cell? ⟨gb209, 1, none⟩ = some (.int .i64 0) := yc BK209.out 1; have hfz15_0 := yZ BK209.out 0; have hfz15_1 := yZ BK209.out 1; have hcz16_0 : w13.cell? ⟨gb207, 0, none⟩ = some (.int .i64 a1_0) := yc BK207.out 0; have hcz16_1 : w13.cell? ⟨gb207, 1, none⟩ = some (.int .i64 a1_1) := yc BK207.out 1; have hfz16_0 := yZ BK207.out 0; have hfz16_1 := yZ BK207.out 1))
        go_roundg k1
        case measure => have := HK1.out; omega
        case rel => exact ⟨(wrap64 (x9_1 + 1)), (by first | rfl | (simp; done) | (simp [*]; done)), H', ⟨by have := HK1.out; omega⟩, ⟨by (with_reducible repeat (first | refine yN ?_ _ | refine yD ?_ | refine yA ?_ _)); refine yF ?_ NB207_209.out _; (with_reducible repeat (first | refine yN ?_ _ | refine yD ?_ | refine yA ?_ _)); refine yF ?_ NB207_209.out _; (with_reducible repeat (first | refine yN ?_ _ | refine yD ?_ | refine yA ?_ _)); exact BK207.out⟩, ⟨zH HB.out⟩⟩
      ·rw [if_neg c7] at H
       have c7b0 : decide (((rd_T49 l0 x9_1).f0) ≤ a1_0) = false := decide_eq_false c7
       clear c7
       have H' := aM H
       clear H
       have p208 : 0 ≤ (x9_1 : Int) := of_decide_eq_true (by first | (with_reducible assumption) | assumption)
       have q208 : x9_1 < (l0.length : Int) := of_decide_eq_true (by first | (with_reducible assumption) | assumption)
       obtain ⟨ad208, e208, hx208_0, hx208_1⟩ := at_T49 HR0.out x9_1 p208 q208
       cases e208
       replace hx208_0 := (HB.out.cell (World.block_lt_of_cell? w _ hx208_0)).trans hx208_0
       replace hx208_1 := (HB.out.cell (World.block_lt_of_cell? w _ hx208_1)).trans hx208_1
       replace p208 := eq_true p208
       replace q208 := eq_true q208
       go_wp2_with (first | ((with_reducible refine gate_dst (N := 6) rfl ?_); refine box_event ?hg (N := 6) ?hd (cs := #[.int .i64 0, .int .i64 0]) (t := 49) ?hr ?_; (case hd => rfl); (case hg => rfl); (case hr => first | (go_simp; done) | (go_simp; rfl)); intro gb209 hg w17 hbox hb; have BK209 := aM (hbox); have GW209 := aM ((by rw [hg]; exact (zZ (zH HB.out)) : w.heap.size ≤ gb209)); have GE209 := aM ((by rw [hg]; exact (zZ (zH HB.out)) : w.heap.size ≤ gb209)); replace HB := aM (zT (zH HB.out) hb); have NB207_209 := nL BK207.out hg; have NB209_207 := nR BK207.out hg; replace BK207 := yK BK207.out hb; clear hb hbox hg; have hnb18 := NB209_207.out; have hnc18 := NB207_209.out; have hcz19_0 : w17.cell? ⟨gb209, 0, none⟩ = some (.int .i64 0) := yc BK209.out 0; have hcz19_1 : w17.cell? ⟨gb209, 1, none⟩ = some (.int .i64 0) := yc BK209.out 1; have hfz19_0 := yZ BK209.out 0; have hfz19_1 := yZ BK209.out 1; have hcz20_0 : w17.cell? ⟨gb207, 0, none⟩ = some (.int .i64 a1_0) := yc BK207.out 0; have hcz20_1 : w17.cell? ⟨gb207, 1, none⟩ = some (.int .i64 a1_1) := yc BK207.out 1; have hfz20_0 := yZ BK207.out 0; have hfz20_1 := yZ BK207.out 1))
       go_roundg k1
       case measure => have := HK1.out; omega
       case rel => exact ⟨(wrap64 (x9_1 + 1)), (by first | rfl | (simp; done) | (simp [*]; done)), H', ⟨by have := HK1.out; omega⟩, ⟨by (with_reducible repeat (first | refine yN ?_ _ | refine yD ?_ | refine yA ?_ _)); refine yF ?_ NB207_209.out _; (with_reducible repeat (first | refine yN ?_ _ | refine yD ?_ | refine yA ?_ _)); refine yF ?_ NB207_209.out _; (with_reducible repeat (first | refine yN ?_ _ | refine yD ?_ | refine yA ?_ _)); exact BK207.out⟩, ⟨zH HB.out⟩⟩
     ·rw [if_neg c6] at H
      exact absurd H (by simp)
    ·rw [if_neg c5] at H
     exact absurd H (by simp)
   ·rw [if_neg c4] at H
    have c4b0 : decide (x9_1 < (l0.length : Int)) = false := decide_eq_false c4
    clear c4
    obtain rfl := Option.some.inj H
    go_wp2
    go_ret
    exact ⟨by first | rfl | (simp [errW_none, errW_some] <;> rfl) | (simp [*, errW_none, errW_some] <;> rfl), zH HB.out⟩

/-! ### spec_l5Cut: function 54 -/
def spec_l5Cut.f (l0 : List (S49)) (a1 : Int) (a2_0 : Int) (a2_1 : Int) : Option ((List (S49))) := if 0 ≤ a1 then (if a1 < (l0.length : Int) then (if a1 ≤ (l0.length : Int) then ((some (l0.take (a1 : Int).toNat : List (S49))).bind fun y213 => (if ([] : List (S49)).length + y213.length < 8796093022208 then ((some (([] : List (S49)) ++ y213 : List (S49))).bind fun y217 => (if a2_0 > ((rd_T49 l0 a1).f0) then (if y217.length < 8796093022208 then ((some (y217 ++ [(⟨(rd_T49 l0 a1).f0, wrap64 (a2_0 - ((rd_T49 l0 a1).f0))⟩ : S49)] : List (S49))).bind fun y220 => (if (wrap64 (a2_0 + a2_1)) < (wrap64 (((rd_T49 l0 a1).f0) + ((rd_T49 l0 a1).f1))) then (if y220.length < 8796093022208 then ((some (y220 ++ [(⟨wrap64 (a2_0 + a2_1), wrap64 ((wrap64 (((rd_T49 l0 a1).f0) + ((rd_T49 l0 a1).f1))) - (wrap64 (a2_0 + a2_1)))⟩ : S49)] : List (S49))).bind fun y223 => (if 0 ≤ (wrap64 (a1 + 1)) then (if (wrap64 (a1 + 1)) ≤ (l0.length : Int) then ((some (l0.drop ((wrap64 (a1 + 1)) : Int).toNat : List (S49))).bind fun y226 => (if y223.length + y226.length < 8796093022208 then (some (y223 ++ y226)) else (none))) else (none)) else (none))) else (none)) else (if 0 ≤ (wrap64 (a1 + 1)) then (if (wrap64 (a1 + 1)) ≤ (l0.length : Int) then ((some (l0.drop ((wrap64 (a1 + 1)) : Int).toNat : List (S49))).bind fun y233 => (if y220.length + y233.length < 8796093022208 then (some (y220 ++ y233)) else (none))) else (none)) else (none)))) else (none)) else (if (wrap64 (a2_0 + a2_1)) < (wrap64 (((rd_T49 l0 a1).f0) + ((rd_T49 l0 a1).f1))) then (if y217.length < 8796093022208 then ((some (y217 ++ [(⟨wrap64 (a2_0 + a2_1), wrap64 ((wrap64 (((rd_T49 l0 a1).f0) + ((rd_T49 l0 a1).f1))) - (wrap64 (a2_0 + a2_1)))⟩ : S49)] : List (S49))).bind fun y240 => (if 0 ≤ (wrap64 (a1 + 1)) then (if (wrap64 (a1 + 1)) ≤ (l0.length : Int) then ((some (l0.drop ((wrap64 (a1 + 1)) : Int).toNat : List (S49))).bind fun y243 => (if y240.length + y243.length < 8796093022208 then (some (y240 ++ y243)) else (none))) else (none)) else (none))) else (none)) else (if 0 ≤ (wrap64 (a1 + 1)) then (if (wrap64 (a1 + 1)) ≤ (l0.length : Int) then ((some (l0.drop ((wrap64 (a1 + 1)) : Int).toNat : List (S49))).bind fun y250 => (if y217.length + y250.length < 8796093022208 then (some (y217 ++ y250)) else (none))) else (none)) else (none))))) else (none))) else (none)) else (none)) else (none)
set_option maxHeartbeats 8000000 in
set_option maxRecDepth 100000 in
theorem spec_l5Cut.calls (A0 : Option Addr) (c0 : Nat) (l0 : List (S49)) (a1 : Int) (a2_0 : Int) (a2_1 : Int) (r : List (S49)) (w : World) (hr0 : Kd.C k49 w A0 l0.length l0) (hc0 : l0.length ≤ c0) (h : spec_l5Cut.f l0 a1 a2_0 a2_1 = some r) :
  Calls Try.prog 54 #[.slice A0 l0.length c0, .int .i64 a1, .agg #[.int .i64 a2_0, .int .i64 a2_1]] w fun e w' => ∃ v0_ : Value, e = .returned (v0_) ∧ Kd.R k49 49 w' w.heap.size (fun _ => True) v0_ r ∧ Below w.heap.size w w' := by
 have hu49 := Try.underlying49
 have HR0 := aM hr0
 have HC0 := aM hc0
 clear hr0 hc0
 have HB := aM (Below.refl w.heap.size w)
 have H : (if 0 ≤ a1 then (if a1 < (l0.length : Int) then (if a1 ≤ (l0.length : Int) then ((some (l0.take (a1 : Int).toNat : List (S49))).bind fun y213 => (if ([] : List (S49)).length + y213.length < 8796093022208 then ((some (([] : List (S49)) ++ y213 : List (S49))).bind fun y217 => (if a2_0 > ((rd_T49 l0 a1).f0) then (if y217.length < 8796093022208 then ((some (y217 ++ [(⟨(rd_T49 l0 a1).f0, wrap64 (a2_0 - ((rd_T49 l0 a1).f0))⟩ : S49)] : List (S49))).bind fun y220 => (if (wrap64 (a2_0 + a2_1)) < (wrap64 (((rd_T49 l0 a1).f0) + ((rd_T49 l0 a1).f1))) then (if y220.length < 8796093022208 then ((some (y220 ++ [(⟨wrap64 (a2_0 + a2_1), wrap64 ((wrap64 (((rd_T49 l0 a1).f0) + ((rd_T49 l0 a1).f1))) - (wrap64 (a2_0 + a2_1)))⟩ : S49)] : List (S49))).bind fun y223 => (if 0 ≤ (wrap64 (a1 + 1)) then (if (wrap64 (a1 + 1)) ≤ (l0.length : Int) then ((some (l0.drop ((wrap64 (a1 + 1)) : Int).toNat : List (S49))).bind fun y226 => (if y223.length + y226.length < 8796093022208 then (some (y223 ++ y226)) else (none))) else (none)) else (none))) else (none)) else (if 0 ≤ (wrap64 (a1 + 1)) then (if (wrap64 (a1 + 1)) ≤ (l0.length : Int) then ((some (l0.drop ((wrap64 (a1 + 1)) : Int).toNat : List (S49))).bind fun y233 => (if y220.length + y233.length < 8796093022208 then (some (y220 ++ y233)) else (none))) else (none)) else (none)))) else (none)) else (if (wrap64 (a2_0 + a2_1)) < (wrap64 (((rd_T49 l0 a1).f0) + ((rd_T49 l0 a1).f1))) then (if y217.length < 8796093022208 then ((some (y217 ++ [(⟨wrap64 (a2_0 + a2_1), wrap64 ((wrap64 (((rd_T49 l0 a1).f0) + ((rd_T49 l0 a1).f1))) - (wrap64 (a2_0 + a2_1)))⟩ : S49)] : List (S49))).bind fun y240 => (if 0 ≤ (wrap64 (a1 + 1)) then (if (wrap64 (a1 + 1)) ≤ (l0.length : Int) then ((some (l0.drop ((wrap64 (a1 + 1)) : Int).toNat : List (S49))).bind fun y243 => (if y240.length + y243.length < 8796093022208 then (some (y240 ++ y243)) else (none))) else (none)) else (none))) else (none)) else (if 0 ≤ (wrap64 (a1 + 1)) then (if (wrap64 (a1 + 1)) ≤ (l0.length : Int) then ((some (l0.drop ((wrap64 (a1 + 1)) : Int).toNat : List (S49))).bind fun y250 => (if y217.length + y250.length < 8796093022208 then (some (y217 ++ y250)) else (none))) else (none)) else (none))))) else (none))) else (none)) else (none)) else (none)) = some r := h
 clear h
 by_cases c4 : 0 ≤ a1
 ·rw [if_pos c4] at H
  have c4b0 : decide (0 ≤ a1) = true := decide_eq_true c4
  clear c4
  by_cases c5 : a1 < (l0.length : Int)
  ·rw [if_pos c5] at H
   have c5b0 : decide (a1 < (l0.length : Int)) = true := decide_eq_true c5
   clear c5
   have c6b0 := eq_true (of_decide_eq_true (by first | (with_reducible assumption) | assumption) : 0 ≤ a1)
   by_cases c7 : a1 ≤ (l0.length : Int)
   ·rw [if_pos c7] at H
    have c7b0 := eq_true c7
    have c7b1 : decide (a1 ≤ (l0.length : Int)) = true := decide_eq_true c7
    clear c7
    obtain ⟨y213, hy213⟩ : ∃ y_ : List (S49), y_ = (l0.take (a1 : Int).toNat) := ⟨_, rfl⟩
    replace H : (if ([] : List (S49)).length + y213.length < 8796093022208 then ((some (([] : List (S49)) ++ y213 : List (S49))).bind fun y217 => (if a2_0 > ((rd_T49 l0 a1).f0) then (if y217.length < 8796093022208 then ((some (y217 ++ [(⟨(rd_T49 l0 a1).f0, wrap64 (a2_0 - ((rd_T49 l0 a1).f0))⟩ : S49)] : List (S49))).bind fun y220 => (if (wrap64 (a2_0 + a2_1)) < (wrap64 (((rd_T49 l0 a1).f0) + ((rd_T49 l0 a1).f1))) then (if y220.length < 8796093022208 then ((some (y220 ++ [(⟨wrap64 (a2_0 + a2_1), wrap64 ((wrap64 (((rd_T49 l0 a1).f0) + ((rd_T49 l0 a1).f1))) - (wrap64 (a2_0 + a2_1)))⟩ : S49)] : List (S49))).bind fun y223 => (if 0 ≤ (wrap64 (a1 + 1)) then (if (wrap64 (a1 + 1)) ≤ (l0.length : Int) then ((some (l0.drop ((wrap64 (a1 + 1)) : Int).toNat : List (S49))).bind fun y226 => (if y223.length + y226.length < 8796093022208 then (some (y223 ++ y226)) else (none))) else (none)) else (none))) else (none)) else (if 0 ≤ (wrap64 (a1 + 1)) then (if (wrap64 (a1 + 1)) ≤ (l0.length : Int) then ((some (l0.drop ((wrap64 (a1 + 1)) : Int).toNat : List (S49))).bind fun y233 => (if y220.length + y233.length < 8796093022208 then (some (y220 ++ y233)) else (none))) else (none)) else (none)))) else (none)) else (if (wrap64 (a2_0 + a2_1)) < (wrap64 (((rd_T49 l0 a1).f0) + ((rd_T49 l0 a1).f1))) then (if y217.length < 8796093022208 then ((some (y217 ++ [(⟨wrap64 (a2_0 + a2_1), wrap64 ((wrap64 (((rd_T49 l0 a1).f0) + ((rd_T49 l0 a1).f1))) - (wrap64 (a2_0 + a2_1)))⟩ : S49)] : List (S49))).bind fun y240 => (if 0 ≤ (wrap64 (a1 + 1)) then (if (wrap64 (a1 + 1)) ≤ (l0.length : Int) then ((some (l0.drop ((wrap64 (a1 + 1)) : Int).toNat : List (S49))).bind fun y243 => (if y240.length + y243.length < 8796093022208 then (some (y240 ++ y243)) else (none))) else (none)) else (none))) else (none)) else (if 0 ≤ (wrap64 (a1 + 1)) then (if (wrap64 (a1 + 1)) ≤ (l0.length : Int) then ((some (l0.drop ((wrap64 (a1 + 1)) : Int).toNat : List (S49))).bind fun y250 => (if y217.length + y250.length < 8796093022208 then (some (y217 ++ y250)) else (none))) else (none)) else (none))))) else (none)) = some r := by first | (rw [hy213]; with_reducible exact H) | (have H2_ := (Option.bind_some _ _).symm.trans H; rw [hy213]; with_reducible exact H2_) | (have H2_ := (Option.bind_some _ _).symm.trans H; with_reducible exact H2_) | with_reducible exact H | (rw [hy213]; exact H) | exact H
    have Ny213 := aM hy213
    clear hy213
    by_cases c8 : ([] : List (S49)).length + y213.length < 8796093022208
    ·rw [if_pos c8] at H
     have LMc8 := aM c8
     clear c8
     obtain ⟨y217, hy217⟩ : ∃ y_ : List (S49), y_ = (([] : List (S49)) ++ y213) := ⟨_, rfl⟩
     replace H : (if a2_0 > ((rd_T49 l0 a1).f0) then (if y217.length < 8796093022208 then ((some (y217 ++ [(⟨(rd_T49 l0 a1).f0, wrap64 (a2_0 - ((rd_T49 l0 a1).f0))⟩ : S49)] : List (S49))).bind fun y220 => (if (wrap64 (a2_0 + a2_1)) < (wrap64 (((rd_T49 l0 a1).f0) + ((rd_T49 l0 a1).f1))) then (if y220.length < 8796093022208 then ((some (y220 ++ [(⟨wrap64 (a2_0 + a2_1), wrap64 ((wrap64 (((rd_T49 l0 a1).f0) + ((rd_T49 l0 a1).f1))) - (wrap64 (a2_0 + a2_1)))⟩ : S49)] : List (S49))).bind fun y223 => (if 0 ≤ (wrap64 (a1 + 1)) then (if (wrap64 (a1 + 1)) ≤ (l0.length : Int) then ((some (l0.drop ((wrap64 (a1 + 1)) : Int).toNat : List (S49))).bind fun y226 => (if y223.length + y226.length < 8796093022208 then (some (y223 ++ y226)) else (none))) else (none)) else (none))) else (none)) else (if 0 ≤ (wrap64 (a1 + 1)) then (if (wrap64 (a1 + 1)) ≤ (l0.length : Int) then ((some (l0.drop ((wrap64 (a1 + 1)) : Int).toNat : List (S49))).bind fun y233 => (if y220.length + y233.length < 8796093022208 then (some (y220 ++ y233)) else (none))) else (none)) else (none)))) else (none)) else (if (wrap64 (a2_0 + a2_1)) < (wrap64 (((rd_T49 l0 a1).f0) + ((rd_T49 l0 a1).f1))) then (if y217.length < 8796093022208 then ((some (y217 ++ [(⟨wrap64 (a2_0 + a2_1), wrap64 ((wrap64 (((rd_T49 l0 a1).f0) + ((rd_T49 l0 a1).f1))) - (wrap64 (a2_0 + a2_1)))⟩ : S49)] : List (S49))).bind fun y240 => (if 0 ≤ (wrap64 (a1 + 1)) then (if (wrap64 (a1 + 1)) ≤ (l0.length : Int) then ((some (l0.drop ((wrap64 (a1 + 1)) : Int).toNat : List (S49))).bind fun y243 => (if y240.length + y243.length < 8796093022208 then (some (y240 ++ y243)) else (none))) else (none)) else (none))) else (none)) else (if 0 ≤ (wrap64 (a1 + 1)) then (if (wrap64 (a1 + 1)) ≤ (l0.length : Int) then ((some (l0.drop ((wrap64 (a1 + 1)) : Int).toNat : List (S49))).bind fun y250 => (if y217.length + y250.length < 8796093022208 then (some (y217 ++ y250)) else (none))) else (none)) else (none)))) = some r := by first | (rw [hy217]; with_reducible exact H) | (have H2_ := (Option.bind_some _ _).symm.trans H; rw [hy217]; with_reducible exact H2_) | (have H2_ := (Option.bind_some _ _).symm.trans H; with_reducible exact H2_) | with_reducible exact H | (rw [hy217]; exact H) | exact H
     have Ny217 := aM hy217
     clear hy217
     by_cases c9 : a2_0 > ((rd_T49 l0 a1).f0)
     ·rw [if_pos c9] at H
      have c9b0 : decide (((rd_T49 l0 a1).f0) < a2_0) = true := decide_eq_true c9
      clear c9
      by_cases c10 : y217.length < 8796093022208
      ·rw [if_pos c10] at H
       have LMc10 := aM c10
       clear c10
       obtain ⟨y220, hy220⟩ : ∃ y_ : List (S49), y_ = (y217 ++ [(⟨(rd_T49 l0 a1).f0, wrap64 (a2_0 - ((rd_T49 l0 a1).f0))⟩ : S49)]) := ⟨_, rfl⟩
       replace H : (if (wrap64 (a2_0 + a2_1)) < (wrap64 (((rd_T49 l0 a1).f0) + ((rd_T49 l0 a1).f1))) then (if y220.length < 8796093022208 then ((some (y220 ++ [(⟨wrap64 (a2_0 + a2_1), wrap64 ((wrap64 (((rd_T49 l0 a1).f0) + ((rd_T49 l0 a1).f1))) - (wrap64 (a2_0 + a2_1)))⟩ : S49)] : List (S49))).bind fun y223 => (if 0 ≤ (wrap64 (a1 + 1)) then (if (wrap64 (a1 + 1)) ≤ (l0.length : Int) then ((some (l0.drop ((wrap64 (a1 + 1)) : Int).toNat : List (S49))).bind fun y226 => (if y223.length + y226.length < 8796093022208 then (some (y223 ++ y226)) else (none))) else (none)) else (none))) else (none)) else (if 0 ≤ (wrap64 (a1 + 1)) then (if (wrap64 (a1 + 1)) ≤ (l0.length : Int) then ((some (l0.drop ((wrap64 (a1 + 1)) : Int).toNat : List (S49))).bind fun y233 => (if y220.length + y233.length < 8796093022208 then (some (y220 ++ y233)) else (none))) else (none)) else (none))) = some r := by first | (rw [hy220]; with_reducible exact H) | (have H2_ := (Option.bind_some _ _).symm.trans H; rw [hy220]; with_reducible exact H2_) | (have H2_ := (Option.bind_some _ _).symm.trans H; with_reducible exact H2_) | with_reducible exact H | (rw [hy220]; exact H) | exact H
       have Ny220 := aM hy220
       clear hy220
       by_cases c11 : (wrap64 (a2_0 + a2_1)) < (wrap64 (((rd_T49 l0 a1).f0) + ((rd_T49 l0 a1).f1)))
       ·rw [if_pos c11] at H
        have c11b0 : decide ((wrap64 (a2_0 + a2_1)) < (wrap64 (((rd_T49 l0 a1).f0) + ((rd_T49 l0 a1).f1)))) = true := decide_eq_true c11
        clear c11
        by_cases c12 : y220.length < 8796093022208
        ·rw [if_pos c12] at H
         have LMc12 := aM c12
         clear c12
         obtain ⟨y223, hy223⟩ : ∃ y_ : List (S49), y_ = (y220 ++ [(⟨wrap64 (a2_0 + a2_1), wrap64 ((wrap64 (((rd_T49 l0 a1).f0) + ((rd_T49 l0 a1).f1))) - (wrap64 (a2_0 + a2_1)))⟩ : S49)]) := ⟨_, rfl⟩
         replace H : (if 0 ≤ (wrap64 (a1 + 1)) then (if (wrap64 (a1 + 1)) ≤ (l0.length : Int) then ((some (l0.drop ((wrap64 (a1 + 1)) : Int).toNat : List (S49))).bind fun y226 => (if y223.length + y226.length < 8796093022208 then (some (y223 ++ y226)) else (none))) else (none)) else (none)) = some r := by first | (rw [hy223]; with_reducible exact H) | (have H2_ := (Option.bind_some _ _).symm.trans H; rw [hy223]; with_reducible exact H2_) | (have H2_ := (Option.bind_some _ _).symm.trans H; with_reducible exact H2_) | with_reducible exact H | (rw [hy223]; exact H) | exact H
         have Ny223 := aM hy223
         clear hy223
         obtain ⟨ji13, hji13⟩ : ∃ j_ : Int, (wrap64 (a1 + 1)) = j_ := ⟨_, rfl⟩
         replace H : (if 0 ≤ (ji13) then (if (ji13) ≤ (l0.length : Int) then ((some (l0.drop ((ji13) : Int).toNat : List (S49))).bind fun y226 => (if y223.length + y226.length < 8796093022208 then (some (y223 ++ y226)) else (none))) else (none)) else (none)) = some r := by first | (rw [hji13] at H; exact H) | (simp only [hji13] at H ⊢; exact H)
         have hji13w : (IntKind.i64.wrap (a1 + 1)) = ji13 := (i64_w _).trans hji13
         by_cases c14 : 0 ≤ (ji13)
         ·rw [if_pos c14] at H
          have c14b0 := eq_true c14
          have c14b1 : decide (0 ≤ (ji13)) = true := decide_eq_true c14
          clear c14
          by_cases c15 : (ji13) ≤ (l0.length : Int)
          ·rw [if_pos c15] at H
           have c15b0 := eq_true c15
           have c15b1 : decide ((ji13) ≤ (l0.length : Int)) = true := decide_eq_true c15
           clear c15
           obtain ⟨y226, hy226⟩ : ∃ y_ : List (S49), y_ = (l0.drop ((ji13) : Int).toNat) := ⟨_, rfl⟩
           replace H : (if y223.length + y226.length < 8796093022208 then (some (y223 ++ y226)) else (none)) = some r := by first | (rw [hy226]; with_reducible exact H) | (have H2_ := (Option.bind_some _ _).symm.trans H; rw [hy226]; with_reducible exact H2_) | (have H2_ := (Option.bind_some _ _).symm.trans H; with_reducible exact H2_) | with_reducible exact H | (rw [hy226]; exact H) | exact H
           have Ny226 := aM hy226
           clear hy226
           by_cases c16 : y223.length + y226.length < 8796093022208
           ·rw [if_pos c16] at H
            have LMc16 := aM c16
            clear c16
            obtain ⟨y230, hy230⟩ : ∃ y_ : List (S49), y_ = (y223 ++ y226) := ⟨_, rfl⟩
            replace H : (some y230) = some r := by first | (rw [hy230]; with_reducible exact H) | (have H2_ := (Option.bind_some _ _).symm.trans H; rw [hy230]; with_reducible exact H2_) | (have H2_ := (Option.bind_some _ _).symm.trans H; with_reducible exact H2_) | with_reducible exact H | (rw [hy230]; exact H) | exact H
            have Ny230 := aM hy230
            clear hy230
            obtain rfl := Option.some.inj H
            go_enter Try.func54, Try.ntmps54
            go_wp2_with (first | ((with_reducible refine gate_dst (N := 5) rfl ?_); refine box_event ?hg (N := 5) ?hd (cs := #[.int .i64 a2_0, .int .i64 a2_1]) (t := 49) ?hr ?_; (case hd => rfl); (case hg => rfl); (case hr => first | (go_simp; done) | (go_simp; rfl)); intro gb210 hg w17 hbox hb; have BK210 := aM (hbox); have GW210 := aM ((by rw [hg]; exact (zZ (zH HB.out)) : w.heap.size ≤ gb210)); have GE210 := aM ((by rw [hg]; exact (zZ (zH HB.out)) : w.heap.size ≤ gb210)); replace HB := aM (zT (zH HB.out) hb); clear hb hbox hg; have p211 : 0 ≤ (a1 : Int) := of_decide_eq_true (by first | (with_reducible assumption) | assumption); have q211 : a1 < (l0.length : Int) := of_decide_eq_true (by first | (with_reducible assumption) | assumption); obtain ⟨ad211, e211, hx211_0, hx211_1⟩ := at_T49 HR0.out a1 p211 q211; cases e211; replace hx211_0 := (HB.out.cell (World.block_lt_of_cell? w _ hx211_0)).trans hx211_0; replace hx211_1 := (HB.out.cell (World.block_lt_of_cell? w _ hx211_1)).trans hx211_1; replace p211 := eq_true p211; replace q211 := eq_true q211) | ((with_reducible refine gate_dst (N := 7) rfl ?_); refine box_event ?hg (N := 7) ?hd (cs := #[.int .i64 0, .int .i64 0]) (t := 49) ?hr ?_; (case hd => rfl); (case hg => rfl); (case hr => first | (go_simp; done) | (go_simp; rfl)); intro gb212 hg w18 hbox hb; have BK212 := aM (hbox); have GW212 := aM ((by rw [hg]; exact (zZ (zH HB.out)) : w.heap.size ≤ gb212)); have GE212 := aM ((by rw [hg]; exact (zZ (zH HB.out)) : w.heap.size ≤ gb212)); replace HB := aM (zT (zH HB.out) hb); have NB210_212 := nL BK210.out hg; have NB212_210 := nR BK210.out hg; replace BK210 := yK BK210.out hb; clear hb hbox hg; have hnb19 := NB212_210.out; have hnc19 := NB210_212.out; have hcz20_0 : w18.cell? ⟨gb212, 0, none⟩ = some (.int .i64 0) := yc BK212.out 0; have hcz20_1 : w18.cell? ⟨gb212, 1, none⟩ = some (.int .i64 0) := yc BK212.out 1; have hfz20_0 := yZ BK212.out 0; have hfz20_1 := yZ BK212.out 1) | ((with_reducible refine gate_store (t := 49) (p := 7) rfl ?_); refine store_event (t := 49) (p := 7) (v := ?vo_w21) (w1 := ((w18.setCell ⟨gb212, 0, none⟩ (.int .i64 ((rd_T49 l0 a1).f0))).setCell ⟨gb212, 1, none⟩ (.int .i64 ((rd_T49 l0 a1).f1)))) ?hg ?ho ?hn ?hr ?_; (case ho => rfl); (case hg => rfl); (case hn => rfl); (case hr => first | (go_simp; done) | (go_simp; rfl)); intro w21 hw; replace BK210 : Aside0 (w21.heap[gb210]? = some (.cells #[.int .i64 a2_0, .int .i64 a2_1] 49 (0, 0))) := ⟨(by rw [hw]; exact (by (with_reducible repeat (first | refine yN ?_ _ | refine yD ?_ | refine yA ?_ _)); refine yF ?_ NB210_212.out _; (with_reducible repeat (first | refine yN ?_ _ | refine yD ?_ | refine yA ?_ _)); refine yF ?_ NB210_212.out _; (with_reducible repeat (first | refine yN ?_ _ | refine yD ?_ | refine yA ?_ _)); exact BK210.out))⟩; replace BK212 : Aside0 (w21.heap[gb212]? = some (.cells #[.int .i64 ((rd_T49 l0 a1).f0), .int .i64 ((rd_T49 l0 a1).f1)] 49 (0, 0))) := ⟨(by rw [hw]; exact (by (with_reducible repeat (first | refine yN ?_ _ | refine yD ?_ | refine yA ?_ _)); refine yP (cs := #[.int .i64 ((rd_T49 l0 a1).f0), .int .i64 0]) ?_ 1 _ rfl; (with_reducible repeat (first | refine yN ?_ _ | refine yD ?_ | refine yA ?_ _)); refine yP (cs := #[.int .i64 0, .int .i64 0]) ?_ 0 _ rfl; (with_reducible repeat (first | refine yN ?_ _ | refine yD ?_ | refine yA ?_ _)); exact BK212.out))⟩; replace HB : Aside0 (Below w.heap.size w w21) := ⟨(by rw [hw]; exact (zH HB.out))⟩; clear hw; have q22 : (a1 : Int) ≤ ((l0.length : Int) : Int) := of_decide_eq_true (by first | (with_reducible assumption) | assumption); obtain ⟨i022, hi022, _, hsz22, _⟩ := info_parts info49; have hroom22 : l0.length ≤ c0 := HC0.out; have hC22 : Kd.C k49 _ (some ad211) l0.length l0 := HR0.out; have hcut22 := cut_to (P := Try.prog) 22 49 .i64 Try.underlying22 hi022 (some ad211) l0.length c0 a1 (of_decide_eq_true (by first | (with_reducible assumption) | assumption)) q22 hroom22; have hr22 := Kd.C_take (m := (a1 : Int).toNat) hC22 (by omega); have hy22 : y213.length = (a1 : Int).toNat := (by rw [Ny213.out, List.length_take]; omega); rw [← Ny213.out] at hr22; rw [← hy22] at hcut22; have HR216 := aM hr22; have HC216 := aM (show y213.length ≤ c0 from by omega); clear hr22 hC22 hroom22 hi022 hsz22; have KY22 := aM hy22; clear hy22; replace q22 := eq_true q22) | ((with_reducible refine gate_builtin (b := .append) (xs := #[.tmp 14, .tmp 17]) rfl ?_); at_builtin; refine Kd.R_append_rows k49 (w0 := w) w.heap.size rfl (.tmp 14) (.tmp 17) 22 49 (.agg #[(.int .i64 0), (.int .i64 0)]) 16 rfl Try.underlying22 info49 rfl (by decide) (by omega) (.slice none 0 0) ([] : List (S49)) y213 _ _ _ (fun k_ => k_ ≠ gb210 ∧ k_ ≠ gb212) (fun _ => False) rfl rfl ?aO ?aR (fun _ _ h => h) (fun _ h => h.elim) ?aF ?aB ?aS ?aL ?_; (case aR => exact cK HR216.out HB.out); (case aB => exact (zH HB.out)); (case aF => exact (fun k_ hk => ⟨Kd.freshB (g := gb210) (o := .cells #[.int .i64 a2_0, .int .i64 a2_1] 49 (0, 0)) (yH BK210.out) k_ hk, Kd.freshB (g := gb212) (o := .cells #[.int .i64 ((rd_T49 l0 a1).f0), .int .i64 ((rd_T49 l0 a1).f1)] 49 (0, 0)) (yH BK212.out) k_ hk⟩)); (case aO => exact ((Kd.R_nil _ _ _ _ (fun k_ => k_ ≠ gb210 ∧ k_ ≠ gb212)))); (case aS => exact (zZ (zH HB.out))); (case aL => have := LMc8.out; omega); intro v218 w23 ho hb hg hat; rw [← Ny217.out] at ho; replace BK210 := aM (blk_grown (g := gb210) (o := .cells #[.int .i64 a2_0, .int .i64 a2_1] 49 (0, 0)) (yH BK210.out) hg (by simp [Value.ownBlock])); replace BK212 := aM (blk_grown (g := gb212) (o := .cells #[.int .i64 ((rd_T49 l0 a1).f0), .int .i64 ((rd_T49 l0 a1).f1)] 49 (0, 0)) (yH BK212.out) hg (by simp [Value.ownBlock])); replace HB := aM (hb); have HO219 := aM (ho); clear ho hb hg hat; have hcz24_0 : w23.cell? ⟨gb210, 0, none⟩ = some (.int .i64 a2_0) := yc BK210.out 0; have hcz24_1 : w23.cell? ⟨gb210, 1, none⟩ = some (.int .i64 a2_1) := yc BK210.out 1; have hfz24_0 := yZ BK210.out 0; have hfz24_1 := yZ BK210.out 1; have hcz25_0 : w23.cell? ⟨gb212, 0, none⟩ = some (.int .i64 ((rd_T49 l0 a1).f0)) := yc BK212.out 0; have hcz25_1 : w23.cell? ⟨gb212, 1, none⟩ = some (.int .i64 ((rd_T49 l0 a1).f1)) := yc BK212.out 1; have hfz25_0 := yZ BK212.out 0; have hfz25_1 := yZ BK212.out 1) | ((with_reducible refine gate_builtin (b := .append) (xs := #[.tmp 24, .tmp 33]) rfl ?_); at_builtin; refine Kd.R_append k49 (w0 := w) w.heap.size rfl (.tmp 24) (.tmp 33) 22 49 (.agg #[(.int .i64 0), (.int .i64 0)]) 16 rfl Try.underlying22 info49 rfl (by decide) (by omega) v218 y217 (⟨(rd_T49 l0 a1).f0, wrap64 (a2_0 - ((rd_T49 l0 a1).f0))⟩ : S49) [.int .i64 ((rd_T49 l0 a1).f0), .int .i64 (wrap64 (a2_0 - ((rd_T49 l0 a1).f0)))] (fun k_ => k_ ≠ gb210 ∧ k_ ≠ gb212) (fun _ => False) rfl rfl ?aP (fun _ hk => hk.elim) ?aF ?aO ?aB ?aS ?aL ?_; (case aP => exact k49_mkM _ _ _ (⟨(rd_T49 l0 a1).f0, wrap64 (a2_0 - ((rd_T49 l0 a1).f0))⟩ : S49)); (case aB => exact (zH HB.out)); (case aF => exact (fun k_ hk => ⟨Kd.freshB (g := gb210) (o := .cells #[.int .i64 a2_0, .int .i64 a2_1] 49 (0, 0)) (yH BK210.out) k_ hk, Kd.freshB (g := gb212) (o := .cells #[.int .i64 ((rd_T49 l0 a1).f0), .int .i64 ((rd_T49 l0 a1).f1)] 49 (0, 0)) (yH BK212.out) k_ hk⟩)); (case aO => exact (xH HO219.out)); (case aS => exact (zZ (zH HB.out))); (case aL => have := LMc10.out; omega); intro v221 w26 ho hb hg hat; rw [← Ny220.out] at ho; replace BK210 := aM (blk_grown (g := gb210) (o := .cells #[.int .i64 a2_0, .int .i64 a2_1] 49 (0, 0)) (yH BK210.out) hg (Kd.R_away HO219.out (fun _ hk => hk.1))); replace BK212 := aM (blk_grown (g := gb212) (o := .cells #[.int .i64 ((rd_T49 l0 a1).f0), .int .i64 ((rd_T49 l0 a1).f1)] 49 (0, 0)) (yH BK212.out) hg (Kd.R_away HO219.out (fun _ hk => hk.2))); replace HB := aM (hb); have HO222 := aM (ho); clear HO219; clear ho hb hg hat; have hcz27_0 : w26.cell? ⟨gb210, 0, none⟩ = some (.int .i64 a2_0) := yc BK210.out 0; have hcz27_1 : w26.cell? ⟨gb210, 1, none⟩ = some (.int .i64 a2_1) := yc BK210.out 1; have hfz27_0 := yZ BK210.out 0; have hfz27_1 := yZ BK210.out 1; have hcz28_0 : w26.cell? ⟨gb212, 0, none⟩ = some (.int .i64 ((rd_T49 l0 a1).f0)) := yc BK212.out 0; have hcz28_1 : w26.cell? ⟨gb212, 1, none⟩ = some (.int .i64 ((rd_T49 l0 a1).f1)) := yc BK212.out 1; have hfz28_0 := yZ BK212.out 0; have hfz28_1 := yZ BK212.out 1) | ((with_reducible refine gate_builtin (b := .append) (xs := #[.tmp 47, .tmp 57]) rfl ?_); at_builtin; refine Kd.R_append k49 (w0 := w) w.heap.size rfl (.tmp 47) (.tmp 57) 22 49 (.agg #[(.int .i64 0), (.int .i64 0)]) 16 rfl Try.underlying22 info49 rfl (by decide) (by omega) v221 y220 (⟨wrap64 (a2_0 + a2_1), wrap64 ((wrap64 (((rd_T49 l0 a1).f0) + ((rd_T49 l0 a1).f1))) - (wrap64 (a2_0 + a2_1)))⟩ : S49) [.int .i64 (wrap64 (a2_0 + a2_1)), .int .i64 (wrap64 ((wrap64 (((rd_T49 l0 a1).f0) + ((rd_T49 l0 a1).f1))) - (wrap64 (a2_0 + a2_1))))] (fun k_ => k_ ≠ gb210 ∧ k_ ≠ gb212) (fun _ => False) rfl rfl ?aP (fun _ hk => hk.elim) ?aF ?aO ?aB ?aS ?aL ?_; (case aP => exact k49_mkM _ _ _ (⟨wrap64 (a2_0 + a2_1), wrap64 ((wrap64 (((rd_T49 l0 a1).f0) + ((rd_T49 l0 a1).f1))) - (wrap64 (a2_0 + a2_1)))⟩ : S49)); (case aB => exact (zH HB.out)); (case aF => exact (fun k_ hk => ⟨Kd.freshB (g := gb210) (o := .cells #[.int .i64 a2_0, .int .i64 a2_1] 49 (0, 0)) (yH BK210.out) k_ hk, Kd.freshB (g := gb212) (o := .cells #[.int .i64 ((rd_T49 l0 a1).f0), .int .i64 ((rd_T49 l0 a1).f1)] 49 (0, 0)) (yH BK212.out) k_ hk⟩)); (case aO => exact (xH HO222.out)); (case aS => exact (zZ (zH HB.out))); (case aL => have := LMc12.out; omega); intro v224 w29 ho hb hg hat; rw [← Ny223.out] at ho; replace BK210 := aM (blk_grown (g := gb210) (o := .cells #[.int .i64 a2_0, .int .i64 a2_1] 49 (0, 0)) (yH BK210.out) hg (Kd.R_away HO222.out (fun _ hk => hk.1))); replace BK212 := aM (blk_grown (g := gb212) (o := .cells #[.int .i64 ((rd_T49 l0 a1).f0), .int .i64 ((rd_T49 l0 a1).f1)] 49 (0, 0)) (yH BK212.out) hg (Kd.R_away HO222.out (fun _ hk => hk.2))); replace HB := aM (hb); have HO225 := aM (ho); clear HO222; clear ho hb hg hat; have q30 : ((ji13) : Int) ≤ ((l0.length : Int) : Int) := of_decide_eq_true (by first | (with_reducible assumption) | assumption); obtain ⟨i030, hi030, _, hsz30, _⟩ := info_parts info49; have hroom30 : l0.length ≤ c0 := HC0.out; have hC30 : Kd.C k49 _ (some ad211) l0.length l0 := HR0.out; have q030 : (0 : Int) ≤ ((ji13) : Int) := of_decide_eq_true (by first | (with_reducible assumption) | assumption); have hcut30 := cut_from (P := Try.prog) 22 49 .i64 Try.underlying22 hi030 2 hsz30 (some ad211) l0.length c0 (ji13) q030 q30; have hr30 := Kd.C_drop (m := ((ji13) : Int).toNat) (c := c0) hC30 (by omega) hroom30; obtain ⟨A30, hA30⟩ : ∃ A1, A1 = (if c0 = ((ji13) : Int).toNat then (some ad211) else ((some ad211) : Option Addr).map (·.add (((ji13) : Int).toNat * 2))) := ⟨_, rfl⟩; obtain ⟨c30, hc30⟩ : ∃ c1, c1 = c0 - ((ji13) : Int).toNat := ⟨_, rfl⟩; have hy30 : y226.length = l0.length - ((ji13) : Int).toNat := (by rw [Ny226.out, List.length_drop] <;> omega); rw [show (l0).drop ((ji13) : Int).toNat = y226 from Ny226.out.symm] at hr30; replace hr30 : Kd.C k49 _ A30 y226.length y226 := (by rw [hA30]; exact hr30); rw [← hy30, ← hA30, ← hc30] at hcut30; have HR229 := aM hr30; have HC229 := aM (show y226.length ≤ c30 from by rw [hy30, hc30]; exact Nat.sub_le_sub_right hroom30 _); clear hr30 hC30 hroom30 hi030 hsz30 hc30; have KY30 := aM hy30; have KA30 := aM hA30; clear hy30 hA30; replace q30 := eq_true q30) | ((with_reducible refine gate_builtin (b := .append) (xs := #[.tmp 59, .tmp 63]) rfl ?_); at_builtin; refine Kd.R_append_rows k49 (w0 := w) w.heap.size rfl (.tmp 59) (.tmp 63) 22 49 (.agg #[(.int .i64 0), (.int .i64 0)]) 16 rfl Try.underlying22 info49 rfl (by decide) (by omega) v224 y223 y226 _ _ _ (fun k_ => k_ ≠ gb210 ∧ k_ ≠ gb212) (fun _ => False) rfl rfl ?aO ?aR (fun _ _ h => h) (fun _ h => h.elim) ?aF ?aB ?aS ?aL ?_; (case aR => exact cK HR229.out HB.out); (case aB => exact (zH HB.out)); (case aF => exact (fun k_ hk => ⟨Kd.freshB (g := gb210) (o := .cells #[.int .i64 a2_0, .int .i64 a2_1] 49 (0, 0)) (yH BK210.out) k_ hk, Kd.freshB (g := gb212) (o := .cells #[.int .i64 ((rd_T49 l0 a1).f0), .int .i64 ((rd_T49 l0 a1).f1)] 49 (0, 0)) (yH BK212.out) k_ hk⟩)); (case aO => exact (xH HO225.out)); (case aS => exact (zZ (zH HB.out))); (case aL => have := LMc16.out; omega); intro v231 w31 ho hb hg hat; rw [← Ny230.out] at ho; replace BK210 := aM (blk_grown (g := gb210) (o := .cells #[.int .i64 a2_0, .int .i64 a2_1] 49 (0, 0)) (yH BK210.out) hg (Kd.R_away HO225.out (fun _ hk => hk.1))); replace BK212 := aM (blk_grown (g := gb212) (o := .cells #[.int .i64 ((rd_T49 l0 a1).f0), .int .i64 ((rd_T49 l0 a1).f1)] 49 (0, 0)) (yH BK212.out) hg (Kd.R_away HO225.out (fun _ hk => hk.2))); replace HB := aM (hb); have HO232 := aM (ho); clear HO225; clear ho hb hg hat))
            go_ret
            exact ⟨_, by first | rfl | (simp [errW_none, errW_some] <;> rfl) | (simp only [← hji13]; first | rfl | (simp [errW_none, errW_some] <;> rfl)) | (simp [*, errW_none, errW_some] <;> rfl), xH (xM HO232.out (fun _ hk => trivial)), zH HB.out⟩
           ·rw [if_neg c16] at H
            exact absurd H (by simp)
          ·rw [if_neg c15] at H
           exact absurd H (by simp)
         ·rw [if_neg c14] at H
          exact absurd H (by simp)
        ·rw [if_neg c12] at H
         exact absurd H (by simp)
       ·rw [if_neg c11] at H
        have c11b0 : decide ((wrap64 (a2_0 + a2_1)) < (wrap64 (((rd_T49 l0 a1).f0) + ((rd_T49 l0 a1).f1)))) = false := decide_eq_false c11
        clear c11
        obtain ⟨ji32, hji32⟩ : ∃ j_ : Int, (wrap64 (a1 + 1)) = j_ := ⟨_, rfl⟩
        replace H : (if 0 ≤ (ji32) then (if (ji32) ≤ (l0.length : Int) then ((some (l0.drop ((ji32) : Int).toNat : List (S49))).bind fun y233 => (if y220.length + y233.length < 8796093022208 then (some (y220 ++ y233)) else (none))) else (none)) else (none)) = some r := by first | (rw [hji32] at H; exact H) | (simp only [hji32] at H ⊢; exact H)
        have hji32w : (IntKind.i64.wrap (a1 + 1)) = ji32 := (i64_w _).trans hji32
        by_cases c33 : 0 ≤ (ji32)
        ·rw [if_pos c33] at H
         have c33b0 := eq_true c33
         have c33b1 : decide (0 ≤ (ji32)) = true := decide_eq_true c33
         clear c33
         by_cases c34 : (ji32) ≤ (l0.length : Int)
         ·rw [if_pos c34] at H
          have c34b0 := eq_true c34
          have c34b1 : decide ((ji32) ≤ (l0.length : Int)) = true := decide_eq_true c34
          clear c34
          obtain ⟨y233, hy233⟩ : ∃ y_ : List (S49), y_ = (l0.drop ((ji32) : Int).toNat) := ⟨_, rfl⟩
          replace H : (if y220.length + y233.length < 8796093022208 then (some (y220 ++ y233)) else (none)) = some r := by first | (rw [hy233]; with_reducible exact H) | (have H2_ := (Option.bind_some _ _).symm.trans H; rw [hy233]; with_reducible exact H2_) | (have H2_ := (Option.bind_some _ _).symm.trans H; with_reducible exact H2_) | with_reducible exact H | (rw [hy233]; exact H) | exact H
          have Ny233 := aM hy233
          clear hy233
          by_cases c35 : y220.length + y233.length < 8796093022208
          ·rw [if_pos c35] at H
           have LMc35 := aM c35
           clear c35
           obtain ⟨y237, hy237⟩ : ∃ y_ : List (S49), y_ = (y220 ++ y233) := ⟨_, rfl⟩
           replace H : (some y237) = some r := by first | (rw [hy237]; with_reducible exact H) | (have H2_ := (Option.bind_some _ _).symm.trans H; rw [hy237]; with_reducible exact H2_) | (have H2_ := (Option.bind_some _ _).symm.trans H; with_reducible exact H2_) | with_reducible exact H | (rw [hy237]; exact H) | exact H
           have Ny237 := aM hy237
           clear hy237
           obtain rfl := Option.some.inj H
           go_enter Try.func54, Try.ntmps54
           go_wp2_with (first | ((with_reducible refine gate_dst (N := 5) rfl ?_); refine box_event ?hg (N := 5) ?hd (cs := #[.int .i64 a2_0, .int .i64 a2_1]) (t := 49) ?hr ?_; (case hd => rfl); (case hg => rfl); (case hr => first | (go_simp; done) | (go_simp; rfl)); intro gb210 hg w36 hbox hb; have BK210 := aM (hbox); have GW210 := aM ((by rw [hg]; exact (zZ (zH HB.out)) : w.heap.size ≤ gb210)); have GE210 := aM ((by rw [hg]; exact (zZ (zH HB.out)) : w.heap.size ≤ gb210)); replace HB := aM (zT (zH HB.out) hb); clear hb hbox hg; have p211 : 0 ≤ (a1 : Int) := of_decide_eq_true (by first | (with_reducible assumption) | assumption); have q211 : a1 < (l0.length : Int) := of_decide_eq_true (by first | (with_reducible assumption) | assumption); obtain ⟨ad211, e211, hx211_0, hx211_1⟩ := at_T49 HR0.out a1 p211 q211; cases e211; replace hx211_0 := (HB.out.cell (World.block_lt_of_cell? w _ hx211_0)).trans hx211_0; replace hx211_1 := (HB.out.cell (World.block_lt_of_cell? w _ hx211_1)).trans hx211_1; replace p211 := eq_true p211; replace q211 := eq_true q211) | ((with_reducible refine gate_dst (N := 7) rfl ?_); refine box_event ?hg (N := 7) ?hd (cs := #[.int .i64 0, .int .i64 0]) (t := 49) ?hr ?_; (case hd => rfl); (case hg => rfl); (case hr => first | (go_simp; done) | (go_simp; rfl)); intro gb212 hg w37 hbox hb; have BK212 := aM (hbox); have GW212 := aM ((by rw [hg]; exact (zZ (zH HB.out)) : w.heap.size ≤ gb212)); have GE212 := aM ((by rw [hg]; exact (zZ (zH HB.out)) : w.heap.size ≤ gb212)); replace HB := aM (zT (zH HB.out) hb); have NB210_212 := nL BK210.out hg; have NB212_210 := nR BK210.out hg; replace BK210 := yK BK210.out hb; clear hb hbox hg; have hnb38 := NB212_210.out; have hnc38 := NB210_212.out; have hcz39_0 : w37.cell? ⟨gb212, 0, none⟩ = some (.int .i64 0) := yc BK212.out 0; have hcz39_1 : w37.cell? ⟨gb212, 1, none⟩ = some (.int .i64 0) := yc BK212.out 1; have hfz39_0 := yZ BK212.out 0; have hfz39_1 := yZ BK212.out 1) | ((with_reducible refine gate_store (t := 49) (p := 7) rfl ?_); refine store_event (t := 49) (p := 7) (v := ?vo_w40) (w1 := ((w37.setCell ⟨gb212, 0, none⟩ (.int .i64 ((rd_T49 l0 a1).f0))).setCell ⟨gb212, 1, none⟩ (.int .i64 ((rd_T49 l0 a1).f1)))) ?hg ?ho ?hn ?hr ?_; (case ho => rfl); (case hg => rfl); (case hn => rfl); (case hr => first | (go_simp; done) | (go_simp; rfl)); intro w40 hw; replace BK210 : Aside0 (w40.heap[gb210]? = some (.cells #[.int .i64 a2_0, .int .i64 a2_1] 49 (0, 0))) := ⟨(by rw [hw]; exact (by (with_reducible repeat (first | refine yN ?_ _ | refine yD ?_ | refine yA ?_ _)); refine yF ?_ NB210_212.out _; (with_reducible repeat (first | refine yN ?_ _ | refine yD ?_ | refine yA ?_ _)); refine yF ?_ NB210_212.out _; (with_reducible repeat (first | refine yN ?_ _ | refine yD ?_ | refine yA ?_ _)); exact BK210.out))⟩; replace BK212 : Aside0 (w40.heap[gb212]? = some (.cells #[.int .i64 ((rd_T49 l0 a1).f0), .int .i64 ((rd_T49 l0 a1).f1)] 49 (0, 0))) := ⟨(by rw [hw]; exact (by (with_reducible repeat (first | refine yN ?_ _ | refine yD ?_ | refine yA ?_ _)); refine yP (cs := #[.int .i64 ((rd_T49 l0 a1).f0), .int .i64 0]) ?_ 1 _ rfl; (with_reducible repeat (first | refine yN ?_ _ | refine yD ?_ | refine yA ?_ _)); refine yP (cs := #[.int .i64 0, .int .i64 0]) ?_ 0 _ rfl; (with_reducible repeat (first | refine yN ?_ _ | refine yD ?_ | refine yA ?_ _)); exact BK212.out))⟩; replace HB : Aside0 (Below w.heap.size w w40) := ⟨(by rw [hw]; exact (zH HB.out))⟩; clear hw; have q41 : (a1 : Int) ≤ ((l0.length : Int) : Int) := of_decide_eq_true (by first | (with_reducible assumption) | assumption); obtain ⟨i041, hi041, _, hsz41, _⟩ := info_parts info49; have hroom41 : l0.length ≤ c0 := HC0.out; have hC41 : Kd.C k49 _ (some ad211) l0.length l0 := HR0.out; have hcut41 := cut_to (P := Try.prog) 22 49 .i64 Try.underlying22 hi041 (some ad211) l0.length c0 a1 (of_decide_eq_true (by first | (with_reducible assumption) | assumption)) q41 hroom41; have hr41 := Kd.C_take (m := (a1 : Int).toNat) hC41 (by omega); have hy41 : y213.length = (a1 : Int).toNat := (by rw [Ny213.out, List.length_take]; omega); rw [← Ny213.out] at hr41; rw [← hy41] at hcut41; have HR216 := aM hr41; have HC216 := aM (show y213.length ≤ c0 from by omega); clear hr41 hC41 hroom41 hi041 hsz41; have KY41 := aM hy41; clear hy41; replace q41 := eq_true q41) | ((with_reducible refine gate_builtin (b := .append) (xs := #[.tmp 14, .tmp 17]) rfl ?_); at_builtin; refine Kd.R_append_rows k49 (w0 := w) w.heap.size rfl (.tmp 14) (.tmp 17) 22 49 (.agg #[(.int .i64 0), (.int .i64 0)]) 16 rfl Try.underlying22 info49 rfl (by decide) (by omega) (.slice none 0 0) ([] : List (S49)) y213 _ _ _ (fun k_ => k_ ≠ gb210 ∧ k_ ≠ gb212) (fun _ => False) rfl rfl ?aO ?aR (fun _ _ h => h) (fun _ h => h.elim) ?aF ?aB ?aS ?aL ?_; (case aR => exact cK HR216.out HB.out); (case aB => exact (zH HB.out)); (case aF => exact (fun k_ hk => ⟨Kd.freshB (g := gb210) (o := .cells #[.int .i64 a2_0, .int .i64 a2_1] 49 (0, 0)) (yH BK210.out) k_ hk, Kd.freshB (g := gb212) (o := .cells #[.int .i64 ((rd_T49 l0 a1).f0), .int .i64 ((rd_T49 l0 a1).f1)] 49 (0, 0)) (yH BK212.out) k_ hk⟩)); (case aO => exact ((Kd.R_nil _ _ _ _ (fun k_ => k_ ≠ gb210 ∧ k_ ≠ gb212)))); (case aS => exact (zZ (zH HB.out))); (case aL => have := LMc8.out; omega); intro v218 w42 ho hb hg hat; rw [← Ny217.out] at ho; replace BK210 := aM (blk_grown (g := gb210) (o := .cells #[.int .i64 a2_0, .int .i64 a2_1] 49 (0, 0)) (yH BK210.out) hg (by simp [Value.ownBlock])); replace BK212 := aM (blk_grown (g := gb212) (o := .cells #[.int .i64 ((rd_T49 l0 a1).f0), .int .i64 ((rd_T49 l0 a1).f1)] 49 (0, 0)) (yH BK212.out) hg (by simp [Value.ownBlock])); replace HB := aM (hb); have HO219 := aM (ho); clear ho hb hg hat; have hcz43_0 : w42.cell? ⟨gb210, 0, none⟩ = some (.int .i64 a2_0) := yc BK210.out 0; have hcz43_1 : w42.cell? ⟨gb210, 1, none⟩ = some (.int .i64 a2_1) := yc BK210.out 1; have hfz43_0 := yZ BK210.out 0; have hfz43_1 := yZ BK210.out 1; have hcz44_0 : w42.cell? ⟨gb212, 0, none⟩ = some (.int .i64 ((rd_T49 l0 a1).f0)) := yc BK212.out 0; have hcz44_1 : w42.cell? ⟨gb212, 1, none⟩ = some (.int .i64 ((rd_T49 l0 a1).f1)) := yc BK212.out 1; have hfz44_0 := yZ BK212.out 0; have hfz44_1 := yZ BK212.out 1) | ((with_reducible refine gate_builtin (b := .append) (xs := #[.tmp 24, .tmp 33]) rfl ?_); at_builtin; refine Kd.R_append k49 (w0 := w) w.heap.size rfl (.tmp 24) (.tmp 33) 22 49 (.agg #[(.int .i64 0), (.int .i64 0)]) 16 rfl Try.underlying22 info49 rfl (by decide) (by omega) v218 y217 (⟨(rd_T49 l0 a1).f0, wrap64 (a2_0 - ((rd_T49 l0 a1).f0))⟩ : S49) [.int .i64 ((rd_T49 l0 a1).f0), .int .i64 (wrap64 (a2_0 - ((rd_T49 l0 a1).f0)))] (fun k_ => k_ ≠ gb210 ∧ k_ ≠ gb212) (fun _ => False) rfl rfl ?aP (fun _ hk => hk.elim) ?aF ?aO ?aB ?aS ?aL ?_; (case aP => exact k49_mkM _ _ _ (⟨(rd_T49 l0 a1).f0, wrap64 (a2_0 - ((rd_T49 l0 a1).f0))⟩ : S49)); (case aB => exact (zH HB.out)); (case aF => exact (fun k_ hk => ⟨Kd.freshB (g := gb210) (o := .cells #[.int .i64 a2_0, .int .i64 a2_1] 49 (0, 0)) (yH BK210.out) k_ hk, Kd.freshB (g := gb212) (o := .cells #[.int .i64 ((rd_T49 l0 a1).f0), .int .i64 ((rd_T49 l0 a1).f1)] 49 (0, 0)) (yH BK212.out) k_ hk⟩)); (case aO => exact (xH HO219.out)); (case aS => exact (zZ (zH HB.out))); (case aL => have := LMc10.out; omega); intro v221 w45 ho hb hg hat; rw [← Ny220.out] at ho; replace BK210 := aM (blk_grown (g := gb210) (o := .cells #[.int .i64 a2_0, .int .i64 a2_1] 49 (0, 0)) (yH BK210.out) hg (Kd.R_away HO219.out (fun _ hk => hk.1))); replace BK212 := aM (blk_grown (g := gb212) (o := .cells #[.int .i64 ((rd_T49 l0 a1).f0), .int .i64 ((rd_T49 l0 a1).f1)] 49 (0, 0)) (yH BK212.out) hg (Kd.R_away HO219.out (fun _ hk => hk.2))); replace HB := aM (hb); have HO222 := aM (ho); clear HO219; clear ho hb hg hat; have hcz46_0 : w45.cell? ⟨gb210, 0, none⟩ = some (.int .i64 a2_0) := yc BK210.out 0; have hcz46_1 : w45.cell? ⟨gb210, 1, none⟩ = some (.int .i64 a2_1) := yc BK210.out 1; have hfz46_0 := yZ BK210.out 0; have hfz46_1 := yZ BK210.out 1; have hcz47_0 : w45.cell? ⟨gb212, 0, none⟩ = some (.int .i64 ((rd_T49 l0 a1).f0)) := yc BK212.out 0; have hcz47_1 : w45.cell? ⟨gb212, 1, none⟩ = some (.int .i64 ((rd_T49 l0 a1).f1)) := yc BK212.out 1; have hfz47_0 := yZ BK212.out 0; have hfz47_1 := yZ BK212.out 1; have q48 : ((ji32) : Int) ≤ ((l0.length : Int) : Int) := of_decide_eq_true (by first | (with_reducible assumption) | assumption); obtain ⟨i048, hi048, _, hsz48, _⟩ := info_parts info49; have hroom48 : l0.length ≤ c0 := HC0.out; have hC48 : Kd.C k49 _ (some ad211) l0.length l0 := HR0.out; have q048 : (0 : Int) ≤ ((ji32) : Int) := of_decide_eq_true (by first | (with_reducible assumption) | assumption); have hcut48 := cut_from (P := Try.prog) 22 49 .i64 Try.underlying22 hi048 2 hsz48 (some ad211) l0.length c0 (ji32) q048 q48; have hr48 := Kd.C_drop (m := ((ji32) : Int).toNat) (c := c0) hC48 (by omega) hroom48; obtain ⟨A48, hA48⟩ : ∃ A1, A1 = (if c0 = ((ji32) : Int).toNat then (some ad211) else ((some ad211) : Option Addr).map (·.add (((ji32) : Int).toNat * 2))) := ⟨_, rfl⟩; obtain ⟨c48, hc48⟩ : ∃ c1, c1 = c0 - ((ji32) : Int).toNat := ⟨_, rfl⟩; have hy48 : y233.length = l0.length - ((ji32) : Int).toNat := (by rw [Ny233.out, List.length_drop] <;> omega); rw [show (l0).drop ((ji32) : Int).toNat = y233 from Ny233.out.symm] at hr48; replace hr48 : Kd.C k49 _ A48 y233.length y233 := (by rw [hA48]; exact hr48); rw [← hy48, ← hA48, ← hc48] at hcut48; have HR236 := aM hr48; have HC236 := aM (show y233.length ≤ c48 from by rw [hy48, hc48]; exact Nat.sub_le_sub_right hroom48 _); clear hr48 hC48 hroom48 hi048 hsz48 hc48; have KY48 := aM hy48; have KA48 := aM hA48; clear hy48 hA48; replace q48 := eq_true q48) | ((with_reducible refine gate_builtin (b := .append) (xs := #[.tmp 59, .tmp 63]) rfl ?_); at_builtin; refine Kd.R_append_rows k49 (w0 := w) w.heap.size rfl (.tmp 59) (.tmp 63) 22 49 (.agg #[(.int .i64 0), (.int .i64 0)]) 16 rfl Try.underlying22 info49 rfl (by decide) (by omega) v221 y220 y233 _ _ _ (fun k_ => k_ ≠ gb210 ∧ k_ ≠ gb212) (fun _ => False) rfl rfl ?aO ?aR (fun _ _ h => h) (fun _ h => h.elim) ?aF ?aB ?aS ?aL ?_; (case aR => exact cK HR236.out HB.out); (case aB => exact (zH HB.out)); (case aF => exact (fun k_ hk => ⟨Kd.freshB (g := gb210) (o := .cells #[.int .i64 a2_0, .int .i64 a2_1] 49 (0, 0)) (yH BK210.out) k_ hk, Kd.freshB (g := gb212) (o := .cells #[.int .i64 ((rd_T49 l0 a1).f0), .int .i64 ((rd_T49 l0 a1).f1)] 49 (0, 0)) (yH BK212.out) k_ hk⟩)); (case aO => exact (xH HO222.out)); (case aS => exact (zZ (zH HB.out))); (case aL => have := LMc35.out; omega); intro v238 w49 ho hb hg hat; rw [← Ny237.out] at ho; replace BK210 := aM (blk_grown (g := gb210) (o := .cells #[.int .i64 a2_0, .int .i64 a2_1] 49 (0, 0)) (yH BK210.out) hg (Kd.R_away HO222.out (fun _ hk => hk.1))); replace BK212 := aM (blk_grown (g := gb212) (o := .cells #[.int .i64 ((rd_T49 l0 a1).f0), .int .i64 ((rd_T49 l0 a1).f1)] 49 (0, 0)) (yH BK212.out) hg (Kd.R_away HO222.out (fun _ hk => hk.2))); replace HB := aM (hb); have HO239 := aM (ho); clear HO222; clear ho hb hg hat))
           go_ret
           exact ⟨_, by first | rfl | (simp [errW_none, errW_some] <;> rfl) | (simp only [← hji32]; first | rfl | (simp [errW_none, errW_some] <;> rfl)) | (simp [*, errW_none, errW_some] <;> rfl), xH (xM HO239.out (fun _ hk => trivial)), zH HB.out⟩
          ·rw [if_neg c35] at H
           exact absurd H (by simp)
         ·rw [if_neg c34] at H
          exact absurd H (by simp)
        ·rw [if_neg c33] at H
         exact absurd H (by simp)
      ·rw [if_neg c10] at H
       exact absurd H (by simp)
     ·rw [if_neg c9] at H
      have c9b0 : decide (((rd_T49 l0 a1).f0) < a2_0) = false := decide_eq_false c9
      clear c9
      by_cases c50 : (wrap64 (a2_0 + a2_1)) < (wrap64 (((rd_T49 l0 a1).f0) + ((rd_T49 l0 a1).f1)))
      ·rw [if_pos c50] at H
       have c50b0 : decide ((wrap64 (a2_0 + a2_1)) < (wrap64 (((rd_T49 l0 a1).f0) + ((rd_T49 l0 a1).f1)))) = true := decide_eq_true c50
       clear c50
       by_cases c51 : y217.length < 8796093022208
       ·rw [if_pos c51] at H
        have LMc51 := aM c51
        clear c51
        obtain ⟨y240, hy240⟩ : ∃ y_ : List (S49), y_ = (y217 ++ [(⟨wrap64 (a2_0 + a2_1), wrap64 ((wrap64 (((rd_T49 l0 a1).f0) + ((rd_T49 l0 a1).f1))) - (wrap64 (a2_0 + a2_1)))⟩ : S49)]) := ⟨_, rfl⟩
        replace H : (if 0 ≤ (wrap64 (a1 + 1)) then (if (wrap64 (a1 + 1)) ≤ (l0.length : Int) then ((some (l0.drop ((wrap64 (a1 + 1)) : Int).toNat : List (S49))).bind fun y243 => (if y240.length + y243.length < 8796093022208 then (some (y240 ++ y243)) else (none))) else (none)) else (none)) = some r := by first | (rw [hy240]; with_reducible exact H) | (have H2_ := (Option.bind_some _ _).symm.trans H; rw [hy240]; with_reducible exact H2_) | (have H2_ := (Option.bind_some _ _).symm.trans H; with_reducible exact H2_) | with_reducible exact H | (rw [hy240]; exact H) | exact H
        have Ny240 := aM hy240
        clear hy240
        obtain ⟨ji52, hji52⟩ : ∃ j_ : Int, (wrap64 (a1 + 1)) = j_ := ⟨_, rfl⟩
        replace H : (if 0 ≤ (ji52) then (if (ji52) ≤ (l0.length : Int) then ((some (l0.drop ((ji52) : Int).toNat : List (S49))).bind fun y243 => (if y240.length + y243.length < 8796093022208 then (some (y240 ++ y243)) else (none))) else (none)) else (none)) = some r := by first | (rw [hji52] at H; exact H) | (simp only [hji52] at H ⊢; exact H)
        have hji52w : (IntKind.i64.wrap (a1 + 1)) = ji52 := (i64_w _).trans hji52
        by_cases c53 : 0 ≤ (ji52)
        ·rw [if_pos c53] at H
         have c53b0 := eq_true c53
         have c53b1 : decide (0 ≤ (ji52)) = true := decide_eq_true c53
         clear c53
         by_cases c54 : (ji52) ≤ (l0.length : Int)
         ·rw [if_pos c54] at H
          have c54b0 := eq_true c54
          have c54b1 : decide ((ji52) ≤ (l0.length : Int)) = true := decide_eq_true c54
          clear c54
          obtain ⟨y243, hy243⟩ : ∃ y_ : List (S49), y_ = (l0.drop ((ji52) : Int).toNat) := ⟨_, rfl⟩
          replace H : (if y240.length + y243.length < 8796093022208 then (some (y240 ++ y243)) else (none)) = some r := by first | (rw [hy243]; with_reducible exact H) | (have H2_ := (Option.bind_some _ _).symm.trans H; rw [hy243]; with_reducible exact H2_) | (have H2_ := (Option.bind_some _ _).symm.trans H; with_reducible exact H2_) | with_reducible exact H | (rw [hy243]; exact H) | exact H
          have Ny243 := aM hy243
          clear hy243
          by_cases c55 : y240.length + y243.length < 8796093022208
          ·rw [if_pos c55] at H
           have LMc55 := aM c55
           clear c55
           obtain ⟨y247, hy247⟩ : ∃ y_ : List (S49), y_ = (y240 ++ y243) := ⟨_, rfl⟩
           replace H : (some y247) = some r := by first | (rw [hy247]; with_reducible exact H) | (have H2_ := (Option.bind_some _ _).symm.trans H; rw [hy247]; with_reducible exact H2_) | (have H2_ := (Option.bind_some _ _).symm.trans H; with_reducible exact H2_) | with_reducible exact H | (rw [hy247]; exact H) | exact H
           have Ny247 := aM hy247
           clear hy247
           obtain rfl := Option.some.inj H
           go_enter Try.func54, Try.ntmps54
           go_wp2_with (first | ((with_reducible refine gate_dst (N := 5) rfl ?_); refine box_event ?hg (N := 5) ?hd (cs := #[.int .i64 a2_0, .int .i64 a2_1]) (t := 49) ?hr ?_; (case hd => rfl); (case hg => rfl); (case hr => first | (go_simp; done) | (go_simp; rfl)); intro gb210 hg w56 hbox hb; have BK210 := aM (hbox); have GW210 := aM ((by rw [hg]; exact (zZ (zH HB.out)) : w.heap.size ≤ gb210)); have GE210 := aM ((by rw [hg]; exact (zZ (zH HB.out)) : w.heap.size ≤ gb210)); replace HB := aM (zT (zH HB.out) hb); clear hb hbox hg; have p211 : 0 ≤ (a1 : Int) := of_decide_eq_true (by first | (with_reducible assumption) | assumption); have q211 : a1 < (l0.length : Int) := of_decide_eq_true (by first | (with_reducible assumption) | assumption); obtain ⟨ad211, e211, hx211_0, hx211_1⟩ := at_T49 HR0.out a1 p211 q211; cases e211; replace hx211_0 := (HB.out.cell (World.block_lt_of_cell? w _ hx211_0)).trans hx211_0; replace hx211_1 := (HB.out.cell (World.block_lt_of_cell? w _ hx211_1)).trans hx211_1; replace p211 := eq_true p211; replace q211 := eq_true q211) | ((with_reducible refine gate_dst (N := 7) rfl ?_); refine box_event ?hg (N := 7) ?hd (cs := #[.int .i64 0, .int .i64 0]) (t := 49) ?hr ?_; (case hd => rfl); (case hg => rfl); (case hr => first | (go_simp; done) | (go_simp; rfl)); intro gb212 hg w57 hbox hb; have BK212 := aM (hbox); have GW212 := aM ((by rw [hg]; exact (zZ (zH HB.out)) : w.heap.size ≤ gb212)); have GE212 := aM ((by rw [hg]; exact (zZ (zH HB.out)) : w.heap.size ≤ gb212)); replace HB := aM (zT (zH HB.out) hb); have NB210_212 := nL BK210.out hg; have NB212_210 := nR BK210.out hg; replace BK210 := yK BK210.out hb; clear hb hbox hg; have hnb58 := NB212_210.out; have hnc58 := NB210_212.out; have hcz59_0 : w57.cell? ⟨gb212, 0, none⟩ = some (.int .i64 0) := yc BK212.out 0; have hcz59_1 : w57.cell? ⟨gb212, 1, none⟩ = some (.int .i64 0) := yc BK212.out 1; have hfz59_0 := yZ BK212.out 0; have hfz59_1 := yZ BK212.out 1) | ((with_reducible refine gate_store (t := 49) (p := 7) rfl ?_); refine store_event (t := 49) (p := 7) (v := ?vo_w60) (w1 := ((w57.setCell ⟨gb212, 0, none⟩ (.int .i64 ((rd_T49 l0 a1).f0))).setCell ⟨gb212, 1, none⟩ (.int .i64 ((rd_T49 l0 a1).f1)))) ?hg ?ho ?hn ?hr ?_; (case ho => rfl); (case hg => rfl); (case hn => rfl); (case hr => first | (go_simp; done) | (go_simp; rfl)); intro w60 hw; replace BK210 : Aside0 (w60.heap[gb210]? = some (.cells #[.int .i64 a2_0, .int .i64 a2_1] 49 (0, 0))) := ⟨(by rw [hw]; exact (by (with_reducible repeat (first | refine yN ?_ _ | refine yD ?_ | refine yA ?_ _)); refine yF ?_ NB210_212.out _; (with_reducible repeat (first | refine yN ?_ _ | refine yD ?_ | refine yA ?_ _)); refine yF ?_ NB210_212.out _; (with_reducible repeat (first | refine yN ?_ _ | refine yD ?_ | refine yA ?_ _)); exact BK210.out))⟩; replace BK212 : Aside0 (w60.heap[gb212]? = some (.cells #[.int .i64 ((rd_T49 l0 a1).f0), .int .i64 ((rd_T49 l0 a1).f1)] 49 (0, 0))) := ⟨(by rw [hw]; exact (by (with_reducible repeat (first | refine yN ?_ _ | refine yD ?_ | refine yA ?_ _)); refine yP (cs := #[.int .i64 ((rd_T49 l0 a1).f0), .int .i64 0]) ?_ 1 _ rfl; (with_reducible repeat (first | refine yN ?_ _ | refine yD ?_ | refine yA ?_ _)); refine yP (cs := #[.int .i64 0, .int .i64 0]) ?_ 0 _ rfl; (with_reducible repeat (first | refine yN ?_ _ | refine yD ?_ | refine yA ?_ _)); exact BK212.out))⟩; replace HB : Aside0 (Below w.heap.size w w60) := ⟨(by rw [hw]; exact (zH HB.out))⟩; clear hw; have q61 : (a1 : Int) ≤ ((l0.length : Int) : Int) := of_decide_eq_true (by first | (with_reducible assumption) | assumption); obtain ⟨i061, hi061, _, hsz61, _⟩ := info_parts info49; have hroom61 : l0.length ≤ c0 := HC0.out; have hC61 : Kd.C k49 _ (some ad211) l0.length l0 := HR0.out; have hcut61 := cut_to (P := Try.prog) 22 49 .i64 Try.underlying22 hi061 (some ad211) l0.length c0 a1 (of_decide_eq_true (by first | (with_reducible assumption) | assumption)) q61 hroom61; have hr61 := Kd.C_take (m := (a1 : Int).toNat) hC61 (by omega); have hy61 : y213.length = (a1 : Int).toNat := (by rw [Ny213.out, List.length_take]; omega); rw [← Ny213.out] at hr61; rw [← hy61] at hcut61; have HR216 := aM hr61; have HC216 := aM (show y213.length ≤ c0 from by omega); clear hr61 hC61 hroom61 hi061 hsz61; have KY61 := aM hy61; clear hy61; replace q61 := eq_true q61) | ((with_reducible refine gate_builtin (b := .append) (xs := #[.tmp 14, .tmp 17]) rfl ?_); at_builtin; refine Kd.R_append_rows k49 (w0 := w) w.heap.size rfl (.tmp 14) (.tmp 17) 22 49 (.agg #[(.int .i64 0), (.int .i64 0)]) 16 rfl Try.underlying22 info49 rfl (by decide) (by omega) (.slice none 0 0) ([] : List (S49)) y213 _ _ _ (fun k_ => k_ ≠ gb210 ∧ k_ ≠ gb212) (fun _ => False) rfl rfl ?aO ?aR (fun _ _ h => h) (fun _ h => h.elim) ?aF ?aB ?aS ?aL ?_; (case aR => exact cK HR216.out HB.out); (case aB => exact (zH HB.out)); (case aF => exact (fun k_ hk => ⟨Kd.freshB (g := gb210) (o := .cells #[.int .i64 a2_0, .int .i64 a2_1] 49 (0, 0)) (yH BK210.out) k_ hk, Kd.freshB (g := gb212) (o := .cells #[.int .i64 ((rd_T49 l0 a1).f0), .int .i64 ((rd_T49 l0 a1).f1)] 49 (0, 0)) (yH BK212.out) k_ hk⟩)); (case aO => exact ((Kd.R_nil _ _ _ _ (fun k_ => k_ ≠ gb210 ∧ k_ ≠ gb212)))); (case aS => exact (zZ (zH HB.out))); (case aL => have := LMc8.out; omega); intro v218 w62 ho hb hg hat; rw [← Ny217.out] at ho; replace BK210 := aM (blk_grown (g := gb210) (o := .cells #[.int .i64 a2_0, .int .i64 a2_1] 49 (0, 0)) (yH BK210.out) hg (by simp [Value.ownBlock])); replace BK212 := aM (blk_grown (g := gb212) (o := .cells #[.int .i64 ((rd_T49 l0 a1).f0), .int .i64 ((rd_T49 l0 a1).f1)] 49 (0, 0)) (yH BK212.out) hg (by simp [Value.ownBlock])); replace HB := aM (hb); have HO219 := aM (ho); clear ho hb hg hat; have hcz63_0 : w62.cell? ⟨gb210, 0, none⟩ = some (.int .i64 a2_0) := yc BK210.out 0; have hcz63_1 : w62.cell? ⟨gb210, 1, none⟩ = some (.int .i64 a2_1) := yc BK210.out 1; have hfz63_0 := yZ BK210.out 0; have hfz63_1 := yZ BK210.out 1; have hcz64_0 : w62.cell? ⟨gb212, 0, none⟩ = some (.int .i64 ((rd_T49 l0 a1).f0)) := yc BK212.out 0; have hcz64_1 : w62.cell? ⟨gb212, 1, none⟩ = some (.int .i64 ((rd_T49 l0 a1).f1)) := yc BK212.out 1; have hfz64_0 := yZ BK212.out 0; have hfz64_1 := yZ BK212.out 1) | ((with_reducible refine gate_builtin (b := .append) (xs := #[.tmp 47, .tmp 57]) rfl ?_); at_builtin; refine Kd.R_append k49 (w0 := w) w.heap.size rfl (.tmp 47) (.tmp 57) 22 49 (.agg #[(.int .i64 0), (.int .i64 0)]) 16 rfl Try.underlying22 info49 rfl (by decide) (by omega) v218 y217 (⟨wrap64 (a2_0 + a2_1), wrap64 ((wrap64 (((rd_T49 l0 a1).f0) + ((rd_T49 l0 a1).f1))) - (wrap64 (a2_0 + a2_1)))⟩ : S49) [.int .i64 (wrap64 (a2_0 + a2_1)), .int .i64 (wrap64 ((wrap64 (((rd_T49 l0 a1).f0) + ((rd_T49 l0 a1).f1))) - (wrap64 (a2_0 + a2_1))))] (fun k_ => k_ ≠ gb210 ∧ k_ ≠ gb212) (fun _ => False) rfl rfl ?aP (fun _ hk => hk.elim) ?aF ?aO ?aB ?aS ?aL ?_; (case aP => exact k49_mkM _ _ _ (⟨wrap64 (a2_0 + a2_1), wrap64 ((wrap64 (((rd_T49 l0 a1).f0) + ((rd_T49 l0 a1).f1))) - (wrap64 (a2_0 + a2_1)))⟩ : S49)); (case aB => exact (zH HB.out)); (case aF => exact (fun k_ hk => ⟨Kd.freshB (g := gb210) (o := .cells #[.int .i64 a2_0, .int .i64 a2_1] 49 (0, 0)) (yH BK210.out) k_ hk, Kd.freshB (g := gb212) (o := .cells #[.int .i64 ((rd_T49 l0 a1).f0), .int .i64 ((rd_T49 l0 a1).f1)] 49 (0, 0)) (yH BK212.out) k_ hk⟩)); (case aO => exact (xH HO219.out)); (case aS => exact (zZ (zH HB.out))); (case aL => have := LMc51.out; omega); intro v241 w65 ho hb hg hat; rw [← Ny240.out] at ho; replace BK210 := aM (blk_grown (g := gb210) (o := .cells #[.int .i64 a2_0, .int .i64 a2_1] 49 (0, 0)) (yH BK210.out) hg (Kd.R_away HO219.out (fun _ hk => hk.1))); replace BK212 := aM (blk_grown (g := gb212) (o := .cells #[.int .i64 ((rd_T49 l0 a1).f0), .int .i64 ((rd_T49 l0 a1).f1)] 49 (0, 0)) (yH BK212.out) hg (Kd.R_away HO219.out (fun _ hk => hk.2))); replace HB := aM (hb); have HO242 := aM (ho); clear HO219; clear ho hb hg hat; have q66 : ((ji52) : Int) ≤ ((l0.length : Int) : Int) := of_decide_eq_true (by first | (with_reducible assumption) | assumption); obtain ⟨i066, hi066, _, hsz66, _⟩ := info_parts info49; have hroom66 : l0.length ≤ c0 := HC0.out; have hC66 : Kd.C k49 _ (some ad211) l0.length l0 := HR0.out; have q066 : (0 : Int) ≤ ((ji52) : Int) := of_decide_eq_true (by first | (with_reducible assumption) | assumption); have hcut66 := cut_from (P := Try.prog) 22 49 .i64 Try.underlying22 hi066 2 hsz66 (some ad211) l0.length c0 (ji52) q066 q66; have hr66 := Kd.C_drop (m := ((ji52) : Int).toNat) (c := c0) hC66 (by omega) hroom66; obtain ⟨A66, hA66⟩ : ∃ A1, A1 = (if c0 = ((ji52) : Int).toNat then (some ad211) else ((some ad211) : Option Addr).map (·.add (((ji52) : Int).toNat * 2))) := ⟨_, rfl⟩; obtain ⟨c66, hc66⟩ : ∃ c1, c1 = c0 - ((ji52) : Int).toNat := ⟨_, rfl⟩; have hy66 : y243.length = l0.length - ((ji52) : Int).toNat := (by rw [Ny243.out, List.length_drop] <;> omega); rw [show (l0).drop ((ji52) : Int).toNat = y243 from Ny243.out.symm] at hr66; replace hr66 : Kd.C k49 _ A66 y243.length y243 := (by rw [hA66]; exact hr66); rw [← hy66, ← hA66, ← hc66] at hcut66; have HR246 := aM hr66; have HC246 := aM (show y243.length ≤ c66 from by rw [hy66, hc66]; exact Nat.sub_le_sub_right hroom66 _); clear hr66 hC66 hroom66 hi066 hsz66 hc66; have KY66 := aM hy66; have KA66 := aM hA66; clear hy66 hA66; replace q66 := eq_true q66) | ((with_reducible refine gate_builtin (b := .append) (xs := #[.tmp 59, .tmp 63]) rfl ?_); at_builtin; refine Kd.R_append_rows k49 (w0 := w) w.heap.size rfl (.tmp 59) (.tmp 63) 22 49 (.agg #[(.int .i64 0), (.int .i64 0)]) 16 rfl Try.underlying22 info49 rfl (by decide) (by omega) v241 y240 y243 _ _ _ (fun k_ => k_ ≠ gb210 ∧ k_ ≠ gb212) (fun _ => False) rfl rfl ?aO ?aR (fun _ _ h => h) (fun _ h => h.elim) ?aF ?aB ?aS ?aL ?_; (case aR => exact cK HR246.out HB.out); (case aB => exact (zH HB.out)); (case aF => exact (fun k_ hk => ⟨Kd.freshB (g := gb210) (o := .cells #[.int .i64 a2_0, .int .i64 a2_1] 49 (0, 0)) (yH BK210.out) k_ hk, Kd.freshB (g := gb212) (o := .cells #[.int .i64 ((rd_T49 l0 a1).f0), .int .i64 ((rd_T49 l0 a1).f1)] 49 (0, 0)) (yH BK212.out) k_ hk⟩)); (case aO => exact (xH HO242.out)); (case aS => exact (zZ (zH HB.out))); (case aL => have := LMc55.out; omega); intro v248 w67 ho hb hg hat; rw [← Ny247.out] at ho; replace BK210 := aM (blk_grown (g := gb210) (o := .cells #[.int .i64 a2_0, .int .i64 a2_1] 49 (0, 0)) (yH BK210.out) hg (Kd.R_away HO242.out (fun _ hk => hk.1))); replace BK212 := aM (blk_grown (g := gb212) (o := .cells #[.int .i64 ((rd_T49 l0 a1).f0), .int .i64 ((rd_T49 l0 a1).f1)] 49 (0, 0)) (yH BK212.out) hg (Kd.R_away HO242.out (fun _ hk => hk.2))); replace HB := aM (hb); have HO249 := aM (ho); clear HO242; clear ho hb hg hat))
           go_ret
           exact ⟨_, by first | rfl | (simp [errW_none, errW_some] <;> rfl) | (simp only [← hji52]; first | rfl | (simp [errW_none, errW_some] <;> rfl)) | (simp [*, errW_none, errW_some] <;> rfl), xH (xM HO249.out (fun _ hk => trivial)), zH HB.out⟩
          ·rw [if_neg c55] at H
           exact absurd H (by simp)
         ·rw [if_neg c54] at H
          exact absurd H (by simp)
        ·rw [if_neg c53] at H
         exact absurd H (by simp)
       ·rw [if_neg c51] at H
        exact absurd H (by simp)
      ·rw [if_neg c50] at H
       have c50b0 : decide ((wrap64 (a2_0 + a2_1)) < (wrap64 (((rd_T49 l0 a1).f0) + ((rd_T49 l0 a1).f1)))) = false := decide_eq_false c50
       clear c50
       obtain ⟨ji68, hji68⟩ : ∃ j_ : Int, (wrap64 (a1 + 1)) = j_ := ⟨_, rfl⟩
       replace H : (if 0 ≤ (ji68) then (if (ji68) ≤ (l0.length : Int) then ((some (l0.drop ((ji68) : Int).toNat : List (S49))).bind fun y250 => (if y217.length + y250.length < 8796093022208 then (some (y217 ++ y250)) else (none))) else (none)) else (none)) = some r := by first | (rw [hji68] at H; exact H) | (simp only [hji68] at H ⊢; exact H)
       have hji68w : (IntKind.i64.wrap (a1 + 1)) = ji68 := (i64_w _).trans hji68
       by_cases c69 : 0 ≤ (ji68)
       ·rw [if_pos c69] at H
        have c69b0 := eq_true c69
        have c69b1 : decide (0 ≤ (ji68)) = true := decide_eq_true c69
        clear c69
        by_cases c70 : (ji68) ≤ (l0.length : Int)
        ·rw [if_pos c70] at H
         have c70b0 := eq_true c70
         have c70b1 : decide ((ji68) ≤ (l0.length : Int)) = true := decide_eq_true c70
         clear c70
         obtain ⟨y250, hy250⟩ : ∃ y_ : List (S49), y_ = (l0.drop ((ji68) : Int).toNat) := ⟨_, rfl⟩
         replace H : (if y217.length + y250.length < 8796093022208 then (some (y217 ++ y250)) else (none)) = some r := by first | (rw [hy250]; with_reducible exact H) | (have H2_ := (Option.bind_some _ _).symm.trans H; rw [hy250]; with_reducible exact H2_) | (have H2_ := (Option.bind_some _ _).symm.trans H; with_reducible exact H2_) | with_reducible exact H | (rw [hy250]; exact H) | exact H
         have Ny250 := aM hy250
         clear hy250
         by_cases c71 : y217.length + y250.length < 8796093022208
         ·rw [if_pos c71] at H
          have LMc71 := aM c71
          clear c71
          obtain ⟨y254, hy254⟩ : ∃ y_ : List (S49), y_ = (y217 ++ y250) := ⟨_, rfl⟩
          replace H : (some y254) = some r := by first | (rw [hy254]; with_reducible exact H) | (have H2_ := (Option.bind_some _ _).symm.trans H; rw [hy254]; with_reducible exact H2_) | (have H2_ := (Option.bind_some _ _).symm.trans H; with_reducible exact H2_) | with_reducible exact H | (rw [hy254]; exact H) | exact H
          have Ny254 := aM hy254
          clear hy254
          obtain rfl := Option.some.inj H
          go_enter Try.func54, Try.ntmps54
          go_wp2_with (first | ((with_reducible refine gate_dst (N := 5) rfl ?_); refine box_event ?hg (N := 5) ?hd (cs := #[.int .i64 a2_0, .int .i64 a2_1]) (t := 49) ?hr ?_; (case hd => rfl); (case hg => rfl); (case hr => first | (go_simp; done) | (go_simp; rfl)); intro gb210 hg w72 hbox hb; have BK210 := aM (hbox); have GW210 := aM ((by rw [hg]; exact (zZ (zH HB.out)) : w.heap.size ≤ gb210)); have GE210 := aM ((by rw [hg]; exact (zZ (zH HB.out)) : w.heap.size ≤ gb210)); replace HB := aM (zT (zH HB.out) hb); clear hb hbox hg; have p211 : 0 ≤ (a1 : Int) := of_decide_eq_true (by first | (with_reducible assumption) | assumption); have q211 : a1 < (l0.length : Int) := of_decide_eq_true (by first | (with_reducible assumption) | assumption); obtain ⟨ad211, e211, hx211_0, hx211_1⟩ := at_T49 HR0.out a1 p211 q211; cases e211; replace hx211_0 := (HB.out.cell (World.block_lt_of_cell? w _ hx211_0)).trans hx211_0; replace hx211_1 := (HB.out.cell (World.block_lt_of_cell? w _ hx211_1)).trans hx211_1; replace p211 := eq_true p211; replace q211 := eq_true q211) | ((with_reducible refine gate_dst (N := 7) rfl ?_); refine box_event ?hg (N := 7) ?hd (cs := #[.int .i64 0, .int .i64 0]) (t := 49) ?hr ?_; (case hd => rfl); (case hg => rfl); (case hr => first | (go_simp; done) | (go_simp; rfl)); intro gb212 hg w73 hbox hb; have BK212 := aM (hbox); have GW212 := aM ((by rw [hg]; exact (zZ (zH HB.out)) : w.heap.size ≤ gb212)); have GE212 := aM ((by rw [hg]; exact (zZ (zH HB.out)) : w.heap.size ≤ gb212)); replace HB := aM (zT (zH HB.out) hb); have NB210_212 := nL BK210.out hg; have NB212_210 := nR BK210.out hg; replace BK210 := yK BK210.out hb; clear hb hbox hg; have hnb74 := NB212_210.out; have hnc74 := NB210_212.out; have hcz75_0 : w73.cell? ⟨gb212, 0, none⟩ = some (.int .i64 0) := yc BK212.out 0; have hcz75_1 : w73.cell? ⟨gb212, 1, none⟩ = some (.int .i64 0) := yc BK212.out 1; have hfz75_0 := yZ BK212.out 0; have hfz75_1 := yZ BK212.out 1) | ((with_reducible refine gate_store (t := 49) (p := 7) rfl ?_); refine store_event (t := 49) (p := 7) (v := ?vo_w76) (w1 := ((w73.setCell ⟨gb212, 0, none⟩ (.int .i64 ((rd_T49 l0 a1).f0))).setCell ⟨gb212, 1, none⟩ (.int .i64 ((rd_T49 l0 a1).f1)))) ?hg ?ho ?hn ?hr ?_; (case ho => rfl); (case hg => rfl); (case hn => rfl); (case hr => first | (go_simp; done) | (go_simp; rfl)); intro w76 hw; replace BK210 : Aside0 (w76.heap[gb210]? = some (.cells #[.int .i64 a2_0, .int .i64 a2_1] 49 (0, 0))) := ⟨(by rw [hw]; exact (by (with_reducible repeat (first | refine yN ?_ _ | refine yD ?_ | refine yA ?_ _)); refine yF ?_ NB210_212.out _; (with_reducible repeat (first | refine yN ?_ _ | refine yD ?_ | refine yA ?_ _)); refine yF ?_ NB210_212.out _; (with_reducible repeat (first | refine yN ?_ _ | refine yD ?_ | refine yA ?_ _)); exact BK210.out))⟩; replace BK212 : Aside0 (w76.heap[gb212]? = some (.cells #[.int .i64 ((rd_T49 l0 a1).f0), .int .i64 ((rd_T49 l0 a1).f1)] 49 (0, 0))) := ⟨(by rw [hw]; exact (by (with_reducible repeat (first | refine yN ?_ _ | refine yD ?_ | refine yA ?_ _)); refine yP (cs := #[.int .i64 ((rd_T49 l0 a1).f0), .int .i64 0]) ?_ 1 _ rfl; (with_reducible repeat (first | refine yN ?_ _ | refine yD ?_ | refine yA ?_ _)); refine yP (cs := #[.int .i64 0, .int .i64 0]) ?_ 0 _ rfl; (with_reducible repeat (first | refine yN ?_ _ | refine yD ?_ | refine yA ?_ _)); exact BK212.out))⟩; replace HB : Aside0 (Below w.heap.size w w76) := ⟨(by rw [hw]; exact (zH HB.out))⟩; clear hw; have q77 : (a1 : Int) ≤ ((l0.length : Int) : Int) := of_decide_eq_true (by first | (with_reducible assumption) | assumption); obtain ⟨i077, hi077, _, hsz77, _⟩ := info_parts info49; have hroom77 : l0.length ≤ c0 := HC0.out; have hC77 : Kd.C k49 _ (some ad211) l0.length l0 := HR0.out; have hcut77 := cut_to (P := Try.prog) 22 49 .i64 Try.underlying22 hi077 (some ad211) l0.length c0 a1 (of_decide_eq_true (by first | (with_reducible assumption) | assumption)) q77 hroom77; have hr77 := Kd.C_take (m := (a1 : Int).toNat) hC77 (by omega); have hy77 : y213.length = (a1 : Int).toNat := (by rw [Ny213.out, List.length_take]; omega); rw [← Ny213.out] at hr77; rw [← hy77] at hcut77; have HR216 := aM hr77; have HC216 := aM (show y213.length ≤ c0 from by omega); clear hr77 hC77 hroom77 hi077 hsz77; have KY77 := aM hy77; clear hy77; replace q77 := eq_true q77) | ((with_reducible refine gate_builtin (b := .append) (xs := #[.tmp 14, .tmp 17]) rfl ?_); at_builtin; refine Kd.R_append_rows k49 (w0 := w) w.heap.size rfl (.tmp 14) (.tmp 17) 22 49 (.agg #[(.int .i64 0), (.int .i64 0)]) 16 rfl Try.underlying22 info49 rfl (by decide) (by omega) (.slice none 0 0) ([] : List (S49)) y213 _ _ _ (fun k_ => k_ ≠ gb210 ∧ k_ ≠ gb212) (fun _ => False) rfl rfl ?aO ?aR (fun _ _ h => h) (fun _ h => h.elim) ?aF ?aB ?aS ?aL ?_; (case aR => exact cK HR216.out HB.out); (case aB => exact (zH HB.out)); (case aF => exact (fun k_ hk => ⟨Kd.freshB (g := gb210) (o := .cells #[.int .i64 a2_0, .int .i64 a2_1] 49 (0, 0)) (yH BK210.out) k_ hk, Kd.freshB (g := gb212) (o := .cells #[.int .i64 ((rd_T49 l0 a1).f0), .int .i64 ((rd_T49 l0 a1).f1)] 49 (0, 0)) (yH BK212.out) k_ hk⟩)); (case aO => exact ((Kd.R_nil _ _ _ _ (fun k_ => k_ ≠ gb210 ∧ k_ ≠ gb212)))); (case aS => exact (zZ (zH HB.out))); (case aL => have := LMc8.out; omega); intro v218 w78 ho hb hg hat; rw [← Ny217.out] at ho; replace BK210 := aM (blk_grown (g := gb210) (o := .cells #[.int .i64 a2_0, .int .i64 a2_1] 49 (0, 0)) (yH BK210.out) hg (by simp [Value.ownBlock])); replace BK212 := aM (blk_grown (g := gb212) (o := .cells #[.int .i64 ((rd_T49 l0 a1).f0), .int .i64 ((rd_T49 l0 a1).f1)] 49 (0, 0)) (yH BK212.out) hg (by simp [Value.ownBlock])); replace HB := aM (hb); have HO219 := aM (ho); clear ho hb hg hat; have hcz79_0 : w78.cell? ⟨gb210, 0, none⟩ = some (.int .i64 a2_0) := yc BK210.out 0; have hcz79_1 : w78.cell? ⟨gb210, 1, none⟩ = some (.int .i64 a2_1) := yc BK210.out 1; have hfz79_0 := yZ BK210.out 0; have hfz79_1 := yZ BK210.out 1; have hcz80_0 : w78.cell? ⟨gb212, 0, none⟩ = some (.int .i64 ((rd_T49 l0 a1).f0)) := yc BK212.out 0; have hcz80_1 : w78.cell? ⟨gb212, 1, none⟩ = some (.int .i64 ((rd_T49 l0 a1).f1)) := yc BK212.out 1; have hfz80_0 := yZ BK212.out 0; have hfz80_1 := yZ BK212.out 1; have q81 : ((ji68) : Int) ≤ ((l0.length : Int) : Int) := of_decide_eq_true (by first | (with_reducible assumption) | assumption); obtain ⟨i081, hi081, _, hsz81, _⟩ := info_parts info49; have hroom81 : l0.length ≤ c0 := HC0.out; have hC81 : Kd.C k49 _ (some ad211) l0.length l0 := HR0.out; have q081 : (0 : Int) ≤ ((ji68) : Int) := of_decide_eq_true (by first | (with_reducible assumption) | assumption); have hcut81 := cut_from (P := Try.prog) 22 49 .i64 Try.underlying22 hi081 2 hsz81 (some ad211) l0.length c0 (ji68) q081 q81; have hr81 := Kd.C_drop (m := ((ji68) : Int).toNat) (c := c0) hC81 (by omega) hroom81; obtain ⟨A81, hA81⟩ : ∃ A1, A1 = (if c0 = ((ji68) : Int).toNat then (some ad211) else ((some ad211) : Option Addr).map (·.add (((ji68) : Int).toNat * 2))) := ⟨_, rfl⟩; obtain ⟨c81, hc81⟩ : ∃ c1, c1 = c0 - ((ji68) : Int).toNat := ⟨_, rfl⟩; have hy81 : y250.length = l0.length - ((ji68) : Int).toNat := (by rw [Ny250.out, List.length_drop] <;> omega); rw [show (l0).drop ((ji68) : Int).toNat = y250 from Ny250.out.symm] at hr81; replace hr81 : Kd.C k49 _ A81 y250.length y250 := (by rw [hA81]; exact hr81); rw [← hy81, ← hA81, ← hc81] at hcut81; have HR253 := aM hr81; have HC253 := aM (show y250.length ≤ c81 from by rw [hy81, hc81]; exact Nat.sub_le_sub_right hroom81 _); clear hr81 hC81 hroom81 hi081 hsz81 hc81; have KY81 := aM hy81; have KA81 := aM hA81; clear hy81 hA81; replace q81 := eq_true q81) | ((with_reducible refine gate_builtin (b := .append) (xs := #[.tmp 59, .tmp 63]) rfl ?_); at_builtin; refine Kd.R_append_rows k49 (w0 := w) w.heap.size rfl (.tmp 59) (.tmp 63) 22 49 (.agg #[(.int .i64 0), (.int .i64 0)]) 16 rfl Try.underlying22 info49 rfl (by decide) (by omega) v218 y217 y250 _ _ _ (fun k_ => k_ ≠ gb210 ∧ k_ ≠ gb212) (fun _ => False) rfl rfl ?aO ?aR (fun _ _ h => h) (fun _ h => h.elim) ?aF ?aB ?aS ?aL ?_; (case aR => exact cK HR253.out HB.out); (case aB => exact (zH HB.out)); (case aF => exact (fun k_ hk => ⟨Kd.freshB (g := gb210) (o := .cells #[.int .i64 a2_0, .int .i64 a2_1] 49 (0, 0)) (yH BK210.out) k_ hk, Kd.freshB (g := gb212) (o := .cells #[.int .i64 ((rd_T49 l0 a1).f0), .int .i64 ((rd_T49 l0 a1).f1)] 49 (0, 0)) (yH BK212.out) k_ hk⟩)); (case aO => exact (xH HO219.out)); (case aS => exact (zZ (zH HB.out))); (case aL => have := LMc71.out; omega); intro v255 w82 ho hb hg hat; rw [← Ny254.out] at ho; replace BK210 := aM (blk_grown (g := gb210) (o := .cells #[.int .i64 a2_0, .int .i64 a2_1] 49 (0, 0)) (yH BK210.out) hg (Kd.R_away HO219.out (fun _ hk => hk.1))); replace BK212 := aM (blk_grown (g := gb212) (o := .cells #[.int .i64 ((rd_T49 l0 a1).f0), .int .i64 ((rd_T49 l0 a1).f1)] 49 (0, 0)) (yH BK212.out) hg (Kd.R_away HO219.out (fun _ hk => hk.2))); replace HB := aM (hb); have HO256 := aM (ho); clear HO219; clear ho hb hg hat))
          go_ret
          exact ⟨_, by first | rfl | (simp [errW_none, errW_some] <;> rfl) | (simp only [← hji68]; first | rfl | (simp [errW_none, errW_some] <;> rfl)) | (simp [*, errW_none, errW_some] <;> rfl), xH (xM HO256.out (fun _ hk => trivial)), zH HB.out⟩
         ·rw [if_neg c71] at H
          exact absurd H (by simp)
        ·rw [if_neg c70] at H
         exact absurd H (by simp)
       ·rw [if_neg c69] at H
        exact absurd H (by simp)
    ·rw [if_neg c8] at H
     exact absurd H (by simp)
   ·rw [if_neg c7] at H
    exact absurd H (by simp)
  ·rw [if_neg c5] at H
   exact absurd H (by simp)
 ·rw [if_neg c4] at H
  exact absurd H (by simp)

/-! ### spec_l5Gap: function 62 -/
def spec_l5Gap.f (a0 : Int) (a1 : Int) : Option (Int) := if a0 < a1 then (some (wrap64 (a1 - a0))) else (some (wrap64 (a0 - a1)))
set_option maxHeartbeats 8000000 in
set_option maxRecDepth 100000 in
theorem spec_l5Gap.calls (a0 : Int) (a1 : Int) (r : Int) (w : World) (h : spec_l5Gap.f a0 a1 = some r) :
  Calls Try.prog 62 #[.int .i64 a0, .int .i64 a1] w fun e w' => e = .returned (.int .i64 r) ∧ Drawn0 w w' := by
 have H : (if a0 < a1 then (some (wrap64 (a1 - a0))) else (some (wrap64 (a0 - a1)))) = some r := h
 clear h
 by_cases c3 : a0 < a1
 ·rw [if_pos c3] at H
  have c3b0 : decide (a0 < a1) = true := decide_eq_true c3
  clear c3
  obtain rfl := Option.some.inj H
  go_enter Try.func62, Try.ntmps62
  go_wp2
  go_ret
  exact ⟨by first | rfl | (simp; done) | (simp [*]; done), by repeat (first | exact Drawn0.refl _ | apply Drawn0.step)⟩
 ·rw [if_neg c3] at H
  have c3b0 : decide (a0 < a1) = false := decide_eq_false c3
  clear c3
  obtain rfl := Option.some.inj H
  go_enter Try.func62, Try.ntmps62
  go_wp2
  go_ret
  exact ⟨by first | rfl | (simp; done) | (simp [*]; done), by repeat (first | exact Drawn0.refl _ | apply Drawn0.step)⟩

end Go.Proofs.Ytfhfaeeokibhaaa.PFnExactTakeRoom
