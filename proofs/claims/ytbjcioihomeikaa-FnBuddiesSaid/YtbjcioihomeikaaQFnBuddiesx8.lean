/- The walks of FnBuddies: Go's calls come to what the Lean functions beside them say; no condition. -/
import Derived.Test.YtbjcioihomeikaaQFnBuddiesx0
import Derived.Test.YtbjcioihomeikaaQFnBuddiesx1
import Derived.Test.YtbjcioihomeikaaQFnBuddiesx6
import Derived.Test.YtbjcioihomeikaaQFnBuddiesx7
namespace Go.Proofs.Ytbjcioihomeikaa.PFnBuddies
open Go.RowKit Go.Proofs.YtbjcioihomeikaaW.PrintWords Go.Proofs.YtbjcioihomeikaaW.PrintLast Go.Proofs.YtbjcioihomeikaaW.PrintMore
attribute [local go_sem] max2_int min2_int max_two min_two max_three min_three max_four min_four   -- for this text's walks alone
set_option linter.unusedVariables false
set_option linter.unusedSimpArgs false
set_option maxRecDepth 100000

attribute [local go_sem high] eqA45
/-! ### impl_isBlock: function 51 -/
def impl_isBlock.f (a0_0 : Int) (a0_1 : Int) : Option (Bool) := (impl_within.f a0_1 0 8).bind fun t218 => (if t218 = true then ((impl_within.f a0_0 0 1073741824).bind fun t219 => (if t219 = true then ((impl_Block_size.f a0_0 a0_1).bind fun t220 => (if t220 = 0 then (none) else (some ((Int.tmod a0_0 t220) == 0)))) else (some false))) else (some false))
def impl_isBlock.T1 : Bool × List (List Nat × List Nat) := (true, [([], []), ([0], [0]), ([1], [1]), ([2, 2], [2]), ([3], [3]), ([4, 3], [3, 4]), ([5, 3, 3], [3, 5]), ([3, 6], [3, 6]), ([7, 6], [7]), ([8], [8]), ([9, 8], [8, 9]), ([8], [8]), ([11, 8, 8], [8, 11]), ([10, 12, 8], [8, 10, 12]), ([13, 8], [8, 13]), ([8, 14], [8, 14]), ([15, 12, 0, 1, 2, 3, 4, 5, 6, 7, 8, 9, 10, 11, 12, 13, 14, 15], [15])])
def impl_isBlock.B1 : List Nat := [0, 1, 3, 7, 15, 31, 63, 127, 255, 511, 1023, 511, 2559, 8191, 16383, 32767, 65535]
theorem impl_isBlock.tab1 : rtab .any (opsOf Try.f51 1) = impl_isBlock.T1 := by kernel_rfl
theorem impl_isBlock.bits1 : waitsOk impl_isBlock.T1.2 impl_isBlock.B1 = true := by kernel_rfl
set_option maxHeartbeats 8000000 in
set_option maxRecDepth 100000 in
theorem impl_isBlock.calls (a0_0 : Int) (a0_1 : Int) (r : Bool) (w : World) (h : impl_isBlock.f a0_0 a0_1 = some r) :
  Calls Try.prog 51 #[.agg #[.int .i64 a0_0, .int .i64 a0_1]] w fun e w' => e = .returned (.bool r) ∧ Below w.heap.size w w' := by
 have hu45 := Try.underlying45; have HB := aM (Below.refl w.heap.size w)
 have H : ((impl_within.f a0_1 0 8).bind fun t218 => (if t218 = true then ((impl_within.f a0_0 0 1073741824).bind fun t219 => (if t219 = true then ((impl_Block_size.f a0_0 a0_1).bind fun t220 => (if t220 = 0 then (none) else (some ((Int.tmod a0_0 t220) == 0)))) else (some false))) else (some false))) = some r := h
 clear h; replace H := Option.bind_eq_some_iff.mp H; obtain ⟨t218, A20, H⟩ := H
 replace H : (if t218 = true then ((impl_within.f a0_0 0 1073741824).bind fun t219 => (if t219 = true then ((impl_Block_size.f a0_0 a0_1).bind fun t220 => (if t220 = 0 then (none) else (some ((Int.tmod a0_0 t220) == 0)))) else (some false))) else (some false)) = some r := H
 have A2 := aM A20; clear A20
 by_cases c3 : t218 = true
 ·subst c3
  have H1 : ((impl_within.f a0_0 0 1073741824).bind fun t219 => (if t219 = true then ((impl_Block_size.f a0_0 a0_1).bind fun t220 => (if t220 = 0 then (none) else (some ((Int.tmod a0_0 t220) == 0)))) else (some false))) = some r := by rw [if_pos rfl] at H; exact H
  clear H; have H := H1; clear H1; replace H := Option.bind_eq_some_iff.mp H; obtain ⟨t219, A40, H⟩ := H
  replace H : (if t219 = true then ((impl_Block_size.f a0_0 a0_1).bind fun t220 => (if t220 = 0 then (none) else (some ((Int.tmod a0_0 t220) == 0)))) else (some false)) = some r := H
  have A4 := aM A40; clear A40
  by_cases c5 : t219 = true
  ·subst c5
   have H1 : ((impl_Block_size.f a0_0 a0_1).bind fun t220 => (if t220 = 0 then (none) else (some ((Int.tmod a0_0 t220) == 0)))) = some r := by rw [if_pos rfl] at H; exact H
   clear H; have H := H1; clear H1; replace H := Option.bind_eq_some_iff.mp H; obtain ⟨t220, A60, H⟩ := H; replace H : (if t220 = 0 then (none) else (some ((Int.tmod a0_0 t220) == 0))) = some r := H; have A6 := aM A60; clear A60
   by_cases c7 : t220 = 0
   ·rw [if_pos c7] at H
    exact absurd H (by simp)
   ·rw [if_neg c7] at H
    have c7b0 : (t220 == 0) = false := beq_eq_false_iff_ne.mpr c7; have c7b1 : (t220 != 0) = true := bne_iff_ne.mpr c7; obtain rfl := Option.some.inj H
    go_enter Try.func51, Try.ntmps51
    try go_wp2_with (first | ((with_reducible refine gate_dst (N := 1) rfl ?_); refine bE 1 #[.int .i64 a0_0, .int .i64 a0_1] 45 ?_; intro gb217 hg w8 hbox hb; have BK217 := aM (hbox); have GW217 := gW hg HB.out; have GE217 := GW217; replace HB := aM (zT (zH HB.out) hb); clear hb hbox hg))
    replace BK217 := aM (yD BK217.out); replace HB := aM (zD HB.out)
    refine start_ (n := 17) (S := fun w' => w'.cell? ⟨gb217, 0, none⟩ = some (.int .i64 a0_0) ∧ w'.cell? ⟨gb217, 1, none⟩ = some (.int .i64 a0_1)) (ds := []) #[fF,fF,fF,fF,fF,fF,fF,fF,fF,fF,fF,fF,fF,fF,fF,fF,fF] (by kernel_rfl) rfl rfl ⟨yc BK217.out 0, yc BK217.out 1⟩ (fun hHeld => ?_); refine with_tabW impl_isBlock.tab1 impl_isBlock.bits1 (fun HT_ HW_ => ?_)
    generalize w8.drew = w9 at BK217 HB hHeld ⊢
    refine pP 0 3 HT_ ?_
    refine tK 1 4 HT_ HW_ hHeld ?_
    refine oN 2 (some 5) HT_ (fun K hK => ?_)
    refine gS Try.func44 (by kernel_rfl) rfl #[.int .i64 a0_1, .int .i64 0, .int .i64 8] (by rfl) rfl rfl ?_
    with_reducible refine (impl_within.calls a0_1 0 8 true _ A2.out).mono ?_
    rintro e w' ⟨rfl, ⟨nd, rfl⟩⟩
    refine ⟨_, rfl, ?_⟩
    refine hK.out _ _ ⟨yc BK217.out 0, yc BK217.out 1⟩ (fun hHeld => ?_)
    clear hK K; refine nN 5 ?_
    refine pP 3 6 HT_ ?_
    refine pP 4 7 HT_ ?_
    refine tK 5 8 HT_ HW_ hHeld ?_
    refine oN 6 (some 9) HT_ (fun K hK => ?_)
    refine gS Try.func44 (by kernel_rfl) rfl #[.int .i64 a0_0, .int .i64 0, .int .i64 1073741824] (by rfl) rfl rfl ?_
    with_reducible refine (impl_within.calls a0_0 0 1073741824 true _ A4.out).mono ?_
    rintro e w' ⟨rfl, ⟨nd, rfl⟩⟩
    refine ⟨_, rfl, ?_⟩
    refine hK.out _ _ ⟨yc BK217.out 0, yc BK217.out 1⟩ (fun hHeld => ?_)
    clear hK K; refine nN 9 ?_
    refine pP 7 10 HT_ ?_
    refine pP 8 11 HT_ ?_
    refine pP 9 12 HT_ ?_
    refine tK 10 13 HT_ HW_ hHeld ?_
    refine tK 11 14 HT_ HW_ hHeld ?_
    refine oN 12 (some 15) HT_ (fun K hK => ?_)
    refine gS Try.func52 (by kernel_rfl) rfl #[.agg #[.int .i64 a0_0, .int .i64 a0_1]] (by rfl) rfl rfl ?_
    with_reducible refine (impl_Block_size.calls a0_0 a0_1 t220 _ A6.out).mono ?_
    rintro e w10 ⟨rfl, hb⟩
    refine ⟨_, rfl, ?_⟩
    replace BK217 := yK BK217.out hb; replace HB := aM (zT (zH HB.out) hb)
    (try clear hb)
    refine hK.out _ _ ⟨yc BK217.out 0, yc BK217.out 1⟩ (fun hHeld => ?_)
    clear hK K; refine nN 15 ?_
    refine pP 13 16 HT_ ?_
    refine pP 14 17 HT_ ?_
    refine pP 15 18 HT_ ?_
    refine pP 16 2 HT_ ?_
    refine done_ (done_of HT_.out (by kernel_rfl)) ?_
    try go_wp2
    go_ret
    exact ⟨eW, zH HB.out⟩
  ·replace c5 := Bool.eq_false_iff.mpr c5
   subst c5
   have H1 : (some false) = some r := by rw [if_neg (show ¬ (false = true) by decide)] at H; exact H
   clear H; have H := H1; clear H1; obtain rfl := Option.some.inj H
   go_enter Try.func51, Try.ntmps51
   try go_wp2_with (first | ((with_reducible refine gate_dst (N := 1) rfl ?_); refine bE 1 #[.int .i64 a0_0, .int .i64 a0_1] 45 ?_; intro gb217 hg w11 hbox hb; have BK217 := aM (hbox); have GW217 := gW hg HB.out; have GE217 := GW217; replace HB := aM (zT (zH HB.out) hb); clear hb hbox hg))
   replace BK217 := aM (yD BK217.out); replace HB := aM (zD HB.out)
   refine start_ (n := 17) (S := fun w' => w'.cell? ⟨gb217, 0, none⟩ = some (.int .i64 a0_0) ∧ w'.cell? ⟨gb217, 1, none⟩ = some (.int .i64 a0_1)) (ds := []) #[fF,fF,fF,fF,fF,fF,fF,fF,fF,fF,fF,fF,fF,fF,fF,fF,fF] (by kernel_rfl) rfl rfl ⟨yc BK217.out 0, yc BK217.out 1⟩ (fun hHeld => ?_); refine with_tabW impl_isBlock.tab1 impl_isBlock.bits1 (fun HT_ HW_ => ?_)
   generalize w11.drew = w12 at BK217 HB hHeld ⊢
   refine pP 0 3 HT_ ?_
   refine tK 1 4 HT_ HW_ hHeld ?_
   refine oN 2 (some 5) HT_ (fun K hK => ?_)
   refine gS Try.func44 (by kernel_rfl) rfl #[.int .i64 a0_1, .int .i64 0, .int .i64 8] (by rfl) rfl rfl ?_
   with_reducible refine (impl_within.calls a0_1 0 8 true _ A2.out).mono ?_
   rintro e w' ⟨rfl, ⟨nd, rfl⟩⟩
   refine ⟨_, rfl, ?_⟩
   refine hK.out _ _ ⟨yc BK217.out 0, yc BK217.out 1⟩ (fun hHeld => ?_)
   clear hK K; refine nN 5 ?_
   refine pP 3 6 HT_ ?_
   refine pP 4 7 HT_ ?_
   refine tK 5 8 HT_ HW_ hHeld ?_
   refine oN 6 (some 9) HT_ (fun K hK => ?_)
   refine gS Try.func44 (by kernel_rfl) rfl #[.int .i64 a0_0, .int .i64 0, .int .i64 1073741824] (by rfl) rfl rfl ?_
   with_reducible refine (impl_within.calls a0_0 0 1073741824 false _ A4.out).mono ?_
   rintro e w' ⟨rfl, ⟨nd, rfl⟩⟩
   refine ⟨_, rfl, ?_⟩
   refine hK.out _ _ ⟨yc BK217.out 0, yc BK217.out 1⟩ (fun hHeld => ?_)
   clear hK K; refine nN 9 ?_
   refine pP 7 10 HT_ ?_
   refine pP 8 11 HT_ ?_
   refine pU 9 12 HT_ ?_
   refine pU 10 13 HT_ ?_
   refine pU 11 14 HT_ ?_
   refine pU 12 15 HT_ ?_
   refine pU 13 16 HT_ ?_
   refine pU 14 17 HT_ ?_
   refine pP 15 18 HT_ ?_
   refine pP 16 2 HT_ ?_
   refine done_ (done_of HT_.out (by kernel_rfl)) ?_
   try go_wp2
   go_ret
   exact ⟨eW, zH HB.out⟩
 ·replace c3 := Bool.eq_false_iff.mpr c3
  subst c3
  have H1 : (some false) = some r := by rw [if_neg (show ¬ (false = true) by decide)] at H; exact H
  clear H; have H := H1; clear H1; obtain rfl := Option.some.inj H
  go_enter Try.func51, Try.ntmps51
  try go_wp2_with (first | ((with_reducible refine gate_dst (N := 1) rfl ?_); refine bE 1 #[.int .i64 a0_0, .int .i64 a0_1] 45 ?_; intro gb217 hg w13 hbox hb; have BK217 := aM (hbox); have GW217 := gW hg HB.out; have GE217 := GW217; replace HB := aM (zT (zH HB.out) hb); clear hb hbox hg))
  replace BK217 := aM (yD BK217.out); replace HB := aM (zD HB.out)
  refine start_ (n := 17) (S := fun w' => w'.cell? ⟨gb217, 0, none⟩ = some (.int .i64 a0_0) ∧ w'.cell? ⟨gb217, 1, none⟩ = some (.int .i64 a0_1)) (ds := []) #[fF,fF,fF,fF,fF,fF,fF,fF,fF,fF,fF,fF,fF,fF,fF,fF,fF] (by kernel_rfl) rfl rfl ⟨yc BK217.out 0, yc BK217.out 1⟩ (fun hHeld => ?_); refine with_tabW impl_isBlock.tab1 impl_isBlock.bits1 (fun HT_ HW_ => ?_)
  generalize w13.drew = w14 at BK217 HB hHeld ⊢
  refine pP 0 3 HT_ ?_
  refine tK 1 4 HT_ HW_ hHeld ?_
  refine oN 2 (some 5) HT_ (fun K hK => ?_)
  refine gS Try.func44 (by kernel_rfl) rfl #[.int .i64 a0_1, .int .i64 0, .int .i64 8] (by rfl) rfl rfl ?_
  with_reducible refine (impl_within.calls a0_1 0 8 false _ A2.out).mono ?_
  rintro e w' ⟨rfl, ⟨nd, rfl⟩⟩
  refine ⟨_, rfl, ?_⟩
  refine hK.out _ _ ⟨yc BK217.out 0, yc BK217.out 1⟩ (fun hHeld => ?_)
  clear hK K; refine nN 5 ?_
  refine pP 3 6 HT_ ?_
  refine pU 4 7 HT_ ?_
  refine pU 5 8 HT_ ?_
  refine pU 6 9 HT_ ?_
  refine pP 7 10 HT_ ?_
  refine pP 8 11 HT_ ?_
  refine pU 9 12 HT_ ?_
  refine pU 10 13 HT_ ?_
  refine pU 11 14 HT_ ?_
  refine pU 12 15 HT_ ?_
  refine pU 13 16 HT_ ?_
  refine pU 14 17 HT_ ?_
  refine pP 15 18 HT_ ?_
  refine pP 16 2 HT_ ?_
  refine done_ (done_of HT_.out (by kernel_rfl)) ?_
  try go_wp2
  go_ret
  exact ⟨eW, zH HB.out⟩

/-! ### impl_Block_61: function 61 -/
def impl_Block_61.l0 : Nat → List (S45) → Int → Int → Int → Int → Option (Int)
 | 0, _, _, _, _, _ => none
 | k + 1, x0, x7, x8, x222000, x222001 => if x8 < x7 then (if 0 ≤ x8 then (if x8 < (x0.length : Int) then (if (x222000 == ((rd_T45 x0 x8).f0) && (x222001 == ((rd_T45 x0 x8).f1))) = true then (some x8) else (impl_Block_61.l0 k x0 x7 (wrap64 (x8 + 1)) x222000 x222001)) else (none)) else (none)) else (some (-1))
def impl_Block_61.f (k : Nat) (l0 : List (S45)) (a1_0 : Int) (a1_1 : Int) : Option (Int) := impl_Block_61.l0 k l0 (l0.length : Int) 0 a1_0 a1_1
theorem impl_Block_61.mono_l : ∀ k, (∀ y0 y1 y2 y3 y4, LeO (impl_Block_61.l0 k y0 y1 y2 y3 y4) (impl_Block_61.l0 (k + 1) y0 y1 y2 y3 y4))
 | 0 => fun _ _ _ _ _ r h => by change none = some r at h; cases h
 | k + 1 => by
  have ih0 := impl_Block_61.mono_l k
  ·intro y0 y1 y2 y3 y4
   unfold impl_Block_61.l0
   repeat' first
   | (with_reducible exact ih0 _ _ _ _ _)
   | (with_reducible exact LeO.refl _)
   | (with_reducible exact LeO.none _)
   | (with_reducible refine LeO.ite ?_ ?_)
   | (with_reducible refine LeO.bind ?_ (fun _ => ?_))
   | exact ih0 _ _ _ _ _
   | exact LeO.none _
   | refine LeO.ite ?_ ?_
   | refine LeO.bind ?_ (fun _ => ?_)
theorem impl_Block_61.mono : ∀ a0 a1 a2 k, LeO (impl_Block_61.f k a0 a1 a2) (impl_Block_61.f (k + 1) a0 a1 a2) := by
 intro a0 a1 a2 k
 have ih0 := impl_Block_61.mono_l k
 unfold impl_Block_61.f
 repeat' first
   | (with_reducible exact ih0 _ _ _ _ _)
   | (with_reducible exact LeO.refl _)
   | (with_reducible exact LeO.none _)
   | (with_reducible refine LeO.ite ?_ ?_)
   | (with_reducible refine LeO.bind ?_ (fun _ => ?_))
   | exact ih0 _ _ _ _ _
   | exact LeO.none _
   | refine LeO.ite ?_ ?_
   | refine LeO.bind ?_ (fun _ => ?_)
set_option maxHeartbeats 8000000 in
set_option maxRecDepth 100000 in
theorem impl_Block_61.calls (k : Nat) (A0 : Option Addr) (c0 : Nat) (l0 : List (S45)) (a1_0 : Int) (a1_1 : Int) (r : Int) (w : World) (hr0 : Kd.C k45 w A0 l0.length l0) (hc0 : l0.length ≤ c0) (h : impl_Block_61.f k l0 a1_0 a1_1 = some r) :
  Calls Try.prog 61 #[.slice A0 l0.length c0, .agg #[.int .i64 a1_0, .int .i64 a1_1]] w fun e w' => e = .returned (.int .i64 r) ∧ Below w.heap.size w w' := by
 have hu45 := Try.underlying45; have HR0 := aM hr0; have HC0 := aM hc0; clear hr0 hc0; have HB := aM (Below.refl w.heap.size w); have H : (impl_Block_61.l0 k l0 (l0.length : Int) 0 a1_0 a1_1) = some r := h; clear h; have H' := aM H; clear H
 go_enter Try.func61, Try.ntmps61
 go_wp2_with (first | ((with_reducible refine gate_dst (N := 3) rfl ?_); refine bE 3 #[.int .i64 a1_0, .int .i64 a1_1] 45 ?_; intro gb221 hg w3 hbox hb; have BK221 := aM (hbox); have GW221 := gW hg HB.out; have GE221 := GW221; replace HB := aM (zT (zH HB.out) hb); clear hb hbox hg))
 repeat (go_quiet (first | ((with_reducible refine gate_dst (N := 3) rfl ?_); refine bE 3 #[.int .i64 a1_0, .int .i64 a1_1] 45 ?_; intro gb221 hg w3 hbox hb; have n0_ := aM (zT (zH HB.out) hb); have n1_ := aM (hbox); have n2_ := aM ((by rw [hg]; exact (zZ (zH HB.out)) : w.heap.size ≤ gb221)); have n3_ := aM ((by rw [hg]; exact (zZ (zH HB.out)) : w.heap.size ≤ gb221)); clear HB; have HB := n0_; have BK221 := n1_; have GW221 := n2_; have GE221 := n3_; clear n0_ n1_ n2_ n3_; clear hb hbox hg)); try go_wp2_with (first | ((with_reducible refine gate_dst (N := 3) rfl ?_); refine bE 3 #[.int .i64 a1_0, .int .i64 a1_1] 45 ?_; intro gb221 hg w3 hbox hb; have n0_ := aM (zT (zH HB.out) hb); have n1_ := aM (hbox); have n2_ := aM ((by rw [hg]; exact (zZ (zH HB.out)) : w.heap.size ≤ gb221)); have n3_ := aM ((by rw [hg]; exact (zZ (zH HB.out)) : w.heap.size ≤ gb221)); clear HB; have HB := n0_; have BK221 := n1_; have GW221 := n2_; have GE221 := n3_; clear n0_ n1_ n2_ n3_; clear hb hbox hg)))
 go_loopg [8] k (fun kq v8 w' => ∃ (x8_1 : Int), v8 = .int .i64 x8_1 ∧ Aside0 (impl_Block_61.l0 kq l0 (l0.length : Int) x8_1 a1_0 a1_1 = some r) ∧ Aside0 (kq ≤ k) ∧ Aside0 (w'.heap[gb221]? = some (.cells #[.int .i64 a1_0, .int .i64 a1_1] 45 (0, 0))) ∧ Aside0 (Below w.heap.size w w'))
 case atStart => exact ⟨(0), (by first | rfl | (simp; done) | (simp [*]; done)), H', ⟨Nat.le_refl _⟩, ⟨yH BK221.out⟩, ⟨zH HB.out⟩⟩
 case round =>
  clear H'; obtain ⟨x8_1, rfl, HA, HK1, BK221, HB⟩ := hrel
  cases gk with
  | zero => exact absurd HA.out (fun h_ => by change none = some _ at h_; cases h_)
  | succ k1 =>
   have H := HA.out; clear HA
   simp only [impl_Block_61.l0] at H
   by_cases c4 : x8_1 < (l0.length : Int)
   ·rw [if_pos c4] at H
    have c4b0 : decide (x8_1 < (l0.length : Int)) = true := decide_eq_true c4; clear c4
    by_cases c5 : 0 ≤ x8_1
    ·rw [if_pos c5] at H
     have c5b0 : decide (0 ≤ x8_1) = true := decide_eq_true c5; clear c5
     by_cases c6 : x8_1 < (l0.length : Int)
     ·rw [if_pos c6] at H
      have c6b0 : decide (x8_1 < (l0.length : Int)) = true := decide_eq_true c6; clear c6
      by_cases c7 : (a1_0 == ((rd_T45 l0 x8_1).f0) && (a1_1 == ((rd_T45 l0 x8_1).f1))) = true
      ·rw [if_pos c7] at H
       have c7b0 : (a1_0 == ((rd_T45 l0 x8_1).f0) && (a1_1 == ((rd_T45 l0 x8_1).f1))) = true := c7
       (try (have c7b1 : decide (a1_0 = ((rd_T45 l0 x8_1).f0) && (a1_1 == ((rd_T45 l0 x8_1).f1))) = true := by simpa using c7))
       (try (have c7b2 : (a1_0 == ((rd_T45 l0 x8_1).f0) && (a1_1 == ((rd_T45 l0 x8_1).f1))) = true := by simpa using c7))
       clear c7; obtain rfl := Option.some.inj H; have Z8_0 : wr.cell? ⟨gb221, 0, none⟩ = some (.int .i64 a1_0) := yc BK221.out 0; have Z8_1 : wr.cell? ⟨gb221, 1, none⟩ = some (.int .i64 a1_1) := yc BK221.out 1; have Y8_0 := yZ BK221.out 0; have Y8_1 := yZ BK221.out 1
       have p222 : 0 ≤ (x8_1 : Int) := of_decide_eq_true (by first | (with_reducible assumption) | assumption)
       have q222 : x8_1 < (l0.length : Int) := of_decide_eq_true (by first | (with_reducible assumption) | assumption)
       obtain ⟨ad222, e222, hx222_0, hx222_1⟩ := at_T45 HR0.out x8_1 p222 q222
       cases e222
       replace hx222_0 := (HB.out.cell (World.block_lt_of_cell? w _ hx222_0)).trans hx222_0; replace hx222_1 := (HB.out.cell (World.block_lt_of_cell? w _ hx222_1)).trans hx222_1; replace p222 := eq_true p222; replace q222 := eq_true q222
       go_wp2
       repeat (go_quiet (fail); try go_wp2)
       go_ret
       exact ⟨eW, zH HB.out⟩
      ·rw [if_neg c7] at H
       have c7b0 : (a1_0 == ((rd_T45 l0 x8_1).f0) && (a1_1 == ((rd_T45 l0 x8_1).f1))) = false := by simpa using c7
       (try (have c7b1 : decide (a1_0 = ((rd_T45 l0 x8_1).f0) && (a1_1 == ((rd_T45 l0 x8_1).f1))) = false := by simpa using c7))
       (try (have c7b2 : (a1_0 == ((rd_T45 l0 x8_1).f0) && (a1_1 == ((rd_T45 l0 x8_1).f1))) = false := by simpa using c7))
       (try (have c7b3 : ¬ (a1_0 = ((rd_T45 l0 x8_1).f0) && (a1_1 == ((rd_T45 l0 x8_1).f1))) := by simpa using c7))
       clear c7; have H' := aM H; clear H; have Z9_0 : wr.cell? ⟨gb221, 0, none⟩ = some (.int .i64 a1_0) := yc BK221.out 0; have Z9_1 : wr.cell? ⟨gb221, 1, none⟩ = some (.int .i64 a1_1) := yc BK221.out 1; have Y9_0 := yZ BK221.out 0; have Y9_1 := yZ BK221.out 1
       have p222 : 0 ≤ (x8_1 : Int) := of_decide_eq_true (by first | (with_reducible assumption) | assumption)
       have q222 : x8_1 < (l0.length : Int) := of_decide_eq_true (by first | (with_reducible assumption) | assumption)
       obtain ⟨ad222, e222, hx222_0, hx222_1⟩ := at_T45 HR0.out x8_1 p222 q222
       cases e222
       replace hx222_0 := (HB.out.cell (World.block_lt_of_cell? w _ hx222_0)).trans hx222_0; replace hx222_1 := (HB.out.cell (World.block_lt_of_cell? w _ hx222_1)).trans hx222_1; replace p222 := eq_true p222; replace q222 := eq_true q222
       go_wp2
       repeat (go_quiet (fail); try go_wp2)
       go_roundg k1
       case measure => have := HK1.out; omega
       case rel => exact ⟨(wrap64 (x8_1 + 1)), (by first | rfl | (simp; done) | (simp [*]; done)), H', ⟨by have := HK1.out; omega⟩, ⟨yH BK221.out⟩, ⟨zH HB.out⟩⟩
     ·rw [if_neg c6] at H
      exact absurd H (by simp)
    ·rw [if_neg c5] at H
     exact absurd H (by simp)
   ·rw [if_neg c4] at H
    have c4b0 : decide (x8_1 < (l0.length : Int)) = false := decide_eq_false c4; clear c4; obtain rfl := Option.some.inj H
    go_wp2
    repeat (go_quiet (fail); try go_wp2)
    go_ret
    exact ⟨eW, zH HB.out⟩

/-! ### impl_Block_37: function 37 -/
def impl_Block_37.f (k : Nat) (l0 : List (S45)) (a1_0 : Int) (a1_1 : Int) : Option (Bool) := (impl_Block_61.f k l0 a1_0 a1_1).bind fun t224 => (some (decide (t224 ≥ 0)))
theorem impl_Block_37.mono : ∀ a0 a1 a2 k, LeO (impl_Block_37.f k a0 a1 a2) (impl_Block_37.f (k + 1) a0 a1 a2) := by
 intro a0 a1 a2 k
 unfold impl_Block_37.f
 repeat' first
   | (with_reducible exact impl_Block_61.mono _ _ _ _)
   | (with_reducible exact LeO.refl _)
   | (with_reducible exact LeO.none _)
   | (with_reducible refine LeO.ite ?_ ?_)
   | (with_reducible refine LeO.bind ?_ (fun _ => ?_))
   | exact impl_Block_61.mono _ _ _ _
   | exact LeO.none _
   | refine LeO.ite ?_ ?_
   | refine LeO.bind ?_ (fun _ => ?_)
set_option maxHeartbeats 8000000 in
set_option maxRecDepth 100000 in
theorem impl_Block_37.calls (k : Nat) (A0 : Option Addr) (c0 : Nat) (l0 : List (S45)) (a1_0 : Int) (a1_1 : Int) (r : Bool) (w : World) (hr0 : Kd.C k45 w A0 l0.length l0) (hc0 : l0.length ≤ c0) (h : impl_Block_37.f k l0 a1_0 a1_1 = some r) :
  Calls Try.prog 37 #[.slice A0 l0.length c0, .agg #[.int .i64 a1_0, .int .i64 a1_1]] w fun e w' => e = .returned (.bool r) ∧ Below w.heap.size w w' := by
 have hu45 := Try.underlying45; have HR0 := aM hr0; have HC0 := aM hc0; clear hr0 hc0; have HB := aM (Below.refl w.heap.size w)
 have H : ((impl_Block_61.f k l0 a1_0 a1_1).bind fun t224 => (some (decide (t224 ≥ 0)))) = some r := h
 clear h; replace H := Option.bind_eq_some_iff.mp H; obtain ⟨t224, A30, H⟩ := H; replace H : (some (decide (t224 ≥ 0))) = some r := H; have A3 := aM A30; clear A30; obtain rfl := Option.some.inj H
 go_enter Try.func37, Try.ntmps37
 go_wp2_with (first | ((with_reducible refine gate_dst (N := 3) rfl ?_); refine bE 3 #[.int .i64 a1_0, .int .i64 a1_1] 45 ?_; intro gb223 hg w4 hbox hb; have BK223 := aM (hbox); have GW223 := gW hg HB.out; have GE223 := GW223; replace HB := aM (zT (zH HB.out) hb); clear hb hbox hg; obtain ⟨Z5_0, Z5_1, Y5_0, Y5_1⟩ := y2 BK223.out) | ((with_reducible refine gate_callee (f := 61) rfl ?_); refine goesL_ (some 7) rfl rfl Try.func61 (by kernel_rfl) rfl #[.slice A0 l0.length c0, .agg #[.int .i64 a1_0, .int .i64 a1_1]] rfl mA ?_; (with_reducible refine (impl_Block_61.calls k _ _ l0 a1_0 a1_1 t224 _ ?side1 ?side2 A3.out).mono ?_); (case side1 => exact cK HR0.out HB.out); (case side2 => exact HC0.out); rintro e w6 ⟨rfl, hb⟩; refine ⟨_, rfl, ?_⟩; replace BK223 := yK BK223.out hb; replace HB := aM (zT (zH HB.out) hb); (try clear hb)))
 go_ret
 exact ⟨eW, zH HB.out⟩

/-! ### impl_Block_buddy: function 38 -/
def impl_Block_buddy.f (a0_0 : Int) (a0_1 : Int) : Option (Int × Int) := (impl_Block_size.f a0_0 a0_1).bind fun t227 => (some (Go.bits .xor .i64 a0_0 t227, a0_1))
def impl_Block_buddy.T1 : Bool × List (List Nat × List Nat) := (true, [([], []), ([0], [0]), ([], []), ([2], [2]), ([1, 3], [1, 3]), ([], []), ([5], [5]), ([4, 6], [4, 6]), ([7, 3, 0, 1, 2, 3, 4, 5, 6, 7], [7])])
def impl_Block_buddy.B1 : List Nat := [0, 1, 0, 4, 15, 0, 32, 127, 255]
theorem impl_Block_buddy.tab1 : rtab .any (opsOf Try.f38 1) = impl_Block_buddy.T1 := by kernel_rfl
theorem impl_Block_buddy.bits1 : waitsOk impl_Block_buddy.T1.2 impl_Block_buddy.B1 = true := by kernel_rfl
set_option maxHeartbeats 8000000 in
set_option maxRecDepth 100000 in
theorem impl_Block_buddy.calls (a0_0 : Int) (a0_1 : Int) (r1 : Int) (r2 : Int) (w : World) (h : impl_Block_buddy.f a0_0 a0_1 = some (r1, r2)) :
  Calls Try.prog 38 #[.agg #[.int .i64 a0_0, .int .i64 a0_1]] w fun e w' => e = .returned (.agg #[.int .i64 r1, .int .i64 r2]) ∧ Below w.heap.size w w' := by
 have hu45 := Try.underlying45; have HB := aM (Below.refl w.heap.size w)
 have H : ((impl_Block_size.f a0_0 a0_1).bind fun t227 => (some (Go.bits .xor .i64 a0_0 t227, a0_1))) = some (r1, r2) := h
 clear h; replace H := Option.bind_eq_some_iff.mp H; obtain ⟨t227, A20, H⟩ := H; replace H : (some (Go.bits .xor .i64 a0_0 t227, a0_1)) = some (r1, r2) := H; have A2 := aM A20; clear A20
 simp only [Option.some.injEq, Prod.mk.injEq] at H
 obtain ⟨rfl, rfl⟩ := H
 go_enter Try.func38, Try.ntmps38
 try go_wp2_with (first | ((with_reducible refine gate_dst (N := 1) rfl ?_); refine bE 1 #[.int .i64 a0_0, .int .i64 a0_1] 45 ?_; intro gb225 hg w3 hbox hb; have BK225 := aM (hbox); have GW225 := gW hg HB.out; have GE225 := GW225; replace HB := aM (zT (zH HB.out) hb); clear hb hbox hg) | ((with_reducible refine gate_dst (N := 2) rfl ?_); refine bE 2 #[.int .i64 0, .int .i64 0] 45 ?_; intro gb226 hg w4 hbox hb; have BK226 := aM (hbox); have GW226 := gW hg HB.out; have GE226 := GW226; replace HB := aM (zT (zH HB.out) hb); have NB225_226 := nL BK225.out hg; have NB226_225 := nR BK225.out hg; replace BK225 := yK BK225.out hb; clear hb hbox hg))
 replace BK225 := aM (yD BK225.out); replace BK226 := aM (yD BK226.out); replace HB := aM (zD HB.out)
 refine start_ (n := 9) (S := fun w' => w'.cell? ⟨gb225, 0, none⟩ = some (.int .i64 a0_0) ∧ w'.cell? ⟨gb225, 1, none⟩ = some (.int .i64 a0_1)) (ds := []) #[fF,fF,fF,fF,fF,fF,fF,fF,fF] (by kernel_rfl) rfl rfl ⟨yc BK225.out 0, yc BK225.out 1⟩ (fun hHeld => ?_); refine with_tabW impl_Block_buddy.tab1 impl_Block_buddy.bits1 (fun HT_ HW_ => ?_)
 generalize w4.drew = w5 at BK225 BK226 HB hHeld ⊢
 refine pP 0 3 HT_ ?_
 refine pP 5 8 HT_ ?_
 refine tK 1 4 HT_ HW_ hHeld ?_
 refine tK 2 5 HT_ HW_ hHeld ?_
 refine tK 6 9 HT_ HW_ hHeld ?_
 refine oN 3 (some 6) HT_ (fun K hK => ?_)
 refine gS Try.func52 (by kernel_rfl) rfl #[.agg #[.int .i64 a0_0, .int .i64 a0_1]] (by rfl) rfl rfl ?_
 with_reducible refine (impl_Block_size.calls a0_0 a0_1 t227 _ A2.out).mono ?_
 rintro e w6 ⟨rfl, hb⟩
 refine ⟨_, rfl, ?_⟩
 replace BK225 := yK BK225.out hb; replace BK226 := yK BK226.out hb; replace HB := aM (zT (zH HB.out) hb)
 (try clear hb)
 refine hK.out _ _ ⟨yc BK225.out 0, yc BK225.out 1⟩ (fun hHeld => ?_)
 clear hK K; refine nN 6 ?_
 refine pP 4 7 HT_ ?_
 refine pP 7 10 HT_ ?_
 refine oN 8 none HT_ (fun K hK => ?_)
 have hs7 : w6.cell? ⟨gb226, 0, none⟩ = some (.int .i64 0) := yc BK226.out 0; have hfs7 := yZ BK226.out 0; have hns7_0 := NB225_226.out; have hms7_0 := NB226_225.out; have hs8 : w6.cell? ⟨gb226, 1, none⟩ = some (.int .i64 0) := yc BK226.out 1; have hfs8 := yZ BK226.out 1; have hns8_0 := NB225_226.out; have hms8_0 := NB226_225.out
 refine skip_ (w1 := ?_) (by rfl) rfl ?_ ?_
 rotate_left
 ·go_simp
  rfl
 refine hK.out _ _ ⟨((cell_far (p := ⟨gb226, _, none⟩) NB225_226.out _).trans (((cell_far (p := ⟨gb226, _, none⟩) NB225_226.out _).trans (hHeld.1)))), ((cell_far (p := ⟨gb226, _, none⟩) NB225_226.out _).trans (((cell_far (p := ⟨gb226, _, none⟩) NB225_226.out _).trans (hHeld.2))))⟩ (fun hHeld => ?_)
 clear hK K
 refine done_ (done_of HT_.out (by kernel_rfl)) ?_
 try go_wp2
 refine bodyPost_ret (results_cell_row rfl _ _ gb226 45 #[.int .i64 (Go.bits .xor .i64 a0_0 t227), .int .i64 a0_1] (0, 0) _ rfl (by refine yW ?_; refine yP (cs := #[.int .i64 (Go.bits .xor .i64 a0_0 t227), .int .i64 0]) ?_ 1 _ rfl; refine yW ?_; refine yP (cs := #[.int .i64 0, .int .i64 0]) ?_ 0 _ rfl; refine yW ?_; exact BK226.out) Try.underlying45 rfl (by kernel_rfl)) rfl ?_
 exact ⟨eW, zH HB.out⟩

end Go.Proofs.Ytbjcioihomeikaa.PFnBuddies
