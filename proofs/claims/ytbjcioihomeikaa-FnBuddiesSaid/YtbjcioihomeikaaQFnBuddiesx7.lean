/- The walks of FnBuddies: Go's calls come to what the Lean functions beside them say; no condition. -/
import Derived.Test.YtbjcioihomeikaaQFnBuddiesx0
namespace Go.Proofs.Ytbjcioihomeikaa.PFnBuddies
open Go.RowKit Go.Proofs.YtbjcioihomeikaaW.PrintWords Go.Proofs.YtbjcioihomeikaaW.PrintLast Go.Proofs.YtbjcioihomeikaaW.PrintMore
attribute [local go_sem] max2_int min2_int max_two min_two max_three min_three max_four min_four   -- for this text's walks alone
set_option linter.unusedVariables false
set_option linter.unusedSimpArgs false
set_option maxRecDepth 100000

/-! ### impl_isRising: function 48 -/
def impl_isRising.l0 : Nat → List (S45) → Int → Option (Bool)
 | 0, _, _ => none
 | k + 1, x0, x3 => if x3 < (x0.length : Int) then (if 0 ≤ x3 then (if 0 ≤ (wrap64 (x3 - 1)) then (if (wrap64 (x3 - 1)) < (x0.length : Int) then (if ((rd_T45 x0 x3).f0) ≤ ((rd_T45 x0 (wrap64 (x3 - 1))).f0) then (some false) else (impl_isRising.l0 k x0 (wrap64 (x3 + 1)))) else (none)) else (none)) else (none)) else (some true)
def impl_isRising.f (k : Nat) (l0 : List (S45)) : Option (Bool) := impl_isRising.l0 k l0 1
theorem impl_isRising.mono_l : ∀ k, (∀ y0 y1, LeO (impl_isRising.l0 k y0 y1) (impl_isRising.l0 (k + 1) y0 y1))
 | 0 => fun _ _ r h => by change none = some r at h; cases h
 | k + 1 => by
  have ih0 := impl_isRising.mono_l k
  ·intro y0 y1
   unfold impl_isRising.l0
   repeat' first
   | (with_reducible exact ih0 _ _)
   | (with_reducible exact LeO.refl _)
   | (with_reducible exact LeO.none _)
   | (with_reducible refine LeO.ite ?_ ?_)
   | (with_reducible refine LeO.bind ?_ (fun _ => ?_))
   | exact ih0 _ _
   | exact LeO.none _
   | refine LeO.ite ?_ ?_
   | refine LeO.bind ?_ (fun _ => ?_)
theorem impl_isRising.mono : ∀ a0 k, LeO (impl_isRising.f k a0) (impl_isRising.f (k + 1) a0) := by
 intro a0 k
 have ih0 := impl_isRising.mono_l k
 unfold impl_isRising.f
 repeat' first
   | (with_reducible exact ih0 _ _)
   | (with_reducible exact LeO.refl _)
   | (with_reducible exact LeO.none _)
   | (with_reducible refine LeO.ite ?_ ?_)
   | (with_reducible refine LeO.bind ?_ (fun _ => ?_))
   | exact ih0 _ _
   | exact LeO.none _
   | refine LeO.ite ?_ ?_
   | refine LeO.bind ?_ (fun _ => ?_)
set_option maxHeartbeats 8000000 in
set_option maxRecDepth 100000 in
theorem impl_isRising.calls (k : Nat) (A0 : Option Addr) (c0 : Nat) (l0 : List (S45)) (r : Bool) (w : World) (hr0 : Kd.C k45 w A0 l0.length l0) (hc0 : l0.length ≤ c0) (h : impl_isRising.f k l0 = some r) :
  Calls Try.prog 48 #[.slice A0 l0.length c0] w fun e w' => e = .returned (.bool r) ∧ Drawn0 w w' := by
 have HR0 := aM hr0; have HC0 := aM hc0; clear hr0 hc0; have H : (impl_isRising.l0 k l0 1) = some r := h; clear h; have H' := aM H; clear H
 go_enter Try.func48, Try.ntmps48
 go_wp2
 repeat (go_quiet (fail); try go_wp2)
 go_loopg [3] k (fun kq v3 w' => ∃ (x3_1 : Int), v3 = .int .i64 x3_1 ∧ Aside0 (impl_isRising.l0 kq l0 x3_1 = some r) ∧ Aside0 (kq ≤ k) ∧ Drawn0 w w')
 case atStart => exact ⟨(1), (by first | rfl | (simp; done) | (simp [*]; done)), H', ⟨Nat.le_refl _⟩, by repeat (first | exact Drawn0.refl _ | apply Drawn0.step)⟩
 case round =>
  clear H'; obtain ⟨x3_1, rfl, HA, HK1, ⟨m1, rfl⟩⟩ := hrel
  cases gk with
  | zero => exact absurd HA.out (fun h_ => by change none = some _ at h_; cases h_)
  | succ k1 =>
   have H := HA.out; clear HA
   simp only [impl_isRising.l0] at H
   by_cases c2 : x3_1 < (l0.length : Int)
   ·rw [if_pos c2] at H
    have c2b0 : decide (x3_1 < (l0.length : Int)) = true := decide_eq_true c2; clear c2
    by_cases c3 : 0 ≤ x3_1
    ·rw [if_pos c3] at H
     have c3b0 : decide (0 ≤ x3_1) = true := decide_eq_true c3; clear c3; obtain ⟨ji4, hji4⟩ : ∃ j_ : Int, (wrap64 (x3_1 - 1)) = j_ := ⟨_, rfl⟩
     replace H : (if 0 ≤ (ji4) then (if (ji4) < (l0.length : Int) then (if ((rd_T45 l0 x3_1).f0) ≤ ((rd_T45 l0 (ji4)).f0) then (some false) else (impl_isRising.l0 k1 l0 (wrap64 (x3_1 + 1)))) else (none)) else (none)) = some r := by first | (rw [hji4] at H; exact H) | (simp only [hji4] at H ⊢; exact H)
     have hji4w : (IntKind.i64.wrap (x3_1 - 1)) = ji4 := (i64_w _).trans hji4
     by_cases c5 : 0 ≤ (ji4)
     ·rw [if_pos c5] at H
      have c5b0 : decide (0 ≤ (ji4)) = true := decide_eq_true c5; clear c5
      by_cases c6 : (ji4) < (l0.length : Int)
      ·rw [if_pos c6] at H
       have c6b0 : decide ((ji4) < (l0.length : Int)) = true := decide_eq_true c6; clear c6
       by_cases c7 : ((rd_T45 l0 x3_1).f0) ≤ ((rd_T45 l0 (ji4)).f0)
       ·rw [if_pos c7] at H
        have c7b0 : decide (((rd_T45 l0 x3_1).f0) ≤ ((rd_T45 l0 (ji4)).f0)) = true := decide_eq_true c7; clear c7; obtain rfl := Option.some.inj H
        have p209 : 0 ≤ (x3_1 : Int) := of_decide_eq_true (by first | (with_reducible assumption) | assumption)
        have q209 : x3_1 < (l0.length : Int) := of_decide_eq_true (by first | (with_reducible assumption) | assumption)
        obtain ⟨ad209, e209, hx209_0, hx209_1⟩ := at_T45 HR0.out x3_1 p209 q209
        cases e209
        replace p209 := eq_true p209; replace q209 := eq_true q209
        have p210 : 0 ≤ ((ji4) : Int) := of_decide_eq_true (by first | (with_reducible assumption) | assumption)
        have q210 : (ji4) < (l0.length : Int) := of_decide_eq_true (by first | (with_reducible assumption) | assumption)
        obtain ⟨ad210, e210, hx210_0, hx210_1⟩ := at_T45 HR0.out (ji4) p210 q210
        obtain rfl : ad209 = ad210 := (by injection e210)
        replace p210 := eq_true p210; replace q210 := eq_true q210
        go_wp2
        repeat (go_quiet (fail); try go_wp2)
        go_ret
        exact ⟨by first | rfl | (simp; done) | (simp only [← hji4] <;> (first | rfl | simp)) | (simp [*]; done), by repeat (first | exact Drawn0.refl _ | apply Drawn0.step)⟩
       ·rw [if_neg c7] at H
        have c7b0 : decide (((rd_T45 l0 x3_1).f0) ≤ ((rd_T45 l0 (ji4)).f0)) = false := decide_eq_false c7; clear c7; have H' := aM H; clear H
        have p209 : 0 ≤ (x3_1 : Int) := of_decide_eq_true (by first | (with_reducible assumption) | assumption)
        have q209 : x3_1 < (l0.length : Int) := of_decide_eq_true (by first | (with_reducible assumption) | assumption)
        obtain ⟨ad209, e209, hx209_0, hx209_1⟩ := at_T45 HR0.out x3_1 p209 q209
        cases e209
        replace p209 := eq_true p209; replace q209 := eq_true q209
        have p210 : 0 ≤ ((ji4) : Int) := of_decide_eq_true (by first | (with_reducible assumption) | assumption)
        have q210 : (ji4) < (l0.length : Int) := of_decide_eq_true (by first | (with_reducible assumption) | assumption)
        obtain ⟨ad210, e210, hx210_0, hx210_1⟩ := at_T45 HR0.out (ji4) p210 q210
        obtain rfl : ad209 = ad210 := (by injection e210)
        replace p210 := eq_true p210; replace q210 := eq_true q210
        go_wp2
        repeat (go_quiet (fail); try go_wp2)
        go_roundg k1
        case measure => have := HK1.out; omega
        case rel => exact ⟨(wrap64 (x3_1 + 1)), (by first | rfl | (simp; done) | (simp [*]; done)), H', ⟨by have := HK1.out; omega⟩, by repeat (first | exact Drawn0.refl _ | apply Drawn0.step)⟩
      ·rw [if_neg c6] at H
       exact absurd H (by simp)
     ·rw [if_neg c5] at H
      exact absurd H (by simp)
    ·rw [if_neg c3] at H
     exact absurd H (by simp)
   ·rw [if_neg c2] at H
    have c2b0 : decide (x3_1 < (l0.length : Int)) = false := decide_eq_false c2; clear c2; obtain rfl := Option.some.inj H
    go_wp2
    repeat (go_quiet (fail); try go_wp2)
    go_ret
    exact ⟨by first | rfl | (simp; done) | (simp [*]; done), by repeat (first | exact Drawn0.refl _ | apply Drawn0.step)⟩

/-! ### cmp_isNaN_int: function 82 -/
def cmp_isNaN_int.f (a0 : Int) : Option (Bool) := some (a0 != a0)
set_option maxHeartbeats 8000000 in
set_option maxRecDepth 100000 in
theorem cmp_isNaN_int.calls (a0 : Int) (r : Bool) (w : World) (h : cmp_isNaN_int.f a0 = some r) :
  Calls Try.prog 82 #[.int .i64 a0] w fun e w' => e = .returned (.bool r) ∧ Drawn0 w w' := by
 have H : (some (a0 != a0)) = some r := h; clear h; obtain rfl := Option.some.inj H
 go_enter Try.func82, Try.ntmps82
 go_wp2
 go_ret
 exact ⟨by first | rfl | (simp; done) | (simp [*]; done), by repeat (first | exact Drawn0.refl _ | apply Drawn0.step)⟩

/-! ### cmp_Compare_int: function 69 -/
def cmp_Compare_int.f (a0 : Int) (a1 : Int) : Option (Int) := (cmp_isNaN_int.f a0).bind fun t211 => ((cmp_isNaN_int.f a1).bind fun t212 => (if t211 = true then (if t212 = true then (some 0) else (some (-1))) else (if t212 = true then (some 1) else (if a0 < a1 then (some (-1)) else (if a0 > a1 then (some 1) else (some 0))))))
set_option maxHeartbeats 8000000 in
set_option maxRecDepth 100000 in
theorem cmp_Compare_int.calls (a0 : Int) (a1 : Int) (r : Int) (w : World) (h : cmp_Compare_int.f a0 a1 = some r) :
  Calls Try.prog 69 #[.int .i64 a0, .int .i64 a1] w fun e w' => e = .returned (.int .i64 r) ∧ Drawn0 w w' := by
 have H : ((cmp_isNaN_int.f a0).bind fun t211 => ((cmp_isNaN_int.f a1).bind fun t212 => (if t211 = true then (if t212 = true then (some 0) else (some (-1))) else (if t212 = true then (some 1) else (if a0 < a1 then (some (-1)) else (if a0 > a1 then (some 1) else (some 0))))))) = some r := h
 clear h; replace H := Option.bind_eq_some_iff.mp H; obtain ⟨t211, A30, H⟩ := H
 replace H : ((cmp_isNaN_int.f a1).bind fun t212 => (if t211 = true then (if t212 = true then (some 0) else (some (-1))) else (if t212 = true then (some 1) else (if a0 < a1 then (some (-1)) else (if a0 > a1 then (some 1) else (some 0)))))) = some r := H
 have A3 := aM A30; clear A30; replace H := Option.bind_eq_some_iff.mp H; obtain ⟨t212, A40, H⟩ := H; replace H : (if t211 = true then (if t212 = true then (some 0) else (some (-1))) else (if t212 = true then (some 1) else (if a0 < a1 then (some (-1)) else (if a0 > a1 then (some 1) else (some 0))))) = some r := H; have A4 := aM A40; clear A40
 by_cases c5 : t211 = true
 ·subst c5
  have H1 : (if t212 = true then (some 0) else (some (-1))) = some r := by rw [if_pos rfl] at H; exact H
  clear H; have H := H1; clear H1
  by_cases c6 : t212 = true
  ·subst c6
   have H1 : (some 0) = some r := by rw [if_pos rfl] at H; exact H
   clear H; have H := H1; clear H1; obtain rfl := Option.some.inj H
   go_enter Try.func69, Try.ntmps69
   go_wp2_with (first | ((with_reducible refine gate_callee (f := 82) rfl ?_); refine goesL_ (some 8) rfl rfl Try.func82 (by kernel_rfl) rfl #[.int .i64 a0] rfl mA ?_; (with_reducible refine (cmp_isNaN_int.calls a0 true _ A3.out).mono ?_); rintro e w' ⟨rfl, ⟨nd, rfl⟩⟩; refine ⟨_, rfl, ?_⟩) | ((with_reducible refine gate_callee (f := 82) rfl ?_); refine goesL_ (some 10) rfl rfl Try.func82 (by kernel_rfl) rfl #[.int .i64 a1] rfl mA ?_; (with_reducible refine (cmp_isNaN_int.calls a1 true _ A4.out).mono ?_); rintro e w' ⟨rfl, ⟨nd, rfl⟩⟩; refine ⟨_, rfl, ?_⟩))
   go_ret
   exact ⟨by first | rfl | (simp; done) | (simp [*]; done), by repeat (first | exact Drawn0.refl _ | apply Drawn0.step)⟩
  ·replace c6 := Bool.eq_false_iff.mpr c6
   subst c6
   have H1 : (some (-1)) = some r := by rw [if_neg (show ¬ (false = true) by decide)] at H; exact H
   clear H; have H := H1; clear H1; obtain rfl := Option.some.inj H
   go_enter Try.func69, Try.ntmps69
   go_wp2_with (first | ((with_reducible refine gate_callee (f := 82) rfl ?_); refine goesL_ (some 8) rfl rfl Try.func82 (by kernel_rfl) rfl #[.int .i64 a0] rfl mA ?_; (with_reducible refine (cmp_isNaN_int.calls a0 true _ A3.out).mono ?_); rintro e w' ⟨rfl, ⟨nd, rfl⟩⟩; refine ⟨_, rfl, ?_⟩) | ((with_reducible refine gate_callee (f := 82) rfl ?_); refine goesL_ (some 10) rfl rfl Try.func82 (by kernel_rfl) rfl #[.int .i64 a1] rfl mA ?_; (with_reducible refine (cmp_isNaN_int.calls a1 false _ A4.out).mono ?_); rintro e w' ⟨rfl, ⟨nd, rfl⟩⟩; refine ⟨_, rfl, ?_⟩))
   go_ret
   exact ⟨by first | rfl | (simp; done) | (simp [*]; done), by repeat (first | exact Drawn0.refl _ | apply Drawn0.step)⟩
 ·replace c5 := Bool.eq_false_iff.mpr c5
  subst c5
  have H1 : (if t212 = true then (some 1) else (if a0 < a1 then (some (-1)) else (if a0 > a1 then (some 1) else (some 0)))) = some r := by rw [if_neg (show ¬ (false = true) by decide)] at H; exact H
  clear H; have H := H1; clear H1
  by_cases c7 : t212 = true
  ·subst c7
   have H1 : (some 1) = some r := by rw [if_pos rfl] at H; exact H
   clear H; have H := H1; clear H1; obtain rfl := Option.some.inj H
   go_enter Try.func69, Try.ntmps69
   go_wp2_with (first | ((with_reducible refine gate_callee (f := 82) rfl ?_); refine goesL_ (some 8) rfl rfl Try.func82 (by kernel_rfl) rfl #[.int .i64 a0] rfl mA ?_; (with_reducible refine (cmp_isNaN_int.calls a0 false _ A3.out).mono ?_); rintro e w' ⟨rfl, ⟨nd, rfl⟩⟩; refine ⟨_, rfl, ?_⟩) | ((with_reducible refine gate_callee (f := 82) rfl ?_); refine goesL_ (some 10) rfl rfl Try.func82 (by kernel_rfl) rfl #[.int .i64 a1] rfl mA ?_; (with_reducible refine (cmp_isNaN_int.calls a1 true _ A4.out).mono ?_); rintro e w' ⟨rfl, ⟨nd, rfl⟩⟩; refine ⟨_, rfl, ?_⟩))
   go_ret
   exact ⟨by first | rfl | (simp; done) | (simp [*]; done), by repeat (first | exact Drawn0.refl _ | apply Drawn0.step)⟩
  ·replace c7 := Bool.eq_false_iff.mpr c7
   subst c7
   have H1 : (if a0 < a1 then (some (-1)) else (if a0 > a1 then (some 1) else (some 0))) = some r := by rw [if_neg (show ¬ (false = true) by decide)] at H; exact H
   clear H; have H := H1; clear H1
   by_cases c8 : a0 < a1
   ·rw [if_pos c8] at H
    have c8b0 : decide (a0 < a1) = true := decide_eq_true c8; clear c8; obtain rfl := Option.some.inj H
    go_enter Try.func69, Try.ntmps69
    go_wp2_with (first | ((with_reducible refine gate_callee (f := 82) rfl ?_); refine goesL_ (some 8) rfl rfl Try.func82 (by kernel_rfl) rfl #[.int .i64 a0] rfl mA ?_; (with_reducible refine (cmp_isNaN_int.calls a0 false _ A3.out).mono ?_); rintro e w' ⟨rfl, ⟨nd, rfl⟩⟩; refine ⟨_, rfl, ?_⟩) | ((with_reducible refine gate_callee (f := 82) rfl ?_); refine goesL_ (some 10) rfl rfl Try.func82 (by kernel_rfl) rfl #[.int .i64 a1] rfl mA ?_; (with_reducible refine (cmp_isNaN_int.calls a1 false _ A4.out).mono ?_); rintro e w' ⟨rfl, ⟨nd, rfl⟩⟩; refine ⟨_, rfl, ?_⟩))
    go_ret
    exact ⟨by first | rfl | (simp; done) | (simp [*]; done), by repeat (first | exact Drawn0.refl _ | apply Drawn0.step)⟩
   ·rw [if_neg c8] at H
    have c8b0 : decide (a0 < a1) = false := decide_eq_false c8; clear c8
    by_cases c9 : a0 > a1
    ·rw [if_pos c9] at H
     have c9b0 : decide (a1 < a0) = true := decide_eq_true c9; clear c9; obtain rfl := Option.some.inj H
     go_enter Try.func69, Try.ntmps69
     go_wp2_with (first | ((with_reducible refine gate_callee (f := 82) rfl ?_); refine goesL_ (some 8) rfl rfl Try.func82 (by kernel_rfl) rfl #[.int .i64 a0] rfl mA ?_; (with_reducible refine (cmp_isNaN_int.calls a0 false _ A3.out).mono ?_); rintro e w' ⟨rfl, ⟨nd, rfl⟩⟩; refine ⟨_, rfl, ?_⟩) | ((with_reducible refine gate_callee (f := 82) rfl ?_); refine goesL_ (some 10) rfl rfl Try.func82 (by kernel_rfl) rfl #[.int .i64 a1] rfl mA ?_; (with_reducible refine (cmp_isNaN_int.calls a1 false _ A4.out).mono ?_); rintro e w' ⟨rfl, ⟨nd, rfl⟩⟩; refine ⟨_, rfl, ?_⟩))
     go_ret
     exact ⟨by first | rfl | (simp; done) | (simp [*]; done), by repeat (first | exact Drawn0.refl _ | apply Drawn0.step)⟩
    ·rw [if_neg c9] at H
     have c9b0 : decide (a1 < a0) = false := decide_eq_false c9; clear c9; obtain rfl := Option.some.inj H
     go_enter Try.func69, Try.ntmps69
     go_wp2_with (first | ((with_reducible refine gate_callee (f := 82) rfl ?_); refine goesL_ (some 8) rfl rfl Try.func82 (by kernel_rfl) rfl #[.int .i64 a0] rfl mA ?_; (with_reducible refine (cmp_isNaN_int.calls a0 false _ A3.out).mono ?_); rintro e w' ⟨rfl, ⟨nd, rfl⟩⟩; refine ⟨_, rfl, ?_⟩) | ((with_reducible refine gate_callee (f := 82) rfl ?_); refine goesL_ (some 10) rfl rfl Try.func82 (by kernel_rfl) rfl #[.int .i64 a1] rfl mA ?_; (with_reducible refine (cmp_isNaN_int.calls a1 false _ A4.out).mono ?_); rintro e w' ⟨rfl, ⟨nd, rfl⟩⟩; refine ⟨_, rfl, ?_⟩))
     go_ret
     exact ⟨by first | rfl | (simp; done) | (simp [*]; done), by repeat (first | exact Drawn0.refl _ | apply Drawn0.step)⟩

/-! ### impl_Block_49: function 49 (by hand) -/
section
open Go.Shelf Go.Sort
def Gr (w w' : World) : Prop := ∃ q os, w' = grow (w.drewN q) os
theorem Gr.refl (w : World) : Gr w w := ⟨0, #[], by simp [grow, World.drewN]⟩
theorem Gr.alloc {w w' : World} (h : Gr w w') (o : Obj) : Gr w (w'.alloc o) := by
 obtain ⟨q, os, rfl⟩ := h
 exact ⟨q, os ++ #[o], by rw [alloc_eq_grow, grow_grow]⟩
theorem Gr.drewN {w w' : World} (h : Gr w w') (n : Nat) : Gr w (w'.drewN n) := by
 obtain ⟨q, os, rfl⟩ := h
 exact ⟨q + n, os, by simp [grow, World.drewN, Nat.add_assoc]⟩
theorem Gr.drew {w w' : World} (h : Gr w w') : Gr w w'.drew := h.drewN 1
set_option maxHeartbeats 1000000 in
theorem cmpB_walk (x y : S45) (r : Int) (w : World) (h1 : cmp_Compare_int.f x.f0 y.f0 = some r) :
  Calls Try.prog 50 #[.agg #[.int .i64 x.f0, .int .i64 x.f1], .agg #[.int .i64 y.f0, .int .i64 y.f1]] w fun e w' => e = .returned (.int .i64 r) ∧ Gr w w' := by
 have H1 := aM h1; clear h1; obtain ⟨x0, x1⟩ := x; obtain ⟨y0, y1⟩ := y
 go_enter Try.func50, Try.ntmps50
 go_wp2_with (go_at_call 69; refine (cmp_Compare_int.calls _ _ _ _ H1.out).mono ?_; rintro e w' ⟨rfl, ⟨n1, rfl⟩⟩)
 go_ret
 exact ⟨rfl, by repeat (first | exact Gr.refl _ | apply Gr.alloc | apply Gr.drewN | apply Gr.drew)⟩
/-! #### rows of structs of two numbers, in the sort's words -/
def encB (x : S45) : List Value := [.int .i64 x.f0, .int .i64 x.f1]
instance inhB : Inhabited S45 := ⟨z45⟩
theorem encB_len (x : S45) : (encB x).length = 2 := rfl
theorem flat_get (xs : List S45) : ∀ (j : Nat) (x : S45), xs[j]? = some x → ((xs.flatMap encB).drop (j * 2)).take 2 = encB x := by
 induction xs with
 | nil => intro j x h; simp at h
 | cons y l ih =>
  intro j x h
  cases j with
  | zero =>
   obtain rfl : y = x := by simpa using h
   rfl
  | succ j =>
   have h' : l[j]? = some x := by simpa using h
   rw [← ih j x h', show (j + 1) * 2 = j * 2 + 2 by omega]
   rfl
theorem flat_len (xs : List S45) : (xs.flatMap encB).length = xs.length * 2 := by
 induction xs with
 | nil => rfl
 | cons y l ih => rw [List.flatMap_cons, List.length_append, ih, encB_len, List.length_cons]; omega
theorem reps_flat {R : S45 → List Value → Prop} (hR : ∀ p c, R p c → c = encB p) : ∀ (xs : List S45) (cs : List Value), Reps R 2 xs cs → cs = xs.flatMap encB
 | [], cs, h => by
  have := h.1
  simpa using this
 | x :: l, cs, h => by
  have h0 := hR _ _ (h.2 0 x rfl); have hl := h.1
  simp only [List.length_cons] at hl
  have ht := reps_flat hR l (cs.drop 2) ⟨by rw [List.length_drop]; omega, fun j p hj => by
   have := h.2 (j + 1) p (by simpa using hj)
   rwa [show (j + 1) * 2 = 2 + j * 2 by omega, ← List.drop_drop] at this⟩
  rw [List.flatMap_cons, ← ht, ← h0]
  simp
theorem flat_reps {R : S45 → List Value → Prop} (hR : ∀ p, R p (encB p)) (xs : List S45) : Reps R 2 xs (xs.flatMap encB) :=
 ⟨flat_len xs, fun j p hj => by rw [flat_get xs j p hj]; exact hR p⟩
theorem flat_at (xs : List S45) (j : Nat) (h : j < xs.length * 2) : (xs.flatMap encB)[j]? = some (encB (xs[j / 2]'(by omega)))[j % 2]! := by
 have hx : xs[j / 2]? = some (xs[j / 2]'(by omega)) := List.getElem?_eq_getElem (by omega)
 have h1 := flat_get xs (j / 2) _ hx
 have h2 : (((xs.flatMap encB).drop (j / 2 * 2)).take 2)[j % 2]? = (xs.flatMap encB)[j]? := by
  rw [List.getElem?_take, if_pos (by omega), List.getElem?_drop, show j / 2 * 2 + j % 2 = j by omega]
 rw [← h2, h1]
 have hlt : j % 2 < (encB (xs[j / 2]'(by omega))).length := by rw [encB_len]; omega
 rw [List.getElem?_eq_getElem hlt, getElem!_pos (encB _) (j % 2) hlt]
theorem flatK_list (xs : List S45) : (flatK encB 2 xs.toArray).toList = xs.flatMap encB := by
 apply List.ext_getElem?
 intro j
 by_cases hj : j < xs.length * 2
 ·rw [flat_at xs j hj, Array.getElem?_toList]
  have hs : j < (flatK encB 2 xs.toArray).size := by rw [size_flatK]; simpa using hj
  rw [Array.getElem?_eq_getElem hs]
  have := get_flatK encB 2 xs.toArray j (by simpa using hj)
  rw [getElem!_pos _ j hs] at this
  rw [this]
  have hq : j / 2 < xs.toArray.size := by simp; omega
  rw [getElem!_pos xs.toArray (j / 2) hq]
  simp
 ·exact (List.getElem?_eq_none (by rw [Array.length_toList, size_flatK]; simp; omega)).trans (List.getElem?_eq_none (by rw [flat_len]; omega)).symm
theorem R_flat {w : World} {base : Nat} {ok : Nat → Prop} {v : Value} {xs : List S45} (h : Kd.R k45 45 w base ok v xs) : w.ownsRow base 45 2 v xs.length (xs.flatMap encB) ∧ ∀ k, v.ownBlock = some k → ok k := by
 obtain ⟨h0, inner, ho, hr⟩ := h
 have e := reps_flat (fun p c hp => k45_openM hp) xs inner hr
 subst e
 exact ⟨ho, h0⟩
theorem flat_R {w : World} {base : Nat} {ok : Nat → Prop} {v : Value} {xs : List S45} (h : w.ownsRow base 45 2 v xs.length (xs.flatMap encB)) (h0 : ∀ k, v.ownBlock = some k → ok k) : Kd.R k45 45 w base ok v xs :=
 ⟨h0, _, h, flat_reps (fun p => k45_mkM _ _ _ p) xs⟩
theorem holds_flat {w : World} {base g cap : Nat} {xs : List S45} (h : w.ownsRow base 45 2 (.slice (some ⟨g, 0, none⟩) xs.length cap) xs.length (xs.flatMap encB)) : HoldsK encB 2 w g 0 xs.toArray ∧ g < w.heap.size ∧ base ≤ g := by
 rcases h.2 with ⟨e0, _⟩ | ⟨g', cap', cur, e0, hb, hg, hn, hm, hs, ht⟩
 ·cases e0
 ·injection e0 with e1 _ e3
  injection e1 with e1
  injection e1 with e1
  subst e1; subst e3
  refine ⟨fun j hj => ?_, blk_lt hg, hb⟩
  have hj' : j < xs.length * 2 := by rw [size_flatK] at hj; simpa using hj
  refine ⟨?_, by simp [World.frozen?, hg]⟩
  have e1 : (cur.toList.take (xs.length * 2))[j]? = (flatK encB 2 xs.toArray).toList[j]? := by rw [ht, flatK_list]
  rw [List.getElem?_take, if_pos hj', Array.getElem?_toList, Array.getElem?_toList, Array.getElem?_eq_getElem hj] at e1
  rw [yC hg, Nat.zero_add, e1, getElem!_pos _ j hj]
  rfl
theorem sorted_flat {w : World} {base g cap q : Nat} {xs ys : List S45} (os : Array Obj) (hy : ys.length = xs.length) (h : w.ownsRow base 45 2 (.slice (some ⟨g, 0, none⟩) xs.length cap) xs.length (xs.flatMap encB)) :
  (sortWorldK encB 2 w g 0 q ys.toArray os).ownsRow base 45 2 (.slice (some ⟨g, 0, none⟩) xs.length cap) ys.length (ys.flatMap encB) := by
 rcases h.2 with ⟨e0, _⟩ | ⟨g', cap', cur, e0, hb, hg, hn, hm, hs, ht⟩
 ·cases e0
 ·injection e0 with e1 _ e3
  injection e1 with e1
  injection e1 with e1
  subst e1; subst e3
  rw [← hy]
  refine ⟨flat_len ys, .inr ⟨g, cap, putCells id 0 (flatK encB 2 ys.toArray) cur, rfl, hb, ?_, by omega, hm, by simpa [putCells] using hs, ?_⟩⟩
  ·have hgs : g < w.heap.size := blk_lt hg
   obtain ⟨_, hge⟩ := Array.getElem?_eq_some_iff.mp hg
   simp [sortWorldK, grow, putRowK, putRow, mapBlock, Sort.ahead, Array.getElem?_append, Array.getElem_modify, hgs, hge, onCells]
  ·rw [← flatK_list]
   apply List.ext_getElem?
   intro j
   rw [List.getElem?_take, Array.getElem?_toList, Array.getElem?_toList]
   by_cases hj : j < ys.length * 2
   ·have hjc : j < cur.size := by omega
    have hjf : j < (flatK encB 2 ys.toArray).size := by rw [size_flatK]; simpa using hj
    simp only [if_pos hj, putCells, Array.getElem?_mapIdx, Array.getElem?_eq_getElem hjc, Option.map_some]
    rw [if_pos (by omega), Array.getElem?_eq_getElem hjf, getElem!_pos _ _ (by simpa using hjf)]
    simp
   ·rw [if_neg hj, Array.getElem?_eq_none (by rw [size_flatK]; simp; omega)]
theorem grown_sorted {w : World} {g n cap q : Nat} {ys : List S45} (os : Array Obj) : w.grownBy (sortWorldK encB 2 w g 0 q ys.toArray os) (Value.slice (some ⟨g, 0, none⟩) n cap).ownBlock :=
 ⟨rfl, rfl, rfl, by simp [sortWorldK, grow, putRowK, putRow, mapBlock, Sort.ahead], fun k hk hne => by
  have hg : g ≠ k := fun e => hne (by rw [e]; rfl)
  simp [sortWorldK, grow, putRowK, putRow, mapBlock, Sort.ahead, Array.getElem?_append, Array.getElem_modify, hk, hg]⟩
def sortLay_ren : Go.Shelf.Ren := ⟨fun | 6 => 49 | 15 => 68 | 14 => 67 | 28 => 80 | 29 => 81 | 20 => 72 | 21 => 73 | 22 => 74 | 23 => 75 | 24 => 76 | 25 => 77 | 26 => 78 | 27 => 79 | 46 => 84 | 47 => 85 | 48 => 86 | 49 => 87 | 50 => 88 | 57 => 90 | n => n, fun | 22 => 26 | 24 => 45 | 25 => 73 | 3 => 3 | 39 => 43 | 0 => 0 | 53 => 98 | 55 => 66 | 4 => 4 | 46 => 92 | 45 => 91 | 50 => 76 | 5 => 5 | 9 => 9 | 66 => 100 | 70 => 104 | 76 => 107 | 77 => 108 | n => n, fun | n => n⟩
theorem sortLay : Go.Proofs.SlLaysF0.n6 Try.prog sortLay_ren := {
 mixed := by kernel_rfl,
 f6 := ⟨Try.f49.name, by decide, Try.func49.trans (congrArg some (by kernel_rfl))⟩,
 f14 := ⟨Try.f67.name, by decide, Try.func67.trans (congrArg some (by kernel_rfl))⟩,
 f15 := Try.func68.trans (congrArg some (by kernel_rfl)),
 f20 := ⟨Try.f72.name, by decide, Try.func72.trans (congrArg some (by kernel_rfl))⟩,
 f21 := ⟨Try.f73.name, by decide, Try.func73.trans (congrArg some (by kernel_rfl))⟩,
 f22 := ⟨Try.f74.name, by decide, Try.func74.trans (congrArg some (by kernel_rfl))⟩,
 f23 := ⟨Try.f75.name, by decide, Try.func75.trans (congrArg some (by kernel_rfl))⟩,
 f24 := ⟨Try.f76.name, by decide, Try.func76.trans (congrArg some (by kernel_rfl))⟩,
 f25 := ⟨Try.f77.name, by decide, Try.func77.trans (congrArg some (by kernel_rfl))⟩,
 f26 := ⟨Try.f78.name, by decide, Try.func78.trans (congrArg some (by kernel_rfl))⟩,
 f27 := ⟨Try.f79.name, by decide, Try.func79.trans (congrArg some (by kernel_rfl))⟩,
 f28 := Try.func80.trans (congrArg some (by kernel_rfl)),
 f29 := Try.func81.trans (congrArg some (by kernel_rfl)),
 f46 := ⟨Try.f84.name, by decide, Try.func84.trans (congrArg some (by kernel_rfl))⟩,
 f47 := Try.func85.trans (congrArg some (by kernel_rfl)),
 f48 := Try.func86.trans (congrArg some (by kernel_rfl)),
 f49 := ⟨Try.f87.name, by decide, Try.func87.trans (congrArg some (by kernel_rfl))⟩,
 f50 := ⟨Try.f88.name, by decide, Try.func88.trans (congrArg some (by kernel_rfl))⟩,
 f57 := ⟨Try.f90.name, by decide, Try.func90.trans (congrArg some (by kernel_rfl))⟩,
 t0 := Try.underlying0,
 a0 := Try.isAgg0,
 z0 := Try.sizeOf0,
 v0 := Try.zeroValue0,
 t3 := Try.underlying3,
 a3 := Try.isAgg3,
 z3 := Try.sizeOf3,
 v3 := Try.zeroValue3,
 t4 := Try.underlying4,
 a4 := Try.isAgg4,
 z4 := Try.sizeOf4,
 v4 := Try.zeroValue4,
 t5 := Try.underlying5,
 a5 := Try.isAgg5,
 z5 := Try.sizeOf5,
 v5 := Try.zeroValue5,
 t9 := Try.underlying9,
 a9 := Try.isAgg9,
 z9 := Try.sizeOf9,
 v9 := Try.zeroValue9,
 t22 := Try.underlying26,
 a22 := Try.isAgg26,
 z22 := Try.sizeOf26,
 v22 := Try.zeroValue26,
 t25 := Try.underlying73,
 a25 := Try.isAgg73,
 z25 := Try.sizeOf73,
 v25 := Try.zeroValue73,
 t39 := Try.underlying43,
 a39 := Try.isAgg43,
 z39 := Try.sizeOf43,
 v39 := Try.zeroValue43,
 t45 := Try.underlying91,
 a45 := Try.isAgg91,
 z45 := Try.sizeOf91,
 v45 := Try.zeroValue91,
 t46 := Try.underlying92,
 a46 := Try.isAgg92,
 z46 := Try.sizeOf92,
 v46 := Try.zeroValue92,
 t50 := Try.underlying76,
 a50 := Try.isAgg76,
 z50 := Try.sizeOf76,
 v50 := Try.zeroValue76,
 t53 := Try.underlying98,
 a53 := Try.isAgg98,
 z53 := Try.sizeOf98,
 v53 := Try.zeroValue98,
 t55 := Try.underlying66,
 a55 := Try.isAgg66,
 z55 := Try.sizeOf66,
 v55 := Try.zeroValue66,
 t66 := Try.underlying100,
 a66 := Try.isAgg100,
 z66 := Try.sizeOf100,
 v66 := Try.zeroValue100,
 t70 := Try.underlying104,
 a70 := Try.isAgg104,
 z70 := Try.sizeOf104,
 v70 := Try.zeroValue104,
 t76 := Try.underlying107,
 a76 := Try.isAgg107,
 z76 := Try.sizeOf107,
 v76 := Try.zeroValue107,
 t77 := Try.underlying108,
 a77 := Try.isAgg108,
 z77 := Try.sizeOf108,
 v77 := Try.zeroValue108 }
/-- compare -/
def cmpI (a b : Int) : Int := if a < b then -1 else if a > b then 1 else 0
theorem cmpI_f (a b : Int) : cmp_Compare_int.f a b = some (cmpI a b) := by
 unfold cmp_Compare_int.f cmp_isNaN_int.f cmpI
 simp only [Option.bind_some, bne_self_eq_false]
 rw [if_neg (by decide), if_neg (by decide)]
 split
 ·rfl
 ·split <;> rfl
def cmpB (x y : S45) : Int := cmpI x.f0 y.f0
theorem lt_cmpB (x y : S45) : ltOf cmpB x y = decide (x.f0 < y.f0) := by
 unfold ltOf cmpB cmpI
 rw [decide_eq_decide]
 by_cases h1 : x.f0 < y.f0
 ·rw [if_pos h1]; simp [h1]
 ·rw [if_neg h1]
  by_cases h2 : x.f0 > y.f0
  ·rw [if_pos h2]; simp; omega
  ·rw [if_neg h2]; simp [h1]
theorem swoB : SWO (ltOf cmpB) where
 irrefl x := by rw [lt_cmpB]; simp
 trans x y z h1 h2 := by rw [lt_cmpB] at *; simp at *; omega
 ntrans x y z h1 h2 := by rw [lt_cmpB] at *; simp at *; omega
/-- the blocks by their places -/
def sortB (l : List S45) : List S45 := (pdq (ltOf cmpB) l.toArray 0 l.length (Lib.bitLen l.length) true true).toList
theorem sortB_told (l : List S45) : (sortB l).length = l.length ∧ (sortB l).Perm l ∧ (sortB l).Pairwise (fun x y => x.f0 ≤ y.f0) := by
 have h := pdq_sorts (ltOf cmpB) swoB l.toArray 0 l.toArray.size (Lib.bitLen l.length) true true (Nat.zero_le _) (Nat.le_refl _) (Or.inl rfl)
 simp only [List.size_toArray] at h
 obtain ⟨⟨h1, _, h3⟩, h4⟩ := h
 rw [List.size_toArray] at h1
 unfold sortB
 generalize pdq (ltOf cmpB) l.toArray 0 l.length (Lib.bitLen l.length) true true = d at h1 h3 h4
 have hs : d.size = l.length := by simpa using h1
 refine ⟨by rw [Array.length_toList]; exact hs, ?_, ?_⟩
 ·have e1 : d.extract 0 l.length = d := by rw [← hs]; simp
  have e2 : l.toArray.extract 0 l.length = l.toArray := by simp
  rw [e1, e2] at h3
  exact h3
 ·rw [List.pairwise_iff_getElem]
  intro i j hi hj hij
  rw [Array.length_toList] at hi hj
  have := h4 i j (Nat.zero_le _) hij (by omega)
  rw [lt_cmpB, getElem!_pos d i hi, getElem!_pos d j hj] at this
  simp only [Array.getElem_toList]
  have := of_decide_eq_false this
  omega
theorem cmpLaysB (blk off size : Nat) (w : World) : CmpLays Try.prog 50 #[] encB 2 cmpB blk off size w := fun m os dk _ x y =>
 cmpB_walk x y _ _ (cmpI_f _ _)
set_option maxHeartbeats 400000 in
theorem sort_own {w : World} {base : Nat} {v : Value} {xs : List S45} (h : Kd.R k45 45 w base (fun _ => True) v xs) (hl : xs.length < 2 ^ 44) :
  Calls Try.prog 49 #[v, .func (.func 50) #[] #[]] w fun e w' => e = .returned (.tuple #[]) ∧ Kd.R k45 45 w' base (fun _ => True) v (sortB xs) ∧ w.grownBy w' v.ownBlock := by
 rcases Nat.eq_zero_or_pos xs.length with h0 | h0
 ·have hx := List.eq_nil_of_length_eq_zero h0
  subst hx
  obtain ⟨A, c, rfl⟩ := Kd.R_slice h
  refine (AnyF.slices_SortFunc_none { sortLay with } A c (.func (.func 50) #[] #[]) w).mono ?_
  rintro e w' ⟨he, rfl⟩
  exact ⟨he, by rw [show sortB [] = [] from List.eq_nil_of_length_eq_zero (sortB_told []).1]; exact h, ⟨rfl, rfl, rfl, Nat.le_refl _, fun _ _ _ => rfl⟩⟩
 ·obtain ⟨g, cap, rfl, hb, hg, _⟩ := Kd.R_form h h0
  obtain ⟨ho, hok⟩ := R_flat h; obtain ⟨hH, _, _⟩ := holds_flat ho
  have hcon := AnyQ.slices_SortFunc_eq sortLay 2 Try.isAgg45 Try.sizeOf45 encB encB_len (fun x v hv => by simp [encB] at hv; rcases hv with rfl | rfl <;> rfl) cmpB swoB 50 #[] g 0 cap xs.toArray w (enters_of Try.func50 (by kernel_rfl) rfl) (cmpLaysB g 0 _ w) hH hg (by simp; omega)
  have hcon' : Calls Try.prog 49 #[.slice (some ⟨g, 0, none⟩) xs.length cap, .func (.func 50) #[] #[]] w _ := hcon
  refine hcon'.mono ?_
  rintro e w' ⟨he, n, os, rfl⟩
  have ea : pdq (ltOf cmpB) xs.toArray 0 xs.toArray.size (Lib.bitLen xs.toArray.size) true true = (sortB xs).toArray := by unfold sortB; simp
  rw [ea]
  exact ⟨he, flat_R (sorted_flat os (sortB_told xs).1 ho) hok, grown_sorted os⟩
end


/-! ### impl_compareBlocks: function 50 -/
def impl_compareBlocks.f (a0_0 : Int) (a0_1 : Int) (a1_0 : Int) (a1_1 : Int) : Option (Int) := (cmp_Compare_int.f a0_0 a1_0).bind fun t215 => (some t215)
set_option maxHeartbeats 8000000 in
set_option maxRecDepth 100000 in
theorem impl_compareBlocks.calls (a0_0 : Int) (a0_1 : Int) (a1_0 : Int) (a1_1 : Int) (r : Int) (w : World) (h : impl_compareBlocks.f a0_0 a0_1 a1_0 a1_1 = some r) :
  Calls Try.prog 50 #[.agg #[.int .i64 a0_0, .int .i64 a0_1], .agg #[.int .i64 a1_0, .int .i64 a1_1]] w fun e w' => e = .returned (.int .i64 r) ∧ Below w.heap.size w w' := by
 have hu45 := Try.underlying45; have HB := aM (Below.refl w.heap.size w)
 have H : ((cmp_Compare_int.f a0_0 a1_0).bind fun t215 => (some t215)) = some r := h
 clear h; replace H := Option.bind_eq_some_iff.mp H; obtain ⟨t215, A30, H⟩ := H; replace H : (some t215) = some r := H; have A3 := aM A30; clear A30; obtain rfl := Option.some.inj H
 go_enter Try.func50, Try.ntmps50
 go_wp2_with (first | ((with_reducible refine gate_dst (N := 2) rfl ?_); refine bE 2 #[.int .i64 a0_0, .int .i64 a0_1] 45 ?_; intro gb213 hg w4 hbox hb; have BK213 := aM (hbox); have GW213 := gW hg HB.out; have GE213 := GW213; replace HB := aM (zT (zH HB.out) hb); clear hb hbox hg) | ((with_reducible refine gate_dst (N := 3) rfl ?_); refine bE 3 #[.int .i64 a1_0, .int .i64 a1_1] 45 ?_; intro gb214 hg w5 hbox hb; have BK214 := aM (hbox); have GW214 := gW hg HB.out; have GE214 := GW214; replace HB := aM (zT (zH HB.out) hb); have NB213_214 := nL BK213.out hg; have NB214_213 := nR BK213.out hg; replace BK213 := yK BK213.out hb; clear hb hbox hg; have M6 := NB213_214.out; have L6 := NB214_213.out; obtain ⟨Z7_0, Z7_1, Y7_0, Y7_1⟩ := y2 BK213.out; obtain ⟨Z8_0, Z8_1, Y8_0, Y8_1⟩ := y2 BK214.out) | ((with_reducible refine gate_callee (f := 69) rfl ?_); refine goesL_ (some 9) rfl rfl Try.func69 (by kernel_rfl) rfl #[.int .i64 a0_0, .int .i64 a1_0] rfl mA ?_; (with_reducible refine (cmp_Compare_int.calls a0_0 a1_0 t215 _ A3.out).mono ?_); rintro e w' ⟨rfl, ⟨nd, rfl⟩⟩; refine ⟨_, rfl, ?_⟩))
 go_ret
 exact ⟨eW, zH HB.out⟩

/-! ### impl_Block_size: function 52 -/
def impl_Block_size.f (a0_0 : Int) (a0_1 : Int) : Option (Int) := if 0 ≤ a0_1 then (some (shl .i64 1 a0_1)) else (none)
set_option maxHeartbeats 8000000 in
set_option maxRecDepth 100000 in
theorem impl_Block_size.calls (a0_0 : Int) (a0_1 : Int) (r : Int) (w : World) (h : impl_Block_size.f a0_0 a0_1 = some r) :
  Calls Try.prog 52 #[.agg #[.int .i64 a0_0, .int .i64 a0_1]] w fun e w' => e = .returned (.int .i64 r) ∧ Below w.heap.size w w' := by
 have hu45 := Try.underlying45; have HB := aM (Below.refl w.heap.size w); have H : (if 0 ≤ a0_1 then (some (shl .i64 1 a0_1)) else (none)) = some r := h; clear h
 by_cases c2 : 0 ≤ a0_1
 ·rw [if_pos c2] at H
  have c2b0 := eq_true c2; have c2b1 : decide (0 ≤ a0_1) = true := decide_eq_true c2; clear c2; obtain ⟨ji3, hji3⟩ : ∃ j_ : Int, (shl .i64 1 a0_1) = j_ := ⟨_, rfl⟩
  replace H : (some ji3) = some r := by first | (rw [hji3] at H; exact H) | (simp only [hji3] at H ⊢; exact H)
  have hji3_ : (IntKind.i64.wrap (1 * 2 ^ min a0_1.toNat 64)) = ji3 := hji3; have hji3z : a0_1 ≤ 64 → (IntKind.i64.wrap (1 * 2 ^ a0_1.toNat)) = ji3 := shl_small hji3
  have hji3u : (IntKind.i64.wrap (2 ^ min a0_1.toNat 64)) = ji3 := by have h_ := hji3_; rw [Int.one_mul] at h_; exact h_
  have hji3v : a0_1 ≤ 64 → (IntKind.i64.wrap (2 ^ a0_1.toNat)) = ji3 := fun hle_ => by have h_ := hji3z hle_; rw [Int.one_mul] at h_; exact h_
  have hji3y : (wrap64 (1 * 2 ^ min a0_1.toNat 64)) = ji3 := (i64_w _).symm.trans hji3_
  have hji3x : a0_1 ≤ 64 → (wrap64 (1 * 2 ^ a0_1.toNat)) = ji3 := fun h_ => (i64_w _).symm.trans (hji3z h_)
  obtain rfl := Option.some.inj H
  go_enter Try.func52, Try.ntmps52
  go_wp2_with (first | ((with_reducible refine gate_dst (N := 1) rfl ?_); refine bE 1 #[.int .i64 a0_0, .int .i64 a0_1] 45 ?_; intro gb216 hg w4 hbox hb; have BK216 := aM (hbox); have GW216 := gW hg HB.out; have GE216 := GW216; replace HB := aM (zT (zH HB.out) hb); clear hb hbox hg; obtain ⟨Z5_0, Z5_1, Y5_0, Y5_1⟩ := y2 BK216.out))
  go_ret
  exact ⟨by first | rfl | (simp [errW_none, errW_some] <;> rfl) | (simp only [← hji3]; first | rfl | (simp [errW_none, errW_some] <;> rfl)) | (simp [*, errW_none, errW_some] <;> rfl), zH HB.out⟩
 ·rw [if_neg c2] at H
  exact absurd H (by simp)

end Go.Proofs.Ytbjcioihomeikaa.PFnBuddies
