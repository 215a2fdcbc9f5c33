/- The walks of FnBuddies: Go's calls come to what the Lean functions beside them say; no condition. -/
import Derived.Test.YtbjcioihomeikaaQFnBuddiesx0
import Derived.Test.YtbjcioihomeikaaQFnBuddiesx1
namespace Go.Proofs.Ytbjcioihomeikaa.PFnBuddies
open Go.RowKit Go.Proofs.YtbjcioihomeikaaW.PrintWords Go.Proofs.YtbjcioihomeikaaW.PrintLast Go.Proofs.YtbjcioihomeikaaW.PrintMore
attribute [local go_sem] max2_int min2_int max_two min_two max_three min_three max_four min_four   -- for this text's walks alone
set_option linter.unusedVariables false
set_option linter.unusedSimpArgs false
set_option maxRecDepth 100000

attribute [local go_sem high] eqA45
/-! ### spec_l6At: function 28 -/
def spec_l6At.l0 : Nat → List (S45) → Int → Int → Int → Int → Option (Int)
 | 0, _, _, _, _, _ => none
 | k + 1, x7, x8, x9, x102000, x102001 => if x9 < x8 then (if 0 ≤ x9 then (if x9 < (x7.length : Int) then (if (((rd_T45 x7 x9).f0) == x102000 && (((rd_T45 x7 x9).f1) == x102001)) = true then (some x9) else (spec_l6At.l0 k x7 x8 (wrap64 (x9 + 1)) x102000 x102001)) else (none)) else (none)) else (some (-1))
def spec_l6At.f (k : Nat) (l0 : List (S45)) (a1_0 : Int) (a1_1 : Int) : Option (Int) := spec_l6At.l0 k l0 (l0.length : Int) 0 a1_0 a1_1
theorem spec_l6At.mono_l : ∀ k, (∀ y0 y1 y2 y3 y4, LeO (spec_l6At.l0 k y0 y1 y2 y3 y4) (spec_l6At.l0 (k + 1) y0 y1 y2 y3 y4))
 | 0 => fun _ _ _ _ _ r h => by change none = some r at h; cases h
 | k + 1 => by
  have ih0 := spec_l6At.mono_l k
  ·intro y0 y1 y2 y3 y4
   unfold spec_l6At.l0
   repeat' first
   | (with_reducible exact ih0 _ _ _ _ _)
   | (with_reducible exact LeO.refl _)
   | (with_reducible exact LeO.none _)
   | (with_reducible refine LeO.ite ?_ ?_)
   | (with_reducible refine LeO.bind ?_ (fun _ => ?_))
   | exact ih0 _ _ _ _ _
   | exact LeO.none _
   | refine LeO.ite ?_ ?_
   | refine LeO.bind ?_ (fun _ => ?_)
theorem spec_l6At.mono : ∀ a0 a1 a2 k, LeO (spec_l6At.f k a0 a1 a2) (spec_l6At.f (k + 1) a0 a1 a2) := by
 intro a0 a1 a2 k
 have ih0 := spec_l6At.mono_l k
 unfold spec_l6At.f
 repeat' first
   | (with_reducible exact ih0 _ _ _ _ _)
   | (with_reducible exact LeO.refl _)
   | (with_reducible exact LeO.none _)
   | (with_reducible refine LeO.ite ?_ ?_)
   | (with_reducible refine LeO.bind ?_ (fun _ => ?_))
   | exact ih0 _ _ _ _ _
   | exact LeO.none _
   | refine LeO.ite ?_ ?_
   | refine LeO.bind ?_ (fun _ => ?_)
set_option maxHeartbeats 8000000 in
set_option maxRecDepth 100000 in
theorem spec_l6At.calls (k : Nat) (A0 : Option Addr) (c0 : Nat) (l0 : List (S45)) (a1_0 : Int) (a1_1 : Int) (r : Int) (w : World) (hr0 : Kd.C k45 w A0 l0.length l0) (hc0 : l0.length ≤ c0) (h : spec_l6At.f k l0 a1_0 a1_1 = some r) :
  Calls Try.prog 28 #[.slice A0 l0.length c0, .agg #[.int .i64 a1_0, .int .i64 a1_1]] w fun e w' => e = .returned (.int .i64 r) ∧ Below w.heap.size w w' := by
 have hu45 := Try.underlying45; have HR0 := aM hr0; have HC0 := aM hc0; clear hr0 hc0; have HB := aM (Below.refl w.heap.size w); have H : (spec_l6At.l0 k l0 (l0.length : Int) 0 a1_0 a1_1) = some r := h; clear h; have H' := aM H; clear H
 go_enter Try.func28, Try.ntmps28
 go_wp2_with (first | ((with_reducible refine gate_dst (N := 3) rfl ?_); refine bE 3 #[.int .i64 a1_0, .int .i64 a1_1] 45 ?_; intro gb101 hg w3 hbox hb; have BK101 := aM (hbox); have GW101 := gW hg HB.out; have GE101 := GW101; replace HB := aM (zT (zH HB.out) hb); clear hb hbox hg))
 go_loopg [9] k (fun kq v9 w' => ∃ (x9_1 : Int), v9 = .int .i64 x9_1 ∧ Aside0 (spec_l6At.l0 kq l0 (l0.length : Int) x9_1 a1_0 a1_1 = some r) ∧ Aside0 (kq ≤ k) ∧ Aside0 (w'.heap[gb101]? = some (.cells #[.int .i64 a1_0, .int .i64 a1_1] 45 (0, 0))) ∧ Aside0 (Below w.heap.size w w'))
 case atStart => exact ⟨(0), (by first | rfl | (simp; done) | (simp [*]; done)), H', ⟨Nat.le_refl _⟩, ⟨yH BK101.out⟩, ⟨zH HB.out⟩⟩
 case round =>
  clear H'; obtain ⟨x9_1, rfl, HA, HK1, BK101, HB⟩ := hrel
  cases gk with
  | zero => exact absurd HA.out (fun h_ => by change none = some _ at h_; cases h_)
  | succ k1 =>
   have H := HA.out; clear HA
   simp only [spec_l6At.l0] at H
   by_cases c4 : x9_1 < (l0.length : Int)
   ·rw [if_pos c4] at H
    have c4b0 : decide (x9_1 < (l0.length : Int)) = true := decide_eq_true c4; clear c4
    by_cases c5 : 0 ≤ x9_1
    ·rw [if_pos c5] at H
     have c5b0 : decide (0 ≤ x9_1) = true := decide_eq_true c5; clear c5
     by_cases c6 : x9_1 < (l0.length : Int)
     ·rw [if_pos c6] at H
      have c6b0 : decide (x9_1 < (l0.length : Int)) = true := decide_eq_true c6; clear c6
      by_cases c7 : (((rd_T45 l0 x9_1).f0) == a1_0 && (((rd_T45 l0 x9_1).f1) == a1_1)) = true
      ·rw [if_pos c7] at H
       have c7b0 : (((rd_T45 l0 x9_1).f0) == a1_0 && (((rd_T45 l0 x9_1).f1) == a1_1)) = true := c7
       (try (have c7b1 : decide (((rd_T45 l0 x9_1).f0) = a1_0 && (((rd_T45 l0 x9_1).f1) == a1_1)) = true := by simpa using c7))
       (try (have c7b2 : (((rd_T45 l0 x9_1).f0) == a1_0 && (((rd_T45 l0 x9_1).f1) == a1_1)) = true := by simpa using c7))
       clear c7; obtain rfl := Option.some.inj H
       have p102 : 0 ≤ (x9_1 : Int) := of_decide_eq_true (by first | (with_reducible assumption) | assumption)
       have q102 : x9_1 < (l0.length : Int) := of_decide_eq_true (by first | (with_reducible assumption) | assumption)
       obtain ⟨ad102, e102, hx102_0, hx102_1⟩ := at_T45 HR0.out x9_1 p102 q102
       cases e102
       replace hx102_0 := (HB.out.cell (World.block_lt_of_cell? w _ hx102_0)).trans hx102_0; replace hx102_1 := (HB.out.cell (World.block_lt_of_cell? w _ hx102_1)).trans hx102_1; replace p102 := eq_true p102; replace q102 := eq_true q102
       go_wp2_with (first | ((with_reducible refine gate_dst (N := 6) rfl ?_); refine bE 6 #[.int .i64 0, .int .i64 0] 45 ?_; intro gb103 hg w8 hbox hb; have BK103 := aM (hbox); have GW103 := gW hg HB.out; have GE103 := GW103; replace HB := aM (zT (zH HB.out) hb); have NB101_103 := nL BK101.out hg; have NB103_101 := nR BK101.out hg; replace BK101 := yK BK101.out hb; clear hb hbox hg; have M9 := NB103_101.out; have L9 := NB101_103.out; obtain ⟨Z10_0, Z10_1, Y10_0, Y10_1⟩ := y2 BK103.out; obtain ⟨Z11_0, Z11_1, Y11_0, Y11_1⟩ := y2 BK101.out))
       go_ret
       exact ⟨eW, zH HB.out⟩
      ·rw [if_neg c7] at H
       have c7b0 : (((rd_T45 l0 x9_1).f0) == a1_0 && (((rd_T45 l0 x9_1).f1) == a1_1)) = false := by simpa using c7
       (try (have c7b1 : decide (((rd_T45 l0 x9_1).f0) = a1_0 && (((rd_T45 l0 x9_1).f1) == a1_1)) = false := by simpa using c7))
       (try (have c7b2 : (((rd_T45 l0 x9_1).f0) == a1_0 && (((rd_T45 l0 x9_1).f1) == a1_1)) = false := by simpa using c7))
       (try (have c7b3 : ¬ (((rd_T45 l0 x9_1).f0) = a1_0 && (((rd_T45 l0 x9_1).f1) == a1_1)) := by simpa using c7))
       clear c7; have H' := aM H; clear H
       have p102 : 0 ≤ (x9_1 : Int) := of_decide_eq_true (by first | (with_reducible assumption) | assumption)
       have q102 : x9_1 < (l0.length : Int) := of_decide_eq_true (by first | (with_reducible assumption) | assumption)
       obtain ⟨ad102, e102, hx102_0, hx102_1⟩ := at_T45 HR0.out x9_1 p102 q102
       cases e102
       replace hx102_0 := (HB.out.cell (World.block_lt_of_cell? w _ hx102_0)).trans hx102_0; replace hx102_1 := (HB.out.cell (World.block_lt_of_cell? w _ hx102_1)).trans hx102_1; replace p102 := eq_true p102; replace q102 := eq_true q102
       go_wp2_with (first | ((with_reducible refine gate_dst (N := 6) rfl ?_); refine bE 6 #[.int .i64 0, .int .i64 0] 45 ?_; intro gb103 hg w12 hbox hb; have BK103 := aM (hbox); have GW103 := gW hg HB.out; have GE103 := GW103; replace HB := aM (zT (zH HB.out) hb); have NB101_103 := nL BK101.out hg; have NB103_101 := nR BK101.out hg; replace BK101 := yK BK101.out hb; clear hb hbox hg; have M13 := NB103_101.out; have L13 := NB101_103.out; obtain ⟨Z14_0, Z14_1, Y14_0, Y14_1⟩ := y2 BK103.out; obtain ⟨Z15_0, Z15_1, Y15_0, Y15_1⟩ := y2 BK101.out))
       go_roundg k1
       case measure => have := HK1.out; omega
       case rel => exact ⟨(wrap64 (x9_1 + 1)), (by first | rfl | (simp; done) | (simp [*]; done)), H', ⟨by have := HK1.out; omega⟩, yG BK101.out, ⟨zH HB.out⟩⟩
     ·rw [if_neg c6] at H
      exact absurd H (by simp)
    ·rw [if_neg c5] at H
     exact absurd H (by simp)
   ·rw [if_neg c4] at H
    have c4b0 : decide (x9_1 < (l0.length : Int)) = false := decide_eq_false c4; clear c4; obtain rfl := Option.some.inj H
    go_wp2
    go_ret
    exact ⟨eW, zH HB.out⟩

/-! ### spec_l6Buddy: function 29 -/
def spec_l6Buddy.f (a0_0 : Int) (a0_1 : Int) : Option (Int × Int) := if 0 ≤ (IntKind.u64.wrap (a0_1)) then (some (Go.bits .xor .i64 a0_0 (shl .i64 1 (IntKind.u64.wrap (a0_1))), a0_1)) else (none)
set_option maxHeartbeats 8000000 in
set_option maxRecDepth 100000 in
theorem spec_l6Buddy.calls (a0_0 : Int) (a0_1 : Int) (r1 : Int) (r2 : Int) (w : World) (h : spec_l6Buddy.f a0_0 a0_1 = some (r1, r2)) :
  Calls Try.prog 29 #[.agg #[.int .i64 a0_0, .int .i64 a0_1]] w fun e w' => e = .returned (.agg #[.int .i64 r1, .int .i64 r2]) ∧ Below w.heap.size w w' := by
 have hu45 := Try.underlying45; have HB := aM (Below.refl w.heap.size w); have H : (if 0 ≤ (IntKind.u64.wrap (a0_1)) then (some (Go.bits .xor .i64 a0_0 (shl .i64 1 (IntKind.u64.wrap (a0_1))), a0_1)) else (none)) = some (r1, r2) := h; clear h; obtain ⟨ji2, hji2⟩ : ∃ j_ : Int, (IntKind.u64.wrap (a0_1)) = j_ := ⟨_, rfl⟩
 replace H : (if 0 ≤ (ji2) then (some (Go.bits .xor .i64 a0_0 (shl .i64 1 (ji2)), a0_1)) else (none)) = some (r1, r2) := by first | (rw [hji2] at H; exact H) | (simp only [hji2] at H ⊢; exact H)
 by_cases c3 : 0 ≤ (ji2)
 ·rw [if_pos c3] at H
  have c3b0 := eq_true c3; have c3b1 : decide (0 ≤ (ji2)) = true := decide_eq_true c3; clear c3; obtain ⟨ji4, hji4⟩ : ∃ j_ : Int, (shl .i64 1 (ji2)) = j_ := ⟨_, rfl⟩
  replace H : (some (Go.bits .xor .i64 a0_0 (ji4), a0_1)) = some (r1, r2) := by first | (rw [hji4] at H; exact H) | (simp only [hji4] at H ⊢; exact H)
  have hji4_ : (IntKind.i64.wrap (1 * 2 ^ min (ji2).toNat 64)) = ji4 := hji4; have hji4z : (ji2) ≤ 64 → (IntKind.i64.wrap (1 * 2 ^ (ji2).toNat)) = ji4 := shl_small hji4
  have hji4u : (IntKind.i64.wrap (2 ^ min (ji2).toNat 64)) = ji4 := by have h_ := hji4_; rw [Int.one_mul] at h_; exact h_
  have hji4v : (ji2) ≤ 64 → (IntKind.i64.wrap (2 ^ (ji2).toNat)) = ji4 := fun hle_ => by have h_ := hji4z hle_; rw [Int.one_mul] at h_; exact h_
  have hji4y : (wrap64 (1 * 2 ^ min (ji2).toNat 64)) = ji4 := (i64_w _).symm.trans hji4_
  have hji4x : (ji2) ≤ 64 → (wrap64 (1 * 2 ^ (ji2).toNat)) = ji4 := fun h_ => (i64_w _).symm.trans (hji4z h_)
  simp only [Option.some.injEq, Prod.mk.injEq] at H
  obtain ⟨rfl, rfl⟩ := H
  go_enter Try.func29, Try.ntmps29
  go_wp2_with (first | ((with_reducible refine gate_dst (N := 1) rfl ?_); refine bE 1 #[.int .i64 a0_0, .int .i64 a0_1] 45 ?_; intro gb104 hg w5 hbox hb; have BK104 := aM (hbox); have GW104 := gW hg HB.out; have GE104 := GW104; replace HB := aM (zT (zH HB.out) hb); clear hb hbox hg) | ((with_reducible refine gate_dst (N := 2) rfl ?_); refine bE 2 #[.int .i64 0, .int .i64 0] 45 ?_; intro gb105 hg w6 hbox hb; have BK105 := aM (hbox); have GW105 := gW hg HB.out; have GE105 := GW105; replace HB := aM (zT (zH HB.out) hb); have NB104_105 := nL BK104.out hg; have NB105_104 := nR BK104.out hg; replace BK104 := yK BK104.out hb; clear hb hbox hg; have M7 := NB104_105.out; have L7 := NB105_104.out; obtain ⟨Z8_0, Z8_1, Y8_0, Y8_1⟩ := y2 BK104.out; obtain ⟨Z9_0, Z9_1, Y9_0, Y9_1⟩ := y2 BK105.out))
  refine bodyPost_ret (results_cell_row rfl _ _ gb105 45 #[.int .i64 (Go.bits .xor .i64 a0_0 (ji4)), .int .i64 a0_1] (0, 0) _ rfl (by refine yW ?_; refine yP (cs := #[.int .i64 (Go.bits .xor .i64 a0_0 (ji4)), .int .i64 0]) ?_ 1 _ rfl; refine yW ?_; refine yP (cs := #[.int .i64 0, .int .i64 0]) ?_ 0 _ rfl; refine yW ?_; exact BK105.out) Try.underlying45 rfl (by kernel_rfl)) rfl ?_
  exact ⟨by first | rfl | (simp [errW_none, errW_some] <;> rfl) | (simp only [← hji2, ← hji4]; first | rfl | (simp [errW_none, errW_some] <;> rfl)) | (simp [*, errW_none, errW_some] <;> rfl), zH HB.out⟩
 ·rw [if_neg c3] at H
  exact absurd H (by simp)

/-! ### spec_l1In: function 43 -/
def spec_l1In.f (a0 : Int) (a1 : Int) (a2 : Int) : Option (Bool) := if a0 ≥ a1 then (some (decide (a0 ≤ a2))) else (some false)
set_option maxHeartbeats 8000000 in
set_option maxRecDepth 100000 in
theorem spec_l1In.calls (a0 : Int) (a1 : Int) (a2 : Int) (r : Bool) (w : World) (h : spec_l1In.f a0 a1 a2 = some r) :
  Calls Try.prog 43 #[.int .i64 a0, .int .i64 a1, .int .i64 a2] w fun e w' => e = .returned (.bool r) ∧ Drawn0 w w' := by
 have H : (if a0 ≥ a1 then (some (decide (a0 ≤ a2))) else (some false)) = some r := h; clear h
 by_cases c4 : a0 ≥ a1
 ·rw [if_pos c4] at H
  have c4b0 : decide (a1 ≤ a0) = true := decide_eq_true c4; clear c4; obtain rfl := Option.some.inj H
  go_enter Try.func43, Try.ntmps43
  go_wp2
  go_ret
  exact ⟨by first | rfl | (simp; done) | (simp [*]; done), by repeat (first | exact Drawn0.refl _ | apply Drawn0.step)⟩
 ·rw [if_neg c4] at H
  have c4b0 : decide (a1 ≤ a0) = false := decide_eq_false c4; clear c4; obtain rfl := Option.some.inj H
  go_enter Try.func43, Try.ntmps43
  go_wp2
  go_ret
  exact ⟨by first | rfl | (simp; done) | (simp [*]; done), by repeat (first | exact Drawn0.refl _ | apply Drawn0.step)⟩

/-! ### spec_l6Block: function 57 -/
def spec_l6Block.f (a0_0 : Int) (a0_1 : Int) : Option (Bool) := (spec_l1In.f a0_1 0 8).bind fun t107 => (if t107 = true then ((spec_l1In.f a0_0 0 1073741824).bind fun t108 => (if t108 = true then (if 0 ≤ (IntKind.u64.wrap (a0_1)) then (if (shl .i64 1 (IntKind.u64.wrap (a0_1))) = 0 then (none) else (some ((Int.tmod a0_0 (shl .i64 1 (IntKind.u64.wrap (a0_1)))) == 0))) else (none)) else (some false))) else (some false))
set_option maxHeartbeats 8000000 in
set_option maxRecDepth 100000 in
theorem spec_l6Block.calls (a0_0 : Int) (a0_1 : Int) (r : Bool) (w : World) (h : spec_l6Block.f a0_0 a0_1 = some r) :
  Calls Try.prog 57 #[.agg #[.int .i64 a0_0, .int .i64 a0_1]] w fun e w' => e = .returned (.bool r) ∧ Below w.heap.size w w' := by
 have hu45 := Try.underlying45; have HB := aM (Below.refl w.heap.size w)
 have H : ((spec_l1In.f a0_1 0 8).bind fun t107 => (if t107 = true then ((spec_l1In.f a0_0 0 1073741824).bind fun t108 => (if t108 = true then (if 0 ≤ (IntKind.u64.wrap (a0_1)) then (if (shl .i64 1 (IntKind.u64.wrap (a0_1))) = 0 then (none) else (some ((Int.tmod a0_0 (shl .i64 1 (IntKind.u64.wrap (a0_1)))) == 0))) else (none)) else (some false))) else (some false))) = some r := h
 clear h; replace H := Option.bind_eq_some_iff.mp H; obtain ⟨t107, A20, H⟩ := H
 replace H : (if t107 = true then ((spec_l1In.f a0_0 0 1073741824).bind fun t108 => (if t108 = true then (if 0 ≤ (IntKind.u64.wrap (a0_1)) then (if (shl .i64 1 (IntKind.u64.wrap (a0_1))) = 0 then (none) else (some ((Int.tmod a0_0 (shl .i64 1 (IntKind.u64.wrap (a0_1)))) == 0))) else (none)) else (some false))) else (some false)) = some r := H
 have A2 := aM A20; clear A20
 by_cases c3 : t107 = true
 ·subst c3
  have H1 : ((spec_l1In.f a0_0 0 1073741824).bind fun t108 => (if t108 = true then (if 0 ≤ (IntKind.u64.wrap (a0_1)) then (if (shl .i64 1 (IntKind.u64.wrap (a0_1))) = 0 then (none) else (some ((Int.tmod a0_0 (shl .i64 1 (IntKind.u64.wrap (a0_1)))) == 0))) else (none)) else (some false))) = some r := by rw [if_pos rfl] at H; exact H
  clear H; have H := H1; clear H1; replace H := Option.bind_eq_some_iff.mp H; obtain ⟨t108, A40, H⟩ := H; replace H : (if t108 = true then (if 0 ≤ (IntKind.u64.wrap (a0_1)) then (if (shl .i64 1 (IntKind.u64.wrap (a0_1))) = 0 then (none) else (some ((Int.tmod a0_0 (shl .i64 1 (IntKind.u64.wrap (a0_1)))) == 0))) else (none)) else (some false)) = some r := H; have A4 := aM A40; clear A40
  by_cases c5 : t108 = true
  ·subst c5
   have H1 : (if 0 ≤ (IntKind.u64.wrap (a0_1)) then (if (shl .i64 1 (IntKind.u64.wrap (a0_1))) = 0 then (none) else (some ((Int.tmod a0_0 (shl .i64 1 (IntKind.u64.wrap (a0_1)))) == 0))) else (none)) = some r := by rw [if_pos rfl] at H; exact H
   clear H; have H := H1; clear H1; obtain ⟨ji6, hji6⟩ : ∃ j_ : Int, (IntKind.u64.wrap (a0_1)) = j_ := ⟨_, rfl⟩
   replace H : (if 0 ≤ (ji6) then (if (shl .i64 1 (ji6)) = 0 then (none) else (some ((Int.tmod a0_0 (shl .i64 1 (ji6))) == 0))) else (none)) = some r := by first | (rw [hji6] at H; exact H) | (simp only [hji6] at H ⊢; exact H)
   (try rw [hji6] at A2)
   (try rw [hji6] at A4)
   by_cases c7 : 0 ≤ (ji6)
   ·rw [if_pos c7] at H
    have c7b0 := eq_true c7; have c7b1 : decide (0 ≤ (ji6)) = true := decide_eq_true c7; clear c7; obtain ⟨ji8, hji8⟩ : ∃ j_ : Int, (shl .i64 1 (ji6)) = j_ := ⟨_, rfl⟩
    replace H : (if (ji8) = 0 then (none) else (some ((Int.tmod a0_0 (ji8)) == 0))) = some r := by first | (rw [hji8] at H; exact H) | (simp only [hji8] at H ⊢; exact H)
    (try rw [hji8] at A2)
    (try rw [hji8] at A4)
    have hji8_ : (IntKind.i64.wrap (1 * 2 ^ min (ji6).toNat 64)) = ji8 := hji8; have hji8z : (ji6) ≤ 64 → (IntKind.i64.wrap (1 * 2 ^ (ji6).toNat)) = ji8 := shl_small hji8
    have hji8u : (IntKind.i64.wrap (2 ^ min (ji6).toNat 64)) = ji8 := by have h_ := hji8_; rw [Int.one_mul] at h_; exact h_
    have hji8v : (ji6) ≤ 64 → (IntKind.i64.wrap (2 ^ (ji6).toNat)) = ji8 := fun hle_ => by have h_ := hji8z hle_; rw [Int.one_mul] at h_; exact h_
    have hji8y : (wrap64 (1 * 2 ^ min (ji6).toNat 64)) = ji8 := (i64_w _).symm.trans hji8_
    have hji8x : (ji6) ≤ 64 → (wrap64 (1 * 2 ^ (ji6).toNat)) = ji8 := fun h_ => (i64_w _).symm.trans (hji8z h_)
    by_cases c9 : (ji8) = 0
    ·rw [if_pos c9] at H
     exact absurd H (by simp)
    ·rw [if_neg c9] at H
     have c9b0 : ((ji8) == 0) = false := beq_eq_false_iff_ne.mpr c9; have c9b1 : ((ji8) != 0) = true := bne_iff_ne.mpr c9; obtain rfl := Option.some.inj H
     go_enter Try.func57, Try.ntmps57
     go_wp2_with (first | ((with_reducible refine gate_dst (N := 1) rfl ?_); refine bE 1 #[.int .i64 a0_0, .int .i64 a0_1] 45 ?_; intro gb106 hg w10 hbox hb; have BK106 := aM (hbox); have GW106 := gW hg HB.out; have GE106 := GW106; replace HB := aM (zT (zH HB.out) hb); clear hb hbox hg; obtain ⟨Z11_0, Z11_1, Y11_0, Y11_1⟩ := y2 BK106.out) | ((with_reducible refine gate_callee (f := 43) rfl ?_); refine goesL_ (some 5) rfl rfl Try.func43 (by kernel_rfl) rfl #[.int .i64 a0_1, .int .i64 0, .int .i64 8] rfl mA ?_; (with_reducible refine (spec_l1In.calls a0_1 0 8 true _ A2.out).mono ?_); rintro e w' ⟨rfl, ⟨nd, rfl⟩⟩; refine ⟨_, rfl, ?_⟩) | (go_at_call 43; (with_reducible refine (spec_l1In.calls a0_0 0 1073741824 true _ A4.out).mono ?_); rintro e w' ⟨rfl, ⟨nd, rfl⟩⟩))
     go_ret
     exact ⟨by first | rfl | (simp [errW_none, errW_some] <;> rfl) | (simp only [← hji6, ← hji8]; first | rfl | (simp [errW_none, errW_some] <;> rfl)) | (simp [*, errW_none, errW_some] <;> rfl), zH HB.out⟩
   ·rw [if_neg c7] at H
    exact absurd H (by simp)
  ·replace c5 := Bool.eq_false_iff.mpr c5
   subst c5
   have H1 : (some false) = some r := by rw [if_neg (show ¬ (false = true) by decide)] at H; exact H
   clear H; have H := H1; clear H1; obtain rfl := Option.some.inj H
   go_enter Try.func57, Try.ntmps57
   go_wp2_with (first | ((with_reducible refine gate_dst (N := 1) rfl ?_); refine bE 1 #[.int .i64 a0_0, .int .i64 a0_1] 45 ?_; intro gb106 hg w12 hbox hb; have BK106 := aM (hbox); have GW106 := gW hg HB.out; have GE106 := GW106; replace HB := aM (zT (zH HB.out) hb); clear hb hbox hg; obtain ⟨Z13_0, Z13_1, Y13_0, Y13_1⟩ := y2 BK106.out) | ((with_reducible refine gate_callee (f := 43) rfl ?_); refine goesL_ (some 5) rfl rfl Try.func43 (by kernel_rfl) rfl #[.int .i64 a0_1, .int .i64 0, .int .i64 8] rfl mA ?_; (with_reducible refine (spec_l1In.calls a0_1 0 8 true _ A2.out).mono ?_); rintro e w' ⟨rfl, ⟨nd, rfl⟩⟩; refine ⟨_, rfl, ?_⟩) | (go_at_call 43; (with_reducible refine (spec_l1In.calls a0_0 0 1073741824 false _ A4.out).mono ?_); rintro e w' ⟨rfl, ⟨nd, rfl⟩⟩))
   go_ret
   exact ⟨eW, zH HB.out⟩
 ·replace c3 := Bool.eq_false_iff.mpr c3
  subst c3
  have H1 : (some false) = some r := by rw [if_neg (show ¬ (false = true) by decide)] at H; exact H
  clear H; have H := H1; clear H1; obtain rfl := Option.some.inj H
  go_enter Try.func57, Try.ntmps57
  go_wp2_with (first | ((with_reducible refine gate_dst (N := 1) rfl ?_); refine bE 1 #[.int .i64 a0_0, .int .i64 a0_1] 45 ?_; intro gb106 hg w14 hbox hb; have BK106 := aM (hbox); have GW106 := gW hg HB.out; have GE106 := GW106; replace HB := aM (zT (zH HB.out) hb); clear hb hbox hg; obtain ⟨Z15_0, Z15_1, Y15_0, Y15_1⟩ := y2 BK106.out) | ((with_reducible refine gate_callee (f := 43) rfl ?_); refine goesL_ (some 5) rfl rfl Try.func43 (by kernel_rfl) rfl #[.int .i64 a0_1, .int .i64 0, .int .i64 8] rfl mA ?_; (with_reducible refine (spec_l1In.calls a0_1 0 8 false _ A2.out).mono ?_); rintro e w' ⟨rfl, ⟨nd, rfl⟩⟩; refine ⟨_, rfl, ?_⟩))
  go_ret
  exact ⟨eW, zH HB.out⟩

end Go.Proofs.Ytbjcioihomeikaa.PFnBuddies
