/- The walks of FnExactNewTree: Go's calls come to what the Lean functions beside them say; no condition. -/
import Derived.Test.YtjibcpfgnnmfjaaQFnExactNewTreex0
import Derived.Test.YtjibcpfgnnmfjaaQFnExactNewTreex1
namespace Go.Proofs.Ytjibcpfgnnmfjaa.PFnExactNewTree
open Go.RowKit Go.Proofs.YtjibcpfgnnmfjaaW.PrintWords Go.Proofs.YtjibcpfgnnmfjaaW.PrintLast Go.Proofs.YtjibcpfgnnmfjaaW.PrintMore
attribute [local go_sem] max2_int min2_int max_two min_two max_three min_three max_four min_four   -- for this text's walks alone
set_option linter.unusedVariables false
set_option linter.unusedSimpArgs false
set_option maxRecDepth 100000

/-! ### laws_heldIntS: function 96 -/
def laws_heldIntS.l0 : Nat → List Int → Int → Int → Option (Int)
  | 0, _, _, _ => none
  | k + 1, x0, x1, x5 => if x5 < (x0.length : Int) then (if 0 ≤ x5 then (if (rd x0 x5) = x1 then (laws_heldIntS.l0 k x0 (wrap64 (x1 + 1)) (wrap64 (x5 + 1))) else (some (-1))) else (none)) else (some x1)
def laws_heldIntS.f (k : Nat) (l0 : List Int) (a1 : Int) : Option (Int) := laws_heldIntS.l0 k l0 a1 0
theorem laws_heldIntS.mono_l : ∀ k, (∀ y0 y1 y2, LeO (laws_heldIntS.l0 k y0 y1 y2) (laws_heldIntS.l0 (k + 1) y0 y1 y2))
  | 0 => fun _ _ _ r h => by change none = some r at h; cases h
  | k + 1 => by
    have ih0 := laws_heldIntS.mono_l k
    · intro y0 y1 y2
      unfold laws_heldIntS.l0
      repeat' first
      | (with_reducible exact ih0 _ _ _)
      | (with_reducible exact LeO.refl _)
      | (with_reducible exact LeO.none _)
      | (with_reducible refine LeO.ite ?_ ?_)
      | (with_reducible refine LeO.bind ?_ (fun _ => ?_))
      | exact ih0 _ _ _
      | exact LeO.none _
      | refine LeO.ite ?_ ?_
      | refine LeO.bind ?_ (fun _ => ?_)
theorem laws_heldIntS.mono : ∀ a0 a1 k, LeO (laws_heldIntS.f k a0 a1) (laws_heldIntS.f (k + 1) a0 a1) := by
  intro a0 a1 k
  have ih0 := laws_heldIntS.mono_l k
  unfold laws_heldIntS.f
  repeat' first
      | (with_reducible exact ih0 _ _ _)
      | (with_reducible exact LeO.refl _)
      | (with_reducible exact LeO.none _)
      | (with_reducible refine LeO.ite ?_ ?_)
      | (with_reducible refine LeO.bind ?_ (fun _ => ?_))
      | exact ih0 _ _ _
      | exact LeO.none _
      | refine LeO.ite ?_ ?_
      | refine LeO.bind ?_ (fun _ => ?_)
set_option maxHeartbeats 8000000 in
set_option maxRecDepth 100000 in
theorem laws_heldIntS.calls (k : Nat) (A0 : Option Addr) (c0 : Nat) (l0 : List Int) (a1 : Int) (r : Int) (w : World) (hr0 : Kd.C (Kd.int .i64) w A0 l0.length l0) (hc0 : l0.length ≤ c0) (h : laws_heldIntS.f k l0 a1 = some r) :
    Calls Try.prog 96 #[.slice A0 l0.length c0, .int .i64 a1] w fun e w' => e = .returned (.int .i64 r) ∧ Drawn0 w w' := by
  have HR0 := Aside0.mk hr0
  have HC0 := Aside0.mk hc0
  clear hr0 hc0
  have H : (laws_heldIntS.l0 k l0 a1 0) = some r := h
  clear h
  have H' := Aside0.mk H
  clear H
  go_enter Try.func96, Try.ntmps96
  go_wp2
  go_loopg [1, 5] k (fun kq v1 v5 w' => ∃ (x1_1 : Int) (x5_1 : Int), v1 = .int .i64 x1_1 ∧ v5 = .int .i64 x5_1 ∧ Aside0 (laws_heldIntS.l0 kq l0 x1_1 x5_1 = some r) ∧ Aside0 (kq ≤ k) ∧ Drawn0 w w')
  case atStart => exact ⟨(a1), (0), (by first | rfl | (simp; done) | (simp [*]; done)), (by first | rfl | (simp; done) | (simp [*]; done)), H', ⟨Nat.le_refl _⟩, by repeat (first | exact Drawn0.refl _ | apply Drawn0.step)⟩
  case round =>
    clear H'
    try clear p2
    obtain ⟨x1_1, x5_1, rfl, rfl, HA, HK1, ⟨m1, rfl⟩⟩ := hrel
    cases gk with
    | zero => exact absurd HA.out (fun h_ => by change none = some _ at h_; cases h_)
    | succ k1 =>
      have H := HA.out
      clear HA
      simp only [laws_heldIntS.l0] at H
      by_cases c3 : x5_1 < (l0.length : Int)
      · rw [if_pos c3] at H
        have c3b0 : decide (x5_1 < (l0.length : Int)) = true := decide_eq_true c3
        clear c3
        by_cases c4 : 0 ≤ x5_1
        · rw [if_pos c4] at H
          have c4b0 : decide (0 ≤ x5_1) = true := decide_eq_true c4
          clear c4
          by_cases c5 : (rd l0 x5_1) = x1_1
          · rw [if_pos c5] at H
            have c5b0 : ((rd l0 x5_1) == x1_1) = true := beq_iff_eq.mpr c5
            have c5b1 : ((rd l0 x5_1) != x1_1) = false := bne_eq_false_iff_eq.mpr c5
            clear c5
            have H' := Aside0.mk H
            clear H
            have p121 : 0 ≤ (x5_1 : Int) := of_decide_eq_true (by first | (with_reducible assumption) | assumption)
            have q121 : x5_1 < (l0.length : Int) := of_decide_eq_true (by first | (with_reducible assumption) | assumption)
            obtain ⟨ad121, e121, hx121_0⟩ := Kd.at_int HR0.out x5_1 p121 q121
            cases e121
            replace p121 := eq_true p121
            replace q121 := eq_true q121
            go_wp2
            go_roundg k1
            case measure => have := HK1.out; omega
            case rel => exact ⟨(wrap64 (x1_1 + 1)), (wrap64 (x5_1 + 1)), (by first | rfl | (simp; done) | (simp [*]; done)), (by first | rfl | (simp; done) | (simp [*]; done)), H', ⟨by have := HK1.out; omega⟩, by repeat (first | exact Drawn0.refl _ | apply Drawn0.step)⟩
          · rw [if_neg c5] at H
            have c5b0 : ((rd l0 x5_1) == x1_1) = false := beq_eq_false_iff_ne.mpr c5
            have c5b1 : ((rd l0 x5_1) != x1_1) = true := bne_iff_ne.mpr c5
            obtain rfl := Option.some.inj H
            have p121 : 0 ≤ (x5_1 : Int) := of_decide_eq_true (by first | (with_reducible assumption) | assumption)
            have q121 : x5_1 < (l0.length : Int) := of_decide_eq_true (by first | (with_reducible assumption) | assumption)
            obtain ⟨ad121, e121, hx121_0⟩ := Kd.at_int HR0.out x5_1 p121 q121
            cases e121
            replace p121 := eq_true p121
            replace q121 := eq_true q121
            go_wp2
            go_ret
            exact ⟨by first | rfl | (simp; done) | (simp [*]; done), by repeat (first | exact Drawn0.refl _ | apply Drawn0.step)⟩
        · rw [if_neg c4] at H
          exact absurd H (by simp)
      · rw [if_neg c3] at H
        have c3b0 : decide (x5_1 < (l0.length : Int)) = false := decide_eq_false c3
        clear c3
        obtain rfl := Option.some.inj H
        go_wp2
        go_ret
        exact ⟨by first | rfl | (simp; done) | (simp [*]; done), by repeat (first | exact Drawn0.refl _ | apply Drawn0.step)⟩

/-! ### laws_heldNodeS: function 74 -/
def laws_heldNodeS.l0 : Nat → List (S86) → Int → Int → Option (Int)
  | 0, _, _, _ => none
  | k + 1, x0, x1, x5 => if x5 < (x0.length : Int) then (if 0 ≤ x5 then (if (((rd_T86 x0 x5).f0) != ((Int.tmod x1 3) == 0)) = true then (some (-1)) else ((laws_heldIntS.f k ((rd_T86 x0 x5).f1) (wrap64 (x1 + 1))).bind fun t124 => (if t124 < 0 then (some (-1)) else ((laws_heldIntS.f k ((rd_T86 x0 x5).f2) t124).bind fun t126 => (if t126 < 0 then (some (-1)) else (laws_heldNodeS.l0 k x0 t126 (wrap64 (x5 + 1)))))))) else (none)) else (some x1)
def laws_heldNodeS.f (k : Nat) (l0 : List (S86)) (a1 : Int) : Option (Int) := laws_heldNodeS.l0 k l0 a1 0
theorem laws_heldNodeS.mono_l : ∀ k, (∀ y0 y1 y2, LeO (laws_heldNodeS.l0 k y0 y1 y2) (laws_heldNodeS.l0 (k + 1) y0 y1 y2))
  | 0 => fun _ _ _ r h => by change none = some r at h; cases h
  | k + 1 => by
    have ih0 := laws_heldNodeS.mono_l k
    · intro y0 y1 y2
      unfold laws_heldNodeS.l0
      repeat' first
      | (with_reducible exact ih0 _ _ _)
      | (with_reducible exact laws_heldIntS.mono _ _ _)
      | (with_reducible exact LeO.refl _)
      | (with_reducible exact LeO.none _)
      | (with_reducible refine LeO.ite ?_ ?_)
      | (with_reducible refine LeO.bind ?_ (fun _ => ?_))
      | exact ih0 _ _ _
      | exact laws_heldIntS.mono _ _ _
      | exact LeO.none _
      | refine LeO.ite ?_ ?_
      | refine LeO.bind ?_ (fun _ => ?_)
theorem laws_heldNodeS.mono : ∀ a0 a1 k, LeO (laws_heldNodeS.f k a0 a1) (laws_heldNodeS.f (k + 1) a0 a1) := by
  intro a0 a1 k
  have ih0 := laws_heldNodeS.mono_l k
  unfold laws_heldNodeS.f
  repeat' first
      | (with_reducible exact ih0 _ _ _)
      | (with_reducible exact laws_heldIntS.mono _ _ _)
      | (with_reducible exact LeO.refl _)
      | (with_reducible exact LeO.none _)
      | (with_reducible refine LeO.ite ?_ ?_)
      | (with_reducible refine LeO.bind ?_ (fun _ => ?_))
      | exact ih0 _ _ _
      | exact laws_heldIntS.mono _ _ _
      | exact LeO.none _
      | refine LeO.ite ?_ ?_
      | refine LeO.bind ?_ (fun _ => ?_)
set_option maxHeartbeats 8000000 in
set_option maxRecDepth 100000 in
theorem laws_heldNodeS.calls (k : Nat) (A0 : Option Addr) (c0 : Nat) (l0 : List (S86)) (a1 : Int) (r : Int) (w : World) (hr0 : Kd.C k86 w A0 l0.length l0) (hc0 : l0.length ≤ c0) (h : laws_heldNodeS.f k l0 a1 = some r) :
    Calls Try.prog 74 #[.slice A0 l0.length c0, .int .i64 a1] w fun e w' => e = .returned (.int .i64 r) ∧ Drawn0 w w' := by
  have HR0 := Aside0.mk hr0
  have HC0 := Aside0.mk hc0
  clear hr0 hc0
  have H : (laws_heldNodeS.l0 k l0 a1 0) = some r := h
  clear h
  have H' := Aside0.mk H
  clear H
  go_enter Try.func74, Try.ntmps74
  go_wp2
  go_loopg [1, 5] k (fun kq v1 v5 w' => ∃ (x1_1 : Int) (x5_1 : Int), v1 = .int .i64 x1_1 ∧ v5 = .int .i64 x5_1 ∧ Aside0 (laws_heldNodeS.l0 kq l0 x1_1 x5_1 = some r) ∧ Aside0 (kq ≤ k) ∧ Drawn0 w w')
  case atStart => exact ⟨(a1), (0), (by first | rfl | (simp; done) | (simp [*]; done)), (by first | rfl | (simp; done) | (simp [*]; done)), H', ⟨Nat.le_refl _⟩, by repeat (first | exact Drawn0.refl _ | apply Drawn0.step)⟩
  case round =>
    clear H'
    try clear p2
    obtain ⟨x1_1, x5_1, rfl, rfl, HA, HK1, ⟨m1, rfl⟩⟩ := hrel
    cases gk with
    | zero => exact absurd HA.out (fun h_ => by change none = some _ at h_; cases h_)
    | succ k1 =>
      have H := HA.out
      clear HA
      simp only [laws_heldNodeS.l0] at H
      by_cases c3 : x5_1 < (l0.length : Int)
      · rw [if_pos c3] at H
        have c3b0 : decide (x5_1 < (l0.length : Int)) = true := decide_eq_true c3
        clear c3
        by_cases c4 : 0 ≤ x5_1
        · rw [if_pos c4] at H
          have c4b0 : decide (0 ≤ x5_1) = true := decide_eq_true c4
          clear c4
          by_cases c5 : (((rd_T86 l0 x5_1).f0) != ((Int.tmod x1_1 3) == 0)) = true
          · rw [if_pos c5] at H
            have c5b0 : (((rd_T86 l0 x5_1).f0) != ((Int.tmod x1_1 3) == 0)) = true := c5
            (try (have c5b1 : decide (((rd_T86 l0 x5_1).f0) = ((Int.tmod x1_1 3) == 0)) = false := by simpa using c5))
            (try (have c5b2 : (((rd_T86 l0 x5_1).f0) == ((Int.tmod x1_1 3) == 0)) = false := by simpa using c5))
            (try (have c5b3 : ¬ (((rd_T86 l0 x5_1).f0) = ((Int.tmod x1_1 3) == 0)) := by simpa using c5))
            clear c5
            obtain rfl := Option.some.inj H
            have p122 : 0 ≤ (x5_1 : Int) := of_decide_eq_true (by first | (with_reducible assumption) | assumption)
            have q122 : x5_1 < (l0.length : Int) := of_decide_eq_true (by first | (with_reducible assumption) | assumption)
            obtain ⟨ad122, A122_1, c122_1, A122_2, c122_2, e122, hx122_0, hx122_1, hx122_2, hl122_1, hi122_1, hl122_2, hi122_2⟩ := at_T86 HR0.out x5_1 p122 q122
            cases e122
            have HR122_1 := Aside0.mk hi122_1
            have HC122_1 := Aside0.mk hl122_1
            clear hi122_1 hl122_1
            have HR122_2 := Aside0.mk hi122_2
            have HC122_2 := Aside0.mk hl122_2
            clear hi122_2 hl122_2
            replace p122 := eq_true p122
            replace q122 := eq_true q122
            go_wp2
            go_ret
            exact ⟨by first | rfl | (simp; done) | (simp [*]; done), by repeat (first | exact Drawn0.refl _ | apply Drawn0.step)⟩
          · rw [if_neg c5] at H
            have c5b0 : (((rd_T86 l0 x5_1).f0) != ((Int.tmod x1_1 3) == 0)) = false := by simpa using c5
            (try (have c5b1 : decide (((rd_T86 l0 x5_1).f0) = ((Int.tmod x1_1 3) == 0)) = true := by simpa using c5))
            (try (have c5b2 : (((rd_T86 l0 x5_1).f0) == ((Int.tmod x1_1 3) == 0)) = true := by simpa using c5))
            clear c5
            replace H := Option.bind_eq_some_iff.mp H
            obtain ⟨t124, A60, H⟩ := H
            replace H : (if t124 < 0 then (some (-1)) else ((laws_heldIntS.f k1 ((rd_T86 l0 x5_1).f2) t124).bind fun t126 => (if t126 < 0 then (some (-1)) else (laws_heldNodeS.l0 k1 l0 t126 (wrap64 (x5_1 + 1)))))) = some r := H
            have A6 := Aside0.mk A60
            clear A60
            by_cases c7 : t124 < 0
            · rw [if_pos c7] at H
              have c7b0 : decide (t124 < 0) = true := decide_eq_true c7
              clear c7
              obtain rfl := Option.some.inj H
              have p122 : 0 ≤ (x5_1 : Int) := of_decide_eq_true (by first | (with_reducible assumption) | assumption)
              have q122 : x5_1 < (l0.length : Int) := of_decide_eq_true (by first | (with_reducible assumption) | assumption)
              obtain ⟨ad122, A122_1, c122_1, A122_2, c122_2, e122, hx122_0, hx122_1, hx122_2, hl122_1, hi122_1, hl122_2, hi122_2⟩ := at_T86 HR0.out x5_1 p122 q122
              cases e122
              have HR122_1 := Aside0.mk hi122_1
              have HC122_1 := Aside0.mk hl122_1
              clear hi122_1 hl122_1
              have HR122_2 := Aside0.mk hi122_2
              have HC122_2 := Aside0.mk hl122_2
              clear hi122_2 hl122_2
              replace p122 := eq_true p122
              replace q122 := eq_true q122
              have p123 : 0 ≤ (x5_1 : Int) := of_decide_eq_true (by first | (with_reducible assumption) | assumption)
              have q123 : x5_1 < (l0.length : Int) := of_decide_eq_true (by first | (with_reducible assumption) | assumption)
              obtain ⟨ad123, A123_1, c123_1, A123_2, c123_2, e123, hx123_0, hx123_1, hx123_2, hl123_1, hi123_1, hl123_2, hi123_2⟩ := at_T86 HR0.out x5_1 p123 q123
              obtain rfl : ad122 = ad123 := (by injection e123)
              have HR123_1 := Aside0.mk hi123_1
              have HC123_1 := Aside0.mk hl123_1
              clear hi123_1 hl123_1
              have HR123_2 := Aside0.mk hi123_2
              have HC123_2 := Aside0.mk hl123_2
              clear hi123_2 hl123_2
              replace p123 := eq_true p123
              replace q123 := eq_true q123
              have ea_ := Option.some.inj (hx122_1.symm.trans hx123_1)
              injection ea_ with ea_ en_ ec_
              subst ea_
              subst ec_
              clear en_
              have ea_ := Option.some.inj (hx122_2.symm.trans hx123_2)
              injection ea_ with ea_ en_ ec_
              subst ea_
              subst ec_
              clear en_
              go_wp2_with (first | ((with_reducible refine gate_callee (f := 96) rfl ?_); refine goesL_ (some 29) rfl rfl Try.func96 (by kernel_rfl) rfl #[.slice A122_1 ((rd_T86 l0 x5_1).f1).length c122_1, .int .i64 (wrap64 (x1_1 + 1))] rfl (by (try simp only [List.map_toArray, List.map_cons, List.map_nil]); first | done | rfl | (simp only [List.length_drop, List.length_take]; rfl)) ?_; (with_reducible refine (laws_heldIntS.calls k1 _ _ ((rd_T86 l0 x5_1).f1) (wrap64 (x1_1 + 1)) t124 _ ?side1 ?side2 A6.out).mono ?_); (case side1 => repeat (first | exact HR123_1.out | (with_reducible refine Kd.C_alloc ?_ _) | (with_reducible refine Kd.C_drewN ?_ _) | (with_reducible refine Kd.C_drew ?_))); (case side2 => exact HC123_1.out); rintro e w' ⟨rfl, ⟨nd, rfl⟩⟩; refine ⟨_, rfl, ?_⟩))
              go_ret
              exact ⟨by first | rfl | (simp; done) | (simp [*]; done), by repeat (first | exact Drawn0.refl _ | apply Drawn0.step)⟩
            · rw [if_neg c7] at H
              have c7b0 : decide (t124 < 0) = false := decide_eq_false c7
              clear c7
              replace H := Option.bind_eq_some_iff.mp H
              obtain ⟨t126, A80, H⟩ := H
              replace H : (if t126 < 0 then (some (-1)) else (laws_heldNodeS.l0 k1 l0 t126 (wrap64 (x5_1 + 1)))) = some r := H
              have A8 := Aside0.mk A80
              clear A80
              by_cases c9 : t126 < 0
              · rw [if_pos c9] at H
                have c9b0 : decide (t126 < 0) = true := decide_eq_true c9
                clear c9
                obtain rfl := Option.some.inj H
                have p122 : 0 ≤ (x5_1 : Int) := of_decide_eq_true (by first | (with_reducible assumption) | assumption)
                have q122 : x5_1 < (l0.length : Int) := of_decide_eq_true (by first | (with_reducible assumption) | assumption)
                obtain ⟨ad122, A122_1, c122_1, A122_2, c122_2, e122, hx122_0, hx122_1, hx122_2, hl122_1, hi122_1, hl122_2, hi122_2⟩ := at_T86 HR0.out x5_1 p122 q122
                cases e122
                have HR122_1 := Aside0.mk hi122_1
                have HC122_1 := Aside0.mk hl122_1
                clear hi122_1 hl122_1
                have HR122_2 := Aside0.mk hi122_2
                have HC122_2 := Aside0.mk hl122_2
                clear hi122_2 hl122_2
                replace p122 := eq_true p122
                replace q122 := eq_true q122
                have p123 : 0 ≤ (x5_1 : Int) := of_decide_eq_true (by first | (with_reducible assumption) | assumption)
                have q123 : x5_1 < (l0.length : Int) := of_decide_eq_true (by first | (with_reducible assumption) | assumption)
                obtain ⟨ad123, A123_1, c123_1, A123_2, c123_2, e123, hx123_0, hx123_1, hx123_2, hl123_1, hi123_1, hl123_2, hi123_2⟩ := at_T86 HR0.out x5_1 p123 q123
                obtain rfl : ad122 = ad123 := (by injection e123)
                have HR123_1 := Aside0.mk hi123_1
                have HC123_1 := Aside0.mk hl123_1
                clear hi123_1 hl123_1
                have HR123_2 := Aside0.mk hi123_2
                have HC123_2 := Aside0.mk hl123_2
                clear hi123_2 hl123_2
                replace p123 := eq_true p123
                replace q123 := eq_true q123
                have ea_ := Option.some.inj (hx122_1.symm.trans hx123_1)
                injection ea_ with ea_ en_ ec_
                subst ea_
                subst ec_
                clear en_
                have ea_ := Option.some.inj (hx122_2.symm.trans hx123_2)
                injection ea_ with ea_ en_ ec_
                subst ea_
                subst ec_
                clear en_
                go_wp2_with (first | ((with_reducible refine gate_callee (f := 96) rfl ?_); refine goesL_ (some 29) rfl rfl Try.func96 (by kernel_rfl) rfl #[.slice A122_1 ((rd_T86 l0 x5_1).f1).length c122_1, .int .i64 (wrap64 (x1_1 + 1))] rfl (by (try simp only [List.map_toArray, List.map_cons, List.map_nil]); first | done | rfl | (simp only [List.length_drop, List.length_take]; rfl)) ?_; (with_reducible refine (laws_heldIntS.calls k1 _ _ ((rd_T86 l0 x5_1).f1) (wrap64 (x1_1 + 1)) t124 _ ?side1 ?side2 A6.out).mono ?_); (case side1 => repeat (first | exact HR123_1.out | (with_reducible refine Kd.C_alloc ?_ _) | (with_reducible refine Kd.C_drewN ?_ _) | (with_reducible refine Kd.C_drew ?_))); (case side2 => exact HC123_1.out); rintro e w' ⟨rfl, ⟨nd, rfl⟩⟩; refine ⟨_, rfl, ?_⟩; have p125 : 0 ≤ (x5_1 : Int) := of_decide_eq_true (by first | (with_reducible assumption) | assumption); have q125 : x5_1 < (l0.length : Int) := of_decide_eq_true (by first | (with_reducible assumption) | assumption); obtain ⟨ad125, A125_1, c125_1, A125_2, c125_2, e125, hx125_0, hx125_1, hx125_2, hl125_1, hi125_1, hl125_2, hi125_2⟩ := at_T86 HR0.out x5_1 p125 q125; obtain rfl : ad122 = ad125 := (by injection e125); have HR125_1 := Aside0.mk hi125_1; have HC125_1 := Aside0.mk hl125_1; clear hi125_1 hl125_1; have HR125_2 := Aside0.mk hi125_2; have HC125_2 := Aside0.mk hl125_2; clear hi125_2 hl125_2; replace p125 := eq_true p125; replace q125 := eq_true q125; have ea_ := Option.some.inj (hx122_1.symm.trans hx125_1); injection ea_ with ea_ en_ ec_; subst ea_; subst ec_; clear en_; have ea_ := Option.some.inj (hx122_2.symm.trans hx125_2); injection ea_ with ea_ en_ ec_; subst ea_; subst ec_; clear en_) | ((with_reducible refine gate_callee (f := 96) rfl ?_); refine goesL_ (some 38) rfl rfl Try.func96 (by kernel_rfl) rfl #[.slice A122_2 ((rd_T86 l0 x5_1).f2).length c122_2, .int .i64 t124] rfl (by (try simp only [List.map_toArray, List.map_cons, List.map_nil]); first | done | rfl | (simp only [List.length_drop, List.length_take]; rfl)) ?_; (with_reducible refine (laws_heldIntS.calls k1 _ _ ((rd_T86 l0 x5_1).f2) t124 t126 _ ?side1 ?side2 A8.out).mono ?_); (case side1 => repeat (first | exact HR125_2.out | (with_reducible refine Kd.C_alloc ?_ _) | (with_reducible refine Kd.C_drewN ?_ _) | (with_reducible refine Kd.C_drew ?_))); (case side2 => exact HC125_2.out); rintro e w' ⟨rfl, ⟨nd, rfl⟩⟩; refine ⟨_, rfl, ?_⟩))
                go_ret
                exact ⟨by first | rfl | (simp; done) | (simp [*]; done), by repeat (first | exact Drawn0.refl _ | apply Drawn0.step)⟩
              · rw [if_neg c9] at H
                have c9b0 : decide (t126 < 0) = false := decide_eq_false c9
                clear c9
                have H' := Aside0.mk H
                clear H
                have p122 : 0 ≤ (x5_1 : Int) := of_decide_eq_true (by first | (with_reducible assumption) | assumption)
                have q122 : x5_1 < (l0.length : Int) := of_decide_eq_true (by first | (with_reducible assumption) | assumption)
                obtain ⟨ad122, A122_1, c122_1, A122_2, c122_2, e122, hx122_0, hx122_1, hx122_2, hl122_1, hi122_1, hl122_2, hi122_2⟩ := at_T86 HR0.out x5_1 p122 q122
                cases e122
                have HR122_1 := Aside0.mk hi122_1
                have HC122_1 := Aside0.mk hl122_1
                clear hi122_1 hl122_1
                have HR122_2 := Aside0.mk hi122_2
                have HC122_2 := Aside0.mk hl122_2
                clear hi122_2 hl122_2
                replace p122 := eq_true p122
                replace q122 := eq_true q122
                have p123 : 0 ≤ (x5_1 : Int) := of_decide_eq_true (by first | (with_reducible assumption) | assumption)
                have q123 : x5_1 < (l0.length : Int) := of_decide_eq_true (by first | (with_reducible assumption) | assumption)
                obtain ⟨ad123, A123_1, c123_1, A123_2, c123_2, e123, hx123_0, hx123_1, hx123_2, hl123_1, hi123_1, hl123_2, hi123_2⟩ := at_T86 HR0.out x5_1 p123 q123
                obtain rfl : ad122 = ad123 := (by injection e123)
                have HR123_1 := Aside0.mk hi123_1
                have HC123_1 := Aside0.mk hl123_1
                clear hi123_1 hl123_1
                have HR123_2 := Aside0.mk hi123_2
                have HC123_2 := Aside0.mk hl123_2
                clear hi123_2 hl123_2
                replace p123 := eq_true p123
                replace q123 := eq_true q123
                have ea_ := Option.some.inj (hx122_1.symm.trans hx123_1)
                injection ea_ with ea_ en_ ec_
                subst ea_
                subst ec_
                clear en_
                have ea_ := Option.some.inj (hx122_2.symm.trans hx123_2)
                injection ea_ with ea_ en_ ec_
                subst ea_
                subst ec_
                clear en_
                go_wp2_with (first | ((with_reducible refine gate_callee (f := 96) rfl ?_); refine goesL_ (some 29) rfl rfl Try.func96 (by kernel_rfl) rfl #[.slice A122_1 ((rd_T86 l0 x5_1).f1).length c122_1, .int .i64 (wrap64 (x1_1 + 1))] rfl (by (try simp only [List.map_toArray, List.map_cons, List.map_nil]); first | done | rfl | (simp only [List.length_drop, List.length_take]; rfl)) ?_; (with_reducible refine (laws_heldIntS.calls k1 _ _ ((rd_T86 l0 x5_1).f1) (wrap64 (x1_1 + 1)) t124 _ ?side1 ?side2 A6.out).mono ?_); (case side1 => repeat (first | exact HR123_1.out | (with_reducible refine Kd.C_alloc ?_ _) | (with_reducible refine Kd.C_drewN ?_ _) | (with_reducible refine Kd.C_drew ?_))); (case side2 => exact HC123_1.out); rintro e w' ⟨rfl, ⟨nd, rfl⟩⟩; refine ⟨_, rfl, ?_⟩; have p125 : 0 ≤ (x5_1 : Int) := of_decide_eq_true (by first | (with_reducible assumption) | assumption); have q125 : x5_1 < (l0.length : Int) := of_decide_eq_true (by first | (with_reducible assumption) | assumption); obtain ⟨ad125, A125_1, c125_1, A125_2, c125_2, e125, hx125_0, hx125_1, hx125_2, hl125_1, hi125_1, hl125_2, hi125_2⟩ := at_T86 HR0.out x5_1 p125 q125; obtain rfl : ad122 = ad125 := (by injection e125); have HR125_1 := Aside0.mk hi125_1; have HC125_1 := Aside0.mk hl125_1; clear hi125_1 hl125_1; have HR125_2 := Aside0.mk hi125_2; have HC125_2 := Aside0.mk hl125_2; clear hi125_2 hl125_2; replace p125 := eq_true p125; replace q125 := eq_true q125; have ea_ := Option.some.inj (hx122_1.symm.trans hx125_1); injection ea_ with ea_ en_ ec_; subst ea_; subst ec_; clear en_; have ea_ := Option.some.inj (hx122_2.symm.trans hx125_2); injection ea_ with ea_ en_ ec_; subst ea_; subst ec_; clear en_) | ((with_reducible refine gate_callee (f := 96) rfl ?_); refine goesL_ (some 38) rfl rfl Try.func96 (by kernel_rfl) rfl #[.slice A122_2 ((rd_T86 l0 x5_1).f2).length c122_2, .int .i64 t124] rfl (by (try simp only [List.map_toArray, List.map_cons, List.map_nil]); first | done | rfl | (simp only [List.length_drop, List.length_take]; rfl)) ?_; (with_reducible refine (laws_heldIntS.calls k1 _ _ ((rd_T86 l0 x5_1).f2) t124 t126 _ ?side1 ?side2 A8.out).mono ?_); (case side1 => repeat (first | exact HR125_2.out | (with_reducible refine Kd.C_alloc ?_ _) | (with_reducible refine Kd.C_drewN ?_ _) | (with_reducible refine Kd.C_drew ?_))); (case side2 => exact HC125_2.out); rintro e w' ⟨rfl, ⟨nd, rfl⟩⟩; refine ⟨_, rfl, ?_⟩))
                go_roundg k1
                case measure => have := HK1.out; omega
                case rel => exact ⟨(t126), (wrap64 (x5_1 + 1)), (by first | rfl | (simp; done) | (simp [*]; done)), (by first | rfl | (simp; done) | (simp [*]; done)), H', ⟨by have := HK1.out; omega⟩, by repeat (first | exact Drawn0.refl _ | apply Drawn0.step)⟩
        · rw [if_neg c4] at H
          exact absurd H (by simp)
      · rw [if_neg c3] at H
        have c3b0 : decide (x5_1 < (l0.length : Int)) = false := decide_eq_false c3
        clear c3
        obtain rfl := Option.some.inj H
        go_wp2
        go_ret
        exact ⟨by first | rfl | (simp; done) | (simp [*]; done), by repeat (first | exact Drawn0.refl _ | apply Drawn0.step)⟩

/-! ### laws_heldTree: function 35 -/
def laws_heldTree.f (k : Nat) (l0_0 : List (S86)) (a0_1 : Int) (a1 : Int) : Option (Int) := (laws_heldNodeS.f k l0_0 a1).bind fun t128 => (if t128 < 0 then (some (-1)) else (some t128))
theorem laws_heldTree.mono : ∀ a0 a1 a2 k, LeO (laws_heldTree.f k a0 a1 a2) (laws_heldTree.f (k + 1) a0 a1 a2) := by
  intro a0 a1 a2 k
  unfold laws_heldTree.f
  repeat' first
      | (with_reducible exact laws_heldNodeS.mono _ _ _)
      | (with_reducible exact LeO.refl _)
      | (with_reducible exact LeO.none _)
      | (with_reducible refine LeO.ite ?_ ?_)
      | (with_reducible refine LeO.bind ?_ (fun _ => ?_))
      | exact laws_heldNodeS.mono _ _ _
      | exact LeO.none _
      | refine LeO.ite ?_ ?_
      | refine LeO.bind ?_ (fun _ => ?_)
set_option maxHeartbeats 8000000 in
set_option maxRecDepth 100000 in
theorem laws_heldTree.calls (k : Nat) (A0_0 : Option Addr) (c0_0 : Nat) (l0_0 : List (S86)) (a0_1 : Int) (a1 : Int) (r : Int) (w : World) (hr0_0 : Kd.C k86 w A0_0 l0_0.length l0_0) (hc0_0 : l0_0.length ≤ c0_0) (h : laws_heldTree.f k l0_0 a0_1 a1 = some r) :
    Calls Try.prog 35 #[.agg #[.slice A0_0 l0_0.length c0_0, .int .i64 a0_1], .int .i64 a1] w fun e w' => e = .returned (.int .i64 r) ∧ Below w.heap.size w w' := by
  have hu45 := Try.underlying45
  have HR0_0 := Aside0.mk hr0_0
  have HC0_0 := Aside0.mk hc0_0
  clear hr0_0 hc0_0
  have HB := Aside0.mk (Below.refl w.heap.size w)
  have H : ((laws_heldNodeS.f k l0_0 a1).bind fun t128 => (if t128 < 0 then (some (-1)) else (some t128))) = some r := h
  clear h
  replace H := Option.bind_eq_some_iff.mp H
  obtain ⟨t128, A30, H⟩ := H
  replace H : (if t128 < 0 then (some (-1)) else (some t128)) = some r := H
  have A3 := Aside0.mk A30
  clear A30
  by_cases c4 : t128 < 0
  · rw [if_pos c4] at H
    have c4b0 : decide (t128 < 0) = true := decide_eq_true c4
    clear c4
    obtain rfl := Option.some.inj H
    go_enter Try.func35, Try.ntmps35
    go_wp2_with (first | ((with_reducible refine gate_dst (N := 2) rfl ?_); refine box_event ?hg (N := 2) ?hd (cs := #[.slice A0_0 l0_0.length c0_0, .int .i64 a0_1]) (t := 45) ?hr ?_; (case hd => rfl); (case hg => rfl); (case hr => first | (go_simp; done) | (go_simp; rfl)); intro gb127 hg w5 hbox hb; have n0_ := Aside0.mk (below_step (by repeat (first | (with_reducible first | exact HB.out | apply below_alloc | apply pw_below_drewN | apply below_drew1) | exact HB.out)) hb); have n1_ := Aside0.mk (hbox); have n2_ := Aside0.mk ((by rw [hg]; exact (below_size (by repeat (first | (with_reducible first | exact HB.out | apply below_alloc | apply pw_below_drewN | apply below_drew1) | exact HB.out))) : w.heap.size ≤ gb127)); have n3_ := Aside0.mk ((by rw [hg]; exact (below_size (by repeat (first | (with_reducible first | exact HB.out | apply below_alloc | apply pw_below_drewN | apply below_drew1) | exact HB.out))) : w.heap.size ≤ gb127)); clear HB; have HB := n0_; have BK127 := n1_; have GW127 := n2_; have GE127 := n3_; clear n0_ n1_ n2_ n3_; clear hb hbox hg; have hcz6_0 : w5.cell? ⟨gb127, 0, none⟩ = some (.slice A0_0 l0_0.length c0_0) := (blk_cell BK127.out 0).trans rfl; have hcz6_1 : w5.cell? ⟨gb127, 1, none⟩ = some (.int .i64 a0_1) := (blk_cell BK127.out 1).trans rfl; have hfz6_0 := blk_frozen BK127.out 0; have hfz6_1 := blk_frozen BK127.out 1) | ((with_reducible refine gate_callee (f := 74) rfl ?_); refine goesL_ (some 8) rfl rfl Try.func74 (by kernel_rfl) rfl #[.slice A0_0 l0_0.length c0_0, .int .i64 a1] rfl (by (try simp only [List.map_toArray, List.map_cons, List.map_nil]); first | done | rfl | (simp only [List.length_drop, List.length_take]; rfl)) ?_; (with_reducible refine (laws_heldNodeS.calls k _ _ l0_0 a1 t128 _ ?side1 ?side2 A3.out).mono ?_); (case side1 => repeat (first | exact (Kd.C_below HR0_0.out HB.out) | (with_reducible refine Kd.C_alloc ?_ _) | (with_reducible refine Kd.C_drewN ?_ _) | (with_reducible refine Kd.C_drew ?_))); (case side2 => exact HC0_0.out); rintro e w' ⟨rfl, ⟨nd, rfl⟩⟩; refine ⟨_, rfl, ?_⟩))
    go_ret
    exact ⟨by first | rfl | (simp [errW_none, errW_some] <;> rfl) | (simp [*, errW_none, errW_some] <;> rfl), by repeat (first | (with_reducible first | exact HB.out | apply below_alloc | apply pw_below_drewN | apply below_drew1 | refine below_set ?_ GE127.out) | exact HB.out)⟩
  · rw [if_neg c4] at H
    have c4b0 : decide (t128 < 0) = false := decide_eq_false c4
    clear c4
    obtain rfl := Option.some.inj H
    go_enter Try.func35, Try.ntmps35
    go_wp2_with (first | ((with_reducible refine gate_dst (N := 2) rfl ?_); refine box_event ?hg (N := 2) ?hd (cs := #[.slice A0_0 l0_0.length c0_0, .int .i64 a0_1]) (t := 45) ?hr ?_; (case hd => rfl); (case hg => rfl); (case hr => first | (go_simp; done) | (go_simp; rfl)); intro gb127 hg w7 hbox hb; have n0_ := Aside0.mk (below_step (by repeat (first | (with_reducible first | exact HB.out | apply below_alloc | apply pw_below_drewN | apply below_drew1) | exact HB.out)) hb); have n1_ := Aside0.mk (hbox); have n2_ := Aside0.mk ((by rw [hg]; exact (below_size (by repeat (first | (with_reducible first | exact HB.out | apply below_alloc | apply pw_below_drewN | apply below_drew1) | exact HB.out))) : w.heap.size ≤ gb127)); have n3_ := Aside0.mk ((by rw [hg]; exact (below_size (by repeat (first | (with_reducible first | exact HB.out | apply below_alloc | apply pw_below_drewN | apply below_drew1) | exact HB.out))) : w.heap.size ≤ gb127)); clear HB; have HB := n0_; have BK127 := n1_; have GW127 := n2_; have GE127 := n3_; clear n0_ n1_ n2_ n3_; clear hb hbox hg; have hcz8_0 : w7.cell? ⟨gb127, 0, none⟩ = some (.slice A0_0 l0_0.length c0_0) := (blk_cell BK127.out 0).trans rfl; have hcz8_1 : w7.cell? ⟨gb127, 1, none⟩ = some (.int .i64 a0_1) := (blk_cell BK127.out 1).trans rfl; have hfz8_0 := blk_frozen BK127.out 0; have hfz8_1 := blk_frozen BK127.out 1) | ((with_reducible refine gate_callee (f := 74) rfl ?_); refine goesL_ (some 8) rfl rfl Try.func74 (by kernel_rfl) rfl #[.slice A0_0 l0_0.length c0_0, .int .i64 a1] rfl (by (try simp only [List.map_toArray, List.map_cons, List.map_nil]); first | done | rfl | (simp only [List.length_drop, List.length_take]; rfl)) ?_; (with_reducible refine (laws_heldNodeS.calls k _ _ l0_0 a1 t128 _ ?side1 ?side2 A3.out).mono ?_); (case side1 => repeat (first | exact (Kd.C_below HR0_0.out HB.out) | (with_reducible refine Kd.C_alloc ?_ _) | (with_reducible refine Kd.C_drewN ?_ _) | (with_reducible refine Kd.C_drew ?_))); (case side2 => exact HC0_0.out); rintro e w' ⟨rfl, ⟨nd, rfl⟩⟩; refine ⟨_, rfl, ?_⟩))
    go_ret
    exact ⟨by first | rfl | (simp [errW_none, errW_some] <;> rfl) | (simp [*, errW_none, errW_some] <;> rfl), by repeat (first | (with_reducible first | exact HB.out | apply below_alloc | apply pw_below_drewN | apply below_drew1 | refine below_set ?_ GE127.out) | exact HB.out)⟩

/-! ### laws_FnExactNewTree: function 6 (by hand) -/
set_option maxHeartbeats 8000000 in
set_option maxRecDepth 100000 in
theorem newTreeR  (r1 : List (S86)) (r2 : Int) (w : World) (h : impl_NewTree.f  = some (r1, r2)) :
    Calls Try.prog 32 #[] w fun e w' => ∃ v0_ : Value, e = .returned (.agg #[v0_, .int .i64 r2]) ∧ Kd.R k86 86 w' w.heap.size (fun _ => True) v0_ r1 ∧ Below w.heap.size w w' := by
  have hu45 := Try.underlying45
  have hu86 := Try.underlying86
  have HB := Aside0.mk (Below.refl w.heap.size w)
  have H : (some ((([(⟨true, ([] : List Int), ([] : List Int)⟩ : S86)] : List (S86))), 0)) = some (r1, r2) := h
  clear h
  obtain ⟨y106, hy106⟩ : ∃ y_ : List (S86), y_ = (([(⟨true, ([] : List Int), ([] : List Int)⟩ : S86)] : List (S86))) := ⟨_, rfl⟩
  replace H : (some (y106, 0)) = some (r1, r2) := by first | (rw [hy106]; with_reducible exact H) | (have H2_ := (Option.bind_some _ _).symm.trans H; rw [hy106]; with_reducible exact H2_) | (have H2_ := (Option.bind_some _ _).symm.trans H; with_reducible exact H2_) | with_reducible exact H | (rw [hy106]; exact H) | exact H
  have Ny106 := Aside0.mk hy106
  clear hy106
  simp only [Option.some.injEq, Prod.mk.injEq] at H
  obtain ⟨rfl, rfl⟩ := H
  go_enter Try.func32, Try.ntmps32
  go_wp2_with (first | ((with_reducible refine gate_dst (N := 0) rfl ?_); refine box_event ?hg (N := 0) ?hd (cs := #[.slice none 0 0, .int .i64 0]) (t := 45) ?hr ?_; (case hd => rfl); (case hg => rfl); (case hr => first | (go_simp; done) | (go_simp; rfl)); intro gb105 hg w1 hbox hb; have n0_ := Aside0.mk (below_step (by repeat (first | (with_reducible first | exact HB.out | apply below_alloc | apply pw_below_drewN | apply below_drew1) | exact HB.out)) hb); have n1_ := Aside0.mk (hbox); have n2_ := Aside0.mk ((by rw [hg]; exact (below_size (by repeat (first | (with_reducible first | exact HB.out | apply below_alloc | apply pw_below_drewN | apply below_drew1) | exact HB.out))) : w.heap.size ≤ gb105)); have n3_ := Aside0.mk ((by rw [hg]; exact (below_size (by repeat (first | (with_reducible first | exact HB.out | apply below_alloc | apply pw_below_drewN | apply below_drew1) | exact HB.out))) : w.heap.size ≤ gb105)); clear HB; have HB := n0_; have BK105 := n1_; have GW105 := n2_; have GE105 := n3_; clear n0_ n1_ n2_ n3_; clear hb hbox hg) | ((with_reducible refine gate_dst (N := 2) rfl ?_); refine Kd.R_lit k86 _ 86 ?hg (N := 2) ?hd (xs := ([(⟨true, ([] : List Int), ([] : List Int)⟩ : S86)] : List (S86))) (inner := [.bool true, .slice none 0 0, .slice none 0 0]) (ok := fun _ => True) (okp := fun _ => True) ?hr ?hp (fun _ hk => hk) trivial (Below.refl _ _) (Nat.le_refl _) (by simp) ?_; (case hd => rfl); (case hg => rfl); (case hr => first | (go_simp; done) | (go_simp; rfl)); (case hp => exact (Reps.c3 (show Kd.M k86 _ _ _ (⟨true, ([] : List Int), ([] : List Int)⟩ : S86) [.bool true, .slice none 0 0, .slice none 0 0] from (k86_mkM _ _ _ (⟨true, ([] : List Int), ([] : List Int)⟩ : S86) (Kd.R_nil _ _ _ _ _) (Kd.R_nil _ _ _ _ _))) (Reps.none _ _))); intro v107 w2 ho3 hb hg_ hnew_; clear hg_ hnew_; (first | rw [← Ny106.out] at ho3 | (simp only [Int.reduceToNat] at ho3; rw [← Ny106.out] at ho3)); have n0_ := Aside0.mk (Kd.R_lower ho3 (below_size (by repeat (first | (with_reducible first | exact HB.out | apply below_alloc | apply pw_below_drewN | apply below_drew1 | refine below_set ?_ GE105.out) | exact HB.out)))); have n1_ := Aside0.mk (blk_below (g := gb105) (o := .cells #[.slice none 0 0, .int .i64 0] 45 (0, 0)) (by (with_reducible repeat (first | refine blk_drewN ?_ _ | refine blk_drew ?_ | refine blk_alloc ?_ _)); exact BK105.out) hb); have n2_ := Aside0.mk (below_step (by repeat (first | (with_reducible first | exact HB.out | apply below_alloc | apply pw_below_drewN | apply below_drew1 | refine below_set ?_ GE105.out) | exact HB.out)) hb); clear BK105; clear HB; have HO108 := n0_; have BK105 := n1_; have HB := n2_; clear n0_ n1_ n2_; clear hb ho3; obtain ⟨Ao4, co4, eo4⟩ := Kd.R_slice HO108.out; subst eo4; have hcz5_0 : w2.cell? ⟨gb105, 0, none⟩ = some (.slice none 0 0) := (blk_cell BK105.out 0).trans rfl; have hcz5_1 : w2.cell? ⟨gb105, 1, none⟩ = some (.int .i64 0) := (blk_cell BK105.out 1).trans rfl; have hfz5_0 := blk_frozen BK105.out 0; have hfz5_1 := blk_frozen BK105.out 1))
  refine bodyPost_ret (results_cell_row rfl _ _ gb105 45 #[.slice Ao4 y106.length co4, .int .i64 0] (0, 0) _ rfl (by (with_reducible repeat (first | refine blk_drewN ?_ _ | refine blk_drew ?_ | refine blk_alloc ?_ _)); refine blk_put (cs := #[.slice Ao4 y106.length co4, .int .i64 0]) ?_ 1 _ rfl; (with_reducible repeat (first | refine blk_drewN ?_ _ | refine blk_drew ?_ | refine blk_alloc ?_ _)); refine blk_put (cs := #[.slice none 0 0, .int .i64 0]) ?_ 0 _ rfl; (with_reducible repeat (first | refine blk_drewN ?_ _ | refine blk_drew ?_ | refine blk_alloc ?_ _)); exact BK105.out) Try.underlying45 rfl (by kernel_rfl)) rfl ?_
  exact ⟨_, by first | rfl | (simp [errW_none, errW_some] <;> rfl) | (simp [*, errW_none, errW_some] <;> rfl), by (with_reducible repeat (first | apply Kd.R_alloc | apply Kd.R_drewN | apply Kd.R_drew)); exact Kd.R_mono (Kd.R_far (p := ⟨gb105, 1, none⟩) (Kd.R_far (p := ⟨gb105, 0, none⟩) (Kd.R_types HO108.out BK105.out (by decide)) (fun _ hk => hk.2) (.slice Ao4 y106.length co4)) (fun _ hk => hk.2) (.int .i64 0)) (fun _ hk => trivial), by repeat (first | (with_reducible first | exact HB.out | apply below_alloc | apply pw_below_drewN | apply below_drew1 | refine below_set ?_ GE105.out) | exact HB.out)⟩
set_option maxHeartbeats 8000000 in
set_option maxRecDepth 100000 in
theorem newTreeRs  (r1 : List (S86)) (r2 : Int) (w : World) (h : spec_NewTree.f  = some (r1, r2)) :
    Calls Try.prog 31 #[] w fun e w' => ∃ v0_ : Value, e = .returned (.agg #[v0_, .int .i64 r2]) ∧ Kd.R k86 86 w' w.heap.size (fun _ => True) v0_ r1 ∧ Below w.heap.size w w' := by
  have hu45 := Try.underlying45
  have hu86 := Try.underlying86
  have HB := Aside0.mk (Below.refl w.heap.size w)
  have H : (some ((([(⟨true, ([] : List Int), ([] : List Int)⟩ : S86)] : List (S86))), 0)) = some (r1, r2) := h
  clear h
  obtain ⟨y102, hy102⟩ : ∃ y_ : List (S86), y_ = (([(⟨true, ([] : List Int), ([] : List Int)⟩ : S86)] : List (S86))) := ⟨_, rfl⟩
  replace H : (some (y102, 0)) = some (r1, r2) := by first | (rw [hy102]; with_reducible exact H) | (have H2_ := (Option.bind_some _ _).symm.trans H; rw [hy102]; with_reducible exact H2_) | (have H2_ := (Option.bind_some _ _).symm.trans H; with_reducible exact H2_) | with_reducible exact H | (rw [hy102]; exact H) | exact H
  have Ny102 := Aside0.mk hy102
  clear hy102
  simp only [Option.some.injEq, Prod.mk.injEq] at H
  obtain ⟨rfl, rfl⟩ := H
  go_enter Try.func31, Try.ntmps31
  go_wp2_with (first | ((with_reducible refine gate_dst (N := 0) rfl ?_); refine box_event ?hg (N := 0) ?hd (cs := #[.slice none 0 0, .int .i64 0]) (t := 45) ?hr ?_; (case hd => rfl); (case hg => rfl); (case hr => first | (go_simp; done) | (go_simp; rfl)); intro gb101 hg w1 hbox hb; have n0_ := Aside0.mk (below_step (by repeat (first | (with_reducible first | exact HB.out | apply below_alloc | apply pw_below_drewN | apply below_drew1) | exact HB.out)) hb); have n1_ := Aside0.mk (hbox); have n2_ := Aside0.mk ((by rw [hg]; exact (below_size (by repeat (first | (with_reducible first | exact HB.out | apply below_alloc | apply pw_below_drewN | apply below_drew1) | exact HB.out))) : w.heap.size ≤ gb101)); have n3_ := Aside0.mk ((by rw [hg]; exact (below_size (by repeat (first | (with_reducible first | exact HB.out | apply below_alloc | apply pw_below_drewN | apply below_drew1) | exact HB.out))) : w.heap.size ≤ gb101)); clear HB; have HB := n0_; have BK101 := n1_; have GW101 := n2_; have GE101 := n3_; clear n0_ n1_ n2_ n3_; clear hb hbox hg) | ((with_reducible refine gate_dst (N := 2) rfl ?_); refine Kd.R_lit k86 _ 86 ?hg (N := 2) ?hd (xs := ([(⟨true, ([] : List Int), ([] : List Int)⟩ : S86)] : List (S86))) (inner := [.bool true, .slice none 0 0, .slice none 0 0]) (ok := fun _ => True) (okp := fun _ => True) ?hr ?hp (fun _ hk => hk) trivial (Below.refl _ _) (Nat.le_refl _) (by simp) ?_; (case hd => rfl); (case hg => rfl); (case hr => first | (go_simp; done) | (go_simp; rfl)); (case hp => exact (Reps.c3 (show Kd.M k86 _ _ _ (⟨true, ([] : List Int), ([] : List Int)⟩ : S86) [.bool true, .slice none 0 0, .slice none 0 0] from (k86_mkM _ _ _ (⟨true, ([] : List Int), ([] : List Int)⟩ : S86) (Kd.R_nil _ _ _ _ _) (Kd.R_nil _ _ _ _ _))) (Reps.none _ _))); intro v103 w2 ho3 hb hg_ hnew_; clear hg_ hnew_; (first | rw [← Ny102.out] at ho3 | (simp only [Int.reduceToNat] at ho3; rw [← Ny102.out] at ho3)); have n0_ := Aside0.mk (Kd.R_lower ho3 (below_size (by repeat (first | (with_reducible first | exact HB.out | apply below_alloc | apply pw_below_drewN | apply below_drew1 | refine below_set ?_ GE101.out) | exact HB.out)))); have n1_ := Aside0.mk (blk_below (g := gb101) (o := .cells #[.slice none 0 0, .int .i64 0] 45 (0, 0)) (by (with_reducible repeat (first | refine blk_drewN ?_ _ | refine blk_drew ?_ | refine blk_alloc ?_ _)); exact BK101.out) hb); have n2_ := Aside0.mk (below_step (by repeat (first | (with_reducible first | exact HB.out | apply below_alloc | apply pw_below_drewN | apply below_drew1 | refine below_set ?_ GE101.out) | exact HB.out)) hb); clear BK101; clear HB; have HO104 := n0_; have BK101 := n1_; have HB := n2_; clear n0_ n1_ n2_; clear hb ho3; obtain ⟨Ao4, co4, eo4⟩ := Kd.R_slice HO104.out; subst eo4; have hcz5_0 : w2.cell? ⟨gb101, 0, none⟩ = some (.slice none 0 0) := (blk_cell BK101.out 0).trans rfl; have hcz5_1 : w2.cell? ⟨gb101, 1, none⟩ = some (.int .i64 0) := (blk_cell BK101.out 1).trans rfl; have hfz5_0 := blk_frozen BK101.out 0; have hfz5_1 := blk_frozen BK101.out 1))
  refine bodyPost_ret (results_cell_row rfl _ _ gb101 45 #[.slice Ao4 y102.length co4, .int .i64 0] (0, 0) _ rfl (by (with_reducible repeat (first | refine blk_drewN ?_ _ | refine blk_drew ?_ | refine blk_alloc ?_ _)); refine blk_put (cs := #[.slice Ao4 y102.length co4, .int .i64 0]) ?_ 1 _ rfl; (with_reducible repeat (first | refine blk_drewN ?_ _ | refine blk_drew ?_ | refine blk_alloc ?_ _)); refine blk_put (cs := #[.slice none 0 0, .int .i64 0]) ?_ 0 _ rfl; (with_reducible repeat (first | refine blk_drewN ?_ _ | refine blk_drew ?_ | refine blk_alloc ?_ _)); exact BK101.out) Try.underlying45 rfl (by kernel_rfl)) rfl ?_
  exact ⟨_, by first | rfl | (simp [errW_none, errW_some] <;> rfl) | (simp [*, errW_none, errW_some] <;> rfl), by (with_reducible repeat (first | apply Kd.R_alloc | apply Kd.R_drewN | apply Kd.R_drew)); exact Kd.R_mono (Kd.R_far (p := ⟨gb101, 1, none⟩) (Kd.R_far (p := ⟨gb101, 0, none⟩) (Kd.R_types HO104.out BK101.out (by decide)) (fun _ hk => hk.2) (.slice Ao4 y102.length co4)) (fun _ hk => hk.2) (.int .i64 0)) (fun _ hk => trivial), by repeat (first | (with_reducible first | exact HB.out | apply below_alloc | apply pw_below_drewN | apply below_drew1 | refine below_set ?_ GE101.out) | exact HB.out)⟩
set_option maxHeartbeats 8000000 in
set_option maxRecDepth 100000 in
theorem markEmp (A0 : Option Addr) (c0 : Nat) (a1 : Int) (w : World) :
    Calls Try.prog 95 #[.slice A0 0 c0, .int .i64 a1] w fun e w' => e = .returned (.int .i64 a1) ∧ Drawn0 w w' := by
  go_enter Try.func95, Try.ntmps95
  go_wp2
  go_loopg [1, 5] 0 (fun kq v1 v5 w' => v1 = .int .i64 a1 ∧ v5 = .int .i64 0 ∧ Drawn0 w w')
  case atStart => exact ⟨rfl, rfl, by repeat (first | exact Drawn0.refl _ | apply Drawn0.step)⟩
  case round =>
    obtain ⟨rfl, rfl, ⟨m1, rfl⟩⟩ := hrel
    go_wp2
    go_ret
    exact ⟨by first | rfl | (simp; done) | (simp [*]; done), by repeat (first | exact Drawn0.refl _ | apply Drawn0.step)⟩
set_option maxHeartbeats 8000000 in
set_option maxRecDepth 100000 in
theorem markNodes1 (v : Value) (x : S86) (a : Int) (w0 w : World) (hB : Below w0.heap.size w0 w) (ho : Kd.R k86 86 w w0.heap.size (fun _ => True) v [x]) (h1 : x.f1 = []) (h2 : x.f2 = []) :
    Calls Try.prog 73 #[v, .int .i64 a] w fun e w' => e = .returned (.int .i64 (wrap64 (a + 1))) ∧ Kd.R k86 86 w' w0.heap.size (fun _ => True) v [(⟨Int.tmod a 3 == 0, x.f1, x.f2⟩ : S86)] ∧ Below w0.heap.size w0 w' ∧ w.grownBy w' v.ownBlock := by
  obtain ⟨g, cap, rfl, hg, hlt, _⟩ := Kd.R_form ho (by simp)
  obtain ⟨ce, hcl, hM, hcc, hfr⟩ := Kd.R_elem ho z86 0 (by omega) (by simp)
  obtain ⟨v1, v2, rfl, hv1, hv2⟩ := k86_openM hM
  rw [show ([x] : List S86).getD (0 : Int).toNat z86 = x from rfl] at hv1 hv2 hM hcl hcc
  have hseg := Kd.R_seg ho 0 (by omega) (by simp) (seg := [.bool (Int.tmod a 3 == 0)]) (j := 0) hcl hcc (show 1 ≤ 3 from by decide) (x' := (⟨Int.tmod a 3 == 0, x.f1, x.f2⟩ : S86)) (okp := _) (k86_mkM _ _ _ (⟨Int.tmod a 3 == 0, x.f1, x.f2⟩ : S86) hv1 hv2) (fun _ hk => hk)
  obtain ⟨A1, c1, rfl⟩ := Kd.R_slice hv1
  obtain ⟨A2, c2, rfl⟩ := Kd.R_slice hv2
  have e0 : w.cell? ⟨g, 0, none⟩ = some (.bool x.f0) := hcc 0 _ rfl
  have e1 : w.cell? ⟨g, 1, none⟩ = some (.slice A1 0 c1) := by have := hcc 1 _ rfl; rw [h1] at this; exact this
  have e2 : w.cell? ⟨g, 2, none⟩ = some (.slice A2 0 c2) := by have := hcc 2 _ rfl; rw [h2] at this; exact this
  have f0 : w.frozen? ⟨g, 0, none⟩ = false := hfr 0
  have HS : Aside0 (Kd.R k86 86 (w.setCell ⟨g, 0, none⟩ (.bool (Int.tmod a 3 == 0))) w0.heap.size (fun _ => True) (.slice (some ⟨g, 0, none⟩) 1 cap) [(⟨Int.tmod a 3 == 0, x.f1, x.f2⟩ : S86)]) := ⟨hseg.1⟩
  have HG : Aside0 (w.grownBy (w.setCell ⟨g, 0, none⟩ (.bool (Int.tmod a 3 == 0))) (some g)) := ⟨hseg.2⟩
  have HBB := Aside0.mk hB
  have HGE := Aside0.mk hg
  have hsw : ∀ m, (w.drewN m).setCell ⟨g, 0, none⟩ (.bool (Int.tmod a 3 == 0)) = (w.setCell ⟨g, 0, none⟩ (.bool (Int.tmod a 3 == 0))).drewN m := fun m => rfl
  have dd : ∀ (X : World) (p q : Nat), (X.drewN p).drewN q = X.drewN (p + q) := fun X p q => by simp [World.drewN, Nat.add_assoc]
  show Calls Try.prog 73 #[.slice (some ⟨g, 0, none⟩) 1 cap, .int .i64 a] w _
  clear hseg hcc hfr hcl hM hv1 hv2 ho hB hg
  go_enter Try.func73, Try.ntmps73
  go_wp2
  go_loopg [1, 5] 1 (fun kq v1 v5 w' => (kq = 1 ∧ v1 = .int .i64 a ∧ v5 = .int .i64 0 ∧ Drawn0 w w') ∨ (kq = 0 ∧ v1 = .int .i64 (wrap64 (a + 1)) ∧ v5 = .int .i64 1 ∧ Drawn0 (w.setCell ⟨g, 0, none⟩ (.bool (Int.tmod a 3 == 0))) w'))
  case atStart => exact Or.inl ⟨rfl, rfl, rfl, by repeat (first | exact Drawn0.refl _ | apply Drawn0.step)⟩
  case round =>
    rcases hrel with ⟨rfl, rfl, rfl, ⟨m1, rfl⟩⟩ | ⟨rfl, rfl, rfl, ⟨m1, rfl⟩⟩
    · go_wp2_with (go_at_call 95; go_loud (refine (markEmp _ _ _ _).mono ?_); rintro e w' ⟨rfl, ⟨n1, rfl⟩⟩)
      go_roundg 0
      case measure => omega
      case rel => exact Or.inr ⟨rfl, rfl, rfl, ⟨⟨_, rfl⟩⟩⟩
    · go_wp2
      go_ret
      exact ⟨rfl, by repeat (first | exact HS.out | apply Kd.R_drewN | apply Kd.R_drew), by repeat (first | exact below_set HBB.out HGE.out | apply pw_below_drewN | apply below_drew1), (by obtain ⟨q1, q2, q3, q4, q5⟩ := HG.out; exact ⟨q1, q2, q3, q4, q5⟩)⟩
set_option maxHeartbeats 8000000 in
set_option maxRecDepth 100000 in
theorem markTree1 (A : Option Addr) (c : Nat) (x : S86) (t a : Int) (w0 w : World) (hB : Below w0.heap.size w0 w) (ho : Kd.R k86 86 w w0.heap.size (fun _ => True) (.slice A 1 c) [x]) (h1 : x.f1 = []) (h2 : x.f2 = []) :
    Calls Try.prog 34 #[.agg #[.slice A 1 c, .int .i64 t], .int .i64 a] w fun e w' => e = .returned (.int .i64 (wrap64 (a + 1))) ∧ Kd.R k86 86 w' w0.heap.size (fun _ => True) (.slice A 1 c) [(⟨Int.tmod a 3 == 0, x.f1, x.f2⟩ : S86)] ∧ Below w0.heap.size w0 w' ∧ w.grownBy w' (Value.slice A 1 c).ownBlock := by
  have HO := Aside0.mk ho
  have HB := Aside0.mk hB
  have HMN : Aside0 (∀ W : World, Below w0.heap.size w0 W → Kd.R k86 86 W w0.heap.size (fun _ => True) (.slice A 1 c) [x] → Calls Try.prog 73 #[.slice A 1 c, .int .i64 a] W fun e w' => e = .returned (.int .i64 (wrap64 (a + 1))) ∧ Kd.R k86 86 w' w0.heap.size (fun _ => True) (.slice A 1 c) [(⟨Int.tmod a 3 == 0, x.f1, x.f2⟩ : S86)] ∧ Below w0.heap.size w0 w' ∧ W.grownBy w' (Value.slice A 1 c).ownBlock) := ⟨fun W hb hr => markNodes1 _ x a w0 W hb hr h1 h2⟩
  have HWB := Aside0.mk (Below.refl w.heap.size w)
  clear ho hB
  go_enter Try.func34, Try.ntmps34
  go_wp2_with (go_at_call 73; go_loud (refine (HMN.out _ (by repeat (first | exact HB.out | apply below_alloc | apply pw_below_drewN | apply below_drew1)) (by repeat (first | exact HO.out | apply Kd.R_alloc | apply Kd.R_drewN | apply Kd.R_drew))).mono ?_); rintro e w' ⟨rfl, hr, hb, hg⟩; have HR1 := Aside0.mk hr; have HB1 := Aside0.mk hb; have HG1 := Aside0.mk hg; clear hr hb hg)
  go_ret
  refine ⟨rfl, HR1.out, HB1.out, ?_⟩
  obtain ⟨q1, q2, q3, q4, q5⟩ := HG1.out
  refine ⟨q1, q2, q3, Nat.le_trans (Nat.le_of_lt (by show w.heap.size < (w.heap.push _).size; rw [Array.size_push]; omega)) q4, fun k hk hne => ?_⟩
  rw [q5 k (by show k < (w.heap.push _).size; rw [Array.size_push]; omega) hne]
  show (w.heap.push _)[k]? = _
  rw [Array.getElem?_push, if_neg (by omega)]
def zT : S86 := ⟨true, ([] : List Int), ([] : List Int)⟩
def zF : S86 := ⟨false, ([] : List Int), ([] : List Int)⟩
set_option maxHeartbeats 8000000 in
set_option maxRecDepth 100000 in
theorem newTreeS (w : World) : Calls Try.prog 31 #[] w fun e w' => ∃ v0_ : Value, e = .returned (.agg #[v0_, .int .i64 0]) ∧ Kd.R k86 86 w' w.heap.size (fun _ => True) v0_ [zT] ∧ Below w.heap.size w w' := newTreeRs [zT] 0 w rfl
set_option maxHeartbeats 8000000 in
set_option maxRecDepth 100000 in
theorem newTreeI (w : World) : Calls Try.prog 32 #[] w fun e w' => ∃ v0_ : Value, e = .returned (.agg #[v0_, .int .i64 0]) ∧ Kd.R k86 86 w' w.heap.size (fun _ => True) v0_ [zT] ∧ Below w.heap.size w w' := newTreeR [zT] 0 w rfl
set_option maxHeartbeats 8000000 in
set_option maxRecDepth 100000 in
theorem eqTT : laws_eqTree.f 5 [zT] 0 [zT] 0 = some true := by decide +kernel
set_option maxHeartbeats 8000000 in
set_option maxRecDepth 100000 in
theorem heldF : laws_heldTree.f 5 [zF] 0 1 = some 2 := by decide +kernel
set_option maxHeartbeats 8000000 in
set_option maxRecDepth 100000 in
theorem markTT (A : Option Addr) (c : Nat) (w0 w : World) (hB : Below w0.heap.size w0 w) (ho : Kd.R k86 86 w w0.heap.size (fun _ => True) (.slice A 1 c) [zT]) :
    Calls Try.prog 34 #[.agg #[.slice A 1 c, .int .i64 0], .int .i64 1] w fun e w' => e = .returned (.int .i64 2) ∧ Kd.R k86 86 w' w0.heap.size (fun _ => True) (.slice A 1 c) [zF] ∧ Below w0.heap.size w0 w' ∧ w.grownBy w' (Value.slice A 1 c).ownBlock := by
  refine (markTree1 A c zT 0 1 w0 w hB ho rfl rfl).mono ?_
  rintro e w' ⟨rfl, h⟩
  exact ⟨by rw [show wrap64 (1 + 1) = 2 by unfold wrap64; omega], h⟩
set_option maxHeartbeats 8000000 in
set_option maxRecDepth 100000 in
theorem lawNT (w : World) : Calls Try.prog 6 #[] w fun e w' => e = .returned (.bool true) ∧ Below w.heap.size w w' := by
  have HB := Aside0.mk (Below.refl w.heap.size w)
  go_enter Try.func6, Try.ntmps6
  go_wp2_with (first | (go_at_call 31; go_loud (refine (newTreeS _).mono ?_); rintro e w_1 ⟨v2, rfl, ho3, hb⟩; have n_HB := Aside0.mk (below_step (by repeat (first | (with_reducible first | exact HB.out | apply below_alloc | apply pw_below_drewN | apply below_drew1) | exact HB.out)) hb); have n_HOho3 := Aside0.mk (Kd.R_lower ho3 (below_size (by repeat (first | (with_reducible first | exact HB.out | apply below_alloc | apply pw_below_drewN | apply below_drew1) | exact HB.out)))); clear HB; have HB := n_HB; clear n_HB; have HOho3 := n_HOho3; clear n_HOho3 ho3; clear hb; obtain ⟨Aov2, cov2, eov2⟩ := Kd.R_slice HOho3.out; subst eov2) | ((with_reducible refine gate_dst (N := 1) rfl ?_); refine box_event ?hg (N := 1) ?hd (cs := #[.slice none 0 0, .int .i64 0]) (t := 45) ?hr ?_; (case hd => rfl); (case hg => rfl); (case hr => first | (go_simp; done) | (go_simp; rfl)); intro gb4 hg w_5 hbox hb; have n_HOho3 := Aside0.mk (Kd.R_below (by (with_reducible repeat (first | apply Kd.R_alloc | apply Kd.R_drewN | apply Kd.R_drew)); exact HOho3.out) hb); have n_HB := Aside0.mk (below_step (by repeat (first | (with_reducible first | exact HB.out | apply below_alloc | apply pw_below_drewN | apply below_drew1) | exact HB.out)) hb); have n_GE := Aside0.mk ((by rw [hg]; exact (below_size (by repeat (first | (with_reducible first | exact HB.out | apply below_alloc | apply pw_below_drewN | apply below_drew1) | exact HB.out)))) : w.heap.size ≤ gb4); clear HOho3 HB; have HOho3 := n_HOho3; have HB := n_HB; clear n_HOho3 n_HB; have BKgb4 := Aside0.mk hbox; have GEgb4 := n_GE; clear n_GE; have hcq6_0 : w_5.cell? ⟨gb4, 0, none⟩ = some (.slice none 0 0) := (blk_cell BKgb4.out 0).trans rfl; have hfq6_0 := blk_frozen BKgb4.out 0; have hcq6_1 : w_5.cell? ⟨gb4, 1, none⟩ = some (.int .i64 0) := (blk_cell BKgb4.out 1).trans rfl; have hfq6_1 := blk_frozen BKgb4.out 1; clear hbox hb hg) | ((with_reducible refine gate_store (t := 45) (p := 1) rfl ?_); refine store_event (t := 45) (p := 1) (v := ?vo_w_7) (w1 := ((w_5.setCell ⟨gb4, 0, none⟩ (.slice Aov2 ([zT]).length cov2)).setCell ⟨gb4, 1, none⟩ (.int .i64 0))) ?hg ?ho ?hn ?hr ?_; (case ho => rfl); (case hg => rfl); (case hn => rfl); (case hr => first | (go_simp; done) | (go_simp; rfl)); intro w_7 hw; have n_HOho3 : Aside0 (Kd.R k86 86 w_7 w.heap.size (fun _ => True) (.slice Aov2 ([zT]).length cov2) ([zT])) := ⟨(by rw [hw]; exact (by (with_reducible repeat (first | apply Kd.R_alloc | apply Kd.R_drewN | apply Kd.R_drew)); exact Kd.R_mono (Kd.R_far (p := ⟨gb4, 1, none⟩) (Kd.R_far (p := ⟨gb4, 0, none⟩) (Kd.R_types HOho3.out BKgb4.out (by decide)) (fun _ hk => hk.2) (.slice Aov2 ([zT]).length cov2)) (fun _ hk => hk.2) (.int .i64 0)) (fun _ hk => trivial)))⟩; have n_BKgb4 : Aside0 (w_7.heap[gb4]? = some (.cells #[.slice Aov2 ([zT]).length cov2, .int .i64 0] 45 (0, 0))) := ⟨(by rw [hw]; exact (by (with_reducible repeat (first | refine blk_drewN ?_ _ | refine blk_drew ?_ | refine blk_alloc ?_ _)); refine blk_put (cs := #[.slice Aov2 ([zT]).length cov2, .int .i64 0]) ?_ 1 _ rfl; (with_reducible repeat (first | refine blk_drewN ?_ _ | refine blk_drew ?_ | refine blk_alloc ?_ _)); refine blk_put (cs := #[.slice none 0 0, .int .i64 0]) ?_ 0 _ rfl; (with_reducible repeat (first | refine blk_drewN ?_ _ | refine blk_drew ?_ | refine blk_alloc ?_ _)); exact BKgb4.out))⟩; have n_HB : Aside0 (Below w.heap.size w w_7) := ⟨(by rw [hw]; exact (by repeat (first | (with_reducible first | exact HB.out | apply below_alloc | apply pw_below_drewN | apply below_drew1 | refine below_set ?_ GEgb4.out) | exact HB.out)))⟩; clear hw; clear HOho3 BKgb4 HB; have HOho3 := n_HOho3; have BKgb4 := n_BKgb4; have HB := n_HB; clear n_HOho3 n_BKgb4 n_HB; have hcq8_0 : w_7.cell? ⟨gb4, 0, none⟩ = some (.slice Aov2 ([zT]).length cov2) := (blk_cell BKgb4.out 0).trans rfl; have hfq8_0 := blk_frozen BKgb4.out 0; have hcq8_1 : w_7.cell? ⟨gb4, 1, none⟩ = some (.int .i64 0) := (blk_cell BKgb4.out 1).trans rfl; have hfq8_1 := blk_frozen BKgb4.out 1) | (go_at_call 32; go_loud (refine (newTreeI _).mono ?_); rintro e w_9 ⟨v10, rfl, ho11, hb⟩; have n_HOho3 := Aside0.mk (Kd.R_elder' (by (with_reducible repeat (first | apply Kd.R_alloc | apply Kd.R_drewN | apply Kd.R_drew)); exact HOho3.out) (Kd.R_base ho11) hb); have n_BKgb4 := Aside0.mk (blk_below (g := gb4) (o := (.cells #[.slice Aov2 ([zT]).length cov2, .int .i64 0] 45 (0, 0))) (by (with_reducible repeat (first | refine blk_drewN ?_ _ | refine blk_drew ?_ | refine blk_alloc ?_ _)); exact BKgb4.out) hb); have n_HB := Aside0.mk (below_step (by repeat (first | (with_reducible first | exact HB.out | apply below_alloc | apply pw_below_drewN | apply below_drew1 | refine below_set ?_ GEgb4.out) | exact HB.out)) hb); have n_HOho11 := Aside0.mk (Kd.R_lower ho11 (below_size (by repeat (first | (with_reducible first | exact HB.out | apply below_alloc | apply pw_below_drewN | apply below_drew1 | refine below_set ?_ GEgb4.out) | exact HB.out)))); clear HOho3 BKgb4 HB; have HOho3 := n_HOho3; have BKgb4 := n_BKgb4; have HB := n_HB; clear n_HOho3 n_BKgb4 n_HB; have HOho11 := n_HOho11; clear n_HOho11 ho11; clear hb; obtain ⟨Aov10, cov10, eov10⟩ := Kd.R_slice HOho11.out; subst eov10; have hcq12_0 : w_9.cell? ⟨gb4, 0, none⟩ = some (.slice Aov2 ([zT]).length cov2) := (blk_cell BKgb4.out 0).trans rfl; have hfq12_0 := blk_frozen BKgb4.out 0; have hcq12_1 : w_9.cell? ⟨gb4, 1, none⟩ = some (.int .i64 0) := (blk_cell BKgb4.out 1).trans rfl; have hfq12_1 := blk_frozen BKgb4.out 1) | ((with_reducible refine gate_dst (N := 2) rfl ?_); refine box_event ?hg (N := 2) ?hd (cs := #[.slice none 0 0, .int .i64 0]) (t := 45) ?hr ?_; (case hd => rfl); (case hg => rfl); (case hr => first | (go_simp; done) | (go_simp; rfl)); intro gb13 hg w_14 hbox hb; have n_HOho3 := Aside0.mk (Kd.R_below (by (with_reducible repeat (first | apply Kd.R_alloc | apply Kd.R_drewN | apply Kd.R_drew)); exact HOho3.out) hb); have n_HOho11 := Aside0.mk (Kd.R_below (by (with_reducible repeat (first | apply Kd.R_alloc | apply Kd.R_drewN | apply Kd.R_drew)); exact HOho11.out) hb); have n_BKgb4 := Aside0.mk (blk_below (g := gb4) (o := (.cells #[.slice Aov2 ([zT]).length cov2, .int .i64 0] 45 (0, 0))) (by (with_reducible repeat (first | refine blk_drewN ?_ _ | refine blk_drew ?_ | refine blk_alloc ?_ _)); exact BKgb4.out) hb); have n_HB := Aside0.mk (below_step (by repeat (first | (with_reducible first | exact HB.out | apply below_alloc | apply pw_below_drewN | apply below_drew1 | refine below_set ?_ GEgb4.out) | exact HB.out)) hb); have n_GE := Aside0.mk ((by rw [hg]; exact (below_size (by repeat (first | (with_reducible first | exact HB.out | apply below_alloc | apply pw_below_drewN | apply below_drew1 | refine below_set ?_ GEgb4.out) | exact HB.out)))) : w.heap.size ≤ gb13); have n_NAgb4 := Aside0.mk ((by rw [hg]; exact Nat.ne_of_lt (blk_lt (g := gb4) (o := (.cells #[.slice Aov2 ([zT]).length cov2, .int .i64 0] 45 (0, 0))) (by (with_reducible repeat (first | refine blk_drewN ?_ _ | refine blk_drew ?_ | refine blk_alloc ?_ _)); exact BKgb4.out))) : gb4 ≠ gb13); clear HOho3 HOho11 BKgb4 HB; have HOho3 := n_HOho3; have HOho11 := n_HOho11; have BKgb4 := n_BKgb4; have HB := n_HB; clear n_HOho3 n_HOho11 n_BKgb4 n_HB; have BKgb13 := Aside0.mk hbox; have GEgb13 := n_GE; clear n_GE; have hnegb4_gb13 := n_NAgb4.out; have hnfgb4_gb13 : gb13 ≠ gb4 := fun h => n_NAgb4.out h.symm; clear n_NAgb4; have hcq15_0 : w_14.cell? ⟨gb4, 0, none⟩ = some (.slice Aov2 ([zT]).length cov2) := (blk_cell BKgb4.out 0).trans rfl; have hfq15_0 := blk_frozen BKgb4.out 0; have hcq15_1 : w_14.cell? ⟨gb4, 1, none⟩ = some (.int .i64 0) := (blk_cell BKgb4.out 1).trans rfl; have hfq15_1 := blk_frozen BKgb4.out 1; have hcq16_0 : w_14.cell? ⟨gb13, 0, none⟩ = some (.slice none 0 0) := (blk_cell BKgb13.out 0).trans rfl; have hfq16_0 := blk_frozen BKgb13.out 0; have hcq16_1 : w_14.cell? ⟨gb13, 1, none⟩ = some (.int .i64 0) := (blk_cell BKgb13.out 1).trans rfl; have hfq16_1 := blk_frozen BKgb13.out 1; clear hbox hb hg) | ((with_reducible refine gate_store (t := 45) (p := 2) rfl ?_); refine store_event (t := 45) (p := 2) (v := ?vo_w_17) (w1 := ((w_14.setCell ⟨gb13, 0, none⟩ (.slice Aov10 ([zT]).length cov10)).setCell ⟨gb13, 1, none⟩ (.int .i64 0))) ?hg ?ho ?hn ?hr ?_; (case ho => rfl); (case hg => rfl); (case hn => rfl); (case hr => first | (go_simp; done) | (go_simp; rfl)); intro w_17 hw; have n_HOho3 : Aside0 (Kd.R k86 86 w_17 w.heap.size (fun k_ => True ∧ some k_ ≠ (Value.ownBlock (.slice Aov10 ([zT]).length cov10))) (.slice Aov2 ([zT]).length cov2) ([zT])) := ⟨(by rw [hw]; exact (by (with_reducible repeat (first | apply Kd.R_alloc | apply Kd.R_drewN | apply Kd.R_drew)); exact Kd.R_mono (Kd.R_far (p := ⟨gb13, 1, none⟩) (Kd.R_far (p := ⟨gb13, 0, none⟩) (Kd.R_types HOho3.out BKgb13.out (by decide)) (fun _ hk => hk.2) (.slice Aov10 ([zT]).length cov10)) (fun _ hk => hk.2) (.int .i64 0)) (fun _ hk => hk.1)))⟩; have n_HOho11 : Aside0 (Kd.R k86 86 w_17 w.heap.size (fun _ => True) (.slice Aov10 ([zT]).length cov10) ([zT])) := ⟨(by rw [hw]; exact (by (with_reducible repeat (first | apply Kd.R_alloc | apply Kd.R_drewN | apply Kd.R_drew)); exact Kd.R_mono (Kd.R_far (p := ⟨gb13, 1, none⟩) (Kd.R_far (p := ⟨gb13, 0, none⟩) (Kd.R_types HOho11.out BKgb13.out (by decide)) (fun _ hk => hk.2) (.slice Aov10 ([zT]).length cov10)) (fun _ hk => hk.2) (.int .i64 0)) (fun _ hk => trivial)))⟩; have n_BKgb4 : Aside0 (w_17.heap[gb4]? = some (.cells #[.slice Aov2 ([zT]).length cov2, .int .i64 0] 45 (0, 0))) := ⟨(by rw [hw]; exact (by (with_reducible repeat (first | refine blk_drewN ?_ _ | refine blk_drew ?_ | refine blk_alloc ?_ _)); refine blk_far ?_ hnegb4_gb13 _; (with_reducible repeat (first | refine blk_drewN ?_ _ | refine blk_drew ?_ | refine blk_alloc ?_ _)); refine blk_far ?_ hnegb4_gb13 _; (with_reducible repeat (first | refine blk_drewN ?_ _ | refine blk_drew ?_ | refine blk_alloc ?_ _)); exact BKgb4.out))⟩; have n_BKgb13 : Aside0 (w_17.heap[gb13]? = some (.cells #[.slice Aov10 ([zT]).length cov10, .int .i64 0] 45 (0, 0))) := ⟨(by rw [hw]; exact (by (with_reducible repeat (first | refine blk_drewN ?_ _ | refine blk_drew ?_ | refine blk_alloc ?_ _)); refine blk_put (cs := #[.slice Aov10 ([zT]).length cov10, .int .i64 0]) ?_ 1 _ rfl; (with_reducible repeat (first | refine blk_drewN ?_ _ | refine blk_drew ?_ | refine blk_alloc ?_ _)); refine blk_put (cs := #[.slice none 0 0, .int .i64 0]) ?_ 0 _ rfl; (with_reducible repeat (first | refine blk_drewN ?_ _ | refine blk_drew ?_ | refine blk_alloc ?_ _)); exact BKgb13.out))⟩; have n_HB : Aside0 (Below w.heap.size w w_17) := ⟨(by rw [hw]; exact (by repeat (first | (with_reducible first | exact HB.out | apply below_alloc | apply pw_below_drewN | apply below_drew1 | refine below_set ?_ GEgb4.out | refine below_set ?_ GEgb13.out) | exact HB.out)))⟩; clear hw; clear HOho3 HOho11 BKgb4 BKgb13 HB; have HOho3 := n_HOho3; have HOho11 := n_HOho11; have BKgb4 := n_BKgb4; have BKgb13 := n_BKgb13; have HB := n_HB; clear n_HOho3 n_HOho11 n_BKgb4 n_BKgb13 n_HB; have hcq18_0 : w_17.cell? ⟨gb4, 0, none⟩ = some (.slice Aov2 ([zT]).length cov2) := (blk_cell BKgb4.out 0).trans rfl; have hfq18_0 := blk_frozen BKgb4.out 0; have hcq18_1 : w_17.cell? ⟨gb4, 1, none⟩ = some (.int .i64 0) := (blk_cell BKgb4.out 1).trans rfl; have hfq18_1 := blk_frozen BKgb4.out 1; have hcq19_0 : w_17.cell? ⟨gb13, 0, none⟩ = some (.slice Aov10 ([zT]).length cov10) := (blk_cell BKgb13.out 0).trans rfl; have hfq19_0 := blk_frozen BKgb13.out 0; have hcq19_1 : w_17.cell? ⟨gb13, 1, none⟩ = some (.int .i64 0) := (blk_cell BKgb13.out 1).trans rfl; have hfq19_1 := blk_frozen BKgb13.out 1) | (go_at_call 33; go_loud (refine (laws_eqTree.calls 5 _ _ [zT] 0 _ _ [zT] 0 true _ ?s1 ?s2 ?s3 ?s4 eqTT).mono ?_); (case s1 => have q_ := (Kd.R_reads' HOho11.out).2.2; repeat (first | (with_reducible exact q_) | (with_reducible refine Kd.C_alloc ?_ _) | (with_reducible refine Kd.C_drewN ?_ _) | (with_reducible refine Kd.C_drew ?_) | exact q_)); (case s2 => exact (Kd.R_reads' HOho11.out).2.1); (case s3 => have q_ := (Kd.R_reads' HOho3.out).2.2; repeat (first | (with_reducible exact q_) | (with_reducible refine Kd.C_alloc ?_ _) | (with_reducible refine Kd.C_drewN ?_ _) | (with_reducible refine Kd.C_drew ?_) | exact q_)); (case s4 => exact (Kd.R_reads' HOho3.out).2.1); rintro e w_20 ⟨rfl, hb⟩; have n_HOho3 := Aside0.mk (Kd.R_below (by (with_reducible repeat (first | apply Kd.R_alloc | apply Kd.R_drewN | apply Kd.R_drew)); exact HOho3.out) hb); have n_HOho11 := Aside0.mk (Kd.R_below (by (with_reducible repeat (first | apply Kd.R_alloc | apply Kd.R_drewN | apply Kd.R_drew)); exact HOho11.out) hb); have n_BKgb4 := Aside0.mk (blk_below (g := gb4) (o := (.cells #[.slice Aov2 ([zT]).length cov2, .int .i64 0] 45 (0, 0))) (by (with_reducible repeat (first | refine blk_drewN ?_ _ | refine blk_drew ?_ | refine blk_alloc ?_ _)); exact BKgb4.out) hb); have n_BKgb13 := Aside0.mk (blk_below (g := gb13) (o := (.cells #[.slice Aov10 ([zT]).length cov10, .int .i64 0] 45 (0, 0))) (by (with_reducible repeat (first | refine blk_drewN ?_ _ | refine blk_drew ?_ | refine blk_alloc ?_ _)); exact BKgb13.out) hb); have n_HB := Aside0.mk (below_step (by repeat (first | (with_reducible first | exact HB.out | apply below_alloc | apply pw_below_drewN | apply below_drew1 | refine below_set ?_ GEgb4.out | refine below_set ?_ GEgb13.out) | exact HB.out)) hb); clear HOho3 HOho11 BKgb4 BKgb13 HB; have HOho3 := n_HOho3; have HOho11 := n_HOho11; have BKgb4 := n_BKgb4; have BKgb13 := n_BKgb13; have HB := n_HB; clear n_HOho3 n_HOho11 n_BKgb4 n_BKgb13 n_HB; clear hb; have hcq21_0 : w_20.cell? ⟨gb4, 0, none⟩ = some (.slice Aov2 ([zT]).length cov2) := (blk_cell BKgb4.out 0).trans rfl; have hfq21_0 := blk_frozen BKgb4.out 0; have hcq21_1 : w_20.cell? ⟨gb4, 1, none⟩ = some (.int .i64 0) := (blk_cell BKgb4.out 1).trans rfl; have hfq21_1 := blk_frozen BKgb4.out 1; have hcq22_0 : w_20.cell? ⟨gb13, 0, none⟩ = some (.slice Aov10 ([zT]).length cov10) := (blk_cell BKgb13.out 0).trans rfl; have hfq22_0 := blk_frozen BKgb13.out 0; have hcq22_1 : w_20.cell? ⟨gb13, 1, none⟩ = some (.int .i64 0) := (blk_cell BKgb13.out 1).trans rfl; have hfq22_1 := blk_frozen BKgb13.out 1))
  refine (markTT Aov10 cov10 w _ HB.out HOho11.out).mono ?_
  rintro e w_23 ⟨rfl, hr, hb, hg⟩
  have n_HOho11 : Aside0 (Kd.R k86 86 w_23 w.heap.size (fun _ => True) (.slice Aov10 ([zT]).length cov10) [zF]) := ⟨hr⟩
  have n_HOho3 : Aside0 (Kd.R k86 86 w_23 w.heap.size (fun k_ => True ∧ some k_ ≠ (Value.ownBlock (.slice Aov10 ([zT]).length cov10))) (.slice Aov2 ([zT]).length cov2) [zT]) := ⟨Kd.R_step HOho3.out (fun k hk hlt => by obtain ⟨_, _, _, _, q5⟩ := hg; exact q5 k hlt hk.2)⟩
  have n_BKgb4 := Aside0.mk (blk_grown (g := gb4) (o := (.cells #[.slice Aov2 ([zT]).length cov2, .int .i64 0] 45 (0, 0))) BKgb4.out hg (Kd.R_ne HOho11.out BKgb4.out (by decide)))
  have n_BKgb13 := Aside0.mk (blk_grown (g := gb13) (o := (.cells #[.slice Aov10 ([zT]).length cov10, .int .i64 0] 45 (0, 0))) BKgb13.out hg (Kd.R_ne HOho11.out BKgb13.out (by decide)))
  have n_HB := Aside0.mk hb
  clear hr hb hg
  clear HOho11 HOho3 BKgb4 BKgb13 HB
  have HOho11 := n_HOho11
  have HOho3 := n_HOho3
  have BKgb4 := n_BKgb4
  have BKgb13 := n_BKgb13
  have HB := n_HB
  clear n_HOho11 n_HOho3 n_BKgb4 n_BKgb13 n_HB
  have hcq24_0 : w_23.cell? ⟨gb4, 0, none⟩ = some (.slice Aov2 ([zT]).length cov2) := (blk_cell BKgb4.out 0).trans rfl
  have hfq24_0 := blk_frozen BKgb4.out 0
  have hcq24_1 : w_23.cell? ⟨gb4, 1, none⟩ = some (.int .i64 0) := (blk_cell BKgb4.out 1).trans rfl
  have hfq24_1 := blk_frozen BKgb4.out 1
  have hcq25_0 : w_23.cell? ⟨gb13, 0, none⟩ = some (.slice Aov10 ([zT]).length cov10) := (blk_cell BKgb13.out 0).trans rfl
  have hfq25_0 := blk_frozen BKgb13.out 0
  have hcq25_1 : w_23.cell? ⟨gb13, 1, none⟩ = some (.int .i64 0) := (blk_cell BKgb13.out 1).trans rfl
  have hfq25_1 := blk_frozen BKgb13.out 1
  go_wp2_with (go_at_call 35; go_loud (refine (laws_heldTree.calls 5 _ _ [zF] 0 1 2 _ ?t1 ?t2 heldF).mono ?_); (case t1 => have q_ := (Kd.R_reads' HOho11.out).2.2; repeat (first | (with_reducible exact q_) | (with_reducible refine Kd.C_alloc ?_ _) | (with_reducible refine Kd.C_drewN ?_ _) | (with_reducible refine Kd.C_drew ?_) | exact q_)); (case t2 => exact (Kd.R_reads' HOho11.out).2.1); rintro e w_26 ⟨rfl, hb⟩; have n_HOho3 := Aside0.mk (Kd.R_below (by (with_reducible repeat (first | apply Kd.R_alloc | apply Kd.R_drewN | apply Kd.R_drew)); exact HOho3.out) hb); have n_HOho11 := Aside0.mk (Kd.R_below (by (with_reducible repeat (first | apply Kd.R_alloc | apply Kd.R_drewN | apply Kd.R_drew)); exact HOho11.out) hb); have n_BKgb4 := Aside0.mk (blk_below (g := gb4) (o := (.cells #[.slice Aov2 ([zT]).length cov2, .int .i64 0] 45 (0, 0))) (by (with_reducible repeat (first | refine blk_drewN ?_ _ | refine blk_drew ?_ | refine blk_alloc ?_ _)); exact BKgb4.out) hb); have n_BKgb13 := Aside0.mk (blk_below (g := gb13) (o := (.cells #[.slice Aov10 ([zT]).length cov10, .int .i64 0] 45 (0, 0))) (by (with_reducible repeat (first | refine blk_drewN ?_ _ | refine blk_drew ?_ | refine blk_alloc ?_ _)); exact BKgb13.out) hb); have n_HB := Aside0.mk (below_step (by repeat (first | (with_reducible first | exact HB.out | apply below_alloc | apply pw_below_drewN | apply below_drew1 | refine below_set ?_ GEgb4.out | refine below_set ?_ GEgb13.out) | exact HB.out)) hb); clear HOho3 HOho11 BKgb4 BKgb13 HB; have HOho3 := n_HOho3; have HOho11 := n_HOho11; have BKgb4 := n_BKgb4; have BKgb13 := n_BKgb13; have HB := n_HB; clear n_HOho3 n_HOho11 n_BKgb4 n_BKgb13 n_HB; clear hb; have hcq27_0 : w_26.cell? ⟨gb4, 0, none⟩ = some (.slice Aov2 ([zT]).length cov2) := (blk_cell BKgb4.out 0).trans rfl; have hfq27_0 := blk_frozen BKgb4.out 0; have hcq27_1 : w_26.cell? ⟨gb4, 1, none⟩ = some (.int .i64 0) := (blk_cell BKgb4.out 1).trans rfl; have hfq27_1 := blk_frozen BKgb4.out 1; have hcq28_0 : w_26.cell? ⟨gb13, 0, none⟩ = some (.slice Aov10 ([zT]).length cov10) := (blk_cell BKgb13.out 0).trans rfl; have hfq28_0 := blk_frozen BKgb13.out 0; have hcq28_1 : w_26.cell? ⟨gb13, 1, none⟩ = some (.int .i64 0) := (blk_cell BKgb13.out 1).trans rfl; have hfq28_1 := blk_frozen BKgb13.out 1)
  refine (newTreeI _).mono ?_; rintro e w_29 ⟨v30, rfl, ho31, hb⟩; have n_HOho3 := Aside0.mk (Kd.R_below (by (with_reducible repeat (first | apply Kd.R_alloc | apply Kd.R_drewN | apply Kd.R_drew)); exact HOho3.out) hb); have n_HOho11 := Aside0.mk (Kd.R_below (by (with_reducible repeat (first | apply Kd.R_alloc | apply Kd.R_drewN | apply Kd.R_drew)); exact HOho11.out) hb); have n_BKgb4 := Aside0.mk (blk_below (g := gb4) (o := (.cells #[.slice Aov2 ([zT]).length cov2, .int .i64 0] 45 (0, 0))) (by (with_reducible repeat (first | refine blk_drewN ?_ _ | refine blk_drew ?_ | refine blk_alloc ?_ _)); exact BKgb4.out) hb); have n_BKgb13 := Aside0.mk (blk_below (g := gb13) (o := (.cells #[.slice Aov10 ([zT]).length cov10, .int .i64 0] 45 (0, 0))) (by (with_reducible repeat (first | refine blk_drewN ?_ _ | refine blk_drew ?_ | refine blk_alloc ?_ _)); exact BKgb13.out) hb); have n_HB := Aside0.mk (below_step (by repeat (first | (with_reducible first | exact HB.out | apply below_alloc | apply pw_below_drewN | apply below_drew1 | refine below_set ?_ GEgb4.out | refine below_set ?_ GEgb13.out) | exact HB.out)) hb); have n_HOho31 := Aside0.mk (Kd.R_lower ho31 (below_size (by repeat (first | (with_reducible first | exact HB.out | apply below_alloc | apply pw_below_drewN | apply below_drew1 | refine below_set ?_ GEgb4.out | refine below_set ?_ GEgb13.out) | exact HB.out)))); clear HOho3 HOho11 BKgb4 BKgb13 HB; have HOho3 := n_HOho3; have HOho11 := n_HOho11; have BKgb4 := n_BKgb4; have BKgb13 := n_BKgb13; have HB := n_HB; clear n_HOho3 n_HOho11 n_BKgb4 n_BKgb13 n_HB; have HOho31 := n_HOho31; clear n_HOho31 ho31; clear hb; obtain ⟨Aov30, cov30, eov30⟩ := Kd.R_slice HOho31.out; subst eov30; have hcq32_0 : w_29.cell? ⟨gb4, 0, none⟩ = some (.slice Aov2 ([zT]).length cov2) := (blk_cell BKgb4.out 0).trans rfl; have hfq32_0 := blk_frozen BKgb4.out 0; have hcq32_1 : w_29.cell? ⟨gb4, 1, none⟩ = some (.int .i64 0) := (blk_cell BKgb4.out 1).trans rfl; have hfq32_1 := blk_frozen BKgb4.out 1; have hcq33_0 : w_29.cell? ⟨gb13, 0, none⟩ = some (.slice Aov10 ([zT]).length cov10) := (blk_cell BKgb13.out 0).trans rfl; have hfq33_0 := blk_frozen BKgb13.out 0; have hcq33_1 : w_29.cell? ⟨gb13, 1, none⟩ = some (.int .i64 0) := (blk_cell BKgb13.out 1).trans rfl; have hfq33_1 := blk_frozen BKgb13.out 1
  go_wp2_with (first | ((with_reducible refine gate_dst (N := 5) rfl ?_); refine box_event ?hg (N := 5) ?hd (cs := #[.slice none 0 0, .int .i64 0]) (t := 45) ?hr ?_; (case hd => rfl); (case hg => rfl); (case hr => first | (go_simp; done) | (go_simp; rfl)); intro gb34 hg w_35 hbox hb; have n_HOho3 := Aside0.mk (Kd.R_below (by (with_reducible repeat (first | apply Kd.R_alloc | apply Kd.R_drewN | apply Kd.R_drew)); exact HOho3.out) hb); have n_HOho11 := Aside0.mk (Kd.R_below (by (with_reducible repeat (first | apply Kd.R_alloc | apply Kd.R_drewN | apply Kd.R_drew)); exact HOho11.out) hb); have n_HOho31 := Aside0.mk (Kd.R_below (by (with_reducible repeat (first | apply Kd.R_alloc | apply Kd.R_drewN | apply Kd.R_drew)); exact HOho31.out) hb); have n_BKgb4 := Aside0.mk (blk_below (g := gb4) (o := (.cells #[.slice Aov2 ([zT]).length cov2, .int .i64 0] 45 (0, 0))) (by (with_reducible repeat (first | refine blk_drewN ?_ _ | refine blk_drew ?_ | refine blk_alloc ?_ _)); exact BKgb4.out) hb); have n_BKgb13 := Aside0.mk (blk_below (g := gb13) (o := (.cells #[.slice Aov10 ([zT]).length cov10, .int .i64 0] 45 (0, 0))) (by (with_reducible repeat (first | refine blk_drewN ?_ _ | refine blk_drew ?_ | refine blk_alloc ?_ _)); exact BKgb13.out) hb); have n_HB := Aside0.mk (below_step (by repeat (first | (with_reducible first | exact HB.out | apply below_alloc | apply pw_below_drewN | apply below_drew1 | refine below_set ?_ GEgb4.out | refine below_set ?_ GEgb13.out) | exact HB.out)) hb); have n_GE := Aside0.mk ((by rw [hg]; exact (below_size (by repeat (first | (with_reducible first | exact HB.out | apply below_alloc | apply pw_below_drewN | apply below_drew1 | refine below_set ?_ GEgb4.out | refine below_set ?_ GEgb13.out) | exact HB.out)))) : w.heap.size ≤ gb34); have n_NAgb4 := Aside0.mk ((by rw [hg]; exact Nat.ne_of_lt (blk_lt (g := gb4) (o := (.cells #[.slice Aov2 ([zT]).length cov2, .int .i64 0] 45 (0, 0))) (by (with_reducible repeat (first | refine blk_drewN ?_ _ | refine blk_drew ?_ | refine blk_alloc ?_ _)); exact BKgb4.out))) : gb4 ≠ gb34); have n_NAgb13 := Aside0.mk ((by rw [hg]; exact Nat.ne_of_lt (blk_lt (g := gb13) (o := (.cells #[.slice Aov10 ([zT]).length cov10, .int .i64 0] 45 (0, 0))) (by (with_reducible repeat (first | refine blk_drewN ?_ _ | refine blk_drew ?_ | refine blk_alloc ?_ _)); exact BKgb13.out))) : gb13 ≠ gb34); clear HOho3 HOho11 HOho31 BKgb4 BKgb13 HB; have HOho3 := n_HOho3; have HOho11 := n_HOho11; have HOho31 := n_HOho31; have BKgb4 := n_BKgb4; have BKgb13 := n_BKgb13; have HB := n_HB; clear n_HOho3 n_HOho11 n_HOho31 n_BKgb4 n_BKgb13 n_HB; have BKgb34 := Aside0.mk hbox; have GEgb34 := n_GE; clear n_GE; have hnegb4_gb34 := n_NAgb4.out; have hnfgb4_gb34 : gb34 ≠ gb4 := fun h => n_NAgb4.out h.symm; clear n_NAgb4; have hnegb13_gb34 := n_NAgb13.out; have hnfgb13_gb34 : gb34 ≠ gb13 := fun h => n_NAgb13.out h.symm; clear n_NAgb13; have hcq36_0 : w_35.cell? ⟨gb4, 0, none⟩ = some (.slice Aov2 ([zT]).length cov2) := (blk_cell BKgb4.out 0).trans rfl; have hfq36_0 := blk_frozen BKgb4.out 0; have hcq36_1 : w_35.cell? ⟨gb4, 1, none⟩ = some (.int .i64 0) := (blk_cell BKgb4.out 1).trans rfl; have hfq36_1 := blk_frozen BKgb4.out 1; have hcq37_0 : w_35.cell? ⟨gb13, 0, none⟩ = some (.slice Aov10 ([zT]).length cov10) := (blk_cell BKgb13.out 0).trans rfl; have hfq37_0 := blk_frozen BKgb13.out 0; have hcq37_1 : w_35.cell? ⟨gb13, 1, none⟩ = some (.int .i64 0) := (blk_cell BKgb13.out 1).trans rfl; have hfq37_1 := blk_frozen BKgb13.out 1; have hcq38_0 : w_35.cell? ⟨gb34, 0, none⟩ = some (.slice none 0 0) := (blk_cell BKgb34.out 0).trans rfl; have hfq38_0 := blk_frozen BKgb34.out 0; have hcq38_1 : w_35.cell? ⟨gb34, 1, none⟩ = some (.int .i64 0) := (blk_cell BKgb34.out 1).trans rfl; have hfq38_1 := blk_frozen BKgb34.out 1; clear hbox hb hg) | ((with_reducible refine gate_store (t := 45) (p := 5) rfl ?_); refine store_event (t := 45) (p := 5) (v := ?vo_w_39) (w1 := ((w_35.setCell ⟨gb34, 0, none⟩ (.slice Aov30 ([zT]).length cov30)).setCell ⟨gb34, 1, none⟩ (.int .i64 0))) ?hg ?ho ?hn ?hr ?_; (case ho => rfl); (case hg => rfl); (case hn => rfl); (case hr => first | (go_simp; done) | (go_simp; rfl)); intro w_39 hw; have n_HOho3 : Aside0 (Kd.R k86 86 w_39 w.heap.size (fun k_ => True ∧ some k_ ≠ (Value.ownBlock (.slice Aov10 ([zT]).length cov10))) (.slice Aov2 ([zT]).length cov2) ([zT])) := ⟨(by rw [hw]; exact (by (with_reducible repeat (first | apply Kd.R_alloc | apply Kd.R_drewN | apply Kd.R_drew)); exact Kd.R_mono (Kd.R_far (p := ⟨gb34, 1, none⟩) (Kd.R_far (p := ⟨gb34, 0, none⟩) (Kd.R_types HOho3.out BKgb34.out (by decide)) (fun _ hk => hk.2) (.slice Aov30 ([zT]).length cov30)) (fun _ hk => hk.2) (.int .i64 0)) (fun _ hk => hk.1)))⟩; have n_HOho11 : Aside0 (Kd.R k86 86 w_39 w.heap.size (fun _ => True) (.slice Aov10 ([zT]).length cov10) ([zF])) := ⟨(by rw [hw]; exact (by (with_reducible repeat (first | apply Kd.R_alloc | apply Kd.R_drewN | apply Kd.R_drew)); exact Kd.R_mono (Kd.R_far (p := ⟨gb34, 1, none⟩) (Kd.R_far (p := ⟨gb34, 0, none⟩) (Kd.R_types HOho11.out BKgb34.out (by decide)) (fun _ hk => hk.2) (.slice Aov30 ([zT]).length cov30)) (fun _ hk => hk.2) (.int .i64 0)) (fun _ hk => trivial)))⟩; have n_HOho31 : Aside0 (Kd.R k86 86 w_39 w.heap.size (fun _ => True) (.slice Aov30 ([zT]).length cov30) ([zT])) := ⟨(by rw [hw]; exact (by (with_reducible repeat (first | apply Kd.R_alloc | apply Kd.R_drewN | apply Kd.R_drew)); exact Kd.R_mono (Kd.R_far (p := ⟨gb34, 1, none⟩) (Kd.R_far (p := ⟨gb34, 0, none⟩) (Kd.R_types HOho31.out BKgb34.out (by decide)) (fun _ hk => hk.2) (.slice Aov30 ([zT]).length cov30)) (fun _ hk => hk.2) (.int .i64 0)) (fun _ hk => trivial)))⟩; have n_BKgb4 : Aside0 (w_39.heap[gb4]? = some (.cells #[.slice Aov2 ([zT]).length cov2, .int .i64 0] 45 (0, 0))) := ⟨(by rw [hw]; exact (by (with_reducible repeat (first | refine blk_drewN ?_ _ | refine blk_drew ?_ | refine blk_alloc ?_ _)); refine blk_far ?_ hnegb4_gb34 _; (with_reducible repeat (first | refine blk_drewN ?_ _ | refine blk_drew ?_ | refine blk_alloc ?_ _)); refine blk_far ?_ hnegb4_gb34 _; (with_reducible repeat (first | refine blk_drewN ?_ _ | refine blk_drew ?_ | refine blk_alloc ?_ _)); exact BKgb4.out))⟩; have n_BKgb13 : Aside0 (w_39.heap[gb13]? = some (.cells #[.slice Aov10 ([zT]).length cov10, .int .i64 0] 45 (0, 0))) := ⟨(by rw [hw]; exact (by (with_reducible repeat (first | refine blk_drewN ?_ _ | refine blk_drew ?_ | refine blk_alloc ?_ _)); refine blk_far ?_ hnegb13_gb34 _; (with_reducible repeat (first | refine blk_drewN ?_ _ | refine blk_drew ?_ | refine blk_alloc ?_ _)); refine blk_far ?_ hnegb13_gb34 _; (with_reducible repeat (first | refine blk_drewN ?_ _ | refine blk_drew ?_ | refine blk_alloc ?_ _)); exact BKgb13.out))⟩; have n_BKgb34 : Aside0 (w_39.heap[gb34]? = some (.cells #[.slice Aov30 ([zT]).length cov30, .int .i64 0] 45 (0, 0))) := ⟨(by rw [hw]; exact (by (with_reducible repeat (first | refine blk_drewN ?_ _ | refine blk_drew ?_ | refine blk_alloc ?_ _)); refine blk_put (cs := #[.slice Aov30 ([zT]).length cov30, .int .i64 0]) ?_ 1 _ rfl; (with_reducible repeat (first | refine blk_drewN ?_ _ | refine blk_drew ?_ | refine blk_alloc ?_ _)); refine blk_put (cs := #[.slice none 0 0, .int .i64 0]) ?_ 0 _ rfl; (with_reducible repeat (first | refine blk_drewN ?_ _ | refine blk_drew ?_ | refine blk_alloc ?_ _)); exact BKgb34.out))⟩; have n_HB : Aside0 (Below w.heap.size w w_39) := ⟨(by rw [hw]; exact (by repeat (first | (with_reducible first | exact HB.out | apply below_alloc | apply pw_below_drewN | apply below_drew1 | refine below_set ?_ GEgb4.out | refine below_set ?_ GEgb13.out | refine below_set ?_ GEgb34.out) | exact HB.out)))⟩; clear hw; clear HOho3 HOho11 HOho31 BKgb4 BKgb13 BKgb34 HB; have HOho3 := n_HOho3; have HOho11 := n_HOho11; have HOho31 := n_HOho31; have BKgb4 := n_BKgb4; have BKgb13 := n_BKgb13; have BKgb34 := n_BKgb34; have HB := n_HB; clear n_HOho3 n_HOho11 n_HOho31 n_BKgb4 n_BKgb13 n_BKgb34 n_HB; have hcq40_0 : w_39.cell? ⟨gb4, 0, none⟩ = some (.slice Aov2 ([zT]).length cov2) := (blk_cell BKgb4.out 0).trans rfl; have hfq40_0 := blk_frozen BKgb4.out 0; have hcq40_1 : w_39.cell? ⟨gb4, 1, none⟩ = some (.int .i64 0) := (blk_cell BKgb4.out 1).trans rfl; have hfq40_1 := blk_frozen BKgb4.out 1; have hcq41_0 : w_39.cell? ⟨gb13, 0, none⟩ = some (.slice Aov10 ([zT]).length cov10) := (blk_cell BKgb13.out 0).trans rfl; have hfq41_0 := blk_frozen BKgb13.out 0; have hcq41_1 : w_39.cell? ⟨gb13, 1, none⟩ = some (.int .i64 0) := (blk_cell BKgb13.out 1).trans rfl; have hfq41_1 := blk_frozen BKgb13.out 1; have hcq42_0 : w_39.cell? ⟨gb34, 0, none⟩ = some (.slice Aov30 ([zT]).length cov30) := (blk_cell BKgb34.out 0).trans rfl; have hfq42_0 := blk_frozen BKgb34.out 0; have hcq42_1 : w_39.cell? ⟨gb34, 1, none⟩ = some (.int .i64 0) := (blk_cell BKgb34.out 1).trans rfl; have hfq42_1 := blk_frozen BKgb34.out 1) | (go_at_call 33; go_loud (refine (laws_eqTree.calls 5 _ _ [zT] 0 _ _ [zT] 0 true _ ?u1 ?u2 ?u3 ?u4 eqTT).mono ?_); (case u1 => have q_ := (Kd.R_reads' HOho31.out).2.2; repeat (first | (with_reducible exact q_) | (with_reducible refine Kd.C_alloc ?_ _) | (with_reducible refine Kd.C_drewN ?_ _) | (with_reducible refine Kd.C_drew ?_) | exact q_)); (case u2 => exact (Kd.R_reads' HOho31.out).2.1); (case u3 => have q_ := (Kd.R_reads' HOho3.out).2.2; repeat (first | (with_reducible exact q_) | (with_reducible refine Kd.C_alloc ?_ _) | (with_reducible refine Kd.C_drewN ?_ _) | (with_reducible refine Kd.C_drew ?_) | exact q_)); (case u4 => exact (Kd.R_reads' HOho3.out).2.1); rintro e w_43 ⟨rfl, hb⟩; have n_HOho3 := Aside0.mk (Kd.R_below (by (with_reducible repeat (first | apply Kd.R_alloc | apply Kd.R_drewN | apply Kd.R_drew)); exact HOho3.out) hb); have n_HOho11 := Aside0.mk (Kd.R_below (by (with_reducible repeat (first | apply Kd.R_alloc | apply Kd.R_drewN | apply Kd.R_drew)); exact HOho11.out) hb); have n_HOho31 := Aside0.mk (Kd.R_below (by (with_reducible repeat (first | apply Kd.R_alloc | apply Kd.R_drewN | apply Kd.R_drew)); exact HOho31.out) hb); have n_BKgb4 := Aside0.mk (blk_below (g := gb4) (o := (.cells #[.slice Aov2 ([zT]).length cov2, .int .i64 0] 45 (0, 0))) (by (with_reducible repeat (first | refine blk_drewN ?_ _ | refine blk_drew ?_ | refine blk_alloc ?_ _)); exact BKgb4.out) hb); have n_BKgb13 := Aside0.mk (blk_below (g := gb13) (o := (.cells #[.slice Aov10 ([zT]).length cov10, .int .i64 0] 45 (0, 0))) (by (with_reducible repeat (first | refine blk_drewN ?_ _ | refine blk_drew ?_ | refine blk_alloc ?_ _)); exact BKgb13.out) hb); have n_BKgb34 := Aside0.mk (blk_below (g := gb34) (o := (.cells #[.slice Aov30 ([zT]).length cov30, .int .i64 0] 45 (0, 0))) (by (with_reducible repeat (first | refine blk_drewN ?_ _ | refine blk_drew ?_ | refine blk_alloc ?_ _)); exact BKgb34.out) hb); have n_HB := Aside0.mk (below_step (by repeat (first | (with_reducible first | exact HB.out | apply below_alloc | apply pw_below_drewN | apply below_drew1 | refine below_set ?_ GEgb4.out | refine below_set ?_ GEgb13.out | refine below_set ?_ GEgb34.out) | exact HB.out)) hb); clear HOho3 HOho11 HOho31 BKgb4 BKgb13 BKgb34 HB; have HOho3 := n_HOho3; have HOho11 := n_HOho11; have HOho31 := n_HOho31; have BKgb4 := n_BKgb4; have BKgb13 := n_BKgb13; have BKgb34 := n_BKgb34; have HB := n_HB; clear n_HOho3 n_HOho11 n_HOho31 n_BKgb4 n_BKgb13 n_BKgb34 n_HB; clear hb; have hcq44_0 : w_43.cell? ⟨gb4, 0, none⟩ = some (.slice Aov2 ([zT]).length cov2) := (blk_cell BKgb4.out 0).trans rfl; have hfq44_0 := blk_frozen BKgb4.out 0; have hcq44_1 : w_43.cell? ⟨gb4, 1, none⟩ = some (.int .i64 0) := (blk_cell BKgb4.out 1).trans rfl; have hfq44_1 := blk_frozen BKgb4.out 1; have hcq45_0 : w_43.cell? ⟨gb13, 0, none⟩ = some (.slice Aov10 ([zT]).length cov10) := (blk_cell BKgb13.out 0).trans rfl; have hfq45_0 := blk_frozen BKgb13.out 0; have hcq45_1 : w_43.cell? ⟨gb13, 1, none⟩ = some (.int .i64 0) := (blk_cell BKgb13.out 1).trans rfl; have hfq45_1 := blk_frozen BKgb13.out 1; have hcq46_0 : w_43.cell? ⟨gb34, 0, none⟩ = some (.slice Aov30 ([zT]).length cov30) := (blk_cell BKgb34.out 0).trans rfl; have hfq46_0 := blk_frozen BKgb34.out 0; have hcq46_1 : w_43.cell? ⟨gb34, 1, none⟩ = some (.int .i64 0) := (blk_cell BKgb34.out 1).trans rfl; have hfq46_1 := blk_frozen BKgb34.out 1))
  refine (laws_heldTree.calls 5 _ _ [zF] 0 1 2 _ ?x1 ?x2 heldF).mono ?_; (case x1 => have q_ := (Kd.R_reads' HOho11.out).2.2; repeat (first | (with_reducible exact q_) | (with_reducible refine Kd.C_alloc ?_ _) | (with_reducible refine Kd.C_drewN ?_ _) | (with_reducible refine Kd.C_drew ?_) | exact q_)); (case x2 => exact (Kd.R_reads' HOho11.out).2.1); rintro e w_47 ⟨rfl, hb⟩; have n_HOho3 := Aside0.mk (Kd.R_below (by (with_reducible repeat (first | apply Kd.R_alloc | apply Kd.R_drewN | apply Kd.R_drew)); exact HOho3.out) hb); have n_HOho11 := Aside0.mk (Kd.R_below (by (with_reducible repeat (first | apply Kd.R_alloc | apply Kd.R_drewN | apply Kd.R_drew)); exact HOho11.out) hb); have n_HOho31 := Aside0.mk (Kd.R_below (by (with_reducible repeat (first | apply Kd.R_alloc | apply Kd.R_drewN | apply Kd.R_drew)); exact HOho31.out) hb); have n_BKgb4 := Aside0.mk (blk_below (g := gb4) (o := (.cells #[.slice Aov2 ([zT]).length cov2, .int .i64 0] 45 (0, 0))) (by (with_reducible repeat (first | refine blk_drewN ?_ _ | refine blk_drew ?_ | refine blk_alloc ?_ _)); exact BKgb4.out) hb); have n_BKgb13 := Aside0.mk (blk_below (g := gb13) (o := (.cells #[.slice Aov10 ([zT]).length cov10, .int .i64 0] 45 (0, 0))) (by (with_reducible repeat (first | refine blk_drewN ?_ _ | refine blk_drew ?_ | refine blk_alloc ?_ _)); exact BKgb13.out) hb); have n_BKgb34 := Aside0.mk (blk_below (g := gb34) (o := (.cells #[.slice Aov30 ([zT]).length cov30, .int .i64 0] 45 (0, 0))) (by (with_reducible repeat (first | refine blk_drewN ?_ _ | refine blk_drew ?_ | refine blk_alloc ?_ _)); exact BKgb34.out) hb); have n_HB := Aside0.mk (below_step (by repeat (first | (with_reducible first | exact HB.out | apply below_alloc | apply pw_below_drewN | apply below_drew1 | refine below_set ?_ GEgb4.out | refine below_set ?_ GEgb13.out | refine below_set ?_ GEgb34.out) | exact HB.out)) hb); clear HOho3 HOho11 HOho31 BKgb4 BKgb13 BKgb34 HB; have HOho3 := n_HOho3; have HOho11 := n_HOho11; have HOho31 := n_HOho31; have BKgb4 := n_BKgb4; have BKgb13 := n_BKgb13; have BKgb34 := n_BKgb34; have HB := n_HB; clear n_HOho3 n_HOho11 n_HOho31 n_BKgb4 n_BKgb13 n_BKgb34 n_HB; clear hb; have hcq48_0 : w_47.cell? ⟨gb4, 0, none⟩ = some (.slice Aov2 ([zT]).length cov2) := (blk_cell BKgb4.out 0).trans rfl; have hfq48_0 := blk_frozen BKgb4.out 0; have hcq48_1 : w_47.cell? ⟨gb4, 1, none⟩ = some (.int .i64 0) := (blk_cell BKgb4.out 1).trans rfl; have hfq48_1 := blk_frozen BKgb4.out 1; have hcq49_0 : w_47.cell? ⟨gb13, 0, none⟩ = some (.slice Aov10 ([zT]).length cov10) := (blk_cell BKgb13.out 0).trans rfl; have hfq49_0 := blk_frozen BKgb13.out 0; have hcq49_1 : w_47.cell? ⟨gb13, 1, none⟩ = some (.int .i64 0) := (blk_cell BKgb13.out 1).trans rfl; have hfq49_1 := blk_frozen BKgb13.out 1; have hcq50_0 : w_47.cell? ⟨gb34, 0, none⟩ = some (.slice Aov30 ([zT]).length cov30) := (blk_cell BKgb34.out 0).trans rfl; have hfq50_0 := blk_frozen BKgb34.out 0; have hcq50_1 : w_47.cell? ⟨gb34, 1, none⟩ = some (.int .i64 0) := (blk_cell BKgb34.out 1).trans rfl; have hfq50_1 := blk_frozen BKgb34.out 1
  go_wp2
  go_ret
  exact ⟨rfl, by repeat (first | (with_reducible first | exact HB.out | apply below_alloc | apply pw_below_drewN | apply below_drew1 | refine below_set ?_ GEgb4.out | refine below_set ?_ GEgb13.out | refine below_set ?_ GEgb34.out) | exact HB.out)⟩
def laws_FnExactNewTree.f  : Option (Bool) :=
  some true
theorem laws_FnExactNewTree.calls (r : Bool) (w : World) (h : laws_FnExactNewTree.f = some r) : Calls Try.prog 6 #[] w fun e w' => e = .returned (.bool r) ∧ Below w.heap.size w w' := by
  obtain rfl := Option.some.inj h
  exact lawNT w


/-- The one pure statement of laws_FnExactNewTree. -/
def laws_FnExactNewTree.PureG : Prop := laws_FnExactNewTree.f  = some true

end Go.Proofs.Ytjibcpfgnnmfjaa.PFnExactNewTree
