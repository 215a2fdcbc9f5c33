/- The walks of FnExactRecoverTwo: Go's calls come to what the Lean functions beside them say; no condition. -/
import Derived.Test.YtfijnlhklfmoeaaQFnExactRecoverTwox0
import Derived.Test.YtfijnlhklfmoeaaQFnExactRecoverTwox2
namespace Go.Proofs.Ytfijnlhklfmoeaa.PFnExactRecoverTwo
open Go.RowKit Go.Proofs.YtfijnlhklfmoeaaW.PrintWords Go.Proofs.YtfijnlhklfmoeaaW.PrintLast Go.Proofs.YtfijnlhklfmoeaaW.PrintMore
attribute [local go_sem] max2_int min2_int max_two min_two max_three min_three max_four min_four   -- for this text's walks alone
set_option linter.unusedVariables false
set_option linter.unusedSimpArgs false
set_option maxRecDepth 100000

/-! ### spec_l3Parities: function 45 -/
mutual
def spec_l3Parities.l0 : Nat → List Int → List Int → Int → List ByteArray → Int → Int → Option (ByteArray × ByteArray)
 | 0, _, _, _, _, _, _ => none
 | k + 1, x4, x5, x6, x20, x21, x22 => if x22 < x21 then (if 0 ≤ x22 then (if x22 < (x20.length : Int) then (spec_l3Parities.l1 k x4 x5 x6 (rdOf ByteArray.empty x20 x22) x20 x21 x22 (x4.length : Int) 0) else (none)) else (none)) else (some (strOfNums x4, strOfNums x5))
def spec_l3Parities.l1 : Nat → List Int → List Int → Int → ByteArray → List ByteArray → Int → Int → Int → Int → Option (ByteArray × ByteArray)
 | 0, _, _, _, _, _, _, _, _, _ => none
 | k + 1, x4, x5, x6, x8, x20, x21, x22, x27, x28 => if x28 < x27 then (if 0 ≤ x28 then (if x28 < (x4.length : Int) then (if x28 < (x8.size : Int) then (if x28 < (x5.length : Int) then ((spec_l2Mul.f k x6 (bt x8 x28)).bind fun t151 => (spec_l3Parities.l1 k (x4.set (x28 : Int).toNat (Go.bits .xor .u8 (rd x4 x28) (bt x8 x28))) (x5.set (x28 : Int).toNat (Go.bits .xor .u8 (rd x5 x28) t151)) x6 x8 x20 x21 x22 x27 (wrap64 (x28 + 1)))) else (none)) else (none)) else (none)) else (none)) else ((spec_l2Mul.f k x6 2).bind fun t153 => (spec_l3Parities.l0 k x4 x5 t153 x20 x21 (wrap64 (x22 + 1))))
end
def spec_l3Parities.f (k : Nat) (l0 : List ByteArray) : Option (ByteArray × ByteArray) := if 0 < (l0.length : Int) then (if 0 ≤ ((rdOf ByteArray.empty l0 0).size : Int) then (if (((rdOf ByteArray.empty l0 0).size : Int) : Int).toNat ≤ 281474976710656 then (spec_l3Parities.l0 k (List.replicate (((rdOf ByteArray.empty l0 0).size : Int) : Int).toNat 0) (List.replicate (((rdOf ByteArray.empty l0 0).size : Int) : Int).toNat 0) 1 l0 (l0.length : Int) 0) else (none)) else (none)) else (none)
theorem spec_l3Parities.mono_l : ∀ k, (∀ y0 y1 y2 y3 y4 y5, LeO (spec_l3Parities.l0 k y0 y1 y2 y3 y4 y5) (spec_l3Parities.l0 (k + 1) y0 y1 y2 y3 y4 y5)) ∧ (∀ y0 y1 y2 y3 y4 y5 y6 y7 y8, LeO (spec_l3Parities.l1 k y0 y1 y2 y3 y4 y5 y6 y7 y8) (spec_l3Parities.l1 (k + 1) y0 y1 y2 y3 y4 y5 y6 y7 y8))
 | 0 => ⟨fun _ _ _ _ _ _ r h => by simp [spec_l3Parities.l0] at h, fun _ _ _ _ _ _ _ _ _ r h => by simp [spec_l3Parities.l1] at h⟩
 | k + 1 => by
  obtain ⟨ih0, ih1⟩ := spec_l3Parities.mono_l k
  refine ⟨?_, ?_⟩
  ·intro y0 y1 y2 y3 y4 y5
   unfold spec_l3Parities.l0
   repeat' first
   | (with_reducible exact ih0 _ _ _ _ _ _)
   | (with_reducible exact ih1 _ _ _ _ _ _ _ _ _)
   | (with_reducible exact spec_l2Mul.mono _ _ _)
   | (with_reducible exact LeO.refl _)
   | (with_reducible exact LeO.none _)
   | (with_reducible refine LeO.ite ?_ ?_)
   | (with_reducible refine LeO.bind ?_ (fun _ => ?_))
   | exact ih0 _ _ _ _ _ _
   | exact ih1 _ _ _ _ _ _ _ _ _
   | exact spec_l2Mul.mono _ _ _
   | exact LeO.none _
   | refine LeO.ite ?_ ?_
   | refine LeO.bind ?_ (fun _ => ?_)
  ·intro y0 y1 y2 y3 y4 y5 y6 y7 y8
   unfold spec_l3Parities.l1
   repeat' first
   | (with_reducible exact ih0 _ _ _ _ _ _)
   | (with_reducible exact ih1 _ _ _ _ _ _ _ _ _)
   | (with_reducible exact spec_l2Mul.mono _ _ _)
   | (with_reducible exact LeO.refl _)
   | (with_reducible exact LeO.none _)
   | (with_reducible refine LeO.ite ?_ ?_)
   | (with_reducible refine LeO.bind ?_ (fun _ => ?_))
   | exact ih0 _ _ _ _ _ _
   | exact ih1 _ _ _ _ _ _ _ _ _
   | exact spec_l2Mul.mono _ _ _
   | exact LeO.none _
   | refine LeO.ite ?_ ?_
   | refine LeO.bind ?_ (fun _ => ?_)
theorem spec_l3Parities.mono : ∀ a0 k, LeO (spec_l3Parities.f k a0) (spec_l3Parities.f (k + 1) a0) := by
 intro a0 k
 obtain ⟨ih0, ih1⟩ := spec_l3Parities.mono_l k
 unfold spec_l3Parities.f
 repeat' first
   | (with_reducible exact ih0 _ _ _ _ _ _)
   | (with_reducible exact ih1 _ _ _ _ _ _ _ _ _)
   | (with_reducible exact spec_l2Mul.mono _ _ _)
   | (with_reducible exact LeO.refl _)
   | (with_reducible exact LeO.none _)
   | (with_reducible refine LeO.ite ?_ ?_)
   | (with_reducible refine LeO.bind ?_ (fun _ => ?_))
   | exact ih0 _ _ _ _ _ _
   | exact ih1 _ _ _ _ _ _ _ _ _
   | exact spec_l2Mul.mono _ _ _
   | exact LeO.none _
   | refine LeO.ite ?_ ?_
   | refine LeO.bind ?_ (fun _ => ?_)
def spec_l3Parities.T10 : Bool × List (List Nat × List Nat) := (true, [([], []), ([], []), ([0, 1], [0, 1]), ([2], [2]), ([], []), ([], []), ([4, 5], [4, 5]), ([3, 6], [3, 6]), ([0, 1, 0, 1, 2, 3, 4, 5, 6, 7], [0, 1]), ([8, 7, 0, 1, 2, 3, 4, 5, 6, 7], [7, 8])])
def spec_l3Parities.B10 : List Nat := [0, 0, 3, 7, 0, 0, 48, 127, 255, 511]
theorem spec_l3Parities.tab10 : rtab .any (opsOf Try.f45 10) = spec_l3Parities.T10 := by kernel_rfl
theorem spec_l3Parities.bits10 : waitsOk spec_l3Parities.T10.2 spec_l3Parities.B10 = true := by kernel_rfl
def spec_l3Parities.T11 : Bool × List (List Nat × List Nat) := (true, [([], []), ([], []), ([0, 1], [0, 1]), ([2], [2]), ([], []), ([], []), ([], []), ([5, 6], [5, 6]), ([4, 7], [4, 7]), ([3, 8], [3, 8]), ([0, 1, 0, 1, 2, 3, 4, 5, 6, 7, 8, 9], [0, 1]), ([10, 9, 8, 0, 1, 2, 3, 4, 5, 6, 7, 8, 9], [9, 10])])
def spec_l3Parities.B11 : List Nat := [0, 0, 3, 7, 0, 0, 0, 96, 240, 511, 1023, 2047]
theorem spec_l3Parities.tab11 : rtab .any (opsOf Try.f45 11) = spec_l3Parities.T11 := by kernel_rfl
theorem spec_l3Parities.bits11 : waitsOk spec_l3Parities.T11.2 spec_l3Parities.B11 = true := by kernel_rfl
set_option maxHeartbeats 8000000 in
set_option maxRecDepth 100000 in
theorem spec_l3Parities.calls (k : Nat) (A0 : Option Addr) (c0 : Nat) (l0 : List ByteArray) (r1 : ByteArray) (r2 : ByteArray) (w : World) (hr0 : Kd.C Kd.string w A0 l0.length l0) (hc0 : l0.length ≤ c0) (h : spec_l3Parities.f k l0 = some (r1, r2)) :
  Calls Try.prog 45 #[.slice A0 l0.length c0] w fun e w' => e = .returned (.tuple #[.string r1, .string r2]) ∧ Below w.heap.size w w' := by
 have HR0 := Aside0.mk hr0
 have HC0 := Aside0.mk hc0
 clear hr0 hc0
 have HB := Aside0.mk (Below.refl w.heap.size w)
 have H : (if 0 < (l0.length : Int) then (if 0 ≤ ((rdOf ByteArray.empty l0 0).size : Int) then (if (((rdOf ByteArray.empty l0 0).size : Int) : Int).toNat ≤ 281474976710656 then (spec_l3Parities.l0 k (List.replicate (((rdOf ByteArray.empty l0 0).size : Int) : Int).toNat 0) (List.replicate (((rdOf ByteArray.empty l0 0).size : Int) : Int).toNat 0) 1 l0 (l0.length : Int) 0) else (none)) else (none)) else (none)) = some (r1, r2) := h
 clear h
 by_cases c2 : 0 < (l0.length : Int)
 ·rw [if_pos c2] at H
  have c2b0 : decide (0 < (l0.length : Int)) = true := decide_eq_true c2
  have c2b1 : decide (0 < l0.length) = true := decide_eq_true (by omega)
  clear c2
  by_cases c3 : 0 ≤ ((rdOf ByteArray.empty l0 0).size : Int)
  ·rw [if_pos c3] at H
   have c3b0 := eq_true c3
   have c3b1 : decide (0 ≤ ((rdOf ByteArray.empty l0 0).size : Int)) = true := decide_eq_true c3
   clear c3
   by_cases c4 : (((rdOf ByteArray.empty l0 0).size : Int) : Int).toNat ≤ 281474976710656
   ·rw [if_pos c4] at H
    have c4b0 := eq_true c4
    have c4b1 : decide ((((rdOf ByteArray.empty l0 0).size : Int) : Int).toNat ≤ 281474976710656) = true := decide_eq_true c4
    clear c4
    obtain ⟨y140, hy140⟩ : ∃ y_ : List Int, y_ = (List.replicate (((rdOf ByteArray.empty l0 0).size : Int) : Int).toNat 0) := ⟨_, rfl⟩
    replace H : (spec_l3Parities.l0 k y140 (List.replicate (((rdOf ByteArray.empty l0 0).size : Int) : Int).toNat 0) 1 l0 (l0.length : Int) 0) = some (r1, r2) := by first | (rw [hy140]; with_reducible exact H) | (have H2_ := (Option.bind_some _ _).symm.trans H; rw [hy140]; with_reducible exact H2_) | (have H2_ := (Option.bind_some _ _).symm.trans H; with_reducible exact H2_) | with_reducible exact H | (rw [hy140]; exact H) | exact H
    have Ny140 := Aside0.mk hy140
    clear hy140
    obtain ⟨y144, hy144⟩ : ∃ y_ : List Int, y_ = (List.replicate (((rdOf ByteArray.empty l0 0).size : Int) : Int).toNat 0) := ⟨_, rfl⟩
    replace H : (spec_l3Parities.l0 k y140 y144 1 l0 (l0.length : Int) 0) = some (r1, r2) := by first | (rw [hy144]; with_reducible exact H) | (have H2_ := (Option.bind_some _ _).symm.trans H; rw [hy144]; with_reducible exact H2_) | (have H2_ := (Option.bind_some _ _).symm.trans H; with_reducible exact H2_) | with_reducible exact H | (rw [hy144]; exact H) | exact H
    have Ny144 := Aside0.mk hy144
    clear hy144
    have H' := Aside0.mk H
    clear H
    have p139 : 0 ≤ (0 : Int) := (by omega)
    have q139 : 0 < (l0.length : Int) := of_decide_eq_true (by first | (with_reducible assumption) | assumption)
    obtain ⟨ad139, e139, hx139_0⟩ := Kd.at_string HR0.out 0 p139 q139
    cases e139
    have qi139 : (0 < l0.length) = True := eq_true (by omega)
    (try rw [show ((0 : Int)).toNat = 0 from rfl] at hx139_0)
    (try rw [Addr.add_zero'] at hx139_0)
    replace p139 := eq_true p139
    replace q139 := eq_true q139
    go_enter Try.func45, Try.ntmps45
    go_wp2_with (first | ((with_reducible refine gate_dst (N := 14) rfl ?_); refine Kd.R_make (Kd.int .u8) _ 5 rfl (N := 14) rfl 48 _ _ rfl ((rdOf ByteArray.empty l0 0).size : Int) rfl rfl Try.underlying48 (.int .u8 0) 1 info5 rfl (by decide) (by omega) 0 (ok := fun _ => True) (okp := fun _ => True) rfl (fun _ hk => hk) trivial (of_decide_eq_true (by first | (with_reducible assumption) | assumption)) (Nat.le_trans (Nat.mul_le_mul_right _ (of_decide_eq_true (by first | (with_reducible assumption) | assumption) : ((rdOf ByteArray.empty l0 0).size : Int).toNat ≤ 281474976710656)) (by omega)) (Below.refl _ _) (Nat.le_refl _) ?_; intro v141 w5 ho6 hb hg_ hnew_; clear hg_ hnew_; (first | rw [← Ny140.out] at ho6 | (simp only [Int.reduceToNat] at ho6; rw [← Ny140.out] at ho6)); have n0_ := Aside0.mk (Kd.R_lower ho6 (below_size (by repeat (first | (with_reducible first | exact HB.out | apply below_alloc | apply pw_below_drewN | apply below_drew1) | exact HB.out)))); have n1_ := Aside0.mk (below_step (by repeat (first | (with_reducible first | exact HB.out | apply below_alloc | apply pw_below_drewN | apply below_drew1) | exact HB.out)) hb); clear HB; have HO142 := n0_; have HB := n1_; clear n0_ n1_; clear hb ho6; have p143 : 0 ≤ (0 : Int) := (by omega); have q143 : 0 < (l0.length : Int) := of_decide_eq_true (by first | (with_reducible assumption) | assumption); obtain ⟨ad143, e143, hx143_0⟩ := Kd.at_string HR0.out 0 p143 q143; obtain rfl : ad139 = ad143 := (by injection e143); have qi143 : (0 < l0.length) = True := eq_true (by omega); (try rw [show ((0 : Int)).toNat = 0 from rfl] at hx143_0); (try rw [Addr.add_zero'] at hx143_0); replace hx143_0 := (HB.out.cell (World.block_lt_of_cell? w _ hx143_0)).trans hx143_0; replace p143 := eq_true p143; replace q143 := eq_true q143) | ((with_reducible refine gate_dst (N := 19) rfl ?_); refine Kd.R_make (Kd.int .u8) _ 5 rfl (N := 19) rfl 48 _ _ rfl ((rdOf ByteArray.empty l0 0).size : Int) rfl rfl Try.underlying48 (.int .u8 0) 1 info5 rfl (by decide) (by omega) 0 (ok := fun _ => True) (okp := fun _ => True) rfl (fun _ hk => hk) trivial (of_decide_eq_true (by first | (with_reducible assumption) | assumption)) (Nat.le_trans (Nat.mul_le_mul_right _ (of_decide_eq_true (by first | (with_reducible assumption) | assumption) : ((rdOf ByteArray.empty l0 0).size : Int).toNat ≤ 281474976710656)) (by omega)) (Below.refl _ _) (Nat.le_refl _) ?_; intro v145 w7 ho8 hb hg_ hnew_; clear hg_ hnew_; (first | rw [← Ny144.out] at ho8 | (simp only [Int.reduceToNat] at ho8; rw [← Ny144.out] at ho8)); have n0_ := Aside0.mk (Kd.R_elder' (by (with_reducible repeat (first | apply Kd.R_alloc | apply Kd.R_drewN | apply Kd.R_drew)); exact HO142.out) (Kd.R_base ho8) hb); have n1_ := Aside0.mk (Kd.R_lower (Kd.R_new' ho8 (Kd.R_lt (by (with_reducible repeat (first | apply Kd.R_alloc | apply Kd.R_drewN | apply Kd.R_drew)); exact HO142.out))) (below_size (by repeat (first | (with_reducible first | exact HB.out | apply below_alloc | apply pw_below_drewN | apply below_drew1) | exact HB.out)))); have n2_ := Aside0.mk (below_step (by repeat (first | (with_reducible first | exact HB.out | apply below_alloc | apply pw_below_drewN | apply below_drew1) | exact HB.out)) hb); clear HO142; clear HB; have HO142 := n0_; have HO146 := n1_; have HB := n2_; clear n0_ n1_ n2_; clear hb ho8))
    go_loopg [6, 22] k (fun kq v6 v22 w' => ∃ (x4_1 : List Int) (x5_1 : List Int) (x6_1 : Int) (x22_1 : Int), v6 = .int .u8 x6_1 ∧ v22 = .int .i64 x22_1 ∧ Aside0 (spec_l3Parities.l0 kq x4_1 x5_1 x6_1 l0 (l0.length : Int) x22_1 = some (r1, r2)) ∧ Aside0 (kq ≤ k) ∧ Aside0 (Kd.R (Kd.int .u8) 5 w' w.heap.size (fun k_ => some k_ ≠ (v145 : Value).ownBlock) v141 x4_1) ∧ Aside0 (Kd.R (Kd.int .u8) 5 w' w.heap.size (fun k_ => some k_ ≠ (v141 : Value).ownBlock) v145 x5_1) ∧ Aside0 (Below w.heap.size w w'))
    case atStart => exact ⟨(y140), (y144), (1), (0), (by first | rfl | (simp; done) | (simp [*]; done)), (by first | rfl | (simp; done) | (simp [*]; done)), H', ⟨Nat.le_refl _⟩, ⟨by (with_reducible repeat (first | apply Kd.R_alloc | apply Kd.R_drewN | apply Kd.R_drew)); exact Kd.R_mono HO142.out (fun _ hk => hk.2)⟩, ⟨by (with_reducible repeat (first | apply Kd.R_alloc | apply Kd.R_drewN | apply Kd.R_drew)); exact Kd.R_mono HO146.out (fun _ hk => hk.2)⟩, ⟨by repeat (first | (with_reducible first | exact HB.out | apply below_alloc | apply pw_below_drewN | apply below_drew1) | exact HB.out)⟩⟩
    case round =>
     clear H'
     try clear p1
     try clear q1
     try clear hx1
     try clear qi1
     try clear c2
     try clear c2b0
     try clear c2b1
     try clear p2
     try clear c3
     try clear c3b0
     try clear c3b1
     try clear c4
     try clear c4b0
     try clear c4b1
     try clear hx139_0
     try clear hx143_0
     try clear p139
     try clear p143
     try clear q139
     try clear q143
     obtain ⟨x4_1, x5_1, x6_1, x22_1, rfl, rfl, HA, HK1, HO_4, HO_5, HB⟩ := hrel
     cases gk with
     | zero => exact absurd HA.out (fun h_ => by change none = some _ at h_; cases h_)
     | succ k1 =>
      have H := HA.out
      clear HA
      simp only [spec_l3Parities.l0] at H
      by_cases c9 : x22_1 < (l0.length : Int)
      ·rw [if_pos c9] at H
       have c9b0 : decide (x22_1 < (l0.length : Int)) = true := decide_eq_true c9
       clear c9
       by_cases c10 : 0 ≤ x22_1
       ·rw [if_pos c10] at H
        have c10b0 : decide (0 ≤ x22_1) = true := decide_eq_true c10
        clear c10
        by_cases c11 : x22_1 < (l0.length : Int)
        ·rw [if_pos c11] at H
         have c11b0 : decide (x22_1 < (l0.length : Int)) = true := decide_eq_true c11
         clear c11
         have H' := Aside0.mk H
         clear H
         have p147 : 0 ≤ (x22_1 : Int) := of_decide_eq_true (by first | (with_reducible assumption) | assumption)
         have q147 : x22_1 < (l0.length : Int) := of_decide_eq_true (by first | (with_reducible assumption) | assumption)
         obtain ⟨ad147, e147, hx147_0⟩ := Kd.at_string HR0.out x22_1 p147 q147
         obtain rfl : ad139 = ad147 := (by injection e147)
         replace hx147_0 := (HB.out.cell (World.block_lt_of_cell? w _ hx147_0)).trans hx147_0
         replace p147 := eq_true p147
         replace q147 := eq_true q147
         obtain ⟨Ao12, co12, eo12⟩ := Kd.R_slice HO_4.out
         subst eo12
         go_wp2
         go_loopg [28] k1 (fun kq v28 w' => ∃ (x4_2 : List Int) (x5_2 : List Int) (x28_2 : Int), v28 = .int .i64 x28_2 ∧ Aside0 (spec_l3Parities.l1 kq x4_2 x5_2 x6_1 (rdOf ByteArray.empty l0 x22_1) l0 (l0.length : Int) x22_1 (x4_1.length : Int) x28_2 = some (r1, r2)) ∧ Aside0 (kq ≤ k1) ∧ Aside0 (Kd.R (Kd.int .u8) 5 w' w.heap.size (fun k_ => some k_ ≠ (v145 : Value).ownBlock) (.slice Ao12 x4_1.length co12) x4_2) ∧ Aside0 (Kd.R (Kd.int .u8) 5 w' w.heap.size (fun k_ => some k_ ≠ ((.slice Ao12 x4_1.length co12) : Value).ownBlock) v145 x5_2) ∧ Aside0 (Below w.heap.size w w'))
         case atStart => exact ⟨(x4_1), (x5_1), (0), (by first | rfl | (simp; done) | (simp [*]; done)), H', ⟨Nat.le_refl _⟩, ⟨by (with_reducible repeat (first | apply Kd.R_alloc | apply Kd.R_drewN | apply Kd.R_drew)); exact HO_4.out⟩, ⟨by (with_reducible repeat (first | apply Kd.R_alloc | apply Kd.R_drewN | apply Kd.R_drew)); exact HO_5.out⟩, ⟨by repeat (first | (with_reducible first | exact HB.out | apply below_alloc | apply pw_below_drewN | apply below_drew1) | exact HB.out)⟩⟩
         case round =>
          clear H'
          try clear c1
          try clear p1
          try clear q1
          try clear hx1
          try clear qi1
          try clear c2
          try clear c2b0
          try clear c2b1
          try clear p2
          try clear c3
          try clear c3b0
          try clear c3b1
          try clear c4
          try clear c4b0
          try clear c4b1
          try clear c9
          try clear c9b0
          try clear c10
          try clear c10b0
          try clear c11
          try clear c11b0
          try clear hx139_0
          try clear hx143_0
          try clear hx147_0
          try clear p1
          try clear p139
          try clear p143
          try clear p147
          try clear p2
          try clear q1
          try clear q139
          try clear q143
          try clear q147
          obtain ⟨x4_2, x5_2, x28_2, rfl, HA, HK2, HO_4, HO_5, HB⟩ := hrel
          have hl4_2 := (Kd.R_reads' HO_4.out).1
          rw [hl4_2] at HO_4
          (try simp only [hl4_2])
          (try simp only [hl4_2] at HO_5)
          cases gk with
          | zero => exact absurd HA.out (fun h_ => by change none = some _ at h_; cases h_)
          | succ k2 =>
           have H := HA.out
           clear HA
           simp only [spec_l3Parities.l1] at H
           by_cases c13 : x28_2 < (x4_1.length : Int)
           ·rw [if_pos c13] at H
            have c13b0 : decide (x28_2 < (x4_1.length : Int)) = true := decide_eq_true c13
            clear c13
            by_cases c14 : 0 ≤ x28_2
            ·rw [if_pos c14] at H
             have c14b0 : decide (0 ≤ x28_2) = true := decide_eq_true c14
             clear c14
             by_cases c15 : x28_2 < (x4_2.length : Int)
             ·rw [if_pos c15] at H
              have c15b0 : decide (x28_2 < (x4_2.length : Int)) = true := decide_eq_true c15
              clear c15
              by_cases c16 : x28_2 < ((rdOf ByteArray.empty l0 x22_1).size : Int)
              ·rw [if_pos c16] at H
               have c16b0 : decide (x28_2 < ((rdOf ByteArray.empty l0 x22_1).size : Int)) = true := decide_eq_true c16
               clear c16
               obtain ⟨y149, hy149⟩ : ∃ y_ : List Int, y_ = (x4_2.set (x28_2 : Int).toNat (Go.bits .xor .u8 (rd x4_2 x28_2) (bt (rdOf ByteArray.empty l0 x22_1) x28_2))) := ⟨_, rfl⟩
               replace H : (if x28_2 < (x5_2.length : Int) then ((spec_l2Mul.f k2 x6_1 (bt (rdOf ByteArray.empty l0 x22_1) x28_2)).bind fun t151 => (spec_l3Parities.l1 k2 y149 (x5_2.set (x28_2 : Int).toNat (Go.bits .xor .u8 (rd x5_2 x28_2) t151)) x6_1 (rdOf ByteArray.empty l0 x22_1) l0 (l0.length : Int) x22_1 (x4_1.length : Int) (wrap64 (x28_2 + 1)))) else (none)) = some (r1, r2) := by first | (rw [hy149]; with_reducible exact H) | (have H2_ := (Option.bind_some _ _).symm.trans H; rw [hy149]; with_reducible exact H2_) | (have H2_ := (Option.bind_some _ _).symm.trans H; with_reducible exact H2_) | with_reducible exact H | (rw [hy149]; exact H) | exact H
               have Ny149 := Aside0.mk hy149
               clear hy149
               by_cases c19 : x28_2 < (x5_2.length : Int)
               ·rw [if_pos c19] at H
                have c19b0 : decide (x28_2 < (x5_2.length : Int)) = true := decide_eq_true c19
                clear c19
                replace H := Option.bind_eq_some_iff.mp H
                obtain ⟨t151, A210, H⟩ := H
                replace H : (spec_l3Parities.l1 k2 y149 (x5_2.set (x28_2 : Int).toNat (Go.bits .xor .u8 (rd x5_2 x28_2) t151)) x6_1 (rdOf ByteArray.empty l0 x22_1) l0 (l0.length : Int) x22_1 (x4_1.length : Int) (wrap64 (x28_2 + 1))) = some (r1, r2) := H
                have A21 := Aside0.mk A210
                clear A210
                obtain ⟨y152, hy152⟩ : ∃ y_ : List Int, y_ = (x5_2.set (x28_2 : Int).toNat (Go.bits .xor .u8 (rd x5_2 x28_2) t151)) := ⟨_, rfl⟩
                replace H : (spec_l3Parities.l1 k2 y149 y152 x6_1 (rdOf ByteArray.empty l0 x22_1) l0 (l0.length : Int) x22_1 (x4_1.length : Int) (wrap64 (x28_2 + 1))) = some (r1, r2) := by first | (rw [hy152]; with_reducible exact H) | (have H2_ := (Option.bind_some _ _).symm.trans H; rw [hy152]; with_reducible exact H2_) | (have H2_ := (Option.bind_some _ _).symm.trans H; with_reducible exact H2_) | with_reducible exact H | (rw [hy152]; exact H) | exact H
                have Ny152 := Aside0.mk hy152
                clear hy152
                have H' := Aside0.mk H
                clear H
                try go_wp2
                have n0_ := Aside0.mk (Kd.R_drew HO_4.out)
                have n1_ := Aside0.mk (Kd.R_drew HO_5.out)
                have n2_ := Aside0.mk (below_drew1 HB.out)
                clear HO_4
                clear HO_5
                clear HB
                have HO_4 := n0_
                have HO_5 := n1_
                have HB := n2_
                clear n0_ n1_ n2_
                have p148 : 0 ≤ (x28_2 : Int) := of_decide_eq_true (by first | (with_reducible assumption) | assumption)
                have q148 : x28_2 < (x4_2.length : Int) := of_decide_eq_true (by first | (with_reducible assumption) | assumption)
                obtain ⟨ad148, e148, hx148_0⟩ := Kd.at_int (Kd.R_reads' HO_4.out).2.2 x28_2 p148 q148
                cases e148
                replace p148 := eq_true p148
                replace q148 := eq_true q148
                have p17 : 0 ≤ (x28_2 : Int) := of_decide_eq_true (by first | (with_reducible assumption) | assumption)
                have q17 : x28_2 < ((rdOf ByteArray.empty l0 x22_1).size : Int) := of_decide_eq_true (by first | (with_reducible assumption) | assumption)
                have hx17 := bt_at (rdOf ByteArray.empty l0 x22_1) x28_2
                replace p17 := eq_true p17
                replace q17 := eq_true q17
                have p18 : 0 ≤ (x28_2 : Int) := of_decide_eq_true (by first | (with_reducible assumption) | assumption)
                have q18 : (x28_2 : Int) < ((x4_2.length : Int) : Int) := of_decide_eq_true (by first | (with_reducible assumption) | assumption)
                obtain ⟨go18, co18, eo18, gb18, gl18, cl18, HG18⟩ := Kd.R_form HO_4.out (by omega)
                (first | cases eo18 | (injection eo18 with ea_ en_ ec_; (first | subst ea_ | (injection ea_ with ea_; subst ea_)); subst ec_; clear en_))
                have GB18 := Aside0.mk gb18
                have GG18 := Aside0.mk HG18
                clear gb18 gl18 HG18
                (first | simp only [add_plain] at hx148_0 | skip)
                obtain ⟨hx18_0, hf18_0⟩ := Kd.R_celln 0 HO_4.out (x28_2 : Int) p18 q18
                replace p18 := eq_true p18
                replace q18 := eq_true q18
                have HP24 := Kd.R_putn HO_4.out (x28_2 : Int) (Go.bits .xor .u8 (rd x4_2 x28_2) (bt (rdOf ByteArray.empty l0 x22_1) x28_2))
                rw [← Ny149.out] at HP24
                have HQ24 := Aside0.mk HP24
                clear HP24
                refine start_ (n := 10) (S := fun w' => w'.cell? ⟨go18, (x28_2).toNat, none⟩ = some (.int .u8 (rd x4_2 x28_2))) (ds := [9]) #[false, false, false, false, false, false, false, false, false, false] (by kernel_rfl) rfl rfl (hx148_0) (fun hHeld => ?_); refine with_tabW spec_l3Parities.tab10 spec_l3Parities.bits10 (fun HT_ HW_ => ?_)
                generalize wr.drew = w23 at HO_4 HO_5 HB GG18 HQ24 hf18_0 hx148_0 hx18_0 hHeld ⊢
                refine pure_ (i := 0) (N := some 31) (v := ?_) (a' := ?_) #[true, false, false, false, false, false, false, false, false, false] rfl rfl (any_of HT_.out (by kernel_rfl)) (fun _ _ _ h => h) (Or.inl ⟨by rfl, ?_⟩) ?_ ?_
                rotate_left
                ·intro w'
                 go_simp
                 with_reducible rfl
                rotate_left
                ·simp only [Act.put, List.setIfInBounds_toArray, List.set_cons_zero, List.set_cons_succ, i64_w, i32_w]
                 rfl
                refine pure_ (i := 1) (N := some 32) (v := ?_) (a' := ?_) #[true, true, false, false, false, false, false, false, false, false] rfl rfl (any_of HT_.out (by kernel_rfl)) (fun _ _ _ h => h) (Or.inl ⟨by rfl, ?_⟩) ?_ ?_
                rotate_left
                ·intro w'
                 go_simp
                 with_reducible rfl
                rotate_left
                ·simp only [Act.put, List.setIfInBounds_toArray, List.set_cons_zero, List.set_cons_succ, i64_w, i32_w]
                 rfl
                refine pure_ (i := 2) (N := some 33) (v := ?_) (a' := ?_) #[true, true, true, false, false, false, false, false, false, false] rfl rfl (any_of HT_.out (by kernel_rfl)) (fun _ _ _ h => h) (Or.inl ⟨by rfl, ?_⟩) ?_ ?_
                rotate_left
                ·intro w'
                 go_simp
                 with_reducible rfl
                rotate_left
                ·simp only [Act.put, List.setIfInBounds_toArray, List.set_cons_zero, List.set_cons_succ, i64_w, i32_w]
                 rfl
                refine pure_ (i := 4) (N := some 35) (v := ?_) (a' := ?_) #[true, true, true, false, true, false, false, false, false, false] rfl rfl (any_of HT_.out (by kernel_rfl)) (fun _ _ _ h => h) (Or.inl ⟨by rfl, ?_⟩) ?_ ?_
                rotate_left
                ·intro w'
                 go_simp
                 with_reducible rfl
                rotate_left
                ·simp only [Act.put, List.setIfInBounds_toArray, List.set_cons_zero, List.set_cons_succ, i64_w, i32_w]
                 rfl
                refine pure_ (i := 5) (N := some 36) (v := ?_) (a' := ?_) #[true, true, true, false, true, true, false, false, false, false] rfl rfl (any_of HT_.out (by kernel_rfl)) (fun _ _ _ h => h) (Or.inl ⟨by rfl, ?_⟩) ?_ ?_
                rotate_left
                ·intro w'
                 go_simp
                 with_reducible rfl
                rotate_left
                ·simp only [Act.put, List.setIfInBounds_toArray, List.set_cons_zero, List.set_cons_succ, i64_w, i32_w]
                 rfl
                refine take_ (i := 3) (N := some 34) (v := ?_) (a' := ?_) #[true, true, true, true, true, true, false, false, false, false] rfl rfl (take_ofW HT_.out HW_.out (by kernel_rfl)) (fun _ _ _ h => h) (Or.inl ⟨by rfl, ?_⟩) hHeld ?_ ?_
                rotate_left
                ·intro w' s0
                 go_simp
                 with_reducible rfl
                rotate_left
                ·simp only [Act.put, List.setIfInBounds_toArray, List.set_cons_zero, List.set_cons_succ, i64_w, i32_w]
                 rfl
                refine take_ (i := 6) (N := some 37) (v := ?_) (a' := ?_) #[true, true, true, true, true, true, true, false, false, false] rfl rfl (take_ofW HT_.out HW_.out (by kernel_rfl)) (fun _ _ _ h => h) (Or.inl ⟨by rfl, ?_⟩) hHeld ?_ ?_
                rotate_left
                ·intro w' s0
                 go_simp
                 with_reducible rfl
                rotate_left
                ·simp only [Act.put, List.setIfInBounds_toArray, List.set_cons_zero, List.set_cons_succ, i64_w, i32_w]
                 rfl
                refine pure_ (i := 7) (N := some 38) (v := ?_) (a' := ?_) #[true, true, true, true, true, true, true, true, false, false] rfl rfl (any_of HT_.out (by kernel_rfl)) (fun _ _ _ h => h) (Or.inl ⟨by rfl, ?_⟩) ?_ ?_
                rotate_left
                ·intro w'
                 go_simp
                 with_reducible rfl
                rotate_left
                ·simp only [Act.put, List.setIfInBounds_toArray, List.set_cons_zero, List.set_cons_succ, i64_w, i32_w]
                 rfl
                refine pure_ (i := 8) (N := some 39) (v := ?_) (a' := ?_) #[true, true, true, true, true, true, true, true, true, false] rfl rfl (any_of HT_.out (by kernel_rfl)) (fun _ _ _ h => h) (Or.inl ⟨by rfl, ?_⟩) ?_ ?_
                rotate_left
                ·intro w'
                 go_simp
                 with_reducible rfl
                rotate_left
                ·simp only [Act.put, List.setIfInBounds_toArray, List.set_cons_zero, List.set_cons_succ, i64_w, i32_w]
                 rfl
                refine last_ (i := 9) (N := none) #[true, true, true, true, true, true, true, true, true, true] rfl rfl (one_of HT_.out (by kernel_rfl)) (by decide) (fun K hK => ?_)
                refine skip_ (w1 := ?_) (by rfl) rfl ?_ ?_
                rotate_left
                ·go_simp
                 rfl
                refine hK.out _ _ ?_
                clear hK K
                refine done_ (done_of HT_.out (by kernel_rfl)) ?_
                try go_wp2
                have n0_ : Aside0 (Kd.R (Kd.int .u8) 5 (w23.setCell ⟨go18, (x28_2 : Int).toNat, none⟩ (.int .u8 (Go.bits .xor .u8 (rd x4_2 x28_2) (bt (rdOf ByteArray.empty l0 x22_1) x28_2)))) w.heap.size (fun k_ => some k_ ≠ (v145 : Value).ownBlock) (.slice (some ⟨go18, 0, none⟩) x4_2.length co12) y149) := ⟨by (with_reducible repeat (first | apply Kd.R_alloc | apply Kd.R_drewN | apply Kd.R_drew)); exact HQ24.out⟩
                have n1_ : Aside0 (Kd.R (Kd.int .u8) 5 (w23.setCell ⟨go18, (x28_2 : Int).toNat, none⟩ (.int .u8 (Go.bits .xor .u8 (rd x4_2 x28_2) (bt (rdOf ByteArray.empty l0 x22_1) x28_2)))) w.heap.size (fun k_ => some k_ ≠ (.slice (some ⟨go18, 0, none⟩) x4_2.length co12 : Value).ownBlock) v145 x5_2) := ⟨by (with_reducible repeat (first | apply Kd.R_alloc | apply Kd.R_drewN | apply Kd.R_drew)); exact Kd.R_mono (Kd.R_far (p := ⟨go18, (x28_2 : Int).toNat, none⟩) (Kd.R_mono HO_5.out (fun k_ hk => (⟨hk, fun e_ => hk (by rw [e_]; rfl)⟩ : _ ∧ k_ ≠ go18))) (fun _ hk => hk.2) (.int .u8 (Go.bits .xor .u8 (rd x4_2 x28_2) (bt (rdOf ByteArray.empty l0 x22_1) x28_2)))) (fun _ hk => hk.1)⟩
                have n2_ : Aside0 (Below w.heap.size w (w23.setCell ⟨go18, (x28_2 : Int).toNat, none⟩ (.int .u8 (Go.bits .xor .u8 (rd x4_2 x28_2) (bt (rdOf ByteArray.empty l0 x22_1) x28_2))))) := ⟨by repeat (first | (with_reducible first | exact HB.out | apply below_alloc | apply pw_below_drewN | apply below_drew1 | refine below_set ?_ GB18.out) | exact HB.out)⟩
                (try clear HO_4)
                (try clear HO_5)
                (try clear HB)
                generalize (w23.setCell ⟨go18, (x28_2 : Int).toNat, none⟩ (.int .u8 (Go.bits .xor .u8 (rd x4_2 x28_2) (bt (rdOf ByteArray.empty l0 x22_1) x28_2)))) = w25 at n0_ n1_ n2_ ⊢
                have HO_4 := n0_
                have HO_5 := n1_
                have HB := n2_
                clear n0_ n1_ n2_
                have n0_ := Aside0.mk (Kd.R_drew HO_4.out)
                have n1_ := Aside0.mk (Kd.R_drew HO_5.out)
                have n2_ := Aside0.mk (below_drew1 HB.out)
                clear HO_4
                clear HO_5
                clear HB
                have HO_4 := n0_
                have HO_5 := n1_
                have HB := n2_
                clear n0_ n1_ n2_
                obtain ⟨Ao27, co27, eo27⟩ := Kd.R_slice HO_5.out
                (first | subst eo27 | (injection eo27 with f1_ f2_ f3_; have f4_ := f1_.symm; have f5_ := f3_.symm; clear f1_ f2_ f3_; subst f4_; subst f5_))
                have p150 : 0 ≤ (x28_2 : Int) := of_decide_eq_true (by first | (with_reducible assumption) | assumption)
                have q150 : x28_2 < (x5_2.length : Int) := of_decide_eq_true (by first | (with_reducible assumption) | assumption)
                obtain ⟨ad150, e150, hx150_0⟩ := Kd.at_int (Kd.R_reads' HO_5.out).2.2 x28_2 p150 q150
                cases e150
                replace p150 := eq_true p150
                replace q150 := eq_true q150
                have p20 : 0 ≤ (x28_2 : Int) := of_decide_eq_true (by first | (with_reducible assumption) | assumption)
                have q20 : x28_2 < ((rdOf ByteArray.empty l0 x22_1).size : Int) := of_decide_eq_true (by first | (with_reducible assumption) | assumption)
                have hx20 := bt_at (rdOf ByteArray.empty l0 x22_1) x28_2
                replace p20 := eq_true p20
                replace q20 := eq_true q20
                refine start_ (n := 12) (S := fun w' => w'.cell? (ad150.add (x28_2).toNat) = some (.int .u8 (rd x5_2 x28_2))) (ds := [11]) #[false, false, false, false, false, false, false, false, false, false, false, false] (by kernel_rfl) rfl rfl (hx150_0) (fun hHeld => ?_); refine with_tabW spec_l3Parities.tab11 spec_l3Parities.bits11 (fun HT_ HW_ => ?_)
                generalize w25.drew = w26 at HO_4 HO_5 HB HQ24 hx150_0 hHeld ⊢
                refine pure_ (i := 0) (N := some 40) (v := ?_) (a' := ?_) #[true, false, false, false, false, false, false, false, false, false, false, false] rfl rfl (any_of HT_.out (by kernel_rfl)) (fun _ _ _ h => h) (Or.inl ⟨by rfl, ?_⟩) ?_ ?_
                rotate_left
                ·intro w'
                 go_simp
                 with_reducible rfl
                rotate_left
                ·simp only [Act.put, List.setIfInBounds_toArray, List.set_cons_zero, List.set_cons_succ, i64_w, i32_w]
                 rfl
                refine pure_ (i := 1) (N := some 41) (v := ?_) (a' := ?_) #[true, true, false, false, false, false, false, false, false, false, false, false] rfl rfl (any_of HT_.out (by kernel_rfl)) (fun _ _ _ h => h) (Or.inl ⟨by rfl, ?_⟩) ?_ ?_
                rotate_left
                ·intro w'
                 go_simp
                 with_reducible rfl
                rotate_left
                ·simp only [Act.put, List.setIfInBounds_toArray, List.set_cons_zero, List.set_cons_succ, i64_w, i32_w]
                 rfl
                refine pure_ (i := 2) (N := some 42) (v := ?_) (a' := ?_) #[true, true, true, false, false, false, false, false, false, false, false, false] rfl rfl (any_of HT_.out (by kernel_rfl)) (fun _ _ _ h => h) (Or.inl ⟨by rfl, ?_⟩) ?_ ?_
                rotate_left
                ·intro w'
                 go_simp
                 with_reducible rfl
                rotate_left
                ·simp only [Act.put, List.setIfInBounds_toArray, List.set_cons_zero, List.set_cons_succ, i64_w, i32_w]
                 rfl
                refine pure_ (i := 4) (N := some 44) (v := ?_) (a' := ?_) #[true, true, true, false, true, false, false, false, false, false, false, false] rfl rfl (any_of HT_.out (by kernel_rfl)) (fun _ _ _ h => h) (Or.inl ⟨by rfl, ?_⟩) ?_ ?_
                rotate_left
                ·intro w'
                 go_simp
                 with_reducible rfl
                rotate_left
                ·simp only [Act.put, List.setIfInBounds_toArray, List.set_cons_zero, List.set_cons_succ, i64_w, i32_w]
                 rfl
                refine pure_ (i := 5) (N := some 45) (v := ?_) (a' := ?_) #[true, true, true, false, true, true, false, false, false, false, false, false] rfl rfl (any_of HT_.out (by kernel_rfl)) (fun _ _ _ h => h) (Or.inl ⟨by rfl, ?_⟩) ?_ ?_
                rotate_left
                ·intro w'
                 go_simp
                 with_reducible rfl
                rotate_left
                ·simp only [Act.put, List.setIfInBounds_toArray, List.set_cons_zero, List.set_cons_succ, i64_w, i32_w]
                 rfl
                refine pure_ (i := 6) (N := some 46) (v := ?_) (a' := ?_) #[true, true, true, false, true, true, true, false, false, false, false, false] rfl rfl (any_of HT_.out (by kernel_rfl)) (fun _ _ _ h => h) (Or.inl ⟨by rfl, ?_⟩) ?_ ?_
                rotate_left
                ·intro w'
                 go_simp
                 with_reducible rfl
                rotate_left
                ·simp only [Act.put, List.setIfInBounds_toArray, List.set_cons_zero, List.set_cons_succ, i64_w, i32_w]
                 rfl
                refine take_ (i := 3) (N := some 43) (v := ?_) (a' := ?_) #[true, true, true, true, true, true, true, false, false, false, false, false] rfl rfl (take_ofW HT_.out HW_.out (by kernel_rfl)) (fun _ _ _ h => h) (Or.inl ⟨by rfl, ?_⟩) hHeld ?_ ?_
                rotate_left
                ·intro w' s0
                 go_simp
                 with_reducible rfl
                rotate_left
                ·simp only [Act.put, List.setIfInBounds_toArray, List.set_cons_zero, List.set_cons_succ, i64_w, i32_w]
                 rfl
                refine take_ (i := 7) (N := some 47) (v := ?_) (a' := ?_) #[true, true, true, true, true, true, true, true, false, false, false, false] rfl rfl (take_ofW HT_.out HW_.out (by kernel_rfl)) (fun _ _ _ h => h) (Or.inl ⟨by rfl, ?_⟩) hHeld ?_ ?_
                rotate_left
                ·intro w' s0
                 go_simp
                 with_reducible rfl
                rotate_left
                ·simp only [Act.put, List.setIfInBounds_toArray, List.set_cons_zero, List.set_cons_succ, i64_w, i32_w]
                 rfl
                refine one_ (i := 8) (N := some 48) #[true, true, true, true, true, true, true, true, true, false, false, false] rfl rfl (one_of HT_.out (by kernel_rfl)) (by decide) (fun K hK => ?_)
                refine goes_ Try.func73 (by kernel_rfl) rfl #[.int .u8 x6_1, .int .u8 (bt (rdOf ByteArray.empty l0 x22_1) x28_2)] (by rfl) rfl rfl (by (try simp only [List.map_toArray, List.map_cons, List.map_nil]); first | done | rfl | (simp only [List.length_drop, List.length_take]; rfl)) ?_
                with_reducible refine (spec_l2Mul.calls k2 x6_1 (bt (rdOf ByteArray.empty l0 x22_1) x28_2) t151 _ A21.out).mono ?_
                rintro e w' ⟨rfl, ⟨nd, rfl⟩⟩
                refine ⟨_, rfl, ?_⟩
                have p22 : 0 ≤ (x28_2 : Int) := of_decide_eq_true (by first | (with_reducible assumption) | assumption)
                have q22 : (x28_2 : Int) < ((x5_2.length : Int) : Int) := of_decide_eq_true (by first | (with_reducible assumption) | assumption)
                obtain ⟨go22, co22, eo22, gb22, gl22, cl22, HG22⟩ := Kd.R_form HO_5.out (by omega)
                (first | cases eo22 | (injection eo22 with ea_ en_ ec_; (first | subst ea_ | (injection ea_ with ea_; subst ea_)); subst ec_; clear en_))
                have GB22 := Aside0.mk gb22
                have GG22 := Aside0.mk HG22
                clear gb22 gl22 HG22
                (first | simp only [add_plain] at hx150_0 | skip)
                obtain ⟨hx22_0, hf22_0⟩ := Kd.R_celln 0 HO_5.out (x28_2 : Int) p22 q22
                replace p22 := eq_true p22
                replace q22 := eq_true q22
                have HP28 := Kd.R_putn HO_5.out (x28_2 : Int) (Go.bits .xor .u8 (rd x5_2 x28_2) t151)
                rw [← Ny152.out] at HP28
                have HQ28 := Aside0.mk HP28
                clear HP28
                refine hK.out _ _ (hHeld) (fun hHeld => ?_)
                clear hK K
                refine norm_ (a' := ?_) ?_ ?_
                rotate_left
                ·show Act.put _ (some 48) _ = _
                 simp only [Act.put, List.setIfInBounds_toArray, List.set_cons_zero, List.set_cons_succ, i64_w, i32_w]
                 rfl
                refine pure_ (i := 9) (N := some 49) (v := ?_) (a' := ?_) #[true, true, true, true, true, true, true, true, true, true, false, false] rfl rfl (any_of HT_.out (by kernel_rfl)) (fun _ _ _ h => h) (Or.inl ⟨by rfl, ?_⟩) ?_ ?_
                rotate_left
                ·intro w'
                 go_simp
                 with_reducible rfl
                rotate_left
                ·simp only [Act.put, List.setIfInBounds_toArray, List.set_cons_zero, List.set_cons_succ, i64_w, i32_w]
                 rfl
                refine pure_ (i := 10) (N := some 50) (v := ?_) (a' := ?_) #[true, true, true, true, true, true, true, true, true, true, true, false] rfl rfl (any_of HT_.out (by kernel_rfl)) (fun _ _ _ h => h) (Or.inl ⟨by rfl, ?_⟩) ?_ ?_
                rotate_left
                ·intro w'
                 go_simp
                 with_reducible rfl
                rotate_left
                ·simp only [Act.put, List.setIfInBounds_toArray, List.set_cons_zero, List.set_cons_succ, i64_w, i32_w]
                 rfl
                refine last_ (i := 11) (N := none) #[true, true, true, true, true, true, true, true, true, true, true, true] rfl rfl (one_of HT_.out (by kernel_rfl)) (by decide) (fun K hK => ?_)
                refine skip_ (w1 := ?_) (by rfl) rfl ?_ ?_
                rotate_left
                ·go_simp
                 rfl
                refine hK.out _ _ ?_
                clear hK K
                refine done_ (done_of HT_.out (by kernel_rfl)) ?_
                try go_wp2
                (try simp only [← hl4_2])
                go_roundg k2
                case measure => have := HK1.out; have := HK2.out; omega
                case rel => exact ⟨(y149), (y152), (wrap64 (x28_2 + 1)), (by first | rfl | (simp; done) | (simp [*]; done)), H', ⟨by have := HK1.out; have := HK2.out; omega⟩, ⟨by (try simp only [hl4_2]); (with_reducible repeat (first | apply Kd.R_alloc | apply Kd.R_drewN | apply Kd.R_drew)); exact Kd.R_mono (Kd.R_far (p := ⟨go22, (x28_2 : Int).toNat, none⟩) (Kd.R_mono HO_4.out (fun k_ hk => (⟨hk, fun e_ => hk (by rw [e_]; rfl)⟩ : _ ∧ k_ ≠ go22))) (fun _ hk => hk.2) (.int .u8 (Go.bits .xor .u8 (rd x5_2 x28_2) t151))) (fun _ hk => hk.1)⟩, ⟨by (try simp only [hl4_2]); (with_reducible repeat (first | apply Kd.R_alloc | apply Kd.R_drewN | apply Kd.R_drew)); exact HQ28.out⟩, ⟨by repeat (first | (with_reducible first | exact HB.out | apply below_alloc | apply pw_below_drewN | apply below_drew1 | refine below_set ?_ GB22.out) | exact HB.out)⟩⟩
               ·rw [if_neg c19] at H
                exact absurd H (by simp)
              ·rw [if_neg c16] at H
               exact absurd H (by simp)
             ·rw [if_neg c15] at H
              exact absurd H (by simp)
            ·rw [if_neg c14] at H
             exact absurd H (by simp)
           ·rw [if_neg c13] at H
            have c13b0 : decide (x28_2 < (x4_1.length : Int)) = false := decide_eq_false c13
            (try have c13b8 : decide (x28_2 < (x4_2.length : Int)) = false := by rw [← hl4_2]; exact c13b0)
            clear c13
            replace H := Option.bind_eq_some_iff.mp H
            obtain ⟨t153, A290, H⟩ := H
            replace H : (spec_l3Parities.l0 k2 x4_2 x5_2 t153 l0 (l0.length : Int) (wrap64 (x22_1 + 1))) = some (r1, r2) := H
            have A29 := Aside0.mk A290
            clear A290
            have H' := Aside0.mk H
            clear H
            go_wp2_with (first | ((with_reducible refine gate_callee (f := 73) rfl ?_); refine goesL_ (some 53) rfl rfl Try.func73 (by kernel_rfl) rfl #[.int .u8 x6_1, .int .u8 2] rfl (by (try simp only [List.map_toArray, List.map_cons, List.map_nil]); first | done | rfl | (simp only [List.length_drop, List.length_take]; rfl)) ?_; (with_reducible refine (spec_l2Mul.calls k2 x6_1 2 t153 _ A29.out).mono ?_); rintro e w' ⟨rfl, ⟨nd, rfl⟩⟩; refine ⟨_, rfl, ?_⟩))
            (try simp only [← hl4_2])
            go_roundg k2
            case measure => have := HK1.out; have := HK2.out; omega
            case rel => exact ⟨(x4_2), (x5_2), (t153), (wrap64 (x22_1 + 1)), (by first | rfl | (simp; done) | (simp [*]; done)), (by first | rfl | (simp; done) | (simp [*]; done)), H', ⟨by have := HK1.out; have := HK2.out; omega⟩, ⟨by (try simp only [hl4_2]); (with_reducible repeat (first | apply Kd.R_alloc | apply Kd.R_drewN | apply Kd.R_drew)); exact HO_4.out⟩, ⟨by (try simp only [hl4_2]); (with_reducible repeat (first | apply Kd.R_alloc | apply Kd.R_drewN | apply Kd.R_drew)); exact HO_5.out⟩, ⟨by repeat (first | (with_reducible first | exact HB.out | apply below_alloc | apply pw_below_drewN | apply below_drew1) | exact HB.out)⟩⟩
        ·rw [if_neg c11] at H
         exact absurd H (by simp)
       ·rw [if_neg c10] at H
        exact absurd H (by simp)
      ·rw [if_neg c9] at H
       have c9b0 : decide (x22_1 < (l0.length : Int)) = false := decide_eq_false c9
       clear c9
       simp only [Option.some.injEq, Prod.mk.injEq] at H
       obtain ⟨rfl, rfl⟩ := H
       try go_wp2
       have n0_ := Aside0.mk (Kd.R_drew HO_4.out)
       have n1_ := Aside0.mk (Kd.R_drew HO_5.out)
       have n2_ := Aside0.mk (below_drew1 HB.out)
       clear HO_4
       clear HO_5
       clear HB
       have HO_4 := n0_
       have HO_5 := n1_
       have HB := n2_
       clear n0_ n1_ n2_
       have hcv31 := own_string (P := Try.prog) Try.underlying48 Try.underlying5 Try.underlying9 (Kd.own_of_R HO_4.out)
       have hcv32 := own_string (P := Try.prog) Try.underlying48 Try.underlying5 Try.underlying9 (Kd.own_of_R HO_5.out)
       refine start_ (n := 6) (S := fun w' => w' = wr.drew) (ds := []) #[false, false, false, false, false, false] (by kernel_rfl) rfl rfl rfl (fun hHeld => ?_)
       generalize wr.drew = w30 at hcv31 hcv32 HO_4 HO_5 HB hHeld ⊢
       first
       | (refine pure_ (i := 0) (N := some 55) (v := ?_) (a' := ?_) #[true, false, false, false, false, false] rfl rfl (by kernel_rfl) (fun _ _ _ h => h) (Or.inl ⟨by rfl, ?_⟩) ?_ ?_; rotate_left; (· intro w'; go_simp; with_reducible rfl))
       | (refine take_ (i := 0) (N := some 55) (v := ?_) (a' := ?_) #[true, false, false, false, false, false] rfl rfl (by kernel_rfl) (fun _ _ _ h => h) (Or.inl ⟨by rfl, ?_⟩) hHeld ?_ ?_; rotate_left; (· intro w' hw_; subst hw_; go_simp; with_reducible rfl))
       rotate_left
       ·simp only [Act.put, List.setIfInBounds_toArray, List.set_cons_zero, List.set_cons_succ, i64_w, i32_w]
        rfl
       first
       | (refine pure_ (i := 1) (N := some 56) (v := ?_) (a' := ?_) #[true, true, false, false, false, false] rfl rfl (by kernel_rfl) (fun _ _ _ h => h) (Or.inl ⟨by rfl, ?_⟩) ?_ ?_; rotate_left; (· intro w'; go_simp; with_reducible rfl))
       | (refine take_ (i := 1) (N := some 56) (v := ?_) (a' := ?_) #[true, true, false, false, false, false] rfl rfl (by kernel_rfl) (fun _ _ _ h => h) (Or.inl ⟨by rfl, ?_⟩) hHeld ?_ ?_; rotate_left; (· intro w' hw_; subst hw_; go_simp; with_reducible rfl))
       rotate_left
       ·simp only [Act.put, List.setIfInBounds_toArray, List.set_cons_zero, List.set_cons_succ, i64_w, i32_w]
        rfl
       first
       | (refine pure_ (i := 2) (N := some 57) (v := ?_) (a' := ?_) #[true, true, true, false, false, false] rfl rfl (by kernel_rfl) (fun _ _ _ h => h) (Or.inl ⟨by rfl, ?_⟩) ?_ ?_; rotate_left; (· intro w'; go_simp; with_reducible rfl))
       | (refine take_ (i := 2) (N := some 57) (v := ?_) (a' := ?_) #[true, true, true, false, false, false] rfl rfl (by kernel_rfl) (fun _ _ _ h => h) (Or.inl ⟨by rfl, ?_⟩) hHeld ?_ ?_; rotate_left; (· intro w' hw_; subst hw_; go_simp; with_reducible rfl))
       rotate_left
       ·simp only [Act.put, List.setIfInBounds_toArray, List.set_cons_zero, List.set_cons_succ, i64_w, i32_w]
        rfl
       first
       | (refine pure_ (i := 3) (N := some 58) (v := ?_) (a' := ?_) #[true, true, true, true, false, false] rfl rfl (by kernel_rfl) (fun _ _ _ h => h) (Or.inl ⟨by rfl, ?_⟩) ?_ ?_; rotate_left; (· intro w'; go_simp; with_reducible rfl))
       | (refine take_ (i := 3) (N := some 58) (v := ?_) (a' := ?_) #[true, true, true, true, false, false] rfl rfl (by kernel_rfl) (fun _ _ _ h => h) (Or.inl ⟨by rfl, ?_⟩) hHeld ?_ ?_; rotate_left; (· intro w' hw_; subst hw_; go_simp; with_reducible rfl))
       rotate_left
       ·simp only [Act.put, List.setIfInBounds_toArray, List.set_cons_zero, List.set_cons_succ, i64_w, i32_w]
        rfl
       first
       | (refine pure_ (i := 4) (N := some 2) (v := ?_) (a' := ?_) #[true, true, true, true, true, false] rfl rfl (by kernel_rfl) (fun _ _ _ h => h) (Or.inl ⟨by rfl, ?_⟩) ?_ ?_; rotate_left; (· intro w'; go_simp; with_reducible rfl))
       | (refine take_ (i := 4) (N := some 2) (v := ?_) (a' := ?_) #[true, true, true, true, true, false] rfl rfl (by kernel_rfl) (fun _ _ _ h => h) (Or.inl ⟨by rfl, ?_⟩) hHeld ?_ ?_; rotate_left; (· intro w' hw_; subst hw_; go_simp; with_reducible rfl))
       rotate_left
       ·simp only [Act.put, List.setIfInBounds_toArray, List.set_cons_zero, List.set_cons_succ, i64_w, i32_w]
        rfl
       first
       | (refine pure_ (i := 5) (N := some 3) (v := ?_) (a' := ?_) #[true, true, true, true, true, true] rfl rfl (by kernel_rfl) (fun _ _ _ h => h) (Or.inl ⟨by rfl, ?_⟩) ?_ ?_; rotate_left; (· intro w'; go_simp; with_reducible rfl))
       | (refine take_ (i := 5) (N := some 3) (v := ?_) (a' := ?_) #[true, true, true, true, true, true] rfl rfl (by kernel_rfl) (fun _ _ _ h => h) (Or.inl ⟨by rfl, ?_⟩) hHeld ?_ ?_; rotate_left; (· intro w' hw_; subst hw_; go_simp; with_reducible rfl))
       rotate_left
       ·simp only [Act.put, List.setIfInBounds_toArray, List.set_cons_zero, List.set_cons_succ, i64_w, i32_w]
        rfl
       refine done_ (by kernel_rfl) ?_
       try go_wp2
       go_ret2
       exact ⟨by first | rfl | (simp [errW_none, errW_some] <;> rfl) | (simp [*, errW_none, errW_some] <;> rfl), by repeat (first | (with_reducible first | exact HB.out | apply below_alloc | apply pw_below_drewN | apply below_drew1) | exact HB.out)⟩
   ·rw [if_neg c4] at H
    exact absurd H (by simp)
  ·rw [if_neg c3] at H
   exact absurd H (by simp)
 ·rw [if_neg c2] at H
  exact absurd H (by simp)

/-! ### spec_l3Xor: function 52 (by hand) -/
/-- the exclusive or of two texts; nothing where the second is shorter (Go would panic) -/
def spec_l3Xor.f (a0 : ByteArray) (a1 : ByteArray) : Option (ByteArray) :=
 if a0.size ≤ a1.size ∧ a0.size ≤ 4611686018427387904 then some (strOfNums ((List.range a0.size).map fun (j : Nat) => Go.bits .xor .u8 (bt a0 (j : Int)) (bt a1 (j : Int)))) else none
set_option maxHeartbeats 8000000 in
set_option maxRecDepth 100000 in
theorem spec_l3Xor.calls (a0 : ByteArray) (a1 : ByteArray) (r : ByteArray) (w : World) (h : spec_l3Xor.f a0 a1 = some r) :
  Calls Try.prog 52 #[.string a0, .string a1] w fun e w' => e = .returned (.string r) ∧ Below w.heap.size w w' := by
 unfold spec_l3Xor.f at h
 by_cases hl : a0.size ≤ a1.size ∧ a0.size ≤ 4611686018427387904
 case neg => rw [if_neg hl] at h; cases h
 rw [if_pos hl] at h
 obtain rfl := Option.some.inj h
 clear h
 have HLE := Aside0.mk hl
 clear hl
 have hu9 := Try.underlying9
 have hu48 := Try.underlying48
 have hu5 := Try.underlying5
 go_enter Try.func52, Try.ntmps52
 go_wp2_with ((with_reducible refine gate_dst (N := 8) rfl ?_); go_loud (refine Go.Proofs.Ytfijnlhklfmoeaa.Bytes.conv_event ?hg (N := 8) ?hd (src := 9) (dst := 48) (e := 5) (s := a0) hu9 hu48 hu5 ?hex ?_); (case hd => rfl); (case hg => rfl); (case hex => go_simp); intro g c w1 hg hrow hbel hc; have HR := Aside0.mk hrow; have HB := Aside0.mk hbel; have HG := Aside0.mk hg; have HC := Aside0.mk hc; clear hrow hbel hg hc)
 have hL0 := bytesOf_length a0
 go_loopw [11] (fun v11 w' => ∃ (i : Nat) (ys : List Int), i ≤ a0.size ∧ v11 = .int .i64 (i : Int) ∧ Aside0 (Go.Proofs.Ytfijnlhklfmoeaa.Bytes.RowB w' 5 g ys) ∧ Aside0 (ys.length = a0.size) ∧ Aside0 (∀ j : Nat, j < a0.size → ys.getD j 0 = if j < i then Go.bits .xor .u8 (bt a0 (j : Int)) (bt a1 (j : Int)) else bt a0 (j : Int)) ∧ Aside0 (Below w.heap.size w w')) (fun v11 w' => a0.size - (intOf v11).toNat)
 case atStart => exact ⟨0, bytesOf a0, Nat.zero_le _, rfl, HR, ⟨hL0⟩, ⟨fun j hj => by rw [if_neg (by omega)]; have := rd_bytesOf a0 (j : Int); unfold rd at this; rw [Int.toNat_natCast] at this; exact this⟩, HB⟩
 case round =>
  obtain ⟨i, ys, hi, rfl, HRi, HLi, HVi, HBi⟩ := hrel
  by_cases hlt : i < a0.size
  ·have hlt1 : i < a1.size := by have := HLE.out.1; omega
   have hbig : a0.size ≤ 4611686018427387904 := HLE.out.2
   have hil : i < ys.length := by rw [HLi.out]; exact hlt
   have hcell := HRi.out.cell i hil
   have hv := HVi.out i hlt
   rw [if_neg (by omega)] at hv
   rw [hv] at hcell
   have hfree := HRi.out.free i hil
   have hx5 : ∀ h_ : i < a1.size, ((a1[i]'h_).toNat : Int) = bt a1 (i : Int) := fun h_ => by have h2_ := bt_at a1 (i : Int) (by simpa using h_); simpa using h2_
   have hq1 : ((i : Int) < (a1.size : Int)) = True := eq_true (by omega)
   have HS := Aside0.mk (HRi.out.set i hil (Go.bits .xor .u8 (bt a0 (i : Int)) (bt a1 (i : Int))))
   clear hv
   go_wp2
   go_region
   all_goals (go_wp2; go_roundw)
   case rel => exact ⟨i + 1, ys.set i (Go.bits .xor .u8 (bt a0 (i : Int)) (bt a1 (i : Int))), by omega, by go_num, ⟨by first | exact HS.out | exact HS.out.drew⟩, ⟨by rw [List.length_set]; exact HLi.out⟩, ⟨fun j hj => by
     rw [Go.Proofs.Ytfijnlhklfmoeaa.Bytes.getD_set _ _ _ _ hil]
     by_cases hji : j = i
     ·subst hji; rw [if_pos rfl, if_pos (by omega)]
     ·rw [if_neg hji, HVi.out j hj]
      by_cases h2 : j < i
      ·rw [if_pos h2, if_pos (by omega)]
      ·rw [if_neg h2, if_neg (by omega)]⟩, ⟨by repeat (first | exact HBi.out | apply below_drew1 | (refine Go.Proofs.Ytfijnlhklfmoeaa.Bytes.RowB.setBelow ?_ (by rw [HG.out]; exact Nat.le_refl _) _ _))⟩⟩
   case measure => simp [intOf]; omega
  ·have hin : i = a0.size := by omega
   have HY := Aside0.mk (show ys = (List.range a0.size).map fun (j : Nat) => Go.bits .xor .u8 (bt a0 (j : Int)) (bt a1 (j : Int)) by
    apply List.ext_getElem (by simp; exact HLi.out)
    intro j h1 h2
    have h3 : j < a0.size := by simpa using h2
    have h4 := HVi.out j h3
    rw [if_pos (by omega)] at h4
    rw [List.getD_eq_getElem?_getD, List.getElem?_eq_getElem h1] at h4
    simpa using h4)
   have hcv : (convert 48 9 (.slice (some ⟨g, 0, none⟩) a0.size c)).run Try.prog wr = .ok (.string (strOfNums ys)) wr := HRi.out.text hu48 hu5 hu9 _ _ HLi.out.symm
   clear hin
   go_wp2
   go_ret
   exact ⟨by rw [← HY.out]; rfl, by repeat (first | exact HBi.out | apply below_drew1 | apply pw_below_drewN)⟩


/-! ### spec_l3Times: function 53 (by hand) -/
/-- a text, its bytes times a number -/
def spec_l3Times.f (k : Nat) (a0 : Int) (a1 : ByteArray) : Option (ByteArray) :=
 if a1.size ≤ 4611686018427387904 then (Go.Proofs.Ytfijnlhklfmoeaa.Bytes.allOf (fun j => spec_l2Mul.f k a0 (bt a1 (j : Int))) a1.size).bind fun l => some (strOfNums l) else none
theorem spec_l3Times.mono : ∀ a0 a1 k, LeO (spec_l3Times.f k a0 a1) (spec_l3Times.f (k + 1) a0 a1) := by
 intro a0 a1 k
 unfold spec_l3Times.f
 refine LeO.ite ?_ (LeO.none _)
 exact LeO.bind (Go.Proofs.Ytfijnlhklfmoeaa.Bytes.allOf_mono (fun _ => spec_l2Mul.mono _ _ _) _) (fun _ => LeO.refl _)
set_option maxHeartbeats 8000000 in
set_option maxRecDepth 100000 in
theorem spec_l3Times.calls (k : Nat) (a0 : Int) (a1 : ByteArray) (r : ByteArray) (w : World) (h : spec_l3Times.f k a0 a1 = some r) :
  Calls Try.prog 53 #[.int .u8 a0, .string a1] w fun e w' => e = .returned (.string r) ∧ Below w.heap.size w w' := by
 unfold spec_l3Times.f at h
 by_cases hl : a1.size ≤ 4611686018427387904
 case neg => rw [if_neg hl] at h; cases h
 rw [if_pos hl] at h
 obtain ⟨l, hall, h⟩ := Option.bind_eq_some_iff.mp h
 obtain rfl := Option.some.inj h
 clear h
 obtain ⟨hll, hlj⟩ := Go.Proofs.Ytfijnlhklfmoeaa.Bytes.allOf_tells hall
 clear hall
 have HLE := Aside0.mk hl
 have HLL := Aside0.mk hll
 have HLJ := Aside0.mk hlj
 clear hl hll hlj
 have hu9 := Try.underlying9
 have hu48 := Try.underlying48
 have hu5 := Try.underlying5
 go_enter Try.func53, Try.ntmps53
 go_wp2_with ((with_reducible refine gate_dst (N := 8) rfl ?_); go_loud (refine Go.Proofs.Ytfijnlhklfmoeaa.Bytes.conv_event ?hg (N := 8) ?hd (src := 9) (dst := 48) (e := 5) (s := a1) hu9 hu48 hu5 ?hex ?_); (case hd => rfl); (case hg => rfl); (case hex => go_simp); intro g c w1 hg hrow hbel hc; have HR := Aside0.mk hrow; have HB := Aside0.mk hbel; have HG := Aside0.mk hg; have HC := Aside0.mk hc; clear hrow hbel hg hc)
 have hL0 := bytesOf_length a1
 go_loopw [11] (fun v11 w' => ∃ (i : Nat) (ys : List Int), i ≤ a1.size ∧ v11 = .int .i64 (i : Int) ∧ Aside0 (Go.Proofs.Ytfijnlhklfmoeaa.Bytes.RowB w' 5 g ys) ∧ Aside0 (ys.length = a1.size) ∧ Aside0 (∀ j : Nat, j < a1.size → ys.getD j 0 = if j < i then l.getD j 0 else bt a1 (j : Int)) ∧ Aside0 (Below w.heap.size w w')) (fun v11 w' => a1.size - (intOf v11).toNat)
 case atStart => exact ⟨0, bytesOf a1, Nat.zero_le _, rfl, ⟨by first | exact HR.out | exact HR.out.drewN⟩, ⟨hL0⟩, ⟨fun j hj => by rw [if_neg (by omega)]; have := rd_bytesOf a1 (j : Int); unfold rd at this; rw [Int.toNat_natCast] at this; exact this⟩, ⟨by repeat (first | exact HB.out | apply below_drew1 | apply pw_below_drewN)⟩⟩
 case round =>
  obtain ⟨i, ys, hi, rfl, HRi, HLi, HVi, HBi⟩ := hrel
  by_cases hlt : i < a1.size
  ·have hbig : a1.size ≤ 4611686018427387904 := HLE.out
   have hil : i < ys.length := by rw [HLi.out]; exact hlt
   have hcell := HRi.out.cell i hil
   have hv := HVi.out i hlt
   rw [if_neg (by omega)] at hv
   rw [hv] at hcell
   have hfree := HRi.out.free i hil
   have HM := Aside0.mk (HLJ.out i hlt)
   have HS := Aside0.mk (HRi.out.set i hil (l.getD i 0))
   have hcell' : ∀ n_ : Nat, (wr.drewN n_).cell? ⟨g, i, none⟩ = some (.int .u8 (bt a1 (i : Int))) := fun n_ => hcell
   have hfree' : ∀ n_ : Nat, (wr.drewN n_).frozen? ⟨g, i, none⟩ = false := fun n_ => hfree
   clear hv
   go_wp2_with (first | ((with_reducible refine gate_callee (f := 73) rfl ?_); refine goesL_ (some 21) rfl rfl Try.func73 (by kernel_rfl) rfl #[.int .u8 a0, .int .u8 (bt a1 (i : Int))] rfl (by (try simp only [List.map_toArray, List.map_cons, List.map_nil]); first | done | rfl) ?_; (with_reducible refine (spec_l2Mul.calls k a0 (bt a1 (i : Int)) (l.getD i 0) _ HM.out).mono ?_); rintro e w' ⟨rfl, ⟨nd2, rfl⟩⟩; refine ⟨_, rfl, ?_⟩))
   go_roundw
   case rel => exact ⟨i + 1, ys.set i (l.getD i 0), by omega, by go_num, ⟨by first | exact HS.out | exact HS.out.drew | exact HS.out.drewN⟩, ⟨by rw [List.length_set]; exact HLi.out⟩, ⟨fun j hj => by
     rw [Go.Proofs.Ytfijnlhklfmoeaa.Bytes.getD_set _ _ _ _ hil]
     by_cases hji : j = i
     ·subst hji; rw [if_pos rfl, if_pos (by omega)]
     ·rw [if_neg hji, HVi.out j hj]
      by_cases h2 : j < i
      ·rw [if_pos h2, if_pos (by omega)]
      ·rw [if_neg h2, if_neg (by omega)]⟩, ⟨by repeat (first | exact HBi.out | apply below_drew1 | apply pw_below_drewN | (refine Go.Proofs.Ytfijnlhklfmoeaa.Bytes.RowB.setBelow ?_ (by rw [HG.out]; exact Nat.le_refl _) _ _))⟩⟩
   case measure => simp [intOf]; omega
  ·have hin : i = a1.size := by omega
   have HY := Aside0.mk (show ys = l by
    apply List.ext_getElem (by rw [HLi.out, HLL.out])
    intro j h1 h2
    have h3 : j < a1.size := by rw [← HLL.out]; exact h2
    have h4 := HVi.out j h3
    rw [if_pos (by omega)] at h4
    rw [List.getD_eq_getElem?_getD, List.getD_eq_getElem?_getD, List.getElem?_eq_getElem h1, List.getElem?_eq_getElem h2] at h4
    simpa using h4)
   have hcv : (convert 48 9 (.slice (some ⟨g, 0, none⟩) a1.size c)).run Try.prog wr = .ok (.string (strOfNums ys)) wr := HRi.out.text hu48 hu5 hu9 _ _ HLi.out.symm
   clear hin
   go_wp2
   go_ret
   exact ⟨by rw [← HY.out]; rfl, by repeat (first | exact HBi.out | apply below_drew1 | apply pw_below_drewN)⟩


/-! ### spec_l2Pow: function 54 -/
def spec_l2Pow.l0 : Nat → Int → Int → Int → Option (Int)
 | 0, _, _, _ => none
 | k + 1, x0, x1, x5 => if x1 > 0 then ((spec_l2Mul.f k x5 x0).bind fun t154 => (spec_l2Pow.l0 k x0 (wrap64 (x1 - 1)) t154)) else (some x5)
def spec_l2Pow.f (k : Nat) (a0 : Int) (a1 : Int) : Option (Int) := spec_l2Pow.l0 k a0 a1 1
theorem spec_l2Pow.mono_l : ∀ k, (∀ y0 y1 y2, LeO (spec_l2Pow.l0 k y0 y1 y2) (spec_l2Pow.l0 (k + 1) y0 y1 y2))
 | 0 => fun _ _ _ r h => by change none = some r at h; cases h
 | k + 1 => by
  have ih0 := spec_l2Pow.mono_l k
  ·intro y0 y1 y2
   unfold spec_l2Pow.l0
   repeat' first
   | (with_reducible exact ih0 _ _ _)
   | (with_reducible exact spec_l2Mul.mono _ _ _)
   | (with_reducible exact LeO.refl _)
   | (with_reducible exact LeO.none _)
   | (with_reducible refine LeO.ite ?_ ?_)
   | (with_reducible refine LeO.bind ?_ (fun _ => ?_))
   | exact ih0 _ _ _
   | exact spec_l2Mul.mono _ _ _
   | exact LeO.none _
   | refine LeO.ite ?_ ?_
   | refine LeO.bind ?_ (fun _ => ?_)
theorem spec_l2Pow.mono : ∀ a0 a1 k, LeO (spec_l2Pow.f k a0 a1) (spec_l2Pow.f (k + 1) a0 a1) := by
 intro a0 a1 k
 have ih0 := spec_l2Pow.mono_l k
 unfold spec_l2Pow.f
 repeat' first
   | (with_reducible exact ih0 _ _ _)
   | (with_reducible exact spec_l2Mul.mono _ _ _)
   | (with_reducible exact LeO.refl _)
   | (with_reducible exact LeO.none _)
   | (with_reducible refine LeO.ite ?_ ?_)
   | (with_reducible refine LeO.bind ?_ (fun _ => ?_))
   | exact ih0 _ _ _
   | exact spec_l2Mul.mono _ _ _
   | exact LeO.none _
   | refine LeO.ite ?_ ?_
   | refine LeO.bind ?_ (fun _ => ?_)
set_option maxHeartbeats 8000000 in
set_option maxRecDepth 100000 in
theorem spec_l2Pow.calls (k : Nat) (a0 : Int) (a1 : Int) (r : Int) (w : World) (h : spec_l2Pow.f k a0 a1 = some r) :
  Calls Try.prog 54 #[.int .u8 a0, .int .i64 a1] w fun e w' => e = .returned (.int .u8 r) ∧ Drawn0 w w' := by
 have H : (spec_l2Pow.l0 k a0 a1 1) = some r := h
 clear h
 have H' := Aside0.mk H
 clear H
 go_enter Try.func54, Try.ntmps54
 go_wp2
 go_loopg [1, 5] k (fun kq v1 v5 w' => ∃ (x1_1 : Int) (x5_1 : Int), v1 = .int .i64 x1_1 ∧ v5 = .int .u8 x5_1 ∧ Aside0 (spec_l2Pow.l0 kq a0 x1_1 x5_1 = some r) ∧ Aside0 (kq ≤ k) ∧ Drawn0 w w')
 case atStart => exact ⟨(a1), (1), (by first | rfl | (simp; done) | (simp [*]; done)), (by first | rfl | (simp; done) | (simp [*]; done)), H', ⟨Nat.le_refl _⟩, by repeat (first | exact Drawn0.refl _ | apply Drawn0.step)⟩
 case round =>
  clear H'
  try clear p2
  obtain ⟨x1_1, x5_1, rfl, rfl, HA, HK1, ⟨m1, rfl⟩⟩ := hrel
  cases gk with
  | zero => exact absurd HA.out (fun h_ => by change none = some _ at h_; cases h_)
  | succ k1 =>
   have H := HA.out
   clear HA
   simp only [spec_l2Pow.l0] at H
   by_cases c3 : x1_1 > 0
   ·rw [if_pos c3] at H
    have c3b0 : decide (0 < x1_1) = true := decide_eq_true c3
    clear c3
    replace H := Option.bind_eq_some_iff.mp H
    obtain ⟨t154, A40, H⟩ := H
    replace H : (spec_l2Pow.l0 k1 a0 (wrap64 (x1_1 - 1)) t154) = some r := H
    have A4 := Aside0.mk A40
    clear A40
    have H' := Aside0.mk H
    clear H
    go_wp2_with (first | ((with_reducible refine gate_callee (f := 73) rfl ?_); refine goesL_ (some 12) rfl rfl Try.func73 (by kernel_rfl) rfl #[.int .u8 x5_1, .int .u8 a0] rfl (by (try simp only [List.map_toArray, List.map_cons, List.map_nil]); first | done | rfl | (simp only [List.length_drop, List.length_take]; rfl)) ?_; (with_reducible refine (spec_l2Mul.calls k1 x5_1 a0 t154 _ A4.out).mono ?_); rintro e w' ⟨rfl, ⟨nd, rfl⟩⟩; refine ⟨_, rfl, ?_⟩))
    go_roundg k1
    case measure => have := HK1.out; omega
    case rel => exact ⟨(wrap64 (x1_1 - 1)), (t154), (by first | rfl | (simp; done) | (simp [*]; done)), (by first | rfl | (simp; done) | (simp [*]; done)), H', ⟨by have := HK1.out; omega⟩, by repeat (first | exact Drawn0.refl _ | apply Drawn0.step)⟩
   ·rw [if_neg c3] at H
    have c3b0 : decide (0 < x1_1) = false := decide_eq_false c3
    clear c3
    obtain rfl := Option.some.inj H
    go_wp2
    go_ret
    exact ⟨by first | rfl | (simp; done) | (simp [*]; done), by repeat (first | exact Drawn0.refl _ | apply Drawn0.step)⟩

/-! ### spec_l3Own: function 51 -/
def spec_l3Own.f (l0_0 : List ByteArray) (a0_1 : ByteArray) (a0_2 : ByteArray) : Option (List ByteArray × ByteArray × ByteArray) := (some (([] : List ByteArray) : List ByteArray)).bind fun y157 => (if y157.length + l0_0.length < 8796093022208 then (some ((y157 ++ l0_0), a0_1, a0_2)) else (none))
set_option maxHeartbeats 8000000 in
set_option maxRecDepth 100000 in
theorem spec_l3Own.calls (A0_0 : Option Addr) (c0_0 : Nat) (l0_0 : List ByteArray) (a0_1 : ByteArray) (a0_2 : ByteArray) (r1 : List ByteArray) (r2 : ByteArray) (r3 : ByteArray) (w : World) (hr0_0 : Kd.C Kd.string w A0_0 l0_0.length l0_0) (hc0_0 : l0_0.length ≤ c0_0) (h : spec_l3Own.f l0_0 a0_1 a0_2 = some (r1, r2, r3)) :
  Calls Try.prog 51 #[.agg #[.slice A0_0 l0_0.length c0_0, .string a0_1, .string a0_2]] w fun e w' => ∃ v0_ : Value, e = .returned (.agg #[v0_, .string r2, .string r3]) ∧ Kd.R Kd.string 9 w' w.heap.size (fun _ => True) v0_ r1 ∧ Below w.heap.size w w' := by
 have hu27 := Try.underlying27
 have HR0_0 := Aside0.mk hr0_0
 have HC0_0 := Aside0.mk hc0_0
 clear hr0_0 hc0_0
 have HB := Aside0.mk (Below.refl w.heap.size w)
 have H : ((some (([] : List ByteArray) : List ByteArray)).bind fun y157 => (if y157.length + l0_0.length < 8796093022208 then (some ((y157 ++ l0_0), a0_1, a0_2)) else (none))) = some (r1, r2, r3) := h
 clear h
 obtain ⟨y157, hy157⟩ : ∃ y_ : List ByteArray, y_ = (([] : List ByteArray)) := ⟨_, rfl⟩
 replace H : (if y157.length + l0_0.length < 8796093022208 then (some ((y157 ++ l0_0), a0_1, a0_2)) else (none)) = some (r1, r2, r3) := by first | (rw [hy157]; with_reducible exact H) | (have H2_ := (Option.bind_some _ _).symm.trans H; rw [hy157]; with_reducible exact H2_) | (have H2_ := (Option.bind_some _ _).symm.trans H; with_reducible exact H2_) | with_reducible exact H | (rw [hy157]; exact H) | exact H
 have Ny157 := Aside0.mk hy157
 clear hy157
 by_cases c2 : y157.length + l0_0.length < 8796093022208
 ·rw [if_pos c2] at H
  have LMc2 := Aside0.mk c2
  clear c2
  obtain ⟨y160, hy160⟩ : ∃ y_ : List ByteArray, y_ = (y157 ++ l0_0) := ⟨_, rfl⟩
  replace H : (some (y160, a0_1, a0_2)) = some (r1, r2, r3) := by first | (rw [hy160]; with_reducible exact H) | (have H2_ := (Option.bind_some _ _).symm.trans H; rw [hy160]; with_reducible exact H2_) | (have H2_ := (Option.bind_some _ _).symm.trans H; with_reducible exact H2_) | with_reducible exact H | (rw [hy160]; exact H) | exact H
  have Ny160 := Aside0.mk hy160
  clear hy160
  simp only [Option.some.injEq, Prod.mk.injEq] at H
  obtain ⟨rfl, rfl, rfl⟩ := H
  go_enter Try.func51, Try.ntmps51
  go_wp2_with (first | ((with_reducible refine gate_dst (N := 1) rfl ?_); refine box_event ?hg (N := 1) ?hd (cs := #[.slice A0_0 l0_0.length c0_0, .string a0_1, .string a0_2]) (t := 27) ?hr ?_; (case hd => rfl); (case hg => rfl); (case hr => first | (go_simp; done) | (go_simp; rfl)); intro gb155 hg w3 hbox hb; have n0_ := Aside0.mk (below_step (by repeat (first | (with_reducible first | exact HB.out | apply below_alloc | apply pw_below_drewN | apply below_drew1) | exact HB.out)) hb); have n1_ := Aside0.mk (hbox); have n2_ := Aside0.mk ((by rw [hg]; exact (below_size (by repeat (first | (with_reducible first | exact HB.out | apply below_alloc | apply pw_below_drewN | apply below_drew1) | exact HB.out))) : w.heap.size ≤ gb155)); have n3_ := Aside0.mk ((by rw [hg]; exact (below_size (by repeat (first | (with_reducible first | exact HB.out | apply below_alloc | apply pw_below_drewN | apply below_drew1) | exact HB.out))) : w.heap.size ≤ gb155)); clear HB; have HB := n0_; have BK155 := n1_; have GW155 := n2_; have GE155 := n3_; clear n0_ n1_ n2_ n3_; clear hb hbox hg) | ((with_reducible refine gate_dst (N := 2) rfl ?_); refine box_event ?hg (N := 2) ?hd (cs := #[.slice none 0 0, .string (⟨#[]⟩ : ByteArray), .string (⟨#[]⟩ : ByteArray)]) (t := 27) ?hr ?_; (case hd => rfl); (case hg => rfl); (case hr => first | (go_simp; done) | (go_simp; rfl)); intro gb156 hg w4 hbox hb; have n0_ := Aside0.mk (blk_below (g := gb155) (o := .cells #[.slice A0_0 l0_0.length c0_0, .string a0_1, .string a0_2] 27 (0, 0)) (by (with_reducible repeat (first | refine blk_drewN ?_ _ | refine blk_drew ?_ | refine blk_alloc ?_ _)); exact BK155.out) hb); have n1_ := Aside0.mk (below_step (by repeat (first | (with_reducible first | exact HB.out | apply below_alloc | apply pw_below_drewN | apply below_drew1 | refine below_set ?_ GE155.out) | exact HB.out)) hb); have n2_ := Aside0.mk (hbox); have n3_ := Aside0.mk ((by rw [hg]; exact (below_size (by repeat (first | (with_reducible first | exact HB.out | apply below_alloc | apply pw_below_drewN | apply below_drew1 | refine below_set ?_ GE155.out) | exact HB.out))) : w.heap.size ≤ gb156)); have n4_ := Aside0.mk ((by rw [hg]; exact (below_size (by repeat (first | (with_reducible first | exact HB.out | apply below_alloc | apply pw_below_drewN | apply below_drew1 | refine below_set ?_ GE155.out) | exact HB.out))) : w.heap.size ≤ gb156)); have n5_ := Aside0.mk ((by rw [hg]; exact Nat.ne_of_lt (blk_lt (g := gb155) (o := .cells #[.slice A0_0 l0_0.length c0_0, .string a0_1, .string a0_2] 27 (0, 0)) (by (with_reducible repeat (first | refine blk_drewN ?_ _ | refine blk_drew ?_ | refine blk_alloc ?_ _)); exact BK155.out)) : gb155 ≠ gb156)); have n6_ := Aside0.mk ((by rw [hg]; exact Nat.ne_of_gt (blk_lt (g := gb155) (o := .cells #[.slice A0_0 l0_0.length c0_0, .string a0_1, .string a0_2] 27 (0, 0)) (by (with_reducible repeat (first | refine blk_drewN ?_ _ | refine blk_drew ?_ | refine blk_alloc ?_ _)); exact BK155.out)) : gb156 ≠ gb155)); clear BK155; clear HB; have BK155 := n0_; have HB := n1_; have BK156 := n2_; have GW156 := n3_; have GE156 := n4_; have NB155_156 := n5_; have NB156_155 := n6_; clear n0_ n1_ n2_ n3_ n4_ n5_ n6_; clear hb hbox hg) | ((with_reducible refine gate_dst (N := 3) rfl ?_); refine Kd.R_lit Kd.string _ 9 ?hg (N := 3) ?hd (xs := ([] : List ByteArray)) (inner := []) (ok := fun _ => True) (okp := fun _ => True) ?hr ?hp (fun _ hk => hk) trivial (Below.refl _ _) (Nat.le_refl _) (by simp) ?_; (case hd => rfl); (case hg => rfl); (case hr => first | (go_simp; done) | (go_simp; rfl)); (case hp => exact (Reps.none _ _)); intro v158 w5 ho6 hb hg_ hnew_; clear hg_ hnew_; (first | rw [← Ny157.out] at ho6 | (simp only [Int.reduceToNat] at ho6; rw [← Ny157.out] at ho6)); have n0_ := Aside0.mk (Kd.R_lower ho6 (below_size (by repeat (first | (with_reducible first | exact HB.out | apply below_alloc | apply pw_below_drewN | apply below_drew1 | refine below_set ?_ GE155.out | refine below_set ?_ GE156.out) | exact HB.out)))); have n1_ := Aside0.mk (blk_below (g := gb155) (o := .cells #[.slice A0_0 l0_0.length c0_0, .string a0_1, .string a0_2] 27 (0, 0)) (by (with_reducible repeat (first | refine blk_drewN ?_ _ | refine blk_drew ?_ | refine blk_alloc ?_ _)); exact BK155.out) hb); have n2_ := Aside0.mk (blk_below (g := gb156) (o := .cells #[.slice none 0 0, .string (⟨#[]⟩ : ByteArray), .string (⟨#[]⟩ : ByteArray)] 27 (0, 0)) (by (with_reducible repeat (first | refine blk_drewN ?_ _ | refine blk_drew ?_ | refine blk_alloc ?_ _)); exact BK156.out) hb); have n3_ := Aside0.mk (below_step (by repeat (first | (with_reducible first | exact HB.out | apply below_alloc | apply pw_below_drewN | apply below_drew1 | refine below_set ?_ GE155.out | refine below_set ?_ GE156.out) | exact HB.out)) hb); clear BK155; clear BK156; clear HB; have HO159 := n0_; have BK155 := n1_; have BK156 := n2_; have HB := n3_; clear n0_ n1_ n2_ n3_; clear hb ho6; have hnb7 := NB155_156.out; have hnc7 := NB156_155.out; have hcz8_0 : w5.cell? ⟨gb155, 0, none⟩ = some (.slice A0_0 l0_0.length c0_0) := (blk_cell BK155.out 0).trans rfl; have hcz8_1 : w5.cell? ⟨gb155, 1, none⟩ = some (.string a0_1) := (blk_cell BK155.out 1).trans rfl; have hcz8_2 : w5.cell? ⟨gb155, 2, none⟩ = some (.string a0_2) := (blk_cell BK155.out 2).trans rfl; have hfz8_0 := blk_frozen BK155.out 0; have hfz8_1 := blk_frozen BK155.out 1; have hfz8_2 := blk_frozen BK155.out 2) | ((with_reducible refine gate_builtin (b := .append) (xs := #[.tmp 3, .tmp 5]) rfl ?_); at_builtin; refine Kd.R_append_rows Kd.string (w0 := w) w.heap.size rfl (.tmp 3) (.tmp 5) 22 9 (.string ⟨#[]⟩) 16 rfl Try.underlying22 info9 rfl (by decide) (by omega) v158 y157 l0_0 _ _ _ (fun _ => True) (fun _ => False) rfl rfl ?aO ?aR (fun _ _ h => h) (fun _ h => h.elim) ?aF ?aB ?aS ?aL ?_; (case aR => repeat (first | exact (Kd.C_below HR0_0.out HB.out) | (with_reducible refine Kd.C_alloc ?_ _) | (with_reducible refine Kd.C_drewN ?_ _) | (with_reducible refine Kd.C_drew ?_))); (case aB => exact (by repeat (first | (with_reducible first | exact HB.out | apply below_alloc | apply pw_below_drewN | apply below_drew1 | refine below_set ?_ GE155.out | refine below_set ?_ GE156.out) | exact HB.out))); (case aF => exact (fun _ _ => trivial)); (case aO => exact (by (with_reducible repeat (first | apply Kd.R_alloc | apply Kd.R_drewN | apply Kd.R_drew)); exact HO159.out)); (case aS => exact (below_size (by repeat (first | (with_reducible first | exact HB.out | apply below_alloc | apply pw_below_drewN | apply below_drew1 | refine below_set ?_ GE155.out | refine below_set ?_ GE156.out) | exact HB.out)))); (case aL => have := LMc2.out; omega); intro v161 w9 ho hb hg hat; rw [← Ny160.out] at ho; have n0_ := Aside0.mk (blk_grown (g := gb155) (o := .cells #[.slice A0_0 l0_0.length c0_0, .string a0_1, .string a0_2] 27 (0, 0)) (by (with_reducible repeat (first | refine blk_drewN ?_ _ | refine blk_drew ?_ | refine blk_alloc ?_ _)); exact BK155.out) hg (Kd.R_ne HO159.out BK155.out (by decide))); have n1_ := Aside0.mk (blk_grown (g := gb156) (o := .cells #[.slice none 0 0, .string (⟨#[]⟩ : ByteArray), .string (⟨#[]⟩ : ByteArray)] 27 (0, 0)) (by (with_reducible repeat (first | refine blk_drewN ?_ _ | refine blk_drew ?_ | refine blk_alloc ?_ _)); exact BK156.out) hg (Kd.R_ne HO159.out BK156.out (by decide))); have n2_ := Aside0.mk (hb); have n3_ := Aside0.mk (ho); clear BK155; clear BK156; clear HB; clear HO159; have BK155 := n0_; have BK156 := n1_; have HB := n2_; have HO162 := n3_; clear n0_ n1_ n2_ n3_; clear ho hb hg hat; obtain ⟨Ao10, co10, eo10⟩ := Kd.R_slice HO162.out; subst eo10; have hcz11_0 : w9.cell? ⟨gb155, 0, none⟩ = some (.slice A0_0 l0_0.length c0_0) := (blk_cell BK155.out 0).trans rfl; have hcz11_1 : w9.cell? ⟨gb155, 1, none⟩ = some (.string a0_1) := (blk_cell BK155.out 1).trans rfl; have hcz11_2 : w9.cell? ⟨gb155, 2, none⟩ = some (.string a0_2) := (blk_cell BK155.out 2).trans rfl; have hfz11_0 := blk_frozen BK155.out 0; have hfz11_1 := blk_frozen BK155.out 1; have hfz11_2 := blk_frozen BK155.out 2; have hcz12_0 : w9.cell? ⟨gb156, 0, none⟩ = some (.slice none 0 0) := (blk_cell BK156.out 0).trans rfl; have hcz12_1 : w9.cell? ⟨gb156, 1, none⟩ = some (.string (⟨#[]⟩ : ByteArray)) := (blk_cell BK156.out 1).trans rfl; have hcz12_2 : w9.cell? ⟨gb156, 2, none⟩ = some (.string (⟨#[]⟩ : ByteArray)) := (blk_cell BK156.out 2).trans rfl; have hfz12_0 := blk_frozen BK156.out 0; have hfz12_1 := blk_frozen BK156.out 1; have hfz12_2 := blk_frozen BK156.out 2))
  refine bodyPost_ret (results_cell_row rfl _ _ gb156 27 #[.slice Ao10 y160.length co10, .string a0_1, .string a0_2] (0, 0) _ rfl (by (with_reducible repeat (first | refine blk_drewN ?_ _ | refine blk_drew ?_ | refine blk_alloc ?_ _)); refine blk_put (cs := #[.slice Ao10 y160.length co10, .string a0_1, .string (⟨#[]⟩ : ByteArray)]) ?_ 2 _ rfl; (with_reducible repeat (first | refine blk_drewN ?_ _ | refine blk_drew ?_ | refine blk_alloc ?_ _)); refine blk_put (cs := #[.slice Ao10 y160.length co10, .string (⟨#[]⟩ : ByteArray), .string (⟨#[]⟩ : ByteArray)]) ?_ 1 _ rfl; (with_reducible repeat (first | refine blk_drewN ?_ _ | refine blk_drew ?_ | refine blk_alloc ?_ _)); refine blk_put (cs := #[.slice none 0 0, .string (⟨#[]⟩ : ByteArray), .string (⟨#[]⟩ : ByteArray)]) ?_ 0 _ rfl; (with_reducible repeat (first | refine blk_drewN ?_ _ | refine blk_drew ?_ | refine blk_alloc ?_ _)); refine blk_far ?_ NB156_155.out _; (with_reducible repeat (first | refine blk_drewN ?_ _ | refine blk_drew ?_ | refine blk_alloc ?_ _)); exact BK156.out) Try.underlying27 rfl (by kernel_rfl)) rfl ?_
  exact ⟨_, by first | rfl | (simp [errW_none, errW_some] <;> rfl) | (simp [*, errW_none, errW_some] <;> rfl), by (with_reducible repeat (first | apply Kd.R_alloc | apply Kd.R_drewN | apply Kd.R_drew)); exact Kd.R_mono (Kd.R_far (p := ⟨gb156, 2, none⟩) (Kd.R_far (p := ⟨gb156, 1, none⟩) (Kd.R_far (p := ⟨gb156, 0, none⟩) (Kd.R_far (p := ⟨gb155, 0, none⟩) (Kd.R_types (Kd.R_types HO162.out BK155.out (by decide)) BK156.out (by decide)) (fun _ hk => hk.1.2) (.slice Ao10 y160.length co10)) (fun _ hk => hk.2) (.slice Ao10 y160.length co10)) (fun _ hk => hk.2) (.string a0_1)) (fun _ hk => hk.2) (.string a0_2)) (fun _ hk => trivial), by repeat (first | (with_reducible first | exact HB.out | apply below_alloc | apply pw_below_drewN | apply below_drew1 | refine below_set ?_ GE155.out | refine below_set ?_ GE156.out) | exact HB.out)⟩
 ·rw [if_neg c2] at H
  exact absurd H (by simp)

end Go.Proofs.Ytfijnlhklfmoeaa.PFnExactRecoverTwo
