/- The walks of FnUpdated: Go's calls come to what the Lean functions beside them say; no condition. -/
import Derived.Test.YtfijnlhklfmoeaaQFnUpdatedx0
import Derived.Test.YtfijnlhklfmoeaaQFnUpdatedx1
namespace Go.Proofs.Ytfijnlhklfmoeaa.PFnUpdated
open Go.RowKit Go.Proofs.YtfijnlhklfmoeaaW.PrintWords Go.Proofs.YtfijnlhklfmoeaaW.PrintLast Go.Proofs.YtfijnlhklfmoeaaW.PrintMore
attribute [local go_sem] max2_int min2_int max_two min_two max_three min_three max_four min_four   -- for this text's walks alone
set_option linter.unusedVariables false
set_option linter.unusedSimpArgs false
set_option maxRecDepth 100000

/-! ### spec_l3Parities: function 45 -/
mutual
def spec_l3Parities.l0 : Nat → List Int → List Int → Int → List ByteArray → Int → Int → Option (ByteArray × ByteArray)
 | 0, _, _, _, _, _, _ => none
 | k + 1, x4, x5, x6, x20, x21, x22 => if x22 < x21 then (if 0 ≤ x22 then (if x22 < (x20.length : Int) then (spec_l3Parities.l1 k x4 x5 x6 (rdOf ByteArray.empty x20 x22) x20 x21 x22 (x4.length : Int) 0) else (none)) else (none)) else (some (strOfNums x4, strOfNums x5))
def spec_l3Parities.l1 : Nat → List Int → List Int → Int → ByteArray → List ByteArray → Int → Int → Int → Int → Option (ByteArray × ByteArray)
 | 0, _, _, _, _, _, _, _, _, _ => none
 | k + 1, x4, x5, x6, x8, x20, x21, x22, x27, x28 => if x28 < x27 then (if 0 ≤ x28 then (if x28 < (x4.length : Int) then (if x28 < (x8.size : Int) then (if x28 < (x5.length : Int) then ((spec_l2Mul.f k x6 (bt x8 x28)).bind fun t120 => (spec_l3Parities.l1 k (x4.set (x28 : Int).toNat (Go.bits .xor .u8 (rd x4 x28) (bt x8 x28))) (x5.set (x28 : Int).toNat (Go.bits .xor .u8 (rd x5 x28) t120)) x6 x8 x20 x21 x22 x27 (wrap64 (x28 + 1)))) else (none)) else (none)) else (none)) else (none)) else ((spec_l2Mul.f k x6 2).bind fun t122 => (spec_l3Parities.l0 k x4 x5 t122 x20 x21 (wrap64 (x22 + 1))))
end
def spec_l3Parities.f (k : Nat) (l0 : List ByteArray) : Option (ByteArray × ByteArray) := if 0 < (l0.length : Int) then (if 0 ≤ ((rdOf ByteArray.empty l0 0).size : Int) then (if (((rdOf ByteArray.empty l0 0).size : Int) : Int).toNat ≤ 281474976710656 then (spec_l3Parities.l0 k (List.replicate (((rdOf ByteArray.empty l0 0).size : Int) : Int).toNat 0) (List.replicate (((rdOf ByteArray.empty l0 0).size : Int) : Int).toNat 0) 1 l0 (l0.length : Int) 0) else (none)) else (none)) else (none)
theorem spec_l3Parities.mono_l : ∀ k, (∀ y0 y1 y2 y3 y4 y5, LeO (spec_l3Parities.l0 k y0 y1 y2 y3 y4 y5) (spec_l3Parities.l0 (k + 1) y0 y1 y2 y3 y4 y5)) ∧ (∀ y0 y1 y2 y3 y4 y5 y6 y7 y8, LeO (spec_l3Parities.l1 k y0 y1 y2 y3 y4 y5 y6 y7 y8) (spec_l3Parities.l1 (k + 1) y0 y1 y2 y3 y4 y5 y6 y7 y8))
 | 0 => ⟨fun _ _ _ _ _ _ r h => by simp [spec_l3Parities.l0] at h, fun _ _ _ _ _ _ _ _ _ r h => by simp [spec_l3Parities.l1] at h⟩
 | k + 1 => by
  obtain ⟨ih0, ih1⟩ := spec_l3Parities.mono_l k
  refine ⟨?_, ?_⟩
  ·intro y0 y1 y2 y3 y4 y5
   unfold spec_l3Parities.l0
   repeat' first
   | (with_reducible exact ih0 _ _ _ _ _ _)
   | (with_reducible exact ih1 _ _ _ _ _ _ _ _ _)
   | (with_reducible exact spec_l2Mul.mono _ _ _)
   | (with_reducible exact LeO.refl _)
   | (with_reducible exact LeO.none _)
   | (with_reducible refine LeO.ite ?_ ?_)
   | (with_reducible refine LeO.bind ?_ (fun _ => ?_))
   | exact ih0 _ _ _ _ _ _
   | exact ih1 _ _ _ _ _ _ _ _ _
   | exact spec_l2Mul.mono _ _ _
   | exact LeO.none _
   | refine LeO.ite ?_ ?_
   | refine LeO.bind ?_ (fun _ => ?_)
  ·intro y0 y1 y2 y3 y4 y5 y6 y7 y8
   unfold spec_l3Parities.l1
   repeat' first
   | (with_reducible exact ih0 _ _ _ _ _ _)
   | (with_reducible exact ih1 _ _ _ _ _ _ _ _ _)
   | (with_reducible exact spec_l2Mul.mono _ _ _)
   | (with_reducible exact LeO.refl _)
   | (with_reducible exact LeO.none _)
   | (with_reducible refine LeO.ite ?_ ?_)
   | (with_reducible refine LeO.bind ?_ (fun _ => ?_))
   | exact ih0 _ _ _ _ _ _
   | exact ih1 _ _ _ _ _ _ _ _ _
   | exact spec_l2Mul.mono _ _ _
   | exact LeO.none _
   | refine LeO.ite ?_ ?_
   | refine LeO.bind ?_ (fun _ => ?_)
theorem spec_l3Parities.mono : ∀ a0 k, LeO (spec_l3Parities.f k a0) (spec_l3Parities.f (k + 1) a0) := by
 intro a0 k
 obtain ⟨ih0, ih1⟩ := spec_l3Parities.mono_l k
 unfold spec_l3Parities.f
 repeat' first
   | (with_reducible exact ih0 _ _ _ _ _ _)
   | (with_reducible exact ih1 _ _ _ _ _ _ _ _ _)
   | (with_reducible exact spec_l2Mul.mono _ _ _)
   | (with_reducible exact LeO.refl _)
   | (with_reducible exact LeO.none _)
   | (with_reducible refine LeO.ite ?_ ?_)
   | (with_reducible refine LeO.bind ?_ (fun _ => ?_))
   | exact ih0 _ _ _ _ _ _
   | exact ih1 _ _ _ _ _ _ _ _ _
   | exact spec_l2Mul.mono _ _ _
   | exact LeO.none _
   | refine LeO.ite ?_ ?_
   | refine LeO.bind ?_ (fun _ => ?_)
def spec_l3Parities.T10 : Bool × List (List Nat × List Nat) := (true, [([], []), ([], []), ([0, 1], [0, 1]), ([2], [2]), ([], []), ([], []), ([4, 5], [4, 5]), ([3, 6], [3, 6]), ([0, 1, 0, 1, 2, 3, 4, 5, 6, 7], [0, 1]), ([8, 7, 0, 1, 2, 3, 4, 5, 6, 7], [7, 8])])
def spec_l3Parities.B10 : List Nat := [0, 0, 3, 7, 0, 0, 48, 127, 255, 511]
theorem spec_l3Parities.tab10 : rtab .any (opsOf Try.f45 10) = spec_l3Parities.T10 := by kernel_rfl
theorem spec_l3Parities.bits10 : waitsOk spec_l3Parities.T10.2 spec_l3Parities.B10 = true := by kernel_rfl
def spec_l3Parities.T11 : Bool × List (List Nat × List Nat) := (true, [([], []), ([], []), ([0, 1], [0, 1]), ([2], [2]), ([], []), ([], []), ([], []), ([5, 6], [5, 6]), ([4, 7], [4, 7]), ([3, 8], [3, 8]), ([0, 1, 0, 1, 2, 3, 4, 5, 6, 7, 8, 9], [0, 1]), ([10, 9, 8, 0, 1, 2, 3, 4, 5, 6, 7, 8, 9], [9, 10])])
def spec_l3Parities.B11 : List Nat := [0, 0, 3, 7, 0, 0, 0, 96, 240, 511, 1023, 2047]
theorem spec_l3Parities.tab11 : rtab .any (opsOf Try.f45 11) = spec_l3Parities.T11 := by kernel_rfl
theorem spec_l3Parities.bits11 : waitsOk spec_l3Parities.T11.2 spec_l3Parities.B11 = true := by kernel_rfl
set_option maxHeartbeats 8000000 in
set_option maxRecDepth 100000 in
theorem spec_l3Parities.calls (k : Nat) (A0 : Option Addr) (c0 : Nat) (l0 : List ByteArray) (r1 : ByteArray) (r2 : ByteArray) (w : World) (hr0 : Kd.C Kd.string w A0 l0.length l0) (hc0 : l0.length ≤ c0) (h : spec_l3Parities.f k l0 = some (r1, r2)) :
  Calls Try.prog 45 #[.slice A0 l0.length c0] w fun e w' => e = .returned (.tuple #[.string r1, .string r2]) ∧ Below w.heap.size w w' := by
 have HR0 := aM hr0
 have HC0 := aM hc0
 clear hr0 hc0
 have HB := aM (Below.refl w.heap.size w)
 have H : (if 0 < (l0.length : Int) then (if 0 ≤ ((rdOf ByteArray.empty l0 0).size : Int) then (if (((rdOf ByteArray.empty l0 0).size : Int) : Int).toNat ≤ 281474976710656 then (spec_l3Parities.l0 k (List.replicate (((rdOf ByteArray.empty l0 0).size : Int) : Int).toNat 0) (List.replicate (((rdOf ByteArray.empty l0 0).size : Int) : Int).toNat 0) 1 l0 (l0.length : Int) 0) else (none)) else (none)) else (none)) = some (r1, r2) := h
 clear h
 by_cases c2 : 0 < (l0.length : Int)
 ·rw [if_pos c2] at H
  have c2b0 : decide (0 < (l0.length : Int)) = true := decide_eq_true c2
  have c2b1 : decide (0 < l0.length) = true := decide_eq_true (by omega)
  clear c2
  by_cases c3 : 0 ≤ ((rdOf ByteArray.empty l0 0).size : Int)
  ·rw [if_pos c3] at H
   have c3b0 := eq_true c3
   have c3b1 : decide (0 ≤ ((rdOf ByteArray.empty l0 0).size : Int)) = true := decide_eq_true c3
   clear c3
   by_cases c4 : (((rdOf ByteArray.empty l0 0).size : Int) : Int).toNat ≤ 281474976710656
   ·rw [if_pos c4] at H
    have c4b0 := eq_true c4
    have c4b1 : decide ((((rdOf ByteArray.empty l0 0).size : Int) : Int).toNat ≤ 281474976710656) = true := decide_eq_true c4
    clear c4
    obtain ⟨y109, hy109⟩ : ∃ y_ : List Int, y_ = (List.replicate (((rdOf ByteArray.empty l0 0).size : Int) : Int).toNat 0) := ⟨_, rfl⟩
    replace H : (spec_l3Parities.l0 k y109 (List.replicate (((rdOf ByteArray.empty l0 0).size : Int) : Int).toNat 0) 1 l0 (l0.length : Int) 0) = some (r1, r2) := by first | (rw [hy109]; with_reducible exact H) | (have H2_ := (Option.bind_some _ _).symm.trans H; rw [hy109]; with_reducible exact H2_) | (have H2_ := (Option.bind_some _ _).symm.trans H; with_reducible exact H2_) | with_reducible exact H | (rw [hy109]; exact H) | exact H
    have Ny109 := aM hy109
    clear hy109
    obtain ⟨y113, hy113⟩ : ∃ y_ : List Int, y_ = (List.replicate (((rdOf ByteArray.empty l0 0).size : Int) : Int).toNat 0) := ⟨_, rfl⟩
    replace H : (spec_l3Parities.l0 k y109 y113 1 l0 (l0.length : Int) 0) = some (r1, r2) := by first | (rw [hy113]; with_reducible exact H) | (have H2_ := (Option.bind_some _ _).symm.trans H; rw [hy113]; with_reducible exact H2_) | (have H2_ := (Option.bind_some _ _).symm.trans H; with_reducible exact H2_) | with_reducible exact H | (rw [hy113]; exact H) | exact H
    have Ny113 := aM hy113
    clear hy113
    have H' := aM H
    clear H
    have p108 : 0 ≤ (0 : Int) := (by omega)
    have q108 : 0 < (l0.length : Int) := of_decide_eq_true (by first | (with_reducible assumption) | assumption)
    obtain ⟨ad108, e108, hx108_0⟩ := Kd.at_string HR0.out 0 p108 q108
    cases e108
    have qi108 : (0 < l0.length) = True := eq_true (by omega)
    (try rw [show ((0 : Int)).toNat = 0 from rfl] at hx108_0)
    (try rw [Addr.add_zero'] at hx108_0)
    replace p108 := eq_true p108
    replace q108 := eq_true q108
    go_enter Try.func45, Try.ntmps45
    go_wp2_with (first | ((with_reducible refine gate_dst (N := 14) rfl ?_); refine Kd.R_make (Kd.int .u8) _ 5 rfl (N := 14) rfl 48 _ _ rfl ((rdOf ByteArray.empty l0 0).size : Int) rfl rfl Try.underlying48 (.int .u8 0) 1 info5 rfl (by decide) (by omega) 0 (ok := fun _ => True) (okp := fun _ => True) rfl (fun _ hk => hk) trivial (of_decide_eq_true (by first | (with_reducible assumption) | assumption)) (Nat.le_trans (Nat.mul_le_mul_right _ (of_decide_eq_true (by first | (with_reducible assumption) | assumption) : ((rdOf ByteArray.empty l0 0).size : Int).toNat ≤ 281474976710656)) (by omega)) (Below.refl _ _) (Nat.le_refl _) ?_; intro v110 w5 ho6 hb hg_ hnew_; clear hg_ hnew_; (first | rw [← Ny109.out] at ho6 | (simp only [Int.reduceToNat] at ho6; rw [← Ny109.out] at ho6)); have HO111 := aM (xL ho6 (zZ (zH HB.out))); replace HB := aM (zT (zH HB.out) hb); clear hb ho6; have p112 : 0 ≤ (0 : Int) := (by omega); have q112 : 0 < (l0.length : Int) := of_decide_eq_true (by first | (with_reducible assumption) | assumption); obtain ⟨ad112, e112, hx112_0⟩ := Kd.at_string HR0.out 0 p112 q112; obtain rfl : ad108 = ad112 := (by injection e112); have qi112 : (0 < l0.length) = True := eq_true (by omega); (try rw [show ((0 : Int)).toNat = 0 from rfl] at hx112_0); (try rw [Addr.add_zero'] at hx112_0); replace hx112_0 := (HB.out.cell (World.block_lt_of_cell? w _ hx112_0)).trans hx112_0; replace p112 := eq_true p112; replace q112 := eq_true q112) | ((with_reducible refine gate_dst (N := 19) rfl ?_); refine Kd.R_make (Kd.int .u8) _ 5 rfl (N := 19) rfl 48 _ _ rfl ((rdOf ByteArray.empty l0 0).size : Int) rfl rfl Try.underlying48 (.int .u8 0) 1 info5 rfl (by decide) (by omega) 0 (ok := fun _ => True) (okp := fun _ => True) rfl (fun _ hk => hk) trivial (of_decide_eq_true (by first | (with_reducible assumption) | assumption)) (Nat.le_trans (Nat.mul_le_mul_right _ (of_decide_eq_true (by first | (with_reducible assumption) | assumption) : ((rdOf ByteArray.empty l0 0).size : Int).toNat ≤ 281474976710656)) (by omega)) (Below.refl _ _) (Nat.le_refl _) ?_; intro v114 w7 ho8 hb hg_ hnew_; clear hg_ hnew_; (first | rw [← Ny113.out] at ho8 | (simp only [Int.reduceToNat] at ho8; rw [← Ny113.out] at ho8)); have HO115 := aM (xL (Kd.R_new' ho8 (Kd.R_lt (xH HO111.out))) (zZ (zH HB.out))); replace HO111 := aM (Kd.R_elder' (xH HO111.out) (Kd.R_base ho8) hb); replace HB := aM (zT (zH HB.out) hb); clear hb ho8))
    go_loopg [6, 22] k (fun kq v6 v22 w' => ∃ (x4_1 : List Int) (x5_1 : List Int) (x6_1 : Int) (x22_1 : Int), v6 = .int .u8 x6_1 ∧ v22 = .int .i64 x22_1 ∧ Aside0 (spec_l3Parities.l0 kq x4_1 x5_1 x6_1 l0 (l0.length : Int) x22_1 = some (r1, r2)) ∧ Aside0 (kq ≤ k) ∧ Aside0 (Kd.R (Kd.int .u8) 5 w' w.heap.size (fun k_ => some k_ ≠ (v114 : Value).ownBlock) v110 x4_1) ∧ Aside0 (Kd.R (Kd.int .u8) 5 w' w.heap.size (fun k_ => some k_ ≠ (v110 : Value).ownBlock) v114 x5_1) ∧ Aside0 (Below w.heap.size w w'))
    case atStart => exact ⟨(y109), (y113), (1), (0), (by first | rfl | (simp; done) | (simp [*]; done)), (by first | rfl | (simp; done) | (simp [*]; done)), H', ⟨Nat.le_refl _⟩, ⟨xH (xM HO111.out (fun _ hk => hk.2))⟩, ⟨xH (xM HO115.out (fun _ hk => hk.2))⟩, ⟨zH HB.out⟩⟩
    case round =>
     clear H'
     (try clear p1); (try clear q1); (try clear hx1); (try clear qi1); (try clear c2); (try clear c2b0); (try clear c2b1); (try clear p2); (try clear c3); (try clear c3b0); (try clear c3b1); (try clear c4); (try clear c4b0); (try clear c4b1); (try clear hx108_0); (try clear hx112_0); (try clear p108); (try clear p112); (try clear q108); (try clear q112)
     obtain ⟨x4_1, x5_1, x6_1, x22_1, rfl, rfl, HA, HK1, p0', p1', HB⟩ := hrel
     cases gk with
     | zero => exact absurd HA.out (fun h_ => by change none = some _ at h_; cases h_)
     | succ k1 =>
      have H := HA.out
      clear HA
      simp only [spec_l3Parities.l0] at H
      by_cases c9 : x22_1 < (l0.length : Int)
      ·rw [if_pos c9] at H
       have c9b0 : decide (x22_1 < (l0.length : Int)) = true := decide_eq_true c9
       clear c9
       by_cases c10 : 0 ≤ x22_1
       ·rw [if_pos c10] at H
        have c10b0 : decide (0 ≤ x22_1) = true := decide_eq_true c10
        clear c10
        by_cases c11 : x22_1 < (l0.length : Int)
        ·rw [if_pos c11] at H
         have c11b0 : decide (x22_1 < (l0.length : Int)) = true := decide_eq_true c11
         clear c11
         have H' := aM H
         clear H
         have p116 : 0 ≤ (x22_1 : Int) := of_decide_eq_true (by first | (with_reducible assumption) | assumption)
         have q116 : x22_1 < (l0.length : Int) := of_decide_eq_true (by first | (with_reducible assumption) | assumption)
         obtain ⟨ad116, e116, hx116_0⟩ := Kd.at_string HR0.out x22_1 p116 q116
         obtain rfl : ad108 = ad116 := (by injection e116)
         replace hx116_0 := (HB.out.cell (World.block_lt_of_cell? w _ hx116_0)).trans hx116_0
         replace p116 := eq_true p116
         replace q116 := eq_true q116
         obtain ⟨Ao12, co12, eo12⟩ := Kd.R_slice p0'.out
         subst eo12
         go_wp2
         go_loopg [28] k1 (fun kq v28 w' => ∃ (x4_2 : List Int) (x5_2 : List Int) (x28_2 : Int), v28 = .int .i64 x28_2 ∧ Aside0 (spec_l3Parities.l1 kq x4_2 x5_2 x6_1 (rdOf ByteArray.empty l0 x22_1) l0 (l0.length : Int) x22_1 (x4_1.length : Int) x28_2 = some (r1, r2)) ∧ Aside0 (kq ≤ k1) ∧ Aside0 (Kd.R (Kd.int .u8) 5 w' w.heap.size (fun k_ => some k_ ≠ (v114 : Value).ownBlock) (.slice Ao12 x4_1.length co12) x4_2) ∧ Aside0 (Kd.R (Kd.int .u8) 5 w' w.heap.size (fun k_ => some k_ ≠ ((.slice Ao12 x4_1.length co12) : Value).ownBlock) v114 x5_2) ∧ Aside0 (Below w.heap.size w w'))
         case atStart => exact ⟨(x4_1), (x5_1), (0), (by first | rfl | (simp; done) | (simp [*]; done)), H', ⟨Nat.le_refl _⟩, ⟨xH p0'.out⟩, ⟨xH p1'.out⟩, ⟨zH HB.out⟩⟩
         case round =>
          clear H'
          (try clear c1); (try clear p1); (try clear q1); (try clear hx1); (try clear qi1); (try clear c2); (try clear c2b0); (try clear c2b1); (try clear p2); (try clear c3); (try clear c3b0); (try clear c3b1); (try clear c4); (try clear c4b0); (try clear c4b1); (try clear c9); (try clear c9b0); (try clear c10); (try clear c10b0); (try clear p10); (try clear q10); (try clear hx10); (try clear qi10); (try clear c11); (try clear c11b0); (try clear p11); (try clear q11); (try clear hx11); (try clear qi11); (try clear hx108_0); (try clear hx112_0); (try clear hx116_0); (try clear p1); (try clear p108); (try clear p112); (try clear p116); (try clear p2); (try clear q1); (try clear q108); (try clear q112); (try clear q116)
          obtain ⟨x4_2, x5_2, x28_2, rfl, HA, HK2, p0', p1', HB⟩ := hrel
          have hl4_2 := (Kd.R_reads' p0'.out).1
          rw [hl4_2] at p0'
          (try simp only [hl4_2])
          (try simp only [hl4_2] at p1')
          cases gk with
          | zero => exact absurd HA.out (fun h_ => by change none = some _ at h_; cases h_)
          | succ k2 =>
           have H := HA.out
           clear HA
           simp only [spec_l3Parities.l1] at H
           by_cases c13 : x28_2 < (x4_1.length : Int)
           ·rw [if_pos c13] at H
            have c13b0 : decide (x28_2 < (x4_1.length : Int)) = true := decide_eq_true c13
            have c13b9 : decide (x28_2 < (x4_2.length : Int)) = true := by rw [← hl4_2]; exact c13b0
            clear c13
            by_cases c14 : 0 ≤ x28_2
            ·rw [if_pos c14] at H
             have c14b0 : decide (0 ≤ x28_2) = true := decide_eq_true c14
             clear c14
             by_cases c15 : x28_2 < (x4_2.length : Int)
             ·rw [if_pos c15] at H
              have c15b0 : decide (x28_2 < (x4_2.length : Int)) = true := decide_eq_true c15
              clear c15
              by_cases c16 : x28_2 < ((rdOf ByteArray.empty l0 x22_1).size : Int)
              ·rw [if_pos c16] at H
               have c16b0 : decide (x28_2 < ((rdOf ByteArray.empty l0 x22_1).size : Int)) = true := decide_eq_true c16
               clear c16
               obtain ⟨y118, hy118⟩ : ∃ y_ : List Int, y_ = (x4_2.set (x28_2 : Int).toNat (Go.bits .xor .u8 (rd x4_2 x28_2) (bt (rdOf ByteArray.empty l0 x22_1) x28_2))) := ⟨_, rfl⟩
               replace H : (if x28_2 < (x5_2.length : Int) then ((spec_l2Mul.f k2 x6_1 (bt (rdOf ByteArray.empty l0 x22_1) x28_2)).bind fun t120 => (spec_l3Parities.l1 k2 y118 (x5_2.set (x28_2 : Int).toNat (Go.bits .xor .u8 (rd x5_2 x28_2) t120)) x6_1 (rdOf ByteArray.empty l0 x22_1) l0 (l0.length : Int) x22_1 (x4_1.length : Int) (wrap64 (x28_2 + 1)))) else (none)) = some (r1, r2) := by first | (rw [hy118]; with_reducible exact H) | (have H2_ := (Option.bind_some _ _).symm.trans H; rw [hy118]; with_reducible exact H2_) | (have H2_ := (Option.bind_some _ _).symm.trans H; with_reducible exact H2_) | with_reducible exact H | (rw [hy118]; exact H) | exact H
               have Ny118 := aM hy118
               clear hy118
               by_cases c19 : x28_2 < (x5_2.length : Int)
               ·rw [if_pos c19] at H
                have c19b0 : decide (x28_2 < (x5_2.length : Int)) = true := decide_eq_true c19
                clear c19
                replace H := Option.bind_eq_some_iff.mp H
                obtain ⟨t120, A210, H⟩ := H
                replace H : (spec_l3Parities.l1 k2 y118 (x5_2.set (x28_2 : Int).toNat (Go.bits .xor .u8 (rd x5_2 x28_2) t120)) x6_1 (rdOf ByteArray.empty l0 x22_1) l0 (l0.length : Int) x22_1 (x4_1.length : Int) (wrap64 (x28_2 + 1))) = some (r1, r2) := H
                have A21 := aM A210
                clear A210
                obtain ⟨y121, hy121⟩ : ∃ y_ : List Int, y_ = (x5_2.set (x28_2 : Int).toNat (Go.bits .xor .u8 (rd x5_2 x28_2) t120)) := ⟨_, rfl⟩
                replace H : (spec_l3Parities.l1 k2 y118 y121 x6_1 (rdOf ByteArray.empty l0 x22_1) l0 (l0.length : Int) x22_1 (x4_1.length : Int) (wrap64 (x28_2 + 1))) = some (r1, r2) := by first | (rw [hy121]; with_reducible exact H) | (have H2_ := (Option.bind_some _ _).symm.trans H; rw [hy121]; with_reducible exact H2_) | (have H2_ := (Option.bind_some _ _).symm.trans H; with_reducible exact H2_) | with_reducible exact H | (rw [hy121]; exact H) | exact H
                have Ny121 := aM hy121
                clear hy121
                have H' := aM H
                clear H
                try go_wp2
                replace p0' := aM (xD p0'.out)
                replace p1' := aM (xD p1'.out)
                replace HB := aM (zD HB.out)
                have p117 : 0 ≤ (x28_2 : Int) := of_decide_eq_true (by first | (with_reducible assumption) | assumption)
                have q117 : x28_2 < (x4_2.length : Int) := of_decide_eq_true (by first | (with_reducible assumption) | assumption)
                obtain ⟨ad117, e117, hx117_0⟩ := Kd.at_int (Kd.R_reads' p0'.out).2.2 x28_2 p117 q117
                cases e117
                replace p117 := eq_true p117
                replace q117 := eq_true q117
                have p17 : 0 ≤ (x28_2 : Int) := of_decide_eq_true (by first | (with_reducible assumption) | assumption)
                have q17 : x28_2 < ((rdOf ByteArray.empty l0 x22_1).size : Int) := of_decide_eq_true (by first | (with_reducible assumption) | assumption)
                have hx17 := bt_at (rdOf ByteArray.empty l0 x22_1) x28_2
                replace p17 := eq_true p17
                replace q17 := eq_true q17
                have p18 : 0 ≤ (x28_2 : Int) := of_decide_eq_true (by first | (with_reducible assumption) | assumption)
                have q18 : (x28_2 : Int) < ((x4_2.length : Int) : Int) := of_decide_eq_true (by first | (with_reducible assumption) | assumption)
                obtain ⟨go18, co18, eo18, gb18, gl18, cl18, HG18⟩ := Kd.R_form p0'.out (by omega)
                (first | cases eo18 | (injection eo18 with ea_ en_ ec_; (first | subst ea_ | (injection ea_ with ea_; subst ea_)); subst ec_; clear en_))
                have GB18 := aM gb18
                have GG18 := aM HG18
                clear gb18 gl18 HG18
                (first | simp only [add_plain] at hx117_0 | skip)
                obtain ⟨hx18_0, hf18_0⟩ := Kd.R_celln 0 p0'.out (x28_2 : Int) p18 q18
                replace p18 := eq_true p18
                replace q18 := eq_true q18
                have HP24 := Kd.R_putn p0'.out (x28_2 : Int) (Go.bits .xor .u8 (rd x4_2 x28_2) (bt (rdOf ByteArray.empty l0 x22_1) x28_2))
                rw [← Ny118.out] at HP24
                have HQ24 := aM HP24
                clear HP24
                refine start_ (n := 10) (S := fun w' => w'.cell? ⟨go18, (x28_2).toNat, none⟩ = some (.int .u8 (rd x4_2 x28_2))) (ds := [9]) #[fF,fF,fF,fF,fF,fF,fF,fF,fF,fF] (by kernel_rfl) rfl rfl (hx117_0) (fun hHeld => ?_); refine with_tabW spec_l3Parities.tab10 spec_l3Parities.bits10 (fun HT_ HW_ => ?_)
                generalize wr.drew = w23 at p0' p1' HB GG18 HQ24 hf18_0 hx117_0 hx18_0 hHeld ⊢
                refine pure_ (i := 0) (N := some 31) (v := ?_) (a' := ?_) #[tT,fF,fF,fF,fF,fF,fF,fF,fF,fF] rfl rfl (any_of HT_.out (by kernel_rfl)) (fun _ _ _ h => h) (Or.inl ⟨by rfl, ?_⟩) ?_ ?_
                rotate_left
                ·intro w'
                 go_simp
                 with_reducible rfl
                rotate_left
                ·simp only [Act.put, qA, qB, qC, i64_w, i32_w]
                 rfl
                refine pure_ (i := 1) (N := some 32) (v := ?_) (a' := ?_) #[tT,tT,fF,fF,fF,fF,fF,fF,fF,fF] rfl rfl (any_of HT_.out (by kernel_rfl)) (fun _ _ _ h => h) (Or.inl ⟨by rfl, ?_⟩) ?_ ?_
                rotate_left
                ·intro w'
                 go_simp
                 with_reducible rfl
                rotate_left
                ·simp only [Act.put, qA, qB, qC, i64_w, i32_w]
                 rfl
                refine pure_ (i := 2) (N := some 33) (v := ?_) (a' := ?_) #[tT,tT,tT,fF,fF,fF,fF,fF,fF,fF] rfl rfl (any_of HT_.out (by kernel_rfl)) (fun _ _ _ h => h) (Or.inl ⟨by rfl, ?_⟩) ?_ ?_
                rotate_left
                ·intro w'
                 go_simp
                 with_reducible rfl
                rotate_left
                ·simp only [Act.put, qA, qB, qC, i64_w, i32_w]
                 rfl
                refine pure_ (i := 4) (N := some 35) (v := ?_) (a' := ?_) #[tT,tT,tT,fF,tT,fF,fF,fF,fF,fF] rfl rfl (any_of HT_.out (by kernel_rfl)) (fun _ _ _ h => h) (Or.inl ⟨by rfl, ?_⟩) ?_ ?_
                rotate_left
                ·intro w'
                 go_simp
                 with_reducible rfl
                rotate_left
                ·simp only [Act.put, qA, qB, qC, i64_w, i32_w]
                 rfl
                refine pure_ (i := 5) (N := some 36) (v := ?_) (a' := ?_) #[tT,tT,tT,fF,tT,tT,fF,fF,fF,fF] rfl rfl (any_of HT_.out (by kernel_rfl)) (fun _ _ _ h => h) (Or.inl ⟨by rfl, ?_⟩) ?_ ?_
                rotate_left
                ·intro w'
                 go_simp
                 with_reducible rfl
                rotate_left
                ·simp only [Act.put, qA, qB, qC, i64_w, i32_w]
                 rfl
                refine take_ (i := 3) (N := some 34) (v := ?_) (a' := ?_) #[tT,tT,tT,tT,tT,tT,fF,fF,fF,fF] rfl rfl (take_ofW HT_.out HW_.out (by kernel_rfl)) (fun _ _ _ h => h) (Or.inl ⟨by rfl, ?_⟩) hHeld ?_ ?_
                rotate_left
                ·intro w' s0
                 go_simp
                 with_reducible rfl
                rotate_left
                ·simp only [Act.put, qA, qB, qC, i64_w, i32_w]
                 rfl
                refine take_ (i := 6) (N := some 37) (v := ?_) (a' := ?_) #[tT,tT,tT,tT,tT,tT,tT,fF,fF,fF] rfl rfl (take_ofW HT_.out HW_.out (by kernel_rfl)) (fun _ _ _ h => h) (Or.inl ⟨by rfl, ?_⟩) hHeld ?_ ?_
                rotate_left
                ·intro w' s0
                 go_simp
                 with_reducible rfl
                rotate_left
                ·simp only [Act.put, qA, qB, qC, i64_w, i32_w]
                 rfl
                refine pure_ (i := 7) (N := some 38) (v := ?_) (a' := ?_) #[tT,tT,tT,tT,tT,tT,tT,tT,fF,fF] rfl rfl (any_of HT_.out (by kernel_rfl)) (fun _ _ _ h => h) (Or.inl ⟨by rfl, ?_⟩) ?_ ?_
                rotate_left
                ·intro w'
                 go_simp
                 with_reducible rfl
                rotate_left
                ·simp only [Act.put, qA, qB, qC, i64_w, i32_w]
                 rfl
                refine pure_ (i := 8) (N := some 39) (v := ?_) (a' := ?_) #[tT,tT,tT,tT,tT,tT,tT,tT,tT,fF] rfl rfl (any_of HT_.out (by kernel_rfl)) (fun _ _ _ h => h) (Or.inl ⟨by rfl, ?_⟩) ?_ ?_
                rotate_left
                ·intro w'
                 go_simp
                 with_reducible rfl
                rotate_left
                ·simp only [Act.put, qA, qB, qC, i64_w, i32_w]
                 rfl
                refine last_ (i := 9) (N := none) #[tT,tT,tT,tT,tT,tT,tT,tT,tT,tT] rfl rfl (one_of HT_.out (by kernel_rfl)) (by decide) (fun K hK => ?_)
                refine skip_ (w1 := ?_) (by rfl) rfl ?_ ?_
                rotate_left
                ·go_simp
                 rfl
                refine hK.out _ _ ?_
                clear hK K
                refine done_ (done_of HT_.out (by kernel_rfl)) ?_
                try go_wp2
                have n0_ : Aside0 (Kd.R (Kd.int .u8) 5 (w23.setCell ⟨go18, (x28_2 : Int).toNat, none⟩ (.int .u8 (Go.bits .xor .u8 (rd x4_2 x28_2) (bt (rdOf ByteArray.empty l0 x22_1) x28_2)))) w.heap.size (fun k_ => some k_ ≠ (v114 : Value).ownBlock) (.slice (some ⟨go18, 0, none⟩) x4_2.length co12) y118) := ⟨xH HQ24.out⟩
                have n1_ : Aside0 (Kd.R (Kd.int .u8) 5 (w23.setCell ⟨go18, (x28_2 : Int).toNat, none⟩ (.int .u8 (Go.bits .xor .u8 (rd x4_2 x28_2) (bt (rdOf ByteArray.empty l0 x22_1) x28_2)))) w.heap.size (fun k_ => some k_ ≠ (.slice (some ⟨go18, 0, none⟩) x4_2.length co12 : Value).ownBlock) v114 x5_2) := ⟨xH (xM (xF (p := ⟨go18, (x28_2 : Int).toNat, none⟩) (xM p1'.out (fun k_ hk => (⟨hk, fun e_ => hk (by rw [e_]; rfl)⟩ : _ ∧ k_ ≠ go18))) (fun _ hk => hk.2) (.int .u8 (Go.bits .xor .u8 (rd x4_2 x28_2) (bt (rdOf ByteArray.empty l0 x22_1) x28_2)))) (fun _ hk => hk.1))⟩
                have n2_ : Aside0 (Below w.heap.size w (w23.setCell ⟨go18, (x28_2 : Int).toNat, none⟩ (.int .u8 (Go.bits .xor .u8 (rd x4_2 x28_2) (bt (rdOf ByteArray.empty l0 x22_1) x28_2))))) := ⟨by repeat (first | (with_reducible first | exact HB.out | apply zA | apply zN | apply zD | refine zS ?_ GB18.out) | exact HB.out)⟩
                (try clear p0')
                (try clear p1'); (try clear HB)
                generalize (w23.setCell ⟨go18, (x28_2 : Int).toNat, none⟩ (.int .u8 (Go.bits .xor .u8 (rd x4_2 x28_2) (bt (rdOf ByteArray.empty l0 x22_1) x28_2)))) = w25 at n0_ n1_ n2_ ⊢
                have p0' := n0_
                have p1' := n1_
                have HB := n2_
                clear n0_ n1_ n2_
                replace p0' := aM (xD p0'.out)
                replace p1' := aM (xD p1'.out)
                replace HB := aM (zD HB.out)
                obtain ⟨Ao27, co27, eo27⟩ := Kd.R_slice p1'.out
                (first | subst eo27 | obtain ⟨rfl, rfl⟩ := eI eo27)
                have p119 : 0 ≤ (x28_2 : Int) := of_decide_eq_true (by first | (with_reducible assumption) | assumption)
                have q119 : x28_2 < (x5_2.length : Int) := of_decide_eq_true (by first | (with_reducible assumption) | assumption)
                obtain ⟨ad119, e119, hx119_0⟩ := Kd.at_int (Kd.R_reads' p1'.out).2.2 x28_2 p119 q119
                cases e119
                replace p119 := eq_true p119
                replace q119 := eq_true q119
                have p20 : 0 ≤ (x28_2 : Int) := of_decide_eq_true (by first | (with_reducible assumption) | assumption)
                have q20 : x28_2 < ((rdOf ByteArray.empty l0 x22_1).size : Int) := of_decide_eq_true (by first | (with_reducible assumption) | assumption)
                have hx20 := bt_at (rdOf ByteArray.empty l0 x22_1) x28_2
                replace p20 := eq_true p20
                replace q20 := eq_true q20
                refine start_ (n := 12) (S := fun w' => w'.cell? (ad119.add (x28_2).toNat) = some (.int .u8 (rd x5_2 x28_2))) (ds := [11]) #[fF,fF,fF,fF,fF,fF,fF,fF,fF,fF,fF,fF] (by kernel_rfl) rfl rfl (hx119_0) (fun hHeld => ?_); refine with_tabW spec_l3Parities.tab11 spec_l3Parities.bits11 (fun HT_ HW_ => ?_)
                generalize w25.drew = w26 at p0' p1' HB HQ24 hx119_0 hHeld ⊢
                refine pure_ (i := 0) (N := some 40) (v := ?_) (a' := ?_) #[tT,fF,fF,fF,fF,fF,fF,fF,fF,fF,fF,fF] rfl rfl (any_of HT_.out (by kernel_rfl)) (fun _ _ _ h => h) (Or.inl ⟨by rfl, ?_⟩) ?_ ?_
                rotate_left
                ·intro w'
                 go_simp
                 with_reducible rfl
                rotate_left
                ·simp only [Act.put, qA, qB, qC, i64_w, i32_w]
                 rfl
                refine pure_ (i := 1) (N := some 41) (v := ?_) (a' := ?_) #[tT,tT,fF,fF,fF,fF,fF,fF,fF,fF,fF,fF] rfl rfl (any_of HT_.out (by kernel_rfl)) (fun _ _ _ h => h) (Or.inl ⟨by rfl, ?_⟩) ?_ ?_
                rotate_left
                ·intro w'
                 go_simp
                 with_reducible rfl
                rotate_left
                ·simp only [Act.put, qA, qB, qC, i64_w, i32_w]
                 rfl
                refine pure_ (i := 2) (N := some 42) (v := ?_) (a' := ?_) #[tT,tT,tT,fF,fF,fF,fF,fF,fF,fF,fF,fF] rfl rfl (any_of HT_.out (by kernel_rfl)) (fun _ _ _ h => h) (Or.inl ⟨by rfl, ?_⟩) ?_ ?_
                rotate_left
                ·intro w'
                 go_simp
                 with_reducible rfl
                rotate_left
                ·simp only [Act.put, qA, qB, qC, i64_w, i32_w]
                 rfl
                refine pure_ (i := 4) (N := some 44) (v := ?_) (a' := ?_) #[tT,tT,tT,fF,tT,fF,fF,fF,fF,fF,fF,fF] rfl rfl (any_of HT_.out (by kernel_rfl)) (fun _ _ _ h => h) (Or.inl ⟨by rfl, ?_⟩) ?_ ?_
                rotate_left
                ·intro w'
                 go_simp
                 with_reducible rfl
                rotate_left
                ·simp only [Act.put, qA, qB, qC, i64_w, i32_w]
                 rfl
                refine pure_ (i := 5) (N := some 45) (v := ?_) (a' := ?_) #[tT,tT,tT,fF,tT,tT,fF,fF,fF,fF,fF,fF] rfl rfl (any_of HT_.out (by kernel_rfl)) (fun _ _ _ h => h) (Or.inl ⟨by rfl, ?_⟩) ?_ ?_
                rotate_left
                ·intro w'
                 go_simp
                 with_reducible rfl
                rotate_left
                ·simp only [Act.put, qA, qB, qC, i64_w, i32_w]
                 rfl
                refine pure_ (i := 6) (N := some 46) (v := ?_) (a' := ?_) #[tT,tT,tT,fF,tT,tT,tT,fF,fF,fF,fF,fF] rfl rfl (any_of HT_.out (by kernel_rfl)) (fun _ _ _ h => h) (Or.inl ⟨by rfl, ?_⟩) ?_ ?_
                rotate_left
                ·intro w'
                 go_simp
                 with_reducible rfl
                rotate_left
                ·simp only [Act.put, qA, qB, qC, i64_w, i32_w]
                 rfl
                refine take_ (i := 3) (N := some 43) (v := ?_) (a' := ?_) #[tT,tT,tT,tT,tT,tT,tT,fF,fF,fF,fF,fF] rfl rfl (take_ofW HT_.out HW_.out (by kernel_rfl)) (fun _ _ _ h => h) (Or.inl ⟨by rfl, ?_⟩) hHeld ?_ ?_
                rotate_left
                ·intro w' s0
                 go_simp
                 with_reducible rfl
                rotate_left
                ·simp only [Act.put, qA, qB, qC, i64_w, i32_w]
                 rfl
                refine take_ (i := 7) (N := some 47) (v := ?_) (a' := ?_) #[tT,tT,tT,tT,tT,tT,tT,tT,fF,fF,fF,fF] rfl rfl (take_ofW HT_.out HW_.out (by kernel_rfl)) (fun _ _ _ h => h) (Or.inl ⟨by rfl, ?_⟩) hHeld ?_ ?_
                rotate_left
                ·intro w' s0
                 go_simp
                 with_reducible rfl
                rotate_left
                ·simp only [Act.put, qA, qB, qC, i64_w, i32_w]
                 rfl
                refine one_ (i := 8) (N := some 48) #[tT,tT,tT,tT,tT,tT,tT,tT,tT,fF,fF,fF] rfl rfl (one_of HT_.out (by kernel_rfl)) (by decide) (fun K hK => ?_)
                refine gS Try.func73 (by kernel_rfl) rfl #[.int .u8 x6_1, .int .u8 (bt (rdOf ByteArray.empty l0 x22_1) x28_2)] (by rfl) rfl rfl ?_
                with_reducible refine (spec_l2Mul.calls k2 x6_1 (bt (rdOf ByteArray.empty l0 x22_1) x28_2) t120 _ A21.out).mono ?_
                rintro e w' ⟨rfl, ⟨nd, rfl⟩⟩
                refine ⟨_, rfl, ?_⟩
                have p22 : 0 ≤ (x28_2 : Int) := of_decide_eq_true (by first | (with_reducible assumption) | assumption)
                have q22 : (x28_2 : Int) < ((x5_2.length : Int) : Int) := of_decide_eq_true (by first | (with_reducible assumption) | assumption)
                obtain ⟨go22, co22, eo22, gb22, gl22, cl22, HG22⟩ := Kd.R_form p1'.out (by omega)
                (first | cases eo22 | (injection eo22 with ea_ en_ ec_; (first | subst ea_ | (injection ea_ with ea_; subst ea_)); subst ec_; clear en_))
                have GB22 := aM gb22
                have GG22 := aM HG22
                clear gb22 gl22 HG22
                (first | simp only [add_plain] at hx119_0 | skip)
                obtain ⟨hx22_0, hf22_0⟩ := Kd.R_celln 0 p1'.out (x28_2 : Int) p22 q22
                replace p22 := eq_true p22
                replace q22 := eq_true q22
                have HP28 := Kd.R_putn p1'.out (x28_2 : Int) (Go.bits .xor .u8 (rd x5_2 x28_2) t120)
                rw [← Ny121.out] at HP28
                have HQ28 := aM HP28
                clear HP28
                refine hK.out _ _ (hHeld) (fun hHeld => ?_)
                clear hK K
                refine norm_ (a' := ?_) ?_ ?_
                rotate_left
                ·show Act.put _ (some 48) _ = _
                 simp only [Act.put, qA, qB, qC, i64_w, i32_w]
                 rfl
                refine pure_ (i := 9) (N := some 49) (v := ?_) (a' := ?_) #[tT,tT,tT,tT,tT,tT,tT,tT,tT,tT,fF,fF] rfl rfl (any_of HT_.out (by kernel_rfl)) (fun _ _ _ h => h) (Or.inl ⟨by rfl, ?_⟩) ?_ ?_
                rotate_left
                ·intro w'
                 go_simp
                 with_reducible rfl
                rotate_left
                ·simp only [Act.put, qA, qB, qC, i64_w, i32_w]
                 rfl
                refine pure_ (i := 10) (N := some 50) (v := ?_) (a' := ?_) #[tT,tT,tT,tT,tT,tT,tT,tT,tT,tT,tT,fF] rfl rfl (any_of HT_.out (by kernel_rfl)) (fun _ _ _ h => h) (Or.inl ⟨by rfl, ?_⟩) ?_ ?_
                rotate_left
                ·intro w'
                 go_simp
                 with_reducible rfl
                rotate_left
                ·simp only [Act.put, qA, qB, qC, i64_w, i32_w]
                 rfl
                refine last_ (i := 11) (N := none) #[tT,tT,tT,tT,tT,tT,tT,tT,tT,tT,tT,tT] rfl rfl (one_of HT_.out (by kernel_rfl)) (by decide) (fun K hK => ?_)
                refine skip_ (w1 := ?_) (by rfl) rfl ?_ ?_
                rotate_left
                ·go_simp
                 rfl
                refine hK.out _ _ ?_
                clear hK K
                refine done_ (done_of HT_.out (by kernel_rfl)) ?_
                try go_wp2
                (try simp only [← hl4_2])
                go_roundg k2
                case measure => have := HK1.out; have := HK2.out; omega
                case rel => exact ⟨(y118), (y121), (wrap64 (x28_2 + 1)), (by first | rfl | (simp; done) | (simp [*]; done)), H', ⟨by have := HK1.out; have := HK2.out; omega⟩, ⟨by (try simp only [hl4_2]); (with_reducible repeat (first | apply xA | apply xN | apply xD)); exact xM (xF (p := ⟨go22, (x28_2 : Int).toNat, none⟩) (xM p0'.out (fun k_ hk => (⟨hk, fun e_ => hk (by rw [e_]; rfl)⟩ : _ ∧ k_ ≠ go22))) (fun _ hk => hk.2) (.int .u8 (Go.bits .xor .u8 (rd x5_2 x28_2) t120))) (fun _ hk => hk.1)⟩, ⟨by (try simp only [hl4_2]); (with_reducible repeat (first | apply xA | apply xN | apply xD)); exact HQ28.out⟩, ⟨by repeat (first | (with_reducible first | exact HB.out | apply zA | apply zN | apply zD | refine zS ?_ GB22.out) | exact HB.out)⟩⟩
               ·rw [if_neg c19] at H
                exact absurd H (by simp)
              ·rw [if_neg c16] at H
               exact absurd H (by simp)
             ·rw [if_neg c15] at H
              exact absurd H (by simp)
            ·rw [if_neg c14] at H
             exact absurd H (by simp)
           ·rw [if_neg c13] at H
            have c13b0 : decide (x28_2 < (x4_1.length : Int)) = false := decide_eq_false c13
            have c13b9 : decide (x28_2 < (x4_2.length : Int)) = false := by rw [← hl4_2]; exact c13b0
            (try have c13b8 : decide (x28_2 < (x4_2.length : Int)) = false := by rw [← hl4_2]; exact c13b0)
            clear c13
            replace H := Option.bind_eq_some_iff.mp H
            obtain ⟨t122, A290, H⟩ := H
            replace H : (spec_l3Parities.l0 k2 x4_2 x5_2 t122 l0 (l0.length : Int) (wrap64 (x22_1 + 1))) = some (r1, r2) := H
            have A29 := aM A290
            clear A290
            have H' := aM H
            clear H
            go_wp2_with (first | ((with_reducible refine gate_callee (f := 73) rfl ?_); refine goesL_ (some 53) rfl rfl Try.func73 (by kernel_rfl) rfl #[.int .u8 x6_1, .int .u8 2] rfl (by (try simp only [List.map_toArray, List.map_cons, List.map_nil]); first | done | rfl | (simp only [List.length_drop, List.length_take]; rfl)) ?_; (with_reducible refine (spec_l2Mul.calls k2 x6_1 2 t122 _ A29.out).mono ?_); rintro e w' ⟨rfl, ⟨nd, rfl⟩⟩; refine ⟨_, rfl, ?_⟩))
            (try simp only [← hl4_2])
            go_roundg k2
            case measure => have := HK1.out; have := HK2.out; omega
            case rel => exact ⟨(x4_2), (x5_2), (t122), (wrap64 (x22_1 + 1)), (by first | rfl | (simp; done) | (simp [*]; done)), (by first | rfl | (simp; done) | (simp [*]; done)), H', ⟨by have := HK1.out; have := HK2.out; omega⟩, ⟨by (try simp only [hl4_2]); (with_reducible repeat (first | apply xA | apply xN | apply xD)); exact p0'.out⟩, ⟨by (try simp only [hl4_2]); (with_reducible repeat (first | apply xA | apply xN | apply xD)); exact p1'.out⟩, ⟨zH HB.out⟩⟩
        ·rw [if_neg c11] at H
         exact absurd H (by simp)
       ·rw [if_neg c10] at H
        exact absurd H (by simp)
      ·rw [if_neg c9] at H
       have c9b0 : decide (x22_1 < (l0.length : Int)) = false := decide_eq_false c9
       clear c9
       simp only [Option.some.injEq, Prod.mk.injEq] at H
       obtain ⟨rfl, rfl⟩ := H
       try go_wp2
       replace p0' := aM (xD p0'.out)
       replace p1' := aM (xD p1'.out)
       replace HB := aM (zD HB.out)
       have hcv31 := own_string (P := Try.prog) Try.underlying48 Try.underlying5 Try.underlying9 (Kd.own_of_R p0'.out)
       have hcv32 := own_string (P := Try.prog) Try.underlying48 Try.underlying5 Try.underlying9 (Kd.own_of_R p1'.out)
       refine start_ (n := 6) (S := fun w' => w' = wr.drew) (ds := []) #[fF,fF,fF,fF,fF,fF] (by kernel_rfl) rfl rfl rfl (fun hHeld => ?_)
       generalize wr.drew = w30 at hcv31 hcv32 p0' p1' HB hHeld ⊢
       first
       | (refine pure_ (i := 0) (N := some 55) (v := ?_) (a' := ?_) #[tT,fF,fF,fF,fF,fF] rfl rfl (by kernel_rfl) (fun _ _ _ h => h) (Or.inl ⟨by rfl, ?_⟩) ?_ ?_; rotate_left; (· intro w'; go_simp; with_reducible rfl))
       | (refine take_ (i := 0) (N := some 55) (v := ?_) (a' := ?_) #[tT,fF,fF,fF,fF,fF] rfl rfl (by kernel_rfl) (fun _ _ _ h => h) (Or.inl ⟨by rfl, ?_⟩) hHeld ?_ ?_; rotate_left; (· intro w' hw_; subst hw_; go_simp; with_reducible rfl))
       rotate_left
       ·simp only [Act.put, qA, qB, qC, i64_w, i32_w]
        rfl
       first
       | (refine pure_ (i := 1) (N := some 56) (v := ?_) (a' := ?_) #[tT,tT,fF,fF,fF,fF] rfl rfl (by kernel_rfl) (fun _ _ _ h => h) (Or.inl ⟨by rfl, ?_⟩) ?_ ?_; rotate_left; (· intro w'; go_simp; with_reducible rfl))
       | (refine take_ (i := 1) (N := some 56) (v := ?_) (a' := ?_) #[tT,tT,fF,fF,fF,fF] rfl rfl (by kernel_rfl) (fun _ _ _ h => h) (Or.inl ⟨by rfl, ?_⟩) hHeld ?_ ?_; rotate_left; (· intro w' hw_; subst hw_; go_simp; with_reducible rfl))
       rotate_left
       ·simp only [Act.put, qA, qB, qC, i64_w, i32_w]
        rfl
       first
       | (refine pure_ (i := 2) (N := some 57) (v := ?_) (a' := ?_) #[tT,tT,tT,fF,fF,fF] rfl rfl (by kernel_rfl) (fun _ _ _ h => h) (Or.inl ⟨by rfl, ?_⟩) ?_ ?_; rotate_left; (· intro w'; go_simp; with_reducible rfl))
       | (refine take_ (i := 2) (N := some 57) (v := ?_) (a' := ?_) #[tT,tT,tT,fF,fF,fF] rfl rfl (by kernel_rfl) (fun _ _ _ h => h) (Or.inl ⟨by rfl, ?_⟩) hHeld ?_ ?_; rotate_left; (· intro w' hw_; subst hw_; go_simp; with_reducible rfl))
       rotate_left
       ·simp only [Act.put, qA, qB, qC, i64_w, i32_w]
        rfl
       first
       | (refine pure_ (i := 3) (N := some 58) (v := ?_) (a' := ?_) #[tT,tT,tT,tT,fF,fF] rfl rfl (by kernel_rfl) (fun _ _ _ h => h) (Or.inl ⟨by rfl, ?_⟩) ?_ ?_; rotate_left; (· intro w'; go_simp; with_reducible rfl))
       | (refine take_ (i := 3) (N := some 58) (v := ?_) (a' := ?_) #[tT,tT,tT,tT,fF,fF] rfl rfl (by kernel_rfl) (fun _ _ _ h => h) (Or.inl ⟨by rfl, ?_⟩) hHeld ?_ ?_; rotate_left; (· intro w' hw_; subst hw_; go_simp; with_reducible rfl))
       rotate_left
       ·simp only [Act.put, qA, qB, qC, i64_w, i32_w]
        rfl
       first
       | (refine pure_ (i := 4) (N := some 2) (v := ?_) (a' := ?_) #[tT,tT,tT,tT,tT,fF] rfl rfl (by kernel_rfl) (fun _ _ _ h => h) (Or.inl ⟨by rfl, ?_⟩) ?_ ?_; rotate_left; (· intro w'; go_simp; with_reducible rfl))
       | (refine take_ (i := 4) (N := some 2) (v := ?_) (a' := ?_) #[tT,tT,tT,tT,tT,fF] rfl rfl (by kernel_rfl) (fun _ _ _ h => h) (Or.inl ⟨by rfl, ?_⟩) hHeld ?_ ?_; rotate_left; (· intro w' hw_; subst hw_; go_simp; with_reducible rfl))
       rotate_left
       ·simp only [Act.put, qA, qB, qC, i64_w, i32_w]
        rfl
       first
       | (refine pure_ (i := 5) (N := some 3) (v := ?_) (a' := ?_) #[tT,tT,tT,tT,tT,tT] rfl rfl (by kernel_rfl) (fun _ _ _ h => h) (Or.inl ⟨by rfl, ?_⟩) ?_ ?_; rotate_left; (· intro w'; go_simp; with_reducible rfl))
       | (refine take_ (i := 5) (N := some 3) (v := ?_) (a' := ?_) #[tT,tT,tT,tT,tT,tT] rfl rfl (by kernel_rfl) (fun _ _ _ h => h) (Or.inl ⟨by rfl, ?_⟩) hHeld ?_ ?_; rotate_left; (· intro w' hw_; subst hw_; go_simp; with_reducible rfl))
       rotate_left
       ·simp only [Act.put, qA, qB, qC, i64_w, i32_w]
        rfl
       refine done_ (by kernel_rfl) ?_
       try go_wp2
       go_ret2
       exact ⟨by first | rfl | (simp [errW_none, errW_some] <;> rfl) | (simp [*, errW_none, errW_some] <;> rfl), zH HB.out⟩
   ·rw [if_neg c4] at H
    exact absurd H (by simp)
  ·rw [if_neg c3] at H
   exact absurd H (by simp)
 ·rw [if_neg c2] at H
  exact absurd H (by simp)

/-! ### spec_l3Right: function 43 -/
def spec_l3Right.f (k : Nat) (l0_0 : List ByteArray) (a0_1 : ByteArray) (a0_2 : ByteArray) : Option (Bool) := (spec_l3Parities.f k l0_0).bind fun bt124 => (if bt124.1.toList = a0_1.toList then (some (bt124.2.toList == a0_2.toList)) else (some false))
theorem spec_l3Right.mono : ∀ a0 a1 a2 k, LeO (spec_l3Right.f k a0 a1 a2) (spec_l3Right.f (k + 1) a0 a1 a2) := by
 intro a0 a1 a2 k
 unfold spec_l3Right.f
 repeat' first
   | (with_reducible exact spec_l3Parities.mono _ _)
   | (with_reducible exact LeO.refl _)
   | (with_reducible exact LeO.none _)
   | (with_reducible refine LeO.ite ?_ ?_)
   | (with_reducible refine LeO.bind ?_ (fun _ => ?_))
   | exact spec_l3Parities.mono _ _
   | exact LeO.none _
   | refine LeO.ite ?_ ?_
   | refine LeO.bind ?_ (fun _ => ?_)
set_option maxHeartbeats 8000000 in
set_option maxRecDepth 100000 in
theorem spec_l3Right.calls (k : Nat) (A0_0 : Option Addr) (c0_0 : Nat) (l0_0 : List ByteArray) (a0_1 : ByteArray) (a0_2 : ByteArray) (r : Bool) (w : World) (hr0_0 : Kd.C Kd.string w A0_0 l0_0.length l0_0) (hc0_0 : l0_0.length ≤ c0_0) (h : spec_l3Right.f k l0_0 a0_1 a0_2 = some r) :
  Calls Try.prog 43 #[.agg #[.slice A0_0 l0_0.length c0_0, .string a0_1, .string a0_2]] w fun e w' => e = .returned (.bool r) ∧ Below w.heap.size w w' := by
 have hu27 := Try.underlying27
 have HR0_0 := aM hr0_0
 have HC0_0 := aM hc0_0
 clear hr0_0 hc0_0
 have HB := aM (Below.refl w.heap.size w)
 have H : ((spec_l3Parities.f k l0_0).bind fun bt124 => (if bt124.1.toList = a0_1.toList then (some (bt124.2.toList == a0_2.toList)) else (some false))) = some r := h
 clear h
 replace H := Option.bind_eq_some_iff.mp H
 obtain ⟨⟨t124, t125⟩, A20, H⟩ := H
 replace H : (if t124.toList = a0_1.toList then (some (t125.toList == a0_2.toList)) else (some false)) = some r := H
 have A2 := aM A20
 clear A20
 by_cases c3 : t124.toList = a0_1.toList
 ·rw [if_pos c3] at H
  have c3b0 : (t124.toList == a0_1.toList) = true := beq_iff_eq.mpr c3
  have c3b1 : (t124.toList != a0_1.toList) = false := bne_eq_false_iff_eq.mpr c3
  clear c3
  obtain rfl := Option.some.inj H
  go_enter Try.func43, Try.ntmps43
  go_wp2_with (first | ((with_reducible refine gate_dst (N := 1) rfl ?_); refine box_event ?hg (N := 1) ?hd (cs := #[.slice A0_0 l0_0.length c0_0, .string a0_1, .string a0_2]) (t := 27) ?hr ?_; (case hd => rfl); (case hg => rfl); (case hr => first | (go_simp; done) | (go_simp; rfl)); intro gb123 hg w4 hbox hb; have BK123 := aM (hbox); have GW123 := aM ((by rw [hg]; exact (zZ (zH HB.out)) : w.heap.size ≤ gb123)); have GE123 := aM ((by rw [hg]; exact (zZ (zH HB.out)) : w.heap.size ≤ gb123)); replace HB := aM (zT (zH HB.out) hb); clear hb hbox hg; have hcz5_0 : w4.cell? ⟨gb123, 0, none⟩ = some (.slice A0_0 l0_0.length c0_0) := yc BK123.out 0; have hcz5_1 : w4.cell? ⟨gb123, 1, none⟩ = some (.string a0_1) := yc BK123.out 1; have hcz5_2 : w4.cell? ⟨gb123, 2, none⟩ = some (.string a0_2) := yc BK123.out 2; have hfz5_0 := yZ BK123.out 0; have hfz5_1 := yZ BK123.out 1; have hfz5_2 := yZ BK123.out 2) | ((with_reducible refine gate_callee (f := 45) rfl ?_); refine goesL_ (some 8) rfl rfl Try.func45 (by kernel_rfl) rfl #[.slice A0_0 l0_0.length c0_0] rfl (by (try simp only [List.map_toArray, List.map_cons, List.map_nil]); first | done | rfl | (simp only [List.length_drop, List.length_take]; rfl)) ?_; (with_reducible refine (spec_l3Parities.calls k _ _ l0_0 t124 t125 _ ?side1 ?side2 A2.out).mono ?_); (case side1 => exact cK HR0_0.out HB.out); (case side2 => exact HC0_0.out); rintro e w6 ⟨rfl, hb⟩; refine ⟨_, rfl, ?_⟩; replace BK123 := yK BK123.out hb; replace HB := aM (zT (zH HB.out) hb); (try clear hb); have hcz7_0 : w6.cell? ⟨gb123, 0, none⟩ = some (.slice A0_0 l0_0.length c0_0) := yc BK123.out 0; have hcz7_1 : w6.cell? ⟨gb123, 1, none⟩ = some (.string a0_1) := yc BK123.out 1; have hcz7_2 : w6.cell? ⟨gb123, 2, none⟩ = some (.string a0_2) := yc BK123.out 2; have hfz7_0 := yZ BK123.out 0; have hfz7_1 := yZ BK123.out 1; have hfz7_2 := yZ BK123.out 2))
  go_ret
  exact ⟨by first | rfl | (simp [errW_none, errW_some] <;> rfl) | (simp [*, errW_none, errW_some] <;> rfl), zH HB.out⟩
 ·rw [if_neg c3] at H
  have c3b0 : (t124.toList == a0_1.toList) = false := beq_eq_false_iff_ne.mpr c3
  have c3b1 : (t124.toList != a0_1.toList) = true := bne_iff_ne.mpr c3
  obtain rfl := Option.some.inj H
  go_enter Try.func43, Try.ntmps43
  go_wp2_with (first | ((with_reducible refine gate_dst (N := 1) rfl ?_); refine box_event ?hg (N := 1) ?hd (cs := #[.slice A0_0 l0_0.length c0_0, .string a0_1, .string a0_2]) (t := 27) ?hr ?_; (case hd => rfl); (case hg => rfl); (case hr => first | (go_simp; done) | (go_simp; rfl)); intro gb123 hg w8 hbox hb; have BK123 := aM (hbox); have GW123 := aM ((by rw [hg]; exact (zZ (zH HB.out)) : w.heap.size ≤ gb123)); have GE123 := aM ((by rw [hg]; exact (zZ (zH HB.out)) : w.heap.size ≤ gb123)); replace HB := aM (zT (zH HB.out) hb); clear hb hbox hg; have hcz9_0 : w8.cell? ⟨gb123, 0, none⟩ = some (.slice A0_0 l0_0.length c0_0) := yc BK123.out 0; have hcz9_1 : w8.cell? ⟨gb123, 1, none⟩ = some (.string a0_1) := yc BK123.out 1; have hcz9_2 : w8.cell? ⟨gb123, 2, none⟩ = some (.string a0_2) := yc BK123.out 2; have hfz9_0 := yZ BK123.out 0; have hfz9_1 := yZ BK123.out 1; have hfz9_2 := yZ BK123.out 2) | ((with_reducible refine gate_callee (f := 45) rfl ?_); refine goesL_ (some 8) rfl rfl Try.func45 (by kernel_rfl) rfl #[.slice A0_0 l0_0.length c0_0] rfl (by (try simp only [List.map_toArray, List.map_cons, List.map_nil]); first | done | rfl | (simp only [List.length_drop, List.length_take]; rfl)) ?_; (with_reducible refine (spec_l3Parities.calls k _ _ l0_0 t124 t125 _ ?side1 ?side2 A2.out).mono ?_); (case side1 => exact cK HR0_0.out HB.out); (case side2 => exact HC0_0.out); rintro e w10 ⟨rfl, hb⟩; refine ⟨_, rfl, ?_⟩; replace BK123 := yK BK123.out hb; replace HB := aM (zT (zH HB.out) hb); (try clear hb); have hcz11_0 : w10.cell? ⟨gb123, 0, none⟩ = some (.slice A0_0 l0_0.length c0_0) := yc BK123.out 0; have hcz11_1 : w10.cell? ⟨gb123, 1, none⟩ = some (.string a0_1) := yc BK123.out 1; have hcz11_2 : w10.cell? ⟨gb123, 2, none⟩ = some (.string a0_2) := yc BK123.out 2; have hfz11_0 := yZ BK123.out 0; have hfz11_1 := yZ BK123.out 1; have hfz11_2 := yZ BK123.out 2))
  go_ret
  exact ⟨by first | rfl | (simp [errW_none, errW_some] <;> rfl) | (simp [*, errW_none, errW_some] <;> rfl), zH HB.out⟩

/-! ### spec_CheckStripe: function 17 -/
def spec_CheckStripe.f (k : Nat) (l0_0 : List ByteArray) (a0_1 : ByteArray) (a0_2 : ByteArray) : Option (Bool × Bool) := (spec_GoodStripe.f k l0_0 a0_1 a0_2).bind fun t127 => (if t127 = true then ((spec_l3Right.f k l0_0 a0_1 a0_2).bind fun t128 => (some (t128, true))) else (some (false, false)))
theorem spec_CheckStripe.mono : ∀ a0 a1 a2 k, LeO (spec_CheckStripe.f k a0 a1 a2) (spec_CheckStripe.f (k + 1) a0 a1 a2) := by
 intro a0 a1 a2 k
 unfold spec_CheckStripe.f
 repeat' first
   | (with_reducible exact spec_GoodStripe.mono _ _ _ _)
   | (with_reducible exact spec_l3Right.mono _ _ _ _)
   | (with_reducible exact LeO.refl _)
   | (with_reducible exact LeO.none _)
   | (with_reducible refine LeO.ite ?_ ?_)
   | (with_reducible refine LeO.bind ?_ (fun _ => ?_))
   | exact spec_GoodStripe.mono _ _ _ _
   | exact spec_l3Right.mono _ _ _ _
   | exact LeO.none _
   | refine LeO.ite ?_ ?_
   | refine LeO.bind ?_ (fun _ => ?_)
set_option maxHeartbeats 8000000 in
set_option maxRecDepth 100000 in
theorem spec_CheckStripe.calls (k : Nat) (A0_0 : Option Addr) (c0_0 : Nat) (l0_0 : List ByteArray) (a0_1 : ByteArray) (a0_2 : ByteArray) (r1 : Bool) (r2 : Bool) (w : World) (hr0_0 : Kd.C Kd.string w A0_0 l0_0.length l0_0) (hc0_0 : l0_0.length ≤ c0_0) (h : spec_CheckStripe.f k l0_0 a0_1 a0_2 = some (r1, r2)) :
  Calls Try.prog 17 #[.agg #[.slice A0_0 l0_0.length c0_0, .string a0_1, .string a0_2]] w fun e w' => e = .returned (.tuple #[.bool r1, .bool r2]) ∧ Below w.heap.size w w' := by
 have hu27 := Try.underlying27
 have HR0_0 := aM hr0_0
 have HC0_0 := aM hc0_0
 clear hr0_0 hc0_0
 have HB := aM (Below.refl w.heap.size w)
 have H : ((spec_GoodStripe.f k l0_0 a0_1 a0_2).bind fun t127 => (if t127 = true then ((spec_l3Right.f k l0_0 a0_1 a0_2).bind fun t128 => (some (t128, true))) else (some (false, false)))) = some (r1, r2) := h
 clear h
 replace H := Option.bind_eq_some_iff.mp H
 obtain ⟨t127, A20, H⟩ := H
 replace H : (if t127 = true then ((spec_l3Right.f k l0_0 a0_1 a0_2).bind fun t128 => (some (t128, true))) else (some (false, false))) = some (r1, r2) := H
 have A2 := aM A20
 clear A20
 by_cases c3 : t127 = true
 ·subst c3
  have H1 : ((spec_l3Right.f k l0_0 a0_1 a0_2).bind fun t128 => (some (t128, true))) = some (r1, r2) := by rw [if_pos rfl] at H; exact H
  clear H
  have H := H1
  clear H1
  replace H := Option.bind_eq_some_iff.mp H
  obtain ⟨t128, A40, H⟩ := H
  replace H : (some (t128, true)) = some (r1, r2) := H
  have A4 := aM A40
  clear A40
  simp only [Option.some.injEq, Prod.mk.injEq] at H
  obtain ⟨rfl, rfl⟩ := H
  go_enter Try.func17, Try.ntmps17
  go_wp2_with (first | ((with_reducible refine gate_dst (N := 1) rfl ?_); refine box_event ?hg (N := 1) ?hd (cs := #[.slice A0_0 l0_0.length c0_0, .string a0_1, .string a0_2]) (t := 27) ?hr ?_; (case hd => rfl); (case hg => rfl); (case hr => first | (go_simp; done) | (go_simp; rfl)); intro gb126 hg w5 hbox hb; have BK126 := aM (hbox); have GW126 := aM ((by rw [hg]; exact (zZ (zH HB.out)) : w.heap.size ≤ gb126)); have GE126 := aM ((by rw [hg]; exact (zZ (zH HB.out)) : w.heap.size ≤ gb126)); replace HB := aM (zT (zH HB.out) hb); clear hb hbox hg; have hcz6_0 : w5.cell? ⟨gb126, 0, none⟩ = some (.slice A0_0 l0_0.length c0_0) := yc BK126.out 0; have hcz6_1 : w5.cell? ⟨gb126, 1, none⟩ = some (.string a0_1) := yc BK126.out 1; have hcz6_2 : w5.cell? ⟨gb126, 2, none⟩ = some (.string a0_2) := yc BK126.out 2; have hfz6_0 := yZ BK126.out 0; have hfz6_1 := yZ BK126.out 1; have hfz6_2 := yZ BK126.out 2) | ((with_reducible refine gate_callee (f := 13) rfl ?_); refine goesL_ (some 5) rfl rfl Try.func13 (by kernel_rfl) rfl #[.agg #[.slice A0_0 l0_0.length c0_0, .string a0_1, .string a0_2]] rfl (by (try simp only [List.map_toArray, List.map_cons, List.map_nil]); first | done | rfl | (simp only [List.length_drop, List.length_take]; rfl)) ?_; (with_reducible refine (spec_GoodStripe.calls k _ _ l0_0 a0_1 a0_2 true _ ?side1 ?side2 A2.out).mono ?_); (case side1 => exact cK HR0_0.out HB.out); (case side2 => exact HC0_0.out); rintro e w7 ⟨rfl, hb⟩; refine ⟨_, rfl, ?_⟩; replace BK126 := yK BK126.out hb; replace HB := aM (zT (zH HB.out) hb); (try clear hb); have hcz8_0 : w7.cell? ⟨gb126, 0, none⟩ = some (.slice A0_0 l0_0.length c0_0) := yc BK126.out 0; have hcz8_1 : w7.cell? ⟨gb126, 1, none⟩ = some (.string a0_1) := yc BK126.out 1; have hcz8_2 : w7.cell? ⟨gb126, 2, none⟩ = some (.string a0_2) := yc BK126.out 2; have hfz8_0 := yZ BK126.out 0; have hfz8_1 := yZ BK126.out 1; have hfz8_2 := yZ BK126.out 2) | ((with_reducible refine gate_callee (f := 43) rfl ?_); refine goesL_ (some 8) rfl rfl Try.func43 (by kernel_rfl) rfl #[.agg #[.slice A0_0 l0_0.length c0_0, .string a0_1, .string a0_2]] rfl (by (try simp only [List.map_toArray, List.map_cons, List.map_nil]); first | done | rfl | (simp only [List.length_drop, List.length_take]; rfl)) ?_; (with_reducible refine (spec_l3Right.calls k _ _ l0_0 a0_1 a0_2 t128 _ ?side1 ?side2 A4.out).mono ?_); (case side1 => exact cK HR0_0.out HB.out); (case side2 => exact HC0_0.out); rintro e w9 ⟨rfl, hb⟩; refine ⟨_, rfl, ?_⟩; replace BK126 := yK BK126.out hb; replace HB := aM (zT (zH HB.out) hb); (try clear hb)))
  go_ret2
  exact ⟨by first | rfl | (simp [errW_none, errW_some] <;> rfl) | (simp [*, errW_none, errW_some] <;> rfl), zH HB.out⟩
 ·replace c3 := Bool.eq_false_iff.mpr c3
  subst c3
  have H1 : (some (false, false)) = some (r1, r2) := by rw [if_neg (show ¬ (false = true) by decide)] at H; exact H
  clear H
  have H := H1
  clear H1
  simp only [Option.some.injEq, Prod.mk.injEq] at H
  obtain ⟨rfl, rfl⟩ := H
  go_enter Try.func17, Try.ntmps17
  go_wp2_with (first | ((with_reducible refine gate_dst (N := 1) rfl ?_); refine box_event ?hg (N := 1) ?hd (cs := #[.slice A0_0 l0_0.length c0_0, .string a0_1, .string a0_2]) (t := 27) ?hr ?_; (case hd => rfl); (case hg => rfl); (case hr => first | (go_simp; done) | (go_simp; rfl)); intro gb126 hg w10 hbox hb; have BK126 := aM (hbox); have GW126 := aM ((by rw [hg]; exact (zZ (zH HB.out)) : w.heap.size ≤ gb126)); have GE126 := aM ((by rw [hg]; exact (zZ (zH HB.out)) : w.heap.size ≤ gb126)); replace HB := aM (zT (zH HB.out) hb); clear hb hbox hg; have hcz11_0 : w10.cell? ⟨gb126, 0, none⟩ = some (.slice A0_0 l0_0.length c0_0) := yc BK126.out 0; have hcz11_1 : w10.cell? ⟨gb126, 1, none⟩ = some (.string a0_1) := yc BK126.out 1; have hcz11_2 : w10.cell? ⟨gb126, 2, none⟩ = some (.string a0_2) := yc BK126.out 2; have hfz11_0 := yZ BK126.out 0; have hfz11_1 := yZ BK126.out 1; have hfz11_2 := yZ BK126.out 2) | ((with_reducible refine gate_callee (f := 13) rfl ?_); refine goesL_ (some 5) rfl rfl Try.func13 (by kernel_rfl) rfl #[.agg #[.slice A0_0 l0_0.length c0_0, .string a0_1, .string a0_2]] rfl (by (try simp only [List.map_toArray, List.map_cons, List.map_nil]); first | done | rfl | (simp only [List.length_drop, List.length_take]; rfl)) ?_; (with_reducible refine (spec_GoodStripe.calls k _ _ l0_0 a0_1 a0_2 false _ ?side1 ?side2 A2.out).mono ?_); (case side1 => exact cK HR0_0.out HB.out); (case side2 => exact HC0_0.out); rintro e w12 ⟨rfl, hb⟩; refine ⟨_, rfl, ?_⟩; replace BK126 := yK BK126.out hb; replace HB := aM (zT (zH HB.out) hb); (try clear hb)))
  go_ret2
  exact ⟨by first | rfl | (simp [errW_none, errW_some] <;> rfl) | (simp [*, errW_none, errW_some] <;> rfl), zH HB.out⟩

/-! ### impl_within: function 70 -/
def impl_within.f (a0 : Int) (a1 : Int) (a2 : Int) : Option (Bool) := if a0 ≥ a1 then (some (decide (a0 ≤ a2))) else (some false)
set_option maxHeartbeats 8000000 in
set_option maxRecDepth 100000 in
theorem impl_within.calls (a0 : Int) (a1 : Int) (a2 : Int) (r : Bool) (w : World) (h : impl_within.f a0 a1 a2 = some r) :
  Calls Try.prog 70 #[.int .i64 a0, .int .i64 a1, .int .i64 a2] w fun e w' => e = .returned (.bool r) ∧ Drawn0 w w' := by
 have H : (if a0 ≥ a1 then (some (decide (a0 ≤ a2))) else (some false)) = some r := h
 clear h
 by_cases c4 : a0 ≥ a1
 ·rw [if_pos c4] at H
  have c4b0 : decide (a1 ≤ a0) = true := decide_eq_true c4
  clear c4
  obtain rfl := Option.some.inj H
  go_enter Try.func70, Try.ntmps70
  go_wp2
  go_ret
  exact ⟨by first | rfl | (simp; done) | (simp [*]; done), by repeat (first | exact Drawn0.refl _ | apply Drawn0.step)⟩
 ·rw [if_neg c4] at H
  have c4b0 : decide (a1 ≤ a0) = false := decide_eq_false c4
  clear c4
  obtain rfl := Option.some.inj H
  go_enter Try.func70, Try.ntmps70
  go_wp2
  go_ret
  exact ⟨by first | rfl | (simp; done) | (simp [*]; done), by repeat (first | exact Drawn0.refl _ | apply Drawn0.step)⟩

end Go.Proofs.Ytfijnlhklfmoeaa.PFnUpdated
