/- The walks of FnParity: Go's calls come to what the Lean functions beside them say; no condition. -/
import Derived.Test.YtfijnlhklfmoeaaQFnParityx0
import Derived.Test.YtfijnlhklfmoeaaQFnParityx1
namespace Go.Proofs.Ytfijnlhklfmoeaa.PFnParity
open Go.RowKit Go.Proofs.YtfijnlhklfmoeaaW.PrintWords Go.Proofs.YtfijnlhklfmoeaaW.PrintLast Go.Proofs.YtfijnlhklfmoeaaW.PrintMore
attribute [local go_sem] max2_int min2_int max_two min_two max_three min_three max_four min_four   -- for this text's walks alone
set_option linter.unusedVariables false
set_option linter.unusedSimpArgs false
set_option maxRecDepth 100000

/-! ### impl_xor: function 57 (by hand) -/
/-- the exclusive or of two texts; nothing where the second is shorter (Go would panic) -/
def impl_xor.f (a0 : ByteArray) (a1 : ByteArray) : Option (ByteArray) :=
 if a0.size ≤ a1.size ∧ a0.size ≤ 4611686018427387904 then some (strOfNums ((List.range a0.size).map fun (j : Nat) => Go.bits .xor .u8 (bt a0 (j : Int)) (bt a1 (j : Int)))) else none
set_option maxHeartbeats 8000000 in
set_option maxRecDepth 100000 in
theorem impl_xor.calls (a0 : ByteArray) (a1 : ByteArray) (r : ByteArray) (w : World) (h : impl_xor.f a0 a1 = some r) :
  Calls Try.prog 57 #[.string a0, .string a1] w fun e w' => e = .returned (.string r) ∧ Below w.heap.size w w' := by
 unfold impl_xor.f at h
 by_cases hl : a0.size ≤ a1.size ∧ a0.size ≤ 4611686018427387904
 case neg => rw [if_neg hl] at h; cases h
 rw [if_pos hl] at h
 obtain rfl := Option.some.inj h; clear h; have HLE := aM hl; clear hl; have hu9 := Try.underlying9; have hu48 := Try.underlying48; have hu5 := Try.underlying5
 go_enter Try.func57, Try.ntmps57
 go_wp2_with ((with_reducible refine gate_dst (N := 8) rfl ?_); go_loud (refine Go.Proofs.Ytfijnlhklfmoeaa.Bytes.conv_event ?hg (N := 8) ?hd (src := 9) (dst := 48) (e := 5) (s := a0) hu9 hu48 hu5 ?hex ?_); (case hd => rfl); (case hg => rfl); (case hex => go_simp); intro g c w1 hg hrow hbel hc; have HR := aM hrow; have HB := aM hbel; have HG := aM hg; have HC := aM hc; clear hrow hbel hg hc)
 have hL0 := bytesOf_length a0
 go_loopw [11] (fun v11 w' => ∃ (i : Nat) (ys : List Int), i ≤ a0.size ∧ v11 = .int .i64 (i : Int) ∧ Aside0 (Go.Proofs.Ytfijnlhklfmoeaa.Bytes.RowB w' 5 g ys) ∧ Aside0 (ys.length = a0.size) ∧ Aside0 (∀ j : Nat, j < a0.size → ys.getD j 0 = if j < i then Go.bits .xor .u8 (bt a0 (j : Int)) (bt a1 (j : Int)) else bt a0 (j : Int)) ∧ Aside0 (Below w.heap.size w w')) (fun v11 w' => a0.size - (intOf v11).toNat)
 case atStart => exact ⟨0, bytesOf a0, Nat.zero_le _, rfl, HR, ⟨hL0⟩, ⟨fun j hj => by rw [if_neg (by omega)]; have := rd_bytesOf a0 (j : Int); unfold rd at this; rw [Int.toNat_natCast] at this; exact this⟩, HB⟩
 case round =>
  obtain ⟨i, ys, hi, rfl, HRi, HLi, HVi, HBi⟩ := hrel
  by_cases hlt : i < a0.size
  ·have hlt1 : i < a1.size := by have := HLE.out.1; omega
   have hbig : a0.size ≤ 4611686018427387904 := HLE.out.2
   have hil : i < ys.length := by rw [HLi.out]; exact hlt
   have hcell := HRi.out.cell i hil; have hv := HVi.out i hlt
   rw [if_neg (by omega)] at hv
   rw [hv] at hcell
   have hfree := HRi.out.free i hil
   have hx5 : ∀ h_ : i < a1.size, ((a1[i]'h_).toNat : Int) = bt a1 (i : Int) := fun h_ => by have h2_ := bt_at a1 (i : Int) (by simpa using h_); simpa using h2_
   have hq1 : ((i : Int) < (a1.size : Int)) = True := eq_true (by omega)
   have HS := aM (HRi.out.set i hil (Go.bits .xor .u8 (bt a0 (i : Int)) (bt a1 (i : Int)))); clear hv
   go_wp2
   go_region
   all_goals (go_wp2; go_roundw)
   case rel => exact ⟨i + 1, ys.set i (Go.bits .xor .u8 (bt a0 (i : Int)) (bt a1 (i : Int))), by omega, by go_num, ⟨by first | exact HS.out | exact HS.out.drew⟩, ⟨by rw [List.length_set]; exact HLi.out⟩, ⟨fun j hj => by
     rw [Go.Proofs.Ytfijnlhklfmoeaa.Bytes.getD_set _ _ _ _ hil]
     by_cases hji : j = i
     ·subst hji; rw [if_pos rfl, if_pos (by omega)]
     ·rw [if_neg hji, HVi.out j hj]
      by_cases h2 : j < i
      ·rw [if_pos h2, if_pos (by omega)]
      ·rw [if_neg h2, if_neg (by omega)]⟩, ⟨by repeat (first | exact HBi.out | apply zD | (refine Go.Proofs.Ytfijnlhklfmoeaa.Bytes.RowB.setBelow ?_ (by rw [HG.out]; exact Nat.le_refl _) _ _))⟩⟩
   case measure => simp [intOf]; omega
  ·have hin : i = a0.size := by omega
   have HY := aM (show ys = (List.range a0.size).map fun (j : Nat) => Go.bits .xor .u8 (bt a0 (j : Int)) (bt a1 (j : Int)) by
    apply List.ext_getElem (by simp; exact HLi.out)
    intro j h1 h2
    have h3 : j < a0.size := by simpa using h2
    have h4 := HVi.out j h3
    rw [if_pos (by omega)] at h4
    rw [List.getD_eq_getElem?_getD, List.getElem?_eq_getElem h1] at h4
    simpa using h4)
   have hcv : (convert 48 9 (.slice (some ⟨g, 0, none⟩) a0.size c)).run Try.prog wr = .ok (.string (strOfNums ys)) wr := HRi.out.text hu48 hu5 hu9 _ _ HLi.out.symm; clear hin
   go_wp2
   go_ret
   exact ⟨by rw [← HY.out]; rfl, by repeat (first | exact HBi.out | apply zD | apply zN)⟩


/-! ### impl_FieldMul: function 74 -/
def impl_FieldMul.l0 : Nat → Int → Int → Int → Int → Option (Int)
 | 0, _, _, _, _ => none
 | k + 1, x1, x5, x6, x7 => if x6 < 8 then (if 0 ≤ x6 then (if (Go.bits .and .u8 (shr .u8 x1 x6) 1) = 1 then (if (wrap64 (x7 * 2)) > 255 then (impl_FieldMul.l0 k x1 (Go.bits .xor .i64 x5 x7) (wrap64 (x6 + 1)) (Go.bits .xor .i64 (wrap64 (x7 * 2)) 285)) else (impl_FieldMul.l0 k x1 (Go.bits .xor .i64 x5 x7) (wrap64 (x6 + 1)) (wrap64 (x7 * 2)))) else (if (wrap64 (x7 * 2)) > 255 then (impl_FieldMul.l0 k x1 x5 (wrap64 (x6 + 1)) (Go.bits .xor .i64 (wrap64 (x7 * 2)) 285)) else (impl_FieldMul.l0 k x1 x5 (wrap64 (x6 + 1)) (wrap64 (x7 * 2))))) else (none)) else (some ((x5) % 256))
def impl_FieldMul.f (k : Nat) (a0 : Int) (a1 : Int) : Option (Int) := impl_FieldMul.l0 k a1 0 0 (wrap64 (a0))
theorem impl_FieldMul.mono_l : ∀ k, (∀ y0 y1 y2 y3, LeO (impl_FieldMul.l0 k y0 y1 y2 y3) (impl_FieldMul.l0 (k + 1) y0 y1 y2 y3))
 | 0 => fun _ _ _ _ r h => by change none = some r at h; cases h
 | k + 1 => by
  have ih0 := impl_FieldMul.mono_l k
  ·intro y0 y1 y2 y3
   unfold impl_FieldMul.l0
   repeat' first
   | (with_reducible exact ih0 _ _ _ _)
   | (with_reducible exact LeO.refl _)
   | (with_reducible exact LeO.none _)
   | (with_reducible refine LeO.ite ?_ ?_)
   | (with_reducible refine LeO.bind ?_ (fun _ => ?_))
   | exact ih0 _ _ _ _
   | exact LeO.none _
   | refine LeO.ite ?_ ?_
   | refine LeO.bind ?_ (fun _ => ?_)
theorem impl_FieldMul.mono : ∀ a0 a1 k, LeO (impl_FieldMul.f k a0 a1) (impl_FieldMul.f (k + 1) a0 a1) := by
 intro a0 a1 k
 have ih0 := impl_FieldMul.mono_l k
 unfold impl_FieldMul.f
 repeat' first
   | (with_reducible exact ih0 _ _ _ _)
   | (with_reducible exact LeO.refl _)
   | (with_reducible exact LeO.none _)
   | (with_reducible refine LeO.ite ?_ ?_)
   | (with_reducible refine LeO.bind ?_ (fun _ => ?_))
   | exact ih0 _ _ _ _
   | exact LeO.none _
   | refine LeO.ite ?_ ?_
   | refine LeO.bind ?_ (fun _ => ?_)
set_option maxHeartbeats 8000000 in
set_option maxRecDepth 100000 in
theorem impl_FieldMul.calls (k : Nat) (a0 : Int) (a1 : Int) (r : Int) (w : World) (h : impl_FieldMul.f k a0 a1 = some r) :
  Calls Try.prog 74 #[.int .u8 a0, .int .u8 a1] w fun e w' => e = .returned (.int .u8 r) ∧ Drawn0 w w' := by
 have H : (impl_FieldMul.l0 k a1 0 0 (wrap64 (a0))) = some r := h; clear h; have H' := aM H; clear H
 go_enter Try.func74, Try.ntmps74
 go_wp2
 go_loopg [5, 6, 7] k (fun kq v5 v6 v7 w' => ∃ (x5_1 : Int) (x6_1 : Int) (x7_1 : Int), v5 = .int .i64 x5_1 ∧ v6 = .int .i64 x6_1 ∧ v7 = .int .i64 x7_1 ∧ Aside0 (impl_FieldMul.l0 kq a1 x5_1 x6_1 x7_1 = some r) ∧ Aside0 (kq ≤ k) ∧ Drawn0 w w')
 case atStart => exact ⟨(0), (0), (wrap64 (a0)), (by first | rfl | (simp; done) | (simp [*]; done)), (by first | rfl | (simp; done) | (simp [*]; done)), (by first | rfl | (simp; done) | (simp [*]; done)), H', ⟨Nat.le_refl _⟩, by repeat (first | exact Drawn0.refl _ | apply Drawn0.step)⟩
 case round =>
  clear H'; obtain ⟨x5_1, x6_1, x7_1, rfl, rfl, rfl, HA, HK1, ⟨m1, rfl⟩⟩ := hrel
  cases gk with
  | zero => exact absurd HA.out (fun h_ => by change none = some _ at h_; cases h_)
  | succ k1 =>
   have H := HA.out; clear HA
   simp only [impl_FieldMul.l0] at H
   by_cases c3 : x6_1 < 8
   ·rw [if_pos c3] at H
    have c3b0 : decide (x6_1 < 8) = true := decide_eq_true c3; clear c3
    by_cases c4 : 0 ≤ x6_1
    ·rw [if_pos c4] at H
     have c4b0 := eq_true c4; have c4b1 : decide (0 ≤ x6_1) = true := decide_eq_true c4; clear c4; obtain ⟨ji5, hji5⟩ : ∃ j_ : Int, (shr .u8 a1 x6_1) = j_ := ⟨_, rfl⟩
     replace H : (if (Go.bits .and .u8 (ji5) 1) = 1 then (if (wrap64 (x7_1 * 2)) > 255 then (impl_FieldMul.l0 k1 a1 (Go.bits .xor .i64 x5_1 x7_1) (wrap64 (x6_1 + 1)) (Go.bits .xor .i64 (wrap64 (x7_1 * 2)) 285)) else (impl_FieldMul.l0 k1 a1 (Go.bits .xor .i64 x5_1 x7_1) (wrap64 (x6_1 + 1)) (wrap64 (x7_1 * 2)))) else (if (wrap64 (x7_1 * 2)) > 255 then (impl_FieldMul.l0 k1 a1 x5_1 (wrap64 (x6_1 + 1)) (Go.bits .xor .i64 (wrap64 (x7_1 * 2)) 285)) else (impl_FieldMul.l0 k1 a1 x5_1 (wrap64 (x6_1 + 1)) (wrap64 (x7_1 * 2))))) = some r := by first | (rw [hji5] at H; exact H) | (simp only [hji5] at H ⊢; exact H)
     have hji5_ : (a1 / 2 ^ min x6_1.toNat 8) = ji5 := hji5; have hji5z : x6_1 ≤ 8 → (a1 / 2 ^ x6_1.toNat) = ji5 := shr_small hji5
     by_cases c6 : (Go.bits .and .u8 (ji5) 1) = 1
     ·rw [if_pos c6] at H
      have c6b0 : ((Go.bits .and .u8 (ji5) 1) == 1) = true := beq_iff_eq.mpr c6; have c6b1 : ((Go.bits .and .u8 (ji5) 1) != 1) = false := bne_eq_false_iff_eq.mpr c6; clear c6
      by_cases c7 : (wrap64 (x7_1 * 2)) > 255
      ·rw [if_pos c7] at H
       have c7b0 : decide (255 < (wrap64 (x7_1 * 2))) = true := decide_eq_true c7; clear c7; have H' := aM H; clear H
       go_wp2
       go_roundg k1
       case measure => have := HK1.out; omega
       case rel => exact ⟨(Go.bits .xor .i64 x5_1 x7_1), (wrap64 (x6_1 + 1)), (Go.bits .xor .i64 (wrap64 (x7_1 * 2)) 285), (by first | rfl | (simp; done) | (simp [*]; done)), (by first | rfl | (simp; done) | (simp [*]; done)), (by first | rfl | (simp; done) | (simp [*]; done)), H', ⟨by have := HK1.out; omega⟩, by repeat (first | exact Drawn0.refl _ | apply Drawn0.step)⟩
      ·rw [if_neg c7] at H
       have c7b0 : decide (255 < (wrap64 (x7_1 * 2))) = false := decide_eq_false c7; clear c7; have H' := aM H; clear H
       go_wp2
       go_roundg k1
       case measure => have := HK1.out; omega
       case rel => exact ⟨(Go.bits .xor .i64 x5_1 x7_1), (wrap64 (x6_1 + 1)), (wrap64 (x7_1 * 2)), (by first | rfl | (simp; done) | (simp [*]; done)), (by first | rfl | (simp; done) | (simp [*]; done)), (by first | rfl | (simp; done) | (simp [*]; done)), H', ⟨by have := HK1.out; omega⟩, by repeat (first | exact Drawn0.refl _ | apply Drawn0.step)⟩
     ·rw [if_neg c6] at H
      have c6b0 : ((Go.bits .and .u8 (ji5) 1) == 1) = false := beq_eq_false_iff_ne.mpr c6; have c6b1 : ((Go.bits .and .u8 (ji5) 1) != 1) = true := bne_iff_ne.mpr c6
      by_cases c8 : (wrap64 (x7_1 * 2)) > 255
      ·rw [if_pos c8] at H
       have c8b0 : decide (255 < (wrap64 (x7_1 * 2))) = true := decide_eq_true c8; clear c8; have H' := aM H; clear H
       go_wp2
       go_roundg k1
       case measure => have := HK1.out; omega
       case rel => exact ⟨(x5_1), (wrap64 (x6_1 + 1)), (Go.bits .xor .i64 (wrap64 (x7_1 * 2)) 285), (by first | rfl | (simp; done) | (simp [*]; done)), (by first | rfl | (simp; done) | (simp [*]; done)), (by first | rfl | (simp; done) | (simp [*]; done)), H', ⟨by have := HK1.out; omega⟩, by repeat (first | exact Drawn0.refl _ | apply Drawn0.step)⟩
      ·rw [if_neg c8] at H
       have c8b0 : decide (255 < (wrap64 (x7_1 * 2))) = false := decide_eq_false c8; clear c8; have H' := aM H; clear H
       go_wp2
       go_roundg k1
       case measure => have := HK1.out; omega
       case rel => exact ⟨(x5_1), (wrap64 (x6_1 + 1)), (wrap64 (x7_1 * 2)), (by first | rfl | (simp; done) | (simp [*]; done)), (by first | rfl | (simp; done) | (simp [*]; done)), (by first | rfl | (simp; done) | (simp [*]; done)), H', ⟨by have := HK1.out; omega⟩, by repeat (first | exact Drawn0.refl _ | apply Drawn0.step)⟩
    ·rw [if_neg c4] at H
     exact absurd H (by simp)
   ·rw [if_neg c3] at H
    have c3b0 : decide (x6_1 < 8) = false := decide_eq_false c3; clear c3; obtain rfl := Option.some.inj H
    go_wp2
    go_ret
    exact ⟨by first | rfl | (simp; done) | (simp [*]; done), by repeat (first | exact Drawn0.refl _ | apply Drawn0.step)⟩

/-! ### impl_power: function 63 -/
def impl_power.l0 : Nat → Int → Int → Int → Int → Option (Int)
 | 0, _, _, _, _ => none
 | k + 1, x0, x5, x6, x7 => if x7 < x6 then ((impl_FieldMul.f k x5 x0).bind fun t105 => (impl_power.l0 k x0 t105 x6 (wrap64 (x7 + 1)))) else (some x5)
def impl_power.f (k : Nat) (a0 : Int) (a1 : Int) : Option (Int) := impl_power.l0 k a0 1 a1 0
theorem impl_power.mono_l : ∀ k, (∀ y0 y1 y2 y3, LeO (impl_power.l0 k y0 y1 y2 y3) (impl_power.l0 (k + 1) y0 y1 y2 y3))
 | 0 => fun _ _ _ _ r h => by change none = some r at h; cases h
 | k + 1 => by
  have ih0 := impl_power.mono_l k
  ·intro y0 y1 y2 y3
   unfold impl_power.l0
   repeat' first
   | (with_reducible exact ih0 _ _ _ _)
   | (with_reducible exact impl_FieldMul.mono _ _ _)
   | (with_reducible exact LeO.refl _)
   | (with_reducible exact LeO.none _)
   | (with_reducible refine LeO.ite ?_ ?_)
   | (with_reducible refine LeO.bind ?_ (fun _ => ?_))
   | exact ih0 _ _ _ _
   | exact impl_FieldMul.mono _ _ _
   | exact LeO.none _
   | refine LeO.ite ?_ ?_
   | refine LeO.bind ?_ (fun _ => ?_)
theorem impl_power.mono : ∀ a0 a1 k, LeO (impl_power.f k a0 a1) (impl_power.f (k + 1) a0 a1) := by
 intro a0 a1 k
 have ih0 := impl_power.mono_l k
 unfold impl_power.f
 repeat' first
   | (with_reducible exact ih0 _ _ _ _)
   | (with_reducible exact impl_FieldMul.mono _ _ _)
   | (with_reducible exact LeO.refl _)
   | (with_reducible exact LeO.none _)
   | (with_reducible refine LeO.ite ?_ ?_)
   | (with_reducible refine LeO.bind ?_ (fun _ => ?_))
   | exact ih0 _ _ _ _
   | exact impl_FieldMul.mono _ _ _
   | exact LeO.none _
   | refine LeO.ite ?_ ?_
   | refine LeO.bind ?_ (fun _ => ?_)
set_option maxHeartbeats 8000000 in
set_option maxRecDepth 100000 in
theorem impl_power.calls (k : Nat) (a0 : Int) (a1 : Int) (r : Int) (w : World) (h : impl_power.f k a0 a1 = some r) :
  Calls Try.prog 63 #[.int .u8 a0, .int .i64 a1] w fun e w' => e = .returned (.int .u8 r) ∧ Drawn0 w w' := by
 have H : (impl_power.l0 k a0 1 a1 0) = some r := h; clear h; have H' := aM H; clear H
 go_enter Try.func63, Try.ntmps63
 go_wp2
 go_loopg [5, 7] k (fun kq v5 v7 w' => ∃ (x5_1 : Int) (x7_1 : Int), v5 = .int .u8 x5_1 ∧ v7 = .int .i64 x7_1 ∧ Aside0 (impl_power.l0 kq a0 x5_1 a1 x7_1 = some r) ∧ Aside0 (kq ≤ k) ∧ Drawn0 w w')
 case atStart => exact ⟨(1), (0), (by first | rfl | (simp; done) | (simp [*]; done)), (by first | rfl | (simp; done) | (simp [*]; done)), H', ⟨Nat.le_refl _⟩, by repeat (first | exact Drawn0.refl _ | apply Drawn0.step)⟩
 case round =>
  clear H'; obtain ⟨x5_1, x7_1, rfl, rfl, HA, HK1, ⟨m1, rfl⟩⟩ := hrel
  cases gk with
  | zero => exact absurd HA.out (fun h_ => by change none = some _ at h_; cases h_)
  | succ k1 =>
   have H := HA.out; clear HA
   simp only [impl_power.l0] at H
   by_cases c3 : x7_1 < a1
   ·rw [if_pos c3] at H
    have c3b0 : decide (x7_1 < a1) = true := decide_eq_true c3; clear c3; replace H := Option.bind_eq_some_iff.mp H; obtain ⟨t105, A40, H⟩ := H; replace H : (impl_power.l0 k1 a0 t105 a1 (wrap64 (x7_1 + 1))) = some r := H; have A4 := aM A40; clear A40; have H' := aM H; clear H
    go_wp2_with (first | ((with_reducible refine gate_callee (f := 74) rfl ?_); refine goesL_ (some 11) rfl rfl Try.func74 (by kernel_rfl) rfl #[.int .u8 x5_1, .int .u8 a0] rfl mA ?_; (with_reducible refine (impl_FieldMul.calls k1 x5_1 a0 t105 _ A4.out).mono ?_); rintro e w' ⟨rfl, ⟨nd, rfl⟩⟩; refine ⟨_, rfl, ?_⟩))
    go_roundg k1
    case measure => have := HK1.out; omega
    case rel => exact ⟨(t105), (wrap64 (x7_1 + 1)), (by first | rfl | (simp; done) | (simp [*]; done)), (by first | rfl | (simp; done) | (simp [*]; done)), H', ⟨by have := HK1.out; omega⟩, by repeat (first | exact Drawn0.refl _ | apply Drawn0.step)⟩
   ·rw [if_neg c3] at H
    have c3b0 : decide (x7_1 < a1) = false := decide_eq_false c3; clear c3; obtain rfl := Option.some.inj H
    go_wp2
    go_ret
    exact ⟨by first | rfl | (simp; done) | (simp [*]; done), by repeat (first | exact Drawn0.refl _ | apply Drawn0.step)⟩

/-! ### impl_weighed: function 58 (by hand) -/
/-- a text, its bytes times 2^a1 -/
def impl_weighed.f (k : Nat) (a0 : ByteArray) (a1 : Int) : Option (ByteArray) :=
 if a0.size ≤ 4611686018427387904 then (impl_power.f k 2 a1).bind fun by_ => (Go.Proofs.Ytfijnlhklfmoeaa.Bytes.allOf (fun j => impl_FieldMul.f k (bt a0 (j : Int)) by_) a0.size).bind fun l => some (strOfNums l) else none
theorem impl_weighed.mono : ∀ a0 a1 k, LeO (impl_weighed.f k a0 a1) (impl_weighed.f (k + 1) a0 a1) := by
 intro a0 a1 k
 unfold impl_weighed.f
 refine LeO.ite ?_ (LeO.none _)
 exact LeO.bind (impl_power.mono _ _ _) (fun _ => LeO.bind (Go.Proofs.Ytfijnlhklfmoeaa.Bytes.allOf_mono (fun _ => impl_FieldMul.mono _ _ _) _) (fun _ => LeO.refl _))
set_option maxHeartbeats 8000000 in
set_option maxRecDepth 100000 in
theorem impl_weighed.calls (k : Nat) (a0 : ByteArray) (a1 : Int) (r : ByteArray) (w : World) (h : impl_weighed.f k a0 a1 = some r) :
  Calls Try.prog 58 #[.string a0, .int .i64 a1] w fun e w' => e = .returned (.string r) ∧ Below w.heap.size w w' := by
 unfold impl_weighed.f at h
 by_cases hl : a0.size ≤ 4611686018427387904
 case neg => rw [if_neg hl] at h; cases h
 rw [if_pos hl] at h
 obtain ⟨by_, hp, h⟩ := Option.bind_eq_some_iff.mp h; obtain ⟨l, hall, h⟩ := Option.bind_eq_some_iff.mp h; obtain rfl := Option.some.inj h; clear h; obtain ⟨hll, hlj⟩ := Go.Proofs.Ytfijnlhklfmoeaa.Bytes.allOf_tells hall; clear hall; have HLE := aM hl; have HPW := aM hp; have HLL := aM hll; have HLJ := aM hlj; clear hl hp hll hlj; have hu9 := Try.underlying9; have hu48 := Try.underlying48; have hu5 := Try.underlying5
 go_enter Try.func58, Try.ntmps58
 go_wp2_with (first | ((with_reducible refine gate_callee (f := 63) rfl ?_); refine goesL_ (some 11) rfl rfl Try.func63 (by kernel_rfl) rfl #[.int .u8 2, .int .i64 a1] rfl (by (try simp only [List.map_toArray, List.map_cons, List.map_nil]); first | done | rfl) ?_; (with_reducible refine (impl_power.calls k 2 a1 by_ _ HPW.out).mono ?_); rintro e w' ⟨rfl, ⟨nd, rfl⟩⟩; refine ⟨_, rfl, ?_⟩) | ((with_reducible refine gate_dst (N := 9) rfl ?_); go_loud (refine Go.Proofs.Ytfijnlhklfmoeaa.Bytes.conv_event ?hg (N := 9) ?hd (src := 9) (dst := 48) (e := 5) (s := a0) hu9 hu48 hu5 ?hex ?_); (case hd => rfl); (case hg => rfl); (case hex => go_simp); intro g c w1 hg hrow hbel hc; have HR := aM hrow; have HB := aM hbel; have HG := aM hg; have HC := aM hc; clear hrow hbel hg hc))
 have hL0 := bytesOf_length a0
 go_loopw [14] (fun v14 w' => ∃ (i : Nat) (ys : List Int), i ≤ a0.size ∧ v14 = .int .i64 (i : Int) ∧ Aside0 (Go.Proofs.Ytfijnlhklfmoeaa.Bytes.RowB w' 5 g ys) ∧ Aside0 (ys.length = a0.size) ∧ Aside0 (∀ j : Nat, j < a0.size → ys.getD j 0 = if j < i then l.getD j 0 else bt a0 (j : Int)) ∧ Aside0 (Below w.heap.size w w')) (fun v14 w' => a0.size - (intOf v14).toNat)
 case atStart => exact ⟨0, bytesOf a0, Nat.zero_le _, rfl, ⟨by first | exact HR.out | exact HR.out.drewN⟩, ⟨hL0⟩, ⟨fun j hj => by rw [if_neg (by omega)]; have := rd_bytesOf a0 (j : Int); unfold rd at this; rw [Int.toNat_natCast] at this; exact this⟩, ⟨by repeat (first | exact HB.out | apply zD | apply zN)⟩⟩
 case round =>
  obtain ⟨i, ys, hi, rfl, HRi, HLi, HVi, HBi⟩ := hrel
  by_cases hlt : i < a0.size
  ·have hbig : a0.size ≤ 4611686018427387904 := HLE.out
   have hil : i < ys.length := by rw [HLi.out]; exact hlt
   have hcell := HRi.out.cell i hil; have hv := HVi.out i hlt
   rw [if_neg (by omega)] at hv
   rw [hv] at hcell
   have hfree := HRi.out.free i hil; have HM := aM (HLJ.out i hlt); have HS := aM (HRi.out.set i hil (l.getD i 0))
   have hcell' : ∀ n_ : Nat, (wr.drewN n_).cell? ⟨g, i, none⟩ = some (.int .u8 (bt a0 (i : Int))) := fun n_ => hcell
   have hfree' : ∀ n_ : Nat, (wr.drewN n_).frozen? ⟨g, i, none⟩ = false := fun n_ => hfree
   clear hv
   go_wp2_with (first | ((with_reducible refine gate_callee (f := 74) rfl ?_); refine goesL_ (some 24) rfl rfl Try.func74 (by kernel_rfl) rfl #[.int .u8 (bt a0 (i : Int)), .int .u8 by_] rfl (by (try simp only [List.map_toArray, List.map_cons, List.map_nil]); first | done | rfl) ?_; (with_reducible refine (impl_FieldMul.calls k (bt a0 (i : Int)) by_ (l.getD i 0) _ HM.out).mono ?_); rintro e w' ⟨rfl, ⟨nd2, rfl⟩⟩; refine ⟨_, rfl, ?_⟩))
   go_roundw
   case rel => exact ⟨i + 1, ys.set i (l.getD i 0), by omega, by go_num, ⟨by first | exact HS.out | exact HS.out.drew | exact HS.out.drewN⟩, ⟨by rw [List.length_set]; exact HLi.out⟩, ⟨fun j hj => by
     rw [Go.Proofs.Ytfijnlhklfmoeaa.Bytes.getD_set _ _ _ _ hil]
     by_cases hji : j = i
     ·subst hji; rw [if_pos rfl, if_pos (by omega)]
     ·rw [if_neg hji, HVi.out j hj]
      by_cases h2 : j < i
      ·rw [if_pos h2, if_pos (by omega)]
      ·rw [if_neg h2, if_neg (by omega)]⟩, ⟨by repeat (first | exact HBi.out | apply zD | apply zN | (refine Go.Proofs.Ytfijnlhklfmoeaa.Bytes.RowB.setBelow ?_ (by rw [HG.out]; exact Nat.le_refl _) _ _))⟩⟩
   case measure => simp [intOf]; omega
  ·have hin : i = a0.size := by omega
   have HY := aM (show ys = l by
    apply List.ext_getElem (by rw [HLi.out, HLL.out])
    intro j h1 h2
    have h3 : j < a0.size := by rw [← HLL.out]; exact h2
    have h4 := HVi.out j h3
    rw [if_pos (by omega)] at h4
    rw [List.getD_eq_getElem?_getD, List.getD_eq_getElem?_getD, List.getElem?_eq_getElem h1, List.getElem?_eq_getElem h2] at h4
    simpa using h4)
   have hcv : (convert 48 9 (.slice (some ⟨g, 0, none⟩) a0.size c)).run Try.prog wr = .ok (.string (strOfNums ys)) wr := HRi.out.text hu48 hu5 hu9 _ _ HLi.out.symm; clear hin
   go_wp2
   go_ret
   exact ⟨by rw [← HY.out]; rfl, by repeat (first | exact HBi.out | apply zD | apply zN)⟩


/-! ### impl_parities: function 46 -/
def impl_parities.l0 : Nat → ByteArray → ByteArray → List ByteArray → Int → Int → Option (ByteArray × ByteArray)
 | 0, _, _, _, _, _ => none
 | k + 1, x4, x5, x15, x16, x17 => if x17 < x16 then (if 0 ≤ x17 then (if x17 < (x15.length : Int) then ((impl_xor.f x4 (rdOf ByteArray.empty x15 x17)).bind fun t111 => ((impl_weighed.f k (rdOf ByteArray.empty x15 x17) x17).bind fun t112 => ((impl_xor.f x5 t112).bind fun t113 => (impl_parities.l0 k t111 t113 x15 x16 (wrap64 (x17 + 1)))))) else (none)) else (none)) else (some (x4, x5))
def impl_parities.f (k : Nat) (l0 : List ByteArray) : Option (ByteArray × ByteArray) := if 0 < (l0.length : Int) then (if 0 ≤ ((rdOf ByteArray.empty l0 0).size : Int) then (if (((rdOf ByteArray.empty l0 0).size : Int) : Int).toNat ≤ 281474976710656 then ((some (List.replicate (((rdOf ByteArray.empty l0 0).size : Int) : Int).toNat 0 : List Int)).bind fun y107 => (impl_parities.l0 k (strOfNums y107) (strOfNums y107) l0 (l0.length : Int) 0)) else (none)) else (none)) else (none)
theorem impl_parities.mono_l : ∀ k, (∀ y0 y1 y2 y3 y4, LeO (impl_parities.l0 k y0 y1 y2 y3 y4) (impl_parities.l0 (k + 1) y0 y1 y2 y3 y4))
 | 0 => fun _ _ _ _ _ r h => by change none = some r at h; cases h
 | k + 1 => by
  have ih0 := impl_parities.mono_l k
  ·intro y0 y1 y2 y3 y4
   unfold impl_parities.l0
   repeat' first
   | (with_reducible exact ih0 _ _ _ _ _)
   | (with_reducible exact impl_weighed.mono _ _ _)
   | (with_reducible exact LeO.refl _)
   | (with_reducible exact LeO.none _)
   | (with_reducible refine LeO.ite ?_ ?_)
   | (with_reducible refine LeO.bind ?_ (fun _ => ?_))
   | exact ih0 _ _ _ _ _
   | exact impl_weighed.mono _ _ _
   | exact LeO.none _
   | refine LeO.ite ?_ ?_
   | refine LeO.bind ?_ (fun _ => ?_)
theorem impl_parities.mono : ∀ a0 k, LeO (impl_parities.f k a0) (impl_parities.f (k + 1) a0) := by
 intro a0 k
 have ih0 := impl_parities.mono_l k
 unfold impl_parities.f
 repeat' first
   | (with_reducible exact ih0 _ _ _ _ _)
   | (with_reducible exact impl_weighed.mono _ _ _)
   | (with_reducible exact LeO.refl _)
   | (with_reducible exact LeO.none _)
   | (with_reducible refine LeO.ite ?_ ?_)
   | (with_reducible refine LeO.bind ?_ (fun _ => ?_))
   | exact ih0 _ _ _ _ _
   | exact impl_weighed.mono _ _ _
   | exact LeO.none _
   | refine LeO.ite ?_ ?_
   | refine LeO.bind ?_ (fun _ => ?_)
set_option maxHeartbeats 8000000 in
set_option maxRecDepth 100000 in
theorem impl_parities.calls (k : Nat) (A0 : Option Addr) (c0 : Nat) (l0 : List ByteArray) (r1 : ByteArray) (r2 : ByteArray) (w : World) (hr0 : Kd.C Kd.string w A0 l0.length l0) (hc0 : l0.length ≤ c0) (h : impl_parities.f k l0 = some (r1, r2)) :
  Calls Try.prog 46 #[.slice A0 l0.length c0] w fun e w' => e = .returned (.tuple #[.string r1, .string r2]) ∧ Below w.heap.size w w' := by
 have HR0 := aM hr0; have HC0 := aM hc0; clear hr0 hc0; have HB := aM (Below.refl w.heap.size w)
 have H : (if 0 < (l0.length : Int) then (if 0 ≤ ((rdOf ByteArray.empty l0 0).size : Int) then (if (((rdOf ByteArray.empty l0 0).size : Int) : Int).toNat ≤ 281474976710656 then ((some (List.replicate (((rdOf ByteArray.empty l0 0).size : Int) : Int).toNat 0 : List Int)).bind fun y107 => (impl_parities.l0 k (strOfNums y107) (strOfNums y107) l0 (l0.length : Int) 0)) else (none)) else (none)) else (none)) = some (r1, r2) := h
 clear h
 by_cases c2 : 0 < (l0.length : Int)
 ·rw [if_pos c2] at H
  have c2b0 : decide (0 < (l0.length : Int)) = true := decide_eq_true c2
  have c2b1 : decide (0 < l0.length) = true := decide_eq_true (by omega)
  clear c2
  by_cases c3 : 0 ≤ ((rdOf ByteArray.empty l0 0).size : Int)
  ·rw [if_pos c3] at H
   have c3b0 := eq_true c3; have c3b1 : decide (0 ≤ ((rdOf ByteArray.empty l0 0).size : Int)) = true := decide_eq_true c3; clear c3
   by_cases c4 : (((rdOf ByteArray.empty l0 0).size : Int) : Int).toNat ≤ 281474976710656
   ·rw [if_pos c4] at H
    have c4b0 := eq_true c4; have c4b1 : decide ((((rdOf ByteArray.empty l0 0).size : Int) : Int).toNat ≤ 281474976710656) = true := decide_eq_true c4; clear c4; obtain ⟨y107, hy107⟩ : ∃ y_ : List Int, y_ = (List.replicate (((rdOf ByteArray.empty l0 0).size : Int) : Int).toNat 0) := ⟨_, rfl⟩
    replace H : (impl_parities.l0 k (strOfNums y107) (strOfNums y107) l0 (l0.length : Int) 0) = some (r1, r2) := by first | (rw [hy107]; with_reducible exact H) | (have H2_ := (Option.bind_some _ _).symm.trans H; rw [hy107]; with_reducible exact H2_) | (have H2_ := (Option.bind_some _ _).symm.trans H; with_reducible exact H2_) | with_reducible exact H | (rw [hy107]; exact H) | exact H
    have Ny107 := aM hy107; clear hy107; have H' := aM H; clear H
    have p106 : 0 ≤ (0 : Int) := (by omega)
    have q106 : 0 < (l0.length : Int) := of_decide_eq_true (by first | (with_reducible assumption) | assumption)
    obtain ⟨ad106, e106, hx106_0⟩ := Kd.at_string HR0.out 0 p106 q106
    cases e106
    have qi106 : (0 < l0.length) = True := eq_true (by omega)
    (try rw [show ((0 : Int)).toNat = 0 from rfl] at hx106_0)
    (try rw [Addr.add_zero'] at hx106_0)
    replace p106 := eq_true p106; replace q106 := eq_true q106
    go_enter Try.func46, Try.ntmps46
    go_wp2_with (first | ((with_reducible refine gate_dst (N := 12) rfl ?_); refine Kd.R_make (Kd.int .u8) _ 5 rfl (N := 12) rfl 48 _ _ rfl ((rdOf ByteArray.empty l0 0).size : Int) rfl rfl Try.underlying48 (.int .u8 0) 1 info5 rfl (by decide) (by omega) 0 (ok := fun _ => True) (okp := fun _ => True) rfl (fun _ hk => hk) trivial (of_decide_eq_true (by first | (with_reducible assumption) | assumption)) (Nat.le_trans (Nat.mul_le_mul_right _ (of_decide_eq_true (by first | (with_reducible assumption) | assumption) : ((rdOf ByteArray.empty l0 0).size : Int).toNat ≤ 281474976710656)) (by omega)) (Below.refl _ _) (Nat.le_refl _) ?_; intro v108 w5 ho6 hb hg_ hnew_; clear hg_ hnew_; (first | rw [← Ny107.out] at ho6 | (simp only [Int.reduceToNat] at ho6; rw [← Ny107.out] at ho6)); have HO109 := aM (xL ho6 (zZ (zH HB.out))); replace HB := aM (zT (zH HB.out) hb); clear hb ho6; have hcv7 := own_string (P := Try.prog) Try.underlying48 Try.underlying5 Try.underlying9 (Kd.own_of_R HO109.out)))
    go_loopg [4, 5, 17] k (fun kq v4 v5 v17 w' => ∃ (x4_1 : ByteArray) (x5_1 : ByteArray) (x17_1 : Int), v4 = .string x4_1 ∧ v5 = .string x5_1 ∧ v17 = .int .i64 x17_1 ∧ Aside0 (impl_parities.l0 kq x4_1 x5_1 l0 (l0.length : Int) x17_1 = some (r1, r2)) ∧ Aside0 (kq ≤ k) ∧ Aside0 (Below w.heap.size w w'))
    case atStart => exact ⟨(strOfNums y107), (strOfNums y107), (0), (by first | rfl | (simp; done) | (simp [*]; done)), (by first | rfl | (simp; done) | (simp [*]; done)), (by first | rfl | (simp; done) | (simp [*]; done)), H', ⟨Nat.le_refl _⟩, ⟨zH HB.out⟩⟩
    case round =>
     clear H'
     (try clear c2); (try clear c2b0); (try clear c2b1); (try clear c3); (try clear c3b0); (try clear c3b1); (try clear c4); (try clear c4b0); (try clear c4b1); (try clear hcv7); (try clear hx106_0); (try clear p106); (try clear q106)
     obtain ⟨x4_1, x5_1, x17_1, rfl, rfl, rfl, HA, HK1, HB⟩ := hrel
     cases gk with
     | zero => exact absurd HA.out (fun h_ => by change none = some _ at h_; cases h_)
     | succ k1 =>
      have H := HA.out; clear HA
      simp only [impl_parities.l0] at H
      by_cases c8 : x17_1 < (l0.length : Int)
      ·rw [if_pos c8] at H
       have c8b0 : decide (x17_1 < (l0.length : Int)) = true := decide_eq_true c8; clear c8
       by_cases c9 : 0 ≤ x17_1
       ·rw [if_pos c9] at H
        have c9b0 : decide (0 ≤ x17_1) = true := decide_eq_true c9; clear c9
        by_cases c10 : x17_1 < (l0.length : Int)
        ·rw [if_pos c10] at H
         have c10b0 : decide (x17_1 < (l0.length : Int)) = true := decide_eq_true c10; clear c10; replace H := Option.bind_eq_some_iff.mp H; obtain ⟨t111, A110, H⟩ := H
         replace H : ((impl_weighed.f k1 (rdOf ByteArray.empty l0 x17_1) x17_1).bind fun t112 => ((impl_xor.f x5_1 t112).bind fun t113 => (impl_parities.l0 k1 t111 t113 l0 (l0.length : Int) (wrap64 (x17_1 + 1))))) = some (r1, r2) := H
         have A11 := aM A110; clear A110; replace H := Option.bind_eq_some_iff.mp H; obtain ⟨t112, A120, H⟩ := H
         replace H : ((impl_xor.f x5_1 t112).bind fun t113 => (impl_parities.l0 k1 t111 t113 l0 (l0.length : Int) (wrap64 (x17_1 + 1)))) = some (r1, r2) := H
         have A12 := aM A120; clear A120; replace H := Option.bind_eq_some_iff.mp H; obtain ⟨t113, A130, H⟩ := H; replace H : (impl_parities.l0 k1 t111 t113 l0 (l0.length : Int) (wrap64 (x17_1 + 1))) = some (r1, r2) := H; have A13 := aM A130; clear A130; have H' := aM H; clear H
         have p110 : 0 ≤ (x17_1 : Int) := of_decide_eq_true (by first | (with_reducible assumption) | assumption)
         have q110 : x17_1 < (l0.length : Int) := of_decide_eq_true (by first | (with_reducible assumption) | assumption)
         obtain ⟨ad110, e110, hx110_0⟩ := Kd.at_string HR0.out x17_1 p110 q110
         obtain rfl : ad106 = ad110 := (by injection e110)
         replace hx110_0 := (HB.out.cell (World.block_lt_of_cell? w _ hx110_0)).trans hx110_0; replace p110 := eq_true p110; replace q110 := eq_true q110
         go_wp2_with (first | ((with_reducible refine gate_callee (f := 57) rfl ?_); refine goesL_ (some 24) rfl rfl Try.func57 (by kernel_rfl) rfl #[.string x4_1, .string (rdOf ByteArray.empty l0 x17_1)] rfl mA ?_; (with_reducible refine (impl_xor.calls x4_1 (rdOf ByteArray.empty l0 x17_1) t111 _ A11.out).mono ?_); rintro e w14 ⟨rfl, hb⟩; refine ⟨_, rfl, ?_⟩; replace HB := aM (zT (zH HB.out) hb); (try clear hb)) | ((with_reducible refine gate_callee (f := 58) rfl ?_); refine goesL_ (some 28) rfl rfl Try.func58 (by kernel_rfl) rfl #[.string (rdOf ByteArray.empty l0 x17_1), .int .i64 x17_1] rfl mA ?_; (with_reducible refine (impl_weighed.calls k1 (rdOf ByteArray.empty l0 x17_1) x17_1 t112 _ A12.out).mono ?_); rintro e w15 ⟨rfl, hb⟩; refine ⟨_, rfl, ?_⟩; replace HB := aM (zT (zH HB.out) hb); (try clear hb)) | ((with_reducible refine gate_callee (f := 57) rfl ?_); refine goesL_ (some 29) rfl rfl Try.func57 (by kernel_rfl) rfl #[.string x5_1, .string t112] rfl mA ?_; (with_reducible refine (impl_xor.calls x5_1 t112 t113 _ A13.out).mono ?_); rintro e w16 ⟨rfl, hb⟩; refine ⟨_, rfl, ?_⟩; replace HB := aM (zT (zH HB.out) hb); (try clear hb)))
         go_roundg k1
         case measure => have := HK1.out; omega
         case rel => exact ⟨(t111), (t113), (wrap64 (x17_1 + 1)), (by first | rfl | (simp; done) | (simp [*]; done)), (by first | rfl | (simp; done) | (simp [*]; done)), (by first | rfl | (simp; done) | (simp [*]; done)), H', ⟨by have := HK1.out; omega⟩, ⟨zH HB.out⟩⟩
        ·rw [if_neg c10] at H
         exact absurd H (by simp)
       ·rw [if_neg c9] at H
        exact absurd H (by simp)
      ·rw [if_neg c8] at H
       have c8b0 : decide (x17_1 < (l0.length : Int)) = false := decide_eq_false c8; clear c8
       simp only [Option.some.injEq, Prod.mk.injEq] at H
       obtain ⟨rfl, rfl⟩ := H
       go_wp2
       go_ret2
       exact ⟨eW, zH HB.out⟩
   ·rw [if_neg c4] at H
    exact absurd H (by simp)
  ·rw [if_neg c3] at H
   exact absurd H (by simp)
 ·rw [if_neg c2] at H
  exact absurd H (by simp)

/-! ### impl_isConsistent: function 44 -/
def impl_isConsistent.f (k : Nat) (l0_0 : List ByteArray) (a0_1 : ByteArray) (a0_2 : ByteArray) : Option (Bool) := (impl_parities.f k l0_0).bind fun bt115 => (if a0_1.toList = bt115.1.toList then (some (a0_2.toList == bt115.2.toList)) else (some false))
theorem impl_isConsistent.mono : ∀ a0 a1 a2 k, LeO (impl_isConsistent.f k a0 a1 a2) (impl_isConsistent.f (k + 1) a0 a1 a2) := by
 intro a0 a1 a2 k
 unfold impl_isConsistent.f
 repeat' first
   | (with_reducible exact impl_parities.mono _ _)
   | (with_reducible exact LeO.refl _)
   | (with_reducible exact LeO.none _)
   | (with_reducible refine LeO.ite ?_ ?_)
   | (with_reducible refine LeO.bind ?_ (fun _ => ?_))
   | exact impl_parities.mono _ _
   | exact LeO.none _
   | refine LeO.ite ?_ ?_
   | refine LeO.bind ?_ (fun _ => ?_)
set_option maxHeartbeats 8000000 in
set_option maxRecDepth 100000 in
theorem impl_isConsistent.calls (k : Nat) (A0_0 : Option Addr) (c0_0 : Nat) (l0_0 : List ByteArray) (a0_1 : ByteArray) (a0_2 : ByteArray) (r : Bool) (w : World) (hr0_0 : Kd.C Kd.string w A0_0 l0_0.length l0_0) (hc0_0 : l0_0.length ≤ c0_0) (h : impl_isConsistent.f k l0_0 a0_1 a0_2 = some r) :
  Calls Try.prog 44 #[.agg #[.slice A0_0 l0_0.length c0_0, .string a0_1, .string a0_2]] w fun e w' => e = .returned (.bool r) ∧ Below w.heap.size w w' := by
 have hu27 := Try.underlying27; have HR0_0 := aM hr0_0; have HC0_0 := aM hc0_0; clear hr0_0 hc0_0; have HB := aM (Below.refl w.heap.size w)
 have H : ((impl_parities.f k l0_0).bind fun bt115 => (if a0_1.toList = bt115.1.toList then (some (a0_2.toList == bt115.2.toList)) else (some false))) = some r := h
 clear h; replace H := Option.bind_eq_some_iff.mp H; obtain ⟨⟨t115, t116⟩, A20, H⟩ := H; replace H : (if a0_1.toList = t115.toList then (some (a0_2.toList == t116.toList)) else (some false)) = some r := H; have A2 := aM A20; clear A20
 by_cases c3 : a0_1.toList = t115.toList
 ·rw [if_pos c3] at H
  have c3b0 : (a0_1.toList == t115.toList) = true := beq_iff_eq.mpr c3; have c3b1 : (a0_1.toList != t115.toList) = false := bne_eq_false_iff_eq.mpr c3; clear c3; obtain rfl := Option.some.inj H
  go_enter Try.func44, Try.ntmps44
  go_wp2_with (first | ((with_reducible refine gate_dst (N := 1) rfl ?_); refine box_event ?hg (N := 1) ?hd (cs := #[.slice A0_0 l0_0.length c0_0, .string a0_1, .string a0_2]) (t := 27) ?hr ?_; (case hd => rfl); (case hg => rfl); (case hr => first | (go_simp; done) | (go_simp; rfl)); intro gb114 hg w4 hbox hb; have BK114 := aM (hbox); have GW114 := aM ((by rw [hg]; exact (zZ (zH HB.out)) : w.heap.size ≤ gb114)); have GE114 := aM ((by rw [hg]; exact (zZ (zH HB.out)) : w.heap.size ≤ gb114)); replace HB := aM (zT (zH HB.out) hb); clear hb hbox hg; have hcz5_0 : w4.cell? ⟨gb114, 0, none⟩ = some (.slice A0_0 l0_0.length c0_0) := yc BK114.out 0; have hcz5_1 : w4.cell? ⟨gb114, 1, none⟩ = some (.string a0_1) := yc BK114.out 1; have hcz5_2 : w4.cell? ⟨gb114, 2, none⟩ = some (.string a0_2) := yc BK114.out 2; have hfz5_0 := yZ BK114.out 0; have hfz5_1 := yZ BK114.out 1; have hfz5_2 := yZ BK114.out 2) | ((with_reducible refine gate_callee (f := 46) rfl ?_); refine goesL_ (some 8) rfl rfl Try.func46 (by kernel_rfl) rfl #[.slice A0_0 l0_0.length c0_0] rfl mA ?_; (with_reducible refine (impl_parities.calls k _ _ l0_0 t115 t116 _ ?side1 ?side2 A2.out).mono ?_); (case side1 => exact cK HR0_0.out HB.out); (case side2 => exact HC0_0.out); rintro e w6 ⟨rfl, hb⟩; refine ⟨_, rfl, ?_⟩; replace BK114 := yK BK114.out hb; replace HB := aM (zT (zH HB.out) hb); (try clear hb); have hcz7_0 : w6.cell? ⟨gb114, 0, none⟩ = some (.slice A0_0 l0_0.length c0_0) := yc BK114.out 0; have hcz7_1 : w6.cell? ⟨gb114, 1, none⟩ = some (.string a0_1) := yc BK114.out 1; have hcz7_2 : w6.cell? ⟨gb114, 2, none⟩ = some (.string a0_2) := yc BK114.out 2; have hfz7_0 := yZ BK114.out 0; have hfz7_1 := yZ BK114.out 1; have hfz7_2 := yZ BK114.out 2))
  go_ret
  exact ⟨eW, zH HB.out⟩
 ·rw [if_neg c3] at H
  have c3b0 : (a0_1.toList == t115.toList) = false := beq_eq_false_iff_ne.mpr c3; have c3b1 : (a0_1.toList != t115.toList) = true := bne_iff_ne.mpr c3; obtain rfl := Option.some.inj H
  go_enter Try.func44, Try.ntmps44
  go_wp2_with (first | ((with_reducible refine gate_dst (N := 1) rfl ?_); refine box_event ?hg (N := 1) ?hd (cs := #[.slice A0_0 l0_0.length c0_0, .string a0_1, .string a0_2]) (t := 27) ?hr ?_; (case hd => rfl); (case hg => rfl); (case hr => first | (go_simp; done) | (go_simp; rfl)); intro gb114 hg w8 hbox hb; have BK114 := aM (hbox); have GW114 := aM ((by rw [hg]; exact (zZ (zH HB.out)) : w.heap.size ≤ gb114)); have GE114 := aM ((by rw [hg]; exact (zZ (zH HB.out)) : w.heap.size ≤ gb114)); replace HB := aM (zT (zH HB.out) hb); clear hb hbox hg; have hcz9_0 : w8.cell? ⟨gb114, 0, none⟩ = some (.slice A0_0 l0_0.length c0_0) := yc BK114.out 0; have hcz9_1 : w8.cell? ⟨gb114, 1, none⟩ = some (.string a0_1) := yc BK114.out 1; have hcz9_2 : w8.cell? ⟨gb114, 2, none⟩ = some (.string a0_2) := yc BK114.out 2; have hfz9_0 := yZ BK114.out 0; have hfz9_1 := yZ BK114.out 1; have hfz9_2 := yZ BK114.out 2) | ((with_reducible refine gate_callee (f := 46) rfl ?_); refine goesL_ (some 8) rfl rfl Try.func46 (by kernel_rfl) rfl #[.slice A0_0 l0_0.length c0_0] rfl mA ?_; (with_reducible refine (impl_parities.calls k _ _ l0_0 t115 t116 _ ?side1 ?side2 A2.out).mono ?_); (case side1 => exact cK HR0_0.out HB.out); (case side2 => exact HC0_0.out); rintro e w10 ⟨rfl, hb⟩; refine ⟨_, rfl, ?_⟩; replace BK114 := yK BK114.out hb; replace HB := aM (zT (zH HB.out) hb); (try clear hb); have hcz11_0 : w10.cell? ⟨gb114, 0, none⟩ = some (.slice A0_0 l0_0.length c0_0) := yc BK114.out 0; have hcz11_1 : w10.cell? ⟨gb114, 1, none⟩ = some (.string a0_1) := yc BK114.out 1; have hcz11_2 : w10.cell? ⟨gb114, 2, none⟩ = some (.string a0_2) := yc BK114.out 2; have hfz11_0 := yZ BK114.out 0; have hfz11_1 := yZ BK114.out 1; have hfz11_2 := yZ BK114.out 2))
  go_ret
  exact ⟨eW, zH HB.out⟩

/-! ### impl_CheckStripe: function 18 -/
def impl_CheckStripe.f (k : Nat) (l0_0 : List ByteArray) (a0_1 : ByteArray) (a0_2 : ByteArray) : Option (Bool × Bool) := (impl_GoodStripe.f l0_0 a0_1 a0_2).bind fun t118 => (if t118 = true then ((impl_isConsistent.f k l0_0 a0_1 a0_2).bind fun t119 => (some (t119, true))) else (some (false, false)))
theorem impl_CheckStripe.mono : ∀ a0 a1 a2 k, LeO (impl_CheckStripe.f k a0 a1 a2) (impl_CheckStripe.f (k + 1) a0 a1 a2) := by
 intro a0 a1 a2 k
 unfold impl_CheckStripe.f
 repeat' first
   | (with_reducible exact impl_isConsistent.mono _ _ _ _)
   | (with_reducible exact LeO.refl _)
   | (with_reducible exact LeO.none _)
   | (with_reducible refine LeO.ite ?_ ?_)
   | (with_reducible refine LeO.bind ?_ (fun _ => ?_))
   | exact impl_isConsistent.mono _ _ _ _
   | exact LeO.none _
   | refine LeO.ite ?_ ?_
   | refine LeO.bind ?_ (fun _ => ?_)
set_option maxHeartbeats 8000000 in
set_option maxRecDepth 100000 in
theorem impl_CheckStripe.calls (k : Nat) (A0_0 : Option Addr) (c0_0 : Nat) (l0_0 : List ByteArray) (a0_1 : ByteArray) (a0_2 : ByteArray) (r1 : Bool) (r2 : Bool) (w : World) (hr0_0 : Kd.C Kd.string w A0_0 l0_0.length l0_0) (hc0_0 : l0_0.length ≤ c0_0) (h : impl_CheckStripe.f k l0_0 a0_1 a0_2 = some (r1, r2)) :
  Calls Try.prog 18 #[.agg #[.slice A0_0 l0_0.length c0_0, .string a0_1, .string a0_2]] w fun e w' => e = .returned (.tuple #[.bool r1, .bool r2]) ∧ Below w.heap.size w w' := by
 have hu27 := Try.underlying27; have HR0_0 := aM hr0_0; have HC0_0 := aM hc0_0; clear hr0_0 hc0_0; have HB := aM (Below.refl w.heap.size w)
 have H : ((impl_GoodStripe.f l0_0 a0_1 a0_2).bind fun t118 => (if t118 = true then ((impl_isConsistent.f k l0_0 a0_1 a0_2).bind fun t119 => (some (t119, true))) else (some (false, false)))) = some (r1, r2) := h
 clear h; replace H := Option.bind_eq_some_iff.mp H; obtain ⟨t118, A20, H⟩ := H
 replace H : (if t118 = true then ((impl_isConsistent.f k l0_0 a0_1 a0_2).bind fun t119 => (some (t119, true))) else (some (false, false))) = some (r1, r2) := H
 have A2 := aM A20; clear A20
 by_cases c3 : t118 = true
 ·subst c3
  have H1 : ((impl_isConsistent.f k l0_0 a0_1 a0_2).bind fun t119 => (some (t119, true))) = some (r1, r2) := by rw [if_pos rfl] at H; exact H
  clear H; have H := H1; clear H1; replace H := Option.bind_eq_some_iff.mp H; obtain ⟨t119, A40, H⟩ := H; replace H : (some (t119, true)) = some (r1, r2) := H; have A4 := aM A40; clear A40
  simp only [Option.some.injEq, Prod.mk.injEq] at H
  obtain ⟨rfl, rfl⟩ := H
  go_enter Try.func18, Try.ntmps18
  go_wp2_with (first | ((with_reducible refine gate_dst (N := 1) rfl ?_); refine box_event ?hg (N := 1) ?hd (cs := #[.slice A0_0 l0_0.length c0_0, .string a0_1, .string a0_2]) (t := 27) ?hr ?_; (case hd => rfl); (case hg => rfl); (case hr => first | (go_simp; done) | (go_simp; rfl)); intro gb117 hg w5 hbox hb; have BK117 := aM (hbox); have GW117 := aM ((by rw [hg]; exact (zZ (zH HB.out)) : w.heap.size ≤ gb117)); have GE117 := aM ((by rw [hg]; exact (zZ (zH HB.out)) : w.heap.size ≤ gb117)); replace HB := aM (zT (zH HB.out) hb); clear hb hbox hg; have hcz6_0 : w5.cell? ⟨gb117, 0, none⟩ = some (.slice A0_0 l0_0.length c0_0) := yc BK117.out 0; have hcz6_1 : w5.cell? ⟨gb117, 1, none⟩ = some (.string a0_1) := yc BK117.out 1; have hcz6_2 : w5.cell? ⟨gb117, 2, none⟩ = some (.string a0_2) := yc BK117.out 2; have hfz6_0 := yZ BK117.out 0; have hfz6_1 := yZ BK117.out 1; have hfz6_2 := yZ BK117.out 2) | ((with_reducible refine gate_callee (f := 15) rfl ?_); refine goesL_ (some 5) rfl rfl Try.func15 (by kernel_rfl) rfl #[.agg #[.slice A0_0 l0_0.length c0_0, .string a0_1, .string a0_2]] rfl mA ?_; (with_reducible refine (impl_GoodStripe.calls _ _ l0_0 a0_1 a0_2 true _ ?side1 ?side2 A2.out).mono ?_); (case side1 => exact cK HR0_0.out HB.out); (case side2 => exact HC0_0.out); rintro e w7 ⟨rfl, hb⟩; refine ⟨_, rfl, ?_⟩; replace BK117 := yK BK117.out hb; replace HB := aM (zT (zH HB.out) hb); (try clear hb); have hcz8_0 : w7.cell? ⟨gb117, 0, none⟩ = some (.slice A0_0 l0_0.length c0_0) := yc BK117.out 0; have hcz8_1 : w7.cell? ⟨gb117, 1, none⟩ = some (.string a0_1) := yc BK117.out 1; have hcz8_2 : w7.cell? ⟨gb117, 2, none⟩ = some (.string a0_2) := yc BK117.out 2; have hfz8_0 := yZ BK117.out 0; have hfz8_1 := yZ BK117.out 1; have hfz8_2 := yZ BK117.out 2) | ((with_reducible refine gate_callee (f := 44) rfl ?_); refine goesL_ (some 8) rfl rfl Try.func44 (by kernel_rfl) rfl #[.agg #[.slice A0_0 l0_0.length c0_0, .string a0_1, .string a0_2]] rfl mA ?_; (with_reducible refine (impl_isConsistent.calls k _ _ l0_0 a0_1 a0_2 t119 _ ?side1 ?side2 A4.out).mono ?_); (case side1 => exact cK HR0_0.out HB.out); (case side2 => exact HC0_0.out); rintro e w9 ⟨rfl, hb⟩; refine ⟨_, rfl, ?_⟩; replace BK117 := yK BK117.out hb; replace HB := aM (zT (zH HB.out) hb); (try clear hb)))
  go_ret2
  exact ⟨eW, zH HB.out⟩
 ·replace c3 := Bool.eq_false_iff.mpr c3
  subst c3
  have H1 : (some (false, false)) = some (r1, r2) := by rw [if_neg (show ¬ (false = true) by decide)] at H; exact H
  clear H; have H := H1; clear H1
  simp only [Option.some.injEq, Prod.mk.injEq] at H
  obtain ⟨rfl, rfl⟩ := H
  go_enter Try.func18, Try.ntmps18
  go_wp2_with (first | ((with_reducible refine gate_dst (N := 1) rfl ?_); refine box_event ?hg (N := 1) ?hd (cs := #[.slice A0_0 l0_0.length c0_0, .string a0_1, .string a0_2]) (t := 27) ?hr ?_; (case hd => rfl); (case hg => rfl); (case hr => first | (go_simp; done) | (go_simp; rfl)); intro gb117 hg w10 hbox hb; have BK117 := aM (hbox); have GW117 := aM ((by rw [hg]; exact (zZ (zH HB.out)) : w.heap.size ≤ gb117)); have GE117 := aM ((by rw [hg]; exact (zZ (zH HB.out)) : w.heap.size ≤ gb117)); replace HB := aM (zT (zH HB.out) hb); clear hb hbox hg; have hcz11_0 : w10.cell? ⟨gb117, 0, none⟩ = some (.slice A0_0 l0_0.length c0_0) := yc BK117.out 0; have hcz11_1 : w10.cell? ⟨gb117, 1, none⟩ = some (.string a0_1) := yc BK117.out 1; have hcz11_2 : w10.cell? ⟨gb117, 2, none⟩ = some (.string a0_2) := yc BK117.out 2; have hfz11_0 := yZ BK117.out 0; have hfz11_1 := yZ BK117.out 1; have hfz11_2 := yZ BK117.out 2) | ((with_reducible refine gate_callee (f := 15) rfl ?_); refine goesL_ (some 5) rfl rfl Try.func15 (by kernel_rfl) rfl #[.agg #[.slice A0_0 l0_0.length c0_0, .string a0_1, .string a0_2]] rfl mA ?_; (with_reducible refine (impl_GoodStripe.calls _ _ l0_0 a0_1 a0_2 false _ ?side1 ?side2 A2.out).mono ?_); (case side1 => exact cK HR0_0.out HB.out); (case side2 => exact HC0_0.out); rintro e w12 ⟨rfl, hb⟩; refine ⟨_, rfl, ?_⟩; replace BK117 := yK BK117.out hb; replace HB := aM (zT (zH HB.out) hb); (try clear hb)))
  go_ret2
  exact ⟨eW, zH HB.out⟩

/-! ### spec_l1In: function 50 -/
def spec_l1In.f (a0 : Int) (a1 : Int) (a2 : Int) : Option (Bool) := if a0 ≥ a1 then (some (decide (a0 ≤ a2))) else (some false)
set_option maxHeartbeats 8000000 in
set_option maxRecDepth 100000 in
theorem spec_l1In.calls (a0 : Int) (a1 : Int) (a2 : Int) (r : Bool) (w : World) (h : spec_l1In.f a0 a1 a2 = some r) :
  Calls Try.prog 50 #[.int .i64 a0, .int .i64 a1, .int .i64 a2] w fun e w' => e = .returned (.bool r) ∧ Drawn0 w w' := by
 have H : (if a0 ≥ a1 then (some (decide (a0 ≤ a2))) else (some false)) = some r := h; clear h
 by_cases c4 : a0 ≥ a1
 ·rw [if_pos c4] at H
  have c4b0 : decide (a1 ≤ a0) = true := decide_eq_true c4; clear c4; obtain rfl := Option.some.inj H
  go_enter Try.func50, Try.ntmps50
  go_wp2
  go_ret
  exact ⟨by first | rfl | (simp; done) | (simp [*]; done), by repeat (first | exact Drawn0.refl _ | apply Drawn0.step)⟩
 ·rw [if_neg c4] at H
  have c4b0 : decide (a1 ≤ a0) = false := decide_eq_false c4; clear c4; obtain rfl := Option.some.inj H
  go_enter Try.func50, Try.ntmps50
  go_wp2
  go_ret
  exact ⟨by first | rfl | (simp; done) | (simp [*]; done), by repeat (first | exact Drawn0.refl _ | apply Drawn0.step)⟩

/-! ### spec_l3Data: function 41 -/
def spec_l3Data.l0 : Nat → List ByteArray → List ByteArray → Int → Int → Option (Bool)
 | 0, _, _, _, _ => none
 | k + 1, x0, x5, x6, x7 => if x7 < x6 then (if 0 ≤ x7 then (if x7 < (x5.length : Int) then (if 0 < (x0.length : Int) then (if ((rdOf ByteArray.empty x5 x7).size : Int) = ((rdOf ByteArray.empty x0 0).size : Int) then (spec_l3Data.l0 k x0 x5 x6 (wrap64 (x7 + 1))) else (some false)) else (none)) else (none)) else (none)) else ((spec_l1In.f (x0.length : Int) 1 16).bind fun t122 => (if t122 = true then (if 0 < (x0.length : Int) then (some (decide (((rdOf ByteArray.empty x0 0).size : Int) ≤ 40))) else (none)) else (some false)))
def spec_l3Data.f (k : Nat) (l0 : List ByteArray) : Option (Bool) := spec_l3Data.l0 k l0 l0 (l0.length : Int) 0
theorem spec_l3Data.mono_l : ∀ k, (∀ y0 y1 y2 y3, LeO (spec_l3Data.l0 k y0 y1 y2 y3) (spec_l3Data.l0 (k + 1) y0 y1 y2 y3))
 | 0 => fun _ _ _ _ r h => by change none = some r at h; cases h
 | k + 1 => by
  have ih0 := spec_l3Data.mono_l k
  ·intro y0 y1 y2 y3
   unfold spec_l3Data.l0
   repeat' first
   | (with_reducible exact ih0 _ _ _ _)
   | (with_reducible exact LeO.refl _)
   | (with_reducible exact LeO.none _)
   | (with_reducible refine LeO.ite ?_ ?_)
   | (with_reducible refine LeO.bind ?_ (fun _ => ?_))
   | exact ih0 _ _ _ _
   | exact LeO.none _
   | refine LeO.ite ?_ ?_
   | refine LeO.bind ?_ (fun _ => ?_)
theorem spec_l3Data.mono : ∀ a0 k, LeO (spec_l3Data.f k a0) (spec_l3Data.f (k + 1) a0) := by
 intro a0 k
 have ih0 := spec_l3Data.mono_l k
 unfold spec_l3Data.f
 repeat' first
   | (with_reducible exact ih0 _ _ _ _)
   | (with_reducible exact LeO.refl _)
   | (with_reducible exact LeO.none _)
   | (with_reducible refine LeO.ite ?_ ?_)
   | (with_reducible refine LeO.bind ?_ (fun _ => ?_))
   | exact ih0 _ _ _ _
   | exact LeO.none _
   | refine LeO.ite ?_ ?_
   | refine LeO.bind ?_ (fun _ => ?_)
set_option maxHeartbeats 8000000 in
set_option maxRecDepth 100000 in
theorem spec_l3Data.calls (k : Nat) (A0 : Option Addr) (c0 : Nat) (l0 : List ByteArray) (r : Bool) (w : World) (hr0 : Kd.C Kd.string w A0 l0.length l0) (hc0 : l0.length ≤ c0) (h : spec_l3Data.f k l0 = some r) :
  Calls Try.prog 41 #[.slice A0 l0.length c0] w fun e w' => e = .returned (.bool r) ∧ Drawn0 w w' := by
 have HR0 := aM hr0; have HC0 := aM hc0; clear hr0 hc0; have H : (spec_l3Data.l0 k l0 l0 (l0.length : Int) 0) = some r := h; clear h; have H' := aM H; clear H
 go_enter Try.func41, Try.ntmps41
 go_wp2
 go_loopg [7] k (fun kq v7 w' => ∃ (x7_1 : Int), v7 = .int .i64 x7_1 ∧ Aside0 (spec_l3Data.l0 kq l0 l0 (l0.length : Int) x7_1 = some r) ∧ Aside0 (kq ≤ k) ∧ Drawn0 w w')
 case atStart => exact ⟨(0), (by first | rfl | (simp; done) | (simp [*]; done)), H', ⟨Nat.le_refl _⟩, by repeat (first | exact Drawn0.refl _ | apply Drawn0.step)⟩
 case round =>
  clear H'; obtain ⟨x7_1, rfl, HA, HK1, ⟨m1, rfl⟩⟩ := hrel
  cases gk with
  | zero => exact absurd HA.out (fun h_ => by change none = some _ at h_; cases h_)
  | succ k1 =>
   have H := HA.out; clear HA
   simp only [spec_l3Data.l0] at H
   by_cases c2 : x7_1 < (l0.length : Int)
   ·rw [if_pos c2] at H
    have c2b0 : decide (x7_1 < (l0.length : Int)) = true := decide_eq_true c2; clear c2
    by_cases c3 : 0 ≤ x7_1
    ·rw [if_pos c3] at H
     have c3b0 : decide (0 ≤ x7_1) = true := decide_eq_true c3; clear c3
     by_cases c4 : x7_1 < (l0.length : Int)
     ·rw [if_pos c4] at H
      have c4b0 : decide (x7_1 < (l0.length : Int)) = true := decide_eq_true c4; clear c4
      by_cases c5 : 0 < (l0.length : Int)
      ·rw [if_pos c5] at H
       have c5b0 : decide (0 < (l0.length : Int)) = true := decide_eq_true c5
       have c5b1 : decide (0 < l0.length) = true := decide_eq_true (by omega)
       clear c5
       by_cases c6 : ((rdOf ByteArray.empty l0 x7_1).size : Int) = ((rdOf ByteArray.empty l0 0).size : Int)
       ·rw [if_pos c6] at H
        have c6b0 : (((rdOf ByteArray.empty l0 x7_1).size : Int) == ((rdOf ByteArray.empty l0 0).size : Int)) = true := beq_iff_eq.mpr c6; have c6b1 : (((rdOf ByteArray.empty l0 x7_1).size : Int) != ((rdOf ByteArray.empty l0 0).size : Int)) = false := bne_eq_false_iff_eq.mpr c6
        have c6b2 : ((rdOf ByteArray.empty l0 x7_1).size == (rdOf ByteArray.empty l0 0).size) = true := by first | simpa using c6 | (simp at c6 ⊢; omega)
        clear c6; have H' := aM H; clear H
        have p120 : 0 ≤ (x7_1 : Int) := of_decide_eq_true (by first | (with_reducible assumption) | assumption)
        have q120 : x7_1 < (l0.length : Int) := of_decide_eq_true (by first | (with_reducible assumption) | assumption)
        obtain ⟨ad120, e120, hx120_0⟩ := Kd.at_string HR0.out x7_1 p120 q120
        cases e120
        replace p120 := eq_true p120; replace q120 := eq_true q120
        have p121 : 0 ≤ (0 : Int) := (by omega)
        have q121 : 0 < (l0.length : Int) := of_decide_eq_true (by first | (with_reducible assumption) | assumption)
        obtain ⟨ad121, e121, hx121_0⟩ := Kd.at_string HR0.out 0 p121 q121
        obtain rfl : ad120 = ad121 := (by injection e121)
        have qi121 : (0 < l0.length) = True := eq_true (by omega)
        (try rw [show ((0 : Int)).toNat = 0 from rfl] at hx121_0)
        (try rw [Addr.add_zero'] at hx121_0)
        replace p121 := eq_true p121; replace q121 := eq_true q121
        go_wp2
        go_roundg k1
        case measure => have := HK1.out; omega
        case rel => exact ⟨(wrap64 (x7_1 + 1)), (by first | rfl | (simp; done) | (simp [*]; done)), H', ⟨by have := HK1.out; omega⟩, by repeat (first | exact Drawn0.refl _ | apply Drawn0.step)⟩
       ·rw [if_neg c6] at H
        have c6b0 : (((rdOf ByteArray.empty l0 x7_1).size : Int) == ((rdOf ByteArray.empty l0 0).size : Int)) = false := beq_eq_false_iff_ne.mpr c6; have c6b1 : (((rdOf ByteArray.empty l0 x7_1).size : Int) != ((rdOf ByteArray.empty l0 0).size : Int)) = true := bne_iff_ne.mpr c6
        have c6b2 : ((rdOf ByteArray.empty l0 x7_1).size == (rdOf ByteArray.empty l0 0).size) = false := by first | simpa using c6 | (simp at c6 ⊢; omega)
        obtain rfl := Option.some.inj H
        have p120 : 0 ≤ (x7_1 : Int) := of_decide_eq_true (by first | (with_reducible assumption) | assumption)
        have q120 : x7_1 < (l0.length : Int) := of_decide_eq_true (by first | (with_reducible assumption) | assumption)
        obtain ⟨ad120, e120, hx120_0⟩ := Kd.at_string HR0.out x7_1 p120 q120
        cases e120
        replace p120 := eq_true p120; replace q120 := eq_true q120
        have p121 : 0 ≤ (0 : Int) := (by omega)
        have q121 : 0 < (l0.length : Int) := of_decide_eq_true (by first | (with_reducible assumption) | assumption)
        obtain ⟨ad121, e121, hx121_0⟩ := Kd.at_string HR0.out 0 p121 q121
        obtain rfl : ad120 = ad121 := (by injection e121)
        have qi121 : (0 < l0.length) = True := eq_true (by omega)
        (try rw [show ((0 : Int)).toNat = 0 from rfl] at hx121_0)
        (try rw [Addr.add_zero'] at hx121_0)
        replace p121 := eq_true p121; replace q121 := eq_true q121
        go_wp2
        go_ret
        exact ⟨by first | rfl | (simp; done) | (simp [*]; done), by repeat (first | exact Drawn0.refl _ | apply Drawn0.step)⟩
      ·rw [if_neg c5] at H
       exact absurd H (by simp)
     ·rw [if_neg c4] at H
      exact absurd H (by simp)
    ·rw [if_neg c3] at H
     exact absurd H (by simp)
   ·rw [if_neg c2] at H
    have c2b0 : decide (x7_1 < (l0.length : Int)) = false := decide_eq_false c2; clear c2; replace H := Option.bind_eq_some_iff.mp H; obtain ⟨t122, A70, H⟩ := H; replace H : (if t122 = true then (if 0 < (l0.length : Int) then (some (decide (((rdOf ByteArray.empty l0 0).size : Int) ≤ 40))) else (none)) else (some false)) = some r := H; have A7 := aM A70; clear A70
    by_cases c8 : t122 = true
    ·subst c8
     have H1 : (if 0 < (l0.length : Int) then (some (decide (((rdOf ByteArray.empty l0 0).size : Int) ≤ 40))) else (none)) = some r := by rw [if_pos rfl] at H; exact H
     clear H; have H := H1; clear H1
     by_cases c9 : 0 < (l0.length : Int)
     ·rw [if_pos c9] at H
      have c9b0 : decide (0 < (l0.length : Int)) = true := decide_eq_true c9
      have c9b1 : decide (0 < l0.length) = true := decide_eq_true (by omega)
      clear c9; obtain rfl := Option.some.inj H
      go_wp2_with (first | ((with_reducible refine gate_callee (f := 50) rfl ?_); refine goesL_ (some 21) rfl rfl Try.func50 (by kernel_rfl) rfl #[.int .i64 (l0.length : Int), .int .i64 1, .int .i64 16] rfl mA ?_; (with_reducible refine (spec_l1In.calls (l0.length : Int) 1 16 true _ A7.out).mono ?_); rintro e w' ⟨rfl, ⟨nd, rfl⟩⟩; refine ⟨_, rfl, ?_⟩; have p123 : 0 ≤ (0 : Int) := (by omega); have q123 : 0 < (l0.length : Int) := of_decide_eq_true (by first | (with_reducible assumption) | assumption); obtain ⟨ad123, e123, hx123_0⟩ := Kd.at_string HR0.out 0 p123 q123; cases e123; have qi123 : (0 < l0.length) = True := eq_true (by omega); (try rw [show ((0 : Int)).toNat = 0 from rfl] at hx123_0); (try rw [Addr.add_zero'] at hx123_0); replace p123 := eq_true p123; replace q123 := eq_true q123))
      go_ret
      exact ⟨by first | rfl | (simp; done) | (simp [*]; done), by repeat (first | exact Drawn0.refl _ | apply Drawn0.step)⟩
     ·rw [if_neg c9] at H
      exact absurd H (by simp)
    ·replace c8 := Bool.eq_false_iff.mpr c8
     subst c8
     have H1 : (some false) = some r := by rw [if_neg (show ¬ (false = true) by decide)] at H; exact H
     clear H; have H := H1; clear H1; obtain rfl := Option.some.inj H
     go_wp2_with (first | ((with_reducible refine gate_callee (f := 50) rfl ?_); refine goesL_ (some 21) rfl rfl Try.func50 (by kernel_rfl) rfl #[.int .i64 (l0.length : Int), .int .i64 1, .int .i64 16] rfl mA ?_; (with_reducible refine (spec_l1In.calls (l0.length : Int) 1 16 false _ A7.out).mono ?_); rintro e w' ⟨rfl, ⟨nd, rfl⟩⟩; refine ⟨_, rfl, ?_⟩))
     go_ret
     exact ⟨by first | rfl | (simp; done) | (simp [*]; done), by repeat (first | exact Drawn0.refl _ | apply Drawn0.step)⟩

end Go.Proofs.Ytfijnlhklfmoeaa.PFnParity
