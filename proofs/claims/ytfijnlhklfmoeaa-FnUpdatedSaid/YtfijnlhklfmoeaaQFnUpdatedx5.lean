/- The walks of FnUpdated: Go's calls come to what the Lean functions beside them say; no condition. -/
import Derived.Test.YtfijnlhklfmoeaaQFnUpdatedx0
import Derived.Test.YtfijnlhklfmoeaaQFnUpdatedx1
import Derived.Test.YtfijnlhklfmoeaaQFnUpdatedx2
import Derived.Test.YtfijnlhklfmoeaaQFnUpdatedx3
import Derived.Test.YtfijnlhklfmoeaaQFnUpdatedx4
namespace Go.Proofs.Ytfijnlhklfmoeaa.PFnUpdated
open Go.RowKit Go.Proofs.YtfijnlhklfmoeaaW.PrintWords Go.Proofs.YtfijnlhklfmoeaaW.PrintLast Go.Proofs.YtfijnlhklfmoeaaW.PrintMore
attribute [local go_sem] max2_int min2_int max_two min_two max_three min_three max_four min_four   -- for this text's walks alone
set_option linter.unusedVariables false
set_option linter.unusedSimpArgs false
set_option maxRecDepth 100000

/-! ### spec_l3Times: function 53 (by hand) -/
/-- a text, its bytes times a number -/
def spec_l3Times.f (k : Nat) (a0 : Int) (a1 : ByteArray) : Option (ByteArray) :=
 if a1.size ≤ 4611686018427387904 then (Go.Proofs.Ytfijnlhklfmoeaa.Bytes.allOf (fun j => spec_l2Mul.f k a0 (bt a1 (j : Int))) a1.size).bind fun l => some (strOfNums l) else none
theorem spec_l3Times.mono : ∀ a0 a1 k, LeO (spec_l3Times.f k a0 a1) (spec_l3Times.f (k + 1) a0 a1) := by
 intro a0 a1 k
 unfold spec_l3Times.f
 refine LeO.ite ?_ (LeO.none _)
 exact LeO.bind (Go.Proofs.Ytfijnlhklfmoeaa.Bytes.allOf_mono (fun _ => spec_l2Mul.mono _ _ _) _) (fun _ => LeO.refl _)
set_option maxHeartbeats 8000000 in
set_option maxRecDepth 100000 in
theorem spec_l3Times.calls (k : Nat) (a0 : Int) (a1 : ByteArray) (r : ByteArray) (w : World) (h : spec_l3Times.f k a0 a1 = some r) :
  Calls Try.prog 53 #[.int .u8 a0, .string a1] w fun e w' => e = .returned (.string r) ∧ Below w.heap.size w w' := by
 unfold spec_l3Times.f at h
 by_cases hl : a1.size ≤ 4611686018427387904
 case neg => rw [if_neg hl] at h; cases h
 rw [if_pos hl] at h
 obtain ⟨l, hall, h⟩ := Option.bind_eq_some_iff.mp h
 obtain rfl := Option.some.inj h
 clear h
 obtain ⟨hll, hlj⟩ := Go.Proofs.Ytfijnlhklfmoeaa.Bytes.allOf_tells hall
 clear hall
 have HLE := aM hl
 have HLL := aM hll
 have HLJ := aM hlj
 clear hl hll hlj
 have hu9 := Try.underlying9
 have hu48 := Try.underlying48
 have hu5 := Try.underlying5
 go_enter Try.func53, Try.ntmps53
 go_wp2_with ((with_reducible refine gate_dst (N := 8) rfl ?_); go_loud (refine Go.Proofs.Ytfijnlhklfmoeaa.Bytes.conv_event ?hg (N := 8) ?hd (src := 9) (dst := 48) (e := 5) (s := a1) hu9 hu48 hu5 ?hex ?_); (case hd => rfl); (case hg => rfl); (case hex => go_simp); intro g c w1 hg hrow hbel hc; have HR := aM hrow; have HB := aM hbel; have HG := aM hg; have HC := aM hc; clear hrow hbel hg hc)
 have hL0 := bytesOf_length a1
 go_loopw [11] (fun v11 w' => ∃ (i : Nat) (ys : List Int), i ≤ a1.size ∧ v11 = .int .i64 (i : Int) ∧ Aside0 (Go.Proofs.Ytfijnlhklfmoeaa.Bytes.RowB w' 5 g ys) ∧ Aside0 (ys.length = a1.size) ∧ Aside0 (∀ j : Nat, j < a1.size → ys.getD j 0 = if j < i then l.getD j 0 else bt a1 (j : Int)) ∧ Aside0 (Below w.heap.size w w')) (fun v11 w' => a1.size - (intOf v11).toNat)
 case atStart => exact ⟨0, bytesOf a1, Nat.zero_le _, rfl, ⟨by first | exact HR.out | exact HR.out.drewN⟩, ⟨hL0⟩, ⟨fun j hj => by rw [if_neg (by omega)]; have := rd_bytesOf a1 (j : Int); unfold rd at this; rw [Int.toNat_natCast] at this; exact this⟩, ⟨by repeat (first | exact HB.out | apply zD | apply zN)⟩⟩
 case round =>
  obtain ⟨i, ys, hi, rfl, HRi, HLi, HVi, HBi⟩ := hrel
  by_cases hlt : i < a1.size
  ·have hbig : a1.size ≤ 4611686018427387904 := HLE.out
   have hil : i < ys.length := by rw [HLi.out]; exact hlt
   have hcell := HRi.out.cell i hil
   have hv := HVi.out i hlt
   rw [if_neg (by omega)] at hv
   rw [hv] at hcell
   have hfree := HRi.out.free i hil
   have HM := aM (HLJ.out i hlt)
   have HS := aM (HRi.out.set i hil (l.getD i 0))
   have hcell' : ∀ n_ : Nat, (wr.drewN n_).cell? ⟨g, i, none⟩ = some (.int .u8 (bt a1 (i : Int))) := fun n_ => hcell
   have hfree' : ∀ n_ : Nat, (wr.drewN n_).frozen? ⟨g, i, none⟩ = false := fun n_ => hfree
   clear hv
   go_wp2_with (first | ((with_reducible refine gate_callee (f := 73) rfl ?_); refine goesL_ (some 21) rfl rfl Try.func73 (by kernel_rfl) rfl #[.int .u8 a0, .int .u8 (bt a1 (i : Int))] rfl (by (try simp only [List.map_toArray, List.map_cons, List.map_nil]); first | done | rfl) ?_; (with_reducible refine (spec_l2Mul.calls k a0 (bt a1 (i : Int)) (l.getD i 0) _ HM.out).mono ?_); rintro e w' ⟨rfl, ⟨nd2, rfl⟩⟩; refine ⟨_, rfl, ?_⟩))
   go_roundw
   case rel => exact ⟨i + 1, ys.set i (l.getD i 0), by omega, by go_num, ⟨by first | exact HS.out | exact HS.out.drew | exact HS.out.drewN⟩, ⟨by rw [List.length_set]; exact HLi.out⟩, ⟨fun j hj => by
     rw [Go.Proofs.Ytfijnlhklfmoeaa.Bytes.getD_set _ _ _ _ hil]
     by_cases hji : j = i
     ·subst hji; rw [if_pos rfl, if_pos (by omega)]
     ·rw [if_neg hji, HVi.out j hj]
      by_cases h2 : j < i
      ·rw [if_pos h2, if_pos (by omega)]
      ·rw [if_neg h2, if_neg (by omega)]⟩, ⟨by repeat (first | exact HBi.out | apply zD | apply zN | (refine Go.Proofs.Ytfijnlhklfmoeaa.Bytes.RowB.setBelow ?_ (by rw [HG.out]; exact Nat.le_refl _) _ _))⟩⟩
   case measure => simp [intOf]; omega
  ·have hin : i = a1.size := by omega
   have HY := aM (show ys = l by
    apply List.ext_getElem (by rw [HLi.out, HLL.out])
    intro j h1 h2
    have h3 : j < a1.size := by rw [← HLL.out]; exact h2
    have h4 := HVi.out j h3
    rw [if_pos (by omega)] at h4
    rw [List.getD_eq_getElem?_getD, List.getD_eq_getElem?_getD, List.getElem?_eq_getElem h1, List.getElem?_eq_getElem h2] at h4
    simpa using h4)
   have hcv : (convert 48 9 (.slice (some ⟨g, 0, none⟩) a1.size c)).run Try.prog wr = .ok (.string (strOfNums ys)) wr := HRi.out.text hu48 hu5 hu9 _ _ HLi.out.symm
   clear hin
   go_wp2
   go_ret
   exact ⟨by rw [← HY.out]; rfl, by repeat (first | exact HBi.out | apply zD | apply zN)⟩


/-! ### spec_l2Pow: function 54 -/
def spec_l2Pow.l0 : Nat → Int → Int → Int → Option (Int)
 | 0, _, _, _ => none
 | k + 1, x0, x1, x5 => if x1 > 0 then ((spec_l2Mul.f k x5 x0).bind fun t163 => (spec_l2Pow.l0 k x0 (wrap64 (x1 - 1)) t163)) else (some x5)
def spec_l2Pow.f (k : Nat) (a0 : Int) (a1 : Int) : Option (Int) := spec_l2Pow.l0 k a0 a1 1
theorem spec_l2Pow.mono_l : ∀ k, (∀ y0 y1 y2, LeO (spec_l2Pow.l0 k y0 y1 y2) (spec_l2Pow.l0 (k + 1) y0 y1 y2))
 | 0 => fun _ _ _ r h => by change none = some r at h; cases h
 | k + 1 => by
  have ih0 := spec_l2Pow.mono_l k
  ·intro y0 y1 y2
   unfold spec_l2Pow.l0
   repeat' first
   | (with_reducible exact ih0 _ _ _)
   | (with_reducible exact spec_l2Mul.mono _ _ _)
   | (with_reducible exact LeO.refl _)
   | (with_reducible exact LeO.none _)
   | (with_reducible refine LeO.ite ?_ ?_)
   | (with_reducible refine LeO.bind ?_ (fun _ => ?_))
   | exact ih0 _ _ _
   | exact spec_l2Mul.mono _ _ _
   | exact LeO.none _
   | refine LeO.ite ?_ ?_
   | refine LeO.bind ?_ (fun _ => ?_)
theorem spec_l2Pow.mono : ∀ a0 a1 k, LeO (spec_l2Pow.f k a0 a1) (spec_l2Pow.f (k + 1) a0 a1) := by
 intro a0 a1 k
 have ih0 := spec_l2Pow.mono_l k
 unfold spec_l2Pow.f
 repeat' first
   | (with_reducible exact ih0 _ _ _)
   | (with_reducible exact spec_l2Mul.mono _ _ _)
   | (with_reducible exact LeO.refl _)
   | (with_reducible exact LeO.none _)
   | (with_reducible refine LeO.ite ?_ ?_)
   | (with_reducible refine LeO.bind ?_ (fun _ => ?_))
   | exact ih0 _ _ _
   | exact spec_l2Mul.mono _ _ _
   | exact LeO.none _
   | refine LeO.ite ?_ ?_
   | refine LeO.bind ?_ (fun _ => ?_)
set_option maxHeartbeats 8000000 in
set_option maxRecDepth 100000 in
theorem spec_l2Pow.calls (k : Nat) (a0 : Int) (a1 : Int) (r : Int) (w : World) (h : spec_l2Pow.f k a0 a1 = some r) :
  Calls Try.prog 54 #[.int .u8 a0, .int .i64 a1] w fun e w' => e = .returned (.int .u8 r) ∧ Drawn0 w w' := by
 have H : (spec_l2Pow.l0 k a0 a1 1) = some r := h
 clear h
 have H' := aM H
 clear H
 go_enter Try.func54, Try.ntmps54
 go_wp2
 go_loopg [1, 5] k (fun kq v1 v5 w' => ∃ (x1_1 : Int) (x5_1 : Int), v1 = .int .i64 x1_1 ∧ v5 = .int .u8 x5_1 ∧ Aside0 (spec_l2Pow.l0 kq a0 x1_1 x5_1 = some r) ∧ Aside0 (kq ≤ k) ∧ Drawn0 w w')
 case atStart => exact ⟨(a1), (1), (by first | rfl | (simp; done) | (simp [*]; done)), (by first | rfl | (simp; done) | (simp [*]; done)), H', ⟨Nat.le_refl _⟩, by repeat (first | exact Drawn0.refl _ | apply Drawn0.step)⟩
 case round =>
  clear H'
  (try clear p2)
  obtain ⟨x1_1, x5_1, rfl, rfl, HA, HK1, ⟨m1, rfl⟩⟩ := hrel
  cases gk with
  | zero => exact absurd HA.out (fun h_ => by change none = some _ at h_; cases h_)
  | succ k1 =>
   have H := HA.out
   clear HA
   simp only [spec_l2Pow.l0] at H
   by_cases c3 : x1_1 > 0
   ·rw [if_pos c3] at H
    have c3b0 : decide (0 < x1_1) = true := decide_eq_true c3
    clear c3
    replace H := Option.bind_eq_some_iff.mp H
    obtain ⟨t163, A40, H⟩ := H
    replace H : (spec_l2Pow.l0 k1 a0 (wrap64 (x1_1 - 1)) t163) = some r := H
    have A4 := aM A40
    clear A40
    have H' := aM H
    clear H
    go_wp2_with (first | ((with_reducible refine gate_callee (f := 73) rfl ?_); refine goesL_ (some 12) rfl rfl Try.func73 (by kernel_rfl) rfl #[.int .u8 x5_1, .int .u8 a0] rfl (by (try simp only [List.map_toArray, List.map_cons, List.map_nil]); first | done | rfl | (simp only [List.length_drop, List.length_take]; rfl)) ?_; (with_reducible refine (spec_l2Mul.calls k1 x5_1 a0 t163 _ A4.out).mono ?_); rintro e w' ⟨rfl, ⟨nd, rfl⟩⟩; refine ⟨_, rfl, ?_⟩))
    go_roundg k1
    case measure => have := HK1.out; omega
    case rel => exact ⟨(wrap64 (x1_1 - 1)), (t163), (by first | rfl | (simp; done) | (simp [*]; done)), (by first | rfl | (simp; done) | (simp [*]; done)), H', ⟨by have := HK1.out; omega⟩, by repeat (first | exact Drawn0.refl _ | apply Drawn0.step)⟩
   ·rw [if_neg c3] at H
    have c3b0 : decide (0 < x1_1) = false := decide_eq_false c3
    clear c3
    obtain rfl := Option.some.inj H
    go_wp2
    go_ret
    exact ⟨by first | rfl | (simp; done) | (simp [*]; done), by repeat (first | exact Drawn0.refl _ | apply Drawn0.step)⟩

/-! ### spec_UpdateStripe: function 27 -/
def spec_UpdateStripe.j0 : Nat → Int → ByteArray → Bool → List ByteArray → ByteArray → ByteArray → Option (List ByteArray × ByteArray × ByteArray × Bool)
 | 0, _, _, _, _, _, _ => none
 | k + 1, x1, x2, x28, x165000, x165001, x165002 => if x28 = true then (some (([] : List ByteArray), (⟨#[]⟩ : ByteArray), (⟨#[]⟩ : ByteArray), false)) else ((spec_l3Own.f x165000 x165001 x165002).bind fun bt168 => (if 0 ≤ x1 then (if x1 < (bt168.1.length : Int) then ((spec_l3Xor.f (rdOf ByteArray.empty bt168.1 x1) x2).bind fun t174 => ((spec_l3Xor.f bt168.2.1 t174).bind fun t176 => ((spec_l2Pow.f k 2 x1).bind fun t177 => ((spec_l3Times.f k t177 t174).bind fun t178 => ((spec_l3Xor.f bt168.2.2 t178).bind fun t179 => (some ((bt168.1.set (x1 : Int).toNat x2), t176, t179, true))))))) else (none)) else (none)))
def spec_UpdateStripe.f (k : Nat) (l0_0 : List ByteArray) (a0_1 : ByteArray) (a0_2 : ByteArray) (a1 : Int) (a2 : ByteArray) : Option (List ByteArray × ByteArray × ByteArray × Bool) := (spec_GoodStripe.f k l0_0 a0_1 a0_2).bind fun t166 => (if t166 = true then ((spec_l1In.f a1 0 (wrap64 ((l0_0.length : Int) - 1))).bind fun t167 => (if t167 = true then (spec_UpdateStripe.j0 k a1 a2 ((a2.size : Int) != (a0_1.size : Int)) l0_0 a0_1 a0_2) else (spec_UpdateStripe.j0 k a1 a2 true l0_0 a0_1 a0_2))) else (spec_UpdateStripe.j0 k a1 a2 true l0_0 a0_1 a0_2))
theorem spec_UpdateStripe.mono_l : ∀ k, (∀ y0 y1 y2 y3 y4 y5, LeO (spec_UpdateStripe.j0 k y0 y1 y2 y3 y4 y5) (spec_UpdateStripe.j0 (k + 1) y0 y1 y2 y3 y4 y5))
 | 0 => fun _ _ _ _ _ _ r h => by change none = some r at h; cases h
 | k + 1 => by
  have ih0 := spec_UpdateStripe.mono_l k
  ·intro y0 y1 y2 y3 y4 y5
   unfold spec_UpdateStripe.j0
   repeat' first
   | (with_reducible exact ih0 _ _ _ _ _ _)
   | (with_reducible exact spec_GoodStripe.mono _ _ _ _)
   | (with_reducible exact spec_l2Pow.mono _ _ _)
   | (with_reducible exact spec_l3Times.mono _ _ _)
   | (with_reducible exact LeO.refl _)
   | (with_reducible exact LeO.none _)
   | (with_reducible refine LeO.ite ?_ ?_)
   | (with_reducible refine LeO.bind ?_ (fun _ => ?_))
   | exact ih0 _ _ _ _ _ _
   | exact spec_GoodStripe.mono _ _ _ _
   | exact spec_l2Pow.mono _ _ _
   | exact spec_l3Times.mono _ _ _
   | exact LeO.none _
   | refine LeO.ite ?_ ?_
   | refine LeO.bind ?_ (fun _ => ?_)
theorem spec_UpdateStripe.mono : ∀ a0 a1 a2 a3 a4 k, LeO (spec_UpdateStripe.f k a0 a1 a2 a3 a4) (spec_UpdateStripe.f (k + 1) a0 a1 a2 a3 a4) := by
 intro a0 a1 a2 a3 a4 k
 have ih0 := spec_UpdateStripe.mono_l k
 unfold spec_UpdateStripe.f
 repeat' first
   | (with_reducible exact ih0 _ _ _ _ _ _)
   | (with_reducible exact spec_GoodStripe.mono _ _ _ _)
   | (with_reducible exact spec_l2Pow.mono _ _ _)
   | (with_reducible exact spec_l3Times.mono _ _ _)
   | (with_reducible exact LeO.refl _)
   | (with_reducible exact LeO.none _)
   | (with_reducible refine LeO.ite ?_ ?_)
   | (with_reducible refine LeO.bind ?_ (fun _ => ?_))
   | exact ih0 _ _ _ _ _ _
   | exact spec_GoodStripe.mono _ _ _ _
   | exact spec_l2Pow.mono _ _ _
   | exact spec_l3Times.mono _ _ _
   | exact LeO.none _
   | refine LeO.ite ?_ ?_
   | refine LeO.bind ?_ (fun _ => ?_)
def spec_UpdateStripe.T7 : Bool × List (List Nat × List Nat) := (true, [([], []), ([0], [0]), ([], []), ([2], [2]), ([], []), ([3, 4, 3], [3, 4]), ([1, 5, 5], [1, 5]), ([0, 1, 2, 3, 4, 5, 6], []), ([7, 6, 6, 0, 1, 2, 3, 4, 5, 6], [6, 7])])
def spec_UpdateStripe.B7 : List Nat := [0, 1, 0, 4, 0, 28, 63, 127, 255]
theorem spec_UpdateStripe.tab7 : rtab .any (opsOf Try.f27 7) = spec_UpdateStripe.T7 := by kernel_rfl
theorem spec_UpdateStripe.bits7 : waitsOk spec_UpdateStripe.T7.2 spec_UpdateStripe.B7 = true := by kernel_rfl
set_option maxHeartbeats 8000000 in
set_option maxRecDepth 100000 in
theorem spec_UpdateStripe.calls (k : Nat) (A0_0 : Option Addr) (c0_0 : Nat) (l0_0 : List ByteArray) (a0_1 : ByteArray) (a0_2 : ByteArray) (a1 : Int) (a2 : ByteArray) (r1 : List ByteArray) (r2 : ByteArray) (r3 : ByteArray) (r4 : Bool) (w : World) (hr0_0 : Kd.C Kd.string w A0_0 l0_0.length l0_0) (hc0_0 : l0_0.length ≤ c0_0) (h : spec_UpdateStripe.f k l0_0 a0_1 a0_2 a1 a2 = some (r1, r2, r3, r4)) :
  Calls Try.prog 27 #[.agg #[.slice A0_0 l0_0.length c0_0, .string a0_1, .string a0_2], .int .i64 a1, .string a2] w fun e w' => ∃ v0_ : Value, e = .returned (.tuple #[.agg #[v0_, .string r2, .string r3], .bool r4]) ∧ Kd.R Kd.string 9 w' w.heap.size (fun _ => True) v0_ r1 ∧ Below w.heap.size w w' := by
 have hu27 := Try.underlying27
 have HR0_0 := aM hr0_0
 have HC0_0 := aM hc0_0
 clear hr0_0 hc0_0
 have HB := aM (Below.refl w.heap.size w)
 have H : ((spec_GoodStripe.f k l0_0 a0_1 a0_2).bind fun t166 => (if t166 = true then ((spec_l1In.f a1 0 (wrap64 ((l0_0.length : Int) - 1))).bind fun t167 => (if t167 = true then (spec_UpdateStripe.j0 k a1 a2 ((a2.size : Int) != (a0_1.size : Int)) l0_0 a0_1 a0_2) else (spec_UpdateStripe.j0 k a1 a2 true l0_0 a0_1 a0_2))) else (spec_UpdateStripe.j0 k a1 a2 true l0_0 a0_1 a0_2))) = some (r1, r2, r3, r4) := h
 clear h
 have HC4 := aM H
 clear H
 go_enter Try.func27, Try.ntmps27
 go_upto_region 1 with (first | ((with_reducible refine gate_dst (N := 3) rfl ?_); (try (refine gate_guard (by rfl) ?_; dsimp only)); refine box_event ?hg (N := 3) ?hd (cs := #[.slice A0_0 l0_0.length c0_0, .string a0_1, .string a0_2]) (t := 27) ?hr ?_; (case hd => rfl); (case hg => rfl); (case hr => first | (go_simp; done) | (go_simp; rfl)); intro gb164 hg w5 hbox hb; have BK164 := aM (hbox); have GW164 := aM ((by rw [hg]; exact (zZ (zH HB.out)) : w.heap.size ≤ gb164)); have GE164 := aM ((by rw [hg]; exact (zZ (zH HB.out)) : w.heap.size ≤ gb164)); replace HB := aM (zT (zH HB.out) hb); clear hb hbox hg) | ((with_reducible refine gate_dst (N := 6) rfl ?_); (try (refine gate_guard (by rfl) ?_; dsimp only)); refine box_event ?hg (N := 6) ?hd (cs := #[.slice none 0 0, .string (⟨#[]⟩ : ByteArray), .string (⟨#[]⟩ : ByteArray)]) (t := 27) ?hr ?_; (case hd => rfl); (case hg => rfl); (case hr => first | (go_simp; done) | (go_simp; rfl)); intro gb165 hg w6 hbox hb; have BK165 := aM (hbox); have GW165 := aM ((by rw [hg]; exact (zZ (zH HB.out)) : w.heap.size ≤ gb165)); have GE165 := aM ((by rw [hg]; exact (zZ (zH HB.out)) : w.heap.size ≤ gb165)); replace HB := aM (zT (zH HB.out) hb); have NB164_165 := nL BK164.out hg; have NB165_164 := nR BK164.out hg; replace BK164 := yK BK164.out hb; clear hb hbox hg))
 (try simp only [Act.put, qA, qB, qC])
 go_cut [28] (fun v28 wc => ∃ (kq : Nat) (x28_3 : Bool), v28 = .bool x28_3 ∧ Aside0 (spec_UpdateStripe.j0 kq a1 a2 x28_3 l0_0 a0_1 a0_2 = some (r1, r2, r3, r4)) ∧ Aside0 (kq ≤ k) ∧ Aside0 (wc.heap[gb164]? = some (.cells #[(.slice A0_0 l0_0.length c0_0), .string a0_1, .string a0_2] 27 (0, 0))) ∧ Aside0 (wc.heap[gb165]? = some (.cells #[(.slice none 0 0), .string (⟨#[]⟩ : ByteArray), .string (⟨#[]⟩ : ByteArray)] 27 (0, 0))) ∧ Aside0 (Below w.heap.size w wc))
 case first =>
  have H := HC4.out
  clear HC4
  replace H := Option.bind_eq_some_iff.mp H
  obtain ⟨t166, A70, H⟩ := H
  replace H : (if t166 = true then ((spec_l1In.f a1 0 (wrap64 ((l0_0.length : Int) - 1))).bind fun t167 => (if t167 = true then (spec_UpdateStripe.j0 k a1 a2 ((a2.size : Int) != (a0_1.size : Int)) l0_0 a0_1 a0_2) else (spec_UpdateStripe.j0 k a1 a2 true l0_0 a0_1 a0_2))) else (spec_UpdateStripe.j0 k a1 a2 true l0_0 a0_1 a0_2)) = some (r1, r2, r3, r4) := H
  have A7 := aM A70
  clear A70
  by_cases c8 : t166 = true
  ·subst c8
   have H1 : ((spec_l1In.f a1 0 (wrap64 ((l0_0.length : Int) - 1))).bind fun t167 => (if t167 = true then (spec_UpdateStripe.j0 k a1 a2 ((a2.size : Int) != (a0_1.size : Int)) l0_0 a0_1 a0_2) else (spec_UpdateStripe.j0 k a1 a2 true l0_0 a0_1 a0_2))) = some (r1, r2, r3, r4) := by rw [if_pos rfl] at H; exact H
   clear H
   have H := H1
   clear H1
   replace H := Option.bind_eq_some_iff.mp H
   obtain ⟨t167, A90, H⟩ := H
   replace H : (if t167 = true then (spec_UpdateStripe.j0 k a1 a2 ((a2.size : Int) != (a0_1.size : Int)) l0_0 a0_1 a0_2) else (spec_UpdateStripe.j0 k a1 a2 true l0_0 a0_1 a0_2)) = some (r1, r2, r3, r4) := H
   have A9 := aM A90
   clear A90
   by_cases c10 : t167 = true
   ·subst c10
    have H1 : (spec_UpdateStripe.j0 k a1 a2 ((a2.size : Int) != (a0_1.size : Int)) l0_0 a0_1 a0_2) = some (r1, r2, r3, r4) := by rw [if_pos rfl] at H; exact H
    clear H
    have H := H1
    clear H1
    have H' := aM H
    clear H
    have hnb11 := NB164_165.out
    have hnc11 := NB165_164.out
    have hcz12_0 : w6.cell? ⟨gb164, 0, none⟩ = some (.slice A0_0 l0_0.length c0_0) := yc BK164.out 0
    have hcz12_1 : w6.cell? ⟨gb164, 1, none⟩ = some (.string a0_1) := yc BK164.out 1
    have hcz12_2 : w6.cell? ⟨gb164, 2, none⟩ = some (.string a0_2) := yc BK164.out 2
    have hfz12_0 := yZ BK164.out 0
    have hfz12_1 := yZ BK164.out 1
    have hfz12_2 := yZ BK164.out 2
    go_wp2_with (first | ((with_reducible refine gate_callee (f := 13) rfl ?_); refine goesL_ (some 10) rfl rfl Try.func13 (by kernel_rfl) rfl #[.agg #[.slice A0_0 l0_0.length c0_0, .string a0_1, .string a0_2]] rfl (by (try simp only [List.map_toArray, List.map_cons, List.map_nil]); first | done | rfl | (simp only [List.length_drop, List.length_take]; rfl)) ?_; (with_reducible refine (spec_GoodStripe.calls k _ _ l0_0 a0_1 a0_2 true _ ?side1 ?side2 A7.out).mono ?_); (case side1 => exact cK HR0_0.out HB.out); (case side2 => exact HC0_0.out); rintro e w13 ⟨rfl, hb⟩; refine ⟨_, rfl, ?_⟩; replace BK164 := yK BK164.out hb; replace BK165 := yK BK165.out hb; replace HB := aM (zT (zH HB.out) hb); (try clear hb); have hcz14_0 : w13.cell? ⟨gb164, 0, none⟩ = some (.slice A0_0 l0_0.length c0_0) := yc BK164.out 0; have hcz14_1 : w13.cell? ⟨gb164, 1, none⟩ = some (.string a0_1) := yc BK164.out 1; have hcz14_2 : w13.cell? ⟨gb164, 2, none⟩ = some (.string a0_2) := yc BK164.out 2; have hfz14_0 := yZ BK164.out 0; have hfz14_1 := yZ BK164.out 1; have hfz14_2 := yZ BK164.out 2) | (go_at_call 50; (with_reducible refine (spec_l1In.calls a1 0 (wrap64 ((l0_0.length : Int) - 1)) true _ A9.out).mono ?_); rintro e w' ⟨rfl, ⟨nd, rfl⟩⟩))
    go_meet
    case rel => exact ⟨_, (((a2.size : Int) != (a0_1.size : Int))), (by first | rfl | (simp; done) | (simp [*]; done)), H', ⟨by first | omega | exact Nat.le_refl _⟩, ⟨yH BK164.out⟩, ⟨yH BK165.out⟩, ⟨zH HB.out⟩⟩
   ·replace c10 := Bool.eq_false_iff.mpr c10
    subst c10
    have H1 : (spec_UpdateStripe.j0 k a1 a2 true l0_0 a0_1 a0_2) = some (r1, r2, r3, r4) := by rw [if_neg (show ¬ (false = true) by decide)] at H; exact H
    clear H
    have H := H1
    clear H1
    have H' := aM H
    clear H
    have hnb15 := NB164_165.out
    have hnc15 := NB165_164.out
    have hcz16_0 : w6.cell? ⟨gb164, 0, none⟩ = some (.slice A0_0 l0_0.length c0_0) := yc BK164.out 0
    have hcz16_1 : w6.cell? ⟨gb164, 1, none⟩ = some (.string a0_1) := yc BK164.out 1
    have hcz16_2 : w6.cell? ⟨gb164, 2, none⟩ = some (.string a0_2) := yc BK164.out 2
    have hfz16_0 := yZ BK164.out 0
    have hfz16_1 := yZ BK164.out 1
    have hfz16_2 := yZ BK164.out 2
    go_wp2_with (first | ((with_reducible refine gate_callee (f := 13) rfl ?_); refine goesL_ (some 10) rfl rfl Try.func13 (by kernel_rfl) rfl #[.agg #[.slice A0_0 l0_0.length c0_0, .string a0_1, .string a0_2]] rfl (by (try simp only [List.map_toArray, List.map_cons, List.map_nil]); first | done | rfl | (simp only [List.length_drop, List.length_take]; rfl)) ?_; (with_reducible refine (spec_GoodStripe.calls k _ _ l0_0 a0_1 a0_2 true _ ?side1 ?side2 A7.out).mono ?_); (case side1 => exact cK HR0_0.out HB.out); (case side2 => exact HC0_0.out); rintro e w17 ⟨rfl, hb⟩; refine ⟨_, rfl, ?_⟩; replace BK164 := yK BK164.out hb; replace BK165 := yK BK165.out hb; replace HB := aM (zT (zH HB.out) hb); (try clear hb); have hcz18_0 : w17.cell? ⟨gb164, 0, none⟩ = some (.slice A0_0 l0_0.length c0_0) := yc BK164.out 0; have hcz18_1 : w17.cell? ⟨gb164, 1, none⟩ = some (.string a0_1) := yc BK164.out 1; have hcz18_2 : w17.cell? ⟨gb164, 2, none⟩ = some (.string a0_2) := yc BK164.out 2; have hfz18_0 := yZ BK164.out 0; have hfz18_1 := yZ BK164.out 1; have hfz18_2 := yZ BK164.out 2) | (go_at_call 50; (with_reducible refine (spec_l1In.calls a1 0 (wrap64 ((l0_0.length : Int) - 1)) false _ A9.out).mono ?_); rintro e w' ⟨rfl, ⟨nd, rfl⟩⟩))
    go_meet
    case rel => exact ⟨_, (true), (by first | rfl | (simp; done) | (simp [*]; done)), H', ⟨by first | omega | exact Nat.le_refl _⟩, ⟨yH BK164.out⟩, ⟨yH BK165.out⟩, ⟨zH HB.out⟩⟩
  ·replace c8 := Bool.eq_false_iff.mpr c8
   subst c8
   have H1 : (spec_UpdateStripe.j0 k a1 a2 true l0_0 a0_1 a0_2) = some (r1, r2, r3, r4) := by rw [if_neg (show ¬ (false = true) by decide)] at H; exact H
   clear H
   have H := H1
   clear H1
   have H' := aM H
   clear H
   have hnb19 := NB164_165.out
   have hnc19 := NB165_164.out
   have hcz20_0 : w6.cell? ⟨gb164, 0, none⟩ = some (.slice A0_0 l0_0.length c0_0) := yc BK164.out 0
   have hcz20_1 : w6.cell? ⟨gb164, 1, none⟩ = some (.string a0_1) := yc BK164.out 1
   have hcz20_2 : w6.cell? ⟨gb164, 2, none⟩ = some (.string a0_2) := yc BK164.out 2
   have hfz20_0 := yZ BK164.out 0
   have hfz20_1 := yZ BK164.out 1
   have hfz20_2 := yZ BK164.out 2
   go_wp2_with (first | ((with_reducible refine gate_callee (f := 13) rfl ?_); refine goesL_ (some 10) rfl rfl Try.func13 (by kernel_rfl) rfl #[.agg #[.slice A0_0 l0_0.length c0_0, .string a0_1, .string a0_2]] rfl (by (try simp only [List.map_toArray, List.map_cons, List.map_nil]); first | done | rfl | (simp only [List.length_drop, List.length_take]; rfl)) ?_; (with_reducible refine (spec_GoodStripe.calls k _ _ l0_0 a0_1 a0_2 false _ ?side1 ?side2 A7.out).mono ?_); (case side1 => exact cK HR0_0.out HB.out); (case side2 => exact HC0_0.out); rintro e w21 ⟨rfl, hb⟩; refine ⟨_, rfl, ?_⟩; replace BK164 := yK BK164.out hb; replace BK165 := yK BK165.out hb; replace HB := aM (zT (zH HB.out) hb); (try clear hb)))
   go_meet
   case rel => exact ⟨_, (true), (by first | rfl | (simp; done) | (simp [*]; done)), H', ⟨by first | omega | exact Nat.le_refl _⟩, ⟨yH BK164.out⟩, ⟨yH BK165.out⟩, ⟨zH HB.out⟩⟩
 case rest =>
  clear HC4
  (try clear c1); (try clear c2); (try clear p2); (try clear p6); (try clear c8); (try clear c10); (try clear c11); (try clear c13); (try clear c15); (try clear c19); (try clear hcz12_0); (try clear hcz12_1); (try clear hcz12_2); (try clear hcz14_0); (try clear hcz14_1); (try clear hcz14_2); (try clear hcz16_0); (try clear hcz16_1); (try clear hcz16_2); (try clear hcz18_0); (try clear hcz18_1); (try clear hcz18_2); (try clear hcz20_0); (try clear hcz20_1); (try clear hcz20_2); (try clear hfz12_0); (try clear hfz12_1); (try clear hfz12_2); (try clear hfz14_0); (try clear hfz14_1); (try clear hfz14_2); (try clear hfz16_0); (try clear hfz16_1); (try clear hfz16_2); (try clear hfz18_0); (try clear hfz18_1); (try clear hfz18_2); (try clear hfz20_0); (try clear hfz20_1); (try clear hfz20_2)
  obtain ⟨kq, x28_3, rfl, HA, HJ3, BK164, BK165, HB⟩ := hcut
  cases kq with
  | zero => exact absurd HA.out (fun h_ => by change none = some _ at h_; cases h_)
  | succ kj3 =>
   have H := HA.out
   clear HA
   simp only [spec_UpdateStripe.j0] at H
   by_cases c22 : x28_3 = true
   ·subst c22
    have H1 : (some (([] : List ByteArray), (⟨#[]⟩ : ByteArray), (⟨#[]⟩ : ByteArray), false)) = some (r1, r2, r3, r4) := by rw [if_pos rfl] at H; exact H
    clear H
    have H := H1
    clear H1
    simp only [Option.some.injEq, Prod.mk.injEq] at H
    obtain ⟨rfl, rfl, rfl, rfl⟩ := H
    have hnb23 := NB165_164.out
    have hnc23 := NB164_165.out
    have hcz24_0 : wc.cell? ⟨gb165, 0, none⟩ = some (.slice none 0 0) := yc BK165.out 0
    have hcz24_1 : wc.cell? ⟨gb165, 1, none⟩ = some (.string (⟨#[]⟩ : ByteArray)) := yc BK165.out 1
    have hcz24_2 : wc.cell? ⟨gb165, 2, none⟩ = some (.string (⟨#[]⟩ : ByteArray)) := yc BK165.out 2
    have hfz24_0 := yZ BK165.out 0
    have hfz24_1 := yZ BK165.out 1
    have hfz24_2 := yZ BK165.out 2
    go_wp2
    refine bodyPost_ret (results_ct rfl _ _ gb165 27 #[.slice none 0 0, .string (⟨#[]⟩ : ByteArray), .string (⟨#[]⟩ : ByteArray)] (0, 0) _ rfl (by (with_reducible repeat (first | refine yN ?_ _ | refine yD ?_ | refine yA ?_ _)); refine yP (cs := #[.slice none 0 0, .string (⟨#[]⟩ : ByteArray), .string (⟨#[]⟩ : ByteArray)]) ?_ 2 _ rfl; (with_reducible repeat (first | refine yN ?_ _ | refine yD ?_ | refine yA ?_ _)); refine yP (cs := #[.slice none 0 0, .string (⟨#[]⟩ : ByteArray), .string (⟨#[]⟩ : ByteArray)]) ?_ 1 _ rfl; (with_reducible repeat (first | refine yN ?_ _ | refine yD ?_ | refine yA ?_ _)); refine yP (cs := #[.slice none 0 0, .string (⟨#[]⟩ : ByteArray), .string (⟨#[]⟩ : ByteArray)]) ?_ 0 _ rfl; (with_reducible repeat (first | refine yN ?_ _ | refine yD ?_ | refine yA ?_ _)); exact BK165.out) Try.underlying27 rfl (by kernel_rfl)) rfl ?_
    exact ⟨_, by first | rfl | (simp [errW_none, errW_some] <;> rfl) | (simp [*, errW_none, errW_some] <;> rfl), by first | exact Kd.R_nil _ _ _ _ _ | exact Kd.N_nil _ _ _ _ _ | exact Kd.V_nil _ _ _ _ _ | exact Kd.Q_nil _ _ _ _ _ | exact Kd.S_nil _ _ _ _ _, zH HB.out⟩
   ·replace c22 := Bool.eq_false_iff.mpr c22
    subst c22
    have H1 : ((spec_l3Own.f l0_0 a0_1 a0_2).bind fun bt168 => (if 0 ≤ a1 then (if a1 < (bt168.1.length : Int) then ((spec_l3Xor.f (rdOf ByteArray.empty bt168.1 a1) a2).bind fun t174 => ((spec_l3Xor.f bt168.2.1 t174).bind fun t176 => ((spec_l2Pow.f kj3 2 a1).bind fun t177 => ((spec_l3Times.f kj3 t177 t174).bind fun t178 => ((spec_l3Xor.f bt168.2.2 t178).bind fun t179 => (some ((bt168.1.set (a1 : Int).toNat a2), t176, t179, true))))))) else (none)) else (none))) = some (r1, r2, r3, r4) := by rw [if_neg (show ¬ (false = true) by decide)] at H; exact H
    clear H
    have H := H1
    clear H1
    replace H := Option.bind_eq_some_iff.mp H
    obtain ⟨⟨t168, t171, t172⟩, A250, H⟩ := H
    replace H : (if 0 ≤ a1 then (if a1 < (t168.length : Int) then ((spec_l3Xor.f (rdOf ByteArray.empty t168 a1) a2).bind fun t174 => ((spec_l3Xor.f t171 t174).bind fun t176 => ((spec_l2Pow.f kj3 2 a1).bind fun t177 => ((spec_l3Times.f kj3 t177 t174).bind fun t178 => ((spec_l3Xor.f t172 t178).bind fun t179 => (some ((t168.set (a1 : Int).toNat a2), t176, t179, true))))))) else (none)) else (none)) = some (r1, r2, r3, r4) := H
    have A25 := aM A250
    clear A250
    by_cases c26 : 0 ≤ a1
    ·rw [if_pos c26] at H
     have c26b0 : decide (0 ≤ a1) = true := decide_eq_true c26
     clear c26
     by_cases c27 : a1 < (t168.length : Int)
     ·rw [if_pos c27] at H
      have c27b0 : decide (a1 < (t168.length : Int)) = true := decide_eq_true c27
      clear c27
      replace H := Option.bind_eq_some_iff.mp H
      obtain ⟨t174, A280, H⟩ := H
      replace H : ((spec_l3Xor.f t171 t174).bind fun t176 => ((spec_l2Pow.f kj3 2 a1).bind fun t177 => ((spec_l3Times.f kj3 t177 t174).bind fun t178 => ((spec_l3Xor.f t172 t178).bind fun t179 => (some ((t168.set (a1 : Int).toNat a2), t176, t179, true)))))) = some (r1, r2, r3, r4) := H
      have A28 := aM A280
      clear A280
      obtain ⟨y175, hy175⟩ : ∃ y_ : List ByteArray, y_ = (t168.set (a1 : Int).toNat a2) := ⟨_, rfl⟩
      replace H : ((spec_l3Xor.f t171 t174).bind fun t176 => ((spec_l2Pow.f kj3 2 a1).bind fun t177 => ((spec_l3Times.f kj3 t177 t174).bind fun t178 => ((spec_l3Xor.f t172 t178).bind fun t179 => (some (y175, t176, t179, true)))))) = some (r1, r2, r3, r4) := by first | (rw [hy175]; with_reducible exact H) | (have H2_ := (Option.bind_some _ _).symm.trans H; rw [hy175]; with_reducible exact H2_) | (have H2_ := (Option.bind_some _ _).symm.trans H; with_reducible exact H2_) | with_reducible exact H | (rw [hy175]; exact H) | exact H
      have Ny175 := aM hy175
      clear hy175
      replace H := Option.bind_eq_some_iff.mp H
      obtain ⟨t176, A300, H⟩ := H
      replace H : ((spec_l2Pow.f kj3 2 a1).bind fun t177 => ((spec_l3Times.f kj3 t177 t174).bind fun t178 => ((spec_l3Xor.f t172 t178).bind fun t179 => (some (y175, t176, t179, true))))) = some (r1, r2, r3, r4) := H
      have A30 := aM A300
      clear A300
      replace H := Option.bind_eq_some_iff.mp H
      obtain ⟨t177, A310, H⟩ := H
      replace H : ((spec_l3Times.f kj3 t177 t174).bind fun t178 => ((spec_l3Xor.f t172 t178).bind fun t179 => (some (y175, t176, t179, true)))) = some (r1, r2, r3, r4) := H
      have A31 := aM A310
      clear A310
      replace H := Option.bind_eq_some_iff.mp H
      obtain ⟨t178, A320, H⟩ := H
      replace H : ((spec_l3Xor.f t172 t178).bind fun t179 => (some (y175, t176, t179, true))) = some (r1, r2, r3, r4) := H
      have A32 := aM A320
      clear A320
      replace H := Option.bind_eq_some_iff.mp H
      obtain ⟨t179, A330, H⟩ := H
      replace H : (some (y175, t176, t179, true)) = some (r1, r2, r3, r4) := H
      have A33 := aM A330
      clear A330
      simp only [Option.some.injEq, Prod.mk.injEq] at H
      obtain ⟨rfl, rfl, rfl, rfl⟩ := H
      have hnb34 := NB164_165.out
      have hnc34 := NB165_164.out
      have hcz35_0 : wc.cell? ⟨gb164, 0, none⟩ = some (.slice A0_0 l0_0.length c0_0) := yc BK164.out 0
      have hcz35_1 : wc.cell? ⟨gb164, 1, none⟩ = some (.string a0_1) := yc BK164.out 1
      have hcz35_2 : wc.cell? ⟨gb164, 2, none⟩ = some (.string a0_2) := yc BK164.out 2
      have hfz35_0 := yZ BK164.out 0
      have hfz35_1 := yZ BK164.out 1
      have hfz35_2 := yZ BK164.out 2
      try go_wp2_with (first | ((with_reducible refine gate_callee (f := 51) rfl ?_); refine goesL_ (some 31) rfl rfl Try.func51 (by kernel_rfl) rfl #[.agg #[.slice A0_0 l0_0.length c0_0, .string a0_1, .string a0_2]] rfl (by (try simp only [List.map_toArray, List.map_cons, List.map_nil]); first | done | rfl | (simp only [List.length_drop, List.length_take]; rfl)) ?_; (with_reducible refine (spec_l3Own.calls _ _ l0_0 a0_1 a0_2 t168 t171 t172 _ ?side1 ?side2 A25.out).mono ?_); (case side1 => exact cK HR0_0.out HB.out); (case side2 => exact HC0_0.out); rintro e w36 ⟨v169, rfl, ho0, hb⟩; refine ⟨_, rfl, ?_⟩; have HO170 := aM (xL ho0 (zZ (zH HB.out))); replace BK164 := yK BK164.out hb; replace BK165 := yK BK165.out hb; replace HB := aM (zT (zH HB.out) hb); (try clear hb); (try clear ho0); obtain ⟨Ao37, co37, eo37⟩ := Kd.R_slice HO170.out; subst eo37; have hcz38_0 : w36.cell? ⟨gb164, 0, none⟩ = some (.slice A0_0 l0_0.length c0_0) := yc BK164.out 0; have hcz38_1 : w36.cell? ⟨gb164, 1, none⟩ = some (.string a0_1) := yc BK164.out 1; have hcz38_2 : w36.cell? ⟨gb164, 2, none⟩ = some (.string a0_2) := yc BK164.out 2; have hfz38_0 := yZ BK164.out 0; have hfz38_1 := yZ BK164.out 1; have hfz38_2 := yZ BK164.out 2; have p173 : 0 ≤ (a1 : Int) := of_decide_eq_true (by first | (with_reducible assumption) | assumption); have q173 : a1 < (t168.length : Int) := of_decide_eq_true (by first | (with_reducible assumption) | assumption); obtain ⟨ad173, e173, hx173_0⟩ := Kd.at_string (Kd.R_reads' HO170.out).2.2 a1 p173 q173; cases e173; have hn173_0 : ad173.block ≠ gb164 := Kd.own_blk (Kd.R_ne HO170.out BK164.out (by decide)); have hn173_1 : ad173.block ≠ gb164 := Kd.own_blk (Kd.R_ne HO170.out BK164.out (by decide)); have hn173_2 : ad173.block ≠ gb164 := Kd.own_blk (Kd.R_ne HO170.out BK164.out (by decide)); replace hx173_0 := (cell_far (p := ⟨gb164, 0, none⟩) (by first | (rw [add_block]; exact hn173_0) | (show (Addr.add _ _).block ≠ _; rw [add_block]; exact hn173_0) | exact hn173_0) (.slice (some ad173) t168.length co37)).trans hx173_0; replace hx173_0 := (cell_far (p := ⟨gb164, 1, none⟩) (by first | (rw [add_block]; exact hn173_1) | (show (Addr.add _ _).block ≠ _; rw [add_block]; exact hn173_1) | exact hn173_1) (.string t171)).trans hx173_0; replace hx173_0 := (cell_far (p := ⟨gb164, 2, none⟩) (by first | (rw [add_block]; exact hn173_2) | (show (Addr.add _ _).block ≠ _; rw [add_block]; exact hn173_2) | exact hn173_2) (.string t172)).trans hx173_0; clear hn173_0; clear hn173_1; clear hn173_2; replace p173 := eq_true p173; replace q173 := eq_true q173) | ((with_reducible refine gate_callee (f := 52) rfl ?_); refine goesL_ (some 38) rfl rfl Try.func52 (by kernel_rfl) rfl #[.string (rdOf ByteArray.empty t168 a1), .string a2] rfl (by (try simp only [List.map_toArray, List.map_cons, List.map_nil]); first | done | rfl | (simp only [List.length_drop, List.length_take]; rfl)) ?_; (with_reducible refine (spec_l3Xor.calls (rdOf ByteArray.empty t168 a1) a2 t174 _ A28.out).mono ?_); rintro e w39 ⟨rfl, hb⟩; refine ⟨_, rfl, ?_⟩; replace HO170 := aM (xB (xH ((x3 HO170.out BK164.out (by decide) (.slice (some ad173) t168.length co37) (.string t171) (.string t172)))) hb); replace BK164 := aM (yB (g := gb164) (o := .cells #[.slice (some ad173) t168.length co37, .string t171, .string t172] 27 (0, 0)) (by (with_reducible repeat (first | refine yN ?_ _ | refine yD ?_ | refine yA ?_ _)); refine yP (cs := #[.slice (some ad173) t168.length co37, .string t171, .string a0_2]) ?_ 2 _ rfl; (with_reducible repeat (first | refine yN ?_ _ | refine yD ?_ | refine yA ?_ _)); refine yP (cs := #[.slice (some ad173) t168.length co37, .string a0_1, .string a0_2]) ?_ 1 _ rfl; (with_reducible repeat (first | refine yN ?_ _ | refine yD ?_ | refine yA ?_ _)); refine yP (cs := #[.slice A0_0 l0_0.length c0_0, .string a0_1, .string a0_2]) ?_ 0 _ rfl; (with_reducible repeat (first | refine yN ?_ _ | refine yD ?_ | refine yA ?_ _)); exact BK164.out) hb); replace BK165 := aM (yB (g := gb165) (o := .cells #[.slice none 0 0, .string (⟨#[]⟩ : ByteArray), .string (⟨#[]⟩ : ByteArray)] 27 (0, 0)) (by (with_reducible repeat (first | refine yN ?_ _ | refine yD ?_ | refine yA ?_ _)); refine yF ?_ NB165_164.out _; (with_reducible repeat (first | refine yN ?_ _ | refine yD ?_ | refine yA ?_ _)); refine yF ?_ NB165_164.out _; (with_reducible repeat (first | refine yN ?_ _ | refine yD ?_ | refine yA ?_ _)); refine yF ?_ NB165_164.out _; (with_reducible repeat (first | refine yN ?_ _ | refine yD ?_ | refine yA ?_ _)); exact BK165.out) hb); replace HB := aM (zT (zH HB.out) hb); (try clear hb); have hcz40_0 : w39.cell? ⟨gb164, 0, none⟩ = some (.slice (some ad173) t168.length co37) := yc BK164.out 0; have hcz40_1 : w39.cell? ⟨gb164, 1, none⟩ = some (.string t171) := yc BK164.out 1; have hcz40_2 : w39.cell? ⟨gb164, 2, none⟩ = some (.string t172) := yc BK164.out 2; have hfz40_0 := yZ BK164.out 0; have hfz40_1 := yZ BK164.out 1; have hfz40_2 := yZ BK164.out 2; have p29 : 0 ≤ (a1 : Int) := of_decide_eq_true (by first | (with_reducible assumption) | assumption); have q29 : (a1 : Int) < ((t168.length : Int) : Int) := of_decide_eq_true (by first | (with_reducible assumption) | assumption); obtain ⟨go29, co29, eo29, gb29, gl29, cl29, HG29⟩ := Kd.R_form HO170.out (by omega); (first | cases eo29 | (injection eo29 with ea_ en_ ec_; (first | subst ea_ | (injection ea_ with ea_; subst ea_)); subst ec_; clear en_)); have GB29 := aM gb29; have GG29 := aM HG29; clear gb29 gl29 HG29; (first | simp only [add_plain] at hx173_0 | skip); obtain ⟨hx29_0, hf29_0⟩ := Kd.R_celln (⟨#[]⟩ : ByteArray) HO170.out (a1 : Int) p29 q29; replace p29 := eq_true p29; replace q29 := eq_true q29; obtain ⟨hy41_, hz41_⟩ := Kd.R_celln (⟨#[]⟩ : ByteArray) HO170.out (a1 : Int) (of_decide_eq_true (by first | (with_reducible assumption) | assumption)) (of_decide_eq_true (by first | (with_reducible assumption) | assumption)); have HP41 := Kd.R_putg HO170.out (a1 : Int) a2) | ((with_reducible refine gate_store (t := 9) (p := 43) rfl ?_); refine store_event (t := 9) (p := 43) (v := ?vo_w42) (w1 := (w39.setCell ⟨go29, (a1 : Int).toNat, none⟩ (.string a2))) ?hg ?ho ?hn ?hr ?_; (case ho => rfl); (case hg => rfl); (case hn => rfl); (case hr => first | (go_simp; done) | (go_simp; rfl)); intro w42 hw; have hg : w39.grownBy w42 (some go29) := (by rw [hw]; exact HP41.2); have hp_ : Kd.R Kd.string 9 w42 w.heap.size (fun _ => True) (.slice (some ⟨go29, 0, none⟩) t168.length co37) y175 := (by rw [hw, Ny175.out]; exact HP41.1); clear HP41; replace BK164 := aM (blk_grown (g := gb164) (o := .cells #[.slice (some ⟨go29, 0, none⟩) t168.length co37, .string t171, .string t172] 27 (0, 0)) (yH BK164.out) hg (Kd.R_ne HO170.out BK164.out (by decide))); replace BK165 := aM (blk_grown (g := gb165) (o := .cells #[.slice none 0 0, .string (⟨#[]⟩ : ByteArray), .string (⟨#[]⟩ : ByteArray)] 27 (0, 0)) (yH BK165.out) hg (Kd.R_ne HO170.out BK165.out (by decide))); replace HO170 := aM (hp_); replace HB := aM ((by rw [hw]; exact zS (HB.out) GB29.out : Below w.heap.size w w42)); clear hg hw hp_; have hcz43_0 : w42.cell? ⟨gb164, 0, none⟩ = some (.slice (some ⟨go29, 0, none⟩) t168.length co37) := yc BK164.out 0; have hcz43_1 : w42.cell? ⟨gb164, 1, none⟩ = some (.string t171) := yc BK164.out 1; have hcz43_2 : w42.cell? ⟨gb164, 2, none⟩ = some (.string t172) := yc BK164.out 2; have hfz43_0 := yZ BK164.out 0; have hfz43_1 := yZ BK164.out 1; have hfz43_2 := yZ BK164.out 2) | ((with_reducible refine gate_callee (f := 52) rfl ?_); refine goesL_ (some 47) rfl rfl Try.func52 (by kernel_rfl) rfl #[.string t171, .string t174] rfl (by (try simp only [List.map_toArray, List.map_cons, List.map_nil]); first | done | rfl | (simp only [List.length_drop, List.length_take]; rfl)) ?_; (with_reducible refine (spec_l3Xor.calls t171 t174 t176 _ A30.out).mono ?_); rintro e w44 ⟨rfl, hb⟩; refine ⟨_, rfl, ?_⟩; replace HO170 := xK HO170.out hb; replace BK164 := yK BK164.out hb; replace BK165 := yK BK165.out hb; replace HB := aM (zT (zH HB.out) hb); (try clear hb); have hcz45_0 : w44.cell? ⟨gb164, 0, none⟩ = some (.slice (some ⟨go29, 0, none⟩) t168.length co37) := yc BK164.out 0; have hcz45_1 : w44.cell? ⟨gb164, 1, none⟩ = some (.string t171) := yc BK164.out 1; have hcz45_2 : w44.cell? ⟨gb164, 2, none⟩ = some (.string t172) := yc BK164.out 2; have hfz45_0 := yZ BK164.out 0; have hfz45_1 := yZ BK164.out 1; have hfz45_2 := yZ BK164.out 2))
      have n0_ : Aside0 (Kd.R Kd.string 9 (w44.setCell ⟨gb164, 1, none⟩ (.string t176)) w.heap.size (fun _ => True) (.slice (some ⟨go29, 0, none⟩) t168.length co37) y175) := ⟨xH (xM (xF (p := ⟨gb164, 1, none⟩) (xT HO170.out BK164.out (by decide)) (fun _ hk => hk.2) (.string t176)) (fun _ hk => trivial))⟩
      have n1_ : Aside0 ((w44.setCell ⟨gb164, 1, none⟩ (.string t176)).heap[gb164]? = some (.cells #[.slice (some ⟨go29, 0, none⟩) t168.length co37, .string t176, .string t172] 27 (0, 0))) := ⟨by (with_reducible repeat (first | refine yN ?_ _ | refine yD ?_ | refine yA ?_ _)); refine yP (cs := #[.slice (some ⟨go29, 0, none⟩) t168.length co37, .string t171, .string t172]) ?_ 1 _ rfl; (with_reducible repeat (first | refine yN ?_ _ | refine yD ?_ | refine yA ?_ _)); exact BK164.out⟩
      have n2_ : Aside0 ((w44.setCell ⟨gb164, 1, none⟩ (.string t176)).heap[gb165]? = some (.cells #[.slice none 0 0, .string (⟨#[]⟩ : ByteArray), .string (⟨#[]⟩ : ByteArray)] 27 (0, 0))) := ⟨by (with_reducible repeat (first | refine yN ?_ _ | refine yD ?_ | refine yA ?_ _)); refine yF ?_ NB165_164.out _; (with_reducible repeat (first | refine yN ?_ _ | refine yD ?_ | refine yA ?_ _)); exact BK165.out⟩
      have n3_ : Aside0 (Below w.heap.size w (w44.setCell ⟨gb164, 1, none⟩ (.string t176))) := ⟨zH HB.out⟩
      (try clear HO170); (try clear BK164); (try clear BK165); (try clear HB)
      generalize (w44.setCell ⟨gb164, 1, none⟩ (.string t176)) = w46 at n0_ n1_ n2_ n3_ ⊢
      have HO170 := n0_
      have BK164 := n1_
      have BK165 := n2_
      have HB := n3_
      clear n0_ n1_ n2_ n3_
      replace HO170 := aM (xD HO170.out)
      replace BK164 := aM (yD BK164.out)
      replace BK165 := aM (yD BK165.out)
      replace HB := aM (zD HB.out)
      refine start_ (n := 9) (S := fun w' => w'.cell? ⟨gb164, 0, none⟩ = some (.slice (some ⟨go29, 0, none⟩) t168.length co37) ∧ w'.cell? ⟨gb164, 1, none⟩ = some (.string t176) ∧ w'.cell? ⟨gb164, 2, none⟩ = some (.string t172)) (ds := [8]) #[fF,fF,fF,fF,fF,fF,fF,fF,fF] (by kernel_rfl) rfl rfl ⟨yc BK164.out 0, yc BK164.out 1, yc BK164.out 2⟩ (fun hHeld => ?_); refine with_tabW spec_UpdateStripe.tab7 spec_UpdateStripe.bits7 (fun HT_ HW_ => ?_)
      generalize w46.drew = w47 at HO170 BK164 BK165 HB hHeld ⊢
      refine pure_ (i := 0) (N := some 49) (v := ?_) (a' := ?_) #[tT,fF,fF,fF,fF,fF,fF,fF,fF] rfl rfl (any_of HT_.out (by kernel_rfl)) (fun _ _ _ h => h) (Or.inl ⟨by rfl, ?_⟩) ?_ ?_
      rotate_left
      ·intro w'
       go_simp
       with_reducible rfl
      rotate_left
      ·simp only [Act.put, qA, qB, qC, i64_w, i32_w]
       rfl
      refine pure_ (i := 2) (N := some 51) (v := ?_) (a' := ?_) #[tT,fF,tT,fF,fF,fF,fF,fF,fF] rfl rfl (any_of HT_.out (by kernel_rfl)) (fun _ _ _ h => h) (Or.inl ⟨by rfl, ?_⟩) ?_ ?_
      rotate_left
      ·intro w'
       go_simp
       with_reducible rfl
      rotate_left
      ·simp only [Act.put, qA, qB, qC, i64_w, i32_w]
       rfl
      refine pure_ (i := 4) (N := some 53) (v := ?_) (a' := ?_) #[tT,fF,tT,fF,tT,fF,fF,fF,fF] rfl rfl (any_of HT_.out (by kernel_rfl)) (fun _ _ _ h => h) (Or.inl ⟨by rfl, ?_⟩) ?_ ?_
      rotate_left
      ·intro w'
       go_simp
       with_reducible rfl
      rotate_left
      ·simp only [Act.put, qA, qB, qC, i64_w, i32_w]
       rfl
      refine take_ (i := 1) (N := some 50) (v := ?_) (a' := ?_) #[tT,tT,tT,fF,tT,fF,fF,fF,fF] rfl rfl (take_ofW HT_.out HW_.out (by kernel_rfl)) (fun _ _ _ h => h) (Or.inl ⟨by rfl, ?_⟩) hHeld ?_ ?_
      rotate_left
      ·rintro w' ⟨s0, s1, s2⟩
       go_simp
       with_reducible rfl
      rotate_left
      ·simp only [Act.put, qA, qB, qC, i64_w, i32_w]
       rfl
      refine one_ (i := 3) (N := some 52) #[tT,tT,tT,tT,tT,fF,fF,fF,fF] rfl rfl (one_of HT_.out (by kernel_rfl)) (by decide) (fun K hK => ?_)
      refine gS Try.func54 (by kernel_rfl) rfl #[.int .u8 2, .int .i64 a1] (by rfl) rfl rfl ?_
      with_reducible refine (spec_l2Pow.calls kj3 2 a1 t177 _ A31.out).mono ?_
      rintro e w' ⟨rfl, ⟨nd, rfl⟩⟩
      refine ⟨_, rfl, ?_⟩
      refine hK.out _ _ ⟨yc BK164.out 0, yc BK164.out 1, yc BK164.out 2⟩ (fun hHeld => ?_)
      clear hK K
      refine norm_ (a' := ?_) ?_ ?_
      rotate_left
      ·show Act.put _ (some 52) _ = _
       simp only [Act.put, qA, qB, qC, i64_w, i32_w]
       rfl
      refine one_ (i := 5) (N := some 54) #[tT,tT,tT,tT,tT,tT,fF,fF,fF] rfl rfl (one_of HT_.out (by kernel_rfl)) (by decide) (fun K hK => ?_)
      refine gS Try.func53 (by kernel_rfl) rfl #[.int .u8 t177, .string t174] (by rfl) rfl rfl ?_
      with_reducible refine (spec_l3Times.calls kj3 t177 t174 t178 _ A32.out).mono ?_
      rintro e w48 ⟨rfl, hb⟩
      refine ⟨_, rfl, ?_⟩
      replace HO170 := xK HO170.out hb
      replace BK164 := yK BK164.out hb
      replace BK165 := yK BK165.out hb
      replace HB := aM (zT (zH HB.out) hb)
      (try clear hb)
      refine hK.out _ _ ⟨yc BK164.out 0, yc BK164.out 1, yc BK164.out 2⟩ (fun hHeld => ?_)
      clear hK K
      refine norm_ (a' := ?_) ?_ ?_
      rotate_left
      ·show Act.put _ (some 54) _ = _
       simp only [Act.put, qA, qB, qC, i64_w, i32_w]
       rfl
      refine one_ (i := 6) (N := some 55) #[tT,tT,tT,tT,tT,tT,tT,fF,fF] rfl rfl (one_of HT_.out (by kernel_rfl)) (by decide) (fun K hK => ?_)
      refine gS Try.func52 (by kernel_rfl) rfl #[.string t172, .string t178] (by rfl) rfl rfl ?_
      with_reducible refine (spec_l3Xor.calls t172 t178 t179 _ A33.out).mono ?_
      rintro e w49 ⟨rfl, hb⟩
      refine ⟨_, rfl, ?_⟩
      replace HO170 := xK HO170.out hb
      replace BK164 := yK BK164.out hb
      replace BK165 := yK BK165.out hb
      replace HB := aM (zT (zH HB.out) hb)
      (try clear hb)
      refine hK.out _ _ ⟨yc BK164.out 0, yc BK164.out 1, yc BK164.out 2⟩ (fun hHeld => ?_)
      clear hK K
      refine norm_ (a' := ?_) ?_ ?_
      rotate_left
      ·show Act.put _ (some 55) _ = _
       simp only [Act.put, qA, qB, qC, i64_w, i32_w]
       rfl
      refine pure_ (i := 7) (N := some 56) (v := ?_) (a' := ?_) #[tT,tT,tT,tT,tT,tT,tT,tT,fF] rfl rfl (any_of HT_.out (by kernel_rfl)) (fun _ _ _ h => h) (Or.inl ⟨by rfl, ?_⟩) ?_ ?_
      rotate_left
      ·intro w'
       go_simp
       with_reducible rfl
      rotate_left
      ·simp only [Act.put, qA, qB, qC, i64_w, i32_w]
       rfl
      refine last_ (i := 8) (N := none) #[tT,tT,tT,tT,tT,tT,tT,tT,tT] rfl rfl (one_of HT_.out (by kernel_rfl)) (by decide) (fun K hK => ?_)
      have hs50 : w49.cell? ⟨gb164, 2, none⟩ = some (.string t172) := yc BK164.out 2
      have hfs50 := yZ BK164.out 2
      have hns50_1 := NB165_164.out
      have hms50_1 := NB164_165.out
      refine skip_ (w1 := ?_) (by rfl) rfl ?_ ?_
      rotate_left
      ·go_simp
       rfl
      refine hK.out _ _ ?_
      clear hK K
      refine done_ (done_of HT_.out (by kernel_rfl)) ?_
      have hcz51_0 : w49.cell? ⟨gb164, 0, none⟩ = some (.slice (some ⟨go29, 0, none⟩) t168.length co37) := yc BK164.out 0
      have hcz51_1 : w49.cell? ⟨gb164, 1, none⟩ = some (.string t176) := yc BK164.out 1
      have hcz51_2 : w49.cell? ⟨gb164, 2, none⟩ = some (.string t172) := yc BK164.out 2
      have hfz51_0 := yZ BK164.out 0
      have hfz51_1 := yZ BK164.out 1
      have hfz51_2 := yZ BK164.out 2
      have hcz52_0 : w49.cell? ⟨gb165, 0, none⟩ = some (.slice none 0 0) := yc BK165.out 0
      have hcz52_1 : w49.cell? ⟨gb165, 1, none⟩ = some (.string (⟨#[]⟩ : ByteArray)) := yc BK165.out 1
      have hcz52_2 : w49.cell? ⟨gb165, 2, none⟩ = some (.string (⟨#[]⟩ : ByteArray)) := yc BK165.out 2
      have hfz52_0 := yZ BK165.out 0
      have hfz52_1 := yZ BK165.out 1
      have hfz52_2 := yZ BK165.out 2
      try go_wp2
      refine bodyPost_ret (results_ct rfl _ _ gb165 27 #[.slice (some ⟨go29, 0, none⟩) t168.length co37, .string t176, .string t179] (0, 0) _ rfl (by (with_reducible repeat (first | refine yN ?_ _ | refine yD ?_ | refine yA ?_ _)); refine yP (cs := #[.slice (some ⟨go29, 0, none⟩) t168.length co37, .string t176, .string (⟨#[]⟩ : ByteArray)]) ?_ 2 _ rfl; (with_reducible repeat (first | refine yN ?_ _ | refine yD ?_ | refine yA ?_ _)); refine yP (cs := #[.slice (some ⟨go29, 0, none⟩) t168.length co37, .string (⟨#[]⟩ : ByteArray), .string (⟨#[]⟩ : ByteArray)]) ?_ 1 _ rfl; (with_reducible repeat (first | refine yN ?_ _ | refine yD ?_ | refine yA ?_ _)); refine yP (cs := #[.slice none 0 0, .string (⟨#[]⟩ : ByteArray), .string (⟨#[]⟩ : ByteArray)]) ?_ 0 _ rfl; (with_reducible repeat (first | refine yN ?_ _ | refine yD ?_ | refine yA ?_ _)); refine yF ?_ NB165_164.out _; (with_reducible repeat (first | refine yN ?_ _ | refine yD ?_ | refine yA ?_ _)); exact BK165.out) Try.underlying27 rfl (by kernel_rfl)) rfl ?_
      exact ⟨_, by first | rfl | (simp [errW_none, errW_some] <;> rfl) | (simp [*, errW_none, errW_some] <;> rfl), xH (xM (xF (p := ⟨gb165, 2, none⟩) (xF (p := ⟨gb165, 1, none⟩) (xF (p := ⟨gb165, 0, none⟩) (xF (p := ⟨gb164, 2, none⟩) (xT (xT HO170.out BK164.out (by decide)) BK165.out (by decide)) (fun _ hk => hk.1.2) (.string t179)) (fun _ hk => hk.2) (.slice (some ⟨go29, 0, none⟩) t168.length co37)) (fun _ hk => hk.2) (.string t176)) (fun _ hk => hk.2) (.string t179)) (fun _ hk => trivial)), zH HB.out⟩
     ·rw [if_neg c27] at H
      exact absurd H (by simp)
    ·rw [if_neg c26] at H
     exact absurd H (by simp)

/-! ### impl_isDisk: function 55 -/
def impl_isDisk.f (l0_0 : List ByteArray) (a0_1 : ByteArray) (a0_2 : ByteArray) (a1 : Int) : Option (Bool) := (impl_GoodStripe.f l0_0 a0_1 a0_2).bind fun t181 => (if t181 = true then ((impl_within.f a1 0 (wrap64 ((l0_0.length : Int) + 1))).bind fun t182 => (some t182)) else (some false))
set_option maxHeartbeats 8000000 in
set_option maxRecDepth 100000 in
theorem impl_isDisk.calls (A0_0 : Option Addr) (c0_0 : Nat) (l0_0 : List ByteArray) (a0_1 : ByteArray) (a0_2 : ByteArray) (a1 : Int) (r : Bool) (w : World) (hr0_0 : Kd.C Kd.string w A0_0 l0_0.length l0_0) (hc0_0 : l0_0.length ≤ c0_0) (h : impl_isDisk.f l0_0 a0_1 a0_2 a1 = some r) :
  Calls Try.prog 55 #[.agg #[.slice A0_0 l0_0.length c0_0, .string a0_1, .string a0_2], .int .i64 a1] w fun e w' => e = .returned (.bool r) ∧ Below w.heap.size w w' := by
 have hu27 := Try.underlying27
 have HR0_0 := aM hr0_0
 have HC0_0 := aM hc0_0
 clear hr0_0 hc0_0
 have HB := aM (Below.refl w.heap.size w)
 have H : ((impl_GoodStripe.f l0_0 a0_1 a0_2).bind fun t181 => (if t181 = true then ((impl_within.f a1 0 (wrap64 ((l0_0.length : Int) + 1))).bind fun t182 => (some t182)) else (some false))) = some r := h
 clear h
 replace H := Option.bind_eq_some_iff.mp H
 obtain ⟨t181, A30, H⟩ := H
 replace H : (if t181 = true then ((impl_within.f a1 0 (wrap64 ((l0_0.length : Int) + 1))).bind fun t182 => (some t182)) else (some false)) = some r := H
 have A3 := aM A30
 clear A30
 by_cases c4 : t181 = true
 ·subst c4
  have H1 : ((impl_within.f a1 0 (wrap64 ((l0_0.length : Int) + 1))).bind fun t182 => (some t182)) = some r := by rw [if_pos rfl] at H; exact H
  clear H
  have H := H1
  clear H1
  replace H := Option.bind_eq_some_iff.mp H
  obtain ⟨t182, A50, H⟩ := H
  replace H : (some t182) = some r := H
  have A5 := aM A50
  clear A50
  obtain rfl := Option.some.inj H
  go_enter Try.func55, Try.ntmps55
  go_wp2_with (first | ((with_reducible refine gate_dst (N := 2) rfl ?_); (try (refine gate_guard (by rfl) ?_; dsimp only)); refine box_event ?hg (N := 2) ?hd (cs := #[.slice A0_0 l0_0.length c0_0, .string a0_1, .string a0_2]) (t := 27) ?hr ?_; (case hd => rfl); (case hg => rfl); (case hr => first | (go_simp; done) | (go_simp; rfl)); intro gb180 hg w6 hbox hb; have BK180 := aM (hbox); have GW180 := aM ((by rw [hg]; exact (zZ (zH HB.out)) : w.heap.size ≤ gb180)); have GE180 := aM ((by rw [hg]; exact (zZ (zH HB.out)) : w.heap.size ≤ gb180)); replace HB := aM (zT (zH HB.out) hb); clear hb hbox hg; have hcz7_0 : w6.cell? ⟨gb180, 0, none⟩ = some (.slice A0_0 l0_0.length c0_0) := yc BK180.out 0; have hcz7_1 : w6.cell? ⟨gb180, 1, none⟩ = some (.string a0_1) := yc BK180.out 1; have hcz7_2 : w6.cell? ⟨gb180, 2, none⟩ = some (.string a0_2) := yc BK180.out 2; have hfz7_0 := yZ BK180.out 0; have hfz7_1 := yZ BK180.out 1; have hfz7_2 := yZ BK180.out 2) | ((with_reducible refine gate_callee (f := 15) rfl ?_); refine goesL_ (some 6) rfl rfl Try.func15 (by kernel_rfl) rfl #[.agg #[.slice A0_0 l0_0.length c0_0, .string a0_1, .string a0_2]] rfl (by (try simp only [List.map_toArray, List.map_cons, List.map_nil]); first | done | rfl | (simp only [List.length_drop, List.length_take]; rfl)) ?_; (with_reducible refine (impl_GoodStripe.calls _ _ l0_0 a0_1 a0_2 true _ ?side1 ?side2 A3.out).mono ?_); (case side1 => exact cK HR0_0.out HB.out); (case side2 => exact HC0_0.out); rintro e w8 ⟨rfl, hb⟩; refine ⟨_, rfl, ?_⟩; replace BK180 := yK BK180.out hb; replace HB := aM (zT (zH HB.out) hb); (try clear hb); have hcz9_0 : w8.cell? ⟨gb180, 0, none⟩ = some (.slice A0_0 l0_0.length c0_0) := yc BK180.out 0; have hcz9_1 : w8.cell? ⟨gb180, 1, none⟩ = some (.string a0_1) := yc BK180.out 1; have hcz9_2 : w8.cell? ⟨gb180, 2, none⟩ = some (.string a0_2) := yc BK180.out 2; have hfz9_0 := yZ BK180.out 0; have hfz9_1 := yZ BK180.out 1; have hfz9_2 := yZ BK180.out 2) | (go_at_call 70; (with_reducible refine (impl_within.calls a1 0 (wrap64 ((l0_0.length : Int) + 1)) t182 _ A5.out).mono ?_); rintro e w' ⟨rfl, ⟨nd, rfl⟩⟩))
  go_ret
  exact ⟨by first | rfl | (simp [errW_none, errW_some] <;> rfl) | (simp [*, errW_none, errW_some] <;> rfl), zH HB.out⟩
 ·replace c4 := Bool.eq_false_iff.mpr c4
  subst c4
  have H1 : (some false) = some r := by rw [if_neg (show ¬ (false = true) by decide)] at H; exact H
  clear H
  have H := H1
  clear H1
  obtain rfl := Option.some.inj H
  go_enter Try.func55, Try.ntmps55
  go_wp2_with (first | ((with_reducible refine gate_dst (N := 2) rfl ?_); (try (refine gate_guard (by rfl) ?_; dsimp only)); refine box_event ?hg (N := 2) ?hd (cs := #[.slice A0_0 l0_0.length c0_0, .string a0_1, .string a0_2]) (t := 27) ?hr ?_; (case hd => rfl); (case hg => rfl); (case hr => first | (go_simp; done) | (go_simp; rfl)); intro gb180 hg w10 hbox hb; have BK180 := aM (hbox); have GW180 := aM ((by rw [hg]; exact (zZ (zH HB.out)) : w.heap.size ≤ gb180)); have GE180 := aM ((by rw [hg]; exact (zZ (zH HB.out)) : w.heap.size ≤ gb180)); replace HB := aM (zT (zH HB.out) hb); clear hb hbox hg; have hcz11_0 : w10.cell? ⟨gb180, 0, none⟩ = some (.slice A0_0 l0_0.length c0_0) := yc BK180.out 0; have hcz11_1 : w10.cell? ⟨gb180, 1, none⟩ = some (.string a0_1) := yc BK180.out 1; have hcz11_2 : w10.cell? ⟨gb180, 2, none⟩ = some (.string a0_2) := yc BK180.out 2; have hfz11_0 := yZ BK180.out 0; have hfz11_1 := yZ BK180.out 1; have hfz11_2 := yZ BK180.out 2) | ((with_reducible refine gate_callee (f := 15) rfl ?_); refine goesL_ (some 6) rfl rfl Try.func15 (by kernel_rfl) rfl #[.agg #[.slice A0_0 l0_0.length c0_0, .string a0_1, .string a0_2]] rfl (by (try simp only [List.map_toArray, List.map_cons, List.map_nil]); first | done | rfl | (simp only [List.length_drop, List.length_take]; rfl)) ?_; (with_reducible refine (impl_GoodStripe.calls _ _ l0_0 a0_1 a0_2 false _ ?side1 ?side2 A3.out).mono ?_); (case side1 => exact cK HR0_0.out HB.out); (case side2 => exact HC0_0.out); rintro e w12 ⟨rfl, hb⟩; refine ⟨_, rfl, ?_⟩; replace BK180 := yK BK180.out hb; replace HB := aM (zT (zH HB.out) hb); (try clear hb)))
  go_ret
  exact ⟨by first | rfl | (simp [errW_none, errW_some] <;> rfl) | (simp [*, errW_none, errW_some] <;> rfl), zH HB.out⟩

end Go.Proofs.Ytfijnlhklfmoeaa.PFnUpdated
