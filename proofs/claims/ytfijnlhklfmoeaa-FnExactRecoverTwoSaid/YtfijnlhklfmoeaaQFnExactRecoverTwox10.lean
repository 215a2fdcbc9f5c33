/- The walks of FnExactRecoverTwo: Go's calls come to what the Lean functions beside them say; no condition. -/
import Derived.Test.YtfijnlhklfmoeaaQFnExactRecoverTwox0
import Derived.Test.YtfijnlhklfmoeaaQFnExactRecoverTwox6
import Derived.Test.YtfijnlhklfmoeaaQFnExactRecoverTwox8
import Derived.Test.YtfijnlhklfmoeaaQFnExactRecoverTwox9
namespace Go.Proofs.Ytfijnlhklfmoeaa.PFnExactRecoverTwo
open Go.RowKit Go.Proofs.YtfijnlhklfmoeaaW.PrintWords Go.Proofs.YtfijnlhklfmoeaaW.PrintLast Go.Proofs.YtfijnlhklfmoeaaW.PrintMore
attribute [local go_sem] max2_int min2_int max_two min_two max_three min_three max_four min_four   -- for this text's walks alone
set_option linter.unusedVariables false
set_option linter.unusedSimpArgs false
set_option maxRecDepth 100000

/-! ### impl_RecoverTwo: function 34 -/
def impl_RecoverTwo.j0 : Nat → Int → Int → Bool → List ByteArray → ByteArray → ByteArray → Option (List ByteArray × ByteArray × ByteArray × Bool)
 | 0, _, _, _, _, _, _ => none
 | k + 1, x1, x2, x27, x281000, x281001, x281002 => if x27 = true then (some (([] : List ByteArray), (⟨#[]⟩ : ByteArray), (⟨#[]⟩ : ByteArray), false)) else ((impl_without.f k x281000 x281001 x281002 (([mn x1 x2, mx x1 x2] : List Int))).bind fun bt287 => ((impl_parities.f k bt287.1).bind fun bt293 => (if (mn x1 x2) = (x281000.length : Int) then (some (bt287.1, bt293.1, bt293.2, true)) else (if (mx x1 x2) = (x281000.length : Int) then ((impl_xor.f bt293.2 x281002).bind fun t295 => ((impl_power.f k 2 (mn x1 x2)).bind fun t296 => ((impl_divided.f k t295 t296).bind fun t297 => (if 0 ≤ (mn x1 x2) then (if (mn x1 x2) < (bt287.1.length : Int) then ((some (bt287.1.set ((mn x1 x2) : Int).toNat t297 : List ByteArray)).bind fun y298 => ((impl_parities.f k y298).bind fun bt299 => (some (y298, bt299.1, bt287.2.2, true)))) else (none)) else (none))))) else (if (mx x1 x2) = (wrap64 ((x281000.length : Int) + 1)) then ((impl_xor.f bt293.1 x281001).bind fun t301 => (if 0 ≤ (mn x1 x2) then (if (mn x1 x2) < (bt287.1.length : Int) then ((some (bt287.1.set ((mn x1 x2) : Int).toNat t301 : List ByteArray)).bind fun y302 => ((impl_parities.f k y302).bind fun bt303 => (some (y302, bt287.2.1, bt303.2, true)))) else (none)) else (none))) else ((impl_xor.f bt293.1 x281001).bind fun t305 => ((impl_xor.f bt293.2 x281002).bind fun t306 => ((impl_weighed.f k t305 (mx x1 x2)).bind fun t307 => ((impl_xor.f t306 t307).bind fun t308 => ((impl_power.f k 2 (mn x1 x2)).bind fun t309 => ((impl_power.f k 2 (mx x1 x2)).bind fun t310 => ((impl_divided.f k t308 (Go.bits .xor .u8 t309 t310)).bind fun t311 => (if 0 ≤ (mn x1 x2) then (if (mn x1 x2) < (bt287.1.length : Int) then ((some (bt287.1.set ((mn x1 x2) : Int).toNat t311 : List ByteArray)).bind fun y312 => ((impl_xor.f t305 (rdOf ByteArray.empty y312 (mn x1 x2))).bind fun t314 => (if 0 ≤ (mx x1 x2) then (if (mx x1 x2) < (bt287.1.length : Int) then (some ((y312.set ((mx x1 x2) : Int).toNat t314), bt287.2.1, bt287.2.2, true)) else (none)) else (none)))) else (none)) else (none))))))))))))))
def impl_RecoverTwo.f (k : Nat) (l0_0 : List ByteArray) (a0_1 : ByteArray) (a0_2 : ByteArray) (a1 : Int) (a2 : Int) : Option (List ByteArray × ByteArray × ByteArray × Bool) := (impl_isDisk.f l0_0 a0_1 a0_2 a1).bind fun t282 => (if t282 = true then ((impl_isDisk.f l0_0 a0_1 a0_2 a2).bind fun t283 => (if t283 = true then (impl_RecoverTwo.j0 k a1 a2 (a1 == a2) l0_0 a0_1 a0_2) else (impl_RecoverTwo.j0 k a1 a2 true l0_0 a0_1 a0_2))) else (impl_RecoverTwo.j0 k a1 a2 true l0_0 a0_1 a0_2))
theorem impl_RecoverTwo.mono_l : ∀ k, (∀ y0 y1 y2 y3 y4 y5, LeO (impl_RecoverTwo.j0 k y0 y1 y2 y3 y4 y5) (impl_RecoverTwo.j0 (k + 1) y0 y1 y2 y3 y4 y5))
 | 0 => fun _ _ _ _ _ _ r h => by change none = some r at h; cases h
 | k + 1 => by
  have ih0 := impl_RecoverTwo.mono_l k
  ·intro y0 y1 y2 y3 y4 y5
   unfold impl_RecoverTwo.j0
   repeat' first
   | (with_reducible exact ih0 _ _ _ _ _ _)
   | (with_reducible exact impl_divided.mono _ _ _)
   | (with_reducible exact impl_parities.mono _ _)
   | (with_reducible exact impl_power.mono _ _ _)
   | (with_reducible exact impl_weighed.mono _ _ _)
   | (with_reducible exact impl_without.mono _ _ _ _ _)
   | (with_reducible exact LeO.refl _)
   | (with_reducible exact LeO.none _)
   | (with_reducible refine LeO.ite ?_ ?_)
   | (with_reducible refine LeO.bind ?_ (fun _ => ?_))
   | exact ih0 _ _ _ _ _ _
   | exact impl_divided.mono _ _ _
   | exact impl_parities.mono _ _
   | exact impl_power.mono _ _ _
   | exact impl_weighed.mono _ _ _
   | exact impl_without.mono _ _ _ _ _
   | exact LeO.none _
   | refine LeO.ite ?_ ?_
   | refine LeO.bind ?_ (fun _ => ?_)
theorem impl_RecoverTwo.mono : ∀ a0 a1 a2 a3 a4 k, LeO (impl_RecoverTwo.f k a0 a1 a2 a3 a4) (impl_RecoverTwo.f (k + 1) a0 a1 a2 a3 a4) := by
 intro a0 a1 a2 a3 a4 k
 have ih0 := impl_RecoverTwo.mono_l k
 unfold impl_RecoverTwo.f
 repeat' first
   | (with_reducible exact ih0 _ _ _ _ _ _)
   | (with_reducible exact impl_divided.mono _ _ _)
   | (with_reducible exact impl_parities.mono _ _)
   | (with_reducible exact impl_power.mono _ _ _)
   | (with_reducible exact impl_weighed.mono _ _ _)
   | (with_reducible exact impl_without.mono _ _ _ _ _)
   | (with_reducible exact LeO.refl _)
   | (with_reducible exact LeO.none _)
   | (with_reducible refine LeO.ite ?_ ?_)
   | (with_reducible refine LeO.bind ?_ (fun _ => ?_))
   | exact ih0 _ _ _ _ _ _
   | exact impl_divided.mono _ _ _
   | exact impl_parities.mono _ _
   | exact impl_power.mono _ _ _
   | exact impl_weighed.mono _ _ _
   | exact impl_without.mono _ _ _ _ _
   | exact LeO.none _
   | refine LeO.ite ?_ ?_
   | refine LeO.bind ?_ (fun _ => ?_)
def impl_RecoverTwo.T8 : Bool × List (List Nat × List Nat) := (true, [([], []), ([0], [0]), ([], []), ([], []), ([], []), ([4], [4]), ([3, 5], [3, 5]), ([], []), ([], []), ([7, 8, 6], [7, 8]), ([6, 9, 9], [6, 9]), ([], []), ([11, 10], [11]), ([], []), ([13, 12], [13]), ([12, 14], [12, 14]), ([10, 15, 14], [10, 15]), ([1, 2, 0, 1, 2, 3, 4, 5, 6, 7, 8, 9, 10, 11, 12, 13, 14, 15, 16], [1, 2]), ([17, 16, 16, 0, 1, 2, 3, 4, 5, 6, 7, 8, 9, 10, 11, 12, 13, 14, 15, 16], [16, 17])])
def impl_RecoverTwo.B8 : List Nat := [0, 1, 0, 0, 0, 16, 56, 0, 0, 504, 1016, 0, 4088, 0, 16376, 32760, 65528, 131071, 262143]
theorem impl_RecoverTwo.tab8 : rtab .any (opsOf Try.f34 8) = impl_RecoverTwo.T8 := by kernel_rfl
theorem impl_RecoverTwo.bits8 : waitsOk impl_RecoverTwo.T8.2 impl_RecoverTwo.B8 = true := by kernel_rfl
def impl_RecoverTwo.T9 : Bool × List (List Nat × List Nat) := (true, [([], []), ([0], [0]), ([], []), ([], []), ([], []), ([4], [4]), ([], []), ([5, 6], [5, 6]), ([7], [7]), ([3, 8], [3, 8]), ([1, 2, 0, 1, 2, 3, 4, 5, 6, 7, 8, 9], [1, 2]), ([10, 9, 9, 0, 1, 2, 3, 4, 5, 6, 7, 8, 9], [9, 10])])
def impl_RecoverTwo.B9 : List Nat := [0, 1, 0, 0, 0, 16, 0, 112, 240, 504, 1023, 2047]
theorem impl_RecoverTwo.tab9 : rtab .any (opsOf Try.f34 9) = impl_RecoverTwo.T9 := by kernel_rfl
theorem impl_RecoverTwo.bits9 : waitsOk impl_RecoverTwo.T9.2 impl_RecoverTwo.B9 = true := by kernel_rfl
def impl_RecoverTwo.T13 : Bool × List (List Nat × List Nat) := (true, [([], []), ([0], [0]), ([], []), ([], []), ([], []), ([4], [4]), ([3, 5], [3, 5]), ([], []), ([7, 6], [7]), ([6, 8, 8], [6, 8]), ([1, 2, 0, 1, 2, 3, 4, 5, 6, 7, 8, 9], [1, 2]), ([10, 9, 9, 0, 1, 2, 3, 4, 5, 6, 7, 8, 9], [9, 10])])
def impl_RecoverTwo.B13 : List Nat := [0, 1, 0, 0, 0, 16, 56, 0, 248, 504, 1023, 2047]
theorem impl_RecoverTwo.tab13 : rtab .any (opsOf Try.f34 13) = impl_RecoverTwo.T13 := by kernel_rfl
theorem impl_RecoverTwo.bits13 : waitsOk impl_RecoverTwo.T13.2 impl_RecoverTwo.B13 = true := by kernel_rfl
def impl_RecoverTwo.T16 : Bool × List (List Nat × List Nat) := (true, [([], []), ([0], [0]), ([], []), ([], []), ([], []), ([4], [4]), ([3, 5], [3, 5]), ([1, 2, 0, 1, 2, 3, 4, 5, 6], [1, 2]), ([7, 6, 6, 0, 1, 2, 3, 4, 5, 6], [6, 7])])
def impl_RecoverTwo.B16 : List Nat := [0, 1, 0, 0, 0, 16, 56, 127, 255]
theorem impl_RecoverTwo.tab16 : rtab .any (opsOf Try.f34 16) = impl_RecoverTwo.T16 := by kernel_rfl
theorem impl_RecoverTwo.bits16 : waitsOk impl_RecoverTwo.T16.2 impl_RecoverTwo.B16 = true := by kernel_rfl
set_option maxHeartbeats 8000000 in
set_option maxRecDepth 100000 in
theorem impl_RecoverTwo.calls (k : Nat) (A0_0 : Option Addr) (c0_0 : Nat) (l0_0 : List ByteArray) (a0_1 : ByteArray) (a0_2 : ByteArray) (a1 : Int) (a2 : Int) (r1 : List ByteArray) (r2 : ByteArray) (r3 : ByteArray) (r4 : Bool) (w : World) (hr0_0 : Kd.C Kd.string w A0_0 l0_0.length l0_0) (hc0_0 : l0_0.length ≤ c0_0) (h : impl_RecoverTwo.f k l0_0 a0_1 a0_2 a1 a2 = some (r1, r2, r3, r4)) :
  Calls Try.prog 34 #[.agg #[.slice A0_0 l0_0.length c0_0, .string a0_1, .string a0_2], .int .i64 a1, .int .i64 a2] w fun e w' => ∃ v0_ : Value, e = .returned (.tuple #[.agg #[v0_, .string r2, .string r3], .bool r4]) ∧ Kd.R Kd.string 9 w' w.heap.size (fun _ => True) v0_ r1 ∧ Below w.heap.size w w' := by
 have hu27 := Try.underlying27
 have HR0_0 := Aside0.mk hr0_0
 have HC0_0 := Aside0.mk hc0_0
 clear hr0_0 hc0_0
 have HB := Aside0.mk (Below.refl w.heap.size w)
 have H : ((impl_isDisk.f l0_0 a0_1 a0_2 a1).bind fun t282 => (if t282 = true then ((impl_isDisk.f l0_0 a0_1 a0_2 a2).bind fun t283 => (if t283 = true then (impl_RecoverTwo.j0 k a1 a2 (a1 == a2) l0_0 a0_1 a0_2) else (impl_RecoverTwo.j0 k a1 a2 true l0_0 a0_1 a0_2))) else (impl_RecoverTwo.j0 k a1 a2 true l0_0 a0_1 a0_2))) = some (r1, r2, r3, r4) := h
 clear h
 have HC4 := Aside0.mk H
 clear H
 go_enter Try.func34, Try.ntmps34
 go_upto_region 1 with (first | ((with_reducible refine gate_dst (N := 3) rfl ?_); refine box_event ?hg (N := 3) ?hd (cs := #[.slice A0_0 l0_0.length c0_0, .string a0_1, .string a0_2]) (t := 27) ?hr ?_; (case hd => rfl); (case hg => rfl); (case hr => first | (go_simp; done) | (go_simp; rfl)); intro gb280 hg w5 hbox hb; have n0_ := Aside0.mk (below_step (by repeat (first | (with_reducible first | exact HB.out | apply below_alloc | apply pw_below_drewN | apply below_drew1) | exact HB.out)) hb); have n1_ := Aside0.mk (hbox); have n2_ := Aside0.mk ((by rw [hg]; exact (below_size (by repeat (first | (with_reducible first | exact HB.out | apply below_alloc | apply pw_below_drewN | apply below_drew1) | exact HB.out))) : w.heap.size ≤ gb280)); have n3_ := Aside0.mk ((by rw [hg]; exact (below_size (by repeat (first | (with_reducible first | exact HB.out | apply below_alloc | apply pw_below_drewN | apply below_drew1) | exact HB.out))) : w.heap.size ≤ gb280)); clear HB; have HB := n0_; have BK280 := n1_; have GW280 := n2_; have GE280 := n3_; clear n0_ n1_ n2_ n3_; clear hb hbox hg) | ((with_reducible refine gate_dst (N := 6) rfl ?_); refine box_event ?hg (N := 6) ?hd (cs := #[.slice none 0 0, .string (⟨#[]⟩ : ByteArray), .string (⟨#[]⟩ : ByteArray)]) (t := 27) ?hr ?_; (case hd => rfl); (case hg => rfl); (case hr => first | (go_simp; done) | (go_simp; rfl)); intro gb281 hg w6 hbox hb; have n0_ := Aside0.mk (blk_below (g := gb280) (o := .cells #[.slice A0_0 l0_0.length c0_0, .string a0_1, .string a0_2] 27 (0, 0)) (by (with_reducible repeat (first | refine blk_drewN ?_ _ | refine blk_drew ?_ | refine blk_alloc ?_ _)); exact BK280.out) hb); have n1_ := Aside0.mk (below_step (by repeat (first | (with_reducible first | exact HB.out | apply below_alloc | apply pw_below_drewN | apply below_drew1 | refine below_set ?_ GE280.out) | exact HB.out)) hb); have n2_ := Aside0.mk (hbox); have n3_ := Aside0.mk ((by rw [hg]; exact (below_size (by repeat (first | (with_reducible first | exact HB.out | apply below_alloc | apply pw_below_drewN | apply below_drew1 | refine below_set ?_ GE280.out) | exact HB.out))) : w.heap.size ≤ gb281)); have n4_ := Aside0.mk ((by rw [hg]; exact (below_size (by repeat (first | (with_reducible first | exact HB.out | apply below_alloc | apply pw_below_drewN | apply below_drew1 | refine below_set ?_ GE280.out) | exact HB.out))) : w.heap.size ≤ gb281)); have n5_ := Aside0.mk ((by rw [hg]; exact Nat.ne_of_lt (blk_lt (g := gb280) (o := .cells #[.slice A0_0 l0_0.length c0_0, .string a0_1, .string a0_2] 27 (0, 0)) (by (with_reducible repeat (first | refine blk_drewN ?_ _ | refine blk_drew ?_ | refine blk_alloc ?_ _)); exact BK280.out)) : gb280 ≠ gb281)); have n6_ := Aside0.mk ((by rw [hg]; exact Nat.ne_of_gt (blk_lt (g := gb280) (o := .cells #[.slice A0_0 l0_0.length c0_0, .string a0_1, .string a0_2] 27 (0, 0)) (by (with_reducible repeat (first | refine blk_drewN ?_ _ | refine blk_drew ?_ | refine blk_alloc ?_ _)); exact BK280.out)) : gb281 ≠ gb280)); clear BK280; clear HB; have BK280 := n0_; have HB := n1_; have BK281 := n2_; have GW281 := n3_; have GE281 := n4_; have NB280_281 := n5_; have NB281_280 := n6_; clear n0_ n1_ n2_ n3_ n4_ n5_ n6_; clear hb hbox hg))
 (try simp only [Act.put, List.setIfInBounds_toArray, List.set_cons_zero, List.set_cons_succ])
 go_cut [27] (fun v27 wc => ∃ (kq : Nat) (x27_3 : Bool), v27 = .bool x27_3 ∧ Aside0 (impl_RecoverTwo.j0 kq a1 a2 x27_3 l0_0 a0_1 a0_2 = some (r1, r2, r3, r4)) ∧ Aside0 (kq ≤ k) ∧ Aside0 (wc.heap[gb280]? = some (.cells #[(.slice A0_0 l0_0.length c0_0), .string a0_1, .string a0_2] 27 (0, 0))) ∧ Aside0 (wc.heap[gb281]? = some (.cells #[(.slice none 0 0), .string (⟨#[]⟩ : ByteArray), .string (⟨#[]⟩ : ByteArray)] 27 (0, 0))) ∧ Aside0 (Below w.heap.size w wc))
 case first =>
  have H := HC4.out
  clear HC4
  replace H := Option.bind_eq_some_iff.mp H
  obtain ⟨t282, A70, H⟩ := H
  replace H : (if t282 = true then ((impl_isDisk.f l0_0 a0_1 a0_2 a2).bind fun t283 => (if t283 = true then (impl_RecoverTwo.j0 k a1 a2 (a1 == a2) l0_0 a0_1 a0_2) else (impl_RecoverTwo.j0 k a1 a2 true l0_0 a0_1 a0_2))) else (impl_RecoverTwo.j0 k a1 a2 true l0_0 a0_1 a0_2)) = some (r1, r2, r3, r4) := H
  have A7 := Aside0.mk A70
  clear A70
  by_cases c8 : t282 = true
  ·subst c8
   have H1 : ((impl_isDisk.f l0_0 a0_1 a0_2 a2).bind fun t283 => (if t283 = true then (impl_RecoverTwo.j0 k a1 a2 (a1 == a2) l0_0 a0_1 a0_2) else (impl_RecoverTwo.j0 k a1 a2 true l0_0 a0_1 a0_2))) = some (r1, r2, r3, r4) := by rw [if_pos rfl] at H; exact H
   clear H
   have H := H1
   clear H1
   replace H := Option.bind_eq_some_iff.mp H
   obtain ⟨t283, A90, H⟩ := H
   replace H : (if t283 = true then (impl_RecoverTwo.j0 k a1 a2 (a1 == a2) l0_0 a0_1 a0_2) else (impl_RecoverTwo.j0 k a1 a2 true l0_0 a0_1 a0_2)) = some (r1, r2, r3, r4) := H
   have A9 := Aside0.mk A90
   clear A90
   by_cases c10 : t283 = true
   ·subst c10
    have H1 : (impl_RecoverTwo.j0 k a1 a2 (a1 == a2) l0_0 a0_1 a0_2) = some (r1, r2, r3, r4) := by rw [if_pos rfl] at H; exact H
    clear H
    have H := H1
    clear H1
    have H' := Aside0.mk H
    clear H
    have hnb11 := NB280_281.out
    have hnc11 := NB281_280.out
    have hcz12_0 : w6.cell? ⟨gb280, 0, none⟩ = some (.slice A0_0 l0_0.length c0_0) := (blk_cell BK280.out 0).trans rfl
    have hcz12_1 : w6.cell? ⟨gb280, 1, none⟩ = some (.string a0_1) := (blk_cell BK280.out 1).trans rfl
    have hcz12_2 : w6.cell? ⟨gb280, 2, none⟩ = some (.string a0_2) := (blk_cell BK280.out 2).trans rfl
    have hfz12_0 := blk_frozen BK280.out 0
    have hfz12_1 := blk_frozen BK280.out 1
    have hfz12_2 := blk_frozen BK280.out 2
    go_wp2_with (first | ((with_reducible refine gate_callee (f := 55) rfl ?_); refine goesL_ (some 15) rfl rfl Try.func55 (by kernel_rfl) rfl #[.agg #[.slice A0_0 l0_0.length c0_0, .string a0_1, .string a0_2], .int .i64 a1] rfl (by (try simp only [List.map_toArray, List.map_cons, List.map_nil]); first | done | rfl | (simp only [List.length_drop, List.length_take]; rfl)) ?_; (with_reducible refine (impl_isDisk.calls _ _ l0_0 a0_1 a0_2 a1 true _ ?side1 ?side2 A7.out).mono ?_); (case side1 => repeat (first | exact (Kd.C_below HR0_0.out HB.out) | (with_reducible refine Kd.C_alloc ?_ _) | (with_reducible refine Kd.C_drewN ?_ _) | (with_reducible refine Kd.C_drew ?_))); (case side2 => exact HC0_0.out); rintro e w13 ⟨rfl, hb⟩; refine ⟨_, rfl, ?_⟩; have n0_ := Aside0.mk (blk_below (g := gb280) (o := .cells #[.slice A0_0 l0_0.length c0_0, .string a0_1, .string a0_2] 27 (0, 0)) (by (with_reducible repeat (first | refine blk_drewN ?_ _ | refine blk_drew ?_ | refine blk_alloc ?_ _)); exact BK280.out) hb); have n1_ := Aside0.mk (blk_below (g := gb281) (o := .cells #[.slice none 0 0, .string (⟨#[]⟩ : ByteArray), .string (⟨#[]⟩ : ByteArray)] 27 (0, 0)) (by (with_reducible repeat (first | refine blk_drewN ?_ _ | refine blk_drew ?_ | refine blk_alloc ?_ _)); exact BK281.out) hb); have n2_ := Aside0.mk (below_step (by repeat (first | (with_reducible first | exact HB.out | apply below_alloc | apply pw_below_drewN | apply below_drew1 | refine below_set ?_ GE280.out | refine below_set ?_ GE281.out) | exact HB.out)) hb); clear BK280; clear BK281; clear HB; have BK280 := n0_; have BK281 := n1_; have HB := n2_; clear n0_ n1_ n2_; (try clear hb); (try clear hb2); (try clear hk); (try clear hi); have hcz14_0 : w13.cell? ⟨gb280, 0, none⟩ = some (.slice A0_0 l0_0.length c0_0) := (blk_cell BK280.out 0).trans rfl; have hcz14_1 : w13.cell? ⟨gb280, 1, none⟩ = some (.string a0_1) := (blk_cell BK280.out 1).trans rfl; have hcz14_2 : w13.cell? ⟨gb280, 2, none⟩ = some (.string a0_2) := (blk_cell BK280.out 2).trans rfl; have hfz14_0 := blk_frozen BK280.out 0; have hfz14_1 := blk_frozen BK280.out 1; have hfz14_2 := blk_frozen BK280.out 2) | (go_at_call 55; (with_reducible refine (impl_isDisk.calls _ _ l0_0 a0_1 a0_2 a2 true _ ?side1 ?side2 A9.out).mono ?_); (case side1 => repeat (first | exact (Kd.C_below HR0_0.out HB.out) | (with_reducible refine Kd.C_alloc ?_ _) | (with_reducible refine Kd.C_drewN ?_ _) | (with_reducible refine Kd.C_drew ?_))); (case side2 => exact HC0_0.out); rintro e w15 ⟨rfl, hb⟩; have n0_ := Aside0.mk (blk_below (g := gb280) (o := .cells #[.slice A0_0 l0_0.length c0_0, .string a0_1, .string a0_2] 27 (0, 0)) (by (with_reducible repeat (first | refine blk_drewN ?_ _ | refine blk_drew ?_ | refine blk_alloc ?_ _)); exact BK280.out) hb); have n1_ := Aside0.mk (blk_below (g := gb281) (o := .cells #[.slice none 0 0, .string (⟨#[]⟩ : ByteArray), .string (⟨#[]⟩ : ByteArray)] 27 (0, 0)) (by (with_reducible repeat (first | refine blk_drewN ?_ _ | refine blk_drew ?_ | refine blk_alloc ?_ _)); exact BK281.out) hb); have n2_ := Aside0.mk (below_step (by repeat (first | (with_reducible first | exact HB.out | apply below_alloc | apply pw_below_drewN | apply below_drew1 | refine below_set ?_ GE280.out | refine below_set ?_ GE281.out) | exact HB.out)) hb); clear BK280; clear BK281; clear HB; have BK280 := n0_; have BK281 := n1_; have HB := n2_; clear n0_ n1_ n2_; (try clear hb); (try clear hb2); (try clear hk); (try clear hi)))
    go_meet
    case rel => exact ⟨_, ((a1 == a2)), (by first | rfl | (simp; done) | (simp [*]; done)), H', ⟨by first | omega | exact Nat.le_refl _⟩, ⟨by (with_reducible repeat (first | refine blk_drewN ?_ _ | refine blk_drew ?_ | refine blk_alloc ?_ _)); exact BK280.out⟩, ⟨by (with_reducible repeat (first | refine blk_drewN ?_ _ | refine blk_drew ?_ | refine blk_alloc ?_ _)); exact BK281.out⟩, ⟨by repeat (first | (with_reducible first | exact HB.out | apply below_alloc | apply pw_below_drewN | apply below_drew1 | refine below_set ?_ GE280.out | refine below_set ?_ GE281.out) | exact HB.out)⟩⟩
   ·replace c10 := Bool.eq_false_iff.mpr c10
    subst c10
    have H1 : (impl_RecoverTwo.j0 k a1 a2 true l0_0 a0_1 a0_2) = some (r1, r2, r3, r4) := by rw [if_neg (show ¬ (false = true) by decide)] at H; exact H
    clear H
    have H := H1
    clear H1
    have H' := Aside0.mk H
    clear H
    have hnb16 := NB280_281.out
    have hnc16 := NB281_280.out
    have hcz17_0 : w6.cell? ⟨gb280, 0, none⟩ = some (.slice A0_0 l0_0.length c0_0) := (blk_cell BK280.out 0).trans rfl
    have hcz17_1 : w6.cell? ⟨gb280, 1, none⟩ = some (.string a0_1) := (blk_cell BK280.out 1).trans rfl
    have hcz17_2 : w6.cell? ⟨gb280, 2, none⟩ = some (.string a0_2) := (blk_cell BK280.out 2).trans rfl
    have hfz17_0 := blk_frozen BK280.out 0
    have hfz17_1 := blk_frozen BK280.out 1
    have hfz17_2 := blk_frozen BK280.out 2
    go_wp2_with (first | ((with_reducible refine gate_callee (f := 55) rfl ?_); refine goesL_ (some 15) rfl rfl Try.func55 (by kernel_rfl) rfl #[.agg #[.slice A0_0 l0_0.length c0_0, .string a0_1, .string a0_2], .int .i64 a1] rfl (by (try simp only [List.map_toArray, List.map_cons, List.map_nil]); first | done | rfl | (simp only [List.length_drop, List.length_take]; rfl)) ?_; (with_reducible refine (impl_isDisk.calls _ _ l0_0 a0_1 a0_2 a1 true _ ?side1 ?side2 A7.out).mono ?_); (case side1 => repeat (first | exact (Kd.C_below HR0_0.out HB.out) | (with_reducible refine Kd.C_alloc ?_ _) | (with_reducible refine Kd.C_drewN ?_ _) | (with_reducible refine Kd.C_drew ?_))); (case side2 => exact HC0_0.out); rintro e w18 ⟨rfl, hb⟩; refine ⟨_, rfl, ?_⟩; have n0_ := Aside0.mk (blk_below (g := gb280) (o := .cells #[.slice A0_0 l0_0.length c0_0, .string a0_1, .string a0_2] 27 (0, 0)) (by (with_reducible repeat (first | refine blk_drewN ?_ _ | refine blk_drew ?_ | refine blk_alloc ?_ _)); exact BK280.out) hb); have n1_ := Aside0.mk (blk_below (g := gb281) (o := .cells #[.slice none 0 0, .string (⟨#[]⟩ : ByteArray), .string (⟨#[]⟩ : ByteArray)] 27 (0, 0)) (by (with_reducible repeat (first | refine blk_drewN ?_ _ | refine blk_drew ?_ | refine blk_alloc ?_ _)); exact BK281.out) hb); have n2_ := Aside0.mk (below_step (by repeat (first | (with_reducible first | exact HB.out | apply below_alloc | apply pw_below_drewN | apply below_drew1 | refine below_set ?_ GE280.out | refine below_set ?_ GE281.out) | exact HB.out)) hb); clear BK280; clear BK281; clear HB; have BK280 := n0_; have BK281 := n1_; have HB := n2_; clear n0_ n1_ n2_; (try clear hb); (try clear hb2); (try clear hk); (try clear hi); have hcz19_0 : w18.cell? ⟨gb280, 0, none⟩ = some (.slice A0_0 l0_0.length c0_0) := (blk_cell BK280.out 0).trans rfl; have hcz19_1 : w18.cell? ⟨gb280, 1, none⟩ = some (.string a0_1) := (blk_cell BK280.out 1).trans rfl; have hcz19_2 : w18.cell? ⟨gb280, 2, none⟩ = some (.string a0_2) := (blk_cell BK280.out 2).trans rfl; have hfz19_0 := blk_frozen BK280.out 0; have hfz19_1 := blk_frozen BK280.out 1; have hfz19_2 := blk_frozen BK280.out 2) | (go_at_call 55; (with_reducible refine (impl_isDisk.calls _ _ l0_0 a0_1 a0_2 a2 false _ ?side1 ?side2 A9.out).mono ?_); (case side1 => repeat (first | exact (Kd.C_below HR0_0.out HB.out) | (with_reducible refine Kd.C_alloc ?_ _) | (with_reducible refine Kd.C_drewN ?_ _) | (with_reducible refine Kd.C_drew ?_))); (case side2 => exact HC0_0.out); rintro e w20 ⟨rfl, hb⟩; have n0_ := Aside0.mk (blk_below (g := gb280) (o := .cells #[.slice A0_0 l0_0.length c0_0, .string a0_1, .string a0_2] 27 (0, 0)) (by (with_reducible repeat (first | refine blk_drewN ?_ _ | refine blk_drew ?_ | refine blk_alloc ?_ _)); exact BK280.out) hb); have n1_ := Aside0.mk (blk_below (g := gb281) (o := .cells #[.slice none 0 0, .string (⟨#[]⟩ : ByteArray), .string (⟨#[]⟩ : ByteArray)] 27 (0, 0)) (by (with_reducible repeat (first | refine blk_drewN ?_ _ | refine blk_drew ?_ | refine blk_alloc ?_ _)); exact BK281.out) hb); have n2_ := Aside0.mk (below_step (by repeat (first | (with_reducible first | exact HB.out | apply below_alloc | apply pw_below_drewN | apply below_drew1 | refine below_set ?_ GE280.out | refine below_set ?_ GE281.out) | exact HB.out)) hb); clear BK280; clear BK281; clear HB; have BK280 := n0_; have BK281 := n1_; have HB := n2_; clear n0_ n1_ n2_; (try clear hb); (try clear hb2); (try clear hk); (try clear hi)))
    go_meet
    case rel => exact ⟨_, (true), (by first | rfl | (simp; done) | (simp [*]; done)), H', ⟨by first | omega | exact Nat.le_refl _⟩, ⟨by (with_reducible repeat (first | refine blk_drewN ?_ _ | refine blk_drew ?_ | refine blk_alloc ?_ _)); exact BK280.out⟩, ⟨by (with_reducible repeat (first | refine blk_drewN ?_ _ | refine blk_drew ?_ | refine blk_alloc ?_ _)); exact BK281.out⟩, ⟨by repeat (first | (with_reducible first | exact HB.out | apply below_alloc | apply pw_below_drewN | apply below_drew1 | refine below_set ?_ GE280.out | refine below_set ?_ GE281.out) | exact HB.out)⟩⟩
  ·replace c8 := Bool.eq_false_iff.mpr c8
   subst c8
   have H1 : (impl_RecoverTwo.j0 k a1 a2 true l0_0 a0_1 a0_2) = some (r1, r2, r3, r4) := by rw [if_neg (show ¬ (false = true) by decide)] at H; exact H
   clear H
   have H := H1
   clear H1
   have H' := Aside0.mk H
   clear H
   have hnb21 := NB280_281.out
   have hnc21 := NB281_280.out
   have hcz22_0 : w6.cell? ⟨gb280, 0, none⟩ = some (.slice A0_0 l0_0.length c0_0) := (blk_cell BK280.out 0).trans rfl
   have hcz22_1 : w6.cell? ⟨gb280, 1, none⟩ = some (.string a0_1) := (blk_cell BK280.out 1).trans rfl
   have hcz22_2 : w6.cell? ⟨gb280, 2, none⟩ = some (.string a0_2) := (blk_cell BK280.out 2).trans rfl
   have hfz22_0 := blk_frozen BK280.out 0
   have hfz22_1 := blk_frozen BK280.out 1
   have hfz22_2 := blk_frozen BK280.out 2
   go_wp2_with (first | ((with_reducible refine gate_callee (f := 55) rfl ?_); refine goesL_ (some 15) rfl rfl Try.func55 (by kernel_rfl) rfl #[.agg #[.slice A0_0 l0_0.length c0_0, .string a0_1, .string a0_2], .int .i64 a1] rfl (by (try simp only [List.map_toArray, List.map_cons, List.map_nil]); first | done | rfl | (simp only [List.length_drop, List.length_take]; rfl)) ?_; (with_reducible refine (impl_isDisk.calls _ _ l0_0 a0_1 a0_2 a1 false _ ?side1 ?side2 A7.out).mono ?_); (case side1 => repeat (first | exact (Kd.C_below HR0_0.out HB.out) | (with_reducible refine Kd.C_alloc ?_ _) | (with_reducible refine Kd.C_drewN ?_ _) | (with_reducible refine Kd.C_drew ?_))); (case side2 => exact HC0_0.out); rintro e w23 ⟨rfl, hb⟩; refine ⟨_, rfl, ?_⟩; have n0_ := Aside0.mk (blk_below (g := gb280) (o := .cells #[.slice A0_0 l0_0.length c0_0, .string a0_1, .string a0_2] 27 (0, 0)) (by (with_reducible repeat (first | refine blk_drewN ?_ _ | refine blk_drew ?_ | refine blk_alloc ?_ _)); exact BK280.out) hb); have n1_ := Aside0.mk (blk_below (g := gb281) (o := .cells #[.slice none 0 0, .string (⟨#[]⟩ : ByteArray), .string (⟨#[]⟩ : ByteArray)] 27 (0, 0)) (by (with_reducible repeat (first | refine blk_drewN ?_ _ | refine blk_drew ?_ | refine blk_alloc ?_ _)); exact BK281.out) hb); have n2_ := Aside0.mk (below_step (by repeat (first | (with_reducible first | exact HB.out | apply below_alloc | apply pw_below_drewN | apply below_drew1 | refine below_set ?_ GE280.out | refine below_set ?_ GE281.out) | exact HB.out)) hb); clear BK280; clear BK281; clear HB; have BK280 := n0_; have BK281 := n1_; have HB := n2_; clear n0_ n1_ n2_; (try clear hb); (try clear hb2); (try clear hk); (try clear hi)))
   go_meet
   case rel => exact ⟨_, (true), (by first | rfl | (simp; done) | (simp [*]; done)), H', ⟨by first | omega | exact Nat.le_refl _⟩, ⟨by (with_reducible repeat (first | refine blk_drewN ?_ _ | refine blk_drew ?_ | refine blk_alloc ?_ _)); exact BK280.out⟩, ⟨by (with_reducible repeat (first | refine blk_drewN ?_ _ | refine blk_drew ?_ | refine blk_alloc ?_ _)); exact BK281.out⟩, ⟨by repeat (first | (with_reducible first | exact HB.out | apply below_alloc | apply pw_below_drewN | apply below_drew1 | refine below_set ?_ GE280.out | refine below_set ?_ GE281.out) | exact HB.out)⟩⟩
 case rest =>
  clear HC4
  try clear c1
  try clear c2
  try clear p2
  try clear c3
  try clear c5
  try clear c8
  try clear c10
  try clear c11
  try clear c16
  try clear c21
  try clear hcz12_0
  try clear hcz12_1
  try clear hcz12_2
  try clear hcz14_0
  try clear hcz14_1
  try clear hcz14_2
  try clear hcz17_0
  try clear hcz17_1
  try clear hcz17_2
  try clear hcz19_0
  try clear hcz19_1
  try clear hcz19_2
  try clear hcz22_0
  try clear hcz22_1
  try clear hcz22_2
  try clear hfz12_0
  try clear hfz12_1
  try clear hfz12_2
  try clear hfz14_0
  try clear hfz14_1
  try clear hfz14_2
  try clear hfz17_0
  try clear hfz17_1
  try clear hfz17_2
  try clear hfz19_0
  try clear hfz19_1
  try clear hfz19_2
  try clear hfz22_0
  try clear hfz22_1
  try clear hfz22_2
  obtain ⟨kq, x27_3, rfl, HA, HJ3, BK280, BK281, HB⟩ := hcut
  cases kq with
  | zero => exact absurd HA.out (fun h_ => by change none = some _ at h_; cases h_)
  | succ kj3 =>
   have H := HA.out
   clear HA
   simp only [impl_RecoverTwo.j0] at H
   by_cases c24 : x27_3 = true
   ·subst c24
    have H1 : (some (([] : List ByteArray), (⟨#[]⟩ : ByteArray), (⟨#[]⟩ : ByteArray), false)) = some (r1, r2, r3, r4) := by rw [if_pos rfl] at H; exact H
    clear H
    have H := H1
    clear H1
    simp only [Option.some.injEq, Prod.mk.injEq] at H
    obtain ⟨rfl, rfl, rfl, rfl⟩ := H
    have hnb25 := NB281_280.out
    have hnc25 := NB280_281.out
    have hcz26_0 : wc.cell? ⟨gb281, 0, none⟩ = some (.slice none 0 0) := (blk_cell BK281.out 0).trans rfl
    have hcz26_1 : wc.cell? ⟨gb281, 1, none⟩ = some (.string (⟨#[]⟩ : ByteArray)) := (blk_cell BK281.out 1).trans rfl
    have hcz26_2 : wc.cell? ⟨gb281, 2, none⟩ = some (.string (⟨#[]⟩ : ByteArray)) := (blk_cell BK281.out 2).trans rfl
    have hfz26_0 := blk_frozen BK281.out 0
    have hfz26_1 := blk_frozen BK281.out 1
    have hfz26_2 := blk_frozen BK281.out 2
    go_wp2
    refine bodyPost_ret (results_ct rfl _ _ gb281 27 #[.slice none 0 0, .string (⟨#[]⟩ : ByteArray), .string (⟨#[]⟩ : ByteArray)] (0, 0) _ rfl (by (with_reducible repeat (first | refine blk_drewN ?_ _ | refine blk_drew ?_ | refine blk_alloc ?_ _)); refine blk_put (cs := #[.slice none 0 0, .string (⟨#[]⟩ : ByteArray), .string (⟨#[]⟩ : ByteArray)]) ?_ 2 _ rfl; (with_reducible repeat (first | refine blk_drewN ?_ _ | refine blk_drew ?_ | refine blk_alloc ?_ _)); refine blk_put (cs := #[.slice none 0 0, .string (⟨#[]⟩ : ByteArray), .string (⟨#[]⟩ : ByteArray)]) ?_ 1 _ rfl; (with_reducible repeat (first | refine blk_drewN ?_ _ | refine blk_drew ?_ | refine blk_alloc ?_ _)); refine blk_put (cs := #[.slice none 0 0, .string (⟨#[]⟩ : ByteArray), .string (⟨#[]⟩ : ByteArray)]) ?_ 0 _ rfl; (with_reducible repeat (first | refine blk_drewN ?_ _ | refine blk_drew ?_ | refine blk_alloc ?_ _)); exact BK281.out) Try.underlying27 rfl (by kernel_rfl)) rfl ?_
    exact ⟨_, by first | rfl | (simp [errW_none, errW_some] <;> rfl) | (simp [*, errW_none, errW_some] <;> rfl), by first | exact Kd.R_nil _ _ _ _ _ | exact Kd.N_nil _ _ _ _ _ | exact Kd.V_nil _ _ _ _ _ | exact Kd.Q_nil _ _ _ _ _ | exact Kd.S_nil _ _ _ _ _, by repeat (first | (with_reducible first | exact HB.out | apply below_alloc | apply pw_below_drewN | apply below_drew1 | refine below_set ?_ GE280.out | refine below_set ?_ GE281.out) | exact HB.out)⟩
   ·replace c24 := Bool.eq_false_iff.mpr c24
    subst c24
    have H1 : ((impl_without.f kj3 l0_0 a0_1 a0_2 (([mn a1 a2, mx a1 a2] : List Int))).bind fun bt287 => ((impl_parities.f kj3 bt287.1).bind fun bt293 => (if (mn a1 a2) = (l0_0.length : Int) then (some (bt287.1, bt293.1, bt293.2, true)) else (if (mx a1 a2) = (l0_0.length : Int) then ((impl_xor.f bt293.2 a0_2).bind fun t295 => ((impl_power.f kj3 2 (mn a1 a2)).bind fun t296 => ((impl_divided.f kj3 t295 t296).bind fun t297 => (if 0 ≤ (mn a1 a2) then (if (mn a1 a2) < (bt287.1.length : Int) then ((some (bt287.1.set ((mn a1 a2) : Int).toNat t297 : List ByteArray)).bind fun y298 => ((impl_parities.f kj3 y298).bind fun bt299 => (some (y298, bt299.1, bt287.2.2, true)))) else (none)) else (none))))) else (if (mx a1 a2) = (wrap64 ((l0_0.length : Int) + 1)) then ((impl_xor.f bt293.1 a0_1).bind fun t301 => (if 0 ≤ (mn a1 a2) then (if (mn a1 a2) < (bt287.1.length : Int) then ((some (bt287.1.set ((mn a1 a2) : Int).toNat t301 : List ByteArray)).bind fun y302 => ((impl_parities.f kj3 y302).bind fun bt303 => (some (y302, bt287.2.1, bt303.2, true)))) else (none)) else (none))) else ((impl_xor.f bt293.1 a0_1).bind fun t305 => ((impl_xor.f bt293.2 a0_2).bind fun t306 => ((impl_weighed.f kj3 t305 (mx a1 a2)).bind fun t307 => ((impl_xor.f t306 t307).bind fun t308 => ((impl_power.f kj3 2 (mn a1 a2)).bind fun t309 => ((impl_power.f kj3 2 (mx a1 a2)).bind fun t310 => ((impl_divided.f kj3 t308 (Go.bits .xor .u8 t309 t310)).bind fun t311 => (if 0 ≤ (mn a1 a2) then (if (mn a1 a2) < (bt287.1.length : Int) then ((some (bt287.1.set ((mn a1 a2) : Int).toNat t311 : List ByteArray)).bind fun y312 => ((impl_xor.f t305 (rdOf ByteArray.empty y312 (mn a1 a2))).bind fun t314 => (if 0 ≤ (mx a1 a2) then (if (mx a1 a2) < (bt287.1.length : Int) then (some ((y312.set ((mx a1 a2) : Int).toNat t314), bt287.2.1, bt287.2.2, true)) else (none)) else (none)))) else (none)) else (none)))))))))))))) = some (r1, r2, r3, r4) := by rw [if_neg (show ¬ (false = true) by decide)] at H; exact H
    clear H
    have H := H1
    clear H1
    obtain ⟨ji27, hji27⟩ : ∃ j_ : Int, (mn a1 a2) = j_ := ⟨_, rfl⟩
    replace H : ((impl_without.f kj3 l0_0 a0_1 a0_2 (([ji27, mx a1 a2] : List Int))).bind fun bt287 => ((impl_parities.f kj3 bt287.1).bind fun bt293 => (if (ji27) = (l0_0.length : Int) then (some (bt287.1, bt293.1, bt293.2, true)) else (if (mx a1 a2) = (l0_0.length : Int) then ((impl_xor.f bt293.2 a0_2).bind fun t295 => ((impl_power.f kj3 2 (ji27)).bind fun t296 => ((impl_divided.f kj3 t295 t296).bind fun t297 => (if 0 ≤ (ji27) then (if (ji27) < (bt287.1.length : Int) then ((some (bt287.1.set ((ji27) : Int).toNat t297 : List ByteArray)).bind fun y298 => ((impl_parities.f kj3 y298).bind fun bt299 => (some (y298, bt299.1, bt287.2.2, true)))) else (none)) else (none))))) else (if (mx a1 a2) = (wrap64 ((l0_0.length : Int) + 1)) then ((impl_xor.f bt293.1 a0_1).bind fun t301 => (if 0 ≤ (ji27) then (if (ji27) < (bt287.1.length : Int) then ((some (bt287.1.set ((ji27) : Int).toNat t301 : List ByteArray)).bind fun y302 => ((impl_parities.f kj3 y302).bind fun bt303 => (some (y302, bt287.2.1, bt303.2, true)))) else (none)) else (none))) else ((impl_xor.f bt293.1 a0_1).bind fun t305 => ((impl_xor.f bt293.2 a0_2).bind fun t306 => ((impl_weighed.f kj3 t305 (mx a1 a2)).bind fun t307 => ((impl_xor.f t306 t307).bind fun t308 => ((impl_power.f kj3 2 (ji27)).bind fun t309 => ((impl_power.f kj3 2 (mx a1 a2)).bind fun t310 => ((impl_divided.f kj3 t308 (Go.bits .xor .u8 t309 t310)).bind fun t311 => (if 0 ≤ (ji27) then (if (ji27) < (bt287.1.length : Int) then ((some (bt287.1.set ((ji27) : Int).toNat t311 : List ByteArray)).bind fun y312 => ((impl_xor.f t305 (rdOf ByteArray.empty y312 (ji27))).bind fun t314 => (if 0 ≤ (mx a1 a2) then (if (mx a1 a2) < (bt287.1.length : Int) then (some ((y312.set ((mx a1 a2) : Int).toNat t314), bt287.2.1, bt287.2.2, true)) else (none)) else (none)))) else (none)) else (none)))))))))))))) = some (r1, r2, r3, r4) := by first | (rw [hji27] at H; exact H) | (simp only [hji27] at H ⊢; exact H)
    have hji27_ : (if a2 < a1 then a2 else a1) = ji27 := hji27
    obtain ⟨ji28, hji28⟩ : ∃ j_ : Int, (mx a1 a2) = j_ := ⟨_, rfl⟩
    replace H : ((impl_without.f kj3 l0_0 a0_1 a0_2 (([ji27, ji28] : List Int))).bind fun bt287 => ((impl_parities.f kj3 bt287.1).bind fun bt293 => (if (ji27) = (l0_0.length : Int) then (some (bt287.1, bt293.1, bt293.2, true)) else (if (ji28) = (l0_0.length : Int) then ((impl_xor.f bt293.2 a0_2).bind fun t295 => ((impl_power.f kj3 2 (ji27)).bind fun t296 => ((impl_divided.f kj3 t295 t296).bind fun t297 => (if 0 ≤ (ji27) then (if (ji27) < (bt287.1.length : Int) then ((some (bt287.1.set ((ji27) : Int).toNat t297 : List ByteArray)).bind fun y298 => ((impl_parities.f kj3 y298).bind fun bt299 => (some (y298, bt299.1, bt287.2.2, true)))) else (none)) else (none))))) else (if (ji28) = (wrap64 ((l0_0.length : Int) + 1)) then ((impl_xor.f bt293.1 a0_1).bind fun t301 => (if 0 ≤ (ji27) then (if (ji27) < (bt287.1.length : Int) then ((some (bt287.1.set ((ji27) : Int).toNat t301 : List ByteArray)).bind fun y302 => ((impl_parities.f kj3 y302).bind fun bt303 => (some (y302, bt287.2.1, bt303.2, true)))) else (none)) else (none))) else ((impl_xor.f bt293.1 a0_1).bind fun t305 => ((impl_xor.f bt293.2 a0_2).bind fun t306 => ((impl_weighed.f kj3 t305 (ji28)).bind fun t307 => ((impl_xor.f t306 t307).bind fun t308 => ((impl_power.f kj3 2 (ji27)).bind fun t309 => ((impl_power.f kj3 2 (ji28)).bind fun t310 => ((impl_divided.f kj3 t308 (Go.bits .xor .u8 t309 t310)).bind fun t311 => (if 0 ≤ (ji27) then (if (ji27) < (bt287.1.length : Int) then ((some (bt287.1.set ((ji27) : Int).toNat t311 : List ByteArray)).bind fun y312 => ((impl_xor.f t305 (rdOf ByteArray.empty y312 (ji27))).bind fun t314 => (if 0 ≤ (ji28) then (if (ji28) < (bt287.1.length : Int) then (some ((y312.set ((ji28) : Int).toNat t314), bt287.2.1, bt287.2.2, true)) else (none)) else (none)))) else (none)) else (none)))))))))))))) = some (r1, r2, r3, r4) := by first | (rw [hji28] at H; exact H) | (simp only [hji28] at H ⊢; exact H)
    have hji28_ : (if a1 < a2 then a2 else a1) = ji28 := hji28
    obtain ⟨y284, hy284⟩ : ∃ y_ : List Int, y_ = (([ji27, ji28] : List Int)) := ⟨_, rfl⟩
    replace H : ((impl_without.f kj3 l0_0 a0_1 a0_2 y284).bind fun bt287 => ((impl_parities.f kj3 bt287.1).bind fun bt293 => (if (ji27) = (l0_0.length : Int) then (some (bt287.1, bt293.1, bt293.2, true)) else (if (ji28) = (l0_0.length : Int) then ((impl_xor.f bt293.2 a0_2).bind fun t295 => ((impl_power.f kj3 2 (ji27)).bind fun t296 => ((impl_divided.f kj3 t295 t296).bind fun t297 => (if 0 ≤ (ji27) then (if (ji27) < (bt287.1.length : Int) then ((some (bt287.1.set ((ji27) : Int).toNat t297 : List ByteArray)).bind fun y298 => ((impl_parities.f kj3 y298).bind fun bt299 => (some (y298, bt299.1, bt287.2.2, true)))) else (none)) else (none))))) else (if (ji28) = (wrap64 ((l0_0.length : Int) + 1)) then ((impl_xor.f bt293.1 a0_1).bind fun t301 => (if 0 ≤ (ji27) then (if (ji27) < (bt287.1.length : Int) then ((some (bt287.1.set ((ji27) : Int).toNat t301 : List ByteArray)).bind fun y302 => ((impl_parities.f kj3 y302).bind fun bt303 => (some (y302, bt287.2.1, bt303.2, true)))) else (none)) else (none))) else ((impl_xor.f bt293.1 a0_1).bind fun t305 => ((impl_xor.f bt293.2 a0_2).bind fun t306 => ((impl_weighed.f kj3 t305 (ji28)).bind fun t307 => ((impl_xor.f t306 t307).bind fun t308 => ((impl_power.f kj3 2 (ji27)).bind fun t309 => ((impl_power.f kj3 2 (ji28)).bind fun t310 => ((impl_divided.f kj3 t308 (Go.bits .xor .u8 t309 t310)).bind fun t311 => (if 0 ≤ (ji27) then (if (ji27) < (bt287.1.length : Int) then ((some (bt287.1.set ((ji27) : Int).toNat t311 : List ByteArray)).bind fun y312 => ((impl_xor.f t305 (rdOf ByteArray.empty y312 (ji27))).bind fun t314 => (if 0 ≤ (ji28) then (if (ji28) < (bt287.1.length : Int) then (some ((y312.set ((ji28) : Int).toNat t314), bt287.2.1, bt287.2.2, true)) else (none)) else (none)))) else (none)) else (none)))))))))))))) = some (r1, r2, r3, r4) := by first | (rw [hy284]; with_reducible exact H) | (have H2_ := (Option.bind_some _ _).symm.trans H; rw [hy284]; with_reducible exact H2_) | (have H2_ := (Option.bind_some _ _).symm.trans H; with_reducible exact H2_) | with_reducible exact H | (rw [hy284]; exact H) | exact H
    have Ny284 := Aside0.mk hy284
    clear hy284
    replace H := Option.bind_eq_some_iff.mp H
    obtain ⟨⟨t287, t290, t291⟩, A290, H⟩ := H
    replace H : ((impl_parities.f kj3 t287).bind fun bt293 => (if (ji27) = (l0_0.length : Int) then (some (t287, bt293.1, bt293.2, true)) else (if (ji28) = (l0_0.length : Int) then ((impl_xor.f bt293.2 a0_2).bind fun t295 => ((impl_power.f kj3 2 (ji27)).bind fun t296 => ((impl_divided.f kj3 t295 t296).bind fun t297 => (if 0 ≤ (ji27) then (if (ji27) < (t287.length : Int) then ((some (t287.set ((ji27) : Int).toNat t297 : List ByteArray)).bind fun y298 => ((impl_parities.f kj3 y298).bind fun bt299 => (some (y298, bt299.1, t291, true)))) else (none)) else (none))))) else (if (ji28) = (wrap64 ((l0_0.length : Int) + 1)) then ((impl_xor.f bt293.1 a0_1).bind fun t301 => (if 0 ≤ (ji27) then (if (ji27) < (t287.length : Int) then ((some (t287.set ((ji27) : Int).toNat t301 : List ByteArray)).bind fun y302 => ((impl_parities.f kj3 y302).bind fun bt303 => (some (y302, t290, bt303.2, true)))) else (none)) else (none))) else ((impl_xor.f bt293.1 a0_1).bind fun t305 => ((impl_xor.f bt293.2 a0_2).bind fun t306 => ((impl_weighed.f kj3 t305 (ji28)).bind fun t307 => ((impl_xor.f t306 t307).bind fun t308 => ((impl_power.f kj3 2 (ji27)).bind fun t309 => ((impl_power.f kj3 2 (ji28)).bind fun t310 => ((impl_divided.f kj3 t308 (Go.bits .xor .u8 t309 t310)).bind fun t311 => (if 0 ≤ (ji27) then (if (ji27) < (t287.length : Int) then ((some (t287.set ((ji27) : Int).toNat t311 : List ByteArray)).bind fun y312 => ((impl_xor.f t305 (rdOf ByteArray.empty y312 (ji27))).bind fun t314 => (if 0 ≤ (ji28) then (if (ji28) < (t287.length : Int) then (some ((y312.set ((ji28) : Int).toNat t314), t290, t291, true)) else (none)) else (none)))) else (none)) else (none))))))))))))) = some (r1, r2, r3, r4) := H
    have A29 := Aside0.mk A290
    clear A290
    replace H := Option.bind_eq_some_iff.mp H
    obtain ⟨⟨t293, t294⟩, A300, H⟩ := H
    replace H : (if (ji27) = (l0_0.length : Int) then (some (t287, t293, t294, true)) else (if (ji28) = (l0_0.length : Int) then ((impl_xor.f t294 a0_2).bind fun t295 => ((impl_power.f kj3 2 (ji27)).bind fun t296 => ((impl_divided.f kj3 t295 t296).bind fun t297 => (if 0 ≤ (ji27) then (if (ji27) < (t287.length : Int) then ((some (t287.set ((ji27) : Int).toNat t297 : List ByteArray)).bind fun y298 => ((impl_parities.f kj3 y298).bind fun bt299 => (some (y298, bt299.1, t291, true)))) else (none)) else (none))))) else (if (ji28) = (wrap64 ((l0_0.length : Int) + 1)) then ((impl_xor.f t293 a0_1).bind fun t301 => (if 0 ≤ (ji27) then (if (ji27) < (t287.length : Int) then ((some (t287.set ((ji27) : Int).toNat t301 : List ByteArray)).bind fun y302 => ((impl_parities.f kj3 y302).bind fun bt303 => (some (y302, t290, bt303.2, true)))) else (none)) else (none))) else ((impl_xor.f t293 a0_1).bind fun t305 => ((impl_xor.f t294 a0_2).bind fun t306 => ((impl_weighed.f kj3 t305 (ji28)).bind fun t307 => ((impl_xor.f t306 t307).bind fun t308 => ((impl_power.f kj3 2 (ji27)).bind fun t309 => ((impl_power.f kj3 2 (ji28)).bind fun t310 => ((impl_divided.f kj3 t308 (Go.bits .xor .u8 t309 t310)).bind fun t311 => (if 0 ≤ (ji27) then (if (ji27) < (t287.length : Int) then ((some (t287.set ((ji27) : Int).toNat t311 : List ByteArray)).bind fun y312 => ((impl_xor.f t305 (rdOf ByteArray.empty y312 (ji27))).bind fun t314 => (if 0 ≤ (ji28) then (if (ji28) < (t287.length : Int) then (some ((y312.set ((ji28) : Int).toNat t314), t290, t291, true)) else (none)) else (none)))) else (none)) else (none)))))))))))) = some (r1, r2, r3, r4) := H
    have A30 := Aside0.mk A300
    clear A300
    by_cases c31 : (ji27) = (l0_0.length : Int)
    ·rw [if_pos c31] at H
     have c31b0 : ((ji27) == (l0_0.length : Int)) = true := beq_iff_eq.mpr c31
     have c31b1 : ((ji27) != (l0_0.length : Int)) = false := bne_eq_false_iff_eq.mpr c31
     clear c31
     simp only [Option.some.injEq, Prod.mk.injEq] at H
     obtain ⟨rfl, rfl, rfl, rfl⟩ := H
     have hnb32 := NB280_281.out
     have hnc32 := NB281_280.out
     have hcz33_0 : wc.cell? ⟨gb280, 0, none⟩ = some (.slice A0_0 l0_0.length c0_0) := (blk_cell BK280.out 0).trans rfl
     have hcz33_1 : wc.cell? ⟨gb280, 1, none⟩ = some (.string a0_1) := (blk_cell BK280.out 1).trans rfl
     have hcz33_2 : wc.cell? ⟨gb280, 2, none⟩ = some (.string a0_2) := (blk_cell BK280.out 2).trans rfl
     have hfz33_0 := blk_frozen BK280.out 0
     have hfz33_1 := blk_frozen BK280.out 1
     have hfz33_2 := blk_frozen BK280.out 2
     go_wp2_with (first | ((with_reducible refine gate_dst (N := 41) rfl ?_); refine Kd.R_lit (Kd.int .i64) _ 3 ?hg (N := 41) ?hd (xs := ([ji27, ji28] : List Int)) (inner := [.int .i64 ji27, .int .i64 ji28]) (ok := fun _ => True) (okp := fun _ => True) ?hr ?hp (fun _ hk => hk) trivial (Below.refl _ _) (Nat.le_refl _) (by simp) ?_; (case hd => rfl); (case hg => rfl); (case hr => first | (go_simp; done) | (go_simp; rfl)); (case hp => exact (Reps.one (show Kd.M (Kd.int .i64) _ _ _ ji27 [.int .i64 ji27] from rfl) (Reps.one (show Kd.M (Kd.int .i64) _ _ _ ji28 [.int .i64 ji28] from rfl) (Reps.none _ _)))); intro v285 w34 ho35 hb hg_ hnew_; clear hg_ hnew_; (first | rw [← Ny284.out] at ho35 | (simp only [Int.reduceToNat] at ho35; rw [← Ny284.out] at ho35)); have n0_ := Aside0.mk (Kd.R_lower ho35 (below_size (by repeat (first | (with_reducible first | exact HB.out | apply below_alloc | apply pw_below_drewN | apply below_drew1 | refine below_set ?_ GE280.out | refine below_set ?_ GE281.out) | exact HB.out)))); have n1_ := Aside0.mk (blk_below (g := gb280) (o := .cells #[.slice A0_0 l0_0.length c0_0, .string a0_1, .string a0_2] 27 (0, 0)) (by (with_reducible repeat (first | refine blk_drewN ?_ _ | refine blk_drew ?_ | refine blk_alloc ?_ _)); exact BK280.out) hb); have n2_ := Aside0.mk (blk_below (g := gb281) (o := .cells #[.slice none 0 0, .string (⟨#[]⟩ : ByteArray), .string (⟨#[]⟩ : ByteArray)] 27 (0, 0)) (by (with_reducible repeat (first | refine blk_drewN ?_ _ | refine blk_drew ?_ | refine blk_alloc ?_ _)); exact BK281.out) hb); have n3_ := Aside0.mk (below_step (by repeat (first | (with_reducible first | exact HB.out | apply below_alloc | apply pw_below_drewN | apply below_drew1 | refine below_set ?_ GE280.out | refine below_set ?_ GE281.out) | exact HB.out)) hb); clear BK280; clear BK281; clear HB; have HO286 := n0_; have BK280 := n1_; have BK281 := n2_; have HB := n3_; clear n0_ n1_ n2_ n3_; clear hb ho35; obtain ⟨Ao36, co36, eo36⟩ := Kd.R_slice HO286.out; subst eo36) | ((with_reducible refine gate_callee (f := 56) rfl ?_); refine goesL_ (some 42) rfl rfl Try.func56 (by kernel_rfl) rfl #[.agg #[.slice A0_0 l0_0.length c0_0, .string a0_1, .string a0_2], .slice Ao36 y284.length co36] rfl (by (try simp only [List.map_toArray, List.map_cons, List.map_nil]); first | done | rfl | (simp only [List.length_drop, List.length_take]; rfl)) ?_; (with_reducible refine (impl_without.calls kj3 _ _ l0_0 a0_1 a0_2 _ _ y284 t287 t290 t291 _ ?side1 ?side2 ?side3 ?side4 A29.out).mono ?_); (case side1 => repeat (first | exact (Kd.C_below HR0_0.out HB.out) | (with_reducible refine Kd.C_alloc ?_ _) | (with_reducible refine Kd.C_drewN ?_ _) | (with_reducible refine Kd.C_drew ?_))); (case side2 => exact HC0_0.out); (case side3 => repeat (first | exact (Kd.R_reads' HO286.out).2.2 | (with_reducible refine Kd.C_alloc ?_ _) | (with_reducible refine Kd.C_drewN ?_ _) | (with_reducible refine Kd.C_drew ?_))); (case side4 => exact (Kd.R_reads' HO286.out).2.1); rintro e w37 ⟨v288, rfl, ho0, hb⟩; refine ⟨_, rfl, ?_⟩; have n0_ := Aside0.mk (Kd.R_below (by (with_reducible repeat (first | apply Kd.R_alloc | apply Kd.R_drewN | apply Kd.R_drew)); exact HO286.out) hb); have n1_ := Aside0.mk (Kd.R_lower ho0 (below_size (by repeat (first | (with_reducible first | exact HB.out | apply below_alloc | apply pw_below_drewN | apply below_drew1 | refine below_set ?_ GE280.out | refine below_set ?_ GE281.out) | exact HB.out)))); have n2_ := Aside0.mk (blk_below (g := gb280) (o := .cells #[.slice A0_0 l0_0.length c0_0, .string a0_1, .string a0_2] 27 (0, 0)) (by (with_reducible repeat (first | refine blk_drewN ?_ _ | refine blk_drew ?_ | refine blk_alloc ?_ _)); exact BK280.out) hb); have n3_ := Aside0.mk (blk_below (g := gb281) (o := .cells #[.slice none 0 0, .string (⟨#[]⟩ : ByteArray), .string (⟨#[]⟩ : ByteArray)] 27 (0, 0)) (by (with_reducible repeat (first | refine blk_drewN ?_ _ | refine blk_drew ?_ | refine blk_alloc ?_ _)); exact BK281.out) hb); have n4_ := Aside0.mk (below_step (by repeat (first | (with_reducible first | exact HB.out | apply below_alloc | apply pw_below_drewN | apply below_drew1 | refine below_set ?_ GE280.out | refine below_set ?_ GE281.out) | exact HB.out)) hb); clear HO286; clear BK280; clear BK281; clear HB; have HO286 := n0_; have HO289 := n1_; have BK280 := n2_; have BK281 := n3_; have HB := n4_; clear n0_ n1_ n2_ n3_ n4_; (try clear hb); (try clear hb2); (try clear hk); (try clear hi); (try clear ho0)) | ((with_reducible refine gate_dst (N := 9) rfl ?_); refine box_event ?hg (N := 9) ?hd (cs := #[.slice none 0 0, .string (⟨#[]⟩ : ByteArray), .string (⟨#[]⟩ : ByteArray)]) (t := 27) ?hr ?_; (case hd => rfl); (case hg => rfl); (case hr => first | (go_simp; done) | (go_simp; rfl)); intro gb292 hg w38 hbox hb; have n0_ := Aside0.mk (Kd.R_below (by (with_reducible repeat (first | apply Kd.R_alloc | apply Kd.R_drewN | apply Kd.R_drew)); exact HO286.out) hb); have n1_ := Aside0.mk (Kd.R_below (by (with_reducible repeat (first | apply Kd.R_alloc | apply Kd.R_drewN | apply Kd.R_drew)); exact HO289.out) hb); have n2_ := Aside0.mk (blk_below (g := gb280) (o := .cells #[.slice A0_0 l0_0.length c0_0, .string a0_1, .string a0_2] 27 (0, 0)) (by (with_reducible repeat (first | refine blk_drewN ?_ _ | refine blk_drew ?_ | refine blk_alloc ?_ _)); exact BK280.out) hb); have n3_ := Aside0.mk (blk_below (g := gb281) (o := .cells #[.slice none 0 0, .string (⟨#[]⟩ : ByteArray), .string (⟨#[]⟩ : ByteArray)] 27 (0, 0)) (by (with_reducible repeat (first | refine blk_drewN ?_ _ | refine blk_drew ?_ | refine blk_alloc ?_ _)); exact BK281.out) hb); have n4_ := Aside0.mk (below_step (by repeat (first | (with_reducible first | exact HB.out | apply below_alloc | apply pw_below_drewN | apply below_drew1 | refine below_set ?_ GE280.out | refine below_set ?_ GE281.out) | exact HB.out)) hb); have n5_ := Aside0.mk (hbox); have n6_ := Aside0.mk ((by rw [hg]; exact (below_size (by repeat (first | (with_reducible first | exact HB.out | apply below_alloc | apply pw_below_drewN | apply below_drew1 | refine below_set ?_ GE280.out | refine below_set ?_ GE281.out) | exact HB.out))) : w.heap.size ≤ gb292)); have n7_ := Aside0.mk ((by rw [hg]; exact (below_size (by repeat (first | (with_reducible first | exact HB.out | apply below_alloc | apply pw_below_drewN | apply below_drew1 | refine below_set ?_ GE280.out | refine below_set ?_ GE281.out) | exact HB.out))) : w.heap.size ≤ gb292)); have n8_ := Aside0.mk ((by rw [hg]; exact Nat.ne_of_lt (blk_lt (g := gb280) (o := .cells #[.slice A0_0 l0_0.length c0_0, .string a0_1, .string a0_2] 27 (0, 0)) (by (with_reducible repeat (first | refine blk_drewN ?_ _ | refine blk_drew ?_ | refine blk_alloc ?_ _)); exact BK280.out)) : gb280 ≠ gb292)); have n9_ := Aside0.mk ((by rw [hg]; exact Nat.ne_of_gt (blk_lt (g := gb280) (o := .cells #[.slice A0_0 l0_0.length c0_0, .string a0_1, .string a0_2] 27 (0, 0)) (by (with_reducible repeat (first | refine blk_drewN ?_ _ | refine blk_drew ?_ | refine blk_alloc ?_ _)); exact BK280.out)) : gb292 ≠ gb280)); have n10_ := Aside0.mk ((by rw [hg]; exact Nat.ne_of_lt (blk_lt (g := gb281) (o := .cells #[.slice none 0 0, .string (⟨#[]⟩ : ByteArray), .string (⟨#[]⟩ : ByteArray)] 27 (0, 0)) (by (with_reducible repeat (first | refine blk_drewN ?_ _ | refine blk_drew ?_ | refine blk_alloc ?_ _)); exact BK281.out)) : gb281 ≠ gb292)); have n11_ := Aside0.mk ((by rw [hg]; exact Nat.ne_of_gt (blk_lt (g := gb281) (o := .cells #[.slice none 0 0, .string (⟨#[]⟩ : ByteArray), .string (⟨#[]⟩ : ByteArray)] 27 (0, 0)) (by (with_reducible repeat (first | refine blk_drewN ?_ _ | refine blk_drew ?_ | refine blk_alloc ?_ _)); exact BK281.out)) : gb292 ≠ gb281)); clear HO286; clear HO289; clear BK280; clear BK281; clear HB; have HO286 := n0_; have HO289 := n1_; have BK280 := n2_; have BK281 := n3_; have HB := n4_; have BK292 := n5_; have GW292 := n6_; have GE292 := n7_; have NB280_292 := n8_; have NB292_280 := n9_; have NB281_292 := n10_; have NB292_281 := n11_; clear n0_ n1_ n2_ n3_ n4_ n5_ n6_ n7_ n8_ n9_ n10_ n11_; clear hb hbox hg; obtain ⟨Ao39, co39, eo39⟩ := Kd.R_slice HO289.out; subst eo39; have hnb40 := NB292_280.out; have hnc40 := NB280_292.out; have hnb41 := NB292_281.out; have hnc41 := NB281_292.out; have hcz42_0 : w38.cell? ⟨gb292, 0, none⟩ = some (.slice none 0 0) := (blk_cell BK292.out 0).trans rfl; have hcz42_1 : w38.cell? ⟨gb292, 1, none⟩ = some (.string (⟨#[]⟩ : ByteArray)) := (blk_cell BK292.out 1).trans rfl; have hcz42_2 : w38.cell? ⟨gb292, 2, none⟩ = some (.string (⟨#[]⟩ : ByteArray)) := (blk_cell BK292.out 2).trans rfl; have hfz42_0 := blk_frozen BK292.out 0; have hfz42_1 := blk_frozen BK292.out 1; have hfz42_2 := blk_frozen BK292.out 2) | ((with_reducible refine gate_callee (f := 46) rfl ?_); refine goesL_ (some 46) rfl rfl Try.func46 (by kernel_rfl) rfl #[.slice Ao39 t287.length co39] rfl (by (try simp only [List.map_toArray, List.map_cons, List.map_nil]); first | done | rfl | (simp only [List.length_drop, List.length_take]; rfl)) ?_; (with_reducible refine (impl_parities.calls kj3 _ _ t287 t293 t294 _ ?side1 ?side2 A30.out).mono ?_); (case side1 => refine (Kd.R_reads' (e := 9) (base := w.heap.size) (ok := fun k_ => True) (n := t287.length) (c := co39) ?_).2.2; exact (by (with_reducible repeat (first | apply Kd.R_alloc | apply Kd.R_drewN | apply Kd.R_drew)); exact (Kd.R_mono (Kd.R_far (p := ⟨gb292, 2, none⟩) (Kd.R_far (p := ⟨gb292, 1, none⟩) (Kd.R_far (p := ⟨gb292, 0, none⟩) (Kd.R_types HO289.out BK292.out (by decide)) (fun _ hk => hk.2) (.slice Ao39 t287.length co39)) (fun _ hk => hk.2) (.string t290)) (fun _ hk => hk.2) (.string t291)) (fun _ h_ => h_.1)))); (case side2 => exact (Kd.R_reads' HO289.out).2.1); rintro e w43 ⟨rfl, hb⟩; refine ⟨_, rfl, ?_⟩; have n0_ := Aside0.mk (Kd.R_below (by (with_reducible repeat (first | apply Kd.R_alloc | apply Kd.R_drewN | apply Kd.R_drew)); exact (Kd.R_mono (Kd.R_far (p := ⟨gb292, 2, none⟩) (Kd.R_far (p := ⟨gb292, 1, none⟩) (Kd.R_far (p := ⟨gb292, 0, none⟩) (Kd.R_types HO286.out BK292.out (by decide)) (fun _ hk => hk.2) (.slice Ao39 t287.length co39)) (fun _ hk => hk.2) (.string t290)) (fun _ hk => hk.2) (.string t291)) (fun _ h_ => h_.1))) hb); have n1_ := Aside0.mk (Kd.R_below (by (with_reducible repeat (first | apply Kd.R_alloc | apply Kd.R_drewN | apply Kd.R_drew)); exact (Kd.R_mono (Kd.R_far (p := ⟨gb292, 2, none⟩) (Kd.R_far (p := ⟨gb292, 1, none⟩) (Kd.R_far (p := ⟨gb292, 0, none⟩) (Kd.R_types HO289.out BK292.out (by decide)) (fun _ hk => hk.2) (.slice Ao39 t287.length co39)) (fun _ hk => hk.2) (.string t290)) (fun _ hk => hk.2) (.string t291)) (fun _ h_ => h_.1))) hb); have n2_ := Aside0.mk (blk_below (g := gb280) (o := .cells #[.slice A0_0 l0_0.length c0_0, .string a0_1, .string a0_2] 27 (0, 0)) (by (with_reducible repeat (first | refine blk_drewN ?_ _ | refine blk_drew ?_ | refine blk_alloc ?_ _)); refine blk_far ?_ NB280_292.out _; (with_reducible repeat (first | refine blk_drewN ?_ _ | refine blk_drew ?_ | refine blk_alloc ?_ _)); refine blk_far ?_ NB280_292.out _; (with_reducible repeat (first | refine blk_drewN ?_ _ | refine blk_drew ?_ | refine blk_alloc ?_ _)); refine blk_far ?_ NB280_292.out _; (with_reducible repeat (first | refine blk_drewN ?_ _ | refine blk_drew ?_ | refine blk_alloc ?_ _)); exact BK280.out) hb); have n3_ := Aside0.mk (blk_below (g := gb281) (o := .cells #[.slice none 0 0, .string (⟨#[]⟩ : ByteArray), .string (⟨#[]⟩ : ByteArray)] 27 (0, 0)) (by (with_reducible repeat (first | refine blk_drewN ?_ _ | refine blk_drew ?_ | refine blk_alloc ?_ _)); refine blk_far ?_ NB281_292.out _; (with_reducible repeat (first | refine blk_drewN ?_ _ | refine blk_drew ?_ | refine blk_alloc ?_ _)); refine blk_far ?_ NB281_292.out _; (with_reducible repeat (first | refine blk_drewN ?_ _ | refine blk_drew ?_ | refine blk_alloc ?_ _)); refine blk_far ?_ NB281_292.out _; (with_reducible repeat (first | refine blk_drewN ?_ _ | refine blk_drew ?_ | refine blk_alloc ?_ _)); exact BK281.out) hb); have n4_ := Aside0.mk (blk_below (g := gb292) (o := .cells #[.slice Ao39 t287.length co39, .string t290, .string t291] 27 (0, 0)) (by (with_reducible repeat (first | refine blk_drewN ?_ _ | refine blk_drew ?_ | refine blk_alloc ?_ _)); refine blk_put (cs := #[.slice Ao39 t287.length co39, .string t290, .string (⟨#[]⟩ : ByteArray)]) ?_ 2 _ rfl; (with_reducible repeat (first | refine blk_drewN ?_ _ | refine blk_drew ?_ | refine blk_alloc ?_ _)); refine blk_put (cs := #[.slice Ao39 t287.length co39, .string (⟨#[]⟩ : ByteArray), .string (⟨#[]⟩ : ByteArray)]) ?_ 1 _ rfl; (with_reducible repeat (first | refine blk_drewN ?_ _ | refine blk_drew ?_ | refine blk_alloc ?_ _)); refine blk_put (cs := #[.slice none 0 0, .string (⟨#[]⟩ : ByteArray), .string (⟨#[]⟩ : ByteArray)]) ?_ 0 _ rfl; (with_reducible repeat (first | refine blk_drewN ?_ _ | refine blk_drew ?_ | refine blk_alloc ?_ _)); exact BK292.out) hb); have n5_ := Aside0.mk (below_step (by repeat (first | (with_reducible first | exact HB.out | apply below_alloc | apply pw_below_drewN | apply below_drew1 | refine below_set ?_ GE280.out | refine below_set ?_ GE281.out | refine below_set ?_ GE292.out) | exact HB.out)) hb); clear HO286; clear HO289; clear BK280; clear BK281; clear BK292; clear HB; have HO286 := n0_; have HO289 := n1_; have BK280 := n2_; have BK281 := n3_; have BK292 := n4_; have HB := n5_; clear n0_ n1_ n2_ n3_ n4_ n5_; (try clear hb); (try clear hb2); (try clear hk); (try clear hi); have hcz44_0 : w43.cell? ⟨gb292, 0, none⟩ = some (.slice Ao39 t287.length co39) := (blk_cell BK292.out 0).trans rfl; have hcz44_1 : w43.cell? ⟨gb292, 1, none⟩ = some (.string t290) := (blk_cell BK292.out 1).trans rfl; have hcz44_2 : w43.cell? ⟨gb292, 2, none⟩ = some (.string t291) := (blk_cell BK292.out 2).trans rfl; have hfz44_0 := blk_frozen BK292.out 0; have hfz44_1 := blk_frozen BK292.out 1; have hfz44_2 := blk_frozen BK292.out 2; have hcz45_0 : w43.cell? ⟨gb281, 0, none⟩ = some (.slice none 0 0) := (blk_cell BK281.out 0).trans rfl; have hcz45_1 : w43.cell? ⟨gb281, 1, none⟩ = some (.string (⟨#[]⟩ : ByteArray)) := (blk_cell BK281.out 1).trans rfl; have hcz45_2 : w43.cell? ⟨gb281, 2, none⟩ = some (.string (⟨#[]⟩ : ByteArray)) := (blk_cell BK281.out 2).trans rfl; have hfz45_0 := blk_frozen BK281.out 0; have hfz45_1 := blk_frozen BK281.out 1; have hfz45_2 := blk_frozen BK281.out 2))
     refine bodyPost_ret (results_ct rfl _ _ gb281 27 #[.slice Ao39 t287.length co39, .string t293, .string t294] (0, 0) _ rfl (by (with_reducible repeat (first | refine blk_drewN ?_ _ | refine blk_drew ?_ | refine blk_alloc ?_ _)); refine blk_put (cs := #[.slice Ao39 t287.length co39, .string t293, .string (⟨#[]⟩ : ByteArray)]) ?_ 2 _ rfl; (with_reducible repeat (first | refine blk_drewN ?_ _ | refine blk_drew ?_ | refine blk_alloc ?_ _)); refine blk_put (cs := #[.slice Ao39 t287.length co39, .string (⟨#[]⟩ : ByteArray), .string (⟨#[]⟩ : ByteArray)]) ?_ 1 _ rfl; (with_reducible repeat (first | refine blk_drewN ?_ _ | refine blk_drew ?_ | refine blk_alloc ?_ _)); refine blk_put (cs := #[.slice none 0 0, .string (⟨#[]⟩ : ByteArray), .string (⟨#[]⟩ : ByteArray)]) ?_ 0 _ rfl; (with_reducible repeat (first | refine blk_drewN ?_ _ | refine blk_drew ?_ | refine blk_alloc ?_ _)); refine blk_far ?_ NB281_292.out _; (with_reducible repeat (first | refine blk_drewN ?_ _ | refine blk_drew ?_ | refine blk_alloc ?_ _)); refine blk_far ?_ NB281_292.out _; (with_reducible repeat (first | refine blk_drewN ?_ _ | refine blk_drew ?_ | refine blk_alloc ?_ _)); exact BK281.out) Try.underlying27 rfl (by kernel_rfl)) rfl ?_
     exact ⟨_, by first | rfl | (simp [errW_none, errW_some] <;> rfl) | (simp only [← hji27, ← hji28]; first | rfl | (simp [errW_none, errW_some] <;> rfl)) | (simp [*, errW_none, errW_some] <;> rfl), by (with_reducible repeat (first | apply Kd.R_alloc | apply Kd.R_drewN | apply Kd.R_drew)); exact Kd.R_mono (Kd.R_far (p := ⟨gb281, 2, none⟩) (Kd.R_far (p := ⟨gb281, 1, none⟩) (Kd.R_far (p := ⟨gb281, 0, none⟩) (Kd.R_far (p := ⟨gb292, 2, none⟩) (Kd.R_far (p := ⟨gb292, 1, none⟩) (Kd.R_types (Kd.R_types HO289.out BK292.out (by decide)) BK281.out (by decide)) (fun _ hk => hk.1.2) (.string t293)) (fun _ hk => hk.1.2) (.string t294)) (fun _ hk => hk.2) (.slice Ao39 t287.length co39)) (fun _ hk => hk.2) (.string t293)) (fun _ hk => hk.2) (.string t294)) (fun _ hk => trivial), by repeat (first | (with_reducible first | exact HB.out | apply below_alloc | apply pw_below_drewN | apply below_drew1 | refine below_set ?_ GE280.out | refine below_set ?_ GE281.out | refine below_set ?_ GE292.out) | exact HB.out)⟩
    ·rw [if_neg c31] at H
     have c31b0 : ((ji27) == (l0_0.length : Int)) = false := beq_eq_false_iff_ne.mpr c31
     have c31b1 : ((ji27) != (l0_0.length : Int)) = true := bne_iff_ne.mpr c31
     by_cases c46 : (ji28) = (l0_0.length : Int)
     ·rw [if_pos c46] at H
      have c46b0 : ((ji28) == (l0_0.length : Int)) = true := beq_iff_eq.mpr c46
      have c46b1 : ((ji28) != (l0_0.length : Int)) = false := bne_eq_false_iff_eq.mpr c46
      clear c46
      replace H := Option.bind_eq_some_iff.mp H
      obtain ⟨t295, A470, H⟩ := H
      replace H : ((impl_power.f kj3 2 (ji27)).bind fun t296 => ((impl_divided.f kj3 t295 t296).bind fun t297 => (if 0 ≤ (ji27) then (if (ji27) < (t287.length : Int) then ((some (t287.set ((ji27) : Int).toNat t297 : List ByteArray)).bind fun y298 => ((impl_parities.f kj3 y298).bind fun bt299 => (some (y298, bt299.1, t291, true)))) else (none)) else (none)))) = some (r1, r2, r3, r4) := H
      have A47 := Aside0.mk A470
      clear A470
      replace H := Option.bind_eq_some_iff.mp H
      obtain ⟨t296, A480, H⟩ := H
      replace H : ((impl_divided.f kj3 t295 t296).bind fun t297 => (if 0 ≤ (ji27) then (if (ji27) < (t287.length : Int) then ((some (t287.set ((ji27) : Int).toNat t297 : List ByteArray)).bind fun y298 => ((impl_parities.f kj3 y298).bind fun bt299 => (some (y298, bt299.1, t291, true)))) else (none)) else (none))) = some (r1, r2, r3, r4) := H
      have A48 := Aside0.mk A480
      clear A480
      replace H := Option.bind_eq_some_iff.mp H
      obtain ⟨t297, A490, H⟩ := H
      replace H : (if 0 ≤ (ji27) then (if (ji27) < (t287.length : Int) then ((some (t287.set ((ji27) : Int).toNat t297 : List ByteArray)).bind fun y298 => ((impl_parities.f kj3 y298).bind fun bt299 => (some (y298, bt299.1, t291, true)))) else (none)) else (none)) = some (r1, r2, r3, r4) := H
      have A49 := Aside0.mk A490
      clear A490
      by_cases c50 : 0 ≤ (ji27)
      ·rw [if_pos c50] at H
       have c50b0 : decide (0 ≤ (ji27)) = true := decide_eq_true c50
       clear c50
       by_cases c51 : (ji27) < (t287.length : Int)
       ·rw [if_pos c51] at H
        have c51b0 : decide ((ji27) < (t287.length : Int)) = true := decide_eq_true c51
        clear c51
        obtain ⟨y298, hy298⟩ : ∃ y_ : List ByteArray, y_ = (t287.set ((ji27) : Int).toNat t297) := ⟨_, rfl⟩
        replace H : ((impl_parities.f kj3 y298).bind fun bt299 => (some (y298, bt299.1, t291, true))) = some (r1, r2, r3, r4) := by first | (rw [hy298]; with_reducible exact H) | (have H2_ := (Option.bind_some _ _).symm.trans H; rw [hy298]; with_reducible exact H2_) | (have H2_ := (Option.bind_some _ _).symm.trans H; with_reducible exact H2_) | with_reducible exact H | (rw [hy298]; exact H) | exact H
        have Ny298 := Aside0.mk hy298
        clear hy298
        replace H := Option.bind_eq_some_iff.mp H
        obtain ⟨⟨t299, t300⟩, A530, H⟩ := H
        replace H : (some (y298, t299, t291, true)) = some (r1, r2, r3, r4) := H
        have A53 := Aside0.mk A530
        clear A530
        simp only [Option.some.injEq, Prod.mk.injEq] at H
        obtain ⟨rfl, rfl, rfl, rfl⟩ := H
        have hnb54 := NB280_281.out
        have hnc54 := NB281_280.out
        have hcz55_0 : wc.cell? ⟨gb280, 0, none⟩ = some (.slice A0_0 l0_0.length c0_0) := (blk_cell BK280.out 0).trans rfl
        have hcz55_1 : wc.cell? ⟨gb280, 1, none⟩ = some (.string a0_1) := (blk_cell BK280.out 1).trans rfl
        have hcz55_2 : wc.cell? ⟨gb280, 2, none⟩ = some (.string a0_2) := (blk_cell BK280.out 2).trans rfl
        have hfz55_0 := blk_frozen BK280.out 0
        have hfz55_1 := blk_frozen BK280.out 1
        have hfz55_2 := blk_frozen BK280.out 2
        try go_wp2_with (first | ((with_reducible refine gate_dst (N := 41) rfl ?_); refine Kd.R_lit (Kd.int .i64) _ 3 ?hg (N := 41) ?hd (xs := ([ji27, ji28] : List Int)) (inner := [.int .i64 ji27, .int .i64 ji28]) (ok := fun _ => True) (okp := fun _ => True) ?hr ?hp (fun _ hk => hk) trivial (Below.refl _ _) (Nat.le_refl _) (by simp) ?_; (case hd => rfl); (case hg => rfl); (case hr => first | (go_simp; done) | (go_simp; rfl)); (case hp => exact (Reps.one (show Kd.M (Kd.int .i64) _ _ _ ji27 [.int .i64 ji27] from rfl) (Reps.one (show Kd.M (Kd.int .i64) _ _ _ ji28 [.int .i64 ji28] from rfl) (Reps.none _ _)))); intro v285 w56 ho57 hb hg_ hnew_; clear hg_ hnew_; (first | rw [← Ny284.out] at ho57 | (simp only [Int.reduceToNat] at ho57; rw [← Ny284.out] at ho57)); have n0_ := Aside0.mk (Kd.R_lower ho57 (below_size (by repeat (first | (with_reducible first | exact HB.out | apply below_alloc | apply pw_below_drewN | apply below_drew1 | refine below_set ?_ GE280.out | refine below_set ?_ GE281.out) | exact HB.out)))); have n1_ := Aside0.mk (blk_below (g := gb280) (o := .cells #[.slice A0_0 l0_0.length c0_0, .string a0_1, .string a0_2] 27 (0, 0)) (by (with_reducible repeat (first | refine blk_drewN ?_ _ | refine blk_drew ?_ | refine blk_alloc ?_ _)); exact BK280.out) hb); have n2_ := Aside0.mk (blk_below (g := gb281) (o := .cells #[.slice none 0 0, .string (⟨#[]⟩ : ByteArray), .string (⟨#[]⟩ : ByteArray)] 27 (0, 0)) (by (with_reducible repeat (first | refine blk_drewN ?_ _ | refine blk_drew ?_ | refine blk_alloc ?_ _)); exact BK281.out) hb); have n3_ := Aside0.mk (below_step (by repeat (first | (with_reducible first | exact HB.out | apply below_alloc | apply pw_below_drewN | apply below_drew1 | refine below_set ?_ GE280.out | refine below_set ?_ GE281.out) | exact HB.out)) hb); clear BK280; clear BK281; clear HB; have HO286 := n0_; have BK280 := n1_; have BK281 := n2_; have HB := n3_; clear n0_ n1_ n2_ n3_; clear hb ho57; obtain ⟨Ao58, co58, eo58⟩ := Kd.R_slice HO286.out; subst eo58) | ((with_reducible refine gate_callee (f := 56) rfl ?_); refine goesL_ (some 42) rfl rfl Try.func56 (by kernel_rfl) rfl #[.agg #[.slice A0_0 l0_0.length c0_0, .string a0_1, .string a0_2], .slice Ao58 y284.length co58] rfl (by (try simp only [List.map_toArray, List.map_cons, List.map_nil]); first | done | rfl | (simp only [List.length_drop, List.length_take]; rfl)) ?_; (with_reducible refine (impl_without.calls kj3 _ _ l0_0 a0_1 a0_2 _ _ y284 t287 t290 t291 _ ?side1 ?side2 ?side3 ?side4 A29.out).mono ?_); (case side1 => repeat (first | exact (Kd.C_below HR0_0.out HB.out) | (with_reducible refine Kd.C_alloc ?_ _) | (with_reducible refine Kd.C_drewN ?_ _) | (with_reducible refine Kd.C_drew ?_))); (case side2 => exact HC0_0.out); (case side3 => repeat (first | exact (Kd.R_reads' HO286.out).2.2 | (with_reducible refine Kd.C_alloc ?_ _) | (with_reducible refine Kd.C_drewN ?_ _) | (with_reducible refine Kd.C_drew ?_))); (case side4 => exact (Kd.R_reads' HO286.out).2.1); rintro e w59 ⟨v288, rfl, ho0, hb⟩; refine ⟨_, rfl, ?_⟩; have n0_ := Aside0.mk (Kd.R_below (by (with_reducible repeat (first | apply Kd.R_alloc | apply Kd.R_drewN | apply Kd.R_drew)); exact HO286.out) hb); have n1_ := Aside0.mk (Kd.R_lower ho0 (below_size (by repeat (first | (with_reducible first | exact HB.out | apply below_alloc | apply pw_below_drewN | apply below_drew1 | refine below_set ?_ GE280.out | refine below_set ?_ GE281.out) | exact HB.out)))); have n2_ := Aside0.mk (blk_below (g := gb280) (o := .cells #[.slice A0_0 l0_0.length c0_0, .string a0_1, .string a0_2] 27 (0, 0)) (by (with_reducible repeat (first | refine blk_drewN ?_ _ | refine blk_drew ?_ | refine blk_alloc ?_ _)); exact BK280.out) hb); have n3_ := Aside0.mk (blk_below (g := gb281) (o := .cells #[.slice none 0 0, .string (⟨#[]⟩ : ByteArray), .string (⟨#[]⟩ : ByteArray)] 27 (0, 0)) (by (with_reducible repeat (first | refine blk_drewN ?_ _ | refine blk_drew ?_ | refine blk_alloc ?_ _)); exact BK281.out) hb); have n4_ := Aside0.mk (below_step (by repeat (first | (with_reducible first | exact HB.out | apply below_alloc | apply pw_below_drewN | apply below_drew1 | refine below_set ?_ GE280.out | refine below_set ?_ GE281.out) | exact HB.out)) hb); clear HO286; clear BK280; clear BK281; clear HB; have HO286 := n0_; have HO289 := n1_; have BK280 := n2_; have BK281 := n3_; have HB := n4_; clear n0_ n1_ n2_ n3_ n4_; (try clear hb); (try clear hb2); (try clear hk); (try clear hi); (try clear ho0)) | ((with_reducible refine gate_dst (N := 9) rfl ?_); refine box_event ?hg (N := 9) ?hd (cs := #[.slice none 0 0, .string (⟨#[]⟩ : ByteArray), .string (⟨#[]⟩ : ByteArray)]) (t := 27) ?hr ?_; (case hd => rfl); (case hg => rfl); (case hr => first | (go_simp; done) | (go_simp; rfl)); intro gb292 hg w60 hbox hb; have n0_ := Aside0.mk (Kd.R_below (by (with_reducible repeat (first | apply Kd.R_alloc | apply Kd.R_drewN | apply Kd.R_drew)); exact HO286.out) hb); have n1_ := Aside0.mk (Kd.R_below (by (with_reducible repeat (first | apply Kd.R_alloc | apply Kd.R_drewN | apply Kd.R_drew)); exact HO289.out) hb); have n2_ := Aside0.mk (blk_below (g := gb280) (o := .cells #[.slice A0_0 l0_0.length c0_0, .string a0_1, .string a0_2] 27 (0, 0)) (by (with_reducible repeat (first | refine blk_drewN ?_ _ | refine blk_drew ?_ | refine blk_alloc ?_ _)); exact BK280.out) hb); have n3_ := Aside0.mk (blk_below (g := gb281) (o := .cells #[.slice none 0 0, .string (⟨#[]⟩ : ByteArray), .string (⟨#[]⟩ : ByteArray)] 27 (0, 0)) (by (with_reducible repeat (first | refine blk_drewN ?_ _ | refine blk_drew ?_ | refine blk_alloc ?_ _)); exact BK281.out) hb); have n4_ := Aside0.mk (below_step (by repeat (first | (with_reducible first | exact HB.out | apply below_alloc | apply pw_below_drewN | apply below_drew1 | refine below_set ?_ GE280.out | refine below_set ?_ GE281.out) | exact HB.out)) hb); have n5_ := Aside0.mk (hbox); have n6_ := Aside0.mk ((by rw [hg]; exact (below_size (by repeat (first | (with_reducible first | exact HB.out | apply below_alloc | apply pw_below_drewN | apply below_drew1 | refine below_set ?_ GE280.out | refine below_set ?_ GE281.out) | exact HB.out))) : w.heap.size ≤ gb292)); have n7_ := Aside0.mk ((by rw [hg]; exact (below_size (by repeat (first | (with_reducible first | exact HB.out | apply below_alloc | apply pw_below_drewN | apply below_drew1 | refine below_set ?_ GE280.out | refine below_set ?_ GE281.out) | exact HB.out))) : w.heap.size ≤ gb292)); have n8_ := Aside0.mk ((by rw [hg]; exact Nat.ne_of_lt (blk_lt (g := gb280) (o := .cells #[.slice A0_0 l0_0.length c0_0, .string a0_1, .string a0_2] 27 (0, 0)) (by (with_reducible repeat (first | refine blk_drewN ?_ _ | refine blk_drew ?_ | refine blk_alloc ?_ _)); exact BK280.out)) : gb280 ≠ gb292)); have n9_ := Aside0.mk ((by rw [hg]; exact Nat.ne_of_gt (blk_lt (g := gb280) (o := .cells #[.slice A0_0 l0_0.length c0_0, .string a0_1, .string a0_2] 27 (0, 0)) (by (with_reducible repeat (first | refine blk_drewN ?_ _ | refine blk_drew ?_ | refine blk_alloc ?_ _)); exact BK280.out)) : gb292 ≠ gb280)); have n10_ := Aside0.mk ((by rw [hg]; exact Nat.ne_of_lt (blk_lt (g := gb281) (o := .cells #[.slice none 0 0, .string (⟨#[]⟩ : ByteArray), .string (⟨#[]⟩ : ByteArray)] 27 (0, 0)) (by (with_reducible repeat (first | refine blk_drewN ?_ _ | refine blk_drew ?_ | refine blk_alloc ?_ _)); exact BK281.out)) : gb281 ≠ gb292)); have n11_ := Aside0.mk ((by rw [hg]; exact Nat.ne_of_gt (blk_lt (g := gb281) (o := .cells #[.slice none 0 0, .string (⟨#[]⟩ : ByteArray), .string (⟨#[]⟩ : ByteArray)] 27 (0, 0)) (by (with_reducible repeat (first | refine blk_drewN ?_ _ | refine blk_drew ?_ | refine blk_alloc ?_ _)); exact BK281.out)) : gb292 ≠ gb281)); clear HO286; clear HO289; clear BK280; clear BK281; clear HB; have HO286 := n0_; have HO289 := n1_; have BK280 := n2_; have BK281 := n3_; have HB := n4_; have BK292 := n5_; have GW292 := n6_; have GE292 := n7_; have NB280_292 := n8_; have NB292_280 := n9_; have NB281_292 := n10_; have NB292_281 := n11_; clear n0_ n1_ n2_ n3_ n4_ n5_ n6_ n7_ n8_ n9_ n10_ n11_; clear hb hbox hg; obtain ⟨Ao61, co61, eo61⟩ := Kd.R_slice HO289.out; subst eo61; have hnb62 := NB292_280.out; have hnc62 := NB280_292.out; have hnb63 := NB292_281.out; have hnc63 := NB281_292.out; have hcz64_0 : w60.cell? ⟨gb292, 0, none⟩ = some (.slice none 0 0) := (blk_cell BK292.out 0).trans rfl; have hcz64_1 : w60.cell? ⟨gb292, 1, none⟩ = some (.string (⟨#[]⟩ : ByteArray)) := (blk_cell BK292.out 1).trans rfl; have hcz64_2 : w60.cell? ⟨gb292, 2, none⟩ = some (.string (⟨#[]⟩ : ByteArray)) := (blk_cell BK292.out 2).trans rfl; have hfz64_0 := blk_frozen BK292.out 0; have hfz64_1 := blk_frozen BK292.out 1; have hfz64_2 := blk_frozen BK292.out 2) | ((with_reducible refine gate_callee (f := 46) rfl ?_); refine goesL_ (some 46) rfl rfl Try.func46 (by kernel_rfl) rfl #[.slice Ao61 t287.length co61] rfl (by (try simp only [List.map_toArray, List.map_cons, List.map_nil]); first | done | rfl | (simp only [List.length_drop, List.length_take]; rfl)) ?_; (with_reducible refine (impl_parities.calls kj3 _ _ t287 t293 t294 _ ?side1 ?side2 A30.out).mono ?_); (case side1 => refine (Kd.R_reads' (e := 9) (base := w.heap.size) (ok := fun k_ => True) (n := t287.length) (c := co61) ?_).2.2; exact (by (with_reducible repeat (first | apply Kd.R_alloc | apply Kd.R_drewN | apply Kd.R_drew)); exact (Kd.R_mono (Kd.R_far (p := ⟨gb292, 2, none⟩) (Kd.R_far (p := ⟨gb292, 1, none⟩) (Kd.R_far (p := ⟨gb292, 0, none⟩) (Kd.R_types HO289.out BK292.out (by decide)) (fun _ hk => hk.2) (.slice Ao61 t287.length co61)) (fun _ hk => hk.2) (.string t290)) (fun _ hk => hk.2) (.string t291)) (fun _ h_ => h_.1)))); (case side2 => exact (Kd.R_reads' HO289.out).2.1); rintro e w65 ⟨rfl, hb⟩; refine ⟨_, rfl, ?_⟩; have n0_ := Aside0.mk (Kd.R_below (by (with_reducible repeat (first | apply Kd.R_alloc | apply Kd.R_drewN | apply Kd.R_drew)); exact (Kd.R_mono (Kd.R_far (p := ⟨gb292, 2, none⟩) (Kd.R_far (p := ⟨gb292, 1, none⟩) (Kd.R_far (p := ⟨gb292, 0, none⟩) (Kd.R_types HO286.out BK292.out (by decide)) (fun _ hk => hk.2) (.slice Ao61 t287.length co61)) (fun _ hk => hk.2) (.string t290)) (fun _ hk => hk.2) (.string t291)) (fun _ h_ => h_.1))) hb); have n1_ := Aside0.mk (Kd.R_below (by (with_reducible repeat (first | apply Kd.R_alloc | apply Kd.R_drewN | apply Kd.R_drew)); exact (Kd.R_mono (Kd.R_far (p := ⟨gb292, 2, none⟩) (Kd.R_far (p := ⟨gb292, 1, none⟩) (Kd.R_far (p := ⟨gb292, 0, none⟩) (Kd.R_types HO289.out BK292.out (by decide)) (fun _ hk => hk.2) (.slice Ao61 t287.length co61)) (fun _ hk => hk.2) (.string t290)) (fun _ hk => hk.2) (.string t291)) (fun _ h_ => h_.1))) hb); have n2_ := Aside0.mk (blk_below (g := gb280) (o := .cells #[.slice A0_0 l0_0.length c0_0, .string a0_1, .string a0_2] 27 (0, 0)) (by (with_reducible repeat (first | refine blk_drewN ?_ _ | refine blk_drew ?_ | refine blk_alloc ?_ _)); refine blk_far ?_ NB280_292.out _; (with_reducible repeat (first | refine blk_drewN ?_ _ | refine blk_drew ?_ | refine blk_alloc ?_ _)); refine blk_far ?_ NB280_292.out _; (with_reducible repeat (first | refine blk_drewN ?_ _ | refine blk_drew ?_ | refine blk_alloc ?_ _)); refine blk_far ?_ NB280_292.out _; (with_reducible repeat (first | refine blk_drewN ?_ _ | refine blk_drew ?_ | refine blk_alloc ?_ _)); exact BK280.out) hb); have n3_ := Aside0.mk (blk_below (g := gb281) (o := .cells #[.slice none 0 0, .string (⟨#[]⟩ : ByteArray), .string (⟨#[]⟩ : ByteArray)] 27 (0, 0)) (by (with_reducible repeat (first | refine blk_drewN ?_ _ | refine blk_drew ?_ | refine blk_alloc ?_ _)); refine blk_far ?_ NB281_292.out _; (with_reducible repeat (first | refine blk_drewN ?_ _ | refine blk_drew ?_ | refine blk_alloc ?_ _)); refine blk_far ?_ NB281_292.out _; (with_reducible repeat (first | refine blk_drewN ?_ _ | refine blk_drew ?_ | refine blk_alloc ?_ _)); refine blk_far ?_ NB281_292.out _; (with_reducible repeat (first | refine blk_drewN ?_ _ | refine blk_drew ?_ | refine blk_alloc ?_ _)); exact BK281.out) hb); have n4_ := Aside0.mk (blk_below (g := gb292) (o := .cells #[.slice Ao61 t287.length co61, .string t290, .string t291] 27 (0, 0)) (by (with_reducible repeat (first | refine blk_drewN ?_ _ | refine blk_drew ?_ | refine blk_alloc ?_ _)); refine blk_put (cs := #[.slice Ao61 t287.length co61, .string t290, .string (⟨#[]⟩ : ByteArray)]) ?_ 2 _ rfl; (with_reducible repeat (first | refine blk_drewN ?_ _ | refine blk_drew ?_ | refine blk_alloc ?_ _)); refine blk_put (cs := #[.slice Ao61 t287.length co61, .string (⟨#[]⟩ : ByteArray), .string (⟨#[]⟩ : ByteArray)]) ?_ 1 _ rfl; (with_reducible repeat (first | refine blk_drewN ?_ _ | refine blk_drew ?_ | refine blk_alloc ?_ _)); refine blk_put (cs := #[.slice none 0 0, .string (⟨#[]⟩ : ByteArray), .string (⟨#[]⟩ : ByteArray)]) ?_ 0 _ rfl; (with_reducible repeat (first | refine blk_drewN ?_ _ | refine blk_drew ?_ | refine blk_alloc ?_ _)); exact BK292.out) hb); have n5_ := Aside0.mk (below_step (by repeat (first | (with_reducible first | exact HB.out | apply below_alloc | apply pw_below_drewN | apply below_drew1 | refine below_set ?_ GE280.out | refine below_set ?_ GE281.out | refine below_set ?_ GE292.out) | exact HB.out)) hb); clear HO286; clear HO289; clear BK280; clear BK281; clear BK292; clear HB; have HO286 := n0_; have HO289 := n1_; have BK280 := n2_; have BK281 := n3_; have BK292 := n4_; have HB := n5_; clear n0_ n1_ n2_ n3_ n4_ n5_; (try clear hb); (try clear hb2); (try clear hk); (try clear hi)))
        have n0_ := Aside0.mk (Kd.R_drew HO286.out)
        have n1_ := Aside0.mk (Kd.R_drew HO289.out)
        have n2_ := Aside0.mk (blk_drew BK280.out)
        have n3_ := Aside0.mk (blk_drew BK281.out)
        have n4_ := Aside0.mk (blk_drew BK292.out)
        have n5_ := Aside0.mk (below_drew1 HB.out)
        clear HO286
        clear HO289
        clear BK280
        clear BK281
        clear BK292
        clear HB
        have HO286 := n0_
        have HO289 := n1_
        have BK280 := n2_
        have BK281 := n3_
        have BK292 := n4_
        have HB := n5_
        clear n0_ n1_ n2_ n3_ n4_ n5_
        refine start_ (n := 12) (S := fun w' => w'.cell? ⟨gb292, 0, none⟩ = some (.slice Ao61 t287.length co61) ∧ w'.cell? ⟨gb292, 1, none⟩ = some (.string t290) ∧ w'.cell? ⟨gb292, 2, none⟩ = some (.string t291) ∧ w'.cell? ⟨gb280, 0, none⟩ = some (.slice A0_0 l0_0.length c0_0) ∧ w'.cell? ⟨gb280, 1, none⟩ = some (.string a0_1) ∧ w'.cell? ⟨gb280, 2, none⟩ = some (.string a0_2)) (ds := [11]) #[false, false, false, false, false, false, false, false, false, false, false, false] (by kernel_rfl) rfl rfl ⟨(blk_cell BK292.out 0).trans rfl, (blk_cell BK292.out 1).trans rfl, (blk_cell BK292.out 2).trans rfl, (blk_cell BK280.out 0).trans rfl, (blk_cell BK280.out 1).trans rfl, (blk_cell BK280.out 2).trans rfl⟩ (fun hHeld => ?_); refine with_tabW impl_RecoverTwo.tab13 impl_RecoverTwo.bits13 (fun HT_ HW_ => ?_)
        generalize w65.drew = w66 at HO286 HO289 BK280 BK281 BK292 HB hHeld ⊢
        refine pure_ (i := 0) (N := some 94) (v := ?_) (a' := ?_) #[true, false, false, false, false, false, false, false, false, false, false, false] rfl rfl (any_of HT_.out (by kernel_rfl)) (fun _ _ _ h => h) (Or.inl ⟨by rfl, ?_⟩) ?_ ?_
        rotate_left
        ·intro w'
         go_simp
         with_reducible rfl
        rotate_left
        ·simp only [Act.put, List.setIfInBounds_toArray, List.set_cons_zero, List.set_cons_succ, i64_w, i32_w]
         rfl
        refine pure_ (i := 2) (N := some 96) (v := ?_) (a' := ?_) #[true, false, true, false, false, false, false, false, false, false, false, false] rfl rfl (any_of HT_.out (by kernel_rfl)) (fun _ _ _ h => h) (Or.inl ⟨by rfl, ?_⟩) ?_ ?_
        rotate_left
        ·intro w'
         go_simp
         with_reducible rfl
        rotate_left
        ·simp only [Act.put, List.setIfInBounds_toArray, List.set_cons_zero, List.set_cons_succ, i64_w, i32_w]
         rfl
        refine pure_ (i := 3) (N := some 97) (v := ?_) (a' := ?_) #[true, false, true, true, false, false, false, false, false, false, false, false] rfl rfl (any_of HT_.out (by kernel_rfl)) (fun _ _ _ h => h) (Or.inl ⟨by rfl, ?_⟩) ?_ ?_
        rotate_left
        ·intro w'
         go_simp
         with_reducible rfl
        rotate_left
        ·simp only [Act.put, List.setIfInBounds_toArray, List.set_cons_zero, List.set_cons_succ, i64_w, i32_w]
         rfl
        refine pure_ (i := 4) (N := some 98) (v := ?_) (a' := ?_) #[true, false, true, true, true, false, false, false, false, false, false, false] rfl rfl (any_of HT_.out (by kernel_rfl)) (fun _ _ _ h => h) (Or.inl ⟨by rfl, ?_⟩) ?_ ?_
        rotate_left
        ·intro w'
         go_simp
         with_reducible rfl
        rotate_left
        ·simp only [Act.put, List.setIfInBounds_toArray, List.set_cons_zero, List.set_cons_succ, i64_w, i32_w]
         rfl
        refine pure_ (i := 7) (N := some 101) (v := ?_) (a' := ?_) #[true, false, true, true, true, false, false, true, false, false, false, false] rfl rfl (any_of HT_.out (by kernel_rfl)) (fun _ _ _ h => h) (Or.inl ⟨by rfl, ?_⟩) ?_ ?_
        rotate_left
        ·intro w'
         go_simp
         with_reducible rfl
        rotate_left
        ·simp only [Act.put, List.setIfInBounds_toArray, List.set_cons_zero, List.set_cons_succ, i64_w, i32_w]
         rfl
        refine take_ (i := 1) (N := some 95) (v := ?_) (a' := ?_) #[true, true, true, true, true, false, false, true, false, false, false, false] rfl rfl (take_ofW HT_.out HW_.out (by kernel_rfl)) (fun _ _ _ h => h) (Or.inl ⟨by rfl, ?_⟩) hHeld ?_ ?_
        rotate_left
        ·rintro w' ⟨s0, s1, s2, s3, s4, s5⟩
         go_simp
         with_reducible rfl
        rotate_left
        ·simp only [Act.put, List.setIfInBounds_toArray, List.set_cons_zero, List.set_cons_succ, i64_w, i32_w]
         rfl
        refine take_ (i := 5) (N := some 99) (v := ?_) (a' := ?_) #[true, true, true, true, true, true, false, true, false, false, false, false] rfl rfl (take_ofW HT_.out HW_.out (by kernel_rfl)) (fun _ _ _ h => h) (Or.inl ⟨by rfl, ?_⟩) hHeld ?_ ?_
        rotate_left
        ·rintro w' ⟨s0, s1, s2, s3, s4, s5⟩
         go_simp
         with_reducible rfl
        rotate_left
        ·simp only [Act.put, List.setIfInBounds_toArray, List.set_cons_zero, List.set_cons_succ, i64_w, i32_w]
         rfl
        refine one_ (i := 6) (N := some 100) #[true, true, true, true, true, true, true, true, false, false, false, false] rfl rfl (one_of HT_.out (by kernel_rfl)) (by decide) (fun K hK => ?_)
        refine goes_ Try.func57 (by kernel_rfl) rfl #[.string t294, .string a0_2] (by rfl) rfl rfl (by (try simp only [List.map_toArray, List.map_cons, List.map_nil]); first | done | rfl | (simp only [List.length_drop, List.length_take]; rfl)) ?_
        with_reducible refine (impl_xor.calls t294 a0_2 t295 _ A47.out).mono ?_
        rintro e w67 ⟨rfl, hb⟩
        refine ⟨_, rfl, ?_⟩
        have n0_ := Aside0.mk (Kd.R_below (by (with_reducible repeat (first | apply Kd.R_alloc | apply Kd.R_drewN | apply Kd.R_drew)); exact HO286.out) hb)
        have n1_ := Aside0.mk (Kd.R_below (by (with_reducible repeat (first | apply Kd.R_alloc | apply Kd.R_drewN | apply Kd.R_drew)); exact HO289.out) hb)
        have n2_ := Aside0.mk (blk_below (g := gb280) (o := .cells #[.slice A0_0 l0_0.length c0_0, .string a0_1, .string a0_2] 27 (0, 0)) (by (with_reducible repeat (first | refine blk_drewN ?_ _ | refine blk_drew ?_ | refine blk_alloc ?_ _)); exact BK280.out) hb)
        have n3_ := Aside0.mk (blk_below (g := gb281) (o := .cells #[.slice none 0 0, .string (⟨#[]⟩ : ByteArray), .string (⟨#[]⟩ : ByteArray)] 27 (0, 0)) (by (with_reducible repeat (first | refine blk_drewN ?_ _ | refine blk_drew ?_ | refine blk_alloc ?_ _)); exact BK281.out) hb)
        have n4_ := Aside0.mk (blk_below (g := gb292) (o := .cells #[.slice Ao61 t287.length co61, .string t290, .string t291] 27 (0, 0)) (by (with_reducible repeat (first | refine blk_drewN ?_ _ | refine blk_drew ?_ | refine blk_alloc ?_ _)); exact BK292.out) hb)
        have n5_ := Aside0.mk (below_step (by repeat (first | (with_reducible first | exact HB.out | apply below_alloc | apply pw_below_drewN | apply below_drew1 | refine below_set ?_ GE280.out | refine below_set ?_ GE281.out | refine below_set ?_ GE292.out) | exact HB.out)) hb)
        clear HO286
        clear HO289
        clear BK280
        clear BK281
        clear BK292
        clear HB
        have HO286 := n0_
        have HO289 := n1_
        have BK280 := n2_
        have BK281 := n3_
        have BK292 := n4_
        have HB := n5_
        clear n0_ n1_ n2_ n3_ n4_ n5_
        (try clear hb)
        (try clear hb2)
        (try clear hk)
        (try clear hi)
        refine hK.out _ _ ⟨(blk_cell BK292.out 0).trans rfl, (blk_cell BK292.out 1).trans rfl, (blk_cell BK292.out 2).trans rfl, (blk_cell BK280.out 0).trans rfl, (blk_cell BK280.out 1).trans rfl, (blk_cell BK280.out 2).trans rfl⟩ (fun hHeld => ?_)
        clear hK K
        refine norm_ (a' := ?_) ?_ ?_
        rotate_left
        ·show Act.put _ (some 100) _ = _
         simp only [Act.put, List.setIfInBounds_toArray, List.set_cons_zero, List.set_cons_succ, i64_w, i32_w]
         rfl
        refine one_ (i := 8) (N := some 102) #[true, true, true, true, true, true, true, true, true, false, false, false] rfl rfl (one_of HT_.out (by kernel_rfl)) (by decide) (fun K hK => ?_)
        refine goes_ Try.func63 (by kernel_rfl) rfl #[.int .u8 2, .int .i64 ji27] (by rfl) rfl rfl (by (try simp only [List.map_toArray, List.map_cons, List.map_nil]); first | done | (simp only [hji27]; rfl) | rfl | (simp only [List.length_drop, List.length_take]; rfl)) ?_
        with_reducible refine (impl_power.calls kj3 2 ji27 t296 _ A48.out).mono ?_
        rintro e w' ⟨rfl, ⟨nd, rfl⟩⟩
        refine ⟨_, rfl, ?_⟩
        refine hK.out _ _ ⟨(blk_cell BK292.out 0).trans rfl, (blk_cell BK292.out 1).trans rfl, (blk_cell BK292.out 2).trans rfl, (blk_cell BK280.out 0).trans rfl, (blk_cell BK280.out 1).trans rfl, (blk_cell BK280.out 2).trans rfl⟩ (fun hHeld => ?_)
        clear hK K
        refine norm_ (a' := ?_) ?_ ?_
        rotate_left
        ·show Act.put _ (some 102) _ = _
         simp only [Act.put, List.setIfInBounds_toArray, List.set_cons_zero, List.set_cons_succ, i64_w, i32_w]
         rfl
        refine one_ (i := 9) (N := some 103) #[true, true, true, true, true, true, true, true, true, true, false, false] rfl rfl (one_of HT_.out (by kernel_rfl)) (by decide) (fun K hK => ?_)
        refine goes_ Try.func62 (by kernel_rfl) rfl #[.string t295, .int .u8 t296] (by rfl) rfl rfl (by (try simp only [List.map_toArray, List.map_cons, List.map_nil]); first | done | rfl | (simp only [List.length_drop, List.length_take]; rfl)) ?_
        with_reducible refine (impl_divided.calls kj3 t295 t296 t297 _ A49.out).mono ?_
        rintro e w68 ⟨rfl, hb⟩
        refine ⟨_, rfl, ?_⟩
        have n0_ := Aside0.mk (Kd.R_below (by (with_reducible repeat (first | apply Kd.R_alloc | apply Kd.R_drewN | apply Kd.R_drew)); exact HO286.out) hb)
        have n1_ := Aside0.mk (Kd.R_below (by (with_reducible repeat (first | apply Kd.R_alloc | apply Kd.R_drewN | apply Kd.R_drew)); exact HO289.out) hb)
        have n2_ := Aside0.mk (blk_below (g := gb280) (o := .cells #[.slice A0_0 l0_0.length c0_0, .string a0_1, .string a0_2] 27 (0, 0)) (by (with_reducible repeat (first | refine blk_drewN ?_ _ | refine blk_drew ?_ | refine blk_alloc ?_ _)); exact BK280.out) hb)
        have n3_ := Aside0.mk (blk_below (g := gb281) (o := .cells #[.slice none 0 0, .string (⟨#[]⟩ : ByteArray), .string (⟨#[]⟩ : ByteArray)] 27 (0, 0)) (by (with_reducible repeat (first | refine blk_drewN ?_ _ | refine blk_drew ?_ | refine blk_alloc ?_ _)); exact BK281.out) hb)
        have n4_ := Aside0.mk (blk_below (g := gb292) (o := .cells #[.slice Ao61 t287.length co61, .string t290, .string t291] 27 (0, 0)) (by (with_reducible repeat (first | refine blk_drewN ?_ _ | refine blk_drew ?_ | refine blk_alloc ?_ _)); exact BK292.out) hb)
        have n5_ := Aside0.mk (below_step (by repeat (first | (with_reducible first | exact HB.out | apply below_alloc | apply pw_below_drewN | apply below_drew1 | refine below_set ?_ GE280.out | refine below_set ?_ GE281.out | refine below_set ?_ GE292.out) | exact HB.out)) hb)
        clear HO286
        clear HO289
        clear BK280
        clear BK281
        clear BK292
        clear HB
        have HO286 := n0_
        have HO289 := n1_
        have BK280 := n2_
        have BK281 := n3_
        have BK292 := n4_
        have HB := n5_
        clear n0_ n1_ n2_ n3_ n4_ n5_
        (try clear hb)
        (try clear hb2)
        (try clear hk)
        (try clear hi)
        have p52 : 0 ≤ ((ji27) : Int) := of_decide_eq_true (by first | (with_reducible assumption) | assumption)
        have q52 : ((ji27) : Int) < ((t287.length : Int) : Int) := of_decide_eq_true (by first | (with_reducible assumption) | assumption)
        obtain ⟨go52, co52, eo52, gb52, gl52, cl52, HG52⟩ := Kd.R_form HO289.out (by omega)
        (first | cases eo52 | (injection eo52 with ea_ en_ ec_; (first | subst ea_ | (injection ea_ with ea_; subst ea_)); subst ec_; clear en_))
        have GB52 := Aside0.mk gb52
        have GG52 := Aside0.mk HG52
        clear gb52 gl52 HG52
        obtain ⟨hx52_0, hf52_0⟩ := Kd.R_celln (⟨#[]⟩ : ByteArray) HO289.out ((ji27) : Int) p52 q52
        replace p52 := eq_true p52
        replace q52 := eq_true q52
        have HP69 := Kd.R_putn HO289.out ((ji27) : Int) t297
        rw [← Ny298.out] at HP69
        have HQ69 := Aside0.mk HP69
        clear HP69
        refine hK.out _ _ ⟨(blk_cell BK292.out 0).trans rfl, (blk_cell BK292.out 1).trans rfl, (blk_cell BK292.out 2).trans rfl, (blk_cell BK280.out 0).trans rfl, (blk_cell BK280.out 1).trans rfl, (blk_cell BK280.out 2).trans rfl⟩ (fun hHeld => ?_)
        clear hK K
        refine norm_ (a' := ?_) ?_ ?_
        rotate_left
        ·show Act.put _ (some 103) _ = _
         simp only [Act.put, List.setIfInBounds_toArray, List.set_cons_zero, List.set_cons_succ, i64_w, i32_w]
         rfl
        refine pure_ (i := 10) (N := some 104) (v := ?_) (a' := ?_) #[true, true, true, true, true, true, true, true, true, true, true, false] rfl rfl (any_of HT_.out (by kernel_rfl)) (fun _ _ _ h => h) (Or.inl ⟨by rfl, ?_⟩) ?_ ?_
        rotate_left
        ·intro w'
         go_simp
         with_reducible rfl
        rotate_left
        ·simp only [Act.put, List.setIfInBounds_toArray, List.set_cons_zero, List.set_cons_succ, i64_w, i32_w]
         rfl
        refine last_ (i := 11) (N := none) #[true, true, true, true, true, true, true, true, true, true, true, true] rfl rfl (one_of HT_.out (by kernel_rfl)) (by decide) (fun K hK => ?_)
        refine skip_ (w1 := ?_) (by rfl) rfl ?_ ?_
        rotate_left
        ·go_simp
         rfl
        refine hK.out _ _ ?_
        clear hK K
        refine done_ (done_of HT_.out (by kernel_rfl)) ?_
        have n0_ : Aside0 (Kd.R (Kd.int .i64) 3 (w68.setCell ⟨go52, ((ji27) : Int).toNat, none⟩ (.string t297)) w.heap.size (fun _ => True) (.slice Ao58 y284.length co58) y284) := ⟨by (with_reducible repeat (first | apply Kd.R_alloc | apply Kd.R_drewN | apply Kd.R_drew)); first | exact Kd.R_mono (Kd.R_far (p := ⟨go52, ((ji27) : Int).toNat, none⟩) (Kd.R_types HO286.out GG52.out (by decide)) (fun _ hk => hk.2) (.string t297)) (fun _ hk => trivial) | (obtain ⟨_, _, _, q_, hq_, cl_, HG_⟩ := (Kd.R_bound HO289.out).1 go52 rfl; obtain rfl : q_ = 9 := (by first | exact List.mem_singleton.mp hq_ | simpa using hq_); exact Kd.R_mono (Kd.R_far (p := ⟨go52, ((ji27) : Int).toNat, none⟩) (Kd.R_types HO286.out HG_ (by decide)) (fun _ hk => hk.2) (.string t297)) (fun _ hk => trivial))⟩
        have n1_ : Aside0 (Kd.R Kd.string 9 (w68.setCell ⟨go52, ((ji27) : Int).toNat, none⟩ (.string t297)) w.heap.size (fun _ => True) (.slice (some ⟨go52, 0, none⟩) t287.length co61) y298) := ⟨by (with_reducible repeat (first | apply Kd.R_alloc | apply Kd.R_drewN | apply Kd.R_drew)); exact HQ69.out⟩
        have n2_ : Aside0 ((w68.setCell ⟨go52, ((ji27) : Int).toNat, none⟩ (.string t297)).heap[gb280]? = some (.cells #[.slice A0_0 l0_0.length c0_0, .string a0_1, .string a0_2] 27 (0, 0))) := ⟨by (with_reducible repeat (first | refine blk_drewN ?_ _ | refine blk_drew ?_ | refine blk_alloc ?_ _)); refine blk_far ?_ (by have h_ := Kd.R_ne HO289.out BK280.out (by decide); intro e_; exact h_ (by rw [e_]; rfl)) _; (with_reducible repeat (first | refine blk_drewN ?_ _ | refine blk_drew ?_ | refine blk_alloc ?_ _)); exact BK280.out⟩
        have n3_ : Aside0 ((w68.setCell ⟨go52, ((ji27) : Int).toNat, none⟩ (.string t297)).heap[gb281]? = some (.cells #[.slice none 0 0, .string (⟨#[]⟩ : ByteArray), .string (⟨#[]⟩ : ByteArray)] 27 (0, 0))) := ⟨by (with_reducible repeat (first | refine blk_drewN ?_ _ | refine blk_drew ?_ | refine blk_alloc ?_ _)); refine blk_far ?_ (by have h_ := Kd.R_ne HO289.out BK281.out (by decide); intro e_; exact h_ (by rw [e_]; rfl)) _; (with_reducible repeat (first | refine blk_drewN ?_ _ | refine blk_drew ?_ | refine blk_alloc ?_ _)); exact BK281.out⟩
        have n4_ : Aside0 ((w68.setCell ⟨go52, ((ji27) : Int).toNat, none⟩ (.string t297)).heap[gb292]? = some (.cells #[.slice (some ⟨go52, 0, none⟩) t287.length co61, .string t290, .string t291] 27 (0, 0))) := ⟨by (with_reducible repeat (first | refine blk_drewN ?_ _ | refine blk_drew ?_ | refine blk_alloc ?_ _)); refine blk_far ?_ (by have h_ := Kd.R_ne HO289.out BK292.out (by decide); intro e_; exact h_ (by rw [e_]; rfl)) _; (with_reducible repeat (first | refine blk_drewN ?_ _ | refine blk_drew ?_ | refine blk_alloc ?_ _)); exact BK292.out⟩
        have n5_ : Aside0 (Below w.heap.size w (w68.setCell ⟨go52, ((ji27) : Int).toNat, none⟩ (.string t297))) := ⟨by repeat (first | (with_reducible first | exact HB.out | apply below_alloc | apply pw_below_drewN | apply below_drew1 | refine below_set ?_ GB52.out | refine below_set ?_ GE280.out | refine below_set ?_ GE281.out | refine below_set ?_ GE292.out) | exact HB.out)⟩
        (try clear HO286)
        (try clear HO289)
        (try clear BK280)
        (try clear BK281)
        (try clear BK292)
        (try clear HB)
        generalize (w68.setCell ⟨go52, ((ji27) : Int).toNat, none⟩ (.string t297)) = w70 at n0_ n1_ n2_ n3_ n4_ n5_ ⊢
        have HO286 := n0_
        have HO289 := n1_
        have BK280 := n2_
        have BK281 := n3_
        have BK292 := n4_
        have HB := n5_
        clear n0_ n1_ n2_ n3_ n4_ n5_
        have hcz71_0 : w70.cell? ⟨gb292, 0, none⟩ = some (.slice (some ⟨go52, 0, none⟩) t287.length co61) := (blk_cell BK292.out 0).trans rfl
        have hcz71_1 : w70.cell? ⟨gb292, 1, none⟩ = some (.string t290) := (blk_cell BK292.out 1).trans rfl
        have hcz71_2 : w70.cell? ⟨gb292, 2, none⟩ = some (.string t291) := (blk_cell BK292.out 2).trans rfl
        have hfz71_0 := blk_frozen BK292.out 0
        have hfz71_1 := blk_frozen BK292.out 1
        have hfz71_2 := blk_frozen BK292.out 2
        try go_wp2_with (first | ((with_reducible refine gate_callee (f := 46) rfl ?_); refine goesL_ (some 108) rfl rfl Try.func46 (by kernel_rfl) rfl #[.slice (some ⟨go52, 0, none⟩) y298.length co61] rfl (by (try simp only [List.map_toArray, List.map_cons, List.map_nil]); first | done | (rw [show y298.length = t287.length from (Kd.R_reads' HO289.out).1.symm] <;> rfl) | rfl | (simp only [List.length_drop, List.length_take]; rfl)) ?_; (with_reducible refine (impl_parities.calls kj3 _ _ y298 t299 t300 _ ?side1 ?side2 A53.out).mono ?_); (case side1 => repeat (first | exact (Kd.R_reads' HO289.out).2.2 | (with_reducible refine Kd.C_alloc ?_ _) | (with_reducible refine Kd.C_drewN ?_ _) | (with_reducible refine Kd.C_drew ?_))); (case side2 => rw [show y298.length = t287.length from (Kd.R_reads' HO289.out).1.symm]; exact (Kd.R_reads' HO289.out).2.1); rintro e w72 ⟨rfl, hb⟩; refine ⟨_, rfl, ?_⟩; have n0_ := Aside0.mk (Kd.R_below (by (with_reducible repeat (first | apply Kd.R_alloc | apply Kd.R_drewN | apply Kd.R_drew)); exact HO286.out) hb); have n1_ := Aside0.mk (Kd.R_below (by (with_reducible repeat (first | apply Kd.R_alloc | apply Kd.R_drewN | apply Kd.R_drew)); exact HO289.out) hb); have n2_ := Aside0.mk (blk_below (g := gb280) (o := .cells #[.slice A0_0 l0_0.length c0_0, .string a0_1, .string a0_2] 27 (0, 0)) (by (with_reducible repeat (first | refine blk_drewN ?_ _ | refine blk_drew ?_ | refine blk_alloc ?_ _)); exact BK280.out) hb); have n3_ := Aside0.mk (blk_below (g := gb281) (o := .cells #[.slice none 0 0, .string (⟨#[]⟩ : ByteArray), .string (⟨#[]⟩ : ByteArray)] 27 (0, 0)) (by (with_reducible repeat (first | refine blk_drewN ?_ _ | refine blk_drew ?_ | refine blk_alloc ?_ _)); exact BK281.out) hb); have n4_ := Aside0.mk (blk_below (g := gb292) (o := .cells #[.slice (some ⟨go52, 0, none⟩) t287.length co61, .string t290, .string t291] 27 (0, 0)) (by (with_reducible repeat (first | refine blk_drewN ?_ _ | refine blk_drew ?_ | refine blk_alloc ?_ _)); exact BK292.out) hb); have n5_ := Aside0.mk (below_step (by repeat (first | (with_reducible first | exact HB.out | apply below_alloc | apply pw_below_drewN | apply below_drew1 | refine below_set ?_ GE280.out | refine below_set ?_ GE281.out | refine below_set ?_ GE292.out) | exact HB.out)) hb); clear HO286; clear HO289; clear BK280; clear BK281; clear BK292; clear HB; have HO286 := n0_; have HO289 := n1_; have BK280 := n2_; have BK281 := n3_; have BK292 := n4_; have HB := n5_; clear n0_ n1_ n2_ n3_ n4_ n5_; (try clear hb); (try clear hb2); (try clear hk); (try clear hi); have hcz73_0 : w72.cell? ⟨gb292, 0, none⟩ = some (.slice (some ⟨go52, 0, none⟩) t287.length co61) := (blk_cell BK292.out 0).trans rfl; have hcz73_1 : w72.cell? ⟨gb292, 1, none⟩ = some (.string t290) := (blk_cell BK292.out 1).trans rfl; have hcz73_2 : w72.cell? ⟨gb292, 2, none⟩ = some (.string t291) := (blk_cell BK292.out 2).trans rfl; have hfz73_0 := blk_frozen BK292.out 0; have hfz73_1 := blk_frozen BK292.out 1; have hfz73_2 := blk_frozen BK292.out 2; have hcz74_0 : w72.cell? ⟨gb281, 0, none⟩ = some (.slice none 0 0) := (blk_cell BK281.out 0).trans rfl; have hcz74_1 : w72.cell? ⟨gb281, 1, none⟩ = some (.string (⟨#[]⟩ : ByteArray)) := (blk_cell BK281.out 1).trans rfl; have hcz74_2 : w72.cell? ⟨gb281, 2, none⟩ = some (.string (⟨#[]⟩ : ByteArray)) := (blk_cell BK281.out 2).trans rfl; have hfz74_0 := blk_frozen BK281.out 0; have hfz74_1 := blk_frozen BK281.out 1; have hfz74_2 := blk_frozen BK281.out 2))
        refine bodyPost_ret (results_ct rfl _ _ gb281 27 #[.slice (some ⟨go52, 0, none⟩) t287.length co61, .string t299, .string t291] (0, 0) _ rfl (by (with_reducible repeat (first | refine blk_drewN ?_ _ | refine blk_drew ?_ | refine blk_alloc ?_ _)); refine blk_put (cs := #[.slice (some ⟨go52, 0, none⟩) t287.length co61, .string t299, .string (⟨#[]⟩ : ByteArray)]) ?_ 2 _ rfl; (with_reducible repeat (first | refine blk_drewN ?_ _ | refine blk_drew ?_ | refine blk_alloc ?_ _)); refine blk_put (cs := #[.slice (some ⟨go52, 0, none⟩) t287.length co61, .string (⟨#[]⟩ : ByteArray), .string (⟨#[]⟩ : ByteArray)]) ?_ 1 _ rfl; (with_reducible repeat (first | refine blk_drewN ?_ _ | refine blk_drew ?_ | refine blk_alloc ?_ _)); refine blk_put (cs := #[.slice none 0 0, .string (⟨#[]⟩ : ByteArray), .string (⟨#[]⟩ : ByteArray)]) ?_ 0 _ rfl; (with_reducible repeat (first | refine blk_drewN ?_ _ | refine blk_drew ?_ | refine blk_alloc ?_ _)); refine blk_far ?_ NB281_292.out _; (with_reducible repeat (first | refine blk_drewN ?_ _ | refine blk_drew ?_ | refine blk_alloc ?_ _)); exact BK281.out) Try.underlying27 rfl (by kernel_rfl)) rfl ?_
        exact ⟨_, by first | rfl | (simp [errW_none, errW_some] <;> rfl) | (simp only [← hji27, ← hji28]; first | rfl | (simp [errW_none, errW_some] <;> rfl)) | (simp [*, errW_none, errW_some] <;> rfl), by (with_reducible repeat (first | apply Kd.R_alloc | apply Kd.R_drewN | apply Kd.R_drew)); exact Kd.R_mono (Kd.R_far (p := ⟨gb281, 2, none⟩) (Kd.R_far (p := ⟨gb281, 1, none⟩) (Kd.R_far (p := ⟨gb281, 0, none⟩) (Kd.R_far (p := ⟨gb292, 1, none⟩) (Kd.R_types (Kd.R_types HO289.out BK292.out (by decide)) BK281.out (by decide)) (fun _ hk => hk.1.2) (.string t299)) (fun _ hk => hk.2) (.slice (some ⟨go52, 0, none⟩) t287.length co61)) (fun _ hk => hk.2) (.string t299)) (fun _ hk => hk.2) (.string t291)) (fun _ hk => trivial), by repeat (first | (with_reducible first | exact HB.out | apply below_alloc | apply pw_below_drewN | apply below_drew1 | refine below_set ?_ GE280.out | refine below_set ?_ GE281.out | refine below_set ?_ GE292.out) | exact HB.out)⟩
       ·rw [if_neg c51] at H
        exact absurd H (by simp)
      ·rw [if_neg c50] at H
       exact absurd H (by simp)
     ·rw [if_neg c46] at H
      have c46b0 : ((ji28) == (l0_0.length : Int)) = false := beq_eq_false_iff_ne.mpr c46
      have c46b1 : ((ji28) != (l0_0.length : Int)) = true := bne_iff_ne.mpr c46
      by_cases c75 : (ji28) = (wrap64 ((l0_0.length : Int) + 1))
      ·rw [if_pos c75] at H
       have c75b0 : ((ji28) == (wrap64 ((l0_0.length : Int) + 1))) = true := beq_iff_eq.mpr c75
       have c75b1 : ((ji28) != (wrap64 ((l0_0.length : Int) + 1))) = false := bne_eq_false_iff_eq.mpr c75
       clear c75
       replace H := Option.bind_eq_some_iff.mp H
       obtain ⟨t301, A760, H⟩ := H
       replace H : (if 0 ≤ (ji27) then (if (ji27) < (t287.length : Int) then ((some (t287.set ((ji27) : Int).toNat t301 : List ByteArray)).bind fun y302 => ((impl_parities.f kj3 y302).bind fun bt303 => (some (y302, t290, bt303.2, true)))) else (none)) else (none)) = some (r1, r2, r3, r4) := H
       have A76 := Aside0.mk A760
       clear A760
       by_cases c77 : 0 ≤ (ji27)
       ·rw [if_pos c77] at H
        have c77b0 : decide (0 ≤ (ji27)) = true := decide_eq_true c77
        clear c77
        by_cases c78 : (ji27) < (t287.length : Int)
        ·rw [if_pos c78] at H
         have c78b0 : decide ((ji27) < (t287.length : Int)) = true := decide_eq_true c78
         clear c78
         obtain ⟨y302, hy302⟩ : ∃ y_ : List ByteArray, y_ = (t287.set ((ji27) : Int).toNat t301) := ⟨_, rfl⟩
         replace H : ((impl_parities.f kj3 y302).bind fun bt303 => (some (y302, t290, bt303.2, true))) = some (r1, r2, r3, r4) := by first | (rw [hy302]; with_reducible exact H) | (have H2_ := (Option.bind_some _ _).symm.trans H; rw [hy302]; with_reducible exact H2_) | (have H2_ := (Option.bind_some _ _).symm.trans H; with_reducible exact H2_) | with_reducible exact H | (rw [hy302]; exact H) | exact H
         have Ny302 := Aside0.mk hy302
         clear hy302
         replace H := Option.bind_eq_some_iff.mp H
         obtain ⟨⟨t303, t304⟩, A800, H⟩ := H
         replace H : (some (y302, t290, t304, true)) = some (r1, r2, r3, r4) := H
         have A80 := Aside0.mk A800
         clear A800
         simp only [Option.some.injEq, Prod.mk.injEq] at H
         obtain ⟨rfl, rfl, rfl, rfl⟩ := H
         have hnb81 := NB280_281.out
         have hnc81 := NB281_280.out
         have hcz82_0 : wc.cell? ⟨gb280, 0, none⟩ = some (.slice A0_0 l0_0.length c0_0) := (blk_cell BK280.out 0).trans rfl
         have hcz82_1 : wc.cell? ⟨gb280, 1, none⟩ = some (.string a0_1) := (blk_cell BK280.out 1).trans rfl
         have hcz82_2 : wc.cell? ⟨gb280, 2, none⟩ = some (.string a0_2) := (blk_cell BK280.out 2).trans rfl
         have hfz82_0 := blk_frozen BK280.out 0
         have hfz82_1 := blk_frozen BK280.out 1
         have hfz82_2 := blk_frozen BK280.out 2
         try go_wp2_with (first | ((with_reducible refine gate_dst (N := 41) rfl ?_); refine Kd.R_lit (Kd.int .i64) _ 3 ?hg (N := 41) ?hd (xs := ([ji27, ji28] : List Int)) (inner := [.int .i64 ji27, .int .i64 ji28]) (ok := fun _ => True) (okp := fun _ => True) ?hr ?hp (fun _ hk => hk) trivial (Below.refl _ _) (Nat.le_refl _) (by simp) ?_; (case hd => rfl); (case hg => rfl); (case hr => first | (go_simp; done) | (go_simp; rfl)); (case hp => exact (Reps.one (show Kd.M (Kd.int .i64) _ _ _ ji27 [.int .i64 ji27] from rfl) (Reps.one (show Kd.M (Kd.int .i64) _ _ _ ji28 [.int .i64 ji28] from rfl) (Reps.none _ _)))); intro v285 w83 ho84 hb hg_ hnew_; clear hg_ hnew_; (first | rw [← Ny284.out] at ho84 | (simp only [Int.reduceToNat] at ho84; rw [← Ny284.out] at ho84)); have n0_ := Aside0.mk (Kd.R_lower ho84 (below_size (by repeat (first | (with_reducible first | exact HB.out | apply below_alloc | apply pw_below_drewN | apply below_drew1 | refine below_set ?_ GE280.out | refine below_set ?_ GE281.out) | exact HB.out)))); have n1_ := Aside0.mk (blk_below (g := gb280) (o := .cells #[.slice A0_0 l0_0.length c0_0, .string a0_1, .string a0_2] 27 (0, 0)) (by (with_reducible repeat (first | refine blk_drewN ?_ _ | refine blk_drew ?_ | refine blk_alloc ?_ _)); exact BK280.out) hb); have n2_ := Aside0.mk (blk_below (g := gb281) (o := .cells #[.slice none 0 0, .string (⟨#[]⟩ : ByteArray), .string (⟨#[]⟩ : ByteArray)] 27 (0, 0)) (by (with_reducible repeat (first | refine blk_drewN ?_ _ | refine blk_drew ?_ | refine blk_alloc ?_ _)); exact BK281.out) hb); have n3_ := Aside0.mk (below_step (by repeat (first | (with_reducible first | exact HB.out | apply below_alloc | apply pw_below_drewN | apply below_drew1 | refine below_set ?_ GE280.out | refine below_set ?_ GE281.out) | exact HB.out)) hb); clear BK280; clear BK281; clear HB; have HO286 := n0_; have BK280 := n1_; have BK281 := n2_; have HB := n3_; clear n0_ n1_ n2_ n3_; clear hb ho84; obtain ⟨Ao85, co85, eo85⟩ := Kd.R_slice HO286.out; subst eo85) | ((with_reducible refine gate_callee (f := 56) rfl ?_); refine goesL_ (some 42) rfl rfl Try.func56 (by kernel_rfl) rfl #[.agg #[.slice A0_0 l0_0.length c0_0, .string a0_1, .string a0_2], .slice Ao85 y284.length co85] rfl (by (try simp only [List.map_toArray, List.map_cons, List.map_nil]); first | done | rfl | (simp only [List.length_drop, List.length_take]; rfl)) ?_; (with_reducible refine (impl_without.calls kj3 _ _ l0_0 a0_1 a0_2 _ _ y284 t287 t290 t291 _ ?side1 ?side2 ?side3 ?side4 A29.out).mono ?_); (case side1 => repeat (first | exact (Kd.C_below HR0_0.out HB.out) | (with_reducible refine Kd.C_alloc ?_ _) | (with_reducible refine Kd.C_drewN ?_ _) | (with_reducible refine Kd.C_drew ?_))); (case side2 => exact HC0_0.out); (case side3 => repeat (first | exact (Kd.R_reads' HO286.out).2.2 | (with_reducible refine Kd.C_alloc ?_ _) | (with_reducible refine Kd.C_drewN ?_ _) | (with_reducible refine Kd.C_drew ?_))); (case side4 => exact (Kd.R_reads' HO286.out).2.1); rintro e w86 ⟨v288, rfl, ho0, hb⟩; refine ⟨_, rfl, ?_⟩; have n0_ := Aside0.mk (Kd.R_below (by (with_reducible repeat (first | apply Kd.R_alloc | apply Kd.R_drewN | apply Kd.R_drew)); exact HO286.out) hb); have n1_ := Aside0.mk (Kd.R_lower ho0 (below_size (by repeat (first | (with_reducible first | exact HB.out | apply below_alloc | apply pw_below_drewN | apply below_drew1 | refine below_set ?_ GE280.out | refine below_set ?_ GE281.out) | exact HB.out)))); have n2_ := Aside0.mk (blk_below (g := gb280) (o := .cells #[.slice A0_0 l0_0.length c0_0, .string a0_1, .string a0_2] 27 (0, 0)) (by (with_reducible repeat (first | refine blk_drewN ?_ _ | refine blk_drew ?_ | refine blk_alloc ?_ _)); exact BK280.out) hb); have n3_ := Aside0.mk (blk_below (g := gb281) (o := .cells #[.slice none 0 0, .string (⟨#[]⟩ : ByteArray), .string (⟨#[]⟩ : ByteArray)] 27 (0, 0)) (by (with_reducible repeat (first | refine blk_drewN ?_ _ | refine blk_drew ?_ | refine blk_alloc ?_ _)); exact BK281.out) hb); have n4_ := Aside0.mk (below_step (by repeat (first | (with_reducible first | exact HB.out | apply below_alloc | apply pw_below_drewN | apply below_drew1 | refine below_set ?_ GE280.out | refine below_set ?_ GE281.out) | exact HB.out)) hb); clear HO286; clear BK280; clear BK281; clear HB; have HO286 := n0_; have HO289 := n1_; have BK280 := n2_; have BK281 := n3_; have HB := n4_; clear n0_ n1_ n2_ n3_ n4_; (try clear hb); (try clear hb2); (try clear hk); (try clear hi); (try clear ho0)) | ((with_reducible refine gate_dst (N := 9) rfl ?_); refine box_event ?hg (N := 9) ?hd (cs := #[.slice none 0 0, .string (⟨#[]⟩ : ByteArray), .string (⟨#[]⟩ : ByteArray)]) (t := 27) ?hr ?_; (case hd => rfl); (case hg => rfl); (case hr => first | (go_simp; done) | (go_simp; rfl)); intro gb292 hg w87 hbox hb; have n0_ := Aside0.mk (Kd.R_below (by (with_reducible repeat (first | apply Kd.R_alloc | apply Kd.R_drewN | apply Kd.R_drew)); exact HO286.out) hb); have n1_ := Aside0.mk (Kd.R_below (by (with_reducible repeat (first | apply Kd.R_alloc | apply Kd.R_drewN | apply Kd.R_drew)); exact HO289.out) hb); have n2_ := Aside0.mk (blk_below (g := gb280) (o := .cells #[.slice A0_0 l0_0.length c0_0, .string a0_1, .string a0_2] 27 (0, 0)) (by (with_reducible repeat (first | refine blk_drewN ?_ _ | refine blk_drew ?_ | refine blk_alloc ?_ _)); exact BK280.out) hb); have n3_ := Aside0.mk (blk_below (g := gb281) (o := .cells #[.slice none 0 0, .string (⟨#[]⟩ : ByteArray), .string (⟨#[]⟩ : ByteArray)] 27 (0, 0)) (by (with_reducible repeat (first | refine blk_drewN ?_ _ | refine blk_drew ?_ | refine blk_alloc ?_ _)); exact BK281.out) hb); have n4_ := Aside0.mk (below_step (by repeat (first | (with_reducible first | exact HB.out | apply below_alloc | apply pw_below_drewN | apply below_drew1 | refine below_set ?_ GE280.out | refine below_set ?_ GE281.out) | exact HB.out)) hb); have n5_ := Aside0.mk (hbox); have n6_ := Aside0.mk ((by rw [hg]; exact (below_size (by repeat (first | (with_reducible first | exact HB.out | apply below_alloc | apply pw_below_drewN | apply below_drew1 | refine below_set ?_ GE280.out | refine below_set ?_ GE281.out) | exact HB.out))) : w.heap.size ≤ gb292)); have n7_ := Aside0.mk ((by rw [hg]; exact (below_size (by repeat (first | (with_reducible first | exact HB.out | apply below_alloc | apply pw_below_drewN | apply below_drew1 | refine below_set ?_ GE280.out | refine below_set ?_ GE281.out) | exact HB.out))) : w.heap.size ≤ gb292)); have n8_ := Aside0.mk ((by rw [hg]; exact Nat.ne_of_lt (blk_lt (g := gb280) (o := .cells #[.slice A0_0 l0_0.length c0_0, .string a0_1, .string a0_2] 27 (0, 0)) (by (with_reducible repeat (first | refine blk_drewN ?_ _ | refine blk_drew ?_ | refine blk_alloc ?_ _)); exact BK280.out)) : gb280 ≠ gb292)); have n9_ := Aside0.mk ((by rw [hg]; exact Nat.ne_of_gt (blk_lt (g := gb280) (o := .cells #[.slice A0_0 l0_0.length c0_0, .string a0_1, .string a0_2] 27 (0, 0)) (by (with_reducible repeat (first | refine blk_drewN ?_ _ | refine blk_drew ?_ | refine blk_alloc ?_ _)); exact BK280.out)) : gb292 ≠ gb280)); have n10_ := Aside0.mk ((by rw [hg]; exact Nat.ne_of_lt (blk_lt (g := gb281) (o := .cells #[.slice none 0 0, .string (⟨#[]⟩ : ByteArray), .string (⟨#[]⟩ : ByteArray)] 27 (0, 0)) (by (with_reducible repeat (first | refine blk_drewN ?_ _ | refine blk_drew ?_ | refine blk_alloc ?_ _)); exact BK281.out)) : gb281 ≠ gb292)); have n11_ := Aside0.mk ((by rw [hg]; exact Nat.ne_of_gt (blk_lt (g := gb281) (o := .cells #[.slice none 0 0, .string (⟨#[]⟩ : ByteArray), .string (⟨#[]⟩ : ByteArray)] 27 (0, 0)) (by (with_reducible repeat (first | refine blk_drewN ?_ _ | refine blk_drew ?_ | refine blk_alloc ?_ _)); exact BK281.out)) : gb292 ≠ gb281)); clear HO286; clear HO289; clear BK280; clear BK281; clear HB; have HO286 := n0_; have HO289 := n1_; have BK280 := n2_; have BK281 := n3_; have HB := n4_; have BK292 := n5_; have GW292 := n6_; have GE292 := n7_; have NB280_292 := n8_; have NB292_280 := n9_; have NB281_292 := n10_; have NB292_281 := n11_; clear n0_ n1_ n2_ n3_ n4_ n5_ n6_ n7_ n8_ n9_ n10_ n11_; clear hb hbox hg; obtain ⟨Ao88, co88, eo88⟩ := Kd.R_slice HO289.out; subst eo88; have hnb89 := NB292_280.out; have hnc89 := NB280_292.out; have hnb90 := NB292_281.out; have hnc90 := NB281_292.out; have hcz91_0 : w87.cell? ⟨gb292, 0, none⟩ = some (.slice none 0 0) := (blk_cell BK292.out 0).trans rfl; have hcz91_1 : w87.cell? ⟨gb292, 1, none⟩ = some (.string (⟨#[]⟩ : ByteArray)) := (blk_cell BK292.out 1).trans rfl; have hcz91_2 : w87.cell? ⟨gb292, 2, none⟩ = some (.string (⟨#[]⟩ : ByteArray)) := (blk_cell BK292.out 2).trans rfl; have hfz91_0 := blk_frozen BK292.out 0; have hfz91_1 := blk_frozen BK292.out 1; have hfz91_2 := blk_frozen BK292.out 2) | ((with_reducible refine gate_callee (f := 46) rfl ?_); refine goesL_ (some 46) rfl rfl Try.func46 (by kernel_rfl) rfl #[.slice Ao88 t287.length co88] rfl (by (try simp only [List.map_toArray, List.map_cons, List.map_nil]); first | done | rfl | (simp only [List.length_drop, List.length_take]; rfl)) ?_; (with_reducible refine (impl_parities.calls kj3 _ _ t287 t293 t294 _ ?side1 ?side2 A30.out).mono ?_); (case side1 => refine (Kd.R_reads' (e := 9) (base := w.heap.size) (ok := fun k_ => True) (n := t287.length) (c := co88) ?_).2.2; exact (by (with_reducible repeat (first | apply Kd.R_alloc | apply Kd.R_drewN | apply Kd.R_drew)); exact (Kd.R_mono (Kd.R_far (p := ⟨gb292, 2, none⟩) (Kd.R_far (p := ⟨gb292, 1, none⟩) (Kd.R_far (p := ⟨gb292, 0, none⟩) (Kd.R_types HO289.out BK292.out (by decide)) (fun _ hk => hk.2) (.slice Ao88 t287.length co88)) (fun _ hk => hk.2) (.string t290)) (fun _ hk => hk.2) (.string t291)) (fun _ h_ => h_.1)))); (case side2 => exact (Kd.R_reads' HO289.out).2.1); rintro e w92 ⟨rfl, hb⟩; refine ⟨_, rfl, ?_⟩; have n0_ := Aside0.mk (Kd.R_below (by (with_reducible repeat (first | apply Kd.R_alloc | apply Kd.R_drewN | apply Kd.R_drew)); exact (Kd.R_mono (Kd.R_far (p := ⟨gb292, 2, none⟩) (Kd.R_far (p := ⟨gb292, 1, none⟩) (Kd.R_far (p := ⟨gb292, 0, none⟩) (Kd.R_types HO286.out BK292.out (by decide)) (fun _ hk => hk.2) (.slice Ao88 t287.length co88)) (fun _ hk => hk.2) (.string t290)) (fun _ hk => hk.2) (.string t291)) (fun _ h_ => h_.1))) hb); have n1_ := Aside0.mk (Kd.R_below (by (with_reducible repeat (first | apply Kd.R_alloc | apply Kd.R_drewN | apply Kd.R_drew)); exact (Kd.R_mono (Kd.R_far (p := ⟨gb292, 2, none⟩) (Kd.R_far (p := ⟨gb292, 1, none⟩) (Kd.R_far (p := ⟨gb292, 0, none⟩) (Kd.R_types HO289.out BK292.out (by decide)) (fun _ hk => hk.2) (.slice Ao88 t287.length co88)) (fun _ hk => hk.2) (.string t290)) (fun _ hk => hk.2) (.string t291)) (fun _ h_ => h_.1))) hb); have n2_ := Aside0.mk (blk_below (g := gb280) (o := .cells #[.slice A0_0 l0_0.length c0_0, .string a0_1, .string a0_2] 27 (0, 0)) (by (with_reducible repeat (first | refine blk_drewN ?_ _ | refine blk_drew ?_ | refine blk_alloc ?_ _)); refine blk_far ?_ NB280_292.out _; (with_reducible repeat (first | refine blk_drewN ?_ _ | refine blk_drew ?_ | refine blk_alloc ?_ _)); refine blk_far ?_ NB280_292.out _; (with_reducible repeat (first | refine blk_drewN ?_ _ | refine blk_drew ?_ | refine blk_alloc ?_ _)); refine blk_far ?_ NB280_292.out _; (with_reducible repeat (first | refine blk_drewN ?_ _ | refine blk_drew ?_ | refine blk_alloc ?_ _)); exact BK280.out) hb); have n3_ := Aside0.mk (blk_below (g := gb281) (o := .cells #[.slice none 0 0, .string (⟨#[]⟩ : ByteArray), .string (⟨#[]⟩ : ByteArray)] 27 (0, 0)) (by (with_reducible repeat (first | refine blk_drewN ?_ _ | refine blk_drew ?_ | refine blk_alloc ?_ _)); refine blk_far ?_ NB281_292.out _; (with_reducible repeat (first | refine blk_drewN ?_ _ | refine blk_drew ?_ | refine blk_alloc ?_ _)); refine blk_far ?_ NB281_292.out _; (with_reducible repeat (first | refine blk_drewN ?_ _ | refine blk_drew ?_ | refine blk_alloc ?_ _)); refine blk_far ?_ NB281_292.out _; (with_reducible repeat (first | refine blk_drewN ?_ _ | refine blk_drew ?_ | refine blk_alloc ?_ _)); exact BK281.out) hb); have n4_ := Aside0.mk (blk_below (g := gb292) (o := .cells #[.slice Ao88 t287.length co88, .string t290, .string t291] 27 (0, 0)) (by (with_reducible repeat (first | refine blk_drewN ?_ _ | refine blk_drew ?_ | refine blk_alloc ?_ _)); refine blk_put (cs := #[.slice Ao88 t287.length co88, .string t290, .string (⟨#[]⟩ : ByteArray)]) ?_ 2 _ rfl; (with_reducible repeat (first | refine blk_drewN ?_ _ | refine blk_drew ?_ | refine blk_alloc ?_ _)); refine blk_put (cs := #[.slice Ao88 t287.length co88, .string (⟨#[]⟩ : ByteArray), .string (⟨#[]⟩ : ByteArray)]) ?_ 1 _ rfl; (with_reducible repeat (first | refine blk_drewN ?_ _ | refine blk_drew ?_ | refine blk_alloc ?_ _)); refine blk_put (cs := #[.slice none 0 0, .string (⟨#[]⟩ : ByteArray), .string (⟨#[]⟩ : ByteArray)]) ?_ 0 _ rfl; (with_reducible repeat (first | refine blk_drewN ?_ _ | refine blk_drew ?_ | refine blk_alloc ?_ _)); exact BK292.out) hb); have n5_ := Aside0.mk (below_step (by repeat (first | (with_reducible first | exact HB.out | apply below_alloc | apply pw_below_drewN | apply below_drew1 | refine below_set ?_ GE280.out | refine below_set ?_ GE281.out | refine below_set ?_ GE292.out) | exact HB.out)) hb); clear HO286; clear HO289; clear BK280; clear BK281; clear BK292; clear HB; have HO286 := n0_; have HO289 := n1_; have BK280 := n2_; have BK281 := n3_; have BK292 := n4_; have HB := n5_; clear n0_ n1_ n2_ n3_ n4_ n5_; (try clear hb); (try clear hb2); (try clear hk); (try clear hi)))
         have n0_ := Aside0.mk (Kd.R_drew HO286.out)
         have n1_ := Aside0.mk (Kd.R_drew HO289.out)
         have n2_ := Aside0.mk (blk_drew BK280.out)
         have n3_ := Aside0.mk (blk_drew BK281.out)
         have n4_ := Aside0.mk (blk_drew BK292.out)
         have n5_ := Aside0.mk (below_drew1 HB.out)
         clear HO286
         clear HO289
         clear BK280
         clear BK281
         clear BK292
         clear HB
         have HO286 := n0_
         have HO289 := n1_
         have BK280 := n2_
         have BK281 := n3_
         have BK292 := n4_
         have HB := n5_
         clear n0_ n1_ n2_ n3_ n4_ n5_
         refine start_ (n := 9) (S := fun w' => w'.cell? ⟨gb292, 0, none⟩ = some (.slice Ao88 t287.length co88) ∧ w'.cell? ⟨gb292, 1, none⟩ = some (.string t290) ∧ w'.cell? ⟨gb292, 2, none⟩ = some (.string t291) ∧ w'.cell? ⟨gb280, 0, none⟩ = some (.slice A0_0 l0_0.length c0_0) ∧ w'.cell? ⟨gb280, 1, none⟩ = some (.string a0_1) ∧ w'.cell? ⟨gb280, 2, none⟩ = some (.string a0_2)) (ds := [8]) #[false, false, false, false, false, false, false, false, false] (by kernel_rfl) rfl rfl ⟨(blk_cell BK292.out 0).trans rfl, (blk_cell BK292.out 1).trans rfl, (blk_cell BK292.out 2).trans rfl, (blk_cell BK280.out 0).trans rfl, (blk_cell BK280.out 1).trans rfl, (blk_cell BK280.out 2).trans rfl⟩ (fun hHeld => ?_); refine with_tabW impl_RecoverTwo.tab16 impl_RecoverTwo.bits16 (fun HT_ HW_ => ?_)
         generalize w92.drew = w93 at HO286 HO289 BK280 BK281 BK292 HB hHeld ⊢
         refine pure_ (i := 0) (N := some 117) (v := ?_) (a' := ?_) #[true, false, false, false, false, false, false, false, false] rfl rfl (any_of HT_.out (by kernel_rfl)) (fun _ _ _ h => h) (Or.inl ⟨by rfl, ?_⟩) ?_ ?_
         rotate_left
         ·intro w'
          go_simp
          with_reducible rfl
         rotate_left
         ·simp only [Act.put, List.setIfInBounds_toArray, List.set_cons_zero, List.set_cons_succ, i64_w, i32_w]
          rfl
         refine pure_ (i := 2) (N := some 119) (v := ?_) (a' := ?_) #[true, false, true, false, false, false, false, false, false] rfl rfl (any_of HT_.out (by kernel_rfl)) (fun _ _ _ h => h) (Or.inl ⟨by rfl, ?_⟩) ?_ ?_
         rotate_left
         ·intro w'
          go_simp
          with_reducible rfl
         rotate_left
         ·simp only [Act.put, List.setIfInBounds_toArray, List.set_cons_zero, List.set_cons_succ, i64_w, i32_w]
          rfl
         refine pure_ (i := 3) (N := some 120) (v := ?_) (a' := ?_) #[true, false, true, true, false, false, false, false, false] rfl rfl (any_of HT_.out (by kernel_rfl)) (fun _ _ _ h => h) (Or.inl ⟨by rfl, ?_⟩) ?_ ?_
         rotate_left
         ·intro w'
          go_simp
          with_reducible rfl
         rotate_left
         ·simp only [Act.put, List.setIfInBounds_toArray, List.set_cons_zero, List.set_cons_succ, i64_w, i32_w]
          rfl
         refine pure_ (i := 4) (N := some 121) (v := ?_) (a' := ?_) #[true, false, true, true, true, false, false, false, false] rfl rfl (any_of HT_.out (by kernel_rfl)) (fun _ _ _ h => h) (Or.inl ⟨by rfl, ?_⟩) ?_ ?_
         rotate_left
         ·intro w'
          go_simp
          with_reducible rfl
         rotate_left
         ·simp only [Act.put, List.setIfInBounds_toArray, List.set_cons_zero, List.set_cons_succ, i64_w, i32_w]
          rfl
         refine take_ (i := 1) (N := some 118) (v := ?_) (a' := ?_) #[true, true, true, true, true, false, false, false, false] rfl rfl (take_ofW HT_.out HW_.out (by kernel_rfl)) (fun _ _ _ h => h) (Or.inl ⟨by rfl, ?_⟩) hHeld ?_ ?_
         rotate_left
         ·rintro w' ⟨s0, s1, s2, s3, s4, s5⟩
          go_simp
          with_reducible rfl
         rotate_left
         ·simp only [Act.put, List.setIfInBounds_toArray, List.set_cons_zero, List.set_cons_succ, i64_w, i32_w]
          rfl
         refine take_ (i := 5) (N := some 122) (v := ?_) (a' := ?_) #[true, true, true, true, true, true, false, false, false] rfl rfl (take_ofW HT_.out HW_.out (by kernel_rfl)) (fun _ _ _ h => h) (Or.inl ⟨by rfl, ?_⟩) hHeld ?_ ?_
         rotate_left
         ·rintro w' ⟨s0, s1, s2, s3, s4, s5⟩
          go_simp
          with_reducible rfl
         rotate_left
         ·simp only [Act.put, List.setIfInBounds_toArray, List.set_cons_zero, List.set_cons_succ, i64_w, i32_w]
          rfl
         refine one_ (i := 6) (N := some 123) #[true, true, true, true, true, true, true, false, false] rfl rfl (one_of HT_.out (by kernel_rfl)) (by decide) (fun K hK => ?_)
         refine goes_ Try.func57 (by kernel_rfl) rfl #[.string t293, .string a0_1] (by rfl) rfl rfl (by (try simp only [List.map_toArray, List.map_cons, List.map_nil]); first | done | rfl | (simp only [List.length_drop, List.length_take]; rfl)) ?_
         with_reducible refine (impl_xor.calls t293 a0_1 t301 _ A76.out).mono ?_
         rintro e w94 ⟨rfl, hb⟩
         refine ⟨_, rfl, ?_⟩
         have n0_ := Aside0.mk (Kd.R_below (by (with_reducible repeat (first | apply Kd.R_alloc | apply Kd.R_drewN | apply Kd.R_drew)); exact HO286.out) hb)
         have n1_ := Aside0.mk (Kd.R_below (by (with_reducible repeat (first | apply Kd.R_alloc | apply Kd.R_drewN | apply Kd.R_drew)); exact HO289.out) hb)
         have n2_ := Aside0.mk (blk_below (g := gb280) (o := .cells #[.slice A0_0 l0_0.length c0_0, .string a0_1, .string a0_2] 27 (0, 0)) (by (with_reducible repeat (first | refine blk_drewN ?_ _ | refine blk_drew ?_ | refine blk_alloc ?_ _)); exact BK280.out) hb)
         have n3_ := Aside0.mk (blk_below (g := gb281) (o := .cells #[.slice none 0 0, .string (⟨#[]⟩ : ByteArray), .string (⟨#[]⟩ : ByteArray)] 27 (0, 0)) (by (with_reducible repeat (first | refine blk_drewN ?_ _ | refine blk_drew ?_ | refine blk_alloc ?_ _)); exact BK281.out) hb)
         have n4_ := Aside0.mk (blk_below (g := gb292) (o := .cells #[.slice Ao88 t287.length co88, .string t290, .string t291] 27 (0, 0)) (by (with_reducible repeat (first | refine blk_drewN ?_ _ | refine blk_drew ?_ | refine blk_alloc ?_ _)); exact BK292.out) hb)
         have n5_ := Aside0.mk (below_step (by repeat (first | (with_reducible first | exact HB.out | apply below_alloc | apply pw_below_drewN | apply below_drew1 | refine below_set ?_ GE280.out | refine below_set ?_ GE281.out | refine below_set ?_ GE292.out) | exact HB.out)) hb)
         clear HO286
         clear HO289
         clear BK280
         clear BK281
         clear BK292
         clear HB
         have HO286 := n0_
         have HO289 := n1_
         have BK280 := n2_
         have BK281 := n3_
         have BK292 := n4_
         have HB := n5_
         clear n0_ n1_ n2_ n3_ n4_ n5_
         (try clear hb)
         (try clear hb2)
         (try clear hk)
         (try clear hi)
         have p79 : 0 ≤ ((ji27) : Int) := of_decide_eq_true (by first | (with_reducible assumption) | assumption)
         have q79 : ((ji27) : Int) < ((t287.length : Int) : Int) := of_decide_eq_true (by first | (with_reducible assumption) | assumption)
         obtain ⟨go79, co79, eo79, gb79, gl79, cl79, HG79⟩ := Kd.R_form HO289.out (by omega)
         (first | cases eo79 | (injection eo79 with ea_ en_ ec_; (first | subst ea_ | (injection ea_ with ea_; subst ea_)); subst ec_; clear en_))
         have GB79 := Aside0.mk gb79
         have GG79 := Aside0.mk HG79
         clear gb79 gl79 HG79
         obtain ⟨hx79_0, hf79_0⟩ := Kd.R_celln (⟨#[]⟩ : ByteArray) HO289.out ((ji27) : Int) p79 q79
         replace p79 := eq_true p79
         replace q79 := eq_true q79
         have HP95 := Kd.R_putn HO289.out ((ji27) : Int) t301
         rw [← Ny302.out] at HP95
         have HQ95 := Aside0.mk HP95
         clear HP95
         refine hK.out _ _ ⟨(blk_cell BK292.out 0).trans rfl, (blk_cell BK292.out 1).trans rfl, (blk_cell BK292.out 2).trans rfl, (blk_cell BK280.out 0).trans rfl, (blk_cell BK280.out 1).trans rfl, (blk_cell BK280.out 2).trans rfl⟩ (fun hHeld => ?_)
         clear hK K
         refine norm_ (a' := ?_) ?_ ?_
         rotate_left
         ·show Act.put _ (some 123) _ = _
          simp only [Act.put, List.setIfInBounds_toArray, List.set_cons_zero, List.set_cons_succ, i64_w, i32_w]
          rfl
         refine pure_ (i := 7) (N := some 124) (v := ?_) (a' := ?_) #[true, true, true, true, true, true, true, true, false] rfl rfl (any_of HT_.out (by kernel_rfl)) (fun _ _ _ h => h) (Or.inl ⟨by rfl, ?_⟩) ?_ ?_
         rotate_left
         ·intro w'
          go_simp
          with_reducible rfl
         rotate_left
         ·simp only [Act.put, List.setIfInBounds_toArray, List.set_cons_zero, List.set_cons_succ, i64_w, i32_w]
          rfl
         refine last_ (i := 8) (N := none) #[true, true, true, true, true, true, true, true, true] rfl rfl (one_of HT_.out (by kernel_rfl)) (by decide) (fun K hK => ?_)
         refine skip_ (w1 := ?_) (by rfl) rfl ?_ ?_
         rotate_left
         ·go_simp
          rfl
         refine hK.out _ _ ?_
         clear hK K
         refine done_ (done_of HT_.out (by kernel_rfl)) ?_
         have n0_ : Aside0 (Kd.R (Kd.int .i64) 3 (w94.setCell ⟨go79, ((ji27) : Int).toNat, none⟩ (.string t301)) w.heap.size (fun _ => True) (.slice Ao85 y284.length co85) y284) := ⟨by (with_reducible repeat (first | apply Kd.R_alloc | apply Kd.R_drewN | apply Kd.R_drew)); first | exact Kd.R_mono (Kd.R_far (p := ⟨go79, ((ji27) : Int).toNat, none⟩) (Kd.R_types HO286.out GG79.out (by decide)) (fun _ hk => hk.2) (.string t301)) (fun _ hk => trivial) | (obtain ⟨_, _, _, q_, hq_, cl_, HG_⟩ := (Kd.R_bound HO289.out).1 go79 rfl; obtain rfl : q_ = 9 := (by first | exact List.mem_singleton.mp hq_ | simpa using hq_); exact Kd.R_mono (Kd.R_far (p := ⟨go79, ((ji27) : Int).toNat, none⟩) (Kd.R_types HO286.out HG_ (by decide)) (fun _ hk => hk.2) (.string t301)) (fun _ hk => trivial))⟩
         have n1_ : Aside0 (Kd.R Kd.string 9 (w94.setCell ⟨go79, ((ji27) : Int).toNat, none⟩ (.string t301)) w.heap.size (fun _ => True) (.slice (some ⟨go79, 0, none⟩) t287.length co88) y302) := ⟨by (with_reducible repeat (first | apply Kd.R_alloc | apply Kd.R_drewN | apply Kd.R_drew)); exact HQ95.out⟩
         have n2_ : Aside0 ((w94.setCell ⟨go79, ((ji27) : Int).toNat, none⟩ (.string t301)).heap[gb280]? = some (.cells #[.slice A0_0 l0_0.length c0_0, .string a0_1, .string a0_2] 27 (0, 0))) := ⟨by (with_reducible repeat (first | refine blk_drewN ?_ _ | refine blk_drew ?_ | refine blk_alloc ?_ _)); refine blk_far ?_ (by have h_ := Kd.R_ne HO289.out BK280.out (by decide); intro e_; exact h_ (by rw [e_]; rfl)) _; (with_reducible repeat (first | refine blk_drewN ?_ _ | refine blk_drew ?_ | refine blk_alloc ?_ _)); exact BK280.out⟩
         have n3_ : Aside0 ((w94.setCell ⟨go79, ((ji27) : Int).toNat, none⟩ (.string t301)).heap[gb281]? = some (.cells #[.slice none 0 0, .string (⟨#[]⟩ : ByteArray), .string (⟨#[]⟩ : ByteArray)] 27 (0, 0))) := ⟨by (with_reducible repeat (first | refine blk_drewN ?_ _ | refine blk_drew ?_ | refine blk_alloc ?_ _)); refine blk_far ?_ (by have h_ := Kd.R_ne HO289.out BK281.out (by decide); intro e_; exact h_ (by rw [e_]; rfl)) _; (with_reducible repeat (first | refine blk_drewN ?_ _ | refine blk_drew ?_ | refine blk_alloc ?_ _)); exact BK281.out⟩
         have n4_ : Aside0 ((w94.setCell ⟨go79, ((ji27) : Int).toNat, none⟩ (.string t301)).heap[gb292]? = some (.cells #[.slice (some ⟨go79, 0, none⟩) t287.length co88, .string t290, .string t291] 27 (0, 0))) := ⟨by (with_reducible repeat (first | refine blk_drewN ?_ _ | refine blk_drew ?_ | refine blk_alloc ?_ _)); refine blk_far ?_ (by have h_ := Kd.R_ne HO289.out BK292.out (by decide); intro e_; exact h_ (by rw [e_]; rfl)) _; (with_reducible repeat (first | refine blk_drewN ?_ _ | refine blk_drew ?_ | refine blk_alloc ?_ _)); exact BK292.out⟩
         have n5_ : Aside0 (Below w.heap.size w (w94.setCell ⟨go79, ((ji27) : Int).toNat, none⟩ (.string t301))) := ⟨by repeat (first | (with_reducible first | exact HB.out | apply below_alloc | apply pw_below_drewN | apply below_drew1 | refine below_set ?_ GB79.out | refine below_set ?_ GE280.out | refine below_set ?_ GE281.out | refine below_set ?_ GE292.out) | exact HB.out)⟩
         (try clear HO286)
         (try clear HO289)
         (try clear BK280)
         (try clear BK281)
         (try clear BK292)
         (try clear HB)
         generalize (w94.setCell ⟨go79, ((ji27) : Int).toNat, none⟩ (.string t301)) = w96 at n0_ n1_ n2_ n3_ n4_ n5_ ⊢
         have HO286 := n0_
         have HO289 := n1_
         have BK280 := n2_
         have BK281 := n3_
         have BK292 := n4_
         have HB := n5_
         clear n0_ n1_ n2_ n3_ n4_ n5_
         have hcz97_0 : w96.cell? ⟨gb292, 0, none⟩ = some (.slice (some ⟨go79, 0, none⟩) t287.length co88) := (blk_cell BK292.out 0).trans rfl
         have hcz97_1 : w96.cell? ⟨gb292, 1, none⟩ = some (.string t290) := (blk_cell BK292.out 1).trans rfl
         have hcz97_2 : w96.cell? ⟨gb292, 2, none⟩ = some (.string t291) := (blk_cell BK292.out 2).trans rfl
         have hfz97_0 := blk_frozen BK292.out 0
         have hfz97_1 := blk_frozen BK292.out 1
         have hfz97_2 := blk_frozen BK292.out 2
         try go_wp2_with (first | ((with_reducible refine gate_callee (f := 46) rfl ?_); refine goesL_ (some 128) rfl rfl Try.func46 (by kernel_rfl) rfl #[.slice (some ⟨go79, 0, none⟩) y302.length co88] rfl (by (try simp only [List.map_toArray, List.map_cons, List.map_nil]); first | done | (rw [show y302.length = t287.length from (Kd.R_reads' HO289.out).1.symm] <;> rfl) | rfl | (simp only [List.length_drop, List.length_take]; rfl)) ?_; (with_reducible refine (impl_parities.calls kj3 _ _ y302 t303 t304 _ ?side1 ?side2 A80.out).mono ?_); (case side1 => repeat (first | exact (Kd.R_reads' HO289.out).2.2 | (with_reducible refine Kd.C_alloc ?_ _) | (with_reducible refine Kd.C_drewN ?_ _) | (with_reducible refine Kd.C_drew ?_))); (case side2 => rw [show y302.length = t287.length from (Kd.R_reads' HO289.out).1.symm]; exact (Kd.R_reads' HO289.out).2.1); rintro e w98 ⟨rfl, hb⟩; refine ⟨_, rfl, ?_⟩; have n0_ := Aside0.mk (Kd.R_below (by (with_reducible repeat (first | apply Kd.R_alloc | apply Kd.R_drewN | apply Kd.R_drew)); exact HO286.out) hb); have n1_ := Aside0.mk (Kd.R_below (by (with_reducible repeat (first | apply Kd.R_alloc | apply Kd.R_drewN | apply Kd.R_drew)); exact HO289.out) hb); have n2_ := Aside0.mk (blk_below (g := gb280) (o := .cells #[.slice A0_0 l0_0.length c0_0, .string a0_1, .string a0_2] 27 (0, 0)) (by (with_reducible repeat (first | refine blk_drewN ?_ _ | refine blk_drew ?_ | refine blk_alloc ?_ _)); exact BK280.out) hb); have n3_ := Aside0.mk (blk_below (g := gb281) (o := .cells #[.slice none 0 0, .string (⟨#[]⟩ : ByteArray), .string (⟨#[]⟩ : ByteArray)] 27 (0, 0)) (by (with_reducible repeat (first | refine blk_drewN ?_ _ | refine blk_drew ?_ | refine blk_alloc ?_ _)); exact BK281.out) hb); have n4_ := Aside0.mk (blk_below (g := gb292) (o := .cells #[.slice (some ⟨go79, 0, none⟩) t287.length co88, .string t290, .string t291] 27 (0, 0)) (by (with_reducible repeat (first | refine blk_drewN ?_ _ | refine blk_drew ?_ | refine blk_alloc ?_ _)); exact BK292.out) hb); have n5_ := Aside0.mk (below_step (by repeat (first | (with_reducible first | exact HB.out | apply below_alloc | apply pw_below_drewN | apply below_drew1 | refine below_set ?_ GE280.out | refine below_set ?_ GE281.out | refine below_set ?_ GE292.out) | exact HB.out)) hb); clear HO286; clear HO289; clear BK280; clear BK281; clear BK292; clear HB; have HO286 := n0_; have HO289 := n1_; have BK280 := n2_; have BK281 := n3_; have BK292 := n4_; have HB := n5_; clear n0_ n1_ n2_ n3_ n4_ n5_; (try clear hb); (try clear hb2); (try clear hk); (try clear hi); have hcz99_0 : w98.cell? ⟨gb292, 0, none⟩ = some (.slice (some ⟨go79, 0, none⟩) t287.length co88) := (blk_cell BK292.out 0).trans rfl; have hcz99_1 : w98.cell? ⟨gb292, 1, none⟩ = some (.string t290) := (blk_cell BK292.out 1).trans rfl; have hcz99_2 : w98.cell? ⟨gb292, 2, none⟩ = some (.string t291) := (blk_cell BK292.out 2).trans rfl; have hfz99_0 := blk_frozen BK292.out 0; have hfz99_1 := blk_frozen BK292.out 1; have hfz99_2 := blk_frozen BK292.out 2; have hcz100_0 : w98.cell? ⟨gb281, 0, none⟩ = some (.slice none 0 0) := (blk_cell BK281.out 0).trans rfl; have hcz100_1 : w98.cell? ⟨gb281, 1, none⟩ = some (.string (⟨#[]⟩ : ByteArray)) := (blk_cell BK281.out 1).trans rfl; have hcz100_2 : w98.cell? ⟨gb281, 2, none⟩ = some (.string (⟨#[]⟩ : ByteArray)) := (blk_cell BK281.out 2).trans rfl; have hfz100_0 := blk_frozen BK281.out 0; have hfz100_1 := blk_frozen BK281.out 1; have hfz100_2 := blk_frozen BK281.out 2))
         refine bodyPost_ret (results_ct rfl _ _ gb281 27 #[.slice (some ⟨go79, 0, none⟩) t287.length co88, .string t290, .string t304] (0, 0) _ rfl (by (with_reducible repeat (first | refine blk_drewN ?_ _ | refine blk_drew ?_ | refine blk_alloc ?_ _)); refine blk_put (cs := #[.slice (some ⟨go79, 0, none⟩) t287.length co88, .string t290, .string (⟨#[]⟩ : ByteArray)]) ?_ 2 _ rfl; (with_reducible repeat (first | refine blk_drewN ?_ _ | refine blk_drew ?_ | refine blk_alloc ?_ _)); refine blk_put (cs := #[.slice (some ⟨go79, 0, none⟩) t287.length co88, .string (⟨#[]⟩ : ByteArray), .string (⟨#[]⟩ : ByteArray)]) ?_ 1 _ rfl; (with_reducible repeat (first | refine blk_drewN ?_ _ | refine blk_drew ?_ | refine blk_alloc ?_ _)); refine blk_put (cs := #[.slice none 0 0, .string (⟨#[]⟩ : ByteArray), .string (⟨#[]⟩ : ByteArray)]) ?_ 0 _ rfl; (with_reducible repeat (first | refine blk_drewN ?_ _ | refine blk_drew ?_ | refine blk_alloc ?_ _)); refine blk_far ?_ NB281_292.out _; (with_reducible repeat (first | refine blk_drewN ?_ _ | refine blk_drew ?_ | refine blk_alloc ?_ _)); exact BK281.out) Try.underlying27 rfl (by kernel_rfl)) rfl ?_
         exact ⟨_, by first | rfl | (simp [errW_none, errW_some] <;> rfl) | (simp only [← hji27, ← hji28]; first | rfl | (simp [errW_none, errW_some] <;> rfl)) | (simp [*, errW_none, errW_some] <;> rfl), by (with_reducible repeat (first | apply Kd.R_alloc | apply Kd.R_drewN | apply Kd.R_drew)); exact Kd.R_mono (Kd.R_far (p := ⟨gb281, 2, none⟩) (Kd.R_far (p := ⟨gb281, 1, none⟩) (Kd.R_far (p := ⟨gb281, 0, none⟩) (Kd.R_far (p := ⟨gb292, 2, none⟩) (Kd.R_types (Kd.R_types HO289.out BK292.out (by decide)) BK281.out (by decide)) (fun _ hk => hk.1.2) (.string t304)) (fun _ hk => hk.2) (.slice (some ⟨go79, 0, none⟩) t287.length co88)) (fun _ hk => hk.2) (.string t290)) (fun _ hk => hk.2) (.string t304)) (fun _ hk => trivial), by repeat (first | (with_reducible first | exact HB.out | apply below_alloc | apply pw_below_drewN | apply below_drew1 | refine below_set ?_ GE280.out | refine below_set ?_ GE281.out | refine below_set ?_ GE292.out) | exact HB.out)⟩
        ·rw [if_neg c78] at H
         exact absurd H (by simp)
       ·rw [if_neg c77] at H
        exact absurd H (by simp)
      ·rw [if_neg c75] at H
       have c75b0 : ((ji28) == (wrap64 ((l0_0.length : Int) + 1))) = false := beq_eq_false_iff_ne.mpr c75
       have c75b1 : ((ji28) != (wrap64 ((l0_0.length : Int) + 1))) = true := bne_iff_ne.mpr c75
       replace H := Option.bind_eq_some_iff.mp H
       obtain ⟨t305, A1010, H⟩ := H
       replace H : ((impl_xor.f t294 a0_2).bind fun t306 => ((impl_weighed.f kj3 t305 (ji28)).bind fun t307 => ((impl_xor.f t306 t307).bind fun t308 => ((impl_power.f kj3 2 (ji27)).bind fun t309 => ((impl_power.f kj3 2 (ji28)).bind fun t310 => ((impl_divided.f kj3 t308 (Go.bits .xor .u8 t309 t310)).bind fun t311 => (if 0 ≤ (ji27) then (if (ji27) < (t287.length : Int) then ((some (t287.set ((ji27) : Int).toNat t311 : List ByteArray)).bind fun y312 => ((impl_xor.f t305 (rdOf ByteArray.empty y312 (ji27))).bind fun t314 => (if 0 ≤ (ji28) then (if (ji28) < (t287.length : Int) then (some ((y312.set ((ji28) : Int).toNat t314), t290, t291, true)) else (none)) else (none)))) else (none)) else (none)))))))) = some (r1, r2, r3, r4) := H
       have A101 := Aside0.mk A1010
       clear A1010
       replace H := Option.bind_eq_some_iff.mp H
       obtain ⟨t306, A1020, H⟩ := H
       replace H : ((impl_weighed.f kj3 t305 (ji28)).bind fun t307 => ((impl_xor.f t306 t307).bind fun t308 => ((impl_power.f kj3 2 (ji27)).bind fun t309 => ((impl_power.f kj3 2 (ji28)).bind fun t310 => ((impl_divided.f kj3 t308 (Go.bits .xor .u8 t309 t310)).bind fun t311 => (if 0 ≤ (ji27) then (if (ji27) < (t287.length : Int) then ((some (t287.set ((ji27) : Int).toNat t311 : List ByteArray)).bind fun y312 => ((impl_xor.f t305 (rdOf ByteArray.empty y312 (ji27))).bind fun t314 => (if 0 ≤ (ji28) then (if (ji28) < (t287.length : Int) then (some ((y312.set ((ji28) : Int).toNat t314), t290, t291, true)) else (none)) else (none)))) else (none)) else (none))))))) = some (r1, r2, r3, r4) := H
       have A102 := Aside0.mk A1020
       clear A1020
       replace H := Option.bind_eq_some_iff.mp H
       obtain ⟨t307, A1030, H⟩ := H
       replace H : ((impl_xor.f t306 t307).bind fun t308 => ((impl_power.f kj3 2 (ji27)).bind fun t309 => ((impl_power.f kj3 2 (ji28)).bind fun t310 => ((impl_divided.f kj3 t308 (Go.bits .xor .u8 t309 t310)).bind fun t311 => (if 0 ≤ (ji27) then (if (ji27) < (t287.length : Int) then ((some (t287.set ((ji27) : Int).toNat t311 : List ByteArray)).bind fun y312 => ((impl_xor.f t305 (rdOf ByteArray.empty y312 (ji27))).bind fun t314 => (if 0 ≤ (ji28) then (if (ji28) < (t287.length : Int) then (some ((y312.set ((ji28) : Int).toNat t314), t290, t291, true)) else (none)) else (none)))) else (none)) else (none)))))) = some (r1, r2, r3, r4) := H
       have A103 := Aside0.mk A1030
       clear A1030
       replace H := Option.bind_eq_some_iff.mp H
       obtain ⟨t308, A1040, H⟩ := H
       replace H : ((impl_power.f kj3 2 (ji27)).bind fun t309 => ((impl_power.f kj3 2 (ji28)).bind fun t310 => ((impl_divided.f kj3 t308 (Go.bits .xor .u8 t309 t310)).bind fun t311 => (if 0 ≤ (ji27) then (if (ji27) < (t287.length : Int) then ((some (t287.set ((ji27) : Int).toNat t311 : List ByteArray)).bind fun y312 => ((impl_xor.f t305 (rdOf ByteArray.empty y312 (ji27))).bind fun t314 => (if 0 ≤ (ji28) then (if (ji28) < (t287.length : Int) then (some ((y312.set ((ji28) : Int).toNat t314), t290, t291, true)) else (none)) else (none)))) else (none)) else (none))))) = some (r1, r2, r3, r4) := H
       have A104 := Aside0.mk A1040
       clear A1040
       replace H := Option.bind_eq_some_iff.mp H
       obtain ⟨t309, A1050, H⟩ := H
       replace H : ((impl_power.f kj3 2 (ji28)).bind fun t310 => ((impl_divided.f kj3 t308 (Go.bits .xor .u8 t309 t310)).bind fun t311 => (if 0 ≤ (ji27) then (if (ji27) < (t287.length : Int) then ((some (t287.set ((ji27) : Int).toNat t311 : List ByteArray)).bind fun y312 => ((impl_xor.f t305 (rdOf ByteArray.empty y312 (ji27))).bind fun t314 => (if 0 ≤ (ji28) then (if (ji28) < (t287.length : Int) then (some ((y312.set ((ji28) : Int).toNat t314), t290, t291, true)) else (none)) else (none)))) else (none)) else (none)))) = some (r1, r2, r3, r4) := H
       have A105 := Aside0.mk A1050
       clear A1050
       replace H := Option.bind_eq_some_iff.mp H
       obtain ⟨t310, A1060, H⟩ := H
       replace H : ((impl_divided.f kj3 t308 (Go.bits .xor .u8 t309 t310)).bind fun t311 => (if 0 ≤ (ji27) then (if (ji27) < (t287.length : Int) then ((some (t287.set ((ji27) : Int).toNat t311 : List ByteArray)).bind fun y312 => ((impl_xor.f t305 (rdOf ByteArray.empty y312 (ji27))).bind fun t314 => (if 0 ≤ (ji28) then (if (ji28) < (t287.length : Int) then (some ((y312.set ((ji28) : Int).toNat t314), t290, t291, true)) else (none)) else (none)))) else (none)) else (none))) = some (r1, r2, r3, r4) := H
       have A106 := Aside0.mk A1060
       clear A1060
       replace H := Option.bind_eq_some_iff.mp H
       obtain ⟨t311, A1070, H⟩ := H
       replace H : (if 0 ≤ (ji27) then (if (ji27) < (t287.length : Int) then ((some (t287.set ((ji27) : Int).toNat t311 : List ByteArray)).bind fun y312 => ((impl_xor.f t305 (rdOf ByteArray.empty y312 (ji27))).bind fun t314 => (if 0 ≤ (ji28) then (if (ji28) < (t287.length : Int) then (some ((y312.set ((ji28) : Int).toNat t314), t290, t291, true)) else (none)) else (none)))) else (none)) else (none)) = some (r1, r2, r3, r4) := H
       have A107 := Aside0.mk A1070
       clear A1070
       by_cases c108 : 0 ≤ (ji27)
       ·rw [if_pos c108] at H
        have c108b0 : decide (0 ≤ (ji27)) = true := decide_eq_true c108
        clear c108
        by_cases c109 : (ji27) < (t287.length : Int)
        ·rw [if_pos c109] at H
         have c109b0 : decide ((ji27) < (t287.length : Int)) = true := decide_eq_true c109
         clear c109
         obtain ⟨y312, hy312⟩ : ∃ y_ : List ByteArray, y_ = (t287.set ((ji27) : Int).toNat t311) := ⟨_, rfl⟩
         replace H : ((impl_xor.f t305 (rdOf ByteArray.empty y312 (ji27))).bind fun t314 => (if 0 ≤ (ji28) then (if (ji28) < (t287.length : Int) then (some ((y312.set ((ji28) : Int).toNat t314), t290, t291, true)) else (none)) else (none))) = some (r1, r2, r3, r4) := by first | (rw [hy312]; with_reducible exact H) | (have H2_ := (Option.bind_some _ _).symm.trans H; rw [hy312]; with_reducible exact H2_) | (have H2_ := (Option.bind_some _ _).symm.trans H; with_reducible exact H2_) | with_reducible exact H | (rw [hy312]; exact H) | exact H
         have Ny312 := Aside0.mk hy312
         clear hy312
         replace H := Option.bind_eq_some_iff.mp H
         obtain ⟨t314, A1110, H⟩ := H
         replace H : (if 0 ≤ (ji28) then (if (ji28) < (t287.length : Int) then (some ((y312.set ((ji28) : Int).toNat t314), t290, t291, true)) else (none)) else (none)) = some (r1, r2, r3, r4) := H
         have A111 := Aside0.mk A1110
         clear A1110
         by_cases c112 : 0 ≤ (ji28)
         ·rw [if_pos c112] at H
          have c112b0 : decide (0 ≤ (ji28)) = true := decide_eq_true c112
          clear c112
          by_cases c113 : (ji28) < (t287.length : Int)
          ·rw [if_pos c113] at H
           have c113b0 : decide ((ji28) < (t287.length : Int)) = true := decide_eq_true c113
           clear c113
           obtain ⟨y315, hy315⟩ : ∃ y_ : List ByteArray, y_ = (y312.set ((ji28) : Int).toNat t314) := ⟨_, rfl⟩
           replace H : (some (y315, t290, t291, true)) = some (r1, r2, r3, r4) := by first | (rw [hy315]; with_reducible exact H) | (have H2_ := (Option.bind_some _ _).symm.trans H; rw [hy315]; with_reducible exact H2_) | (have H2_ := (Option.bind_some _ _).symm.trans H; with_reducible exact H2_) | with_reducible exact H | (rw [hy315]; exact H) | exact H
           have Ny315 := Aside0.mk hy315
           clear hy315
           simp only [Option.some.injEq, Prod.mk.injEq] at H
           obtain ⟨rfl, rfl, rfl, rfl⟩ := H
           have hnb115 := NB280_281.out
           have hnc115 := NB281_280.out
           have hcz116_0 : wc.cell? ⟨gb280, 0, none⟩ = some (.slice A0_0 l0_0.length c0_0) := (blk_cell BK280.out 0).trans rfl
           have hcz116_1 : wc.cell? ⟨gb280, 1, none⟩ = some (.string a0_1) := (blk_cell BK280.out 1).trans rfl
           have hcz116_2 : wc.cell? ⟨gb280, 2, none⟩ = some (.string a0_2) := (blk_cell BK280.out 2).trans rfl
           have hfz116_0 := blk_frozen BK280.out 0
           have hfz116_1 := blk_frozen BK280.out 1
           have hfz116_2 := blk_frozen BK280.out 2
           try go_wp2_with (first | ((with_reducible refine gate_dst (N := 41) rfl ?_); refine Kd.R_lit (Kd.int .i64) _ 3 ?hg (N := 41) ?hd (xs := ([ji27, ji28] : List Int)) (inner := [.int .i64 ji27, .int .i64 ji28]) (ok := fun _ => True) (okp := fun _ => True) ?hr ?hp (fun _ hk => hk) trivial (Below.refl _ _) (Nat.le_refl _) (by simp) ?_; (case hd => rfl); (case hg => rfl); (case hr => first | (go_simp; done) | (go_simp; rfl)); (case hp => exact (Reps.one (show Kd.M (Kd.int .i64) _ _ _ ji27 [.int .i64 ji27] from rfl) (Reps.one (show Kd.M (Kd.int .i64) _ _ _ ji28 [.int .i64 ji28] from rfl) (Reps.none _ _)))); intro v285 w117 ho118 hb hg_ hnew_; clear hg_ hnew_; (first | rw [← Ny284.out] at ho118 | (simp only [Int.reduceToNat] at ho118; rw [← Ny284.out] at ho118)); have n0_ := Aside0.mk (Kd.R_lower ho118 (below_size (by repeat (first | (with_reducible first | exact HB.out | apply below_alloc | apply pw_below_drewN | apply below_drew1 | refine below_set ?_ GE280.out | refine below_set ?_ GE281.out) | exact HB.out)))); have n1_ := Aside0.mk (blk_below (g := gb280) (o := .cells #[.slice A0_0 l0_0.length c0_0, .string a0_1, .string a0_2] 27 (0, 0)) (by (with_reducible repeat (first | refine blk_drewN ?_ _ | refine blk_drew ?_ | refine blk_alloc ?_ _)); exact BK280.out) hb); have n2_ := Aside0.mk (blk_below (g := gb281) (o := .cells #[.slice none 0 0, .string (⟨#[]⟩ : ByteArray), .string (⟨#[]⟩ : ByteArray)] 27 (0, 0)) (by (with_reducible repeat (first | refine blk_drewN ?_ _ | refine blk_drew ?_ | refine blk_alloc ?_ _)); exact BK281.out) hb); have n3_ := Aside0.mk (below_step (by repeat (first | (with_reducible first | exact HB.out | apply below_alloc | apply pw_below_drewN | apply below_drew1 | refine below_set ?_ GE280.out | refine below_set ?_ GE281.out) | exact HB.out)) hb); clear BK280; clear BK281; clear HB; have HO286 := n0_; have BK280 := n1_; have BK281 := n2_; have HB := n3_; clear n0_ n1_ n2_ n3_; clear hb ho118; obtain ⟨Ao119, co119, eo119⟩ := Kd.R_slice HO286.out; subst eo119) | ((with_reducible refine gate_callee (f := 56) rfl ?_); refine goesL_ (some 42) rfl rfl Try.func56 (by kernel_rfl) rfl #[.agg #[.slice A0_0 l0_0.length c0_0, .string a0_1, .string a0_2], .slice Ao119 y284.length co119] rfl (by (try simp only [List.map_toArray, List.map_cons, List.map_nil]); first | done | rfl | (simp only [List.length_drop, List.length_take]; rfl)) ?_; (with_reducible refine (impl_without.calls kj3 _ _ l0_0 a0_1 a0_2 _ _ y284 t287 t290 t291 _ ?side1 ?side2 ?side3 ?side4 A29.out).mono ?_); (case side1 => repeat (first | exact (Kd.C_below HR0_0.out HB.out) | (with_reducible refine Kd.C_alloc ?_ _) | (with_reducible refine Kd.C_drewN ?_ _) | (with_reducible refine Kd.C_drew ?_))); (case side2 => exact HC0_0.out); (case side3 => repeat (first | exact (Kd.R_reads' HO286.out).2.2 | (with_reducible refine Kd.C_alloc ?_ _) | (with_reducible refine Kd.C_drewN ?_ _) | (with_reducible refine Kd.C_drew ?_))); (case side4 => exact (Kd.R_reads' HO286.out).2.1); rintro e w120 ⟨v288, rfl, ho0, hb⟩; refine ⟨_, rfl, ?_⟩; have n0_ := Aside0.mk (Kd.R_below (by (with_reducible repeat (first | apply Kd.R_alloc | apply Kd.R_drewN | apply Kd.R_drew)); exact HO286.out) hb); have n1_ := Aside0.mk (Kd.R_lower ho0 (below_size (by repeat (first | (with_reducible first | exact HB.out | apply below_alloc | apply pw_below_drewN | apply below_drew1 | refine below_set ?_ GE280.out | refine below_set ?_ GE281.out) | exact HB.out)))); have n2_ := Aside0.mk (blk_below (g := gb280) (o := .cells #[.slice A0_0 l0_0.length c0_0, .string a0_1, .string a0_2] 27 (0, 0)) (by (with_reducible repeat (first | refine blk_drewN ?_ _ | refine blk_drew ?_ | refine blk_alloc ?_ _)); exact BK280.out) hb); have n3_ := Aside0.mk (blk_below (g := gb281) (o := .cells #[.slice none 0 0, .string (⟨#[]⟩ : ByteArray), .string (⟨#[]⟩ : ByteArray)] 27 (0, 0)) (by (with_reducible repeat (first | refine blk_drewN ?_ _ | refine blk_drew ?_ | refine blk_alloc ?_ _)); exact BK281.out) hb); have n4_ := Aside0.mk (below_step (by repeat (first | (with_reducible first | exact HB.out | apply below_alloc | apply pw_below_drewN | apply below_drew1 | refine below_set ?_ GE280.out | refine below_set ?_ GE281.out) | exact HB.out)) hb); clear HO286; clear BK280; clear BK281; clear HB; have HO286 := n0_; have HO289 := n1_; have BK280 := n2_; have BK281 := n3_; have HB := n4_; clear n0_ n1_ n2_ n3_ n4_; (try clear hb); (try clear hb2); (try clear hk); (try clear hi); (try clear ho0)) | ((with_reducible refine gate_dst (N := 9) rfl ?_); refine box_event ?hg (N := 9) ?hd (cs := #[.slice none 0 0, .string (⟨#[]⟩ : ByteArray), .string (⟨#[]⟩ : ByteArray)]) (t := 27) ?hr ?_; (case hd => rfl); (case hg => rfl); (case hr => first | (go_simp; done) | (go_simp; rfl)); intro gb292 hg w121 hbox hb; have n0_ := Aside0.mk (Kd.R_below (by (with_reducible repeat (first | apply Kd.R_alloc | apply Kd.R_drewN | apply Kd.R_drew)); exact HO286.out) hb); have n1_ := Aside0.mk (Kd.R_below (by (with_reducible repeat (first | apply Kd.R_alloc | apply Kd.R_drewN | apply Kd.R_drew)); exact HO289.out) hb); have n2_ := Aside0.mk (blk_below (g := gb280) (o := .cells #[.slice A0_0 l0_0.length c0_0, .string a0_1, .string a0_2] 27 (0, 0)) (by (with_reducible repeat (first | refine blk_drewN ?_ _ | refine blk_drew ?_ | refine blk_alloc ?_ _)); exact BK280.out) hb); have n3_ := Aside0.mk (blk_below (g := gb281) (o := .cells #[.slice none 0 0, .string (⟨#[]⟩ : ByteArray), .string (⟨#[]⟩ : ByteArray)] 27 (0, 0)) (by (with_reducible repeat (first | refine blk_drewN ?_ _ | refine blk_drew ?_ | refine blk_alloc ?_ _)); exact BK281.out) hb); have n4_ := Aside0.mk (below_step (by repeat (first | (with_reducible first | exact HB.out | apply below_alloc | apply pw_below_drewN | apply below_drew1 | refine below_set ?_ GE280.out | refine below_set ?_ GE281.out) | exact HB.out)) hb); have n5_ := Aside0.mk (hbox); have n6_ := Aside0.mk ((by rw [hg]; exact (below_size (by repeat (first | (with_reducible first | exact HB.out | apply below_alloc | apply pw_below_drewN | apply below_drew1 | refine below_set ?_ GE280.out | refine below_set ?_ GE281.out) | exact HB.out))) : w.heap.size ≤ gb292)); have n7_ := Aside0.mk ((by rw [hg]; exact (below_size (by repeat (first | (with_reducible first | exact HB.out | apply below_alloc | apply pw_below_drewN | apply below_drew1 | refine below_set ?_ GE280.out | refine below_set ?_ GE281.out) | exact HB.out))) : w.heap.size ≤ gb292)); have n8_ := Aside0.mk ((by rw [hg]; exact Nat.ne_of_lt (blk_lt (g := gb280) (o := .cells #[.slice A0_0 l0_0.length c0_0, .string a0_1, .string a0_2] 27 (0, 0)) (by (with_reducible repeat (first | refine blk_drewN ?_ _ | refine blk_drew ?_ | refine blk_alloc ?_ _)); exact BK280.out)) : gb280 ≠ gb292)); have n9_ := Aside0.mk ((by rw [hg]; exact Nat.ne_of_gt (blk_lt (g := gb280) (o := .cells #[.slice A0_0 l0_0.length c0_0, .string a0_1, .string a0_2] 27 (0, 0)) (by (with_reducible repeat (first | refine blk_drewN ?_ _ | refine blk_drew ?_ | refine blk_alloc ?_ _)); exact BK280.out)) : gb292 ≠ gb280)); have n10_ := Aside0.mk ((by rw [hg]; exact Nat.ne_of_lt (blk_lt (g := gb281) (o := .cells #[.slice none 0 0, .string (⟨#[]⟩ : ByteArray), .string (⟨#[]⟩ : ByteArray)] 27 (0, 0)) (by (with_reducible repeat (first | refine blk_drewN ?_ _ | refine blk_drew ?_ | refine blk_alloc ?_ _)); exact BK281.out)) : gb281 ≠ gb292)); have n11_ := Aside0.mk ((by rw [hg]; exact Nat.ne_of_gt (blk_lt (g := gb281) (o := .cells #[.slice none 0 0, .string (⟨#[]⟩ : ByteArray), .string (⟨#[]⟩ : ByteArray)] 27 (0, 0)) (by (with_reducible repeat (first | refine blk_drewN ?_ _ | refine blk_drew ?_ | refine blk_alloc ?_ _)); exact BK281.out)) : gb292 ≠ gb281)); clear HO286; clear HO289; clear BK280; clear BK281; clear HB; have HO286 := n0_; have HO289 := n1_; have BK280 := n2_; have BK281 := n3_; have HB := n4_; have BK292 := n5_; have GW292 := n6_; have GE292 := n7_; have NB280_292 := n8_; have NB292_280 := n9_; have NB281_292 := n10_; have NB292_281 := n11_; clear n0_ n1_ n2_ n3_ n4_ n5_ n6_ n7_ n8_ n9_ n10_ n11_; clear hb hbox hg; obtain ⟨Ao122, co122, eo122⟩ := Kd.R_slice HO289.out; subst eo122; have hnb123 := NB292_280.out; have hnc123 := NB280_292.out; have hnb124 := NB292_281.out; have hnc124 := NB281_292.out; have hcz125_0 : w121.cell? ⟨gb292, 0, none⟩ = some (.slice none 0 0) := (blk_cell BK292.out 0).trans rfl; have hcz125_1 : w121.cell? ⟨gb292, 1, none⟩ = some (.string (⟨#[]⟩ : ByteArray)) := (blk_cell BK292.out 1).trans rfl; have hcz125_2 : w121.cell? ⟨gb292, 2, none⟩ = some (.string (⟨#[]⟩ : ByteArray)) := (blk_cell BK292.out 2).trans rfl; have hfz125_0 := blk_frozen BK292.out 0; have hfz125_1 := blk_frozen BK292.out 1; have hfz125_2 := blk_frozen BK292.out 2) | ((with_reducible refine gate_callee (f := 46) rfl ?_); refine goesL_ (some 46) rfl rfl Try.func46 (by kernel_rfl) rfl #[.slice Ao122 t287.length co122] rfl (by (try simp only [List.map_toArray, List.map_cons, List.map_nil]); first | done | rfl | (simp only [List.length_drop, List.length_take]; rfl)) ?_; (with_reducible refine (impl_parities.calls kj3 _ _ t287 t293 t294 _ ?side1 ?side2 A30.out).mono ?_); (case side1 => refine (Kd.R_reads' (e := 9) (base := w.heap.size) (ok := fun k_ => True) (n := t287.length) (c := co122) ?_).2.2; exact (by (with_reducible repeat (first | apply Kd.R_alloc | apply Kd.R_drewN | apply Kd.R_drew)); exact (Kd.R_mono (Kd.R_far (p := ⟨gb292, 2, none⟩) (Kd.R_far (p := ⟨gb292, 1, none⟩) (Kd.R_far (p := ⟨gb292, 0, none⟩) (Kd.R_types HO289.out BK292.out (by decide)) (fun _ hk => hk.2) (.slice Ao122 t287.length co122)) (fun _ hk => hk.2) (.string t290)) (fun _ hk => hk.2) (.string t291)) (fun _ h_ => h_.1)))); (case side2 => exact (Kd.R_reads' HO289.out).2.1); rintro e w126 ⟨rfl, hb⟩; refine ⟨_, rfl, ?_⟩; have n0_ := Aside0.mk (Kd.R_below (by (with_reducible repeat (first | apply Kd.R_alloc | apply Kd.R_drewN | apply Kd.R_drew)); exact (Kd.R_mono (Kd.R_far (p := ⟨gb292, 2, none⟩) (Kd.R_far (p := ⟨gb292, 1, none⟩) (Kd.R_far (p := ⟨gb292, 0, none⟩) (Kd.R_types HO286.out BK292.out (by decide)) (fun _ hk => hk.2) (.slice Ao122 t287.length co122)) (fun _ hk => hk.2) (.string t290)) (fun _ hk => hk.2) (.string t291)) (fun _ h_ => h_.1))) hb); have n1_ := Aside0.mk (Kd.R_below (by (with_reducible repeat (first | apply Kd.R_alloc | apply Kd.R_drewN | apply Kd.R_drew)); exact (Kd.R_mono (Kd.R_far (p := ⟨gb292, 2, none⟩) (Kd.R_far (p := ⟨gb292, 1, none⟩) (Kd.R_far (p := ⟨gb292, 0, none⟩) (Kd.R_types HO289.out BK292.out (by decide)) (fun _ hk => hk.2) (.slice Ao122 t287.length co122)) (fun _ hk => hk.2) (.string t290)) (fun _ hk => hk.2) (.string t291)) (fun _ h_ => h_.1))) hb); have n2_ := Aside0.mk (blk_below (g := gb280) (o := .cells #[.slice A0_0 l0_0.length c0_0, .string a0_1, .string a0_2] 27 (0, 0)) (by (with_reducible repeat (first | refine blk_drewN ?_ _ | refine blk_drew ?_ | refine blk_alloc ?_ _)); refine blk_far ?_ NB280_292.out _; (with_reducible repeat (first | refine blk_drewN ?_ _ | refine blk_drew ?_ | refine blk_alloc ?_ _)); refine blk_far ?_ NB280_292.out _; (with_reducible repeat (first | refine blk_drewN ?_ _ | refine blk_drew ?_ | refine blk_alloc ?_ _)); refine blk_far ?_ NB280_292.out _; (with_reducible repeat (first | refine blk_drewN ?_ _ | refine blk_drew ?_ | refine blk_alloc ?_ _)); exact BK280.out) hb); have n3_ := Aside0.mk (blk_below (g := gb281) (o := .cells #[.slice none 0 0, .string (⟨#[]⟩ : ByteArray), .string (⟨#[]⟩ : ByteArray)] 27 (0, 0)) (by (with_reducible repeat (first | refine blk_drewN ?_ _ | refine blk_drew ?_ | refine blk_alloc ?_ _)); refine blk_far ?_ NB281_292.out _; (with_reducible repeat (first | refine blk_drewN ?_ _ | refine blk_drew ?_ | refine blk_alloc ?_ _)); refine blk_far ?_ NB281_292.out _; (with_reducible repeat (first | refine blk_drewN ?_ _ | refine blk_drew ?_ | refine blk_alloc ?_ _)); refine blk_far ?_ NB281_292.out _; (with_reducible repeat (first | refine blk_drewN ?_ _ | refine blk_drew ?_ | refine blk_alloc ?_ _)); exact BK281.out) hb); have n4_ := Aside0.mk (blk_below (g := gb292) (o := .cells #[.slice Ao122 t287.length co122, .string t290, .string t291] 27 (0, 0)) (by (with_reducible repeat (first | refine blk_drewN ?_ _ | refine blk_drew ?_ | refine blk_alloc ?_ _)); refine blk_put (cs := #[.slice Ao122 t287.length co122, .string t290, .string (⟨#[]⟩ : ByteArray)]) ?_ 2 _ rfl; (with_reducible repeat (first | refine blk_drewN ?_ _ | refine blk_drew ?_ | refine blk_alloc ?_ _)); refine blk_put (cs := #[.slice Ao122 t287.length co122, .string (⟨#[]⟩ : ByteArray), .string (⟨#[]⟩ : ByteArray)]) ?_ 1 _ rfl; (with_reducible repeat (first | refine blk_drewN ?_ _ | refine blk_drew ?_ | refine blk_alloc ?_ _)); refine blk_put (cs := #[.slice none 0 0, .string (⟨#[]⟩ : ByteArray), .string (⟨#[]⟩ : ByteArray)]) ?_ 0 _ rfl; (with_reducible repeat (first | refine blk_drewN ?_ _ | refine blk_drew ?_ | refine blk_alloc ?_ _)); exact BK292.out) hb); have n5_ := Aside0.mk (below_step (by repeat (first | (with_reducible first | exact HB.out | apply below_alloc | apply pw_below_drewN | apply below_drew1 | refine below_set ?_ GE280.out | refine below_set ?_ GE281.out | refine below_set ?_ GE292.out) | exact HB.out)) hb); clear HO286; clear HO289; clear BK280; clear BK281; clear BK292; clear HB; have HO286 := n0_; have HO289 := n1_; have BK280 := n2_; have BK281 := n3_; have BK292 := n4_; have HB := n5_; clear n0_ n1_ n2_ n3_ n4_ n5_; (try clear hb); (try clear hb2); (try clear hk); (try clear hi); have hcz127_0 : w126.cell? ⟨gb280, 0, none⟩ = some (.slice A0_0 l0_0.length c0_0) := (blk_cell BK280.out 0).trans rfl; have hcz127_1 : w126.cell? ⟨gb280, 1, none⟩ = some (.string a0_1) := (blk_cell BK280.out 1).trans rfl; have hcz127_2 : w126.cell? ⟨gb280, 2, none⟩ = some (.string a0_2) := (blk_cell BK280.out 2).trans rfl; have hfz127_0 := blk_frozen BK280.out 0; have hfz127_1 := blk_frozen BK280.out 1; have hfz127_2 := blk_frozen BK280.out 2) | ((with_reducible refine gate_callee (f := 57) rfl ?_); refine goesL_ (some 52) rfl rfl Try.func57 (by kernel_rfl) rfl #[.string t293, .string a0_1] rfl (by (try simp only [List.map_toArray, List.map_cons, List.map_nil]); first | done | rfl | (simp only [List.length_drop, List.length_take]; rfl)) ?_; (with_reducible refine (impl_xor.calls t293 a0_1 t305 _ A101.out).mono ?_); rintro e w128 ⟨rfl, hb⟩; refine ⟨_, rfl, ?_⟩; have n0_ := Aside0.mk (Kd.R_below (by (with_reducible repeat (first | apply Kd.R_alloc | apply Kd.R_drewN | apply Kd.R_drew)); exact HO286.out) hb); have n1_ := Aside0.mk (Kd.R_below (by (with_reducible repeat (first | apply Kd.R_alloc | apply Kd.R_drewN | apply Kd.R_drew)); exact HO289.out) hb); have n2_ := Aside0.mk (blk_below (g := gb280) (o := .cells #[.slice A0_0 l0_0.length c0_0, .string a0_1, .string a0_2] 27 (0, 0)) (by (with_reducible repeat (first | refine blk_drewN ?_ _ | refine blk_drew ?_ | refine blk_alloc ?_ _)); exact BK280.out) hb); have n3_ := Aside0.mk (blk_below (g := gb281) (o := .cells #[.slice none 0 0, .string (⟨#[]⟩ : ByteArray), .string (⟨#[]⟩ : ByteArray)] 27 (0, 0)) (by (with_reducible repeat (first | refine blk_drewN ?_ _ | refine blk_drew ?_ | refine blk_alloc ?_ _)); exact BK281.out) hb); have n4_ := Aside0.mk (blk_below (g := gb292) (o := .cells #[.slice Ao122 t287.length co122, .string t290, .string t291] 27 (0, 0)) (by (with_reducible repeat (first | refine blk_drewN ?_ _ | refine blk_drew ?_ | refine blk_alloc ?_ _)); exact BK292.out) hb); have n5_ := Aside0.mk (below_step (by repeat (first | (with_reducible first | exact HB.out | apply below_alloc | apply pw_below_drewN | apply below_drew1 | refine below_set ?_ GE280.out | refine below_set ?_ GE281.out | refine below_set ?_ GE292.out) | exact HB.out)) hb); clear HO286; clear HO289; clear BK280; clear BK281; clear BK292; clear HB; have HO286 := n0_; have HO289 := n1_; have BK280 := n2_; have BK281 := n3_; have BK292 := n4_; have HB := n5_; clear n0_ n1_ n2_ n3_ n4_ n5_; (try clear hb); (try clear hb2); (try clear hk); (try clear hi)))
           have n0_ := Aside0.mk (Kd.R_drew HO286.out)
           have n1_ := Aside0.mk (Kd.R_drew HO289.out)
           have n2_ := Aside0.mk (blk_drew BK280.out)
           have n3_ := Aside0.mk (blk_drew BK281.out)
           have n4_ := Aside0.mk (blk_drew BK292.out)
           have n5_ := Aside0.mk (below_drew1 HB.out)
           clear HO286
           clear HO289
           clear BK280
           clear BK281
           clear BK292
           clear HB
           have HO286 := n0_
           have HO289 := n1_
           have BK280 := n2_
           have BK281 := n3_
           have BK292 := n4_
           have HB := n5_
           clear n0_ n1_ n2_ n3_ n4_ n5_
           refine start_ (n := 19) (S := fun w' => w'.cell? ⟨gb292, 0, none⟩ = some (.slice Ao122 t287.length co122) ∧ w'.cell? ⟨gb292, 1, none⟩ = some (.string t290) ∧ w'.cell? ⟨gb292, 2, none⟩ = some (.string t291) ∧ w'.cell? ⟨gb280, 0, none⟩ = some (.slice A0_0 l0_0.length c0_0) ∧ w'.cell? ⟨gb280, 1, none⟩ = some (.string a0_1) ∧ w'.cell? ⟨gb280, 2, none⟩ = some (.string a0_2)) (ds := [18]) #[false, false, false, false, false, false, false, false, false, false, false, false, false, false, false, false, false, false, false] (by kernel_rfl) rfl rfl ⟨(blk_cell BK292.out 0).trans rfl, (blk_cell BK292.out 1).trans rfl, (blk_cell BK292.out 2).trans rfl, (blk_cell BK280.out 0).trans rfl, (blk_cell BK280.out 1).trans rfl, (blk_cell BK280.out 2).trans rfl⟩ (fun hHeld => ?_); refine with_tabW impl_RecoverTwo.tab8 impl_RecoverTwo.bits8 (fun HT_ HW_ => ?_)
           generalize w128.drew = w129 at HO286 HO289 BK280 BK281 BK292 HB hHeld ⊢
           refine pure_ (i := 0) (N := some 53) (v := ?_) (a' := ?_) #[true, false, false, false, false, false, false, false, false, false, false, false, false, false, false, false, false, false, false] rfl rfl (any_of HT_.out (by kernel_rfl)) (fun _ _ _ h => h) (Or.inl ⟨by rfl, ?_⟩) ?_ ?_
           rotate_left
           ·intro w'
            go_simp
            with_reducible rfl
           rotate_left
           ·simp only [Act.put, List.setIfInBounds_toArray, List.set_cons_zero, List.set_cons_succ, i64_w, i32_w]
            rfl
           refine pure_ (i := 2) (N := some 55) (v := ?_) (a' := ?_) #[true, false, true, false, false, false, false, false, false, false, false, false, false, false, false, false, false, false, false] rfl rfl (any_of HT_.out (by kernel_rfl)) (fun _ _ _ h => h) (Or.inl ⟨by rfl, ?_⟩) ?_ ?_
           rotate_left
           ·intro w'
            go_simp
            with_reducible rfl
           rotate_left
           ·simp only [Act.put, List.setIfInBounds_toArray, List.set_cons_zero, List.set_cons_succ, i64_w, i32_w]
            rfl
           refine pure_ (i := 3) (N := some 56) (v := ?_) (a' := ?_) #[true, false, true, true, false, false, false, false, false, false, false, false, false, false, false, false, false, false, false] rfl rfl (any_of HT_.out (by kernel_rfl)) (fun _ _ _ h => h) (Or.inl ⟨by rfl, ?_⟩) ?_ ?_
           rotate_left
           ·intro w'
            go_simp
            with_reducible rfl
           rotate_left
           ·simp only [Act.put, List.setIfInBounds_toArray, List.set_cons_zero, List.set_cons_succ, i64_w, i32_w]
            rfl
           refine pure_ (i := 4) (N := some 57) (v := ?_) (a' := ?_) #[true, false, true, true, true, false, false, false, false, false, false, false, false, false, false, false, false, false, false] rfl rfl (any_of HT_.out (by kernel_rfl)) (fun _ _ _ h => h) (Or.inl ⟨by rfl, ?_⟩) ?_ ?_
           rotate_left
           ·intro w'
            go_simp
            with_reducible rfl
           rotate_left
           ·simp only [Act.put, List.setIfInBounds_toArray, List.set_cons_zero, List.set_cons_succ, i64_w, i32_w]
            rfl
           refine pure_ (i := 7) (N := some 60) (v := ?_) (a' := ?_) #[true, false, true, true, true, false, false, true, false, false, false, false, false, false, false, false, false, false, false] rfl rfl (any_of HT_.out (by kernel_rfl)) (fun _ _ _ h => h) (Or.inl ⟨by rfl, ?_⟩) ?_ ?_
           rotate_left
           ·intro w'
            go_simp
            with_reducible rfl
           rotate_left
           ·simp only [Act.put, List.setIfInBounds_toArray, List.set_cons_zero, List.set_cons_succ, i64_w, i32_w]
            rfl
           refine pure_ (i := 8) (N := some 61) (v := ?_) (a' := ?_) #[true, false, true, true, true, false, false, true, true, false, false, false, false, false, false, false, false, false, false] rfl rfl (any_of HT_.out (by kernel_rfl)) (fun _ _ _ h => h) (Or.inl ⟨by rfl, ?_⟩) ?_ ?_
           rotate_left
           ·intro w'
            go_simp
            with_reducible rfl
           rotate_left
           ·simp only [Act.put, List.setIfInBounds_toArray, List.set_cons_zero, List.set_cons_succ, i64_w, i32_w]
            rfl
           refine pure_ (i := 11) (N := some 64) (v := ?_) (a' := ?_) #[true, false, true, true, true, false, false, true, true, false, false, true, false, false, false, false, false, false, false] rfl rfl (any_of HT_.out (by kernel_rfl)) (fun _ _ _ h => h) (Or.inl ⟨by rfl, ?_⟩) ?_ ?_
           rotate_left
           ·intro w'
            go_simp
            with_reducible rfl
           rotate_left
           ·simp only [Act.put, List.setIfInBounds_toArray, List.set_cons_zero, List.set_cons_succ, i64_w, i32_w]
            rfl
           refine pure_ (i := 13) (N := some 66) (v := ?_) (a' := ?_) #[true, false, true, true, true, false, false, true, true, false, false, true, false, true, false, false, false, false, false] rfl rfl (any_of HT_.out (by kernel_rfl)) (fun _ _ _ h => h) (Or.inl ⟨by rfl, ?_⟩) ?_ ?_
           rotate_left
           ·intro w'
            go_simp
            with_reducible rfl
           rotate_left
           ·simp only [Act.put, List.setIfInBounds_toArray, List.set_cons_zero, List.set_cons_succ, i64_w, i32_w]
            rfl
           refine take_ (i := 1) (N := some 54) (v := ?_) (a' := ?_) #[true, true, true, true, true, false, false, true, true, false, false, true, false, true, false, false, false, false, false] rfl rfl (take_ofW HT_.out HW_.out (by kernel_rfl)) (fun _ _ _ h => h) (Or.inl ⟨by rfl, ?_⟩) hHeld ?_ ?_
           rotate_left
           ·rintro w' ⟨s0, s1, s2, s3, s4, s5⟩
            go_simp
            with_reducible rfl
           rotate_left
           ·simp only [Act.put, List.setIfInBounds_toArray, List.set_cons_zero, List.set_cons_succ, i64_w, i32_w]
            rfl
           refine take_ (i := 5) (N := some 58) (v := ?_) (a' := ?_) #[true, true, true, true, true, true, false, true, true, false, false, true, false, true, false, false, false, false, false] rfl rfl (take_ofW HT_.out HW_.out (by kernel_rfl)) (fun _ _ _ h => h) (Or.inl ⟨by rfl, ?_⟩) hHeld ?_ ?_
           rotate_left
           ·rintro w' ⟨s0, s1, s2, s3, s4, s5⟩
            go_simp
            with_reducible rfl
           rotate_left
           ·simp only [Act.put, List.setIfInBounds_toArray, List.set_cons_zero, List.set_cons_succ, i64_w, i32_w]
            rfl
           refine one_ (i := 6) (N := some 59) #[true, true, true, true, true, true, true, true, true, false, false, true, false, true, false, false, false, false, false] rfl rfl (one_of HT_.out (by kernel_rfl)) (by decide) (fun K hK => ?_)
           refine goes_ Try.func57 (by kernel_rfl) rfl #[.string t294, .string a0_2] (by rfl) rfl rfl (by (try simp only [List.map_toArray, List.map_cons, List.map_nil]); first | done | rfl | (simp only [List.length_drop, List.length_take]; rfl)) ?_
           with_reducible refine (impl_xor.calls t294 a0_2 t306 _ A102.out).mono ?_
           rintro e w130 ⟨rfl, hb⟩
           refine ⟨_, rfl, ?_⟩
           have n0_ := Aside0.mk (Kd.R_below (by (with_reducible repeat (first | apply Kd.R_alloc | apply Kd.R_drewN | apply Kd.R_drew)); exact HO286.out) hb)
           have n1_ := Aside0.mk (Kd.R_below (by (with_reducible repeat (first | apply Kd.R_alloc | apply Kd.R_drewN | apply Kd.R_drew)); exact HO289.out) hb)
           have n2_ := Aside0.mk (blk_below (g := gb280) (o := .cells #[.slice A0_0 l0_0.length c0_0, .string a0_1, .string a0_2] 27 (0, 0)) (by (with_reducible repeat (first | refine blk_drewN ?_ _ | refine blk_drew ?_ | refine blk_alloc ?_ _)); exact BK280.out) hb)
           have n3_ := Aside0.mk (blk_below (g := gb281) (o := .cells #[.slice none 0 0, .string (⟨#[]⟩ : ByteArray), .string (⟨#[]⟩ : ByteArray)] 27 (0, 0)) (by (with_reducible repeat (first | refine blk_drewN ?_ _ | refine blk_drew ?_ | refine blk_alloc ?_ _)); exact BK281.out) hb)
           have n4_ := Aside0.mk (blk_below (g := gb292) (o := .cells #[.slice Ao122 t287.length co122, .string t290, .string t291] 27 (0, 0)) (by (with_reducible repeat (first | refine blk_drewN ?_ _ | refine blk_drew ?_ | refine blk_alloc ?_ _)); exact BK292.out) hb)
           have n5_ := Aside0.mk (below_step (by repeat (first | (with_reducible first | exact HB.out | apply below_alloc | apply pw_below_drewN | apply below_drew1 | refine below_set ?_ GE280.out | refine below_set ?_ GE281.out | refine below_set ?_ GE292.out) | exact HB.out)) hb)
           clear HO286
           clear HO289
           clear BK280
           clear BK281
           clear BK292
           clear HB
           have HO286 := n0_
           have HO289 := n1_
           have BK280 := n2_
           have BK281 := n3_
           have BK292 := n4_
           have HB := n5_
           clear n0_ n1_ n2_ n3_ n4_ n5_
           (try clear hb)
           (try clear hb2)
           (try clear hk)
           (try clear hi)
           refine hK.out _ _ ⟨(blk_cell BK292.out 0).trans rfl, (blk_cell BK292.out 1).trans rfl, (blk_cell BK292.out 2).trans rfl, (blk_cell BK280.out 0).trans rfl, (blk_cell BK280.out 1).trans rfl, (blk_cell BK280.out 2).trans rfl⟩ (fun hHeld => ?_)
           clear hK K
           refine norm_ (a' := ?_) ?_ ?_
           rotate_left
           ·show Act.put _ (some 59) _ = _
            simp only [Act.put, List.setIfInBounds_toArray, List.set_cons_zero, List.set_cons_succ, i64_w, i32_w]
            rfl
           refine one_ (i := 9) (N := some 62) #[true, true, true, true, true, true, true, true, true, true, false, true, false, true, false, false, false, false, false] rfl rfl (one_of HT_.out (by kernel_rfl)) (by decide) (fun K hK => ?_)
           refine goes_ Try.func58 (by kernel_rfl) rfl #[.string t305, .int .i64 ji28] (by rfl) rfl rfl (by (try simp only [List.map_toArray, List.map_cons, List.map_nil]); first | done | (simp only [hji28]; rfl) | rfl | (simp only [List.length_drop, List.length_take]; rfl)) ?_
           with_reducible refine (impl_weighed.calls kj3 t305 ji28 t307 _ A103.out).mono ?_
           rintro e w131 ⟨rfl, hb⟩
           refine ⟨_, rfl, ?_⟩
           have n0_ := Aside0.mk (Kd.R_below (by (with_reducible repeat (first | apply Kd.R_alloc | apply Kd.R_drewN | apply Kd.R_drew)); exact HO286.out) hb)
           have n1_ := Aside0.mk (Kd.R_below (by (with_reducible repeat (first | apply Kd.R_alloc | apply Kd.R_drewN | apply Kd.R_drew)); exact HO289.out) hb)
           have n2_ := Aside0.mk (blk_below (g := gb280) (o := .cells #[.slice A0_0 l0_0.length c0_0, .string a0_1, .string a0_2] 27 (0, 0)) (by (with_reducible repeat (first | refine blk_drewN ?_ _ | refine blk_drew ?_ | refine blk_alloc ?_ _)); exact BK280.out) hb)
           have n3_ := Aside0.mk (blk_below (g := gb281) (o := .cells #[.slice none 0 0, .string (⟨#[]⟩ : ByteArray), .string (⟨#[]⟩ : ByteArray)] 27 (0, 0)) (by (with_reducible repeat (first | refine blk_drewN ?_ _ | refine blk_drew ?_ | refine blk_alloc ?_ _)); exact BK281.out) hb)
           have n4_ := Aside0.mk (blk_below (g := gb292) (o := .cells #[.slice Ao122 t287.length co122, .string t290, .string t291] 27 (0, 0)) (by (with_reducible repeat (first | refine blk_drewN ?_ _ | refine blk_drew ?_ | refine blk_alloc ?_ _)); exact BK292.out) hb)
           have n5_ := Aside0.mk (below_step (by repeat (first | (with_reducible first | exact HB.out | apply below_alloc | apply pw_below_drewN | apply below_drew1 | refine below_set ?_ GE280.out | refine below_set ?_ GE281.out | refine below_set ?_ GE292.out) | exact HB.out)) hb)
           clear HO286
           clear HO289
           clear BK280
           clear BK281
           clear BK292
           clear HB
           have HO286 := n0_
           have HO289 := n1_
           have BK280 := n2_
           have BK281 := n3_
           have BK292 := n4_
           have HB := n5_
           clear n0_ n1_ n2_ n3_ n4_ n5_
           (try clear hb)
           (try clear hb2)
           (try clear hk)
           (try clear hi)
           refine hK.out _ _ ⟨(blk_cell BK292.out 0).trans rfl, (blk_cell BK292.out 1).trans rfl, (blk_cell BK292.out 2).trans rfl, (blk_cell BK280.out 0).trans rfl, (blk_cell BK280.out 1).trans rfl, (blk_cell BK280.out 2).trans rfl⟩ (fun hHeld => ?_)
           clear hK K
           refine norm_ (a' := ?_) ?_ ?_
           rotate_left
           ·show Act.put _ (some 62) _ = _
            simp only [Act.put, List.setIfInBounds_toArray, List.set_cons_zero, List.set_cons_succ, i64_w, i32_w]
            rfl
           refine one_ (i := 10) (N := some 63) #[true, true, true, true, true, true, true, true, true, true, true, true, false, true, false, false, false, false, false] rfl rfl (one_of HT_.out (by kernel_rfl)) (by decide) (fun K hK => ?_)
           refine goes_ Try.func57 (by kernel_rfl) rfl #[.string t306, .string t307] (by rfl) rfl rfl (by (try simp only [List.map_toArray, List.map_cons, List.map_nil]); first | done | rfl | (simp only [List.length_drop, List.length_take]; rfl)) ?_
           with_reducible refine (impl_xor.calls t306 t307 t308 _ A104.out).mono ?_
           rintro e w132 ⟨rfl, hb⟩
           refine ⟨_, rfl, ?_⟩
           have n0_ := Aside0.mk (Kd.R_below (by (with_reducible repeat (first | apply Kd.R_alloc | apply Kd.R_drewN | apply Kd.R_drew)); exact HO286.out) hb)
           have n1_ := Aside0.mk (Kd.R_below (by (with_reducible repeat (first | apply Kd.R_alloc | apply Kd.R_drewN | apply Kd.R_drew)); exact HO289.out) hb)
           have n2_ := Aside0.mk (blk_below (g := gb280) (o := .cells #[.slice A0_0 l0_0.length c0_0, .string a0_1, .string a0_2] 27 (0, 0)) (by (with_reducible repeat (first | refine blk_drewN ?_ _ | refine blk_drew ?_ | refine blk_alloc ?_ _)); exact BK280.out) hb)
           have n3_ := Aside0.mk (blk_below (g := gb281) (o := .cells #[.slice none 0 0, .string (⟨#[]⟩ : ByteArray), .string (⟨#[]⟩ : ByteArray)] 27 (0, 0)) (by (with_reducible repeat (first | refine blk_drewN ?_ _ | refine blk_drew ?_ | refine blk_alloc ?_ _)); exact BK281.out) hb)
           have n4_ := Aside0.mk (blk_below (g := gb292) (o := .cells #[.slice Ao122 t287.length co122, .string t290, .string t291] 27 (0, 0)) (by (with_reducible repeat (first | refine blk_drewN ?_ _ | refine blk_drew ?_ | refine blk_alloc ?_ _)); exact BK292.out) hb)
           have n5_ := Aside0.mk (below_step (by repeat (first | (with_reducible first | exact HB.out | apply below_alloc | apply pw_below_drewN | apply below_drew1 | refine below_set ?_ GE280.out | refine below_set ?_ GE281.out | refine below_set ?_ GE292.out) | exact HB.out)) hb)
           clear HO286
           clear HO289
           clear BK280
           clear BK281
           clear BK292
           clear HB
           have HO286 := n0_
           have HO289 := n1_
           have BK280 := n2_
           have BK281 := n3_
           have BK292 := n4_
           have HB := n5_
           clear n0_ n1_ n2_ n3_ n4_ n5_
           (try clear hb)
           (try clear hb2)
           (try clear hk)
           (try clear hi)
           refine hK.out _ _ ⟨(blk_cell BK292.out 0).trans rfl, (blk_cell BK292.out 1).trans rfl, (blk_cell BK292.out 2).trans rfl, (blk_cell BK280.out 0).trans rfl, (blk_cell BK280.out 1).trans rfl, (blk_cell BK280.out 2).trans rfl⟩ (fun hHeld => ?_)
           clear hK K
           refine norm_ (a' := ?_) ?_ ?_
           rotate_left
           ·show Act.put _ (some 63) _ = _
            simp only [Act.put, List.setIfInBounds_toArray, List.set_cons_zero, List.set_cons_succ, i64_w, i32_w]
            rfl
           refine one_ (i := 12) (N := some 65) #[true, true, true, true, true, true, true, true, true, true, true, true, true, true, false, false, false, false, false] rfl rfl (one_of HT_.out (by kernel_rfl)) (by decide) (fun K hK => ?_)
           refine goes_ Try.func63 (by kernel_rfl) rfl #[.int .u8 2, .int .i64 ji27] (by rfl) rfl rfl (by (try simp only [List.map_toArray, List.map_cons, List.map_nil]); first | done | (simp only [hji27]; rfl) | rfl | (simp only [List.length_drop, List.length_take]; rfl)) ?_
           with_reducible refine (impl_power.calls kj3 2 ji27 t309 _ A105.out).mono ?_
           rintro e w' ⟨rfl, ⟨nd, rfl⟩⟩
           refine ⟨_, rfl, ?_⟩
           refine hK.out _ _ ⟨(blk_cell BK292.out 0).trans rfl, (blk_cell BK292.out 1).trans rfl, (blk_cell BK292.out 2).trans rfl, (blk_cell BK280.out 0).trans rfl, (blk_cell BK280.out 1).trans rfl, (blk_cell BK280.out 2).trans rfl⟩ (fun hHeld => ?_)
           clear hK K
           refine norm_ (a' := ?_) ?_ ?_
           rotate_left
           ·show Act.put _ (some 65) _ = _
            simp only [Act.put, List.setIfInBounds_toArray, List.set_cons_zero, List.set_cons_succ, i64_w, i32_w]
            rfl
           refine one_ (i := 14) (N := some 67) #[true, true, true, true, true, true, true, true, true, true, true, true, true, true, true, false, false, false, false] rfl rfl (one_of HT_.out (by kernel_rfl)) (by decide) (fun K hK => ?_)
           refine goes_ Try.func63 (by kernel_rfl) rfl #[.int .u8 2, .int .i64 ji28] (by rfl) rfl rfl (by (try simp only [List.map_toArray, List.map_cons, List.map_nil]); first | done | (simp only [hji28]; rfl) | rfl | (simp only [List.length_drop, List.length_take]; rfl)) ?_
           with_reducible refine (impl_power.calls kj3 2 ji28 t310 _ A106.out).mono ?_
           rintro e w' ⟨rfl, ⟨nd, rfl⟩⟩
           refine ⟨_, rfl, ?_⟩
           refine hK.out _ _ ⟨(blk_cell BK292.out 0).trans rfl, (blk_cell BK292.out 1).trans rfl, (blk_cell BK292.out 2).trans rfl, (blk_cell BK280.out 0).trans rfl, (blk_cell BK280.out 1).trans rfl, (blk_cell BK280.out 2).trans rfl⟩ (fun hHeld => ?_)
           clear hK K
           refine norm_ (a' := ?_) ?_ ?_
           rotate_left
           ·show Act.put _ (some 67) _ = _
            simp only [Act.put, List.setIfInBounds_toArray, List.set_cons_zero, List.set_cons_succ, i64_w, i32_w]
            rfl
           refine pure_ (i := 15) (N := some 68) (v := ?_) (a' := ?_) #[true, true, true, true, true, true, true, true, true, true, true, true, true, true, true, true, false, false, false] rfl rfl (any_of HT_.out (by kernel_rfl)) (fun _ _ _ h => h) (Or.inl ⟨by rfl, ?_⟩) ?_ ?_
           rotate_left
           ·intro w'
            go_simp
            with_reducible rfl
           rotate_left
           ·simp only [Act.put, List.setIfInBounds_toArray, List.set_cons_zero, List.set_cons_succ, i64_w, i32_w]
            rfl
           refine one_ (i := 16) (N := some 69) #[true, true, true, true, true, true, true, true, true, true, true, true, true, true, true, true, true, false, false] rfl rfl (one_of HT_.out (by kernel_rfl)) (by decide) (fun K hK => ?_)
           refine goes_ Try.func62 (by kernel_rfl) rfl #[.string t308, .int .u8 (Go.bits .xor .u8 t309 t310)] (by rfl) rfl rfl (by (try simp only [List.map_toArray, List.map_cons, List.map_nil]); first | done | rfl | (simp only [List.length_drop, List.length_take]; rfl)) ?_
           with_reducible refine (impl_divided.calls kj3 t308 (Go.bits .xor .u8 t309 t310) t311 _ A107.out).mono ?_
           rintro e w133 ⟨rfl, hb⟩
           refine ⟨_, rfl, ?_⟩
           have n0_ := Aside0.mk (Kd.R_below (by (with_reducible repeat (first | apply Kd.R_alloc | apply Kd.R_drewN | apply Kd.R_drew)); exact HO286.out) hb)
           have n1_ := Aside0.mk (Kd.R_below (by (with_reducible repeat (first | apply Kd.R_alloc | apply Kd.R_drewN | apply Kd.R_drew)); exact HO289.out) hb)
           have n2_ := Aside0.mk (blk_below (g := gb280) (o := .cells #[.slice A0_0 l0_0.length c0_0, .string a0_1, .string a0_2] 27 (0, 0)) (by (with_reducible repeat (first | refine blk_drewN ?_ _ | refine blk_drew ?_ | refine blk_alloc ?_ _)); exact BK280.out) hb)
           have n3_ := Aside0.mk (blk_below (g := gb281) (o := .cells #[.slice none 0 0, .string (⟨#[]⟩ : ByteArray), .string (⟨#[]⟩ : ByteArray)] 27 (0, 0)) (by (with_reducible repeat (first | refine blk_drewN ?_ _ | refine blk_drew ?_ | refine blk_alloc ?_ _)); exact BK281.out) hb)
           have n4_ := Aside0.mk (blk_below (g := gb292) (o := .cells #[.slice Ao122 t287.length co122, .string t290, .string t291] 27 (0, 0)) (by (with_reducible repeat (first | refine blk_drewN ?_ _ | refine blk_drew ?_ | refine blk_alloc ?_ _)); exact BK292.out) hb)
           have n5_ := Aside0.mk (below_step (by repeat (first | (with_reducible first | exact HB.out | apply below_alloc | apply pw_below_drewN | apply below_drew1 | refine below_set ?_ GE280.out | refine below_set ?_ GE281.out | refine below_set ?_ GE292.out) | exact HB.out)) hb)
           clear HO286
           clear HO289
           clear BK280
           clear BK281
           clear BK292
           clear HB
           have HO286 := n0_
           have HO289 := n1_
           have BK280 := n2_
           have BK281 := n3_
           have BK292 := n4_
           have HB := n5_
           clear n0_ n1_ n2_ n3_ n4_ n5_
           (try clear hb)
           (try clear hb2)
           (try clear hk)
           (try clear hi)
           have p110 : 0 ≤ ((ji27) : Int) := of_decide_eq_true (by first | (with_reducible assumption) | assumption)
           have q110 : ((ji27) : Int) < ((t287.length : Int) : Int) := of_decide_eq_true (by first | (with_reducible assumption) | assumption)
           obtain ⟨go110, co110, eo110, gb110, gl110, cl110, HG110⟩ := Kd.R_form HO289.out (by omega)
           (first | cases eo110 | (injection eo110 with ea_ en_ ec_; (first | subst ea_ | (injection ea_ with ea_; subst ea_)); subst ec_; clear en_))
           have GB110 := Aside0.mk gb110
           have GG110 := Aside0.mk HG110
           clear gb110 gl110 HG110
           obtain ⟨hx110_0, hf110_0⟩ := Kd.R_celln (⟨#[]⟩ : ByteArray) HO289.out ((ji27) : Int) p110 q110
           replace p110 := eq_true p110
           replace q110 := eq_true q110
           have HP134 := Kd.R_putn HO289.out ((ji27) : Int) t311
           rw [← Ny312.out] at HP134
           have HQ134 := Aside0.mk HP134
           clear HP134
           refine hK.out _ _ ⟨(blk_cell BK292.out 0).trans rfl, (blk_cell BK292.out 1).trans rfl, (blk_cell BK292.out 2).trans rfl, (blk_cell BK280.out 0).trans rfl, (blk_cell BK280.out 1).trans rfl, (blk_cell BK280.out 2).trans rfl⟩ (fun hHeld => ?_)
           clear hK K
           refine norm_ (a' := ?_) ?_ ?_
           rotate_left
           ·show Act.put _ (some 69) _ = _
            simp only [Act.put, List.setIfInBounds_toArray, List.set_cons_zero, List.set_cons_succ, i64_w, i32_w]
            rfl
           refine pure_ (i := 17) (N := some 70) (v := ?_) (a' := ?_) #[true, true, true, true, true, true, true, true, true, true, true, true, true, true, true, true, true, true, false] rfl rfl (any_of HT_.out (by kernel_rfl)) (fun _ _ _ h => h) (Or.inl ⟨by rfl, ?_⟩) ?_ ?_
           rotate_left
           ·intro w'
            go_simp
            with_reducible rfl
           rotate_left
           ·simp only [Act.put, List.setIfInBounds_toArray, List.set_cons_zero, List.set_cons_succ, i64_w, i32_w]
            rfl
           refine last_ (i := 18) (N := none) #[true, true, true, true, true, true, true, true, true, true, true, true, true, true, true, true, true, true, true] rfl rfl (one_of HT_.out (by kernel_rfl)) (by decide) (fun K hK => ?_)
           refine skip_ (w1 := ?_) (by rfl) rfl ?_ ?_
           rotate_left
           ·go_simp
            rfl
           refine hK.out _ _ ?_
           clear hK K
           refine done_ (done_of HT_.out (by kernel_rfl)) ?_
           have n0_ : Aside0 (Kd.R (Kd.int .i64) 3 (w133.setCell ⟨go110, ((ji27) : Int).toNat, none⟩ (.string t311)) w.heap.size (fun _ => True) (.slice Ao119 y284.length co119) y284) := ⟨by (with_reducible repeat (first | apply Kd.R_alloc | apply Kd.R_drewN | apply Kd.R_drew)); first | exact Kd.R_mono (Kd.R_far (p := ⟨go110, ((ji27) : Int).toNat, none⟩) (Kd.R_types HO286.out GG110.out (by decide)) (fun _ hk => hk.2) (.string t311)) (fun _ hk => trivial) | (obtain ⟨_, _, _, q_, hq_, cl_, HG_⟩ := (Kd.R_bound HO289.out).1 go110 rfl; obtain rfl : q_ = 9 := (by first | exact List.mem_singleton.mp hq_ | simpa using hq_); exact Kd.R_mono (Kd.R_far (p := ⟨go110, ((ji27) : Int).toNat, none⟩) (Kd.R_types HO286.out HG_ (by decide)) (fun _ hk => hk.2) (.string t311)) (fun _ hk => trivial))⟩
           have n1_ : Aside0 (Kd.R Kd.string 9 (w133.setCell ⟨go110, ((ji27) : Int).toNat, none⟩ (.string t311)) w.heap.size (fun _ => True) (.slice (some ⟨go110, 0, none⟩) t287.length co122) y312) := ⟨by (with_reducible repeat (first | apply Kd.R_alloc | apply Kd.R_drewN | apply Kd.R_drew)); exact HQ134.out⟩
           have n2_ : Aside0 ((w133.setCell ⟨go110, ((ji27) : Int).toNat, none⟩ (.string t311)).heap[gb280]? = some (.cells #[.slice A0_0 l0_0.length c0_0, .string a0_1, .string a0_2] 27 (0, 0))) := ⟨by (with_reducible repeat (first | refine blk_drewN ?_ _ | refine blk_drew ?_ | refine blk_alloc ?_ _)); refine blk_far ?_ (by have h_ := Kd.R_ne HO289.out BK280.out (by decide); intro e_; exact h_ (by rw [e_]; rfl)) _; (with_reducible repeat (first | refine blk_drewN ?_ _ | refine blk_drew ?_ | refine blk_alloc ?_ _)); exact BK280.out⟩
           have n3_ : Aside0 ((w133.setCell ⟨go110, ((ji27) : Int).toNat, none⟩ (.string t311)).heap[gb281]? = some (.cells #[.slice none 0 0, .string (⟨#[]⟩ : ByteArray), .string (⟨#[]⟩ : ByteArray)] 27 (0, 0))) := ⟨by (with_reducible repeat (first | refine blk_drewN ?_ _ | refine blk_drew ?_ | refine blk_alloc ?_ _)); refine blk_far ?_ (by have h_ := Kd.R_ne HO289.out BK281.out (by decide); intro e_; exact h_ (by rw [e_]; rfl)) _; (with_reducible repeat (first | refine blk_drewN ?_ _ | refine blk_drew ?_ | refine blk_alloc ?_ _)); exact BK281.out⟩
           have n4_ : Aside0 ((w133.setCell ⟨go110, ((ji27) : Int).toNat, none⟩ (.string t311)).heap[gb292]? = some (.cells #[.slice (some ⟨go110, 0, none⟩) t287.length co122, .string t290, .string t291] 27 (0, 0))) := ⟨by (with_reducible repeat (first | refine blk_drewN ?_ _ | refine blk_drew ?_ | refine blk_alloc ?_ _)); refine blk_far ?_ (by have h_ := Kd.R_ne HO289.out BK292.out (by decide); intro e_; exact h_ (by rw [e_]; rfl)) _; (with_reducible repeat (first | refine blk_drewN ?_ _ | refine blk_drew ?_ | refine blk_alloc ?_ _)); exact BK292.out⟩
           have n5_ : Aside0 (Below w.heap.size w (w133.setCell ⟨go110, ((ji27) : Int).toNat, none⟩ (.string t311))) := ⟨by repeat (first | (with_reducible first | exact HB.out | apply below_alloc | apply pw_below_drewN | apply below_drew1 | refine below_set ?_ GB110.out | refine below_set ?_ GE280.out | refine below_set ?_ GE281.out | refine below_set ?_ GE292.out) | exact HB.out)⟩
           (try clear HO286)
           (try clear HO289)
           (try clear BK280)
           (try clear BK281)
           (try clear BK292)
           (try clear HB)
           generalize (w133.setCell ⟨go110, ((ji27) : Int).toNat, none⟩ (.string t311)) = w135 at n0_ n1_ n2_ n3_ n4_ n5_ ⊢
           have HO286 := n0_
           have HO289 := n1_
           have BK280 := n2_
           have BK281 := n3_
           have BK292 := n4_
           have HB := n5_
           clear n0_ n1_ n2_ n3_ n4_ n5_
           try go_wp2
           have n0_ := Aside0.mk (Kd.R_drew HO286.out)
           have n1_ := Aside0.mk (Kd.R_drew HO289.out)
           have n2_ := Aside0.mk (blk_drew BK280.out)
           have n3_ := Aside0.mk (blk_drew BK281.out)
           have n4_ := Aside0.mk (blk_drew BK292.out)
           have n5_ := Aside0.mk (below_drew1 HB.out)
           clear HO286
           clear HO289
           clear BK280
           clear BK281
           clear BK292
           clear HB
           have HO286 := n0_
           have HO289 := n1_
           have BK280 := n2_
           have BK281 := n3_
           have BK292 := n4_
           have HB := n5_
           clear n0_ n1_ n2_ n3_ n4_ n5_
           have p313 : 0 ≤ ((ji27) : Int) := of_decide_eq_true (by first | (with_reducible assumption) | assumption)
           have q313 : (ji27) < (y312.length : Int) := (by have h_ : ((ji27) : Int) < ((t287.length : Int) : Int) := of_decide_eq_true (by first | (with_reducible assumption) | assumption); first | (have e_ := (Kd.R_reads' HO289.out).1; omega) | simpa only [Ny312.out, List.length_set] using h_)
           have ql313 : (((ji27) : Int) < ((t287.length : Int) : Int)) = True := eq_true (of_decide_eq_true (by first | (with_reducible assumption) | assumption))
           obtain ⟨ad313, e313, hx313_0⟩ := Kd.at_string (Kd.R_reads' HO289.out).2.2 (ji27) p313 q313
           obtain rfl : (⟨go110, 0, none⟩ : Addr) = ad313 := (by injection e313)
           (first | simp only [add_plain] at hx313_0 | simp only [add_at] at hx313_0 | simp only [Addr.add, Nat.zero_add] at hx313_0 | skip)
           replace p313 := eq_true p313
           replace q313 := eq_true q313
           refine start_ (n := 12) (S := fun w' => w'.cell? ⟨gb292, 0, none⟩ = some (.slice (some ⟨go110, 0, none⟩) t287.length co122) ∧ w'.cell? ⟨gb292, 1, none⟩ = some (.string t290) ∧ w'.cell? ⟨gb292, 2, none⟩ = some (.string t291) ∧ w'.cell? ⟨go110, ((ji27)).toNat, none⟩ = some (.string (rdOf ByteArray.empty y312 (ji27)))) (ds := [11]) #[false, false, false, false, false, false, false, false, false, false, false, false] (by kernel_rfl) rfl rfl ⟨(blk_cell BK292.out 0).trans rfl, (blk_cell BK292.out 1).trans rfl, (blk_cell BK292.out 2).trans rfl, hx313_0⟩ (fun hHeld => ?_); refine with_tabW impl_RecoverTwo.tab9 impl_RecoverTwo.bits9 (fun HT_ HW_ => ?_)
           generalize w135.drew = w136 at HO286 HO289 BK280 BK281 BK292 HB hx313_0 hHeld ⊢
           refine pure_ (i := 0) (N := some 71) (v := ?_) (a' := ?_) #[true, false, false, false, false, false, false, false, false, false, false, false] rfl rfl (any_of HT_.out (by kernel_rfl)) (fun _ _ _ h => h) (Or.inl ⟨by rfl, ?_⟩) ?_ ?_
           rotate_left
           ·intro w'
            go_simp
            with_reducible rfl
           rotate_left
           ·simp only [Act.put, List.setIfInBounds_toArray, List.set_cons_zero, List.set_cons_succ, i64_w, i32_w]
            rfl
           refine pure_ (i := 2) (N := some 73) (v := ?_) (a' := ?_) #[true, false, true, false, false, false, false, false, false, false, false, false] rfl rfl (any_of HT_.out (by kernel_rfl)) (fun _ _ _ h => h) (Or.inl ⟨by rfl, ?_⟩) ?_ ?_
           rotate_left
           ·intro w'
            go_simp
            with_reducible rfl
           rotate_left
           ·simp only [Act.put, List.setIfInBounds_toArray, List.set_cons_zero, List.set_cons_succ, i64_w, i32_w]
            rfl
           refine pure_ (i := 3) (N := some 74) (v := ?_) (a' := ?_) #[true, false, true, true, false, false, false, false, false, false, false, false] rfl rfl (any_of HT_.out (by kernel_rfl)) (fun _ _ _ h => h) (Or.inl ⟨by rfl, ?_⟩) ?_ ?_
           rotate_left
           ·intro w'
            go_simp
            with_reducible rfl
           rotate_left
           ·simp only [Act.put, List.setIfInBounds_toArray, List.set_cons_zero, List.set_cons_succ, i64_w, i32_w]
            rfl
           refine pure_ (i := 4) (N := some 75) (v := ?_) (a' := ?_) #[true, false, true, true, true, false, false, false, false, false, false, false] rfl rfl (any_of HT_.out (by kernel_rfl)) (fun _ _ _ h => h) (Or.inl ⟨by rfl, ?_⟩) ?_ ?_
           rotate_left
           ·intro w'
            go_simp
            with_reducible rfl
           rotate_left
           ·simp only [Act.put, List.setIfInBounds_toArray, List.set_cons_zero, List.set_cons_succ, i64_w, i32_w]
            rfl
           refine pure_ (i := 6) (N := some 77) (v := ?_) (a' := ?_) #[true, false, true, true, true, false, true, false, false, false, false, false] rfl rfl (any_of HT_.out (by kernel_rfl)) (fun _ _ _ h => h) (Or.inl ⟨by rfl, ?_⟩) ?_ ?_
           rotate_left
           ·intro w'
            go_simp
            with_reducible rfl
           rotate_left
           ·simp only [Act.put, List.setIfInBounds_toArray, List.set_cons_zero, List.set_cons_succ, i64_w, i32_w]
            rfl
           refine take_ (i := 1) (N := some 72) (v := ?_) (a' := ?_) #[true, true, true, true, true, false, true, false, false, false, false, false] rfl rfl (take_ofW HT_.out HW_.out (by kernel_rfl)) (fun _ _ _ h => h) (Or.inl ⟨by rfl, ?_⟩) hHeld ?_ ?_
           rotate_left
           ·rintro w' ⟨s0, s1, s2, s3⟩
            go_simp
            with_reducible rfl
           rotate_left
           ·simp only [Act.put, List.setIfInBounds_toArray, List.set_cons_zero, List.set_cons_succ, i64_w, i32_w]
            rfl
           refine take_ (i := 5) (N := some 76) (v := ?_) (a' := ?_) #[true, true, true, true, true, true, true, false, false, false, false, false] rfl rfl (take_ofW HT_.out HW_.out (by kernel_rfl)) (fun _ _ _ h => h) (Or.inl ⟨by rfl, ?_⟩) hHeld ?_ ?_
           rotate_left
           ·rintro w' ⟨s0, s1, s2, s3⟩
            go_simp
            with_reducible rfl
           rotate_left
           ·simp only [Act.put, List.setIfInBounds_toArray, List.set_cons_zero, List.set_cons_succ, i64_w, i32_w]
            rfl
           refine pure_ (i := 7) (N := some 78) (v := ?_) (a' := ?_) #[true, true, true, true, true, true, true, true, false, false, false, false] rfl rfl (any_of HT_.out (by kernel_rfl)) (fun _ _ _ h => h) (Or.inl ⟨by rfl, ?_⟩) ?_ ?_
           rotate_left
           ·intro w'
            go_simp
            with_reducible rfl
           rotate_left
           ·simp only [Act.put, List.setIfInBounds_toArray, List.set_cons_zero, List.set_cons_succ, i64_w, i32_w]
            rfl
           refine take_ (i := 8) (N := some 79) (v := ?_) (a' := ?_) #[true, true, true, true, true, true, true, true, true, false, false, false] rfl rfl (take_ofW HT_.out HW_.out (by kernel_rfl)) (fun _ _ _ h => h) (Or.inl ⟨by rfl, ?_⟩) hHeld ?_ ?_
           rotate_left
           ·rintro w' ⟨s0, s1, s2, s3⟩
            go_simp
            with_reducible rfl
           rotate_left
           ·simp only [Act.put, List.setIfInBounds_toArray, List.set_cons_zero, List.set_cons_succ, i64_w, i32_w]
            rfl
           refine one_ (i := 9) (N := some 80) #[true, true, true, true, true, true, true, true, true, true, false, false] rfl rfl (one_of HT_.out (by kernel_rfl)) (by decide) (fun K hK => ?_)
           refine goes_ Try.func57 (by kernel_rfl) rfl #[.string t305, .string (rdOf ByteArray.empty y312 (ji27))] (by rfl) rfl rfl (by (try simp only [List.map_toArray, List.map_cons, List.map_nil]); first | done | (simp only [hji27]; rfl) | rfl | (simp only [List.length_drop, List.length_take]; rfl)) ?_
           with_reducible refine (impl_xor.calls t305 (rdOf ByteArray.empty y312 (ji27)) t314 _ A111.out).mono ?_
           rintro e w137 ⟨rfl, hb⟩
           have HS3_ := (hb.cell (World.block_lt_of_cell? _ _ (hHeld.2.2.2))).trans (hHeld.2.2.2)
           refine ⟨_, rfl, ?_⟩
           have n0_ := Aside0.mk (Kd.R_below (by (with_reducible repeat (first | apply Kd.R_alloc | apply Kd.R_drewN | apply Kd.R_drew)); exact HO286.out) hb)
           have n1_ := Aside0.mk (Kd.R_below (by (with_reducible repeat (first | apply Kd.R_alloc | apply Kd.R_drewN | apply Kd.R_drew)); exact HO289.out) hb)
           have n2_ := Aside0.mk (blk_below (g := gb280) (o := .cells #[.slice A0_0 l0_0.length c0_0, .string a0_1, .string a0_2] 27 (0, 0)) (by (with_reducible repeat (first | refine blk_drewN ?_ _ | refine blk_drew ?_ | refine blk_alloc ?_ _)); exact BK280.out) hb)
           have n3_ := Aside0.mk (blk_below (g := gb281) (o := .cells #[.slice none 0 0, .string (⟨#[]⟩ : ByteArray), .string (⟨#[]⟩ : ByteArray)] 27 (0, 0)) (by (with_reducible repeat (first | refine blk_drewN ?_ _ | refine blk_drew ?_ | refine blk_alloc ?_ _)); exact BK281.out) hb)
           have n4_ := Aside0.mk (blk_below (g := gb292) (o := .cells #[.slice (some ⟨go110, 0, none⟩) t287.length co122, .string t290, .string t291] 27 (0, 0)) (by (with_reducible repeat (first | refine blk_drewN ?_ _ | refine blk_drew ?_ | refine blk_alloc ?_ _)); exact BK292.out) hb)
           have n5_ := Aside0.mk (below_step (by repeat (first | (with_reducible first | exact HB.out | apply below_alloc | apply pw_below_drewN | apply below_drew1 | refine below_set ?_ GE280.out | refine below_set ?_ GE281.out | refine below_set ?_ GE292.out) | exact HB.out)) hb)
           clear HO286
           clear HO289
           clear BK280
           clear BK281
           clear BK292
           clear HB
           have HO286 := n0_
           have HO289 := n1_
           have BK280 := n2_
           have BK281 := n3_
           have BK292 := n4_
           have HB := n5_
           clear n0_ n1_ n2_ n3_ n4_ n5_
           (try clear hb)
           (try clear hb2)
           (try clear hk)
           (try clear hi)
           have p114 : 0 ≤ ((ji28) : Int) := of_decide_eq_true (by first | (with_reducible assumption) | assumption)
           have q114 : ((ji28) : Int) < ((t287.length : Int) : Int) := of_decide_eq_true (by first | (with_reducible assumption) | assumption)
           obtain ⟨hx114_0, hf114_0⟩ := Kd.R_celln (⟨#[]⟩ : ByteArray) HO289.out ((ji28) : Int) p114 q114
           replace p114 := eq_true p114
           replace q114 := eq_true q114
           have HP138 := Kd.R_putn HO289.out ((ji28) : Int) t314
           rw [← Ny315.out] at HP138
           have HQ138 := Aside0.mk HP138
           clear HP138
           refine hK.out _ _ ⟨(blk_cell BK292.out 0).trans rfl, (blk_cell BK292.out 1).trans rfl, (blk_cell BK292.out 2).trans rfl, HS3_⟩ (fun hHeld => ?_)
           clear hK K
           refine norm_ (a' := ?_) ?_ ?_
           rotate_left
           ·show Act.put _ (some 80) _ = _
            simp only [Act.put, List.setIfInBounds_toArray, List.set_cons_zero, List.set_cons_succ, i64_w, i32_w]
            rfl
           refine pure_ (i := 10) (N := some 81) (v := ?_) (a' := ?_) #[true, true, true, true, true, true, true, true, true, true, true, false] rfl rfl (any_of HT_.out (by kernel_rfl)) (fun _ _ _ h => h) (Or.inl ⟨by rfl, ?_⟩) ?_ ?_
           rotate_left
           ·intro w'
            go_simp
            with_reducible rfl
           rotate_left
           ·simp only [Act.put, List.setIfInBounds_toArray, List.set_cons_zero, List.set_cons_succ, i64_w, i32_w]
            rfl
           refine last_ (i := 11) (N := none) #[true, true, true, true, true, true, true, true, true, true, true, true] rfl rfl (one_of HT_.out (by kernel_rfl)) (by decide) (fun K hK => ?_)
           refine skip_ (w1 := ?_) (by rfl) rfl ?_ ?_
           rotate_left
           ·go_simp
            rfl
           refine hK.out _ _ ?_
           clear hK K
           refine done_ (done_of HT_.out (by kernel_rfl)) ?_
           have n0_ : Aside0 (Kd.R (Kd.int .i64) 3 (w137.setCell ⟨go110, ((ji28) : Int).toNat, none⟩ (.string t314)) w.heap.size (fun _ => True) (.slice Ao119 y284.length co119) y284) := ⟨by (with_reducible repeat (first | apply Kd.R_alloc | apply Kd.R_drewN | apply Kd.R_drew)); first | exact Kd.R_mono (Kd.R_far (p := ⟨go110, ((ji28) : Int).toNat, none⟩) (Kd.R_types HO286.out GG110.out (by decide)) (fun _ hk => hk.2) (.string t314)) (fun _ hk => trivial) | (obtain ⟨_, _, _, q_, hq_, cl_, HG_⟩ := (Kd.R_bound HO289.out).1 go110 rfl; obtain rfl : q_ = 9 := (by first | exact List.mem_singleton.mp hq_ | simpa using hq_); exact Kd.R_mono (Kd.R_far (p := ⟨go110, ((ji28) : Int).toNat, none⟩) (Kd.R_types HO286.out HG_ (by decide)) (fun _ hk => hk.2) (.string t314)) (fun _ hk => trivial))⟩
           have n1_ : Aside0 (Kd.R Kd.string 9 (w137.setCell ⟨go110, ((ji28) : Int).toNat, none⟩ (.string t314)) w.heap.size (fun _ => True) (.slice (some ⟨go110, 0, none⟩) t287.length co122) y315) := ⟨by (with_reducible repeat (first | apply Kd.R_alloc | apply Kd.R_drewN | apply Kd.R_drew)); exact HQ138.out⟩
           have n2_ : Aside0 ((w137.setCell ⟨go110, ((ji28) : Int).toNat, none⟩ (.string t314)).heap[gb280]? = some (.cells #[.slice A0_0 l0_0.length c0_0, .string a0_1, .string a0_2] 27 (0, 0))) := ⟨by (with_reducible repeat (first | refine blk_drewN ?_ _ | refine blk_drew ?_ | refine blk_alloc ?_ _)); refine blk_far ?_ (by have h_ := Kd.R_ne HO289.out BK280.out (by decide); intro e_; exact h_ (by rw [e_]; rfl)) _; (with_reducible repeat (first | refine blk_drewN ?_ _ | refine blk_drew ?_ | refine blk_alloc ?_ _)); exact BK280.out⟩
           have n3_ : Aside0 ((w137.setCell ⟨go110, ((ji28) : Int).toNat, none⟩ (.string t314)).heap[gb281]? = some (.cells #[.slice none 0 0, .string (⟨#[]⟩ : ByteArray), .string (⟨#[]⟩ : ByteArray)] 27 (0, 0))) := ⟨by (with_reducible repeat (first | refine blk_drewN ?_ _ | refine blk_drew ?_ | refine blk_alloc ?_ _)); refine blk_far ?_ (by have h_ := Kd.R_ne HO289.out BK281.out (by decide); intro e_; exact h_ (by rw [e_]; rfl)) _; (with_reducible repeat (first | refine blk_drewN ?_ _ | refine blk_drew ?_ | refine blk_alloc ?_ _)); exact BK281.out⟩
           have n4_ : Aside0 ((w137.setCell ⟨go110, ((ji28) : Int).toNat, none⟩ (.string t314)).heap[gb292]? = some (.cells #[.slice (some ⟨go110, 0, none⟩) t287.length co122, .string t290, .string t291] 27 (0, 0))) := ⟨by (with_reducible repeat (first | refine blk_drewN ?_ _ | refine blk_drew ?_ | refine blk_alloc ?_ _)); refine blk_far ?_ (by have h_ := Kd.R_ne HO289.out BK292.out (by decide); intro e_; exact h_ (by rw [e_]; rfl)) _; (with_reducible repeat (first | refine blk_drewN ?_ _ | refine blk_drew ?_ | refine blk_alloc ?_ _)); exact BK292.out⟩
           have n5_ : Aside0 (Below w.heap.size w (w137.setCell ⟨go110, ((ji28) : Int).toNat, none⟩ (.string t314))) := ⟨by repeat (first | (with_reducible first | exact HB.out | apply below_alloc | apply pw_below_drewN | apply below_drew1 | refine below_set ?_ GB110.out | refine below_set ?_ GE280.out | refine below_set ?_ GE281.out | refine below_set ?_ GE292.out) | exact HB.out)⟩
           (try clear HO286)
           (try clear HO289)
           (try clear BK280)
           (try clear BK281)
           (try clear BK292)
           (try clear HB)
           generalize (w137.setCell ⟨go110, ((ji28) : Int).toNat, none⟩ (.string t314)) = w139 at n0_ n1_ n2_ n3_ n4_ n5_ ⊢
           have HO286 := n0_
           have HO289 := n1_
           have BK280 := n2_
           have BK281 := n3_
           have BK292 := n4_
           have HB := n5_
           clear n0_ n1_ n2_ n3_ n4_ n5_
           have hcz140_0 : w139.cell? ⟨gb292, 0, none⟩ = some (.slice (some ⟨go110, 0, none⟩) t287.length co122) := (blk_cell BK292.out 0).trans rfl
           have hcz140_1 : w139.cell? ⟨gb292, 1, none⟩ = some (.string t290) := (blk_cell BK292.out 1).trans rfl
           have hcz140_2 : w139.cell? ⟨gb292, 2, none⟩ = some (.string t291) := (blk_cell BK292.out 2).trans rfl
           have hfz140_0 := blk_frozen BK292.out 0
           have hfz140_1 := blk_frozen BK292.out 1
           have hfz140_2 := blk_frozen BK292.out 2
           have hcz141_0 : w139.cell? ⟨gb281, 0, none⟩ = some (.slice none 0 0) := (blk_cell BK281.out 0).trans rfl
           have hcz141_1 : w139.cell? ⟨gb281, 1, none⟩ = some (.string (⟨#[]⟩ : ByteArray)) := (blk_cell BK281.out 1).trans rfl
           have hcz141_2 : w139.cell? ⟨gb281, 2, none⟩ = some (.string (⟨#[]⟩ : ByteArray)) := (blk_cell BK281.out 2).trans rfl
           have hfz141_0 := blk_frozen BK281.out 0
           have hfz141_1 := blk_frozen BK281.out 1
           have hfz141_2 := blk_frozen BK281.out 2
           try go_wp2
           refine bodyPost_ret (results_ct rfl _ _ gb281 27 #[.slice (some ⟨go110, 0, none⟩) t287.length co122, .string t290, .string t291] (0, 0) _ rfl (by (with_reducible repeat (first | refine blk_drewN ?_ _ | refine blk_drew ?_ | refine blk_alloc ?_ _)); refine blk_put (cs := #[.slice (some ⟨go110, 0, none⟩) t287.length co122, .string t290, .string (⟨#[]⟩ : ByteArray)]) ?_ 2 _ rfl; (with_reducible repeat (first | refine blk_drewN ?_ _ | refine blk_drew ?_ | refine blk_alloc ?_ _)); refine blk_put (cs := #[.slice (some ⟨go110, 0, none⟩) t287.length co122, .string (⟨#[]⟩ : ByteArray), .string (⟨#[]⟩ : ByteArray)]) ?_ 1 _ rfl; (with_reducible repeat (first | refine blk_drewN ?_ _ | refine blk_drew ?_ | refine blk_alloc ?_ _)); refine blk_put (cs := #[.slice none 0 0, .string (⟨#[]⟩ : ByteArray), .string (⟨#[]⟩ : ByteArray)]) ?_ 0 _ rfl; (with_reducible repeat (first | refine blk_drewN ?_ _ | refine blk_drew ?_ | refine blk_alloc ?_ _)); exact BK281.out) Try.underlying27 rfl (by kernel_rfl)) rfl ?_
           exact ⟨_, by first | rfl | (simp [errW_none, errW_some] <;> rfl) | (simp only [← hji27, ← hji28]; first | rfl | (simp [errW_none, errW_some] <;> rfl)) | (simp [*, errW_none, errW_some] <;> rfl), by (with_reducible repeat (first | apply Kd.R_alloc | apply Kd.R_drewN | apply Kd.R_drew)); exact Kd.R_mono (Kd.R_far (p := ⟨gb281, 2, none⟩) (Kd.R_far (p := ⟨gb281, 1, none⟩) (Kd.R_far (p := ⟨gb281, 0, none⟩) (Kd.R_types HO289.out BK281.out (by decide)) (fun _ hk => hk.2) (.slice (some ⟨go110, 0, none⟩) t287.length co122)) (fun _ hk => hk.2) (.string t290)) (fun _ hk => hk.2) (.string t291)) (fun _ hk => trivial), by repeat (first | (with_reducible first | exact HB.out | apply below_alloc | apply pw_below_drewN | apply below_drew1 | refine below_set ?_ GE280.out | refine below_set ?_ GE281.out | refine below_set ?_ GE292.out) | exact HB.out)⟩
          ·rw [if_neg c113] at H
           exact absurd H (by simp)
         ·rw [if_neg c112] at H
          exact absurd H (by simp)
        ·rw [if_neg c109] at H
         exact absurd H (by simp)
       ·rw [if_neg c108] at H
        exact absurd H (by simp)

end Go.Proofs.Ytfijnlhklfmoeaa.PFnExactRecoverTwo
