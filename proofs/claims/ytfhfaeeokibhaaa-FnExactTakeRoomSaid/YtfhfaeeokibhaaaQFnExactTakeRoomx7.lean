/- The walks of FnExactTakeRoom: Go's calls come to what the Lean functions beside them say; no condition. -/
import Derived.Test.YtfhfaeeokibhaaaQFnExactTakeRoomx0
import Derived.Test.YtfhfaeeokibhaaaQFnExactTakeRoomx3
import Derived.Test.YtfhfaeeokibhaaaQFnExactTakeRoomx5
import Derived.Test.YtfhfaeeokibhaaaQFnExactTakeRoomx6
namespace Go.Proofs.Ytfhfaeeokibhaaa.PFnExactTakeRoom
open Go.RowKit Go.Proofs.YtfhfaeeokibhaaaW.PrintWords Go.Proofs.YtfhfaeeokibhaaaW.PrintLast Go.Proofs.YtfhfaeeokibhaaaW.PrintMore
attribute [local go_sem] max2_int min2_int max_two min_two max_three min_three max_four min_four   -- for this text's walks alone
set_option linter.unusedVariables false
set_option linter.unusedSimpArgs false
set_option maxRecDepth 100000

/-! ### spec_TakeRoom: function 34 -/
def spec_TakeRoom.j0 : Nat → Int → Int → Int → Bool → Int → List (S49) → List (S49) → Option (Int × (List (S49)) × (List (S49)) × Int × Bool)
 | 0, _, _, _, _, _, _, _ => none
 | k + 1, x1, x2, x3, x36, x269000, x269001, x269002 => if x36 = true then (some (0, ([] : List (S49)), ([] : List (S49)), 0, false)) else ((spec_l5Pick.f k x269000 x269001 x269002 x1 x2 x3).bind fun t274 => (if t274 < 0 then (some (0, ([] : List (S49)), ([] : List (S49)), 0, false)) else ((spec_l5Within.f k x269001 t274 x1).bind fun t276 => ((spec_l5Cut.f x269001 t276 t274 x1).bind fun t277 => ((spec_l5Of.f k x269000 t277).bind fun bt280 => ((spec_GoodFree.f k bt280.1 bt280.2.1 bt280.2.2).bind fun t288 => (if t288 = true then (some (bt280.1, bt280.2.1, bt280.2.2, t274, true)) else (some (0, ([] : List (S49)), ([] : List (S49)), 0, false)))))))))
def spec_TakeRoom.f (k : Nat) (a0_0 : Int) (l0_1 : List (S49)) (l0_2 : List (S49)) (a1 : Int) (a2 : Int) (a3 : Int) : Option (Int × (List (S49)) × (List (S49)) × Int × Bool) := (spec_GoodFree.f k a0_0 l0_1 l0_2).bind fun t270 => (if t270 = true then ((spec_l1In.f a1 1 a0_0).bind fun t271 => (if t271 = true then ((spec_l1In.f a2 1 4).bind fun t272 => (if t272 = true then ((spec_l1In.f a3 0 (wrap64 (a0_0 - 1))).bind fun t273 => (spec_TakeRoom.j0 k a1 a2 a3 (!t273) a0_0 l0_1 l0_2)) else (spec_TakeRoom.j0 k a1 a2 a3 true a0_0 l0_1 l0_2))) else (spec_TakeRoom.j0 k a1 a2 a3 true a0_0 l0_1 l0_2))) else (spec_TakeRoom.j0 k a1 a2 a3 true a0_0 l0_1 l0_2))
theorem spec_TakeRoom.mono_l : ∀ k, (∀ y0 y1 y2 y3 y4 y5 y6, LeO (spec_TakeRoom.j0 k y0 y1 y2 y3 y4 y5 y6) (spec_TakeRoom.j0 (k + 1) y0 y1 y2 y3 y4 y5 y6))
 | 0 => fun _ _ _ _ _ _ _ r h => by change none = some r at h; cases h
 | k + 1 => by
  have ih0 := spec_TakeRoom.mono_l k
  ·intro y0 y1 y2 y3 y4 y5 y6
   unfold spec_TakeRoom.j0
   repeat' first
   | (with_reducible exact ih0 _ _ _ _ _ _ _)
   | (with_reducible exact spec_GoodFree.mono _ _ _ _)
   | (with_reducible exact spec_l5Of.mono _ _ _)
   | (with_reducible exact spec_l5Pick.mono _ _ _ _ _ _ _)
   | (with_reducible exact spec_l5Within.mono _ _ _ _)
   | (with_reducible exact LeO.refl _)
   | (with_reducible exact LeO.none _)
   | (with_reducible refine LeO.ite ?_ ?_)
   | (with_reducible refine LeO.bind ?_ (fun _ => ?_))
   | exact ih0 _ _ _ _ _ _ _
   | exact spec_GoodFree.mono _ _ _ _
   | exact spec_l5Of.mono _ _ _
   | exact spec_l5Pick.mono _ _ _ _ _ _ _
   | exact spec_l5Within.mono _ _ _ _
   | exact LeO.none _
   | refine LeO.ite ?_ ?_
   | refine LeO.bind ?_ (fun _ => ?_)
theorem spec_TakeRoom.mono : ∀ a0 a1 a2 a3 a4 a5 k, LeO (spec_TakeRoom.f k a0 a1 a2 a3 a4 a5) (spec_TakeRoom.f (k + 1) a0 a1 a2 a3 a4 a5) := by
 intro a0 a1 a2 a3 a4 a5 k
 have ih0 := spec_TakeRoom.mono_l k
 unfold spec_TakeRoom.f
 repeat' first
   | (with_reducible exact ih0 _ _ _ _ _ _ _)
   | (with_reducible exact spec_GoodFree.mono _ _ _ _)
   | (with_reducible exact spec_l5Of.mono _ _ _)
   | (with_reducible exact spec_l5Pick.mono _ _ _ _ _ _ _)
   | (with_reducible exact spec_l5Within.mono _ _ _ _)
   | (with_reducible exact LeO.refl _)
   | (with_reducible exact LeO.none _)
   | (with_reducible refine LeO.ite ?_ ?_)
   | (with_reducible refine LeO.bind ?_ (fun _ => ?_))
   | exact ih0 _ _ _ _ _ _ _
   | exact spec_GoodFree.mono _ _ _ _
   | exact spec_l5Of.mono _ _ _
   | exact spec_l5Pick.mono _ _ _ _ _ _ _
   | exact spec_l5Within.mono _ _ _ _
   | exact LeO.none _
   | refine LeO.ite ?_ ?_
   | refine LeO.bind ?_ (fun _ => ?_)
def spec_TakeRoom.T7 : Bool × List (List Nat × List Nat) := (true, [([], []), ([0], [0]), ([], []), ([2], [2]), ([], []), ([4], [4]), ([], []), ([5, 6], [5, 6]), ([], []), ([3, 7, 8, 7], [3, 7, 8]), ([1, 9, 9], [1, 9]), ([], []), ([11, 10, 10, 0, 1, 2, 3, 4, 5, 6, 7, 8, 9, 10, 11], [10, 11])])
def spec_TakeRoom.B7 : List Nat := [0, 1, 0, 4, 0, 16, 0, 112, 0, 508, 1023, 0, 4095]
theorem spec_TakeRoom.tab7 : rtab .any (opsOf Try.f34 7) = spec_TakeRoom.T7 := by kernel_rfl
theorem spec_TakeRoom.bits7 : waitsOk spec_TakeRoom.T7.2 spec_TakeRoom.B7 = true := by kernel_rfl
set_option maxHeartbeats 8000000 in
set_option maxRecDepth 100000 in
theorem spec_TakeRoom.calls (k : Nat) (a0_0 : Int) (A0_1 : Option Addr) (c0_1 : Nat) (l0_1 : List (S49)) (A0_2 : Option Addr) (c0_2 : Nat) (l0_2 : List (S49)) (a1 : Int) (a2 : Int) (a3 : Int) (r1 : Int) (r2 : List (S49)) (r3 : List (S49)) (r4 : Int) (r5 : Bool) (w : World) (hr0_1 : Kd.C k49 w A0_1 l0_1.length l0_1) (hc0_1 : l0_1.length ≤ c0_1) (hr0_2 : Kd.C k49 w A0_2 l0_2.length l0_2) (hc0_2 : l0_2.length ≤ c0_2) (h : spec_TakeRoom.f k a0_0 l0_1 l0_2 a1 a2 a3 = some (r1, r2, r3, r4, r5)) :
  Calls Try.prog 34 #[.agg #[.int .i64 a0_0, .slice A0_1 l0_1.length c0_1, .slice A0_2 l0_2.length c0_2], .int .i64 a1, .int .i64 a2, .int .i64 a3] w fun e w' => ∃ v1_ v2_ : Value, e = .returned (.tuple #[.agg #[.int .i64 r1, v1_, v2_], .int .i64 r4, .bool r5]) ∧ Kd.R k49 49 w' w.heap.size (fun k_ => some k_ ≠ (v2_ : Value).ownBlock) v1_ r2 ∧ Kd.R k49 49 w' w.heap.size (fun k_ => some k_ ≠ (v1_ : Value).ownBlock) v2_ r3 ∧ Below w.heap.size w w' := by
 have hu24 := Try.underlying24
 have hu49 := Try.underlying49
 have HR0_1 := aM hr0_1
 have HC0_1 := aM hc0_1
 clear hr0_1 hc0_1
 have HR0_2 := aM hr0_2
 have HC0_2 := aM hc0_2
 clear hr0_2 hc0_2
 have HB := aM (Below.refl w.heap.size w)
 have H : ((spec_GoodFree.f k a0_0 l0_1 l0_2).bind fun t270 => (if t270 = true then ((spec_l1In.f a1 1 a0_0).bind fun t271 => (if t271 = true then ((spec_l1In.f a2 1 4).bind fun t272 => (if t272 = true then ((spec_l1In.f a3 0 (wrap64 (a0_0 - 1))).bind fun t273 => (spec_TakeRoom.j0 k a1 a2 a3 (!t273) a0_0 l0_1 l0_2)) else (spec_TakeRoom.j0 k a1 a2 a3 true a0_0 l0_1 l0_2))) else (spec_TakeRoom.j0 k a1 a2 a3 true a0_0 l0_1 l0_2))) else (spec_TakeRoom.j0 k a1 a2 a3 true a0_0 l0_1 l0_2))) = some (r1, r2, r3, r4, r5) := h
 clear h
 have HC5 := aM H
 clear H
 go_enter Try.func34, Try.ntmps34
 go_upto_region 1 with (first | ((with_reducible refine gate_dst (N := 4) rfl ?_); refine box_event ?hg (N := 4) ?hd (cs := #[.int .i64 a0_0, .slice A0_1 l0_1.length c0_1, .slice A0_2 l0_2.length c0_2]) (t := 24) ?hr ?_; (case hd => rfl); (case hg => rfl); (case hr => first | (go_simp; done) | (go_simp; rfl)); intro gb268 hg w6 hbox hb; have BK268 := aM (hbox); have GW268 := aM ((by rw [hg]; exact (zZ (zH HB.out)) : w.heap.size ≤ gb268)); have GE268 := aM ((by rw [hg]; exact (zZ (zH HB.out)) : w.heap.size ≤ gb268)); replace HB := aM (zT (zH HB.out) hb); clear hb hbox hg) | ((with_reducible refine gate_dst (N := 8) rfl ?_); refine box_event ?hg (N := 8) ?hd (cs := #[.int .i64 0, .slice none 0 0, .slice none 0 0]) (t := 24) ?hr ?_; (case hd => rfl); (case hg => rfl); (case hr => first | (go_simp; done) | (go_simp; rfl)); intro gb269 hg w7 hbox hb; have BK269 := aM (hbox); have GW269 := aM ((by rw [hg]; exact (zZ (zH HB.out)) : w.heap.size ≤ gb269)); have GE269 := aM ((by rw [hg]; exact (zZ (zH HB.out)) : w.heap.size ≤ gb269)); replace HB := aM (zT (zH HB.out) hb); have NB268_269 := nL BK268.out hg; have NB269_268 := nR BK268.out hg; replace BK268 := yK BK268.out hb; clear hb hbox hg))
 (try simp only [Act.put, qA, qB, qC])
 go_cut [36] (fun v36 wc => ∃ (kq : Nat) (x36_4 : Bool), v36 = .bool x36_4 ∧ Aside0 (spec_TakeRoom.j0 kq a1 a2 a3 x36_4 a0_0 l0_1 l0_2 = some (r1, r2, r3, r4, r5)) ∧ Aside0 (kq ≤ k) ∧ Aside0 (wc.heap[gb268]? = some (.cells #[.int .i64 a0_0, (.slice A0_1 l0_1.length c0_1), (.slice A0_2 l0_2.length c0_2)] 24 (0, 0))) ∧ Aside0 (wc.heap[gb269]? = some (.cells #[.int .i64 0, (.slice none 0 0), (.slice none 0 0)] 24 (0, 0))) ∧ Aside0 (Below w.heap.size w wc))
 case first =>
  have H := HC5.out
  clear HC5
  replace H := Option.bind_eq_some_iff.mp H
  obtain ⟨t270, A80, H⟩ := H
  replace H : (if t270 = true then ((spec_l1In.f a1 1 a0_0).bind fun t271 => (if t271 = true then ((spec_l1In.f a2 1 4).bind fun t272 => (if t272 = true then ((spec_l1In.f a3 0 (wrap64 (a0_0 - 1))).bind fun t273 => (spec_TakeRoom.j0 k a1 a2 a3 (!t273) a0_0 l0_1 l0_2)) else (spec_TakeRoom.j0 k a1 a2 a3 true a0_0 l0_1 l0_2))) else (spec_TakeRoom.j0 k a1 a2 a3 true a0_0 l0_1 l0_2))) else (spec_TakeRoom.j0 k a1 a2 a3 true a0_0 l0_1 l0_2)) = some (r1, r2, r3, r4, r5) := H
  have A8 := aM A80
  clear A80
  by_cases c9 : t270 = true
  ·subst c9
   have H1 : ((spec_l1In.f a1 1 a0_0).bind fun t271 => (if t271 = true then ((spec_l1In.f a2 1 4).bind fun t272 => (if t272 = true then ((spec_l1In.f a3 0 (wrap64 (a0_0 - 1))).bind fun t273 => (spec_TakeRoom.j0 k a1 a2 a3 (!t273) a0_0 l0_1 l0_2)) else (spec_TakeRoom.j0 k a1 a2 a3 true a0_0 l0_1 l0_2))) else (spec_TakeRoom.j0 k a1 a2 a3 true a0_0 l0_1 l0_2))) = some (r1, r2, r3, r4, r5) := by rw [if_pos rfl] at H; exact H
   clear H
   have H := H1
   clear H1
   replace H := Option.bind_eq_some_iff.mp H
   obtain ⟨t271, A100, H⟩ := H
   replace H : (if t271 = true then ((spec_l1In.f a2 1 4).bind fun t272 => (if t272 = true then ((spec_l1In.f a3 0 (wrap64 (a0_0 - 1))).bind fun t273 => (spec_TakeRoom.j0 k a1 a2 a3 (!t273) a0_0 l0_1 l0_2)) else (spec_TakeRoom.j0 k a1 a2 a3 true a0_0 l0_1 l0_2))) else (spec_TakeRoom.j0 k a1 a2 a3 true a0_0 l0_1 l0_2)) = some (r1, r2, r3, r4, r5) := H
   have A10 := aM A100
   clear A100
   by_cases c11 : t271 = true
   ·subst c11
    have H1 : ((spec_l1In.f a2 1 4).bind fun t272 => (if t272 = true then ((spec_l1In.f a3 0 (wrap64 (a0_0 - 1))).bind fun t273 => (spec_TakeRoom.j0 k a1 a2 a3 (!t273) a0_0 l0_1 l0_2)) else (spec_TakeRoom.j0 k a1 a2 a3 true a0_0 l0_1 l0_2))) = some (r1, r2, r3, r4, r5) := by rw [if_pos rfl] at H; exact H
    clear H
    have H := H1
    clear H1
    replace H := Option.bind_eq_some_iff.mp H
    obtain ⟨t272, A120, H⟩ := H
    replace H : (if t272 = true then ((spec_l1In.f a3 0 (wrap64 (a0_0 - 1))).bind fun t273 => (spec_TakeRoom.j0 k a1 a2 a3 (!t273) a0_0 l0_1 l0_2)) else (spec_TakeRoom.j0 k a1 a2 a3 true a0_0 l0_1 l0_2)) = some (r1, r2, r3, r4, r5) := H
    have A12 := aM A120
    clear A120
    by_cases c13 : t272 = true
    ·subst c13
     have H1 : ((spec_l1In.f a3 0 (wrap64 (a0_0 - 1))).bind fun t273 => (spec_TakeRoom.j0 k a1 a2 a3 (!t273) a0_0 l0_1 l0_2)) = some (r1, r2, r3, r4, r5) := by rw [if_pos rfl] at H; exact H
     clear H
     have H := H1
     clear H1
     replace H := Option.bind_eq_some_iff.mp H
     obtain ⟨t273, A140, H⟩ := H
     replace H : (spec_TakeRoom.j0 k a1 a2 a3 (!t273) a0_0 l0_1 l0_2) = some (r1, r2, r3, r4, r5) := H
     have A14 := aM A140
     clear A140
     have H' := aM H
     clear H
     have hnb15 := NB268_269.out
     have hnc15 := NB269_268.out
     have hcz16_0 : w7.cell? ⟨gb268, 0, none⟩ = some (.int .i64 a0_0) := yc BK268.out 0
     have hcz16_1 : w7.cell? ⟨gb268, 1, none⟩ = some (.slice A0_1 l0_1.length c0_1) := yc BK268.out 1
     have hcz16_2 : w7.cell? ⟨gb268, 2, none⟩ = some (.slice A0_2 l0_2.length c0_2) := yc BK268.out 2
     have hfz16_0 := yZ BK268.out 0
     have hfz16_1 := yZ BK268.out 1
     have hfz16_2 := yZ BK268.out 2
     go_wp2_with (first | ((with_reducible refine gate_callee (f := 17) rfl ?_); refine goesL_ (some 15) rfl rfl Try.func17 (by kernel_rfl) rfl #[.agg #[.int .i64 a0_0, .slice A0_1 l0_1.length c0_1, .slice A0_2 l0_2.length c0_2]] rfl (by (try simp only [List.map_toArray, List.map_cons, List.map_nil]); first | done | rfl | (simp only [List.length_drop, List.length_take]; rfl)) ?_; (with_reducible refine (spec_GoodFree.calls k a0_0 _ _ l0_1 _ _ l0_2 true _ ?side1 ?side2 ?side3 ?side4 A8.out).mono ?_); (case side1 => exact cK HR0_1.out HB.out); (case side2 => exact HC0_1.out); (case side3 => exact cK HR0_2.out HB.out); (case side4 => exact HC0_2.out); rintro e w17 ⟨rfl, hb⟩; refine ⟨_, rfl, ?_⟩; replace BK268 := yK BK268.out hb; replace BK269 := yK BK269.out hb; replace HB := aM (zT (zH HB.out) hb); (try clear hb); have hcz18_0 : w17.cell? ⟨gb268, 0, none⟩ = some (.int .i64 a0_0) := yc BK268.out 0; have hcz18_1 : w17.cell? ⟨gb268, 1, none⟩ = some (.slice A0_1 l0_1.length c0_1) := yc BK268.out 1; have hcz18_2 : w17.cell? ⟨gb268, 2, none⟩ = some (.slice A0_2 l0_2.length c0_2) := yc BK268.out 2; have hfz18_0 := yZ BK268.out 0; have hfz18_1 := yZ BK268.out 1; have hfz18_2 := yZ BK268.out 2) | (go_at_call 36; (with_reducible refine (spec_l1In.calls a1 1 a0_0 true _ A10.out).mono ?_); rintro e w' ⟨rfl, ⟨nd, rfl⟩⟩) | (go_at_call 36; (with_reducible refine (spec_l1In.calls a2 1 4 true _ A12.out).mono ?_); rintro e w' ⟨rfl, ⟨nd, rfl⟩⟩) | (go_at_call 36; (with_reducible refine (spec_l1In.calls a3 0 (wrap64 (a0_0 - 1)) t273 _ A14.out).mono ?_); rintro e w' ⟨rfl, ⟨nd, rfl⟩⟩))
     go_meet
     case rel => exact ⟨_, (!t273), (by first | rfl | (simp; done) | (simp [*]; done)), H', ⟨by first | omega | exact Nat.le_refl _⟩, ⟨yH BK268.out⟩, ⟨yH BK269.out⟩, ⟨zH HB.out⟩⟩
    ·replace c13 := Bool.eq_false_iff.mpr c13
     subst c13
     have H1 : (spec_TakeRoom.j0 k a1 a2 a3 true a0_0 l0_1 l0_2) = some (r1, r2, r3, r4, r5) := by rw [if_neg (show ¬ (false = true) by decide)] at H; exact H
     clear H
     have H := H1
     clear H1
     have H' := aM H
     clear H
     have hnb19 := NB268_269.out
     have hnc19 := NB269_268.out
     have hcz20_0 : w7.cell? ⟨gb268, 0, none⟩ = some (.int .i64 a0_0) := yc BK268.out 0
     have hcz20_1 : w7.cell? ⟨gb268, 1, none⟩ = some (.slice A0_1 l0_1.length c0_1) := yc BK268.out 1
     have hcz20_2 : w7.cell? ⟨gb268, 2, none⟩ = some (.slice A0_2 l0_2.length c0_2) := yc BK268.out 2
     have hfz20_0 := yZ BK268.out 0
     have hfz20_1 := yZ BK268.out 1
     have hfz20_2 := yZ BK268.out 2
     go_wp2_with (first | ((with_reducible refine gate_callee (f := 17) rfl ?_); refine goesL_ (some 15) rfl rfl Try.func17 (by kernel_rfl) rfl #[.agg #[.int .i64 a0_0, .slice A0_1 l0_1.length c0_1, .slice A0_2 l0_2.length c0_2]] rfl (by (try simp only [List.map_toArray, List.map_cons, List.map_nil]); first | done | rfl | (simp only [List.length_drop, List.length_take]; rfl)) ?_; (with_reducible refine (spec_GoodFree.calls k a0_0 _ _ l0_1 _ _ l0_2 true _ ?side1 ?side2 ?side3 ?side4 A8.out).mono ?_); (case side1 => exact cK HR0_1.out HB.out); (case side2 => exact HC0_1.out); (case side3 => exact cK HR0_2.out HB.out); (case side4 => exact HC0_2.out); rintro e w21 ⟨rfl, hb⟩; refine ⟨_, rfl, ?_⟩; replace BK268 := yK BK268.out hb; replace BK269 := yK BK269.out hb; replace HB := aM (zT (zH HB.out) hb); (try clear hb); have hcz22_0 : w21.cell? ⟨gb268, 0, none⟩ = some (.int .i64 a0_0) := yc BK268.out 0; have hcz22_1 : w21.cell? ⟨gb268, 1, none⟩ = some (.slice A0_1 l0_1.length c0_1) := yc BK268.out 1; have hcz22_2 : w21.cell? ⟨gb268, 2, none⟩ = some (.slice A0_2 l0_2.length c0_2) := yc BK268.out 2; have hfz22_0 := yZ BK268.out 0; have hfz22_1 := yZ BK268.out 1; have hfz22_2 := yZ BK268.out 2) | (go_at_call 36; (with_reducible refine (spec_l1In.calls a1 1 a0_0 true _ A10.out).mono ?_); rintro e w' ⟨rfl, ⟨nd, rfl⟩⟩) | (go_at_call 36; (with_reducible refine (spec_l1In.calls a2 1 4 false _ A12.out).mono ?_); rintro e w' ⟨rfl, ⟨nd, rfl⟩⟩))
     go_meet
     case rel => exact ⟨_, (true), (by first | rfl | (simp; done) | (simp [*]; done)), H', ⟨by first | omega | exact Nat.le_refl _⟩, ⟨yH BK268.out⟩, ⟨yH BK269.out⟩, ⟨zH HB.out⟩⟩
   ·replace c11 := Bool.eq_false_iff.mpr c11
    subst c11
    have H1 : (spec_TakeRoom.j0 k a1 a2 a3 true a0_0 l0_1 l0_2) = some (r1, r2, r3, r4, r5) := by rw [if_neg (show ¬ (false = true) by decide)] at H; exact H
    clear H
    have H := H1
    clear H1
    have H' := aM H
    clear H
    have hnb23 := NB268_269.out
    have hnc23 := NB269_268.out
    have hcz24_0 : w7.cell? ⟨gb268, 0, none⟩ = some (.int .i64 a0_0) := yc BK268.out 0
    have hcz24_1 : w7.cell? ⟨gb268, 1, none⟩ = some (.slice A0_1 l0_1.length c0_1) := yc BK268.out 1
    have hcz24_2 : w7.cell? ⟨gb268, 2, none⟩ = some (.slice A0_2 l0_2.length c0_2) := yc BK268.out 2
    have hfz24_0 := yZ BK268.out 0
    have hfz24_1 := yZ BK268.out 1
    have hfz24_2 := yZ BK268.out 2
    go_wp2_with (first | ((with_reducible refine gate_callee (f := 17) rfl ?_); refine goesL_ (some 15) rfl rfl Try.func17 (by kernel_rfl) rfl #[.agg #[.int .i64 a0_0, .slice A0_1 l0_1.length c0_1, .slice A0_2 l0_2.length c0_2]] rfl (by (try simp only [List.map_toArray, List.map_cons, List.map_nil]); first | done | rfl | (simp only [List.length_drop, List.length_take]; rfl)) ?_; (with_reducible refine (spec_GoodFree.calls k a0_0 _ _ l0_1 _ _ l0_2 true _ ?side1 ?side2 ?side3 ?side4 A8.out).mono ?_); (case side1 => exact cK HR0_1.out HB.out); (case side2 => exact HC0_1.out); (case side3 => exact cK HR0_2.out HB.out); (case side4 => exact HC0_2.out); rintro e w25 ⟨rfl, hb⟩; refine ⟨_, rfl, ?_⟩; replace BK268 := yK BK268.out hb; replace BK269 := yK BK269.out hb; replace HB := aM (zT (zH HB.out) hb); (try clear hb); have hcz26_0 : w25.cell? ⟨gb268, 0, none⟩ = some (.int .i64 a0_0) := yc BK268.out 0; have hcz26_1 : w25.cell? ⟨gb268, 1, none⟩ = some (.slice A0_1 l0_1.length c0_1) := yc BK268.out 1; have hcz26_2 : w25.cell? ⟨gb268, 2, none⟩ = some (.slice A0_2 l0_2.length c0_2) := yc BK268.out 2; have hfz26_0 := yZ BK268.out 0; have hfz26_1 := yZ BK268.out 1; have hfz26_2 := yZ BK268.out 2) | (go_at_call 36; (with_reducible refine (spec_l1In.calls a1 1 a0_0 false _ A10.out).mono ?_); rintro e w' ⟨rfl, ⟨nd, rfl⟩⟩))
    go_meet
    case rel => exact ⟨_, (true), (by first | rfl | (simp; done) | (simp [*]; done)), H', ⟨by first | omega | exact Nat.le_refl _⟩, ⟨yH BK268.out⟩, ⟨yH BK269.out⟩, ⟨zH HB.out⟩⟩
  ·replace c9 := Bool.eq_false_iff.mpr c9
   subst c9
   have H1 : (spec_TakeRoom.j0 k a1 a2 a3 true a0_0 l0_1 l0_2) = some (r1, r2, r3, r4, r5) := by rw [if_neg (show ¬ (false = true) by decide)] at H; exact H
   clear H
   have H := H1
   clear H1
   have H' := aM H
   clear H
   have hnb27 := NB268_269.out
   have hnc27 := NB269_268.out
   have hcz28_0 : w7.cell? ⟨gb268, 0, none⟩ = some (.int .i64 a0_0) := yc BK268.out 0
   have hcz28_1 : w7.cell? ⟨gb268, 1, none⟩ = some (.slice A0_1 l0_1.length c0_1) := yc BK268.out 1
   have hcz28_2 : w7.cell? ⟨gb268, 2, none⟩ = some (.slice A0_2 l0_2.length c0_2) := yc BK268.out 2
   have hfz28_0 := yZ BK268.out 0
   have hfz28_1 := yZ BK268.out 1
   have hfz28_2 := yZ BK268.out 2
   go_wp2_with (first | ((with_reducible refine gate_callee (f := 17) rfl ?_); refine goesL_ (some 15) rfl rfl Try.func17 (by kernel_rfl) rfl #[.agg #[.int .i64 a0_0, .slice A0_1 l0_1.length c0_1, .slice A0_2 l0_2.length c0_2]] rfl (by (try simp only [List.map_toArray, List.map_cons, List.map_nil]); first | done | rfl | (simp only [List.length_drop, List.length_take]; rfl)) ?_; (with_reducible refine (spec_GoodFree.calls k a0_0 _ _ l0_1 _ _ l0_2 false _ ?side1 ?side2 ?side3 ?side4 A8.out).mono ?_); (case side1 => exact cK HR0_1.out HB.out); (case side2 => exact HC0_1.out); (case side3 => exact cK HR0_2.out HB.out); (case side4 => exact HC0_2.out); rintro e w29 ⟨rfl, hb⟩; refine ⟨_, rfl, ?_⟩; replace BK268 := yK BK268.out hb; replace BK269 := yK BK269.out hb; replace HB := aM (zT (zH HB.out) hb); (try clear hb)))
   go_meet
   case rel => exact ⟨_, (true), (by first | rfl | (simp; done) | (simp [*]; done)), H', ⟨by first | omega | exact Nat.le_refl _⟩, ⟨yH BK268.out⟩, ⟨yH BK269.out⟩, ⟨zH HB.out⟩⟩
 case rest =>
  clear HC5
  (try clear c1); (try clear c2); (try clear p2); (try clear c3); (try clear p6); (try clear c9); (try clear c11); (try clear c13); (try clear c15); (try clear c17); (try clear c19); (try clear c23); (try clear c27); (try clear hcz16_0); (try clear hcz16_1); (try clear hcz16_2); (try clear hcz18_0); (try clear hcz18_1); (try clear hcz18_2); (try clear hcz20_0); (try clear hcz20_1); (try clear hcz20_2); (try clear hcz22_0); (try clear hcz22_1); (try clear hcz22_2); (try clear hcz24_0); (try clear hcz24_1); (try clear hcz24_2); (try clear hcz26_0); (try clear hcz26_1); (try clear hcz26_2); (try clear hcz28_0); (try clear hcz28_1); (try clear hcz28_2); (try clear hfz16_0); (try clear hfz16_1); (try clear hfz16_2); (try clear hfz18_0); (try clear hfz18_1); (try clear hfz18_2); (try clear hfz20_0); (try clear hfz20_1); (try clear hfz20_2); (try clear hfz22_0); (try clear hfz22_1); (try clear hfz22_2); (try clear hfz24_0); (try clear hfz24_1); (try clear hfz24_2); (try clear hfz26_0); (try clear hfz26_1); (try clear hfz26_2); (try clear hfz28_0); (try clear hfz28_1); (try clear hfz28_2)
  obtain ⟨kq, x36_4, rfl, HA, HJ4, BK268, BK269, HB⟩ := hcut
  cases kq with
  | zero => exact absurd HA.out (fun h_ => by change none = some _ at h_; cases h_)
  | succ kj4 =>
   have H := HA.out
   clear HA
   simp only [spec_TakeRoom.j0] at H
   by_cases c30 : x36_4 = true
   ·subst c30
    have H1 : (some (0, ([] : List (S49)), ([] : List (S49)), 0, false)) = some (r1, r2, r3, r4, r5) := by rw [if_pos rfl] at H; exact H
    clear H
    have H := H1
    clear H1
    simp only [Option.some.injEq, Prod.mk.injEq] at H
    obtain ⟨rfl, rfl, rfl, rfl, rfl⟩ := H
    have hnb31 := NB269_268.out
    have hnc31 := NB268_269.out
    have hcz32_0 : wc.cell? ⟨gb269, 0, none⟩ = some (.int .i64 0) := yc BK269.out 0
    have hcz32_1 : wc.cell? ⟨gb269, 1, none⟩ = some (.slice none 0 0) := yc BK269.out 1
    have hcz32_2 : wc.cell? ⟨gb269, 2, none⟩ = some (.slice none 0 0) := yc BK269.out 2
    have hfz32_0 := yZ BK269.out 0
    have hfz32_1 := yZ BK269.out 1
    have hfz32_2 := yZ BK269.out 2
    go_wp2
    refine bodyPost_ret (results_ctt rfl _ _ gb269 24 #[.int .i64 0, .slice none 0 0, .slice none 0 0] (0, 0) _ rfl (by (with_reducible repeat (first | refine yN ?_ _ | refine yD ?_ | refine yA ?_ _)); refine yP (cs := #[.int .i64 0, .slice none 0 0, .slice none 0 0]) ?_ 2 _ rfl; (with_reducible repeat (first | refine yN ?_ _ | refine yD ?_ | refine yA ?_ _)); refine yP (cs := #[.int .i64 0, .slice none 0 0, .slice none 0 0]) ?_ 1 _ rfl; (with_reducible repeat (first | refine yN ?_ _ | refine yD ?_ | refine yA ?_ _)); refine yP (cs := #[.int .i64 0, .slice none 0 0, .slice none 0 0]) ?_ 0 _ rfl; (with_reducible repeat (first | refine yN ?_ _ | refine yD ?_ | refine yA ?_ _)); exact BK269.out) Try.underlying24 rfl (by kernel_rfl)) rfl ?_
    exact ⟨_, _, by first | rfl | (simp [errW_none, errW_some] <;> rfl) | (simp [*, errW_none, errW_some] <;> rfl), by first | exact Kd.R_nil _ _ _ _ _ | exact Kd.N_nil _ _ _ _ _ | exact Kd.V_nil _ _ _ _ _ | exact Kd.Q_nil _ _ _ _ _ | exact Kd.S_nil _ _ _ _ _, by first | exact Kd.R_nil _ _ _ _ _ | exact Kd.N_nil _ _ _ _ _ | exact Kd.V_nil _ _ _ _ _ | exact Kd.Q_nil _ _ _ _ _ | exact Kd.S_nil _ _ _ _ _, zH HB.out⟩
   ·replace c30 := Bool.eq_false_iff.mpr c30
    subst c30
    have H1 : ((spec_l5Pick.f kj4 a0_0 l0_1 l0_2 a1 a2 a3).bind fun t274 => (if t274 < 0 then (some (0, ([] : List (S49)), ([] : List (S49)), 0, false)) else ((spec_l5Within.f kj4 l0_1 t274 a1).bind fun t276 => ((spec_l5Cut.f l0_1 t276 t274 a1).bind fun t277 => ((spec_l5Of.f kj4 a0_0 t277).bind fun bt280 => ((spec_GoodFree.f kj4 bt280.1 bt280.2.1 bt280.2.2).bind fun t288 => (if t288 = true then (some (bt280.1, bt280.2.1, bt280.2.2, t274, true)) else (some (0, ([] : List (S49)), ([] : List (S49)), 0, false))))))))) = some (r1, r2, r3, r4, r5) := by rw [if_neg (show ¬ (false = true) by decide)] at H; exact H
    clear H
    have H := H1
    clear H1
    replace H := Option.bind_eq_some_iff.mp H
    obtain ⟨t274, A330, H⟩ := H
    replace H : (if t274 < 0 then (some (0, ([] : List (S49)), ([] : List (S49)), 0, false)) else ((spec_l5Within.f kj4 l0_1 t274 a1).bind fun t276 => ((spec_l5Cut.f l0_1 t276 t274 a1).bind fun t277 => ((spec_l5Of.f kj4 a0_0 t277).bind fun bt280 => ((spec_GoodFree.f kj4 bt280.1 bt280.2.1 bt280.2.2).bind fun t288 => (if t288 = true then (some (bt280.1, bt280.2.1, bt280.2.2, t274, true)) else (some (0, ([] : List (S49)), ([] : List (S49)), 0, false)))))))) = some (r1, r2, r3, r4, r5) := H
    have A33 := aM A330
    clear A330
    by_cases c34 : t274 < 0
    ·rw [if_pos c34] at H
     have c34b0 : decide (t274 < 0) = true := decide_eq_true c34
     clear c34
     simp only [Option.some.injEq, Prod.mk.injEq] at H
     obtain ⟨rfl, rfl, rfl, rfl, rfl⟩ := H
     have hnb35 := NB268_269.out
     have hnc35 := NB269_268.out
     have hcz36_0 : wc.cell? ⟨gb268, 0, none⟩ = some (.int .i64 a0_0) := yc BK268.out 0
     have hcz36_1 : wc.cell? ⟨gb268, 1, none⟩ = some (.slice A0_1 l0_1.length c0_1) := yc BK268.out 1
     have hcz36_2 : wc.cell? ⟨gb268, 2, none⟩ = some (.slice A0_2 l0_2.length c0_2) := yc BK268.out 2
     have hfz36_0 := yZ BK268.out 0
     have hfz36_1 := yZ BK268.out 1
     have hfz36_2 := yZ BK268.out 2
     go_wp2_with (first | ((with_reducible refine gate_callee (f := 55) rfl ?_); refine goesL_ (some 42) rfl rfl Try.func55 (by kernel_rfl) rfl #[.agg #[.int .i64 a0_0, .slice A0_1 l0_1.length c0_1, .slice A0_2 l0_2.length c0_2], .int .i64 a1, .int .i64 a2, .int .i64 a3] rfl (by (try simp only [List.map_toArray, List.map_cons, List.map_nil]); first | done | rfl | (simp only [List.length_drop, List.length_take]; rfl)) ?_; (with_reducible refine (spec_l5Pick.calls kj4 a0_0 _ _ l0_1 _ _ l0_2 a1 a2 a3 t274 _ ?side1 ?side2 ?side3 ?side4 A33.out).mono ?_); (case side1 => exact cK HR0_1.out HB.out); (case side2 => exact HC0_1.out); (case side3 => exact cK HR0_2.out HB.out); (case side4 => exact HC0_2.out); rintro e w37 ⟨rfl, hb⟩; refine ⟨_, rfl, ?_⟩; replace BK268 := yK BK268.out hb; replace BK269 := yK BK269.out hb; replace HB := aM (zT (zH HB.out) hb); (try clear hb); have hcz38_0 : w37.cell? ⟨gb269, 0, none⟩ = some (.int .i64 0) := yc BK269.out 0; have hcz38_1 : w37.cell? ⟨gb269, 1, none⟩ = some (.slice none 0 0) := yc BK269.out 1; have hcz38_2 : w37.cell? ⟨gb269, 2, none⟩ = some (.slice none 0 0) := yc BK269.out 2; have hfz38_0 := yZ BK269.out 0; have hfz38_1 := yZ BK269.out 1; have hfz38_2 := yZ BK269.out 2))
     refine bodyPost_ret (results_ctt rfl _ _ gb269 24 #[.int .i64 0, .slice none 0 0, .slice none 0 0] (0, 0) _ rfl (by (with_reducible repeat (first | refine yN ?_ _ | refine yD ?_ | refine yA ?_ _)); refine yP (cs := #[.int .i64 0, .slice none 0 0, .slice none 0 0]) ?_ 2 _ rfl; (with_reducible repeat (first | refine yN ?_ _ | refine yD ?_ | refine yA ?_ _)); refine yP (cs := #[.int .i64 0, .slice none 0 0, .slice none 0 0]) ?_ 1 _ rfl; (with_reducible repeat (first | refine yN ?_ _ | refine yD ?_ | refine yA ?_ _)); refine yP (cs := #[.int .i64 0, .slice none 0 0, .slice none 0 0]) ?_ 0 _ rfl; (with_reducible repeat (first | refine yN ?_ _ | refine yD ?_ | refine yA ?_ _)); exact BK269.out) Try.underlying24 rfl (by kernel_rfl)) rfl ?_
     exact ⟨_, _, by first | rfl | (simp [errW_none, errW_some] <;> rfl) | (simp [*, errW_none, errW_some] <;> rfl), by first | exact Kd.R_nil _ _ _ _ _ | exact Kd.N_nil _ _ _ _ _ | exact Kd.V_nil _ _ _ _ _ | exact Kd.Q_nil _ _ _ _ _ | exact Kd.S_nil _ _ _ _ _, by first | exact Kd.R_nil _ _ _ _ _ | exact Kd.N_nil _ _ _ _ _ | exact Kd.V_nil _ _ _ _ _ | exact Kd.Q_nil _ _ _ _ _ | exact Kd.S_nil _ _ _ _ _, zH HB.out⟩
    ·rw [if_neg c34] at H
     have c34b0 : decide (t274 < 0) = false := decide_eq_false c34
     clear c34
     replace H := Option.bind_eq_some_iff.mp H
     obtain ⟨t276, A390, H⟩ := H
     replace H : ((spec_l5Cut.f l0_1 t276 t274 a1).bind fun t277 => ((spec_l5Of.f kj4 a0_0 t277).bind fun bt280 => ((spec_GoodFree.f kj4 bt280.1 bt280.2.1 bt280.2.2).bind fun t288 => (if t288 = true then (some (bt280.1, bt280.2.1, bt280.2.2, t274, true)) else (some (0, ([] : List (S49)), ([] : List (S49)), 0, false)))))) = some (r1, r2, r3, r4, r5) := H
     have A39 := aM A390
     clear A390
     replace H := Option.bind_eq_some_iff.mp H
     obtain ⟨t277, A400, H⟩ := H
     replace H : ((spec_l5Of.f kj4 a0_0 t277).bind fun bt280 => ((spec_GoodFree.f kj4 bt280.1 bt280.2.1 bt280.2.2).bind fun t288 => (if t288 = true then (some (bt280.1, bt280.2.1, bt280.2.2, t274, true)) else (some (0, ([] : List (S49)), ([] : List (S49)), 0, false))))) = some (r1, r2, r3, r4, r5) := H
     have A40 := aM A400
     clear A400
     replace H := Option.bind_eq_some_iff.mp H
     obtain ⟨⟨t280, t281, t284⟩, A410, H⟩ := H
     replace H : ((spec_GoodFree.f kj4 t280 t281 t284).bind fun t288 => (if t288 = true then (some (t280, t281, t284, t274, true)) else (some (0, ([] : List (S49)), ([] : List (S49)), 0, false)))) = some (r1, r2, r3, r4, r5) := H
     have A41 := aM A410
     clear A410
     replace H := Option.bind_eq_some_iff.mp H
     obtain ⟨t288, A420, H⟩ := H
     replace H : (if t288 = true then (some (t280, t281, t284, t274, true)) else (some (0, ([] : List (S49)), ([] : List (S49)), 0, false))) = some (r1, r2, r3, r4, r5) := H
     have A42 := aM A420
     clear A420
     by_cases c43 : t288 = true
     ·subst c43
      have H1 : (some (t280, t281, t284, t274, true)) = some (r1, r2, r3, r4, r5) := by rw [if_pos rfl] at H; exact H
      clear H
      have H := H1
      clear H1
      simp only [Option.some.injEq, Prod.mk.injEq] at H
      obtain ⟨rfl, rfl, rfl, rfl, rfl⟩ := H
      have hnb44 := NB268_269.out
      have hnc44 := NB269_268.out
      have hcz45_0 : wc.cell? ⟨gb268, 0, none⟩ = some (.int .i64 a0_0) := yc BK268.out 0
      have hcz45_1 : wc.cell? ⟨gb268, 1, none⟩ = some (.slice A0_1 l0_1.length c0_1) := yc BK268.out 1
      have hcz45_2 : wc.cell? ⟨gb268, 2, none⟩ = some (.slice A0_2 l0_2.length c0_2) := yc BK268.out 2
      have hfz45_0 := yZ BK268.out 0
      have hfz45_1 := yZ BK268.out 1
      have hfz45_2 := yZ BK268.out 2
      try go_wp2_with (first | ((with_reducible refine gate_callee (f := 55) rfl ?_); refine goesL_ (some 42) rfl rfl Try.func55 (by kernel_rfl) rfl #[.agg #[.int .i64 a0_0, .slice A0_1 l0_1.length c0_1, .slice A0_2 l0_2.length c0_2], .int .i64 a1, .int .i64 a2, .int .i64 a3] rfl (by (try simp only [List.map_toArray, List.map_cons, List.map_nil]); first | done | rfl | (simp only [List.length_drop, List.length_take]; rfl)) ?_; (with_reducible refine (spec_l5Pick.calls kj4 a0_0 _ _ l0_1 _ _ l0_2 a1 a2 a3 t274 _ ?side1 ?side2 ?side3 ?side4 A33.out).mono ?_); (case side1 => exact cK HR0_1.out HB.out); (case side2 => exact HC0_1.out); (case side3 => exact cK HR0_2.out HB.out); (case side4 => exact HC0_2.out); rintro e w46 ⟨rfl, hb⟩; refine ⟨_, rfl, ?_⟩; replace BK268 := yK BK268.out hb; replace BK269 := yK BK269.out hb; replace HB := aM (zT (zH HB.out) hb); (try clear hb)) | ((with_reducible refine gate_dst (N := 12) rfl ?_); refine box_event ?hg (N := 12) ?hd (cs := #[.int .i64 0, .int .i64 0]) (t := 49) ?hr ?_; (case hd => rfl); (case hg => rfl); (case hr => first | (go_simp; done) | (go_simp; rfl)); intro gb275 hg w47 hbox hb; have BK275 := aM (hbox); have GW275 := aM ((by rw [hg]; exact (zZ (zH HB.out)) : w.heap.size ≤ gb275)); have GE275 := aM ((by rw [hg]; exact (zZ (zH HB.out)) : w.heap.size ≤ gb275)); replace HB := aM (zT (zH HB.out) hb); have NB268_275 := nL BK268.out hg; have NB275_268 := nR BK268.out hg; replace BK268 := yK BK268.out hb; have NB269_275 := nL BK269.out hg; have NB275_269 := nR BK269.out hg; replace BK269 := yK BK269.out hb; clear hb hbox hg; have hnb48 := NB275_268.out; have hnc48 := NB268_275.out; have hnb49 := NB275_269.out; have hnc49 := NB269_275.out; have hcz50_0 : w47.cell? ⟨gb275, 0, none⟩ = some (.int .i64 0) := yc BK275.out 0; have hcz50_1 : w47.cell? ⟨gb275, 1, none⟩ = some (.int .i64 0) := yc BK275.out 1; have hfz50_0 := yZ BK275.out 0; have hfz50_1 := yZ BK275.out 1))
      have n0_ : Aside0 (((w47.setCell ⟨gb275, 0, none⟩ (.int .i64 t274)).setCell ⟨gb275, 1, none⟩ (.int .i64 a1)).heap[gb268]? = some (.cells #[.int .i64 a0_0, .slice A0_1 l0_1.length c0_1, .slice A0_2 l0_2.length c0_2] 24 (0, 0))) := ⟨by (with_reducible repeat (first | refine yN ?_ _ | refine yD ?_ | refine yA ?_ _)); refine yF ?_ NB268_275.out _; (with_reducible repeat (first | refine yN ?_ _ | refine yD ?_ | refine yA ?_ _)); refine yF ?_ NB268_275.out _; (with_reducible repeat (first | refine yN ?_ _ | refine yD ?_ | refine yA ?_ _)); exact BK268.out⟩
      have n1_ : Aside0 (((w47.setCell ⟨gb275, 0, none⟩ (.int .i64 t274)).setCell ⟨gb275, 1, none⟩ (.int .i64 a1)).heap[gb269]? = some (.cells #[.int .i64 0, .slice none 0 0, .slice none 0 0] 24 (0, 0))) := ⟨by (with_reducible repeat (first | refine yN ?_ _ | refine yD ?_ | refine yA ?_ _)); refine yF ?_ NB269_275.out _; (with_reducible repeat (first | refine yN ?_ _ | refine yD ?_ | refine yA ?_ _)); refine yF ?_ NB269_275.out _; (with_reducible repeat (first | refine yN ?_ _ | refine yD ?_ | refine yA ?_ _)); exact BK269.out⟩
      have n2_ : Aside0 (((w47.setCell ⟨gb275, 0, none⟩ (.int .i64 t274)).setCell ⟨gb275, 1, none⟩ (.int .i64 a1)).heap[gb275]? = some (.cells #[.int .i64 t274, .int .i64 a1] 49 (0, 0))) := ⟨by (with_reducible repeat (first | refine yN ?_ _ | refine yD ?_ | refine yA ?_ _)); refine yP (cs := #[.int .i64 t274, .int .i64 0]) ?_ 1 _ rfl; (with_reducible repeat (first | refine yN ?_ _ | refine yD ?_ | refine yA ?_ _)); refine yP (cs := #[.int .i64 0, .int .i64 0]) ?_ 0 _ rfl; (with_reducible repeat (first | refine yN ?_ _ | refine yD ?_ | refine yA ?_ _)); exact BK275.out⟩
      have n3_ : Aside0 (Below w.heap.size w ((w47.setCell ⟨gb275, 0, none⟩ (.int .i64 t274)).setCell ⟨gb275, 1, none⟩ (.int .i64 a1))) := ⟨zH HB.out⟩
      (try clear BK268); (try clear BK269); (try clear BK275); (try clear HB)
      generalize ((w47.setCell ⟨gb275, 0, none⟩ (.int .i64 t274)).setCell ⟨gb275, 1, none⟩ (.int .i64 a1)) = w51 at n0_ n1_ n2_ n3_ ⊢
      have BK268 := n0_
      have BK269 := n1_
      have BK275 := n2_
      have HB := n3_
      clear n0_ n1_ n2_ n3_
      replace BK268 := aM (yD BK268.out)
      replace BK269 := aM (yD BK269.out)
      replace BK275 := aM (yD BK275.out)
      replace HB := aM (zD HB.out)
      refine start_ (n := 13) (S := fun w' => w'.cell? ⟨gb268, 0, none⟩ = some (.int .i64 a0_0) ∧ w'.cell? ⟨gb268, 1, none⟩ = some (.slice A0_1 l0_1.length c0_1) ∧ w'.cell? ⟨gb268, 2, none⟩ = some (.slice A0_2 l0_2.length c0_2) ∧ w'.cell? ⟨gb275, 0, none⟩ = some (.int .i64 t274) ∧ w'.cell? ⟨gb275, 1, none⟩ = some (.int .i64 a1)) (ds := []) #[fF,fF,fF,fF,fF,fF,fF,fF,fF,fF,fF,fF,fF] (by kernel_rfl) rfl rfl ⟨yc BK268.out 0, yc BK268.out 1, yc BK268.out 2, yc BK275.out 0, yc BK275.out 1⟩ (fun hHeld => ?_); refine with_tabW spec_TakeRoom.tab7 spec_TakeRoom.bits7 (fun HT_ HW_ => ?_)
      generalize w51.drew = w52 at BK268 BK269 BK275 HB hHeld ⊢
      refine pure_ (i := 0) (N := some 49) (v := ?_) (a' := ?_) #[tT,fF,fF,fF,fF,fF,fF,fF,fF,fF,fF,fF,fF] rfl rfl (any_of HT_.out (by kernel_rfl)) (fun _ _ _ h => h) (Or.inl ⟨by rfl, ?_⟩) ?_ ?_
      rotate_left
      ·intro w'
       go_simp
       with_reducible rfl
      rotate_left
      ·simp only [Act.put, qA, qB, qC, i64_w, i32_w]
       rfl
      refine pure_ (i := 2) (N := some 51) (v := ?_) (a' := ?_) #[tT,fF,tT,fF,fF,fF,fF,fF,fF,fF,fF,fF,fF] rfl rfl (any_of HT_.out (by kernel_rfl)) (fun _ _ _ h => h) (Or.inl ⟨by rfl, ?_⟩) ?_ ?_
      rotate_left
      ·intro w'
       go_simp
       with_reducible rfl
      rotate_left
      ·simp only [Act.put, qA, qB, qC, i64_w, i32_w]
       rfl
      refine pure_ (i := 4) (N := some 53) (v := ?_) (a' := ?_) #[tT,fF,tT,fF,tT,fF,fF,fF,fF,fF,fF,fF,fF] rfl rfl (any_of HT_.out (by kernel_rfl)) (fun _ _ _ h => h) (Or.inl ⟨by rfl, ?_⟩) ?_ ?_
      rotate_left
      ·intro w'
       go_simp
       with_reducible rfl
      rotate_left
      ·simp only [Act.put, qA, qB, qC, i64_w, i32_w]
       rfl
      refine take_ (i := 1) (N := some 50) (v := ?_) (a' := ?_) #[tT,tT,tT,fF,tT,fF,fF,fF,fF,fF,fF,fF,fF] rfl rfl (take_ofW HT_.out HW_.out (by kernel_rfl)) (fun _ _ _ h => h) (Or.inl ⟨by rfl, ?_⟩) hHeld ?_ ?_
      rotate_left
      ·rintro w' ⟨s0, s1, s2, s3, s4⟩
       go_simp
       with_reducible rfl
      rotate_left
      ·simp only [Act.put, qA, qB, qC, i64_w, i32_w]
       rfl
      refine take_ (i := 3) (N := some 52) (v := ?_) (a' := ?_) #[tT,tT,tT,tT,tT,fF,fF,fF,fF,fF,fF,fF,fF] rfl rfl (take_ofW HT_.out HW_.out (by kernel_rfl)) (fun _ _ _ h => h) (Or.inl ⟨by rfl, ?_⟩) hHeld ?_ ?_
      rotate_left
      ·rintro w' ⟨s0, s1, s2, s3, s4⟩
       go_simp
       with_reducible rfl
      rotate_left
      ·simp only [Act.put, qA, qB, qC, i64_w, i32_w]
       rfl
      refine take_ (i := 5) (N := some 54) (v := ?_) (a' := ?_) #[tT,tT,tT,tT,tT,tT,fF,fF,fF,fF,fF,fF,fF] rfl rfl (take_ofW HT_.out HW_.out (by kernel_rfl)) (fun _ _ _ h => h) (Or.inl ⟨by rfl, ?_⟩) hHeld ?_ ?_
      rotate_left
      ·rintro w' ⟨s0, s1, s2, s3, s4⟩
       go_simp
       with_reducible rfl
      rotate_left
      ·simp only [Act.put, qA, qB, qC, i64_w, i32_w]
       rfl
      refine take_ (i := 6) (N := some 55) (v := ?_) (a' := ?_) #[tT,tT,tT,tT,tT,tT,tT,fF,fF,fF,fF,fF,fF] rfl rfl (take_ofW HT_.out HW_.out (by kernel_rfl)) (fun _ _ _ h => h) (Or.inl ⟨by rfl, ?_⟩) hHeld ?_ ?_
      rotate_left
      ·rintro w' ⟨s0, s1, s2, s3, s4⟩
       go_simp
       with_reducible rfl
      rotate_left
      ·simp only [Act.put, qA, qB, qC, i64_w, i32_w]
       rfl
      refine take_ (i := 8) (N := some 57) (v := ?_) (a' := ?_) #[tT,tT,tT,tT,tT,tT,tT,fF,tT,fF,fF,fF,fF] rfl rfl (take_ofW HT_.out HW_.out (by kernel_rfl)) (fun _ _ _ h => h) (Or.inl ⟨by rfl, ?_⟩) hHeld ?_ ?_
      rotate_left
      ·rintro w' ⟨s0, s1, s2, s3, s4⟩
       go_simp
       with_reducible rfl
      rotate_left
      ·simp only [Act.put, qA, qB, qC, i64_w, i32_w]
       rfl
      refine join_ (σ := Value × Value × Value × Nat) 1 #[tT,tT,tT,tT,tT,tT,tT,tT,tT,tT,tT,tT,fF] (fun s_ => [(56, .int .i64 t276), (58, s_.1), (59, .agg #[.int .i64 t280, s_.2.1, s_.2.2.1]), (13, .pointer (some ⟨s_.2.2.2, 0, none⟩))]) (fun s_ w' => (w'.cell? ⟨gb268, 0, none⟩ = some (.int .i64 a0_0) ∧ w'.cell? ⟨gb268, 1, none⟩ = some (.slice A0_1 l0_1.length c0_1) ∧ w'.cell? ⟨gb268, 2, none⟩ = some (.slice A0_2 l0_2.length c0_2) ∧ w'.cell? ⟨gb275, 0, none⟩ = some (.int .i64 t274) ∧ w'.cell? ⟨gb275, 1, none⟩ = some (.int .i64 a1)) ∧ (Kd.R k49 49 w' w.heap.size (fun k_ => some k_ ≠ (s_.2.1 : Value).ownBlock ∧ some k_ ≠ (s_.2.2.1 : Value).ownBlock ∧ k_ ≠ gb275) s_.1 t277) ∧ (Kd.R k49 49 w' w.heap.size (fun k_ => some k_ ≠ (s_.1 : Value).ownBlock ∧ some k_ ≠ (s_.2.2.1 : Value).ownBlock ∧ k_ ≠ gb275) s_.2.1 t281) ∧ (Kd.R k49 49 w' w.heap.size (fun k_ => some k_ ≠ (s_.1 : Value).ownBlock ∧ some k_ ≠ (s_.2.1 : Value).ownBlock ∧ k_ ≠ gb275) s_.2.2.1 t284) ∧ (w'.heap[gb268]? = some (.cells #[.int .i64 a0_0, .slice A0_1 l0_1.length c0_1, .slice A0_2 l0_2.length c0_2] 24 (0, 0))) ∧ (w'.heap[gb269]? = some (.cells #[.int .i64 0, .slice none 0 0, .slice none 0 0] 24 (0, 0))) ∧ (w'.heap[gb275]? = some (.cells #[.int .i64 t274, .int .i64 a1] 49 (0, 0))) ∧ (w'.heap[s_.2.2.2]? = some (.cells #[.int .i64 0, .slice none 0 0, .slice none 0 0] 24 (0, 0))) ∧ (w.heap.size ≤ s_.2.2.2) ∧ (w.heap.size ≤ s_.2.2.2) ∧ (gb268 ≠ s_.2.2.2) ∧ (s_.2.2.2 ≠ gb268) ∧ (gb269 ≠ s_.2.2.2) ∧ (s_.2.2.2 ≠ gb269) ∧ (gb275 ≠ s_.2.2.2) ∧ (s_.2.2.2 ≠ gb275) ∧ (Below w.heap.size w w')) ?_ ?_
      rotate_left
      ·intro hCont
       refine two_ (i := 7) (j := 11) (Ni := some 56) (Nj := some 13) #[tT,tT,tT,tT,tT,tT,tT,tT,tT,fF,fF,fF,fF] #[tT,tT,tT,tT,tT,tT,tT,fF,tT,fF,fF,tT,fF] rfl rfl rfl rfl (two_of HT_.out (by kernel_rfl)) (by decide) (by decide) (fun K hK => ?_) (fun K hK => ?_)
       ·skip
        refine gS Try.func47 (by kernel_rfl) rfl #[.slice A0_1 l0_1.length c0_1, .agg #[.int .i64 t274, .int .i64 a1]] (by rfl) rfl rfl ?_
        with_reducible refine (spec_l5Within.calls kj4 _ _ l0_1 t274 a1 t276 _ ?side1 ?side2 A39.out).mono ?_
        (case side1 => exact cK HR0_1.out HB.out)
        (case side2 => exact HC0_1.out)
        rintro e w53 ⟨rfl, hb⟩
        refine ⟨_, rfl, ?_⟩
        replace BK268 := yK BK268.out hb
        replace BK269 := yK BK269.out hb
        replace BK275 := yK BK275.out hb
        replace HB := aM (zT (zH HB.out) hb)
        (try clear hb)
        refine hK.out _ _ ⟨yc BK268.out 0, yc BK268.out 1, yc BK268.out 2, yc BK275.out 0, yc BK275.out 1⟩ (fun hHeld => ?_)
        clear hK K
        refine norm_ (a' := ?_) ?_ ?_
        rotate_left
        ·show Act.put _ (some 56) _ = _
         simp only [Act.put, qA, qB, qC, i64_w, i32_w]
         rfl
        refine two_ (i := 9) (j := 11) (Ni := some 58) (Nj := some 13) #[tT,tT,tT,tT,tT,tT,tT,tT,tT,tT,fF,fF,fF] #[tT,tT,tT,tT,tT,tT,tT,tT,tT,fF,fF,tT,fF] rfl rfl rfl rfl (two_of HT_.out (by kernel_rfl)) (by decide) (by decide) (fun K hK => ?_) (fun K hK => ?_)
        ·skip
         refine gS Try.func54 (by kernel_rfl) rfl #[.slice A0_1 l0_1.length c0_1, .int .i64 t276, .agg #[.int .i64 t274, .int .i64 a1]] (by rfl) rfl rfl ?_
         with_reducible refine (spec_l5Cut.calls _ _ l0_1 t276 t274 a1 t277 _ ?side1 ?side2 A40.out).mono ?_
         (case side1 => exact cK HR0_1.out HB.out)
         (case side2 => exact HC0_1.out)
         rintro e w54 ⟨v278, rfl, ho0, hb⟩
         refine ⟨_, rfl, ?_⟩
         have HO279 := aM (xL (Kd.R_newB ho0 (g := gb275) (o := .cells #[.int .i64 t274, .int .i64 a1] 49 (0, 0)) (yH BK275.out)) (zZ (zH HB.out)))
         replace BK268 := yK BK268.out hb
         replace BK269 := yK BK269.out hb
         replace BK275 := yK BK275.out hb
         replace HB := aM (zT (zH HB.out) hb)
         (try clear hb); (try clear ho0)
         obtain ⟨Ao55, co55, eo55⟩ := Kd.R_slice HO279.out
         (first | subst eo55 | obtain ⟨rfl, rfl⟩ := eI eo55)
         refine hK.out _ _ ⟨yc BK268.out 0, yc BK268.out 1, yc BK268.out 2, yc BK275.out 0, yc BK275.out 1⟩ (fun hHeld => ?_)
         clear hK K
         refine norm_ (a' := ?_) ?_ ?_
         rotate_left
         ·show Act.put _ (some 58) _ = _
          simp only [Act.put, qA, qB, qC, i64_w, i32_w]
          rfl
         refine two_ (i := 10) (j := 11) (Ni := some 59) (Nj := some 13) #[tT,tT,tT,tT,tT,tT,tT,tT,tT,tT,tT,fF,fF] #[tT,tT,tT,tT,tT,tT,tT,tT,tT,tT,fF,tT,fF] rfl rfl rfl rfl (two_of HT_.out (by kernel_rfl)) (by decide) (by decide) (fun K hK => ?_) (fun K hK => ?_)
         ·skip
          refine gS Try.func37 (by kernel_rfl) rfl #[.int .i64 a0_0, .slice Ao55 t277.length co55] (by rfl) rfl rfl ?_
          with_reducible refine (spec_l5Of.calls kj4 a0_0 _ _ t277 t280 t281 t284 _ ?side1 ?side2 A41.out).mono ?_
          (case side1 => repeat (first | exact (Kd.R_reads' HO279.out).2.2 | (with_reducible refine cA ?_ _) | (with_reducible refine cN ?_ _) | (with_reducible refine cD ?_)))
          (case side2 => exact (Kd.R_reads' HO279.out).2.1)
          rintro e w56 ⟨v282, v285, rfl, ho0, ho1, hb⟩
          refine ⟨_, rfl, ?_⟩
          have HO283 := aM (xL (Kd.R_newB (Kd.R_new' ho0 (Kd.R_lt (xH HO279.out))) (g := gb275) (o := .cells #[.int .i64 t274, .int .i64 a1] 49 (0, 0)) (yH BK275.out)) (zZ (zH HB.out)))
          have HO286 := aM (xL (Kd.R_newB (Kd.R_new' ho1 (Kd.R_lt (xH HO279.out))) (g := gb275) (o := .cells #[.int .i64 t274, .int .i64 a1] 49 (0, 0)) (yH BK275.out)) (zZ (zH HB.out)))
          replace HO279 := aM (xM (Kd.R_told (Kd.R_told (Kd.R_old (xH HO279.out) hb) (Kd.R_base ho0)) (Kd.R_base ho1)) (fun _ h_ => h_.1))
          replace BK268 := yK BK268.out hb
          replace BK269 := yK BK269.out hb
          replace BK275 := yK BK275.out hb
          replace HB := aM (zT (zH HB.out) hb)
          (try clear hb); (try clear ho0); (try clear ho1)
          refine hK.out _ _ ⟨yc BK268.out 0, yc BK268.out 1, yc BK268.out 2, yc BK275.out 0, yc BK275.out 1⟩ (fun hHeld => ?_)
          clear hK K
          refine norm_ (a' := ?_) ?_ ?_
          rotate_left
          ·show Act.put _ (some 59) _ = _
           simp only [Act.put, qA, qB, qC, i64_w, i32_w]
           rfl
          refine one_ (i := 11) (N := some 13) #[tT,tT,tT,tT,tT,tT,tT,tT,tT,tT,tT,tT,fF] rfl rfl (one_of HT_.out (by kernel_rfl)) (by decide) (fun K hK => ?_)
          refine box_step ?hg (N := 13) ?hd (cs := #[.int .i64 0, .slice none 0 0, .slice none 0 0]) (t := 24) ?hr ?_; (case hd => rfl); (case hg => rfl); (case hr => first | (go_simp; done) | (go_simp; rfl))
          intro gb287 hg w57 hbox hb
          replace HO279 := xK HO279.out hb
          replace HO283 := xK HO283.out hb
          replace HO286 := xK HO286.out hb
          have BK287 := aM (hbox)
          have GW287 := aM ((by rw [hg]; exact (zZ (zH HB.out)) : w.heap.size ≤ gb287))
          have GE287 := aM ((by rw [hg]; exact (zZ (zH HB.out)) : w.heap.size ≤ gb287))
          replace HB := aM (zT (zH HB.out) hb)
          have NB268_287 := nL BK268.out hg
          have NB287_268 := nR BK268.out hg
          replace BK268 := yK BK268.out hb
          have NB269_287 := nL BK269.out hg
          have NB287_269 := nR BK269.out hg
          replace BK269 := yK BK269.out hb
          have NB275_287 := nL BK275.out hg
          have NB287_275 := nR BK275.out hg
          replace BK275 := yK BK275.out hb
          clear hb hbox hg
          refine hK.out _ _ ⟨yc BK268.out 0, yc BK268.out 1, yc BK268.out 2, yc BK275.out 0, yc BK275.out 1⟩ (fun hHeld => ?_)
          clear hK K
          refine norm_ (a' := ?_) ?_ ?_
          rotate_left
          ·show Act.put _ (some 13) _ = _
           simp only [Act.put, qA, qB, qC, i64_w, i32_w]
           rfl
          exact norm_ (by simp only [putAll, Act.put, qA, qB, qC]) (hCont (.slice Ao55 t277.length co55, v282, v285, gb287) _ ⟨hHeld, (xH (xM HO279.out (fun _ hk => ⟨hk.1.2, ⟨hk.2, hk.1.1.2⟩⟩))), (xH (xM HO283.out (fun _ hk => ⟨hk.1.2, ⟨hk.1.1, hk.2⟩⟩))), (xH (xM HO286.out (fun _ hk => ⟨hk.1.2, ⟨hk.1.1, hk.2⟩⟩))), (yH BK268.out), (yH BK269.out), (yH BK275.out), (yH BK287.out), GW287.out, GE287.out, NB268_287.out, NB287_268.out, NB269_287.out, NB287_269.out, NB275_287.out, NB287_275.out, (zH HB.out)⟩)
         ·skip
          refine box_step ?hg (N := 13) ?hd (cs := #[.int .i64 0, .slice none 0 0, .slice none 0 0]) (t := 24) ?hr ?_; (case hd => rfl); (case hg => rfl); (case hr => first | (go_simp; done) | (go_simp; rfl))
          intro gb287 hg w55 hbox hb
          replace HO279 := xK HO279.out hb
          have BK287 := aM (hbox)
          have GW287 := aM ((by rw [hg]; exact (zZ (zH HB.out)) : w.heap.size ≤ gb287))
          have GE287 := aM ((by rw [hg]; exact (zZ (zH HB.out)) : w.heap.size ≤ gb287))
          replace HB := aM (zT (zH HB.out) hb)
          have NB268_287 := nL BK268.out hg
          have NB287_268 := nR BK268.out hg
          replace BK268 := yK BK268.out hb
          have NB269_287 := nL BK269.out hg
          have NB287_269 := nR BK269.out hg
          replace BK269 := yK BK269.out hb
          have NB275_287 := nL BK275.out hg
          have NB287_275 := nR BK275.out hg
          replace BK275 := yK BK275.out hb
          clear hb hbox hg
          obtain ⟨Ao56, co56, eo56⟩ := Kd.R_slice HO279.out
          (first | subst eo56 | obtain ⟨rfl, rfl⟩ := eI eo56)
          refine hK.out _ _ ⟨yc BK268.out 0, yc BK268.out 1, yc BK268.out 2, yc BK275.out 0, yc BK275.out 1⟩ (fun hHeld => ?_)
          clear hK K
          refine norm_ (a' := ?_) ?_ ?_
          rotate_left
          ·show Act.put _ (some 13) _ = _
           simp only [Act.put, qA, qB, qC, i64_w, i32_w]
           rfl
          refine one_ (i := 10) (N := some 59) #[tT,tT,tT,tT,tT,tT,tT,tT,tT,tT,tT,tT,fF] rfl rfl (one_of HT_.out (by kernel_rfl)) (by decide) (fun K hK => ?_)
          refine gS Try.func37 (by kernel_rfl) rfl #[.int .i64 a0_0, .slice Ao56 t277.length co56] (by rfl) rfl rfl ?_
          with_reducible refine (spec_l5Of.calls kj4 a0_0 _ _ t277 t280 t281 t284 _ ?side1 ?side2 A41.out).mono ?_
          (case side1 => repeat (first | exact (Kd.R_reads' HO279.out).2.2 | (with_reducible refine cA ?_ _) | (with_reducible refine cN ?_ _) | (with_reducible refine cD ?_)))
          (case side2 => exact (Kd.R_reads' HO279.out).2.1)
          rintro e w57 ⟨v282, v285, rfl, ho0, ho1, hb⟩
          refine ⟨_, rfl, ?_⟩
          have HO283 := aM (xL (Kd.R_newB (Kd.R_new' ho0 (Kd.R_lt (xH HO279.out))) (g := gb275) (o := .cells #[.int .i64 t274, .int .i64 a1] 49 (0, 0)) (yH BK275.out)) (zZ (zH HB.out)))
          have HO286 := aM (xL (Kd.R_newB (Kd.R_new' ho1 (Kd.R_lt (xH HO279.out))) (g := gb275) (o := .cells #[.int .i64 t274, .int .i64 a1] 49 (0, 0)) (yH BK275.out)) (zZ (zH HB.out)))
          replace HO279 := aM (xM (Kd.R_told (Kd.R_told (Kd.R_old (xH HO279.out) hb) (Kd.R_base ho0)) (Kd.R_base ho1)) (fun _ h_ => h_.1))
          replace BK268 := yK BK268.out hb
          replace BK269 := yK BK269.out hb
          replace BK275 := yK BK275.out hb
          replace BK287 := yK BK287.out hb
          replace HB := aM (zT (zH HB.out) hb)
          (try clear hb); (try clear ho0); (try clear ho1)
          refine hK.out _ _ ⟨yc BK268.out 0, yc BK268.out 1, yc BK268.out 2, yc BK275.out 0, yc BK275.out 1⟩ (fun hHeld => ?_)
          clear hK K
          refine norm_ (a' := ?_) ?_ ?_
          rotate_left
          ·show Act.put _ (some 59) _ = _
           simp only [Act.put, qA, qB, qC, i64_w, i32_w]
           rfl
          exact norm_ (by simp only [putAll, Act.put, qA, qB, qC]) (hCont (.slice Ao56 t277.length co56, v282, v285, gb287) _ ⟨hHeld, (xH (xM HO279.out (fun _ hk => ⟨hk.1.2, ⟨hk.2, hk.1.1.2⟩⟩))), (xH (xM HO283.out (fun _ hk => ⟨hk.1.2, ⟨hk.1.1, hk.2⟩⟩))), (xH (xM HO286.out (fun _ hk => ⟨hk.1.2, ⟨hk.1.1, hk.2⟩⟩))), (yH BK268.out), (yH BK269.out), (yH BK275.out), (yH BK287.out), GW287.out, GE287.out, NB268_287.out, NB287_268.out, NB269_287.out, NB287_269.out, NB275_287.out, NB287_275.out, (zH HB.out)⟩)
        ·skip
         refine box_step ?hg (N := 13) ?hd (cs := #[.int .i64 0, .slice none 0 0, .slice none 0 0]) (t := 24) ?hr ?_; (case hd => rfl); (case hg => rfl); (case hr => first | (go_simp; done) | (go_simp; rfl))
         intro gb287 hg w54 hbox hb
         have BK287 := aM (hbox)
         have GW287 := aM ((by rw [hg]; exact (zZ (zH HB.out)) : w.heap.size ≤ gb287))
         have GE287 := aM ((by rw [hg]; exact (zZ (zH HB.out)) : w.heap.size ≤ gb287))
         replace HB := aM (zT (zH HB.out) hb)
         have NB268_287 := nL BK268.out hg
         have NB287_268 := nR BK268.out hg
         replace BK268 := yK BK268.out hb
         have NB269_287 := nL BK269.out hg
         have NB287_269 := nR BK269.out hg
         replace BK269 := yK BK269.out hb
         have NB275_287 := nL BK275.out hg
         have NB287_275 := nR BK275.out hg
         replace BK275 := yK BK275.out hb
         clear hb hbox hg
         refine hK.out _ _ ⟨yc BK268.out 0, yc BK268.out 1, yc BK268.out 2, yc BK275.out 0, yc BK275.out 1⟩ (fun hHeld => ?_)
         clear hK K
         refine norm_ (a' := ?_) ?_ ?_
         rotate_left
         ·show Act.put _ (some 13) _ = _
          simp only [Act.put, qA, qB, qC, i64_w, i32_w]
          rfl
         refine one_ (i := 9) (N := some 58) #[tT,tT,tT,tT,tT,tT,tT,tT,tT,tT,fF,tT,fF] rfl rfl (one_of HT_.out (by kernel_rfl)) (by decide) (fun K hK => ?_)
         refine gS Try.func54 (by kernel_rfl) rfl #[.slice A0_1 l0_1.length c0_1, .int .i64 t276, .agg #[.int .i64 t274, .int .i64 a1]] (by rfl) rfl rfl ?_
         with_reducible refine (spec_l5Cut.calls _ _ l0_1 t276 t274 a1 t277 _ ?side1 ?side2 A40.out).mono ?_
         (case side1 => exact cK HR0_1.out HB.out)
         (case side2 => exact HC0_1.out)
         rintro e w55 ⟨v278, rfl, ho0, hb⟩
         refine ⟨_, rfl, ?_⟩
         have HO279 := aM (xL (Kd.R_newB ho0 (g := gb275) (o := .cells #[.int .i64 t274, .int .i64 a1] 49 (0, 0)) (yH BK275.out)) (zZ (zH HB.out)))
         replace BK268 := yK BK268.out hb
         replace BK269 := yK BK269.out hb
         replace BK275 := yK BK275.out hb
         replace BK287 := yK BK287.out hb
         replace HB := aM (zT (zH HB.out) hb)
         (try clear hb); (try clear ho0)
         obtain ⟨Ao56, co56, eo56⟩ := Kd.R_slice HO279.out
         (first | subst eo56 | obtain ⟨rfl, rfl⟩ := eI eo56)
         refine hK.out _ _ ⟨yc BK268.out 0, yc BK268.out 1, yc BK268.out 2, yc BK275.out 0, yc BK275.out 1⟩ (fun hHeld => ?_)
         clear hK K
         refine norm_ (a' := ?_) ?_ ?_
         rotate_left
         ·show Act.put _ (some 58) _ = _
          simp only [Act.put, qA, qB, qC, i64_w, i32_w]
          rfl
         refine one_ (i := 10) (N := some 59) #[tT,tT,tT,tT,tT,tT,tT,tT,tT,tT,tT,tT,fF] rfl rfl (one_of HT_.out (by kernel_rfl)) (by decide) (fun K hK => ?_)
         refine gS Try.func37 (by kernel_rfl) rfl #[.int .i64 a0_0, .slice Ao56 t277.length co56] (by rfl) rfl rfl ?_
         with_reducible refine (spec_l5Of.calls kj4 a0_0 _ _ t277 t280 t281 t284 _ ?side1 ?side2 A41.out).mono ?_
         (case side1 => repeat (first | exact (Kd.R_reads' HO279.out).2.2 | (with_reducible refine cA ?_ _) | (with_reducible refine cN ?_ _) | (with_reducible refine cD ?_)))
         (case side2 => exact (Kd.R_reads' HO279.out).2.1)
         rintro e w57 ⟨v282, v285, rfl, ho0, ho1, hb⟩
         refine ⟨_, rfl, ?_⟩
         have HO283 := aM (xL (Kd.R_newB (Kd.R_new' ho0 (Kd.R_lt (xH HO279.out))) (g := gb275) (o := .cells #[.int .i64 t274, .int .i64 a1] 49 (0, 0)) (yH BK275.out)) (zZ (zH HB.out)))
         have HO286 := aM (xL (Kd.R_newB (Kd.R_new' ho1 (Kd.R_lt (xH HO279.out))) (g := gb275) (o := .cells #[.int .i64 t274, .int .i64 a1] 49 (0, 0)) (yH BK275.out)) (zZ (zH HB.out)))
         replace HO279 := aM (xM (Kd.R_told (Kd.R_told (Kd.R_old (xH HO279.out) hb) (Kd.R_base ho0)) (Kd.R_base ho1)) (fun _ h_ => h_.1))
         replace BK268 := yK BK268.out hb
         replace BK269 := yK BK269.out hb
         replace BK275 := yK BK275.out hb
         replace BK287 := yK BK287.out hb
         replace HB := aM (zT (zH HB.out) hb)
         (try clear hb); (try clear ho0); (try clear ho1)
         refine hK.out _ _ ⟨yc BK268.out 0, yc BK268.out 1, yc BK268.out 2, yc BK275.out 0, yc BK275.out 1⟩ (fun hHeld => ?_)
         clear hK K
         refine norm_ (a' := ?_) ?_ ?_
         rotate_left
         ·show Act.put _ (some 59) _ = _
          simp only [Act.put, qA, qB, qC, i64_w, i32_w]
          rfl
         exact norm_ (by simp only [putAll, Act.put, qA, qB, qC]) (hCont (.slice Ao56 t277.length co56, v282, v285, gb287) _ ⟨hHeld, (xH (xM HO279.out (fun _ hk => ⟨hk.1.2, ⟨hk.2, hk.1.1.2⟩⟩))), (xH (xM HO283.out (fun _ hk => ⟨hk.1.2, ⟨hk.1.1, hk.2⟩⟩))), (xH (xM HO286.out (fun _ hk => ⟨hk.1.2, ⟨hk.1.1, hk.2⟩⟩))), (yH BK268.out), (yH BK269.out), (yH BK275.out), (yH BK287.out), GW287.out, GE287.out, NB268_287.out, NB287_268.out, NB269_287.out, NB287_269.out, NB275_287.out, NB287_275.out, (zH HB.out)⟩)
       ·skip
        refine box_step ?hg (N := 13) ?hd (cs := #[.int .i64 0, .slice none 0 0, .slice none 0 0]) (t := 24) ?hr ?_; (case hd => rfl); (case hg => rfl); (case hr => first | (go_simp; done) | (go_simp; rfl))
        intro gb287 hg w53 hbox hb
        have BK287 := aM (hbox)
        have GW287 := aM ((by rw [hg]; exact (zZ (zH HB.out)) : w.heap.size ≤ gb287))
        have GE287 := aM ((by rw [hg]; exact (zZ (zH HB.out)) : w.heap.size ≤ gb287))
        replace HB := aM (zT (zH HB.out) hb)
        have NB268_287 := nL BK268.out hg
        have NB287_268 := nR BK268.out hg
        replace BK268 := yK BK268.out hb
        have NB269_287 := nL BK269.out hg
        have NB287_269 := nR BK269.out hg
        replace BK269 := yK BK269.out hb
        have NB275_287 := nL BK275.out hg
        have NB287_275 := nR BK275.out hg
        replace BK275 := yK BK275.out hb
        clear hb hbox hg
        refine hK.out _ _ ⟨yc BK268.out 0, yc BK268.out 1, yc BK268.out 2, yc BK275.out 0, yc BK275.out 1⟩ (fun hHeld => ?_)
        clear hK K
        refine norm_ (a' := ?_) ?_ ?_
        rotate_left
        ·show Act.put _ (some 13) _ = _
         simp only [Act.put, qA, qB, qC, i64_w, i32_w]
         rfl
        refine one_ (i := 7) (N := some 56) #[tT,tT,tT,tT,tT,tT,tT,tT,tT,fF,fF,tT,fF] rfl rfl (one_of HT_.out (by kernel_rfl)) (by decide) (fun K hK => ?_)
        refine gS Try.func47 (by kernel_rfl) rfl #[.slice A0_1 l0_1.length c0_1, .agg #[.int .i64 t274, .int .i64 a1]] (by rfl) rfl rfl ?_
        with_reducible refine (spec_l5Within.calls kj4 _ _ l0_1 t274 a1 t276 _ ?side1 ?side2 A39.out).mono ?_
        (case side1 => exact cK HR0_1.out HB.out)
        (case side2 => exact HC0_1.out)
        rintro e w54 ⟨rfl, hb⟩
        refine ⟨_, rfl, ?_⟩
        replace BK268 := yK BK268.out hb
        replace BK269 := yK BK269.out hb
        replace BK275 := yK BK275.out hb
        replace BK287 := yK BK287.out hb
        replace HB := aM (zT (zH HB.out) hb)
        (try clear hb)
        refine hK.out _ _ ⟨yc BK268.out 0, yc BK268.out 1, yc BK268.out 2, yc BK275.out 0, yc BK275.out 1⟩ (fun hHeld => ?_)
        clear hK K
        refine norm_ (a' := ?_) ?_ ?_
        rotate_left
        ·show Act.put _ (some 56) _ = _
         simp only [Act.put, qA, qB, qC, i64_w, i32_w]
         rfl
        refine one_ (i := 9) (N := some 58) #[tT,tT,tT,tT,tT,tT,tT,tT,tT,tT,fF,tT,fF] rfl rfl (one_of HT_.out (by kernel_rfl)) (by decide) (fun K hK => ?_)
        refine gS Try.func54 (by kernel_rfl) rfl #[.slice A0_1 l0_1.length c0_1, .int .i64 t276, .agg #[.int .i64 t274, .int .i64 a1]] (by rfl) rfl rfl ?_
        with_reducible refine (spec_l5Cut.calls _ _ l0_1 t276 t274 a1 t277 _ ?side1 ?side2 A40.out).mono ?_
        (case side1 => exact cK HR0_1.out HB.out)
        (case side2 => exact HC0_1.out)
        rintro e w55 ⟨v278, rfl, ho0, hb⟩
        refine ⟨_, rfl, ?_⟩
        have HO279 := aM (xL (Kd.R_newB ho0 (g := gb275) (o := .cells #[.int .i64 t274, .int .i64 a1] 49 (0, 0)) (yH BK275.out)) (zZ (zH HB.out)))
        replace BK268 := yK BK268.out hb
        replace BK269 := yK BK269.out hb
        replace BK275 := yK BK275.out hb
        replace BK287 := yK BK287.out hb
        replace HB := aM (zT (zH HB.out) hb)
        (try clear hb); (try clear ho0)
        obtain ⟨Ao56, co56, eo56⟩ := Kd.R_slice HO279.out
        (first | subst eo56 | obtain ⟨rfl, rfl⟩ := eI eo56)
        refine hK.out _ _ ⟨yc BK268.out 0, yc BK268.out 1, yc BK268.out 2, yc BK275.out 0, yc BK275.out 1⟩ (fun hHeld => ?_)
        clear hK K
        refine norm_ (a' := ?_) ?_ ?_
        rotate_left
        ·show Act.put _ (some 58) _ = _
         simp only [Act.put, qA, qB, qC, i64_w, i32_w]
         rfl
        refine one_ (i := 10) (N := some 59) #[tT,tT,tT,tT,tT,tT,tT,tT,tT,tT,tT,tT,fF] rfl rfl (one_of HT_.out (by kernel_rfl)) (by decide) (fun K hK => ?_)
        refine gS Try.func37 (by kernel_rfl) rfl #[.int .i64 a0_0, .slice Ao56 t277.length co56] (by rfl) rfl rfl ?_
        with_reducible refine (spec_l5Of.calls kj4 a0_0 _ _ t277 t280 t281 t284 _ ?side1 ?side2 A41.out).mono ?_
        (case side1 => repeat (first | exact (Kd.R_reads' HO279.out).2.2 | (with_reducible refine cA ?_ _) | (with_reducible refine cN ?_ _) | (with_reducible refine cD ?_)))
        (case side2 => exact (Kd.R_reads' HO279.out).2.1)
        rintro e w57 ⟨v282, v285, rfl, ho0, ho1, hb⟩
        refine ⟨_, rfl, ?_⟩
        have HO283 := aM (xL (Kd.R_newB (Kd.R_new' ho0 (Kd.R_lt (xH HO279.out))) (g := gb275) (o := .cells #[.int .i64 t274, .int .i64 a1] 49 (0, 0)) (yH BK275.out)) (zZ (zH HB.out)))
        have HO286 := aM (xL (Kd.R_newB (Kd.R_new' ho1 (Kd.R_lt (xH HO279.out))) (g := gb275) (o := .cells #[.int .i64 t274, .int .i64 a1] 49 (0, 0)) (yH BK275.out)) (zZ (zH HB.out)))
        replace HO279 := aM (xM (Kd.R_told (Kd.R_told (Kd.R_old (xH HO279.out) hb) (Kd.R_base ho0)) (Kd.R_base ho1)) (fun _ h_ => h_.1))
        replace BK268 := yK BK268.out hb
        replace BK269 := yK BK269.out hb
        replace BK275 := yK BK275.out hb
        replace BK287 := yK BK287.out hb
        replace HB := aM (zT (zH HB.out) hb)
        (try clear hb); (try clear ho0); (try clear ho1)
        refine hK.out _ _ ⟨yc BK268.out 0, yc BK268.out 1, yc BK268.out 2, yc BK275.out 0, yc BK275.out 1⟩ (fun hHeld => ?_)
        clear hK K
        refine norm_ (a' := ?_) ?_ ?_
        rotate_left
        ·show Act.put _ (some 59) _ = _
         simp only [Act.put, qA, qB, qC, i64_w, i32_w]
         rfl
        exact norm_ (by simp only [putAll, Act.put, qA, qB, qC]) (hCont (.slice Ao56 t277.length co56, v282, v285, gb287) _ ⟨hHeld, (xH (xM HO279.out (fun _ hk => ⟨hk.1.2, ⟨hk.2, hk.1.1.2⟩⟩))), (xH (xM HO283.out (fun _ hk => ⟨hk.1.2, ⟨hk.1.1, hk.2⟩⟩))), (xH (xM HO286.out (fun _ hk => ⟨hk.1.2, ⟨hk.1.1, hk.2⟩⟩))), (yH BK268.out), (yH BK269.out), (yH BK275.out), (yH BK287.out), GW287.out, GE287.out, NB268_287.out, NB287_268.out, NB269_287.out, NB287_269.out, NB275_287.out, NB287_275.out, (zH HB.out)⟩)
      rintro ⟨v278, v282, v285, gb287⟩ w58 ⟨hS_, h0_, h1_, h2_, h3_, h4_, h5_, h6_, h7_, h8_, h9_, h10_, h11_, h12_, h13_, h14_, h15_⟩
      (try dsimp only at h0_ h1_ h2_ h3_ h4_ h5_ h6_ h7_ h8_ h9_ h10_ h11_ h12_ h13_ h14_ h15_)
      have n0_ := aM h0_
      have n1_ := aM h1_
      have n2_ := aM h2_
      have n3_ := aM h3_
      have n4_ := aM h4_
      have n5_ := aM h5_
      have n6_ := aM h6_
      have n7_ := aM h7_
      have n8_ := aM h8_
      have n9_ := aM h9_
      have n10_ := aM h10_
      have n11_ := aM h11_
      have n12_ := aM h12_
      have n13_ := aM h13_
      have n14_ := aM h14_
      have n15_ := aM h15_
      clear BK268 BK269 BK275 HB h0_ h1_ h2_ h3_ h4_ h5_ h6_ h7_ h8_ h9_ h10_ h11_ h12_ h13_ h14_ h15_
      have HO279 := n0_
      have HO283 := n1_
      have HO286 := n2_
      have BK268 := n3_
      have BK269 := n4_
      have BK275 := n5_
      have BK287 := n6_
      have GW287 := n7_
      have GE287 := n8_
      have NB268_287 := n9_
      have NB287_268 := n10_
      have NB269_287 := n11_
      have NB287_269 := n12_
      have NB275_287 := n13_
      have NB287_275 := n14_
      have HB := n15_
      clear n0_ n1_ n2_ n3_ n4_ n5_ n6_ n7_ n8_ n9_ n10_ n11_ n12_ n13_ n14_ n15_
      have hHeld : w58.cell? ⟨gb268, 0, none⟩ = some (.int .i64 a0_0) ∧ w58.cell? ⟨gb268, 1, none⟩ = some (.slice A0_1 l0_1.length c0_1) ∧ w58.cell? ⟨gb268, 2, none⟩ = some (.slice A0_2 l0_2.length c0_2) ∧ w58.cell? ⟨gb275, 0, none⟩ = some (.int .i64 t274) ∧ w58.cell? ⟨gb275, 1, none⟩ = some (.int .i64 a1) := hS_
      obtain ⟨Ao60, co60, eo60⟩ := Kd.R_slice HO283.out
      (first | subst eo60 | obtain ⟨rfl, rfl⟩ := eI eo60)
      obtain ⟨Ao62, co62, eo62⟩ := Kd.R_slice HO286.out
      (first | subst eo62 | obtain ⟨rfl, rfl⟩ := eI eo62)
      refine norm_ (a' := ?_) ?_ ?_
      rotate_left
      ·simp only [putAll, Act.put, qA, qB, qC]
       rfl
      refine one_ (i := 12) (N := none) #[tT,tT,tT,tT,tT,tT,tT,tT,tT,tT,tT,tT,tT] rfl rfl (one_of HT_.out (by kernel_rfl)) (by decide) (fun K hK => ?_)
      have hs59 : w58.cell? ⟨gb287, 0, none⟩ = some (.int .i64 0) := yc BK287.out 0
      have hfs59 := yZ BK287.out 0
      have hns59_0 := NB268_287.out
      have hns59_1 := NB269_287.out
      have hns59_2 := NB275_287.out
      have hms59_0 := NB287_268.out
      have hms59_1 := NB287_269.out
      have hms59_2 := NB287_275.out
      have hs61 : w58.cell? ⟨gb287, 1, none⟩ = some (.slice none 0 0) := yc BK287.out 1
      have hfs61 := yZ BK287.out 1
      have hns61_0 := NB268_287.out
      have hns61_1 := NB269_287.out
      have hns61_2 := NB275_287.out
      have hms61_0 := NB287_268.out
      have hms61_1 := NB287_269.out
      have hms61_2 := NB287_275.out
      have hs63 : w58.cell? ⟨gb287, 2, none⟩ = some (.slice none 0 0) := yc BK287.out 2
      have hfs63 := yZ BK287.out 2
      have hns63_0 := NB268_287.out
      have hns63_1 := NB269_287.out
      have hns63_2 := NB275_287.out
      have hms63_0 := NB287_268.out
      have hms63_1 := NB287_269.out
      have hms63_2 := NB287_275.out
      refine skip_ (w1 := ?_) (by rfl) rfl ?_ ?_
      rotate_left
      ·go_simp
       rfl
      refine hK.out _ _ ⟨((cell_far (p := ⟨gb287, _, none⟩) NB268_287.out _).trans (((cell_far (p := ⟨gb287, _, none⟩) NB268_287.out _).trans (((cell_far (p := ⟨gb287, _, none⟩) NB268_287.out _).trans (hHeld.1)))))), ((cell_far (p := ⟨gb287, _, none⟩) NB268_287.out _).trans (((cell_far (p := ⟨gb287, _, none⟩) NB268_287.out _).trans (((cell_far (p := ⟨gb287, _, none⟩) NB268_287.out _).trans (hHeld.2.1)))))), ((cell_far (p := ⟨gb287, _, none⟩) NB268_287.out _).trans (((cell_far (p := ⟨gb287, _, none⟩) NB268_287.out _).trans (((cell_far (p := ⟨gb287, _, none⟩) NB268_287.out _).trans (hHeld.2.2.1)))))), ((cell_far (p := ⟨gb287, _, none⟩) NB275_287.out _).trans (((cell_far (p := ⟨gb287, _, none⟩) NB275_287.out _).trans (((cell_far (p := ⟨gb287, _, none⟩) NB275_287.out _).trans (hHeld.2.2.2.1)))))), ((cell_far (p := ⟨gb287, _, none⟩) NB275_287.out _).trans (((cell_far (p := ⟨gb287, _, none⟩) NB275_287.out _).trans (((cell_far (p := ⟨gb287, _, none⟩) NB275_287.out _).trans (hHeld.2.2.2.2))))))⟩ (fun hHeld => ?_)
      clear hK K
      refine done_ (done_of HT_.out (by kernel_rfl)) ?_
      have hnb64 := NB287_268.out
      have hnc64 := NB268_287.out
      have hnb65 := NB287_269.out
      have hnc65 := NB269_287.out
      have hnb66 := NB287_275.out
      have hnc66 := NB275_287.out
      have hcz67_0 : w58.cell? ⟨gb287, 0, none⟩ = some (.int .i64 0) := yc BK287.out 0
      have hcz67_1 : w58.cell? ⟨gb287, 1, none⟩ = some (.slice none 0 0) := yc BK287.out 1
      have hcz67_2 : w58.cell? ⟨gb287, 2, none⟩ = some (.slice none 0 0) := yc BK287.out 2
      have hfz67_0 := yZ BK287.out 0
      have hfz67_1 := yZ BK287.out 1
      have hfz67_2 := yZ BK287.out 2
      try go_wp2_with (first | ((with_reducible refine gate_callee (f := 17) rfl ?_); refine goesL_ (some 61) rfl rfl Try.func17 (by kernel_rfl) rfl #[.agg #[.int .i64 t280, .slice Ao60 t281.length co60, .slice Ao62 t284.length co62]] rfl (by (try simp only [List.map_toArray, List.map_cons, List.map_nil]); first | done | rfl | (simp only [List.length_drop, List.length_take]; rfl)) ?_; (with_reducible refine (spec_GoodFree.calls kj4 t280 _ _ t281 _ _ t284 true _ ?side1 ?side2 ?side3 ?side4 A42.out).mono ?_); (case side1 => exact rC (n := t281.length) (c := co60) ((x3 HO283.out BK287.out (by decide) (.int .i64 t280) (.slice Ao60 t281.length co60) (.slice Ao62 t284.length co62)))); (case side2 => exact (Kd.R_reads' HO283.out).2.1); (case side3 => exact rC (n := t284.length) (c := co62) ((x3 HO286.out BK287.out (by decide) (.int .i64 t280) (.slice Ao60 t281.length co60) (.slice Ao62 t284.length co62)))); (case side4 => exact (Kd.R_reads' HO286.out).2.1); rintro e w68 ⟨rfl, hb⟩; refine ⟨_, rfl, ?_⟩; replace HO279 := aM (xB (xH ((x3 HO279.out BK287.out (by decide) (.int .i64 t280) (.slice Ao60 t281.length co60) (.slice Ao62 t284.length co62)))) hb); replace HO283 := aM (xB (xH ((x3 HO283.out BK287.out (by decide) (.int .i64 t280) (.slice Ao60 t281.length co60) (.slice Ao62 t284.length co62)))) hb); replace HO286 := aM (xB (xH ((x3 HO286.out BK287.out (by decide) (.int .i64 t280) (.slice Ao60 t281.length co60) (.slice Ao62 t284.length co62)))) hb); replace BK268 := aM (yB (g := gb268) (o := .cells #[.int .i64 a0_0, .slice A0_1 l0_1.length c0_1, .slice A0_2 l0_2.length c0_2] 24 (0, 0)) (by (with_reducible repeat (first | refine yN ?_ _ | refine yD ?_ | refine yA ?_ _)); refine yF ?_ NB268_287.out _; (with_reducible repeat (first | refine yN ?_ _ | refine yD ?_ | refine yA ?_ _)); refine yF ?_ NB268_287.out _; (with_reducible repeat (first | refine yN ?_ _ | refine yD ?_ | refine yA ?_ _)); refine yF ?_ NB268_287.out _; (with_reducible repeat (first | refine yN ?_ _ | refine yD ?_ | refine yA ?_ _)); exact BK268.out) hb); replace BK269 := aM (yB (g := gb269) (o := .cells #[.int .i64 0, .slice none 0 0, .slice none 0 0] 24 (0, 0)) (by (with_reducible repeat (first | refine yN ?_ _ | refine yD ?_ | refine yA ?_ _)); refine yF ?_ NB269_287.out _; (with_reducible repeat (first | refine yN ?_ _ | refine yD ?_ | refine yA ?_ _)); refine yF ?_ NB269_287.out _; (with_reducible repeat (first | refine yN ?_ _ | refine yD ?_ | refine yA ?_ _)); refine yF ?_ NB269_287.out _; (with_reducible repeat (first | refine yN ?_ _ | refine yD ?_ | refine yA ?_ _)); exact BK269.out) hb); replace BK275 := aM (yB (g := gb275) (o := .cells #[.int .i64 t274, .int .i64 a1] 49 (0, 0)) (by (with_reducible repeat (first | refine yN ?_ _ | refine yD ?_ | refine yA ?_ _)); refine yF ?_ NB275_287.out _; (with_reducible repeat (first | refine yN ?_ _ | refine yD ?_ | refine yA ?_ _)); refine yF ?_ NB275_287.out _; (with_reducible repeat (first | refine yN ?_ _ | refine yD ?_ | refine yA ?_ _)); refine yF ?_ NB275_287.out _; (with_reducible repeat (first | refine yN ?_ _ | refine yD ?_ | refine yA ?_ _)); exact BK275.out) hb); replace BK287 := aM (yB (g := gb287) (o := .cells #[.int .i64 t280, .slice Ao60 t281.length co60, .slice Ao62 t284.length co62] 24 (0, 0)) (by (with_reducible repeat (first | refine yN ?_ _ | refine yD ?_ | refine yA ?_ _)); refine yP (cs := #[.int .i64 t280, .slice Ao60 t281.length co60, .slice none 0 0]) ?_ 2 _ rfl; (with_reducible repeat (first | refine yN ?_ _ | refine yD ?_ | refine yA ?_ _)); refine yP (cs := #[.int .i64 t280, .slice none 0 0, .slice none 0 0]) ?_ 1 _ rfl; (with_reducible repeat (first | refine yN ?_ _ | refine yD ?_ | refine yA ?_ _)); refine yP (cs := #[.int .i64 0, .slice none 0 0, .slice none 0 0]) ?_ 0 _ rfl; (with_reducible repeat (first | refine yN ?_ _ | refine yD ?_ | refine yA ?_ _)); exact BK287.out) hb); replace HB := aM (zT (zH HB.out) hb); (try clear hb); have hcz69_0 : w68.cell? ⟨gb287, 0, none⟩ = some (.int .i64 t280) := yc BK287.out 0; have hcz69_1 : w68.cell? ⟨gb287, 1, none⟩ = some (.slice Ao60 t281.length co60) := yc BK287.out 1; have hcz69_2 : w68.cell? ⟨gb287, 2, none⟩ = some (.slice Ao62 t284.length co62) := yc BK287.out 2; have hfz69_0 := yZ BK287.out 0; have hfz69_1 := yZ BK287.out 1; have hfz69_2 := yZ BK287.out 2; have hcz70_0 : w68.cell? ⟨gb269, 0, none⟩ = some (.int .i64 0) := yc BK269.out 0; have hcz70_1 : w68.cell? ⟨gb269, 1, none⟩ = some (.slice none 0 0) := yc BK269.out 1; have hcz70_2 : w68.cell? ⟨gb269, 2, none⟩ = some (.slice none 0 0) := yc BK269.out 2; have hfz70_0 := yZ BK269.out 0; have hfz70_1 := yZ BK269.out 1; have hfz70_2 := yZ BK269.out 2))
      refine bodyPost_ret (results_ctt rfl _ _ gb269 24 #[.int .i64 t280, .slice Ao60 t281.length co60, .slice Ao62 t284.length co62] (0, 0) _ rfl (by (with_reducible repeat (first | refine yN ?_ _ | refine yD ?_ | refine yA ?_ _)); refine yP (cs := #[.int .i64 t280, .slice Ao60 t281.length co60, .slice none 0 0]) ?_ 2 _ rfl; (with_reducible repeat (first | refine yN ?_ _ | refine yD ?_ | refine yA ?_ _)); refine yP (cs := #[.int .i64 t280, .slice none 0 0, .slice none 0 0]) ?_ 1 _ rfl; (with_reducible repeat (first | refine yN ?_ _ | refine yD ?_ | refine yA ?_ _)); refine yP (cs := #[.int .i64 0, .slice none 0 0, .slice none 0 0]) ?_ 0 _ rfl; (with_reducible repeat (first | refine yN ?_ _ | refine yD ?_ | refine yA ?_ _)); exact BK269.out) Try.underlying24 rfl (by kernel_rfl)) rfl ?_
      exact ⟨_, _, by first | rfl | (simp [errW_none, errW_some] <;> rfl) | (simp [*, errW_none, errW_some] <;> rfl), xH (xM (xF (p := ⟨gb269, 2, none⟩) (xF (p := ⟨gb269, 1, none⟩) (xF (p := ⟨gb269, 0, none⟩) (xT HO283.out BK269.out (by decide)) (fun _ hk => hk.2) (.int .i64 t280)) (fun _ hk => hk.2) (.slice Ao60 t281.length co60)) (fun _ hk => hk.2) (.slice Ao62 t284.length co62)) (fun _ hk => hk.1.2.1)), xH (xM (xF (p := ⟨gb269, 2, none⟩) (xF (p := ⟨gb269, 1, none⟩) (xF (p := ⟨gb269, 0, none⟩) (xT HO286.out BK269.out (by decide)) (fun _ hk => hk.2) (.int .i64 t280)) (fun _ hk => hk.2) (.slice Ao60 t281.length co60)) (fun _ hk => hk.2) (.slice Ao62 t284.length co62)) (fun _ hk => hk.1.2.1)), zH HB.out⟩
     ·replace c43 := Bool.eq_false_iff.mpr c43
      subst c43
      have H1 : (some (0, ([] : List (S49)), ([] : List (S49)), 0, false)) = some (r1, r2, r3, r4, r5) := by rw [if_neg (show ¬ (false = true) by decide)] at H; exact H
      clear H
      have H := H1
      clear H1
      simp only [Option.some.injEq, Prod.mk.injEq] at H
      obtain ⟨rfl, rfl, rfl, rfl, rfl⟩ := H
      have hnb71 := NB268_269.out
      have hnc71 := NB269_268.out
      have hcz72_0 : wc.cell? ⟨gb268, 0, none⟩ = some (.int .i64 a0_0) := yc BK268.out 0
      have hcz72_1 : wc.cell? ⟨gb268, 1, none⟩ = some (.slice A0_1 l0_1.length c0_1) := yc BK268.out 1
      have hcz72_2 : wc.cell? ⟨gb268, 2, none⟩ = some (.slice A0_2 l0_2.length c0_2) := yc BK268.out 2
      have hfz72_0 := yZ BK268.out 0
      have hfz72_1 := yZ BK268.out 1
      have hfz72_2 := yZ BK268.out 2
      try go_wp2_with (first | ((with_reducible refine gate_callee (f := 55) rfl ?_); refine goesL_ (some 42) rfl rfl Try.func55 (by kernel_rfl) rfl #[.agg #[.int .i64 a0_0, .slice A0_1 l0_1.length c0_1, .slice A0_2 l0_2.length c0_2], .int .i64 a1, .int .i64 a2, .int .i64 a3] rfl (by (try simp only [List.map_toArray, List.map_cons, List.map_nil]); first | done | rfl | (simp only [List.length_drop, List.length_take]; rfl)) ?_; (with_reducible refine (spec_l5Pick.calls kj4 a0_0 _ _ l0_1 _ _ l0_2 a1 a2 a3 t274 _ ?side1 ?side2 ?side3 ?side4 A33.out).mono ?_); (case side1 => exact cK HR0_1.out HB.out); (case side2 => exact HC0_1.out); (case side3 => exact cK HR0_2.out HB.out); (case side4 => exact HC0_2.out); rintro e w73 ⟨rfl, hb⟩; refine ⟨_, rfl, ?_⟩; replace BK268 := yK BK268.out hb; replace BK269 := yK BK269.out hb; replace HB := aM (zT (zH HB.out) hb); (try clear hb)) | ((with_reducible refine gate_dst (N := 12) rfl ?_); refine box_event ?hg (N := 12) ?hd (cs := #[.int .i64 0, .int .i64 0]) (t := 49) ?hr ?_; (case hd => rfl); (case hg => rfl); (case hr => first | (go_simp; done) | (go_simp; rfl)); intro gb275 hg w74 hbox hb; have BK275 := aM (hbox); have GW275 := aM ((by rw [hg]; exact (zZ (zH HB.out)) : w.heap.size ≤ gb275)); have GE275 := aM ((by rw [hg]; exact (zZ (zH HB.out)) : w.heap.size ≤ gb275)); replace HB := aM (zT (zH HB.out) hb); have NB268_275 := nL BK268.out hg; have NB275_268 := nR BK268.out hg; replace BK268 := yK BK268.out hb; have NB269_275 := nL BK269.out hg; have NB275_269 := nR BK269.out hg; replace BK269 := yK BK269.out hb; clear hb hbox hg; have hnb75 := NB275_268.out; have hnc75 := NB268_275.out; have hnb76 := NB275_269.out; have hnc76 := NB269_275.out; have hcz77_0 : w74.cell? ⟨gb275, 0, none⟩ = some (.int .i64 0) := yc BK275.out 0; have hcz77_1 : w74.cell? ⟨gb275, 1, none⟩ = some (.int .i64 0) := yc BK275.out 1; have hfz77_0 := yZ BK275.out 0; have hfz77_1 := yZ BK275.out 1))
      have n0_ : Aside0 (((w74.setCell ⟨gb275, 0, none⟩ (.int .i64 t274)).setCell ⟨gb275, 1, none⟩ (.int .i64 a1)).heap[gb268]? = some (.cells #[.int .i64 a0_0, .slice A0_1 l0_1.length c0_1, .slice A0_2 l0_2.length c0_2] 24 (0, 0))) := ⟨by (with_reducible repeat (first | refine yN ?_ _ | refine yD ?_ | refine yA ?_ _)); refine yF ?_ NB268_275.out _; (with_reducible repeat (first | refine yN ?_ _ | refine yD ?_ | refine yA ?_ _)); refine yF ?_ NB268_275.out _; (with_reducible repeat (first | refine yN ?_ _ | refine yD ?_ | refine yA ?_ _)); exact BK268.out⟩
      have n1_ : Aside0 (((w74.setCell ⟨gb275, 0, none⟩ (.int .i64 t274)).setCell ⟨gb275, 1, none⟩ (.int .i64 a1)).heap[gb269]? = some (.cells #[.int .i64 0, .slice none 0 0, .slice none 0 0] 24 (0, 0))) := ⟨by (with_reducible repeat (first | refine yN ?_ _ | refine yD ?_ | refine yA ?_ _)); refine yF ?_ NB269_275.out _; (with_reducible repeat (first | refine yN ?_ _ | refine yD ?_ | refine yA ?_ _)); refine yF ?_ NB269_275.out _; (with_reducible repeat (first | refine yN ?_ _ | refine yD ?_ | refine yA ?_ _)); exact BK269.out⟩
      have n2_ : Aside0 (((w74.setCell ⟨gb275, 0, none⟩ (.int .i64 t274)).setCell ⟨gb275, 1, none⟩ (.int .i64 a1)).heap[gb275]? = some (.cells #[.int .i64 t274, .int .i64 a1] 49 (0, 0))) := ⟨by (with_reducible repeat (first | refine yN ?_ _ | refine yD ?_ | refine yA ?_ _)); refine yP (cs := #[.int .i64 t274, .int .i64 0]) ?_ 1 _ rfl; (with_reducible repeat (first | refine yN ?_ _ | refine yD ?_ | refine yA ?_ _)); refine yP (cs := #[.int .i64 0, .int .i64 0]) ?_ 0 _ rfl; (with_reducible repeat (first | refine yN ?_ _ | refine yD ?_ | refine yA ?_ _)); exact BK275.out⟩
      have n3_ : Aside0 (Below w.heap.size w ((w74.setCell ⟨gb275, 0, none⟩ (.int .i64 t274)).setCell ⟨gb275, 1, none⟩ (.int .i64 a1))) := ⟨zH HB.out⟩
      (try clear BK268); (try clear BK269); (try clear BK275); (try clear HB)
      generalize ((w74.setCell ⟨gb275, 0, none⟩ (.int .i64 t274)).setCell ⟨gb275, 1, none⟩ (.int .i64 a1)) = w78 at n0_ n1_ n2_ n3_ ⊢
      have BK268 := n0_
      have BK269 := n1_
      have BK275 := n2_
      have HB := n3_
      clear n0_ n1_ n2_ n3_
      replace BK268 := aM (yD BK268.out)
      replace BK269 := aM (yD BK269.out)
      replace BK275 := aM (yD BK275.out)
      replace HB := aM (zD HB.out)
      refine start_ (n := 13) (S := fun w' => w'.cell? ⟨gb268, 0, none⟩ = some (.int .i64 a0_0) ∧ w'.cell? ⟨gb268, 1, none⟩ = some (.slice A0_1 l0_1.length c0_1) ∧ w'.cell? ⟨gb268, 2, none⟩ = some (.slice A0_2 l0_2.length c0_2) ∧ w'.cell? ⟨gb275, 0, none⟩ = some (.int .i64 t274) ∧ w'.cell? ⟨gb275, 1, none⟩ = some (.int .i64 a1)) (ds := []) #[fF,fF,fF,fF,fF,fF,fF,fF,fF,fF,fF,fF,fF] (by kernel_rfl) rfl rfl ⟨yc BK268.out 0, yc BK268.out 1, yc BK268.out 2, yc BK275.out 0, yc BK275.out 1⟩ (fun hHeld => ?_); refine with_tabW spec_TakeRoom.tab7 spec_TakeRoom.bits7 (fun HT_ HW_ => ?_)
      generalize w78.drew = w79 at BK268 BK269 BK275 HB hHeld ⊢
      refine pure_ (i := 0) (N := some 49) (v := ?_) (a' := ?_) #[tT,fF,fF,fF,fF,fF,fF,fF,fF,fF,fF,fF,fF] rfl rfl (any_of HT_.out (by kernel_rfl)) (fun _ _ _ h => h) (Or.inl ⟨by rfl, ?_⟩) ?_ ?_
      rotate_left
      ·intro w'
       go_simp
       with_reducible rfl
      rotate_left
      ·simp only [Act.put, qA, qB, qC, i64_w, i32_w]
       rfl
      refine pure_ (i := 2) (N := some 51) (v := ?_) (a' := ?_) #[tT,fF,tT,fF,fF,fF,fF,fF,fF,fF,fF,fF,fF] rfl rfl (any_of HT_.out (by kernel_rfl)) (fun _ _ _ h => h) (Or.inl ⟨by rfl, ?_⟩) ?_ ?_
      rotate_left
      ·intro w'
       go_simp
       with_reducible rfl
      rotate_left
      ·simp only [Act.put, qA, qB, qC, i64_w, i32_w]
       rfl
      refine pure_ (i := 4) (N := some 53) (v := ?_) (a' := ?_) #[tT,fF,tT,fF,tT,fF,fF,fF,fF,fF,fF,fF,fF] rfl rfl (any_of HT_.out (by kernel_rfl)) (fun _ _ _ h => h) (Or.inl ⟨by rfl, ?_⟩) ?_ ?_
      rotate_left
      ·intro w'
       go_simp
       with_reducible rfl
      rotate_left
      ·simp only [Act.put, qA, qB, qC, i64_w, i32_w]
       rfl
      refine take_ (i := 1) (N := some 50) (v := ?_) (a' := ?_) #[tT,tT,tT,fF,tT,fF,fF,fF,fF,fF,fF,fF,fF] rfl rfl (take_ofW HT_.out HW_.out (by kernel_rfl)) (fun _ _ _ h => h) (Or.inl ⟨by rfl, ?_⟩) hHeld ?_ ?_
      rotate_left
      ·rintro w' ⟨s0, s1, s2, s3, s4⟩
       go_simp
       with_reducible rfl
      rotate_left
      ·simp only [Act.put, qA, qB, qC, i64_w, i32_w]
       rfl
      refine take_ (i := 3) (N := some 52) (v := ?_) (a' := ?_) #[tT,tT,tT,tT,tT,fF,fF,fF,fF,fF,fF,fF,fF] rfl rfl (take_ofW HT_.out HW_.out (by kernel_rfl)) (fun _ _ _ h => h) (Or.inl ⟨by rfl, ?_⟩) hHeld ?_ ?_
      rotate_left
      ·rintro w' ⟨s0, s1, s2, s3, s4⟩
       go_simp
       with_reducible rfl
      rotate_left
      ·simp only [Act.put, qA, qB, qC, i64_w, i32_w]
       rfl
      refine take_ (i := 5) (N := some 54) (v := ?_) (a' := ?_) #[tT,tT,tT,tT,tT,tT,fF,fF,fF,fF,fF,fF,fF] rfl rfl (take_ofW HT_.out HW_.out (by kernel_rfl)) (fun _ _ _ h => h) (Or.inl ⟨by rfl, ?_⟩) hHeld ?_ ?_
      rotate_left
      ·rintro w' ⟨s0, s1, s2, s3, s4⟩
       go_simp
       with_reducible rfl
      rotate_left
      ·simp only [Act.put, qA, qB, qC, i64_w, i32_w]
       rfl
      refine take_ (i := 6) (N := some 55) (v := ?_) (a' := ?_) #[tT,tT,tT,tT,tT,tT,tT,fF,fF,fF,fF,fF,fF] rfl rfl (take_ofW HT_.out HW_.out (by kernel_rfl)) (fun _ _ _ h => h) (Or.inl ⟨by rfl, ?_⟩) hHeld ?_ ?_
      rotate_left
      ·rintro w' ⟨s0, s1, s2, s3, s4⟩
       go_simp
       with_reducible rfl
      rotate_left
      ·simp only [Act.put, qA, qB, qC, i64_w, i32_w]
       rfl
      refine take_ (i := 8) (N := some 57) (v := ?_) (a' := ?_) #[tT,tT,tT,tT,tT,tT,tT,fF,tT,fF,fF,fF,fF] rfl rfl (take_ofW HT_.out HW_.out (by kernel_rfl)) (fun _ _ _ h => h) (Or.inl ⟨by rfl, ?_⟩) hHeld ?_ ?_
      rotate_left
      ·rintro w' ⟨s0, s1, s2, s3, s4⟩
       go_simp
       with_reducible rfl
      rotate_left
      ·simp only [Act.put, qA, qB, qC, i64_w, i32_w]
       rfl
      refine join_ (σ := Value × Value × Value × Nat) 1 #[tT,tT,tT,tT,tT,tT,tT,tT,tT,tT,tT,tT,fF] (fun s_ => [(56, .int .i64 t276), (58, s_.1), (59, .agg #[.int .i64 t280, s_.2.1, s_.2.2.1]), (13, .pointer (some ⟨s_.2.2.2, 0, none⟩))]) (fun s_ w' => (w'.cell? ⟨gb268, 0, none⟩ = some (.int .i64 a0_0) ∧ w'.cell? ⟨gb268, 1, none⟩ = some (.slice A0_1 l0_1.length c0_1) ∧ w'.cell? ⟨gb268, 2, none⟩ = some (.slice A0_2 l0_2.length c0_2) ∧ w'.cell? ⟨gb275, 0, none⟩ = some (.int .i64 t274) ∧ w'.cell? ⟨gb275, 1, none⟩ = some (.int .i64 a1)) ∧ (Kd.R k49 49 w' w.heap.size (fun k_ => some k_ ≠ (s_.2.1 : Value).ownBlock ∧ some k_ ≠ (s_.2.2.1 : Value).ownBlock ∧ k_ ≠ gb275) s_.1 t277) ∧ (Kd.R k49 49 w' w.heap.size (fun k_ => some k_ ≠ (s_.1 : Value).ownBlock ∧ some k_ ≠ (s_.2.2.1 : Value).ownBlock ∧ k_ ≠ gb275) s_.2.1 t281) ∧ (Kd.R k49 49 w' w.heap.size (fun k_ => some k_ ≠ (s_.1 : Value).ownBlock ∧ some k_ ≠ (s_.2.1 : Value).ownBlock ∧ k_ ≠ gb275) s_.2.2.1 t284) ∧ (w'.heap[gb268]? = some (.cells #[.int .i64 a0_0, .slice A0_1 l0_1.length c0_1, .slice A0_2 l0_2.length c0_2] 24 (0, 0))) ∧ (w'.heap[gb269]? = some (.cells #[.int .i64 0, .slice none 0 0, .slice none 0 0] 24 (0, 0))) ∧ (w'.heap[gb275]? = some (.cells #[.int .i64 t274, .int .i64 a1] 49 (0, 0))) ∧ (w'.heap[s_.2.2.2]? = some (.cells #[.int .i64 0, .slice none 0 0, .slice none 0 0] 24 (0, 0))) ∧ (w.heap.size ≤ s_.2.2.2) ∧ (w.heap.size ≤ s_.2.2.2) ∧ (gb268 ≠ s_.2.2.2) ∧ (s_.2.2.2 ≠ gb268) ∧ (gb269 ≠ s_.2.2.2) ∧ (s_.2.2.2 ≠ gb269) ∧ (gb275 ≠ s_.2.2.2) ∧ (s_.2.2.2 ≠ gb275) ∧ (Below w.heap.size w w')) ?_ ?_
      rotate_left
      ·intro hCont
       refine two_ (i := 7) (j := 11) (Ni := some 56) (Nj := some 13) #[tT,tT,tT,tT,tT,tT,tT,tT,tT,fF,fF,fF,fF] #[tT,tT,tT,tT,tT,tT,tT,fF,tT,fF,fF,tT,fF] rfl rfl rfl rfl (two_of HT_.out (by kernel_rfl)) (by decide) (by decide) (fun K hK => ?_) (fun K hK => ?_)
       ·skip
        refine gS Try.func47 (by kernel_rfl) rfl #[.slice A0_1 l0_1.length c0_1, .agg #[.int .i64 t274, .int .i64 a1]] (by rfl) rfl rfl ?_
        with_reducible refine (spec_l5Within.calls kj4 _ _ l0_1 t274 a1 t276 _ ?side1 ?side2 A39.out).mono ?_
        (case side1 => exact cK HR0_1.out HB.out)
        (case side2 => exact HC0_1.out)
        rintro e w80 ⟨rfl, hb⟩
        refine ⟨_, rfl, ?_⟩
        replace BK268 := yK BK268.out hb
        replace BK269 := yK BK269.out hb
        replace BK275 := yK BK275.out hb
        replace HB := aM (zT (zH HB.out) hb)
        (try clear hb)
        refine hK.out _ _ ⟨yc BK268.out 0, yc BK268.out 1, yc BK268.out 2, yc BK275.out 0, yc BK275.out 1⟩ (fun hHeld => ?_)
        clear hK K
        refine norm_ (a' := ?_) ?_ ?_
        rotate_left
        ·show Act.put _ (some 56) _ = _
         simp only [Act.put, qA, qB, qC, i64_w, i32_w]
         rfl
        refine two_ (i := 9) (j := 11) (Ni := some 58) (Nj := some 13) #[tT,tT,tT,tT,tT,tT,tT,tT,tT,tT,fF,fF,fF] #[tT,tT,tT,tT,tT,tT,tT,tT,tT,fF,fF,tT,fF] rfl rfl rfl rfl (two_of HT_.out (by kernel_rfl)) (by decide) (by decide) (fun K hK => ?_) (fun K hK => ?_)
        ·skip
         refine gS Try.func54 (by kernel_rfl) rfl #[.slice A0_1 l0_1.length c0_1, .int .i64 t276, .agg #[.int .i64 t274, .int .i64 a1]] (by rfl) rfl rfl ?_
         with_reducible refine (spec_l5Cut.calls _ _ l0_1 t276 t274 a1 t277 _ ?side1 ?side2 A40.out).mono ?_
         (case side1 => exact cK HR0_1.out HB.out)
         (case side2 => exact HC0_1.out)
         rintro e w81 ⟨v278, rfl, ho0, hb⟩
         refine ⟨_, rfl, ?_⟩
         have HO279 := aM (xL (Kd.R_newB ho0 (g := gb275) (o := .cells #[.int .i64 t274, .int .i64 a1] 49 (0, 0)) (yH BK275.out)) (zZ (zH HB.out)))
         replace BK268 := yK BK268.out hb
         replace BK269 := yK BK269.out hb
         replace BK275 := yK BK275.out hb
         replace HB := aM (zT (zH HB.out) hb)
         (try clear hb); (try clear ho0)
         obtain ⟨Ao82, co82, eo82⟩ := Kd.R_slice HO279.out
         (first | subst eo82 | obtain ⟨rfl, rfl⟩ := eI eo82)
         refine hK.out _ _ ⟨yc BK268.out 0, yc BK268.out 1, yc BK268.out 2, yc BK275.out 0, yc BK275.out 1⟩ (fun hHeld => ?_)
         clear hK K
         refine norm_ (a' := ?_) ?_ ?_
         rotate_left
         ·show Act.put _ (some 58) _ = _
          simp only [Act.put, qA, qB, qC, i64_w, i32_w]
          rfl
         refine two_ (i := 10) (j := 11) (Ni := some 59) (Nj := some 13) #[tT,tT,tT,tT,tT,tT,tT,tT,tT,tT,tT,fF,fF] #[tT,tT,tT,tT,tT,tT,tT,tT,tT,tT,fF,tT,fF] rfl rfl rfl rfl (two_of HT_.out (by kernel_rfl)) (by decide) (by decide) (fun K hK => ?_) (fun K hK => ?_)
         ·skip
          refine gS Try.func37 (by kernel_rfl) rfl #[.int .i64 a0_0, .slice Ao82 t277.length co82] (by rfl) rfl rfl ?_
          with_reducible refine (spec_l5Of.calls kj4 a0_0 _ _ t277 t280 t281 t284 _ ?side1 ?side2 A41.out).mono ?_
          (case side1 => repeat (first | exact (Kd.R_reads' HO279.out).2.2 | (with_reducible refine cA ?_ _) | (with_reducible refine cN ?_ _) | (with_reducible refine cD ?_)))
          (case side2 => exact (Kd.R_reads' HO279.out).2.1)
          rintro e w83 ⟨v282, v285, rfl, ho0, ho1, hb⟩
          refine ⟨_, rfl, ?_⟩
          have HO283 := aM (xL (Kd.R_newB (Kd.R_new' ho0 (Kd.R_lt (xH HO279.out))) (g := gb275) (o := .cells #[.int .i64 t274, .int .i64 a1] 49 (0, 0)) (yH BK275.out)) (zZ (zH HB.out)))
          have HO286 := aM (xL (Kd.R_newB (Kd.R_new' ho1 (Kd.R_lt (xH HO279.out))) (g := gb275) (o := .cells #[.int .i64 t274, .int .i64 a1] 49 (0, 0)) (yH BK275.out)) (zZ (zH HB.out)))
          replace HO279 := aM (xM (Kd.R_told (Kd.R_told (Kd.R_old (xH HO279.out) hb) (Kd.R_base ho0)) (Kd.R_base ho1)) (fun _ h_ => h_.1))
          replace BK268 := yK BK268.out hb
          replace BK269 := yK BK269.out hb
          replace BK275 := yK BK275.out hb
          replace HB := aM (zT (zH HB.out) hb)
          (try clear hb); (try clear ho0); (try clear ho1)
          refine hK.out _ _ ⟨yc BK268.out 0, yc BK268.out 1, yc BK268.out 2, yc BK275.out 0, yc BK275.out 1⟩ (fun hHeld => ?_)
          clear hK K
          refine norm_ (a' := ?_) ?_ ?_
          rotate_left
          ·show Act.put _ (some 59) _ = _
           simp only [Act.put, qA, qB, qC, i64_w, i32_w]
           rfl
          refine one_ (i := 11) (N := some 13) #[tT,tT,tT,tT,tT,tT,tT,tT,tT,tT,tT,tT,fF] rfl rfl (one_of HT_.out (by kernel_rfl)) (by decide) (fun K hK => ?_)
          refine box_step ?hg (N := 13) ?hd (cs := #[.int .i64 0, .slice none 0 0, .slice none 0 0]) (t := 24) ?hr ?_; (case hd => rfl); (case hg => rfl); (case hr => first | (go_simp; done) | (go_simp; rfl))
          intro gb287 hg w84 hbox hb
          replace HO279 := xK HO279.out hb
          replace HO283 := xK HO283.out hb
          replace HO286 := xK HO286.out hb
          have BK287 := aM (hbox)
          have GW287 := aM ((by rw [hg]; exact (zZ (zH HB.out)) : w.heap.size ≤ gb287))
          have GE287 := aM ((by rw [hg]; exact (zZ (zH HB.out)) : w.heap.size ≤ gb287))
          replace HB := aM (zT (zH HB.out) hb)
          have NB268_287 := nL BK268.out hg
          have NB287_268 := nR BK268.out hg
          replace BK268 := yK BK268.out hb
          have NB269_287 := nL BK269.out hg
          have NB287_269 := nR BK269.out hg
          replace BK269 := yK BK269.out hb
          have NB275_287 := nL BK275.out hg
          have NB287_275 := nR BK275.out hg
          replace BK275 := yK BK275.out hb
          clear hb hbox hg
          refine hK.out _ _ ⟨yc BK268.out 0, yc BK268.out 1, yc BK268.out 2, yc BK275.out 0, yc BK275.out 1⟩ (fun hHeld => ?_)
          clear hK K
          refine norm_ (a' := ?_) ?_ ?_
          rotate_left
          ·show Act.put _ (some 13) _ = _
           simp only [Act.put, qA, qB, qC, i64_w, i32_w]
           rfl
          exact norm_ (by simp only [putAll, Act.put, qA, qB, qC]) (hCont (.slice Ao82 t277.length co82, v282, v285, gb287) _ ⟨hHeld, (xH (xM HO279.out (fun _ hk => ⟨hk.1.2, ⟨hk.2, hk.1.1.2⟩⟩))), (xH (xM HO283.out (fun _ hk => ⟨hk.1.2, ⟨hk.1.1, hk.2⟩⟩))), (xH (xM HO286.out (fun _ hk => ⟨hk.1.2, ⟨hk.1.1, hk.2⟩⟩))), (yH BK268.out), (yH BK269.out), (yH BK275.out), (yH BK287.out), GW287.out, GE287.out, NB268_287.out, NB287_268.out, NB269_287.out, NB287_269.out, NB275_287.out, NB287_275.out, (zH HB.out)⟩)
         ·skip
          refine box_step ?hg (N := 13) ?hd (cs := #[.int .i64 0, .slice none 0 0, .slice none 0 0]) (t := 24) ?hr ?_; (case hd => rfl); (case hg => rfl); (case hr => first | (go_simp; done) | (go_simp; rfl))
          intro gb287 hg w82 hbox hb
          replace HO279 := xK HO279.out hb
          have BK287 := aM (hbox)
          have GW287 := aM ((by rw [hg]; exact (zZ (zH HB.out)) : w.heap.size ≤ gb287))
          have GE287 := aM ((by rw [hg]; exact (zZ (zH HB.out)) : w.heap.size ≤ gb287))
          replace HB := aM (zT (zH HB.out) hb)
          have NB268_287 := nL BK268.out hg
          have NB287_268 := nR BK268.out hg
          replace BK268 := yK BK268.out hb
          have NB269_287 := nL BK269.out hg
          have NB287_269 := nR BK269.out hg
          replace BK269 := yK BK269.out hb
          have NB275_287 := nL BK275.out hg
          have NB287_275 := nR BK275.out hg
          replace BK275 := yK BK275.out hb
          clear hb hbox hg
          obtain ⟨Ao83, co83, eo83⟩ := Kd.R_slice HO279.out
          (first | subst eo83 | obtain ⟨rfl, rfl⟩ := eI eo83)
          refine hK.out _ _ ⟨yc BK268.out 0, yc BK268.out 1, yc BK268.out 2, yc BK275.out 0, yc BK275.out 1⟩ (fun hHeld => ?_)
          clear hK K
          refine norm_ (a' := ?_) ?_ ?_
          rotate_left
          ·show Act.put _ (some 13) _ = _
           simp only [Act.put, qA, qB, qC, i64_w, i32_w]
           rfl
          refine one_ (i := 10) (N := some 59) #[tT,tT,tT,tT,tT,tT,tT,tT,tT,tT,tT,tT,fF] rfl rfl (one_of HT_.out (by kernel_rfl)) (by decide) (fun K hK => ?_)
          refine gS Try.func37 (by kernel_rfl) rfl #[.int .i64 a0_0, .slice Ao83 t277.length co83] (by rfl) rfl rfl ?_
          with_reducible refine (spec_l5Of.calls kj4 a0_0 _ _ t277 t280 t281 t284 _ ?side1 ?side2 A41.out).mono ?_
          (case side1 => repeat (first | exact (Kd.R_reads' HO279.out).2.2 | (with_reducible refine cA ?_ _) | (with_reducible refine cN ?_ _) | (with_reducible refine cD ?_)))
          (case side2 => exact (Kd.R_reads' HO279.out).2.1)
          rintro e w84 ⟨v282, v285, rfl, ho0, ho1, hb⟩
          refine ⟨_, rfl, ?_⟩
          have HO283 := aM (xL (Kd.R_newB (Kd.R_new' ho0 (Kd.R_lt (xH HO279.out))) (g := gb275) (o := .cells #[.int .i64 t274, .int .i64 a1] 49 (0, 0)) (yH BK275.out)) (zZ (zH HB.out)))
          have HO286 := aM (xL (Kd.R_newB (Kd.R_new' ho1 (Kd.R_lt (xH HO279.out))) (g := gb275) (o := .cells #[.int .i64 t274, .int .i64 a1] 49 (0, 0)) (yH BK275.out)) (zZ (zH HB.out)))
          replace HO279 := aM (xM (Kd.R_told (Kd.R_told (Kd.R_old (xH HO279.out) hb) (Kd.R_base ho0)) (Kd.R_base ho1)) (fun _ h_ => h_.1))
          replace BK268 := yK BK268.out hb
          replace BK269 := yK BK269.out hb
          replace BK275 := yK BK275.out hb
          replace BK287 := yK BK287.out hb
          replace HB := aM (zT (zH HB.out) hb)
          (try clear hb); (try clear ho0); (try clear ho1)
          refine hK.out _ _ ⟨yc BK268.out 0, yc BK268.out 1, yc BK268.out 2, yc BK275.out 0, yc BK275.out 1⟩ (fun hHeld => ?_)
          clear hK K
          refine norm_ (a' := ?_) ?_ ?_
          rotate_left
          ·show Act.put _ (some 59) _ = _
           simp only [Act.put, qA, qB, qC, i64_w, i32_w]
           rfl
          exact norm_ (by simp only [putAll, Act.put, qA, qB, qC]) (hCont (.slice Ao83 t277.length co83, v282, v285, gb287) _ ⟨hHeld, (xH (xM HO279.out (fun _ hk => ⟨hk.1.2, ⟨hk.2, hk.1.1.2⟩⟩))), (xH (xM HO283.out (fun _ hk => ⟨hk.1.2, ⟨hk.1.1, hk.2⟩⟩))), (xH (xM HO286.out (fun _ hk => ⟨hk.1.2, ⟨hk.1.1, hk.2⟩⟩))), (yH BK268.out), (yH BK269.out), (yH BK275.out), (yH BK287.out), GW287.out, GE287.out, NB268_287.out, NB287_268.out, NB269_287.out, NB287_269.out, NB275_287.out, NB287_275.out, (zH HB.out)⟩)
        ·skip
         refine box_step ?hg (N := 13) ?hd (cs := #[.int .i64 0, .slice none 0 0, .slice none 0 0]) (t := 24) ?hr ?_; (case hd => rfl); (case hg => rfl); (case hr => first | (go_simp; done) | (go_simp; rfl))
         intro gb287 hg w81 hbox hb
         have BK287 := aM (hbox)
         have GW287 := aM ((by rw [hg]; exact (zZ (zH HB.out)) : w.heap.size ≤ gb287))
         have GE287 := aM ((by rw [hg]; exact (zZ (zH HB.out)) : w.heap.size ≤ gb287))
         replace HB := aM (zT (zH HB.out) hb)
         have NB268_287 := nL BK268.out hg
         have NB287_268 := nR BK268.out hg
         replace BK268 := yK BK268.out hb
         have NB269_287 := nL BK269.out hg
         have NB287_269 := nR BK269.out hg
         replace BK269 := yK BK269.out hb
         have NB275_287 := nL BK275.out hg
         have NB287_275 := nR BK275.out hg
         replace BK275 := yK BK275.out hb
         clear hb hbox hg
         refine hK.out _ _ ⟨yc BK268.out 0, yc BK268.out 1, yc BK268.out 2, yc BK275.out 0, yc BK275.out 1⟩ (fun hHeld => ?_)
         clear hK K
         refine norm_ (a' := ?_) ?_ ?_
         rotate_left
         ·show Act.put _ (some 13) _ = _
          simp only [Act.put, qA, qB, qC, i64_w, i32_w]
          rfl
         refine one_ (i := 9) (N := some 58) #[tT,tT,tT,tT,tT,tT,tT,tT,tT,tT,fF,tT,fF] rfl rfl (one_of HT_.out (by kernel_rfl)) (by decide) (fun K hK => ?_)
         refine gS Try.func54 (by kernel_rfl) rfl #[.slice A0_1 l0_1.length c0_1, .int .i64 t276, .agg #[.int .i64 t274, .int .i64 a1]] (by rfl) rfl rfl ?_
         with_reducible refine (spec_l5Cut.calls _ _ l0_1 t276 t274 a1 t277 _ ?side1 ?side2 A40.out).mono ?_
         (case side1 => exact cK HR0_1.out HB.out)
         (case side2 => exact HC0_1.out)
         rintro e w82 ⟨v278, rfl, ho0, hb⟩
         refine ⟨_, rfl, ?_⟩
         have HO279 := aM (xL (Kd.R_newB ho0 (g := gb275) (o := .cells #[.int .i64 t274, .int .i64 a1] 49 (0, 0)) (yH BK275.out)) (zZ (zH HB.out)))
         replace BK268 := yK BK268.out hb
         replace BK269 := yK BK269.out hb
         replace BK275 := yK BK275.out hb
         replace BK287 := yK BK287.out hb
         replace HB := aM (zT (zH HB.out) hb)
         (try clear hb); (try clear ho0)
         obtain ⟨Ao83, co83, eo83⟩ := Kd.R_slice HO279.out
         (first | subst eo83 | obtain ⟨rfl, rfl⟩ := eI eo83)
         refine hK.out _ _ ⟨yc BK268.out 0, yc BK268.out 1, yc BK268.out 2, yc BK275.out 0, yc BK275.out 1⟩ (fun hHeld => ?_)
         clear hK K
         refine norm_ (a' := ?_) ?_ ?_
         rotate_left
         ·show Act.put _ (some 58) _ = _
          simp only [Act.put, qA, qB, qC, i64_w, i32_w]
          rfl
         refine one_ (i := 10) (N := some 59) #[tT,tT,tT,tT,tT,tT,tT,tT,tT,tT,tT,tT,fF] rfl rfl (one_of HT_.out (by kernel_rfl)) (by decide) (fun K hK => ?_)
         refine gS Try.func37 (by kernel_rfl) rfl #[.int .i64 a0_0, .slice Ao83 t277.length co83] (by rfl) rfl rfl ?_
         with_reducible refine (spec_l5Of.calls kj4 a0_0 _ _ t277 t280 t281 t284 _ ?side1 ?side2 A41.out).mono ?_
         (case side1 => repeat (first | exact (Kd.R_reads' HO279.out).2.2 | (with_reducible refine cA ?_ _) | (with_reducible refine cN ?_ _) | (with_reducible refine cD ?_)))
         (case side2 => exact (Kd.R_reads' HO279.out).2.1)
         rintro e w84 ⟨v282, v285, rfl, ho0, ho1, hb⟩
         refine ⟨_, rfl, ?_⟩
         have HO283 := aM (xL (Kd.R_newB (Kd.R_new' ho0 (Kd.R_lt (xH HO279.out))) (g := gb275) (o := .cells #[.int .i64 t274, .int .i64 a1] 49 (0, 0)) (yH BK275.out)) (zZ (zH HB.out)))
         have HO286 := aM (xL (Kd.R_newB (Kd.R_new' ho1 (Kd.R_lt (xH HO279.out))) (g := gb275) (o := .cells #[.int .i64 t274, .int .i64 a1] 49 (0, 0)) (yH BK275.out)) (zZ (zH HB.out)))
         replace HO279 := aM (xM (Kd.R_told (Kd.R_told (Kd.R_old (xH HO279.out) hb) (Kd.R_base ho0)) (Kd.R_base ho1)) (fun _ h_ => h_.1))
         replace BK268 := yK BK268.out hb
         replace BK269 := yK BK269.out hb
         replace BK275 := yK BK275.out hb
         replace BK287 := yK BK287.out hb
         replace HB := aM (zT (zH HB.out) hb)
         (try clear hb); (try clear ho0); (try clear ho1)
         refine hK.out _ _ ⟨yc BK268.out 0, yc BK268.out 1, yc BK268.out 2, yc BK275.out 0, yc BK275.out 1⟩ (fun hHeld => ?_)
         clear hK K
         refine norm_ (a' := ?_) ?_ ?_
         rotate_left
         ·show Act.put _ (some 59) _ = _
          simp only [Act.put, qA, qB, qC, i64_w, i32_w]
          rfl
         exact norm_ (by simp only [putAll, Act.put, qA, qB, qC]) (hCont (.slice Ao83 t277.length co83, v282, v285, gb287) _ ⟨hHeld, (xH (xM HO279.out (fun _ hk => ⟨hk.1.2, ⟨hk.2, hk.1.1.2⟩⟩))), (xH (xM HO283.out (fun _ hk => ⟨hk.1.2, ⟨hk.1.1, hk.2⟩⟩))), (xH (xM HO286.out (fun _ hk => ⟨hk.1.2, ⟨hk.1.1, hk.2⟩⟩))), (yH BK268.out), (yH BK269.out), (yH BK275.out), (yH BK287.out), GW287.out, GE287.out, NB268_287.out, NB287_268.out, NB269_287.out, NB287_269.out, NB275_287.out, NB287_275.out, (zH HB.out)⟩)
       ·skip
        refine box_step ?hg (N := 13) ?hd (cs := #[.int .i64 0, .slice none 0 0, .slice none 0 0]) (t := 24) ?hr ?_; (case hd => rfl); (case hg => rfl); (case hr => first | (go_simp; done) | (go_simp; rfl))
        intro gb287 hg w80 hbox hb
        have BK287 := aM (hbox)
        have GW287 := aM ((by rw [hg]; exact (zZ (zH HB.out)) : w.heap.size ≤ gb287))
        have GE287 := aM ((by rw [hg]; exact (zZ (zH HB.out)) : w.heap.size ≤ gb287))
        replace HB := aM (zT (zH HB.out) hb)
        have NB268_287 := nL BK268.out hg
        have NB287_268 := nR BK268.out hg
        replace BK268 := yK BK268.out hb
        have NB269_287 := nL BK269.out hg
        have NB287_269 := nR BK269.out hg
        replace BK269 := yK BK269.out hb
        have NB275_287 := nL BK275.out hg
        have NB287_275 := nR BK275.out hg
        replace BK275 := yK BK275.out hb
        clear hb hbox hg
        refine hK.out _ _ ⟨yc BK268.out 0, yc BK268.out 1, yc BK268.out 2, yc BK275.out 0, yc BK275.out 1⟩ (fun hHeld => ?_)
        clear hK K
        refine norm_ (a' := ?_) ?_ ?_
        rotate_left
        ·show Act.put _ (some 13) _ = _
         simp only [Act.put, qA, qB, qC, i64_w, i32_w]
         rfl
        refine one_ (i := 7) (N := some 56) #[tT,tT,tT,tT,tT,tT,tT,tT,tT,fF,fF,tT,fF] rfl rfl (one_of HT_.out (by kernel_rfl)) (by decide) (fun K hK => ?_)
        refine gS Try.func47 (by kernel_rfl) rfl #[.slice A0_1 l0_1.length c0_1, .agg #[.int .i64 t274, .int .i64 a1]] (by rfl) rfl rfl ?_
        with_reducible refine (spec_l5Within.calls kj4 _ _ l0_1 t274 a1 t276 _ ?side1 ?side2 A39.out).mono ?_
        (case side1 => exact cK HR0_1.out HB.out)
        (case side2 => exact HC0_1.out)
        rintro e w81 ⟨rfl, hb⟩
        refine ⟨_, rfl, ?_⟩
        replace BK268 := yK BK268.out hb
        replace BK269 := yK BK269.out hb
        replace BK275 := yK BK275.out hb
        replace BK287 := yK BK287.out hb
        replace HB := aM (zT (zH HB.out) hb)
        (try clear hb)
        refine hK.out _ _ ⟨yc BK268.out 0, yc BK268.out 1, yc BK268.out 2, yc BK275.out 0, yc BK275.out 1⟩ (fun hHeld => ?_)
        clear hK K
        refine norm_ (a' := ?_) ?_ ?_
        rotate_left
        ·show Act.put _ (some 56) _ = _
         simp only [Act.put, qA, qB, qC, i64_w, i32_w]
         rfl
        refine one_ (i := 9) (N := some 58) #[tT,tT,tT,tT,tT,tT,tT,tT,tT,tT,fF,tT,fF] rfl rfl (one_of HT_.out (by kernel_rfl)) (by decide) (fun K hK => ?_)
        refine gS Try.func54 (by kernel_rfl) rfl #[.slice A0_1 l0_1.length c0_1, .int .i64 t276, .agg #[.int .i64 t274, .int .i64 a1]] (by rfl) rfl rfl ?_
        with_reducible refine (spec_l5Cut.calls _ _ l0_1 t276 t274 a1 t277 _ ?side1 ?side2 A40.out).mono ?_
        (case side1 => exact cK HR0_1.out HB.out)
        (case side2 => exact HC0_1.out)
        rintro e w82 ⟨v278, rfl, ho0, hb⟩
        refine ⟨_, rfl, ?_⟩
        have HO279 := aM (xL (Kd.R_newB ho0 (g := gb275) (o := .cells #[.int .i64 t274, .int .i64 a1] 49 (0, 0)) (yH BK275.out)) (zZ (zH HB.out)))
        replace BK268 := yK BK268.out hb
        replace BK269 := yK BK269.out hb
        replace BK275 := yK BK275.out hb
        replace BK287 := yK BK287.out hb
        replace HB := aM (zT (zH HB.out) hb)
        (try clear hb); (try clear ho0)
        obtain ⟨Ao83, co83, eo83⟩ := Kd.R_slice HO279.out
        (first | subst eo83 | obtain ⟨rfl, rfl⟩ := eI eo83)
        refine hK.out _ _ ⟨yc BK268.out 0, yc BK268.out 1, yc BK268.out 2, yc BK275.out 0, yc BK275.out 1⟩ (fun hHeld => ?_)
        clear hK K
        refine norm_ (a' := ?_) ?_ ?_
        rotate_left
        ·show Act.put _ (some 58) _ = _
         simp only [Act.put, qA, qB, qC, i64_w, i32_w]
         rfl
        refine one_ (i := 10) (N := some 59) #[tT,tT,tT,tT,tT,tT,tT,tT,tT,tT,tT,tT,fF] rfl rfl (one_of HT_.out (by kernel_rfl)) (by decide) (fun K hK => ?_)
        refine gS Try.func37 (by kernel_rfl) rfl #[.int .i64 a0_0, .slice Ao83 t277.length co83] (by rfl) rfl rfl ?_
        with_reducible refine (spec_l5Of.calls kj4 a0_0 _ _ t277 t280 t281 t284 _ ?side1 ?side2 A41.out).mono ?_
        (case side1 => repeat (first | exact (Kd.R_reads' HO279.out).2.2 | (with_reducible refine cA ?_ _) | (with_reducible refine cN ?_ _) | (with_reducible refine cD ?_)))
        (case side2 => exact (Kd.R_reads' HO279.out).2.1)
        rintro e w84 ⟨v282, v285, rfl, ho0, ho1, hb⟩
        refine ⟨_, rfl, ?_⟩
        have HO283 := aM (xL (Kd.R_newB (Kd.R_new' ho0 (Kd.R_lt (xH HO279.out))) (g := gb275) (o := .cells #[.int .i64 t274, .int .i64 a1] 49 (0, 0)) (yH BK275.out)) (zZ (zH HB.out)))
        have HO286 := aM (xL (Kd.R_newB (Kd.R_new' ho1 (Kd.R_lt (xH HO279.out))) (g := gb275) (o := .cells #[.int .i64 t274, .int .i64 a1] 49 (0, 0)) (yH BK275.out)) (zZ (zH HB.out)))
        replace HO279 := aM (xM (Kd.R_told (Kd.R_told (Kd.R_old (xH HO279.out) hb) (Kd.R_base ho0)) (Kd.R_base ho1)) (fun _ h_ => h_.1))
        replace BK268 := yK BK268.out hb
        replace BK269 := yK BK269.out hb
        replace BK275 := yK BK275.out hb
        replace BK287 := yK BK287.out hb
        replace HB := aM (zT (zH HB.out) hb)
        (try clear hb); (try clear ho0); (try clear ho1)
        refine hK.out _ _ ⟨yc BK268.out 0, yc BK268.out 1, yc BK268.out 2, yc BK275.out 0, yc BK275.out 1⟩ (fun hHeld => ?_)
        clear hK K
        refine norm_ (a' := ?_) ?_ ?_
        rotate_left
        ·show Act.put _ (some 59) _ = _
         simp only [Act.put, qA, qB, qC, i64_w, i32_w]
         rfl
        exact norm_ (by simp only [putAll, Act.put, qA, qB, qC]) (hCont (.slice Ao83 t277.length co83, v282, v285, gb287) _ ⟨hHeld, (xH (xM HO279.out (fun _ hk => ⟨hk.1.2, ⟨hk.2, hk.1.1.2⟩⟩))), (xH (xM HO283.out (fun _ hk => ⟨hk.1.2, ⟨hk.1.1, hk.2⟩⟩))), (xH (xM HO286.out (fun _ hk => ⟨hk.1.2, ⟨hk.1.1, hk.2⟩⟩))), (yH BK268.out), (yH BK269.out), (yH BK275.out), (yH BK287.out), GW287.out, GE287.out, NB268_287.out, NB287_268.out, NB269_287.out, NB287_269.out, NB275_287.out, NB287_275.out, (zH HB.out)⟩)
      rintro ⟨v278, v282, v285, gb287⟩ w85 ⟨hS_, h0_, h1_, h2_, h3_, h4_, h5_, h6_, h7_, h8_, h9_, h10_, h11_, h12_, h13_, h14_, h15_⟩
      (try dsimp only at h0_ h1_ h2_ h3_ h4_ h5_ h6_ h7_ h8_ h9_ h10_ h11_ h12_ h13_ h14_ h15_)
      have n0_ := aM h0_
      have n1_ := aM h1_
      have n2_ := aM h2_
      have n3_ := aM h3_
      have n4_ := aM h4_
      have n5_ := aM h5_
      have n6_ := aM h6_
      have n7_ := aM h7_
      have n8_ := aM h8_
      have n9_ := aM h9_
      have n10_ := aM h10_
      have n11_ := aM h11_
      have n12_ := aM h12_
      have n13_ := aM h13_
      have n14_ := aM h14_
      have n15_ := aM h15_
      clear BK268 BK269 BK275 HB h0_ h1_ h2_ h3_ h4_ h5_ h6_ h7_ h8_ h9_ h10_ h11_ h12_ h13_ h14_ h15_
      have HO279 := n0_
      have HO283 := n1_
      have HO286 := n2_
      have BK268 := n3_
      have BK269 := n4_
      have BK275 := n5_
      have BK287 := n6_
      have GW287 := n7_
      have GE287 := n8_
      have NB268_287 := n9_
      have NB287_268 := n10_
      have NB269_287 := n11_
      have NB287_269 := n12_
      have NB275_287 := n13_
      have NB287_275 := n14_
      have HB := n15_
      clear n0_ n1_ n2_ n3_ n4_ n5_ n6_ n7_ n8_ n9_ n10_ n11_ n12_ n13_ n14_ n15_
      have hHeld : w85.cell? ⟨gb268, 0, none⟩ = some (.int .i64 a0_0) ∧ w85.cell? ⟨gb268, 1, none⟩ = some (.slice A0_1 l0_1.length c0_1) ∧ w85.cell? ⟨gb268, 2, none⟩ = some (.slice A0_2 l0_2.length c0_2) ∧ w85.cell? ⟨gb275, 0, none⟩ = some (.int .i64 t274) ∧ w85.cell? ⟨gb275, 1, none⟩ = some (.int .i64 a1) := hS_
      obtain ⟨Ao87, co87, eo87⟩ := Kd.R_slice HO283.out
      (first | subst eo87 | obtain ⟨rfl, rfl⟩ := eI eo87)
      obtain ⟨Ao89, co89, eo89⟩ := Kd.R_slice HO286.out
      (first | subst eo89 | obtain ⟨rfl, rfl⟩ := eI eo89)
      refine norm_ (a' := ?_) ?_ ?_
      rotate_left
      ·simp only [putAll, Act.put, qA, qB, qC]
       rfl
      refine one_ (i := 12) (N := none) #[tT,tT,tT,tT,tT,tT,tT,tT,tT,tT,tT,tT,tT] rfl rfl (one_of HT_.out (by kernel_rfl)) (by decide) (fun K hK => ?_)
      have hs86 : w85.cell? ⟨gb287, 0, none⟩ = some (.int .i64 0) := yc BK287.out 0
      have hfs86 := yZ BK287.out 0
      have hns86_0 := NB268_287.out
      have hns86_1 := NB269_287.out
      have hns86_2 := NB275_287.out
      have hms86_0 := NB287_268.out
      have hms86_1 := NB287_269.out
      have hms86_2 := NB287_275.out
      have hs88 : w85.cell? ⟨gb287, 1, none⟩ = some (.slice none 0 0) := yc BK287.out 1
      have hfs88 := yZ BK287.out 1
      have hns88_0 := NB268_287.out
      have hns88_1 := NB269_287.out
      have hns88_2 := NB275_287.out
      have hms88_0 := NB287_268.out
      have hms88_1 := NB287_269.out
      have hms88_2 := NB287_275.out
      have hs90 : w85.cell? ⟨gb287, 2, none⟩ = some (.slice none 0 0) := yc BK287.out 2
      have hfs90 := yZ BK287.out 2
      have hns90_0 := NB268_287.out
      have hns90_1 := NB269_287.out
      have hns90_2 := NB275_287.out
      have hms90_0 := NB287_268.out
      have hms90_1 := NB287_269.out
      have hms90_2 := NB287_275.out
      refine skip_ (w1 := ?_) (by rfl) rfl ?_ ?_
      rotate_left
      ·go_simp
       rfl
      refine hK.out _ _ ⟨((cell_far (p := ⟨gb287, _, none⟩) NB268_287.out _).trans (((cell_far (p := ⟨gb287, _, none⟩) NB268_287.out _).trans (((cell_far (p := ⟨gb287, _, none⟩) NB268_287.out _).trans (hHeld.1)))))), ((cell_far (p := ⟨gb287, _, none⟩) NB268_287.out _).trans (((cell_far (p := ⟨gb287, _, none⟩) NB268_287.out _).trans (((cell_far (p := ⟨gb287, _, none⟩) NB268_287.out _).trans (hHeld.2.1)))))), ((cell_far (p := ⟨gb287, _, none⟩) NB268_287.out _).trans (((cell_far (p := ⟨gb287, _, none⟩) NB268_287.out _).trans (((cell_far (p := ⟨gb287, _, none⟩) NB268_287.out _).trans (hHeld.2.2.1)))))), ((cell_far (p := ⟨gb287, _, none⟩) NB275_287.out _).trans (((cell_far (p := ⟨gb287, _, none⟩) NB275_287.out _).trans (((cell_far (p := ⟨gb287, _, none⟩) NB275_287.out _).trans (hHeld.2.2.2.1)))))), ((cell_far (p := ⟨gb287, _, none⟩) NB275_287.out _).trans (((cell_far (p := ⟨gb287, _, none⟩) NB275_287.out _).trans (((cell_far (p := ⟨gb287, _, none⟩) NB275_287.out _).trans (hHeld.2.2.2.2))))))⟩ (fun hHeld => ?_)
      clear hK K
      refine done_ (done_of HT_.out (by kernel_rfl)) ?_
      have hnb91 := NB287_268.out
      have hnc91 := NB268_287.out
      have hnb92 := NB287_269.out
      have hnc92 := NB269_287.out
      have hnb93 := NB287_275.out
      have hnc93 := NB275_287.out
      have hcz94_0 : w85.cell? ⟨gb287, 0, none⟩ = some (.int .i64 0) := yc BK287.out 0
      have hcz94_1 : w85.cell? ⟨gb287, 1, none⟩ = some (.slice none 0 0) := yc BK287.out 1
      have hcz94_2 : w85.cell? ⟨gb287, 2, none⟩ = some (.slice none 0 0) := yc BK287.out 2
      have hfz94_0 := yZ BK287.out 0
      have hfz94_1 := yZ BK287.out 1
      have hfz94_2 := yZ BK287.out 2
      try go_wp2_with (first | ((with_reducible refine gate_callee (f := 17) rfl ?_); refine goesL_ (some 61) rfl rfl Try.func17 (by kernel_rfl) rfl #[.agg #[.int .i64 t280, .slice Ao87 t281.length co87, .slice Ao89 t284.length co89]] rfl (by (try simp only [List.map_toArray, List.map_cons, List.map_nil]); first | done | rfl | (simp only [List.length_drop, List.length_take]; rfl)) ?_; (with_reducible refine (spec_GoodFree.calls kj4 t280 _ _ t281 _ _ t284 false _ ?side1 ?side2 ?side3 ?side4 A42.out).mono ?_); (case side1 => exact rC (n := t281.length) (c := co87) ((x3 HO283.out BK287.out (by decide) (.int .i64 t280) (.slice Ao87 t281.length co87) (.slice Ao89 t284.length co89)))); (case side2 => exact (Kd.R_reads' HO283.out).2.1); (case side3 => exact rC (n := t284.length) (c := co89) ((x3 HO286.out BK287.out (by decide) (.int .i64 t280) (.slice Ao87 t281.length co87) (.slice Ao89 t284.length co89)))); (case side4 => exact (Kd.R_reads' HO286.out).2.1); rintro e w95 ⟨rfl, hb⟩; refine ⟨_, rfl, ?_⟩; replace HO279 := aM (xB (xH ((x3 HO279.out BK287.out (by decide) (.int .i64 t280) (.slice Ao87 t281.length co87) (.slice Ao89 t284.length co89)))) hb); replace HO283 := aM (xB (xH ((x3 HO283.out BK287.out (by decide) (.int .i64 t280) (.slice Ao87 t281.length co87) (.slice Ao89 t284.length co89)))) hb); replace HO286 := aM (xB (xH ((x3 HO286.out BK287.out (by decide) (.int .i64 t280) (.slice Ao87 t281.length co87) (.slice Ao89 t284.length co89)))) hb); replace BK268 := aM (yB (g := gb268) (o := .cells #[.int .i64 a0_0, .slice A0_1 l0_1.length c0_1, .slice A0_2 l0_2.length c0_2] 24 (0, 0)) (by (with_reducible repeat (first | refine yN ?_ _ | refine yD ?_ | refine yA ?_ _)); refine yF ?_ NB268_287.out _; (with_reducible repeat (first | refine yN ?_ _ | refine yD ?_ | refine yA ?_ _)); refine yF ?_ NB268_287.out _; (with_reducible repeat (first | refine yN ?_ _ | refine yD ?_ | refine yA ?_ _)); refine yF ?_ NB268_287.out _; (with_reducible repeat (first | refine yN ?_ _ | refine yD ?_ | refine yA ?_ _)); exact BK268.out) hb); replace BK269 := aM (yB (g := gb269) (o := .cells #[.int .i64 0, .slice none 0 0, .slice none 0 0] 24 (0, 0)) (by (with_reducible repeat (first | refine yN ?_ _ | refine yD ?_ | refine yA ?_ _)); refine yF ?_ NB269_287.out _; (with_reducible repeat (first | refine yN ?_ _ | refine yD ?_ | refine yA ?_ _)); refine yF ?_ NB269_287.out _; (with_reducible repeat (first | refine yN ?_ _ | refine yD ?_ | refine yA ?_ _)); refine yF ?_ NB269_287.out _; (with_reducible repeat (first | refine yN ?_ _ | refine yD ?_ | refine yA ?_ _)); exact BK269.out) hb); replace BK275 := aM (yB (g := gb275) (o := .cells #[.int .i64 t274, .int .i64 a1] 49 (0, 0)) (by (with_reducible repeat (first | refine yN ?_ _ | refine yD ?_ | refine yA ?_ _)); refine yF ?_ NB275_287.out _; (with_reducible repeat (first | refine yN ?_ _ | refine yD ?_ | refine yA ?_ _)); refine yF ?_ NB275_287.out _; (with_reducible repeat (first | refine yN ?_ _ | refine yD ?_ | refine yA ?_ _)); refine yF ?_ NB275_287.out _; (with_reducible repeat (first | refine yN ?_ _ | refine yD ?_ | refine yA ?_ _)); exact BK275.out) hb); replace BK287 := aM (yB (g := gb287) (o := .cells #[.int .i64 t280, .slice Ao87 t281.length co87, .slice Ao89 t284.length co89] 24 (0, 0)) (by (with_reducible repeat (first | refine yN ?_ _ | refine yD ?_ | refine yA ?_ _)); refine yP (cs := #[.int .i64 t280, .slice Ao87 t281.length co87, .slice none 0 0]) ?_ 2 _ rfl; (with_reducible repeat (first | refine yN ?_ _ | refine yD ?_ | refine yA ?_ _)); refine yP (cs := #[.int .i64 t280, .slice none 0 0, .slice none 0 0]) ?_ 1 _ rfl; (with_reducible repeat (first | refine yN ?_ _ | refine yD ?_ | refine yA ?_ _)); refine yP (cs := #[.int .i64 0, .slice none 0 0, .slice none 0 0]) ?_ 0 _ rfl; (with_reducible repeat (first | refine yN ?_ _ | refine yD ?_ | refine yA ?_ _)); exact BK287.out) hb); replace HB := aM (zT (zH HB.out) hb); (try clear hb); have hcz96_0 : w95.cell? ⟨gb269, 0, none⟩ = some (.int .i64 0) := yc BK269.out 0; have hcz96_1 : w95.cell? ⟨gb269, 1, none⟩ = some (.slice none 0 0) := yc BK269.out 1; have hcz96_2 : w95.cell? ⟨gb269, 2, none⟩ = some (.slice none 0 0) := yc BK269.out 2; have hfz96_0 := yZ BK269.out 0; have hfz96_1 := yZ BK269.out 1; have hfz96_2 := yZ BK269.out 2))
      refine bodyPost_ret (results_ctt rfl _ _ gb269 24 #[.int .i64 0, .slice none 0 0, .slice none 0 0] (0, 0) _ rfl (by (with_reducible repeat (first | refine yN ?_ _ | refine yD ?_ | refine yA ?_ _)); refine yP (cs := #[.int .i64 0, .slice none 0 0, .slice none 0 0]) ?_ 2 _ rfl; (with_reducible repeat (first | refine yN ?_ _ | refine yD ?_ | refine yA ?_ _)); refine yP (cs := #[.int .i64 0, .slice none 0 0, .slice none 0 0]) ?_ 1 _ rfl; (with_reducible repeat (first | refine yN ?_ _ | refine yD ?_ | refine yA ?_ _)); refine yP (cs := #[.int .i64 0, .slice none 0 0, .slice none 0 0]) ?_ 0 _ rfl; (with_reducible repeat (first | refine yN ?_ _ | refine yD ?_ | refine yA ?_ _)); exact BK269.out) Try.underlying24 rfl (by kernel_rfl)) rfl ?_
      exact ⟨_, _, by first | rfl | (simp [errW_none, errW_some] <;> rfl) | (simp [*, errW_none, errW_some] <;> rfl), by first | exact Kd.R_nil _ _ _ _ _ | exact Kd.N_nil _ _ _ _ _ | exact Kd.V_nil _ _ _ _ _ | exact Kd.Q_nil _ _ _ _ _ | exact Kd.S_nil _ _ _ _ _, by first | exact Kd.R_nil _ _ _ _ _ | exact Kd.N_nil _ _ _ _ _ | exact Kd.V_nil _ _ _ _ _ | exact Kd.Q_nil _ _ _ _ _ | exact Kd.S_nil _ _ _ _ _, zH HB.out⟩

end Go.Proofs.Ytfhfaeeokibhaaa.PFnExactTakeRoom
