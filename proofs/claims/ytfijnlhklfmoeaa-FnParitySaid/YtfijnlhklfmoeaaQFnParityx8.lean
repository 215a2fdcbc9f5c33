/- The walks of FnParity: Go's calls come to what the Lean functions beside them say; no condition. -/
import Derived.Test.YtfijnlhklfmoeaaQFnParityx0
import Derived.Test.YtfijnlhklfmoeaaQFnParityx2
import Derived.Test.YtfijnlhklfmoeaaQFnParityx5
import Derived.Test.YtfijnlhklfmoeaaQFnParityx7
namespace Go.Proofs.Ytfijnlhklfmoeaa.PFnParity
open Go.RowKit Go.Proofs.YtfijnlhklfmoeaaW.PrintWords Go.Proofs.YtfijnlhklfmoeaaW.PrintLast Go.Proofs.YtfijnlhklfmoeaaW.PrintMore
attribute [local go_sem] max2_int min2_int max_two min_two max_three min_three max_four min_four   -- for this text's walks alone
set_option linter.unusedVariables false
set_option linter.unusedSimpArgs false
set_option maxRecDepth 100000

/-! ### spec_RecoverTwo: function 33 -/
def spec_RecoverTwo.j0 : Nat → Int → Int → Bool → List ByteArray → ByteArray → ByteArray → Option (List ByteArray × ByteArray × ByteArray × Bool)
 | 0, _, _, _, _, _, _ => none
 | k + 1, x1, x2, x33, x296000, x296001, x296002 => if x33 = true then (some (([] : List ByteArray), (⟨#[]⟩ : ByteArray), (⟨#[]⟩ : ByteArray), false)) else (if x1 > x2 then ((spec_l3Two.f k x296000 x296001 x296002 x2 x1).bind fun bt300 => (some (bt300.1, bt300.2.1, bt300.2.2, true))) else ((spec_l3Two.f k x296000 x296001 x296002 x1 x2).bind fun bt305 => (some (bt305.1, bt305.2.1, bt305.2.2, true))))
def spec_RecoverTwo.f (k : Nat) (l0_0 : List ByteArray) (a0_1 : ByteArray) (a0_2 : ByteArray) (a1 : Int) (a2 : Int) : Option (List ByteArray × ByteArray × ByteArray × Bool) := (spec_GoodStripe.f k l0_0 a0_1 a0_2).bind fun t297 => (if t297 = true then ((spec_l1In.f a1 0 (wrap64 ((l0_0.length : Int) + 1))).bind fun t298 => (if t298 = true then ((spec_l1In.f a2 0 (wrap64 ((l0_0.length : Int) + 1))).bind fun t299 => (if t299 = true then (spec_RecoverTwo.j0 k a1 a2 (a1 == a2) l0_0 a0_1 a0_2) else (spec_RecoverTwo.j0 k a1 a2 true l0_0 a0_1 a0_2))) else (spec_RecoverTwo.j0 k a1 a2 true l0_0 a0_1 a0_2))) else (spec_RecoverTwo.j0 k a1 a2 true l0_0 a0_1 a0_2))
theorem spec_RecoverTwo.mono_l : ∀ k, (∀ y0 y1 y2 y3 y4 y5, LeO (spec_RecoverTwo.j0 k y0 y1 y2 y3 y4 y5) (spec_RecoverTwo.j0 (k + 1) y0 y1 y2 y3 y4 y5))
 | 0 => fun _ _ _ _ _ _ r h => by change none = some r at h; cases h
 | k + 1 => by
  have ih0 := spec_RecoverTwo.mono_l k
  ·intro y0 y1 y2 y3 y4 y5
   unfold spec_RecoverTwo.j0
   repeat' first
   | (with_reducible exact ih0 _ _ _ _ _ _)
   | (with_reducible exact spec_GoodStripe.mono _ _ _ _)
   | (with_reducible exact spec_l3Two.mono _ _ _ _ _ _)
   | (with_reducible exact LeO.refl _)
   | (with_reducible exact LeO.none _)
   | (with_reducible refine LeO.ite ?_ ?_)
   | (with_reducible refine LeO.bind ?_ (fun _ => ?_))
   | exact ih0 _ _ _ _ _ _
   | exact spec_GoodStripe.mono _ _ _ _
   | exact spec_l3Two.mono _ _ _ _ _ _
   | exact LeO.none _
   | refine LeO.ite ?_ ?_
   | refine LeO.bind ?_ (fun _ => ?_)
theorem spec_RecoverTwo.mono : ∀ a0 a1 a2 a3 a4 k, LeO (spec_RecoverTwo.f k a0 a1 a2 a3 a4) (spec_RecoverTwo.f (k + 1) a0 a1 a2 a3 a4) := by
 intro a0 a1 a2 a3 a4 k
 have ih0 := spec_RecoverTwo.mono_l k
 unfold spec_RecoverTwo.f
 repeat' first
   | (with_reducible exact ih0 _ _ _ _ _ _)
   | (with_reducible exact spec_GoodStripe.mono _ _ _ _)
   | (with_reducible exact spec_l3Two.mono _ _ _ _ _ _)
   | (with_reducible exact LeO.refl _)
   | (with_reducible exact LeO.none _)
   | (with_reducible refine LeO.ite ?_ ?_)
   | (with_reducible refine LeO.bind ?_ (fun _ => ?_))
   | exact ih0 _ _ _ _ _ _
   | exact spec_GoodStripe.mono _ _ _ _
   | exact spec_l3Two.mono _ _ _ _ _ _
   | exact LeO.none _
   | refine LeO.ite ?_ ?_
   | refine LeO.bind ?_ (fun _ => ?_)
set_option maxHeartbeats 8000000 in
set_option maxRecDepth 100000 in
theorem spec_RecoverTwo.calls (k : Nat) (A0_0 : Option Addr) (c0_0 : Nat) (l0_0 : List ByteArray) (a0_1 : ByteArray) (a0_2 : ByteArray) (a1 : Int) (a2 : Int) (r1 : List ByteArray) (r2 : ByteArray) (r3 : ByteArray) (r4 : Bool) (w : World) (hr0_0 : Kd.C Kd.string w A0_0 l0_0.length l0_0) (hc0_0 : l0_0.length ≤ c0_0) (h : spec_RecoverTwo.f k l0_0 a0_1 a0_2 a1 a2 = some (r1, r2, r3, r4)) :
  Calls Try.prog 33 #[.agg #[.slice A0_0 l0_0.length c0_0, .string a0_1, .string a0_2], .int .i64 a1, .int .i64 a2] w fun e w' => ∃ v0_ : Value, e = .returned (.tuple #[.agg #[v0_, .string r2, .string r3], .bool r4]) ∧ Kd.R Kd.string 9 w' w.heap.size (fun _ => True) v0_ r1 ∧ Below w.heap.size w w' := by
 have hu27 := Try.underlying27; have HR0_0 := aM hr0_0; have HC0_0 := aM hc0_0; clear hr0_0 hc0_0; have HB := aM (Below.refl w.heap.size w)
 have H : ((spec_GoodStripe.f k l0_0 a0_1 a0_2).bind fun t297 => (if t297 = true then ((spec_l1In.f a1 0 (wrap64 ((l0_0.length : Int) + 1))).bind fun t298 => (if t298 = true then ((spec_l1In.f a2 0 (wrap64 ((l0_0.length : Int) + 1))).bind fun t299 => (if t299 = true then (spec_RecoverTwo.j0 k a1 a2 (a1 == a2) l0_0 a0_1 a0_2) else (spec_RecoverTwo.j0 k a1 a2 true l0_0 a0_1 a0_2))) else (spec_RecoverTwo.j0 k a1 a2 true l0_0 a0_1 a0_2))) else (spec_RecoverTwo.j0 k a1 a2 true l0_0 a0_1 a0_2))) = some (r1, r2, r3, r4) := h
 clear h; have HC4 := aM H; clear H
 go_enter Try.func33, Try.ntmps33
 go_upto_region 1 with (first | ((with_reducible refine gate_dst (N := 3) rfl ?_); (try (refine gate_guard (by rfl) ?_; dsimp only)); refine box_event ?hg (N := 3) ?hd (cs := #[.slice A0_0 l0_0.length c0_0, .string a0_1, .string a0_2]) (t := 27) ?hr ?_; (case hd => rfl); (case hg => rfl); (case hr => first | (go_simp; done) | (go_simp; rfl)); intro gb295 hg w5 hbox hb; have BK295 := aM (hbox); have GW295 := aM ((by rw [hg]; exact (zZ (zH HB.out)) : w.heap.size ≤ gb295)); have GE295 := aM ((by rw [hg]; exact (zZ (zH HB.out)) : w.heap.size ≤ gb295)); replace HB := aM (zT (zH HB.out) hb); clear hb hbox hg) | ((with_reducible refine gate_dst (N := 6) rfl ?_); (try (refine gate_guard (by rfl) ?_; dsimp only)); refine box_event ?hg (N := 6) ?hd (cs := #[.slice none 0 0, .string (⟨#[]⟩ : ByteArray), .string (⟨#[]⟩ : ByteArray)]) (t := 27) ?hr ?_; (case hd => rfl); (case hg => rfl); (case hr => first | (go_simp; done) | (go_simp; rfl)); intro gb296 hg w6 hbox hb; have BK296 := aM (hbox); have GW296 := aM ((by rw [hg]; exact (zZ (zH HB.out)) : w.heap.size ≤ gb296)); have GE296 := aM ((by rw [hg]; exact (zZ (zH HB.out)) : w.heap.size ≤ gb296)); replace HB := aM (zT (zH HB.out) hb); have NB295_296 := nL BK295.out hg; have NB296_295 := nR BK295.out hg; replace BK295 := yK BK295.out hb; clear hb hbox hg))
 (try simp only [Act.put, qA, qB, qC])
 go_cut [33] (fun v33 wc => ∃ (kq : Nat) (x33_3 : Bool), v33 = .bool x33_3 ∧ Aside0 (spec_RecoverTwo.j0 kq a1 a2 x33_3 l0_0 a0_1 a0_2 = some (r1, r2, r3, r4)) ∧ Aside0 (kq ≤ k) ∧ Aside0 (wc.heap[gb295]? = some (.cells #[(.slice A0_0 l0_0.length c0_0), .string a0_1, .string a0_2] 27 (0, 0))) ∧ Aside0 (wc.heap[gb296]? = some (.cells #[(.slice none 0 0), .string (⟨#[]⟩ : ByteArray), .string (⟨#[]⟩ : ByteArray)] 27 (0, 0))) ∧ Aside0 (Below w.heap.size w wc))
 case first =>
  have H := HC4.out; clear HC4; replace H := Option.bind_eq_some_iff.mp H; obtain ⟨t297, A70, H⟩ := H
  replace H : (if t297 = true then ((spec_l1In.f a1 0 (wrap64 ((l0_0.length : Int) + 1))).bind fun t298 => (if t298 = true then ((spec_l1In.f a2 0 (wrap64 ((l0_0.length : Int) + 1))).bind fun t299 => (if t299 = true then (spec_RecoverTwo.j0 k a1 a2 (a1 == a2) l0_0 a0_1 a0_2) else (spec_RecoverTwo.j0 k a1 a2 true l0_0 a0_1 a0_2))) else (spec_RecoverTwo.j0 k a1 a2 true l0_0 a0_1 a0_2))) else (spec_RecoverTwo.j0 k a1 a2 true l0_0 a0_1 a0_2)) = some (r1, r2, r3, r4) := H
  have A7 := aM A70; clear A70
  by_cases c8 : t297 = true
  ·subst c8
   have H1 : ((spec_l1In.f a1 0 (wrap64 ((l0_0.length : Int) + 1))).bind fun t298 => (if t298 = true then ((spec_l1In.f a2 0 (wrap64 ((l0_0.length : Int) + 1))).bind fun t299 => (if t299 = true then (spec_RecoverTwo.j0 k a1 a2 (a1 == a2) l0_0 a0_1 a0_2) else (spec_RecoverTwo.j0 k a1 a2 true l0_0 a0_1 a0_2))) else (spec_RecoverTwo.j0 k a1 a2 true l0_0 a0_1 a0_2))) = some (r1, r2, r3, r4) := by rw [if_pos rfl] at H; exact H
   clear H; have H := H1; clear H1; replace H := Option.bind_eq_some_iff.mp H; obtain ⟨t298, A90, H⟩ := H
   replace H : (if t298 = true then ((spec_l1In.f a2 0 (wrap64 ((l0_0.length : Int) + 1))).bind fun t299 => (if t299 = true then (spec_RecoverTwo.j0 k a1 a2 (a1 == a2) l0_0 a0_1 a0_2) else (spec_RecoverTwo.j0 k a1 a2 true l0_0 a0_1 a0_2))) else (spec_RecoverTwo.j0 k a1 a2 true l0_0 a0_1 a0_2)) = some (r1, r2, r3, r4) := H
   have A9 := aM A90; clear A90
   by_cases c10 : t298 = true
   ·subst c10
    have H1 : ((spec_l1In.f a2 0 (wrap64 ((l0_0.length : Int) + 1))).bind fun t299 => (if t299 = true then (spec_RecoverTwo.j0 k a1 a2 (a1 == a2) l0_0 a0_1 a0_2) else (spec_RecoverTwo.j0 k a1 a2 true l0_0 a0_1 a0_2))) = some (r1, r2, r3, r4) := by rw [if_pos rfl] at H; exact H
    clear H; have H := H1; clear H1; replace H := Option.bind_eq_some_iff.mp H; obtain ⟨t299, A110, H⟩ := H; replace H : (if t299 = true then (spec_RecoverTwo.j0 k a1 a2 (a1 == a2) l0_0 a0_1 a0_2) else (spec_RecoverTwo.j0 k a1 a2 true l0_0 a0_1 a0_2)) = some (r1, r2, r3, r4) := H; have A11 := aM A110; clear A110
    by_cases c12 : t299 = true
    ·subst c12
     have H1 : (spec_RecoverTwo.j0 k a1 a2 (a1 == a2) l0_0 a0_1 a0_2) = some (r1, r2, r3, r4) := by rw [if_pos rfl] at H; exact H
     clear H; have H := H1; clear H1; have H' := aM H; clear H; have hnb13 := NB295_296.out; have hnc13 := NB296_295.out; have hcz14_0 : w6.cell? ⟨gb295, 0, none⟩ = some (.slice A0_0 l0_0.length c0_0) := yc BK295.out 0; have hcz14_1 : w6.cell? ⟨gb295, 1, none⟩ = some (.string a0_1) := yc BK295.out 1; have hcz14_2 : w6.cell? ⟨gb295, 2, none⟩ = some (.string a0_2) := yc BK295.out 2; have hfz14_0 := yZ BK295.out 0; have hfz14_1 := yZ BK295.out 1; have hfz14_2 := yZ BK295.out 2
     go_wp2_with (first | ((with_reducible refine gate_callee (f := 13) rfl ?_); refine goesL_ (some 9) rfl rfl Try.func13 (by kernel_rfl) rfl #[.agg #[.slice A0_0 l0_0.length c0_0, .string a0_1, .string a0_2]] rfl mA ?_; (with_reducible refine (spec_GoodStripe.calls k _ _ l0_0 a0_1 a0_2 true _ ?side1 ?side2 A7.out).mono ?_); (case side1 => exact cK HR0_0.out HB.out); (case side2 => exact HC0_0.out); rintro e w15 ⟨rfl, hb⟩; refine ⟨_, rfl, ?_⟩; replace BK295 := yK BK295.out hb; replace BK296 := yK BK296.out hb; replace HB := aM (zT (zH HB.out) hb); (try clear hb); have hcz16_0 : w15.cell? ⟨gb295, 0, none⟩ = some (.slice A0_0 l0_0.length c0_0) := yc BK295.out 0; have hcz16_1 : w15.cell? ⟨gb295, 1, none⟩ = some (.string a0_1) := yc BK295.out 1; have hcz16_2 : w15.cell? ⟨gb295, 2, none⟩ = some (.string a0_2) := yc BK295.out 2; have hfz16_0 := yZ BK295.out 0; have hfz16_1 := yZ BK295.out 1; have hfz16_2 := yZ BK295.out 2) | (go_at_call 50; (with_reducible refine (spec_l1In.calls a1 0 (wrap64 ((l0_0.length : Int) + 1)) true _ A9.out).mono ?_); rintro e w' ⟨rfl, ⟨nd, rfl⟩⟩) | (go_at_call 50; (with_reducible refine (spec_l1In.calls a2 0 (wrap64 ((l0_0.length : Int) + 1)) true _ A11.out).mono ?_); rintro e w' ⟨rfl, ⟨nd, rfl⟩⟩))
     go_meet
     case rel => exact ⟨_, ((a1 == a2)), (by first | rfl | (simp; done) | (simp [*]; done)), H', ⟨by first | omega | exact Nat.le_refl _⟩, ⟨yH BK295.out⟩, ⟨yH BK296.out⟩, ⟨zH HB.out⟩⟩
    ·replace c12 := Bool.eq_false_iff.mpr c12
     subst c12
     have H1 : (spec_RecoverTwo.j0 k a1 a2 true l0_0 a0_1 a0_2) = some (r1, r2, r3, r4) := by rw [if_neg (show ¬ (false = true) by decide)] at H; exact H
     clear H; have H := H1; clear H1; have H' := aM H; clear H; have hnb17 := NB295_296.out; have hnc17 := NB296_295.out; have hcz18_0 : w6.cell? ⟨gb295, 0, none⟩ = some (.slice A0_0 l0_0.length c0_0) := yc BK295.out 0; have hcz18_1 : w6.cell? ⟨gb295, 1, none⟩ = some (.string a0_1) := yc BK295.out 1; have hcz18_2 : w6.cell? ⟨gb295, 2, none⟩ = some (.string a0_2) := yc BK295.out 2; have hfz18_0 := yZ BK295.out 0; have hfz18_1 := yZ BK295.out 1; have hfz18_2 := yZ BK295.out 2
     go_wp2_with (first | ((with_reducible refine gate_callee (f := 13) rfl ?_); refine goesL_ (some 9) rfl rfl Try.func13 (by kernel_rfl) rfl #[.agg #[.slice A0_0 l0_0.length c0_0, .string a0_1, .string a0_2]] rfl mA ?_; (with_reducible refine (spec_GoodStripe.calls k _ _ l0_0 a0_1 a0_2 true _ ?side1 ?side2 A7.out).mono ?_); (case side1 => exact cK HR0_0.out HB.out); (case side2 => exact HC0_0.out); rintro e w19 ⟨rfl, hb⟩; refine ⟨_, rfl, ?_⟩; replace BK295 := yK BK295.out hb; replace BK296 := yK BK296.out hb; replace HB := aM (zT (zH HB.out) hb); (try clear hb); have hcz20_0 : w19.cell? ⟨gb295, 0, none⟩ = some (.slice A0_0 l0_0.length c0_0) := yc BK295.out 0; have hcz20_1 : w19.cell? ⟨gb295, 1, none⟩ = some (.string a0_1) := yc BK295.out 1; have hcz20_2 : w19.cell? ⟨gb295, 2, none⟩ = some (.string a0_2) := yc BK295.out 2; have hfz20_0 := yZ BK295.out 0; have hfz20_1 := yZ BK295.out 1; have hfz20_2 := yZ BK295.out 2) | (go_at_call 50; (with_reducible refine (spec_l1In.calls a1 0 (wrap64 ((l0_0.length : Int) + 1)) true _ A9.out).mono ?_); rintro e w' ⟨rfl, ⟨nd, rfl⟩⟩) | (go_at_call 50; (with_reducible refine (spec_l1In.calls a2 0 (wrap64 ((l0_0.length : Int) + 1)) false _ A11.out).mono ?_); rintro e w' ⟨rfl, ⟨nd, rfl⟩⟩))
     go_meet
     case rel => exact ⟨_, (true), (by first | rfl | (simp; done) | (simp [*]; done)), H', ⟨by first | omega | exact Nat.le_refl _⟩, ⟨yH BK295.out⟩, ⟨yH BK296.out⟩, ⟨zH HB.out⟩⟩
   ·replace c10 := Bool.eq_false_iff.mpr c10
    subst c10
    have H1 : (spec_RecoverTwo.j0 k a1 a2 true l0_0 a0_1 a0_2) = some (r1, r2, r3, r4) := by rw [if_neg (show ¬ (false = true) by decide)] at H; exact H
    clear H; have H := H1; clear H1; have H' := aM H; clear H; have hnb21 := NB295_296.out; have hnc21 := NB296_295.out; have hcz22_0 : w6.cell? ⟨gb295, 0, none⟩ = some (.slice A0_0 l0_0.length c0_0) := yc BK295.out 0; have hcz22_1 : w6.cell? ⟨gb295, 1, none⟩ = some (.string a0_1) := yc BK295.out 1; have hcz22_2 : w6.cell? ⟨gb295, 2, none⟩ = some (.string a0_2) := yc BK295.out 2; have hfz22_0 := yZ BK295.out 0; have hfz22_1 := yZ BK295.out 1; have hfz22_2 := yZ BK295.out 2
    go_wp2_with (first | ((with_reducible refine gate_callee (f := 13) rfl ?_); refine goesL_ (some 9) rfl rfl Try.func13 (by kernel_rfl) rfl #[.agg #[.slice A0_0 l0_0.length c0_0, .string a0_1, .string a0_2]] rfl mA ?_; (with_reducible refine (spec_GoodStripe.calls k _ _ l0_0 a0_1 a0_2 true _ ?side1 ?side2 A7.out).mono ?_); (case side1 => exact cK HR0_0.out HB.out); (case side2 => exact HC0_0.out); rintro e w23 ⟨rfl, hb⟩; refine ⟨_, rfl, ?_⟩; replace BK295 := yK BK295.out hb; replace BK296 := yK BK296.out hb; replace HB := aM (zT (zH HB.out) hb); (try clear hb); have hcz24_0 : w23.cell? ⟨gb295, 0, none⟩ = some (.slice A0_0 l0_0.length c0_0) := yc BK295.out 0; have hcz24_1 : w23.cell? ⟨gb295, 1, none⟩ = some (.string a0_1) := yc BK295.out 1; have hcz24_2 : w23.cell? ⟨gb295, 2, none⟩ = some (.string a0_2) := yc BK295.out 2; have hfz24_0 := yZ BK295.out 0; have hfz24_1 := yZ BK295.out 1; have hfz24_2 := yZ BK295.out 2) | (go_at_call 50; (with_reducible refine (spec_l1In.calls a1 0 (wrap64 ((l0_0.length : Int) + 1)) false _ A9.out).mono ?_); rintro e w' ⟨rfl, ⟨nd, rfl⟩⟩))
    go_meet
    case rel => exact ⟨_, (true), (by first | rfl | (simp; done) | (simp [*]; done)), H', ⟨by first | omega | exact Nat.le_refl _⟩, ⟨yH BK295.out⟩, ⟨yH BK296.out⟩, ⟨zH HB.out⟩⟩
  ·replace c8 := Bool.eq_false_iff.mpr c8
   subst c8
   have H1 : (spec_RecoverTwo.j0 k a1 a2 true l0_0 a0_1 a0_2) = some (r1, r2, r3, r4) := by rw [if_neg (show ¬ (false = true) by decide)] at H; exact H
   clear H; have H := H1; clear H1; have H' := aM H; clear H; have hnb25 := NB295_296.out; have hnc25 := NB296_295.out; have hcz26_0 : w6.cell? ⟨gb295, 0, none⟩ = some (.slice A0_0 l0_0.length c0_0) := yc BK295.out 0; have hcz26_1 : w6.cell? ⟨gb295, 1, none⟩ = some (.string a0_1) := yc BK295.out 1; have hcz26_2 : w6.cell? ⟨gb295, 2, none⟩ = some (.string a0_2) := yc BK295.out 2; have hfz26_0 := yZ BK295.out 0; have hfz26_1 := yZ BK295.out 1; have hfz26_2 := yZ BK295.out 2
   go_wp2_with (first | ((with_reducible refine gate_callee (f := 13) rfl ?_); refine goesL_ (some 9) rfl rfl Try.func13 (by kernel_rfl) rfl #[.agg #[.slice A0_0 l0_0.length c0_0, .string a0_1, .string a0_2]] rfl mA ?_; (with_reducible refine (spec_GoodStripe.calls k _ _ l0_0 a0_1 a0_2 false _ ?side1 ?side2 A7.out).mono ?_); (case side1 => exact cK HR0_0.out HB.out); (case side2 => exact HC0_0.out); rintro e w27 ⟨rfl, hb⟩; refine ⟨_, rfl, ?_⟩; replace BK295 := yK BK295.out hb; replace BK296 := yK BK296.out hb; replace HB := aM (zT (zH HB.out) hb); (try clear hb)))
   go_meet
   case rel => exact ⟨_, (true), (by first | rfl | (simp; done) | (simp [*]; done)), H', ⟨by first | omega | exact Nat.le_refl _⟩, ⟨yH BK295.out⟩, ⟨yH BK296.out⟩, ⟨zH HB.out⟩⟩
 case rest =>
  clear HC4
  (try clear c8); (try clear c10); (try clear c12); (try clear hcz14_0); (try clear hcz14_1); (try clear hcz14_2); (try clear hcz16_0); (try clear hcz16_1); (try clear hcz16_2); (try clear hcz18_0); (try clear hcz18_1); (try clear hcz18_2); (try clear hcz20_0); (try clear hcz20_1); (try clear hcz20_2); (try clear hcz22_0); (try clear hcz22_1); (try clear hcz22_2); (try clear hcz24_0); (try clear hcz24_1); (try clear hcz24_2); (try clear hcz26_0); (try clear hcz26_1); (try clear hcz26_2); (try clear hfz14_0); (try clear hfz14_1); (try clear hfz14_2); (try clear hfz16_0); (try clear hfz16_1); (try clear hfz16_2); (try clear hfz18_0); (try clear hfz18_1); (try clear hfz18_2); (try clear hfz20_0); (try clear hfz20_1); (try clear hfz20_2); (try clear hfz22_0); (try clear hfz22_1); (try clear hfz22_2); (try clear hfz24_0); (try clear hfz24_1); (try clear hfz24_2); (try clear hfz26_0); (try clear hfz26_1); (try clear hfz26_2)
  obtain ⟨kq, x33_3, rfl, HA, HJ3, BK295, BK296, HB⟩ := hcut
  cases kq with
  | zero => exact absurd HA.out (fun h_ => by change none = some _ at h_; cases h_)
  | succ kj3 =>
   have H := HA.out; clear HA
   simp only [spec_RecoverTwo.j0] at H
   by_cases c28 : x33_3 = true
   ·subst c28
    have H1 : (some (([] : List ByteArray), (⟨#[]⟩ : ByteArray), (⟨#[]⟩ : ByteArray), false)) = some (r1, r2, r3, r4) := by rw [if_pos rfl] at H; exact H
    clear H; have H := H1; clear H1
    simp only [Option.some.injEq, Prod.mk.injEq] at H
    obtain ⟨rfl, rfl, rfl, rfl⟩ := H; have hnb29 := NB296_295.out; have hnc29 := NB295_296.out; have hcz30_0 : wc.cell? ⟨gb296, 0, none⟩ = some (.slice none 0 0) := yc BK296.out 0; have hcz30_1 : wc.cell? ⟨gb296, 1, none⟩ = some (.string (⟨#[]⟩ : ByteArray)) := yc BK296.out 1; have hcz30_2 : wc.cell? ⟨gb296, 2, none⟩ = some (.string (⟨#[]⟩ : ByteArray)) := yc BK296.out 2; have hfz30_0 := yZ BK296.out 0; have hfz30_1 := yZ BK296.out 1; have hfz30_2 := yZ BK296.out 2
    go_wp2
    refine bodyPost_ret (results_ct rfl _ _ gb296 27 #[.slice none 0 0, .string (⟨#[]⟩ : ByteArray), .string (⟨#[]⟩ : ByteArray)] (0, 0) _ rfl (by refine yW ?_; refine yP (cs := #[.slice none 0 0, .string (⟨#[]⟩ : ByteArray), .string (⟨#[]⟩ : ByteArray)]) ?_ 2 _ rfl; refine yW ?_; refine yP (cs := #[.slice none 0 0, .string (⟨#[]⟩ : ByteArray), .string (⟨#[]⟩ : ByteArray)]) ?_ 1 _ rfl; refine yW ?_; refine yP (cs := #[.slice none 0 0, .string (⟨#[]⟩ : ByteArray), .string (⟨#[]⟩ : ByteArray)]) ?_ 0 _ rfl; refine yW ?_; exact BK296.out) Try.underlying27 rfl (by kernel_rfl)) rfl ?_
    exact ⟨_, eW, by first | exact Kd.R_nil _ _ _ _ _ | exact Kd.N_nil _ _ _ _ _ | exact Kd.V_nil _ _ _ _ _ | exact Kd.Q_nil _ _ _ _ _ | exact Kd.S_nil _ _ _ _ _, zH HB.out⟩
   ·replace c28 := Bool.eq_false_iff.mpr c28
    subst c28
    have H1 : (if a1 > a2 then ((spec_l3Two.f kj3 l0_0 a0_1 a0_2 a2 a1).bind fun bt300 => (some (bt300.1, bt300.2.1, bt300.2.2, true))) else ((spec_l3Two.f kj3 l0_0 a0_1 a0_2 a1 a2).bind fun bt305 => (some (bt305.1, bt305.2.1, bt305.2.2, true)))) = some (r1, r2, r3, r4) := by rw [if_neg (show ¬ (false = true) by decide)] at H; exact H
    clear H; have H := H1; clear H1
    by_cases c31 : a1 > a2
    ·rw [if_pos c31] at H
     have c31b0 : decide (a2 < a1) = true := decide_eq_true c31; clear c31; replace H := Option.bind_eq_some_iff.mp H; obtain ⟨⟨t300, t303, t304⟩, A320, H⟩ := H; replace H : (some (t300, t303, t304, true)) = some (r1, r2, r3, r4) := H; have A32 := aM A320; clear A320
     simp only [Option.some.injEq, Prod.mk.injEq] at H
     obtain ⟨rfl, rfl, rfl, rfl⟩ := H; have hnb33 := NB295_296.out; have hnc33 := NB296_295.out; have hcz34_0 : wc.cell? ⟨gb295, 0, none⟩ = some (.slice A0_0 l0_0.length c0_0) := yc BK295.out 0; have hcz34_1 : wc.cell? ⟨gb295, 1, none⟩ = some (.string a0_1) := yc BK295.out 1; have hcz34_2 : wc.cell? ⟨gb295, 2, none⟩ = some (.string a0_2) := yc BK295.out 2; have hfz34_0 := yZ BK295.out 0; have hfz34_1 := yZ BK295.out 1; have hfz34_2 := yZ BK295.out 2
     go_wp2_with (first | ((with_reducible refine gate_callee (f := 61) rfl ?_); refine goesL_ (some 43) rfl rfl Try.func61 (by kernel_rfl) rfl #[.agg #[.slice A0_0 l0_0.length c0_0, .string a0_1, .string a0_2], .int .i64 a2, .int .i64 a1] rfl mA ?_; (with_reducible refine (spec_l3Two.calls kj3 _ _ l0_0 a0_1 a0_2 a2 a1 t300 t303 t304 _ ?side1 ?side2 A32.out).mono ?_); (case side1 => exact cK HR0_0.out HB.out); (case side2 => exact HC0_0.out); rintro e w35 ⟨v301, rfl, ho0, hb⟩; refine ⟨_, rfl, ?_⟩; have HO302 := aM (xL ho0 (zZ (zH HB.out))); replace BK295 := yK BK295.out hb; replace BK296 := yK BK296.out hb; replace HB := aM (zT (zH HB.out) hb); (try clear hb); (try clear ho0); obtain ⟨Ao36, co36, eo36⟩ := Kd.R_slice HO302.out; subst eo36; have hcz37_0 : w35.cell? ⟨gb296, 0, none⟩ = some (.slice none 0 0) := yc BK296.out 0; have hcz37_1 : w35.cell? ⟨gb296, 1, none⟩ = some (.string (⟨#[]⟩ : ByteArray)) := yc BK296.out 1; have hcz37_2 : w35.cell? ⟨gb296, 2, none⟩ = some (.string (⟨#[]⟩ : ByteArray)) := yc BK296.out 2; have hfz37_0 := yZ BK296.out 0; have hfz37_1 := yZ BK296.out 1; have hfz37_2 := yZ BK296.out 2))
     refine bodyPost_ret (results_ct rfl _ _ gb296 27 #[.slice Ao36 t300.length co36, .string t303, .string t304] (0, 0) _ rfl (by refine yW ?_; refine yP (cs := #[.slice Ao36 t300.length co36, .string t303, .string (⟨#[]⟩ : ByteArray)]) ?_ 2 _ rfl; refine yW ?_; refine yP (cs := #[.slice Ao36 t300.length co36, .string (⟨#[]⟩ : ByteArray), .string (⟨#[]⟩ : ByteArray)]) ?_ 1 _ rfl; refine yW ?_; refine yP (cs := #[.slice none 0 0, .string (⟨#[]⟩ : ByteArray), .string (⟨#[]⟩ : ByteArray)]) ?_ 0 _ rfl; refine yW ?_; exact BK296.out) Try.underlying27 rfl (by kernel_rfl)) rfl ?_
     exact ⟨_, eW, xH (xM (xF (p := ⟨gb296, 2, none⟩) (xF (p := ⟨gb296, 1, none⟩) (xF (p := ⟨gb296, 0, none⟩) (xT HO302.out BK296.out (by decide)) (fun _ hk => hk.2) (.slice Ao36 t300.length co36)) (fun _ hk => hk.2) (.string t303)) (fun _ hk => hk.2) (.string t304)) (fun _ hk => trivial)), zH HB.out⟩
    ·rw [if_neg c31] at H
     have c31b0 : decide (a2 < a1) = false := decide_eq_false c31; clear c31; replace H := Option.bind_eq_some_iff.mp H; obtain ⟨⟨t305, t308, t309⟩, A380, H⟩ := H; replace H : (some (t305, t308, t309, true)) = some (r1, r2, r3, r4) := H; have A38 := aM A380; clear A380
     simp only [Option.some.injEq, Prod.mk.injEq] at H
     obtain ⟨rfl, rfl, rfl, rfl⟩ := H; have hnb39 := NB295_296.out; have hnc39 := NB296_295.out; have hcz40_0 : wc.cell? ⟨gb295, 0, none⟩ = some (.slice A0_0 l0_0.length c0_0) := yc BK295.out 0; have hcz40_1 : wc.cell? ⟨gb295, 1, none⟩ = some (.string a0_1) := yc BK295.out 1; have hcz40_2 : wc.cell? ⟨gb295, 2, none⟩ = some (.string a0_2) := yc BK295.out 2; have hfz40_0 := yZ BK295.out 0; have hfz40_1 := yZ BK295.out 1; have hfz40_2 := yZ BK295.out 2
     go_wp2_with (first | ((with_reducible refine gate_callee (f := 61) rfl ?_); refine goesL_ (some 43) rfl rfl Try.func61 (by kernel_rfl) rfl #[.agg #[.slice A0_0 l0_0.length c0_0, .string a0_1, .string a0_2], .int .i64 a1, .int .i64 a2] rfl mA ?_; (with_reducible refine (spec_l3Two.calls kj3 _ _ l0_0 a0_1 a0_2 a1 a2 t305 t308 t309 _ ?side1 ?side2 A38.out).mono ?_); (case side1 => exact cK HR0_0.out HB.out); (case side2 => exact HC0_0.out); rintro e w41 ⟨v306, rfl, ho0, hb⟩; refine ⟨_, rfl, ?_⟩; have HO307 := aM (xL ho0 (zZ (zH HB.out))); replace BK295 := yK BK295.out hb; replace BK296 := yK BK296.out hb; replace HB := aM (zT (zH HB.out) hb); (try clear hb); (try clear ho0); obtain ⟨Ao42, co42, eo42⟩ := Kd.R_slice HO307.out; subst eo42; have hcz43_0 : w41.cell? ⟨gb296, 0, none⟩ = some (.slice none 0 0) := yc BK296.out 0; have hcz43_1 : w41.cell? ⟨gb296, 1, none⟩ = some (.string (⟨#[]⟩ : ByteArray)) := yc BK296.out 1; have hcz43_2 : w41.cell? ⟨gb296, 2, none⟩ = some (.string (⟨#[]⟩ : ByteArray)) := yc BK296.out 2; have hfz43_0 := yZ BK296.out 0; have hfz43_1 := yZ BK296.out 1; have hfz43_2 := yZ BK296.out 2))
     refine bodyPost_ret (results_ct rfl _ _ gb296 27 #[.slice Ao42 t305.length co42, .string t308, .string t309] (0, 0) _ rfl (by refine yW ?_; refine yP (cs := #[.slice Ao42 t305.length co42, .string t308, .string (⟨#[]⟩ : ByteArray)]) ?_ 2 _ rfl; refine yW ?_; refine yP (cs := #[.slice Ao42 t305.length co42, .string (⟨#[]⟩ : ByteArray), .string (⟨#[]⟩ : ByteArray)]) ?_ 1 _ rfl; refine yW ?_; refine yP (cs := #[.slice none 0 0, .string (⟨#[]⟩ : ByteArray), .string (⟨#[]⟩ : ByteArray)]) ?_ 0 _ rfl; refine yW ?_; exact BK296.out) Try.underlying27 rfl (by kernel_rfl)) rfl ?_
     exact ⟨_, eW, xH (xM (xF (p := ⟨gb296, 2, none⟩) (xF (p := ⟨gb296, 1, none⟩) (xF (p := ⟨gb296, 0, none⟩) (xT HO307.out BK296.out (by decide)) (fun _ hk => hk.2) (.slice Ao42 t305.length co42)) (fun _ hk => hk.2) (.string t308)) (fun _ hk => hk.2) (.string t309)) (fun _ hk => trivial)), zH HB.out⟩

/-! ### impl_FieldInv: function 77 -/
def impl_FieldInv.f (k : Nat) (a0 : Int) : Option (Int) := (impl_power.f k a0 254).bind fun t310 => (some t310)
theorem impl_FieldInv.mono : ∀ a0 k, LeO (impl_FieldInv.f k a0) (impl_FieldInv.f (k + 1) a0) := by
 intro a0 k
 unfold impl_FieldInv.f
 repeat' first
   | (with_reducible exact impl_power.mono _ _ _)
   | (with_reducible exact LeO.refl _)
   | (with_reducible exact LeO.none _)
   | (with_reducible refine LeO.ite ?_ ?_)
   | (with_reducible refine LeO.bind ?_ (fun _ => ?_))
   | exact impl_power.mono _ _ _
   | exact LeO.none _
   | refine LeO.ite ?_ ?_
   | refine LeO.bind ?_ (fun _ => ?_)
set_option maxHeartbeats 8000000 in
set_option maxRecDepth 100000 in
theorem impl_FieldInv.calls (k : Nat) (a0 : Int) (r : Int) (w : World) (h : impl_FieldInv.f k a0 = some r) :
  Calls Try.prog 77 #[.int .u8 a0] w fun e w' => e = .returned (.int .u8 r) ∧ Drawn0 w w' := by
 have H : ((impl_power.f k a0 254).bind fun t310 => (some t310)) = some r := h
 clear h; replace H := Option.bind_eq_some_iff.mp H; obtain ⟨t310, A20, H⟩ := H; replace H : (some t310) = some r := H; have A2 := aM A20; clear A20; obtain rfl := Option.some.inj H
 go_enter Try.func77, Try.ntmps77
 go_wp2_with (first | ((with_reducible refine gate_callee (f := 63) rfl ?_); refine goesL_ (some 4) rfl rfl Try.func63 (by kernel_rfl) rfl #[.int .u8 a0, .int .i64 254] rfl mA ?_; (with_reducible refine (impl_power.calls k a0 254 t310 _ A2.out).mono ?_); rintro e w' ⟨rfl, ⟨nd, rfl⟩⟩; refine ⟨_, rfl, ?_⟩))
 go_ret
 exact ⟨by first | rfl | (simp; done) | (simp [*]; done), by repeat (first | exact Drawn0.refl _ | apply Drawn0.step)⟩

/-! ### impl_divided: function 62 (by hand) -/
/-- a text, its bytes divided by a number -/
def impl_divided.f (k : Nat) (a0 : ByteArray) (a1 : Int) : Option (ByteArray) :=
 if a0.size ≤ 4611686018427387904 then (impl_FieldInv.f k a1).bind fun by_ => (Go.Proofs.Ytfijnlhklfmoeaa.Bytes.allOf (fun j => impl_FieldMul.f k (bt a0 (j : Int)) by_) a0.size).bind fun l => some (strOfNums l) else none
theorem impl_divided.mono : ∀ a0 a1 k, LeO (impl_divided.f k a0 a1) (impl_divided.f (k + 1) a0 a1) := by
 intro a0 a1 k
 unfold impl_divided.f
 refine LeO.ite ?_ (LeO.none _)
 exact LeO.bind (impl_FieldInv.mono _ _) (fun _ => LeO.bind (Go.Proofs.Ytfijnlhklfmoeaa.Bytes.allOf_mono (fun _ => impl_FieldMul.mono _ _ _) _) (fun _ => LeO.refl _))
set_option maxHeartbeats 8000000 in
set_option maxRecDepth 100000 in
theorem impl_divided.calls (k : Nat) (a0 : ByteArray) (a1 : Int) (r : ByteArray) (w : World) (h : impl_divided.f k a0 a1 = some r) :
  Calls Try.prog 62 #[.string a0, .int .u8 a1] w fun e w' => e = .returned (.string r) ∧ Below w.heap.size w w' := by
 unfold impl_divided.f at h
 by_cases hl : a0.size ≤ 4611686018427387904
 case neg => rw [if_neg hl] at h; cases h
 rw [if_pos hl] at h
 obtain ⟨by_, hp, h⟩ := Option.bind_eq_some_iff.mp h; obtain ⟨l, hall, h⟩ := Option.bind_eq_some_iff.mp h; obtain rfl := Option.some.inj h; clear h; have HIV := aM hp; clear hp; obtain ⟨hll, hlj⟩ := Go.Proofs.Ytfijnlhklfmoeaa.Bytes.allOf_tells hall; clear hall; have HLE := aM hl; have HLL := aM hll; have HLJ := aM hlj; clear hl hll hlj; have hu9 := Try.underlying9; have hu48 := Try.underlying48; have hu5 := Try.underlying5
 go_enter Try.func62, Try.ntmps62
 go_wp2_with ((with_reducible refine gate_dst (N := 8) rfl ?_); go_loud (refine Go.Proofs.Ytfijnlhklfmoeaa.Bytes.conv_event ?hg (N := 8) ?hd (src := 9) (dst := 48) (e := 5) (s := a0) hu9 hu48 hu5 ?hex ?_); (case hd => rfl); (case hg => rfl); (case hex => go_simp); intro g c w1 hg hrow hbel hc; have HR := aM hrow; have HB := aM hbel; have HG := aM hg; have HC := aM hc; clear hrow hbel hg hc)
 have hL0 := bytesOf_length a0
 go_loopw [11] (fun v11 w' => ∃ (i : Nat) (ys : List Int), i ≤ a0.size ∧ v11 = .int .i64 (i : Int) ∧ Aside0 (Go.Proofs.Ytfijnlhklfmoeaa.Bytes.RowB w' 5 g ys) ∧ Aside0 (ys.length = a0.size) ∧ Aside0 (∀ j : Nat, j < a0.size → ys.getD j 0 = if j < i then l.getD j 0 else bt a0 (j : Int)) ∧ Aside0 (Below w.heap.size w w')) (fun v11 w' => a0.size - (intOf v11).toNat)
 case atStart => exact ⟨0, bytesOf a0, Nat.zero_le _, rfl, ⟨by first | exact HR.out | exact HR.out.drewN⟩, ⟨hL0⟩, ⟨fun j hj => by rw [if_neg (by omega)]; have := rd_bytesOf a0 (j : Int); unfold rd at this; rw [Int.toNat_natCast] at this; exact this⟩, ⟨by repeat (first | exact HB.out | apply zD | apply zN)⟩⟩
 case round =>
  obtain ⟨i, ys, hi, rfl, HRi, HLi, HVi, HBi⟩ := hrel
  by_cases hlt : i < a0.size
  ·have hbig : a0.size ≤ 4611686018427387904 := HLE.out
   have hil : i < ys.length := by rw [HLi.out]; exact hlt
   have hcell := HRi.out.cell i hil; have hv := HVi.out i hlt
   rw [if_neg (by omega)] at hv
   rw [hv] at hcell
   have hfree := HRi.out.free i hil; have HM := aM (HLJ.out i hlt); have HS := aM (HRi.out.set i hil (l.getD i 0))
   have hcell' : ∀ n_ : Nat, (wr.drewN n_).cell? ⟨g, i, none⟩ = some (.int .u8 (bt a0 (i : Int))) := fun n_ => hcell
   have hfree' : ∀ n_ : Nat, (wr.drewN n_).frozen? ⟨g, i, none⟩ = false := fun n_ => hfree
   clear hv
   go_wp2
   refine start_ (n := 11) (S := fun w' => w'.cell? ⟨g, i, none⟩ = some (.int .u8 (bt a0 (i : Int)))) (ds := [10]) #[fF,fF,fF,fF,fF,fF,fF,fF,fF,fF,fF] (by kernel_rfl) rfl rfl hcell (fun hHeld => ?_)
   have hfr : wr.drew.frozen? ⟨g, i, none⟩ = false := hfree; have HRd := aM (HRi.out.drew); have HSd := aM (HRd.out.set i hil (l.getD i 0)); have HBd := aM (zD HBi.out)
   generalize wr.drew = w26 at hHeld hfr HRd HSd HBd ⊢
   refine pure_ (i := 0) (N := some 14) (v := ?_) (a' := ?_) #[tT,fF,fF,fF,fF,fF,fF,fF,fF,fF,fF] rfl rfl (by kernel_rfl) (fun _ _ _ h => h) (Or.inl ⟨by rfl, ?_⟩) ?_ ?_
   rotate_left
   ·intro w'
    go_simp
    with_reducible rfl
   rotate_left
   ·simp only [Act.put, qA, qB, qC, i64_w, i32_w]
    rfl
   refine pure_ (i := 1) (N := some 15) (v := ?_) (a' := ?_) #[tT,tT,fF,fF,fF,fF,fF,fF,fF,fF,fF] rfl rfl (by kernel_rfl) (fun _ _ _ h => h) (Or.inl ⟨by rfl, ?_⟩) ?_ ?_
   rotate_left
   ·intro w'
    go_simp
    with_reducible rfl
   rotate_left
   ·simp only [Act.put, qA, qB, qC, i64_w, i32_w]
    rfl
   refine pure_ (i := 2) (N := some 16) (v := ?_) (a' := ?_) #[tT,tT,tT,fF,fF,fF,fF,fF,fF,fF,fF] rfl rfl (by kernel_rfl) (fun _ _ _ h => h) (Or.inl ⟨by rfl, ?_⟩) ?_ ?_
   rotate_left
   ·intro w'
    go_simp
    with_reducible rfl
   rotate_left
   ·simp only [Act.put, qA, qB, qC, i64_w, i32_w]
    rfl
   refine pure_ (i := 3) (N := some 17) (v := ?_) (a' := ?_) #[tT,tT,tT,tT,fF,fF,fF,fF,fF,fF,fF] rfl rfl (by kernel_rfl) (fun _ _ _ h => h) (Or.inl ⟨by rfl, ?_⟩) ?_ ?_
   rotate_left
   ·intro w'
    go_simp
    with_reducible rfl
   rotate_left
   ·simp only [Act.put, qA, qB, qC, i64_w, i32_w]
    rfl
   refine pure_ (i := 4) (N := some 18) (v := ?_) (a' := ?_) #[tT,tT,tT,tT,tT,fF,fF,fF,fF,fF,fF] rfl rfl (by kernel_rfl) (fun _ _ _ h => h) (Or.inl ⟨by rfl, ?_⟩) ?_ ?_
   rotate_left
   ·intro w'
    go_simp
    with_reducible rfl
   rotate_left
   ·simp only [Act.put, qA, qB, qC, i64_w, i32_w]
    rfl
   refine pure_ (i := 6) (N := some 20) (v := ?_) (a' := ?_) #[tT,tT,tT,tT,tT,fF,tT,fF,fF,fF,fF] rfl rfl (by kernel_rfl) (fun _ _ _ h => h) (Or.inl ⟨by rfl, ?_⟩) ?_ ?_
   rotate_left
   ·intro w'
    go_simp
    with_reducible rfl
   rotate_left
   ·simp only [Act.put, qA, qB, qC, i64_w, i32_w]
    rfl
   refine take_ (i := 5) (N := some 19) (v := ?_) (a' := ?_) #[tT,tT,tT,tT,tT,tT,tT,fF,fF,fF,fF] rfl rfl (by kernel_rfl) (fun _ _ _ h => h) (Or.inl ⟨by rfl, ?_⟩) hHeld ?_ ?_
   rotate_left
   ·intro w' s0
    go_simp
    with_reducible rfl
   rotate_left
   ·simp only [Act.put, qA, qB, qC, i64_w, i32_w]
    rfl
   refine one_ (i := 7) (N := some 21) #[tT,tT,tT,tT,tT,tT,tT,tT,fF,fF,fF] rfl rfl (by kernel_rfl) (by decide) (fun K hK => ?_)
   refine goes_ Try.func77 (by kernel_rfl) rfl #[.int .u8 a1] (by rfl) rfl rfl (by (try simp only [List.map_toArray, List.map_cons, List.map_nil]); first | done | rfl) ?_
   with_reducible refine (impl_FieldInv.calls k a1 by_ _ HIV.out).mono ?_
   rintro e w' ⟨rfl, ⟨nd7, rfl⟩⟩
   refine ⟨_, rfl, ?_⟩
   refine hK.out _ _ hHeld (fun hHeld => ?_)
   clear hK K; refine norm_ (a' := ?_) ?_ ?_; rotate_left
   ·show Act.put _ (some 21) _ = _
    simp only [Act.put, qA, qB, qC, i64_w, i32_w]
    rfl
   refine one_ (i := 8) (N := some 22) #[tT,tT,tT,tT,tT,tT,tT,tT,tT,fF,fF] rfl rfl (by kernel_rfl) (by decide) (fun K hK => ?_)
   refine goes_ Try.func74 (by kernel_rfl) rfl #[.int .u8 (bt a0 (i : Int)), .int .u8 by_] (by rfl) rfl rfl (by (try simp only [List.map_toArray, List.map_cons, List.map_nil]); first | done | rfl) ?_
   with_reducible refine (impl_FieldMul.calls k (bt a0 (i : Int)) by_ (l.getD i 0) _ HM.out).mono ?_
   rintro e w' ⟨rfl, ⟨nd8, rfl⟩⟩
   refine ⟨_, rfl, ?_⟩
   refine hK.out _ _ hHeld (fun hHeld => ?_)
   clear hK K; refine norm_ (a' := ?_) ?_ ?_; rotate_left
   ·show Act.put _ (some 22) _ = _
    simp only [Act.put, qA, qB, qC, i64_w, i32_w]
    rfl
   refine pure_ (i := 9) (N := some 23) (v := ?_) (a' := ?_) #[tT,tT,tT,tT,tT,tT,tT,tT,tT,tT,fF] rfl rfl (by kernel_rfl) (fun _ _ _ h => h) (Or.inl ⟨by rfl, ?_⟩) ?_ ?_
   rotate_left
   ·intro w'
    go_simp
    with_reducible rfl
   rotate_left
   ·simp only [Act.put, qA, qB, qC, i64_w, i32_w]
    rfl
   refine last_ (i := 10) (N := none) #[tT,tT,tT,tT,tT,tT,tT,tT,tT,tT,tT] rfl rfl (by kernel_rfl) (by decide) (fun K hK => ?_)
   have hcl : ((w26.drewN nd7).drewN nd8).cell? ⟨g, i, none⟩ = some (.int .u8 (bt a0 (i : Int))) := hHeld; have hfl : ((w26.drewN nd7).drewN nd8).frozen? ⟨g, i, none⟩ = false := hfr
   have HS2 := aM ((HRd.out.drewN nd7).drewN nd8 |>.set i hil (l.getD i 0))
   have HB2 : Aside0 (Below w.heap.size w ((w26.drewN nd7).drewN nd8)) := ⟨by repeat (first | exact HBd.out | apply zN | apply zD)⟩
   refine skip_ (w1 := ?_) (by rfl) rfl ?_ ?_
   rotate_left
   ·go_simp
    rfl
   refine hK.out _ _ ?_
   clear hK K
   refine done_ (by kernel_rfl) ?_
   try go_wp2
   go_roundw
   case rel => exact ⟨i + 1, ys.set i (l.getD i 0), by omega, by go_num, ⟨by first | exact HS2.out | exact HS.out⟩, ⟨by rw [List.length_set]; exact HLi.out⟩, ⟨fun j hj => by
     rw [Go.Proofs.Ytfijnlhklfmoeaa.Bytes.getD_set _ _ _ _ hil]
     by_cases hji : j = i
     ·subst hji; rw [if_pos rfl, if_pos (by omega)]
     ·rw [if_neg hji, HVi.out j hj]
      by_cases h2 : j < i
      ·rw [if_pos h2, if_pos (by omega)]
      ·rw [if_neg h2, if_neg (by omega)]⟩, ⟨by repeat (first | exact HB2.out | exact HBd.out | exact HBi.out | apply zD | apply zN | (refine Go.Proofs.Ytfijnlhklfmoeaa.Bytes.RowB.setBelow ?_ (by rw [HG.out]; exact Nat.le_refl _) _ _))⟩⟩
   case measure => simp [intOf]; omega
  ·have hin : i = a0.size := by omega
   have HY := aM (show ys = l by
    apply List.ext_getElem (by rw [HLi.out, HLL.out])
    intro j h1 h2
    have h3 : j < a0.size := by rw [← HLL.out]; exact h2
    have h4 := HVi.out j h3
    rw [if_pos (by omega)] at h4
    rw [List.getD_eq_getElem?_getD, List.getD_eq_getElem?_getD, List.getElem?_eq_getElem h1, List.getElem?_eq_getElem h2] at h4
    simpa using h4)
   have hcv : (convert 48 9 (.slice (some ⟨g, 0, none⟩) a0.size c)).run Try.prog wr = .ok (.string (strOfNums ys)) wr := HRi.out.text hu48 hu5 hu9 _ _ HLi.out.symm; clear hin
   go_wp2
   go_ret
   exact ⟨by rw [← HY.out]; rfl, by repeat (first | exact HBi.out | apply zD | apply zN)⟩


end Go.Proofs.Ytfijnlhklfmoeaa.PFnParity
