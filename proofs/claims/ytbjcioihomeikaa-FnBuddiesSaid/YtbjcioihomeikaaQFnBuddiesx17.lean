/- The walks of FnBuddies: Go's calls come to what the Lean functions beside them say; no condition. -/
import Derived.Test.YtbjcioihomeikaaQFnBuddiesx0
import Derived.Test.YtbjcioihomeikaaQFnBuddiesx2
namespace Go.Proofs.Ytbjcioihomeikaa.PFnBuddies
open Go.RowKit Go.Proofs.YtbjcioihomeikaaW.PrintWords Go.Proofs.YtbjcioihomeikaaW.PrintLast Go.Proofs.YtbjcioihomeikaaW.PrintMore
attribute [local go_sem] max2_int min2_int max_two min_two max_three min_three max_four min_four   -- for this text's walks alone
set_option linter.unusedVariables false
set_option linter.unusedSimpArgs false
set_option maxRecDepth 100000

/-! ### spec_BuddyOf: function 25 -/
def spec_BuddyOf.f (a0_0 : Int) (a0_1 : Int) : Option (Int × Int × Bool) := (spec_l6Block.f a0_0 a0_1).bind fun t463 => (if t463 = true then (if a0_1 = 8 then (some (0, 0, false)) else ((spec_l6Buddy.f a0_0 a0_1).bind fun bt464 => ((spec_l6Block.f bt464.1 bt464.2).bind fun t466 => (if t466 = true then ((spec_l6Buddy.f a0_0 a0_1).bind fun bt467 => (some (bt467.1, bt467.2, true))) else (some (0, 0, false)))))) else (some (0, 0, false)))
set_option maxHeartbeats 8000000 in
set_option maxRecDepth 100000 in
theorem spec_BuddyOf.calls (a0_0 : Int) (a0_1 : Int) (r1 : Int) (r2 : Int) (r3 : Bool) (w : World) (h : spec_BuddyOf.f a0_0 a0_1 = some (r1, r2, r3)) :
  Calls Try.prog 25 #[.agg #[.int .i64 a0_0, .int .i64 a0_1]] w fun e w' => e = .returned (.tuple #[.agg #[.int .i64 r1, .int .i64 r2], .bool r3]) ∧ Below w.heap.size w w' := by
 have hu45 := Try.underlying45; have HB := aM (Below.refl w.heap.size w)
 have H : ((spec_l6Block.f a0_0 a0_1).bind fun t463 => (if t463 = true then (if a0_1 = 8 then (some (0, 0, false)) else ((spec_l6Buddy.f a0_0 a0_1).bind fun bt464 => ((spec_l6Block.f bt464.1 bt464.2).bind fun t466 => (if t466 = true then ((spec_l6Buddy.f a0_0 a0_1).bind fun bt467 => (some (bt467.1, bt467.2, true))) else (some (0, 0, false)))))) else (some (0, 0, false)))) = some (r1, r2, r3) := h
 clear h; replace H := Option.bind_eq_some_iff.mp H; obtain ⟨t463, A20, H⟩ := H
 replace H : (if t463 = true then (if a0_1 = 8 then (some (0, 0, false)) else ((spec_l6Buddy.f a0_0 a0_1).bind fun bt464 => ((spec_l6Block.f bt464.1 bt464.2).bind fun t466 => (if t466 = true then ((spec_l6Buddy.f a0_0 a0_1).bind fun bt467 => (some (bt467.1, bt467.2, true))) else (some (0, 0, false)))))) else (some (0, 0, false))) = some (r1, r2, r3) := H
 have A2 := aM A20; clear A20
 by_cases c3 : t463 = true
 ·subst c3
  have H1 : (if a0_1 = 8 then (some (0, 0, false)) else ((spec_l6Buddy.f a0_0 a0_1).bind fun bt464 => ((spec_l6Block.f bt464.1 bt464.2).bind fun t466 => (if t466 = true then ((spec_l6Buddy.f a0_0 a0_1).bind fun bt467 => (some (bt467.1, bt467.2, true))) else (some (0, 0, false)))))) = some (r1, r2, r3) := by rw [if_pos rfl] at H; exact H
  clear H; have H := H1; clear H1
  by_cases c4 : a0_1 = 8
  ·rw [if_pos c4] at H
   have c4b0 : (a0_1 == 8) = true := beq_iff_eq.mpr c4; have c4b1 : (a0_1 != 8) = false := bne_eq_false_iff_eq.mpr c4; clear c4
   simp only [Option.some.injEq, Prod.mk.injEq] at H
   obtain ⟨rfl, rfl, rfl⟩ := H
   go_enter Try.func25, Try.ntmps25
   go_wp2_with (first | ((with_reducible refine gate_dst (N := 1) rfl ?_); refine bE 1 #[.int .i64 a0_0, .int .i64 a0_1] 45 ?_; intro gb461 hg w5 hbox hb; have BK461 := aM (hbox); have GW461 := gW hg HB.out; have GE461 := GW461; replace HB := aM (zT (zH HB.out) hb); clear hb hbox hg) | ((with_reducible refine gate_dst (N := 2) rfl ?_); refine bE 2 #[.int .i64 0, .int .i64 0] 45 ?_; intro gb462 hg w6 hbox hb; have BK462 := aM (hbox); have GW462 := gW hg HB.out; have GE462 := GW462; replace HB := aM (zT (zH HB.out) hb); have NB461_462 := nL BK461.out hg; have NB462_461 := nR BK461.out hg; replace BK461 := yK BK461.out hb; clear hb hbox hg; have M7 := NB461_462.out; have L7 := NB462_461.out; obtain ⟨Z8_0, Z8_1, Y8_0, Y8_1⟩ := y2 BK461.out) | ((with_reducible refine gate_callee (f := 57) rfl ?_); refine goesL_ (some 5) rfl rfl Try.func57 (by kernel_rfl) rfl #[.agg #[.int .i64 a0_0, .int .i64 a0_1]] rfl mA ?_; (with_reducible refine (spec_l6Block.calls a0_0 a0_1 true _ A2.out).mono ?_); rintro e w9 ⟨rfl, hb⟩; refine ⟨_, rfl, ?_⟩; replace BK461 := yK BK461.out hb; replace BK462 := yK BK462.out hb; replace HB := aM (zT (zH HB.out) hb); (try clear hb); obtain ⟨Z10_0, Z10_1, Y10_0, Y10_1⟩ := y2 BK461.out; obtain ⟨Z11_0, Z11_1, Y11_0, Y11_1⟩ := y2 BK462.out))
   refine bodyPost_ret (results_ct rfl _ _ gb462 45 #[.int .i64 0, .int .i64 0] (0, 0) _ rfl (by refine yW ?_; refine yP (cs := #[.int .i64 0, .int .i64 0]) ?_ 1 _ rfl; refine yW ?_; refine yP (cs := #[.int .i64 0, .int .i64 0]) ?_ 0 _ rfl; refine yW ?_; exact BK462.out) Try.underlying45 rfl (by kernel_rfl)) rfl ?_
   exact ⟨eW, zH HB.out⟩
  ·rw [if_neg c4] at H
   have c4b0 : (a0_1 == 8) = false := beq_eq_false_iff_ne.mpr c4; have c4b1 : (a0_1 != 8) = true := bne_iff_ne.mpr c4; replace H := Option.bind_eq_some_iff.mp H; obtain ⟨⟨t464, t465⟩, A120, H⟩ := H
   replace H : ((spec_l6Block.f t464 t465).bind fun t466 => (if t466 = true then ((spec_l6Buddy.f a0_0 a0_1).bind fun bt467 => (some (bt467.1, bt467.2, true))) else (some (0, 0, false)))) = some (r1, r2, r3) := H
   have A12 := aM A120; clear A120; replace H := Option.bind_eq_some_iff.mp H; obtain ⟨t466, A130, H⟩ := H
   replace H : (if t466 = true then ((spec_l6Buddy.f a0_0 a0_1).bind fun bt467 => (some (bt467.1, bt467.2, true))) else (some (0, 0, false))) = some (r1, r2, r3) := H
   have A13 := aM A130; clear A130
   by_cases c14 : t466 = true
   ·subst c14
    have H1 : ((spec_l6Buddy.f a0_0 a0_1).bind fun bt467 => (some (bt467.1, bt467.2, true))) = some (r1, r2, r3) := by rw [if_pos rfl] at H; exact H
    clear H; have H := H1; clear H1; replace H := Option.bind_eq_some_iff.mp H; obtain ⟨⟨t467, t468⟩, A150, H⟩ := H; replace H : (some (t467, t468, true)) = some (r1, r2, r3) := H; have A15 := aM A150; clear A150
    simp only [Option.some.injEq, Prod.mk.injEq] at H
    obtain ⟨rfl, rfl, rfl⟩ := H
    go_enter Try.func25, Try.ntmps25
    go_wp2_with (first | ((with_reducible refine gate_dst (N := 1) rfl ?_); refine bE 1 #[.int .i64 a0_0, .int .i64 a0_1] 45 ?_; intro gb461 hg w16 hbox hb; have BK461 := aM (hbox); have GW461 := gW hg HB.out; have GE461 := GW461; replace HB := aM (zT (zH HB.out) hb); clear hb hbox hg) | ((with_reducible refine gate_dst (N := 2) rfl ?_); refine bE 2 #[.int .i64 0, .int .i64 0] 45 ?_; intro gb462 hg w17 hbox hb; have BK462 := aM (hbox); have GW462 := gW hg HB.out; have GE462 := GW462; replace HB := aM (zT (zH HB.out) hb); have NB461_462 := nL BK461.out hg; have NB462_461 := nR BK461.out hg; replace BK461 := yK BK461.out hb; clear hb hbox hg; have M18 := NB461_462.out; have L18 := NB462_461.out; obtain ⟨Z19_0, Z19_1, Y19_0, Y19_1⟩ := y2 BK461.out) | ((with_reducible refine gate_callee (f := 57) rfl ?_); refine goesL_ (some 5) rfl rfl Try.func57 (by kernel_rfl) rfl #[.agg #[.int .i64 a0_0, .int .i64 a0_1]] rfl mA ?_; (with_reducible refine (spec_l6Block.calls a0_0 a0_1 true _ A2.out).mono ?_); rintro e w20 ⟨rfl, hb⟩; refine ⟨_, rfl, ?_⟩; replace BK461 := yK BK461.out hb; replace BK462 := yK BK462.out hb; replace HB := aM (zT (zH HB.out) hb); (try clear hb); obtain ⟨Z21_0, Z21_1, Y21_0, Y21_1⟩ := y2 BK461.out) | (go_at_call 29; (with_reducible refine (spec_l6Buddy.calls a0_0 a0_1 t464 t465 _ A12.out).mono ?_); rintro e w22 ⟨rfl, hb⟩; replace BK461 := yK BK461.out hb; replace BK462 := yK BK462.out hb; replace HB := aM (zT (zH HB.out) hb); (try clear hb)) | (go_at_call 57; (with_reducible refine (spec_l6Block.calls t464 t465 true _ A13.out).mono ?_); rintro e w23 ⟨rfl, hb⟩; replace BK461 := yK BK461.out hb; replace BK462 := yK BK462.out hb; replace HB := aM (zT (zH HB.out) hb); (try clear hb); obtain ⟨Z24_0, Z24_1, Y24_0, Y24_1⟩ := y2 BK461.out) | ((with_reducible refine gate_callee (f := 29) rfl ?_); refine goesL_ (some 20) rfl rfl Try.func29 (by kernel_rfl) rfl #[.agg #[.int .i64 a0_0, .int .i64 a0_1]] rfl mA ?_; (with_reducible refine (spec_l6Buddy.calls a0_0 a0_1 t467 t468 _ A15.out).mono ?_); rintro e w25 ⟨rfl, hb⟩; refine ⟨_, rfl, ?_⟩; replace BK461 := yK BK461.out hb; replace BK462 := yK BK462.out hb; replace HB := aM (zT (zH HB.out) hb); (try clear hb); obtain ⟨Z26_0, Z26_1, Y26_0, Y26_1⟩ := y2 BK462.out))
    refine bodyPost_ret (results_ct rfl _ _ gb462 45 #[.int .i64 t467, .int .i64 t468] (0, 0) _ rfl (by refine yW ?_; refine yP (cs := #[.int .i64 t467, .int .i64 0]) ?_ 1 _ rfl; refine yW ?_; refine yP (cs := #[.int .i64 0, .int .i64 0]) ?_ 0 _ rfl; refine yW ?_; exact BK462.out) Try.underlying45 rfl (by kernel_rfl)) rfl ?_
    exact ⟨eW, zH HB.out⟩
   ·replace c14 := Bool.eq_false_iff.mpr c14
    subst c14
    have H1 : (some (0, 0, false)) = some (r1, r2, r3) := by rw [if_neg (show ¬ (false = true) by decide)] at H; exact H
    clear H; have H := H1; clear H1
    simp only [Option.some.injEq, Prod.mk.injEq] at H
    obtain ⟨rfl, rfl, rfl⟩ := H
    go_enter Try.func25, Try.ntmps25
    go_wp2_with (first | ((with_reducible refine gate_dst (N := 1) rfl ?_); refine bE 1 #[.int .i64 a0_0, .int .i64 a0_1] 45 ?_; intro gb461 hg w27 hbox hb; have BK461 := aM (hbox); have GW461 := gW hg HB.out; have GE461 := GW461; replace HB := aM (zT (zH HB.out) hb); clear hb hbox hg) | ((with_reducible refine gate_dst (N := 2) rfl ?_); refine bE 2 #[.int .i64 0, .int .i64 0] 45 ?_; intro gb462 hg w28 hbox hb; have BK462 := aM (hbox); have GW462 := gW hg HB.out; have GE462 := GW462; replace HB := aM (zT (zH HB.out) hb); have NB461_462 := nL BK461.out hg; have NB462_461 := nR BK461.out hg; replace BK461 := yK BK461.out hb; clear hb hbox hg; have M29 := NB461_462.out; have L29 := NB462_461.out; obtain ⟨Z30_0, Z30_1, Y30_0, Y30_1⟩ := y2 BK461.out) | ((with_reducible refine gate_callee (f := 57) rfl ?_); refine goesL_ (some 5) rfl rfl Try.func57 (by kernel_rfl) rfl #[.agg #[.int .i64 a0_0, .int .i64 a0_1]] rfl mA ?_; (with_reducible refine (spec_l6Block.calls a0_0 a0_1 true _ A2.out).mono ?_); rintro e w31 ⟨rfl, hb⟩; refine ⟨_, rfl, ?_⟩; replace BK461 := yK BK461.out hb; replace BK462 := yK BK462.out hb; replace HB := aM (zT (zH HB.out) hb); (try clear hb); obtain ⟨Z32_0, Z32_1, Y32_0, Y32_1⟩ := y2 BK461.out) | (go_at_call 29; (with_reducible refine (spec_l6Buddy.calls a0_0 a0_1 t464 t465 _ A12.out).mono ?_); rintro e w33 ⟨rfl, hb⟩; replace BK461 := yK BK461.out hb; replace BK462 := yK BK462.out hb; replace HB := aM (zT (zH HB.out) hb); (try clear hb)) | (go_at_call 57; (with_reducible refine (spec_l6Block.calls t464 t465 false _ A13.out).mono ?_); rintro e w34 ⟨rfl, hb⟩; replace BK461 := yK BK461.out hb; replace BK462 := yK BK462.out hb; replace HB := aM (zT (zH HB.out) hb); (try clear hb); obtain ⟨Z35_0, Z35_1, Y35_0, Y35_1⟩ := y2 BK462.out))
    refine bodyPost_ret (results_ct rfl _ _ gb462 45 #[.int .i64 0, .int .i64 0] (0, 0) _ rfl (by refine yW ?_; refine yP (cs := #[.int .i64 0, .int .i64 0]) ?_ 1 _ rfl; refine yW ?_; refine yP (cs := #[.int .i64 0, .int .i64 0]) ?_ 0 _ rfl; refine yW ?_; exact BK462.out) Try.underlying45 rfl (by kernel_rfl)) rfl ?_
    exact ⟨eW, zH HB.out⟩
 ·replace c3 := Bool.eq_false_iff.mpr c3
  subst c3
  have H1 : (some (0, 0, false)) = some (r1, r2, r3) := by rw [if_neg (show ¬ (false = true) by decide)] at H; exact H
  clear H; have H := H1; clear H1
  simp only [Option.some.injEq, Prod.mk.injEq] at H
  obtain ⟨rfl, rfl, rfl⟩ := H
  go_enter Try.func25, Try.ntmps25
  go_wp2_with (first | ((with_reducible refine gate_dst (N := 1) rfl ?_); refine bE 1 #[.int .i64 a0_0, .int .i64 a0_1] 45 ?_; intro gb461 hg w36 hbox hb; have BK461 := aM (hbox); have GW461 := gW hg HB.out; have GE461 := GW461; replace HB := aM (zT (zH HB.out) hb); clear hb hbox hg) | ((with_reducible refine gate_dst (N := 2) rfl ?_); refine bE 2 #[.int .i64 0, .int .i64 0] 45 ?_; intro gb462 hg w37 hbox hb; have BK462 := aM (hbox); have GW462 := gW hg HB.out; have GE462 := GW462; replace HB := aM (zT (zH HB.out) hb); have NB461_462 := nL BK461.out hg; have NB462_461 := nR BK461.out hg; replace BK461 := yK BK461.out hb; clear hb hbox hg; have M38 := NB461_462.out; have L38 := NB462_461.out; obtain ⟨Z39_0, Z39_1, Y39_0, Y39_1⟩ := y2 BK461.out) | ((with_reducible refine gate_callee (f := 57) rfl ?_); refine goesL_ (some 5) rfl rfl Try.func57 (by kernel_rfl) rfl #[.agg #[.int .i64 a0_0, .int .i64 a0_1]] rfl mA ?_; (with_reducible refine (spec_l6Block.calls a0_0 a0_1 false _ A2.out).mono ?_); rintro e w40 ⟨rfl, hb⟩; refine ⟨_, rfl, ?_⟩; replace BK461 := yK BK461.out hb; replace BK462 := yK BK462.out hb; replace HB := aM (zT (zH HB.out) hb); (try clear hb); obtain ⟨Z41_0, Z41_1, Y41_0, Y41_1⟩ := y2 BK462.out))
  refine bodyPost_ret (results_ct rfl _ _ gb462 45 #[.int .i64 0, .int .i64 0] (0, 0) _ rfl (by refine yW ?_; refine yP (cs := #[.int .i64 0, .int .i64 0]) ?_ 1 _ rfl; refine yW ?_; refine yP (cs := #[.int .i64 0, .int .i64 0]) ?_ 0 _ rfl; refine yW ?_; exact BK462.out) Try.underlying45 rfl (by kernel_rfl)) rfl ?_
  exact ⟨eW, zH HB.out⟩

end Go.Proofs.Ytbjcioihomeikaa.PFnBuddies
