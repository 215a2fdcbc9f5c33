/- The walks of FnBuddies: Go's calls come to what the Lean functions beside them say; no condition. -/
import Derived.Test.YtbjcioihomeikaaQFnBuddiesx0
import Derived.Test.YtbjcioihomeikaaQFnBuddiesx2
import Derived.Test.YtbjcioihomeikaaQFnBuddiesx3
namespace Go.Proofs.Ytbjcioihomeikaa.PFnBuddies
open Go.RowKit Go.Proofs.YtbjcioihomeikaaW.PrintWords Go.Proofs.YtbjcioihomeikaaW.PrintLast Go.Proofs.YtbjcioihomeikaaW.PrintMore
attribute [local go_sem] max2_int min2_int max_two min_two max_three min_three max_four min_four   -- for this text's walks alone
set_option linter.unusedVariables false
set_option linter.unusedSimpArgs false
set_option maxRecDepth 100000

/-! ### spec_GoodBuddy: function 20 -/
mutual
def spec_GoodBuddy.j0 : Nat → Bool → Int → List (S45) → List (S45) → Option (Bool)
 | 0, _, _, _, _ => none
 | k + 1, x46, x115000, x115001, x115002 => if x46 = true then (some false) else (spec_GoodBuddy.l0 k x115001 (x115001.length : Int) 0 x115000 x115001 x115002)
def spec_GoodBuddy.l0 : Nat → List (S45) → Int → Int → Int → List (S45) → List (S45) → Option (Bool)
 | 0, _, _, _, _, _, _ => none
 | k + 1, x48, x49, x50, x115000, x115001, x115002 => if x50 < x49 then (if 0 ≤ x50 then (if x50 < (x48.length : Int) then (if ((rd_T45 x48 x50).f1) < x115000 then ((spec_l6Buddy.f ((rd_T45 x48 x50).f0) ((rd_T45 x48 x50).f1)).bind fun bt122 => ((spec_l6At.f k x115001 bt122.1 bt122.2).bind fun t124 => (spec_GoodBuddy.j2 k x48 x49 x50 (decide (t124 ≥ 0)) x115000 x115001 x115002 ((rd_T45 x48 x50).f0) ((rd_T45 x48 x50).f1)))) else (spec_GoodBuddy.j2 k x48 x49 x50 false x115000 x115001 x115002 ((rd_T45 x48 x50).f0) ((rd_T45 x48 x50).f1))) else (none)) else (none)) else (some true)
def spec_GoodBuddy.j2 : Nat → List (S45) → Int → Int → Bool → Int → List (S45) → List (S45) → Int → Int → Option (Bool)
 | 0, _, _, _, _, _, _, _, _, _ => none
 | k + 1, x48, x49, x50, x66, x115000, x115001, x115002, x122000, x122001 => if x66 = true then (some false) else (spec_GoodBuddy.l1 k x48 x49 x50 x115002 (x115002.length : Int) 0 x115000 x115001 x115002 x122000 x122001)
def spec_GoodBuddy.l1 : Nat → List (S45) → Int → Int → List (S45) → Int → Int → Int → List (S45) → List (S45) → Int → Int → Option (Bool)
 | 0, _, _, _, _, _, _, _, _, _, _, _ => none
 | k + 1, x48, x49, x50, x68, x69, x70, x115000, x115001, x115002, x122000, x122001 => if x70 < x69 then (if 0 ≤ x70 then (if x70 < (x68.length : Int) then (if 0 ≤ (IntKind.u64.wrap ((rd_T45 x68 x70).f1)) then (if x122000 < (wrap64 (((rd_T45 x68 x70).f0) + (shl .i64 1 (IntKind.u64.wrap ((rd_T45 x68 x70).f1))))) then (if 0 ≤ (IntKind.u64.wrap (x122001)) then (if ((rd_T45 x68 x70).f0) < (wrap64 (x122000 + (shl .i64 1 (IntKind.u64.wrap (x122001))))) then (some false) else (spec_GoodBuddy.l1 k x48 x49 x50 x68 x69 (wrap64 (x70 + 1)) x115000 x115001 x115002 x122000 x122001)) else (none)) else (spec_GoodBuddy.l1 k x48 x49 x50 x68 x69 (wrap64 (x70 + 1)) x115000 x115001 x115002 x122000 x122001)) else (none)) else (none)) else (none)) else (spec_GoodBuddy.l0 k x48 x49 (wrap64 (x50 + 1)) x115000 x115001 x115002)
end
def spec_GoodBuddy.f (k : Nat) (a0_0 : Int) (l0_1 : List (S45)) (l0_2 : List (S45)) : Option (Bool) := (spec_l1In.f a0_0 0 8).bind fun t115 => (if t115 = true then (if 0 ≤ (IntKind.u64.wrap (a0_0)) then ((spec_l6List.f k l0_1 (shl .i64 1 (IntKind.u64.wrap (a0_0)))).bind fun bt116 => ((spec_l6List.f k l0_2 (shl .i64 1 (IntKind.u64.wrap (a0_0)))).bind fun bt118 => (if bt116.2 = true then (if bt118.2 = true then (spec_GoodBuddy.j0 k ((wrap64 (bt116.1 + bt118.1)) != (shl .i64 1 (IntKind.u64.wrap (a0_0)))) a0_0 l0_1 l0_2) else (spec_GoodBuddy.j0 k true a0_0 l0_1 l0_2)) else (spec_GoodBuddy.j0 k true a0_0 l0_1 l0_2)))) else (none)) else (some false))
theorem spec_GoodBuddy.mono_l : ∀ k, (∀ y0 y1 y2 y3, LeO (spec_GoodBuddy.j0 k y0 y1 y2 y3) (spec_GoodBuddy.j0 (k + 1) y0 y1 y2 y3)) ∧ (∀ y0 y1 y2 y3 y4 y5, LeO (spec_GoodBuddy.l0 k y0 y1 y2 y3 y4 y5) (spec_GoodBuddy.l0 (k + 1) y0 y1 y2 y3 y4 y5)) ∧ (∀ y0 y1 y2 y3 y4 y5 y6 y7 y8, LeO (spec_GoodBuddy.j2 k y0 y1 y2 y3 y4 y5 y6 y7 y8) (spec_GoodBuddy.j2 (k + 1) y0 y1 y2 y3 y4 y5 y6 y7 y8)) ∧ (∀ y0 y1 y2 y3 y4 y5 y6 y7 y8 y9 y10, LeO (spec_GoodBuddy.l1 k y0 y1 y2 y3 y4 y5 y6 y7 y8 y9 y10) (spec_GoodBuddy.l1 (k + 1) y0 y1 y2 y3 y4 y5 y6 y7 y8 y9 y10))
 | 0 => ⟨fun _ _ _ _ r h => by simp [spec_GoodBuddy.j0] at h, fun _ _ _ _ _ _ r h => by simp [spec_GoodBuddy.l0] at h, fun _ _ _ _ _ _ _ _ _ r h => by simp [spec_GoodBuddy.j2] at h, fun _ _ _ _ _ _ _ _ _ _ _ r h => by simp [spec_GoodBuddy.l1] at h⟩
 | k + 1 => by
  obtain ⟨ih0, ih1, ih2, ih3⟩ := spec_GoodBuddy.mono_l k
  refine ⟨?_, ?_, ?_, ?_⟩
  ·intro y0 y1 y2 y3
   unfold spec_GoodBuddy.j0
   repeat' first
   | (with_reducible exact ih0 _ _ _ _)
   | (with_reducible exact ih1 _ _ _ _ _ _)
   | (with_reducible exact ih2 _ _ _ _ _ _ _ _ _)
   | (with_reducible exact ih3 _ _ _ _ _ _ _ _ _ _ _)
   | (with_reducible exact spec_l6At.mono _ _ _ _)
   | (with_reducible exact spec_l6List.mono _ _ _)
   | (with_reducible exact LeO.refl _)
   | (with_reducible exact LeO.none _)
   | (with_reducible refine LeO.ite ?_ ?_)
   | (with_reducible refine LeO.bind ?_ (fun _ => ?_))
   | exact ih0 _ _ _ _
   | exact ih1 _ _ _ _ _ _
   | exact ih2 _ _ _ _ _ _ _ _ _
   | exact ih3 _ _ _ _ _ _ _ _ _ _ _
   | exact spec_l6At.mono _ _ _ _
   | exact spec_l6List.mono _ _ _
   | exact LeO.none _
   | refine LeO.ite ?_ ?_
   | refine LeO.bind ?_ (fun _ => ?_)
  ·intro y0 y1 y2 y3 y4 y5
   unfold spec_GoodBuddy.l0
   repeat' first
   | (with_reducible exact ih0 _ _ _ _)
   | (with_reducible exact ih1 _ _ _ _ _ _)
   | (with_reducible exact ih2 _ _ _ _ _ _ _ _ _)
   | (with_reducible exact ih3 _ _ _ _ _ _ _ _ _ _ _)
   | (with_reducible exact spec_l6At.mono _ _ _ _)
   | (with_reducible exact spec_l6List.mono _ _ _)
   | (with_reducible exact LeO.refl _)
   | (with_reducible exact LeO.none _)
   | (with_reducible refine LeO.ite ?_ ?_)
   | (with_reducible refine LeO.bind ?_ (fun _ => ?_))
   | exact ih0 _ _ _ _
   | exact ih1 _ _ _ _ _ _
   | exact ih2 _ _ _ _ _ _ _ _ _
   | exact ih3 _ _ _ _ _ _ _ _ _ _ _
   | exact spec_l6At.mono _ _ _ _
   | exact spec_l6List.mono _ _ _
   | exact LeO.none _
   | refine LeO.ite ?_ ?_
   | refine LeO.bind ?_ (fun _ => ?_)
  ·intro y0 y1 y2 y3 y4 y5 y6 y7 y8
   unfold spec_GoodBuddy.j2
   repeat' first
   | (with_reducible exact ih0 _ _ _ _)
   | (with_reducible exact ih1 _ _ _ _ _ _)
   | (with_reducible exact ih2 _ _ _ _ _ _ _ _ _)
   | (with_reducible exact ih3 _ _ _ _ _ _ _ _ _ _ _)
   | (with_reducible exact spec_l6At.mono _ _ _ _)
   | (with_reducible exact spec_l6List.mono _ _ _)
   | (with_reducible exact LeO.refl _)
   | (with_reducible exact LeO.none _)
   | (with_reducible refine LeO.ite ?_ ?_)
   | (with_reducible refine LeO.bind ?_ (fun _ => ?_))
   | exact ih0 _ _ _ _
   | exact ih1 _ _ _ _ _ _
   | exact ih2 _ _ _ _ _ _ _ _ _
   | exact ih3 _ _ _ _ _ _ _ _ _ _ _
   | exact spec_l6At.mono _ _ _ _
   | exact spec_l6List.mono _ _ _
   | exact LeO.none _
   | refine LeO.ite ?_ ?_
   | refine LeO.bind ?_ (fun _ => ?_)
  ·intro y0 y1 y2 y3 y4 y5 y6 y7 y8 y9 y10
   unfold spec_GoodBuddy.l1
   repeat' first
   | (with_reducible exact ih0 _ _ _ _)
   | (with_reducible exact ih1 _ _ _ _ _ _)
   | (with_reducible exact ih2 _ _ _ _ _ _ _ _ _)
   | (with_reducible exact ih3 _ _ _ _ _ _ _ _ _ _ _)
   | (with_reducible exact spec_l6At.mono _ _ _ _)
   | (with_reducible exact spec_l6List.mono _ _ _)
   | (with_reducible exact LeO.refl _)
   | (with_reducible exact LeO.none _)
   | (with_reducible refine LeO.ite ?_ ?_)
   | (with_reducible refine LeO.bind ?_ (fun _ => ?_))
   | exact ih0 _ _ _ _
   | exact ih1 _ _ _ _ _ _
   | exact ih2 _ _ _ _ _ _ _ _ _
   | exact ih3 _ _ _ _ _ _ _ _ _ _ _
   | exact spec_l6At.mono _ _ _ _
   | exact spec_l6List.mono _ _ _
   | exact LeO.none _
   | refine LeO.ite ?_ ?_
   | refine LeO.bind ?_ (fun _ => ?_)
theorem spec_GoodBuddy.mono : ∀ a0 a1 a2 k, LeO (spec_GoodBuddy.f k a0 a1 a2) (spec_GoodBuddy.f (k + 1) a0 a1 a2) := by
 intro a0 a1 a2 k
 obtain ⟨ih0, ih1, ih2, ih3⟩ := spec_GoodBuddy.mono_l k
 unfold spec_GoodBuddy.f
 repeat' first
   | (with_reducible exact ih0 _ _ _ _)
   | (with_reducible exact ih1 _ _ _ _ _ _)
   | (with_reducible exact ih2 _ _ _ _ _ _ _ _ _)
   | (with_reducible exact ih3 _ _ _ _ _ _ _ _ _ _ _)
   | (with_reducible exact spec_l6At.mono _ _ _ _)
   | (with_reducible exact spec_l6List.mono _ _ _)
   | (with_reducible exact LeO.refl _)
   | (with_reducible exact LeO.none _)
   | (with_reducible refine LeO.ite ?_ ?_)
   | (with_reducible refine LeO.bind ?_ (fun _ => ?_))
   | exact ih0 _ _ _ _
   | exact ih1 _ _ _ _ _ _
   | exact ih2 _ _ _ _ _ _ _ _ _
   | exact ih3 _ _ _ _ _ _ _ _ _ _ _
   | exact spec_l6At.mono _ _ _ _
   | exact spec_l6List.mono _ _ _
   | exact LeO.none _
   | refine LeO.ite ?_ ?_
   | refine LeO.bind ?_ (fun _ => ?_)
def spec_GoodBuddy.T11 : Bool × List (List Nat × List Nat) := (true, [([], []), ([0], [0]), ([], []), ([2], [2]), ([1, 3], [1, 3]), ([4], [4]), ([5], [5]), ([6, 5], [5, 6]), ([5], [5]), ([8, 5, 5], [5, 8]), ([7, 9, 9, 5], [5, 7, 9]), ([10, 5], [5, 10]), ([5, 11], [5, 11])])
def spec_GoodBuddy.B11 : List Nat := [0, 1, 0, 4, 15, 31, 63, 127, 63, 319, 1023, 2047, 4095]
theorem spec_GoodBuddy.tab11 : rtab .any (opsOf Try.f20 11) = spec_GoodBuddy.T11 := by kernel_rfl
theorem spec_GoodBuddy.bits11 : waitsOk spec_GoodBuddy.T11.2 spec_GoodBuddy.B11 = true := by kernel_rfl
set_option maxHeartbeats 8000000 in
set_option maxRecDepth 100000 in
theorem spec_GoodBuddy.calls (k : Nat) (a0_0 : Int) (A0_1 : Option Addr) (c0_1 : Nat) (l0_1 : List (S45)) (A0_2 : Option Addr) (c0_2 : Nat) (l0_2 : List (S45)) (r : Bool) (w : World) (hr0_1 : Kd.C k45 w A0_1 l0_1.length l0_1) (hc0_1 : l0_1.length ≤ c0_1) (hr0_2 : Kd.C k45 w A0_2 l0_2.length l0_2) (hc0_2 : l0_2.length ≤ c0_2) (h : spec_GoodBuddy.f k a0_0 l0_1 l0_2 = some r) :
  Calls Try.prog 20 #[.agg #[.int .i64 a0_0, .slice A0_1 l0_1.length c0_1, .slice A0_2 l0_2.length c0_2]] w fun e w' => e = .returned (.bool r) ∧ Below w.heap.size w w' := by
 have hu28 := Try.underlying28; have hu45 := Try.underlying45; have HR0_1 := aM hr0_1; have HC0_1 := aM hc0_1; clear hr0_1 hc0_1; have HR0_2 := aM hr0_2; have HC0_2 := aM hc0_2; clear hr0_2 hc0_2; have HB := aM (Below.refl w.heap.size w)
 have H : ((spec_l1In.f a0_0 0 8).bind fun t115 => (if t115 = true then (if 0 ≤ (IntKind.u64.wrap (a0_0)) then ((spec_l6List.f k l0_1 (shl .i64 1 (IntKind.u64.wrap (a0_0)))).bind fun bt116 => ((spec_l6List.f k l0_2 (shl .i64 1 (IntKind.u64.wrap (a0_0)))).bind fun bt118 => (if bt116.2 = true then (if bt118.2 = true then (spec_GoodBuddy.j0 k ((wrap64 (bt116.1 + bt118.1)) != (shl .i64 1 (IntKind.u64.wrap (a0_0)))) a0_0 l0_1 l0_2) else (spec_GoodBuddy.j0 k true a0_0 l0_1 l0_2)) else (spec_GoodBuddy.j0 k true a0_0 l0_1 l0_2)))) else (none)) else (some false))) = some r := h
 clear h; replace H := Option.bind_eq_some_iff.mp H; obtain ⟨t115, A20, H⟩ := H
 replace H : (if t115 = true then (if 0 ≤ (IntKind.u64.wrap (a0_0)) then ((spec_l6List.f k l0_1 (shl .i64 1 (IntKind.u64.wrap (a0_0)))).bind fun bt116 => ((spec_l6List.f k l0_2 (shl .i64 1 (IntKind.u64.wrap (a0_0)))).bind fun bt118 => (if bt116.2 = true then (if bt118.2 = true then (spec_GoodBuddy.j0 k ((wrap64 (bt116.1 + bt118.1)) != (shl .i64 1 (IntKind.u64.wrap (a0_0)))) a0_0 l0_1 l0_2) else (spec_GoodBuddy.j0 k true a0_0 l0_1 l0_2)) else (spec_GoodBuddy.j0 k true a0_0 l0_1 l0_2)))) else (none)) else (some false)) = some r := H
 have A2 := aM A20; clear A20
 by_cases c3 : t115 = true
 ·subst c3
  have H1 : (if 0 ≤ (IntKind.u64.wrap (a0_0)) then ((spec_l6List.f k l0_1 (shl .i64 1 (IntKind.u64.wrap (a0_0)))).bind fun bt116 => ((spec_l6List.f k l0_2 (shl .i64 1 (IntKind.u64.wrap (a0_0)))).bind fun bt118 => (if bt116.2 = true then (if bt118.2 = true then (spec_GoodBuddy.j0 k ((wrap64 (bt116.1 + bt118.1)) != (shl .i64 1 (IntKind.u64.wrap (a0_0)))) a0_0 l0_1 l0_2) else (spec_GoodBuddy.j0 k true a0_0 l0_1 l0_2)) else (spec_GoodBuddy.j0 k true a0_0 l0_1 l0_2)))) else (none)) = some r := by rw [if_pos rfl] at H; exact H
  clear H; have H := H1; clear H1; obtain ⟨ji4, hji4⟩ : ∃ j_ : Int, (IntKind.u64.wrap (a0_0)) = j_ := ⟨_, rfl⟩
  replace H : (if 0 ≤ (ji4) then ((spec_l6List.f k l0_1 (shl .i64 1 (ji4))).bind fun bt116 => ((spec_l6List.f k l0_2 (shl .i64 1 (ji4))).bind fun bt118 => (if bt116.2 = true then (if bt118.2 = true then (spec_GoodBuddy.j0 k ((wrap64 (bt116.1 + bt118.1)) != (shl .i64 1 (ji4))) a0_0 l0_1 l0_2) else (spec_GoodBuddy.j0 k true a0_0 l0_1 l0_2)) else (spec_GoodBuddy.j0 k true a0_0 l0_1 l0_2)))) else (none)) = some r := by first | (rw [hji4] at H; exact H) | (simp only [hji4] at H ⊢; exact H)
  (try rw [hji4] at A2)
  by_cases c5 : 0 ≤ (ji4)
  ·rw [if_pos c5] at H
   have c5b0 := eq_true c5; have c5b1 : decide (0 ≤ (ji4)) = true := decide_eq_true c5; clear c5; obtain ⟨ji6, hji6⟩ : ∃ j_ : Int, (shl .i64 1 (ji4)) = j_ := ⟨_, rfl⟩
   replace H : ((spec_l6List.f k l0_1 (ji6)).bind fun bt116 => ((spec_l6List.f k l0_2 (ji6)).bind fun bt118 => (if bt116.2 = true then (if bt118.2 = true then (spec_GoodBuddy.j0 k ((wrap64 (bt116.1 + bt118.1)) != (ji6)) a0_0 l0_1 l0_2) else (spec_GoodBuddy.j0 k true a0_0 l0_1 l0_2)) else (spec_GoodBuddy.j0 k true a0_0 l0_1 l0_2)))) = some r := by first | (rw [hji6] at H; exact H) | (simp only [hji6] at H ⊢; exact H)
   (try rw [hji6] at A2)
   have hji6_ : (IntKind.i64.wrap (1 * 2 ^ min (ji4).toNat 64)) = ji6 := hji6; have hji6z : (ji4) ≤ 64 → (IntKind.i64.wrap (1 * 2 ^ (ji4).toNat)) = ji6 := shl_small hji6
   have hji6u : (IntKind.i64.wrap (2 ^ min (ji4).toNat 64)) = ji6 := by have h_ := hji6_; rw [Int.one_mul] at h_; exact h_
   have hji6v : (ji4) ≤ 64 → (IntKind.i64.wrap (2 ^ (ji4).toNat)) = ji6 := fun hle_ => by have h_ := hji6z hle_; rw [Int.one_mul] at h_; exact h_
   have hji6y : (wrap64 (1 * 2 ^ min (ji4).toNat 64)) = ji6 := (i64_w _).symm.trans hji6_
   have hji6x : (ji4) ≤ 64 → (wrap64 (1 * 2 ^ (ji4).toNat)) = ji6 := fun h_ => (i64_w _).symm.trans (hji6z h_)
   replace H := Option.bind_eq_some_iff.mp H; obtain ⟨⟨t116, t117⟩, A70, H⟩ := H
   replace H : ((spec_l6List.f k l0_2 (ji6)).bind fun bt118 => (if t117 = true then (if bt118.2 = true then (spec_GoodBuddy.j0 k ((wrap64 (t116 + bt118.1)) != (ji6)) a0_0 l0_1 l0_2) else (spec_GoodBuddy.j0 k true a0_0 l0_1 l0_2)) else (spec_GoodBuddy.j0 k true a0_0 l0_1 l0_2))) = some r := H
   have A7 := aM A70; clear A70; replace H := Option.bind_eq_some_iff.mp H; obtain ⟨⟨t118, t119⟩, A80, H⟩ := H; replace H : (if t117 = true then (if t119 = true then (spec_GoodBuddy.j0 k ((wrap64 (t116 + t118)) != (ji6)) a0_0 l0_1 l0_2) else (spec_GoodBuddy.j0 k true a0_0 l0_1 l0_2)) else (spec_GoodBuddy.j0 k true a0_0 l0_1 l0_2)) = some r := H; have A8 := aM A80; clear A80; have HC9 := aM H; clear H
   go_enter Try.func20, Try.ntmps20
   go_upto_region 6 with (first | ((with_reducible refine gate_dst (N := 1) rfl ?_); refine bE 1 #[.int .i64 a0_0, .slice A0_1 l0_1.length c0_1, .slice A0_2 l0_2.length c0_2] 28 ?_; intro gb114 hg w10 hbox hb; have BK114 := aM (hbox); have GW114 := gW hg HB.out; have GE114 := GW114; replace HB := aM (zT (zH HB.out) hb); clear hb hbox hg; obtain ⟨Z11_0, Z11_1, Z11_2, Y11_0, Y11_1, Y11_2⟩ := y3 BK114.out) | ((with_reducible refine gate_callee (f := 43) rfl ?_); refine goesL_ (some 14) rfl rfl Try.func43 (by kernel_rfl) rfl #[.int .i64 a0_0, .int .i64 0, .int .i64 8] rfl mA ?_; (with_reducible refine (spec_l1In.calls a0_0 0 8 true _ A2.out).mono ?_); rintro e w' ⟨rfl, ⟨nd, rfl⟩⟩; refine ⟨_, rfl, ?_⟩) | ((with_reducible refine gate_callee (f := 55) rfl ?_); refine goesL_ (some 24) rfl rfl Try.func55 (by kernel_rfl) rfl #[.slice A0_1 l0_1.length c0_1, .int .i64 ji6] rfl (by (try simp only [List.map_toArray, List.map_cons, List.map_nil]); first | done | (simp only [hji6]; rfl) | rfl | (simp only [List.length_drop, List.length_take]; rfl)) ?_; (with_reducible refine (spec_l6List.calls k _ _ l0_1 ji6 t116 t117 _ ?side1 ?side2 A7.out).mono ?_); (case side1 => repeat (first | exact (cB HR0_1.out (zH HB.out)) | (with_reducible refine cA ?_ _) | (with_reducible refine cN ?_ _) | (with_reducible refine cD ?_))); (case side2 => exact HC0_1.out); rintro e w12 ⟨rfl, hb⟩; refine ⟨_, rfl, ?_⟩; replace BK114 := yK BK114.out hb; replace HB := aM (zT (zH HB.out) hb); (try clear hb); obtain ⟨Z13_0, Z13_1, Z13_2, Y13_0, Y13_1, Y13_2⟩ := y3 BK114.out) | ((with_reducible refine gate_callee (f := 55) rfl ?_); refine goesL_ (some 31) rfl rfl Try.func55 (by kernel_rfl) rfl #[.slice A0_2 l0_2.length c0_2, .int .i64 ji6] rfl (by (try simp only [List.map_toArray, List.map_cons, List.map_nil]); first | done | (simp only [hji6]; rfl) | rfl | (simp only [List.length_drop, List.length_take]; rfl)) ?_; (with_reducible refine (spec_l6List.calls k _ _ l0_2 ji6 t118 t119 _ ?side1 ?side2 A8.out).mono ?_); (case side1 => exact cK HR0_2.out HB.out); (case side2 => exact HC0_2.out); rintro e w14 ⟨rfl, hb⟩; refine ⟨_, rfl, ?_⟩; replace BK114 := yK BK114.out hb; replace HB := aM (zT (zH HB.out) hb); (try clear hb)))
   (try simp only [Act.put, qA, qB, qC])
   go_cut [46] (fun v46 wc => ∃ (kq : Nat) (x46_8 : Bool), v46 = .bool x46_8 ∧ Aside0 (spec_GoodBuddy.j0 kq x46_8 a0_0 l0_1 l0_2 = some r) ∧ Aside0 (kq ≤ k) ∧ Aside0 (wc.heap[gb114]? = some (.cells #[.int .i64 a0_0, (.slice A0_1 l0_1.length c0_1), (.slice A0_2 l0_2.length c0_2)] 28 (0, 0))) ∧ Aside0 (Below w.heap.size w wc))
   case first =>
    have H := HC9.out; clear HC9
    by_cases c15 : t117 = true
    ·subst c15
     have H1 : (if t119 = true then (spec_GoodBuddy.j0 k ((wrap64 (t116 + t118)) != (ji6)) a0_0 l0_1 l0_2) else (spec_GoodBuddy.j0 k true a0_0 l0_1 l0_2)) = some r := by rw [if_pos rfl] at H; exact H
     clear H; have H := H1; clear H1
     by_cases c16 : t119 = true
     ·subst c16
      have H1 : (spec_GoodBuddy.j0 k ((wrap64 (t116 + t118)) != (ji6)) a0_0 l0_1 l0_2) = some r := by rw [if_pos rfl] at H; exact H
      clear H; have H := H1; clear H1; have H' := aM H; clear H
      go_wp2
      go_meet
      case rel => exact ⟨_, (((wrap64 (t116 + t118)) != (ji6))), (by first | rfl | (simp; done) | (simp only [← hji6] <;> (first | rfl | simp)) | (simp [*]; done)), H', ⟨by first | omega | exact Nat.le_refl _⟩, ⟨yH BK114.out⟩, ⟨zH HB.out⟩⟩
     ·replace c16 := Bool.eq_false_iff.mpr c16
      subst c16
      have H1 : (spec_GoodBuddy.j0 k true a0_0 l0_1 l0_2) = some r := by rw [if_neg (show ¬ (false = true) by decide)] at H; exact H
      clear H; have H := H1; clear H1; have H' := aM H; clear H
      go_wp2
      go_meet
      case rel => exact ⟨_, (true), (by first | rfl | (simp; done) | (simp [*]; done)), H', ⟨by first | omega | exact Nat.le_refl _⟩, ⟨yH BK114.out⟩, ⟨zH HB.out⟩⟩
    ·replace c15 := Bool.eq_false_iff.mpr c15
     subst c15
     have H1 : (spec_GoodBuddy.j0 k true a0_0 l0_1 l0_2) = some r := by rw [if_neg (show ¬ (false = true) by decide)] at H; exact H
     clear H; have H := H1; clear H1; have H' := aM H; clear H
     go_wp2
     go_meet
     case rel => exact ⟨_, (true), (by first | rfl | (simp; done) | (simp [*]; done)), H', ⟨by first | omega | exact Nat.le_refl _⟩, ⟨yH BK114.out⟩, ⟨zH HB.out⟩⟩
   case rest =>
    clear HC9
    (try clear c3); (try clear c5); (try clear c5b0); (try clear c5b1); (try clear c15); (try clear c16); (try clear Z11_0 Z11_1 Z11_2 Y11_0 Y11_1 Y11_2); (try clear Z13_0 Z13_1 Z13_2 Y13_0 Y13_1 Y13_2)
    obtain ⟨kq, x46_8, rfl, HA, HJ8, BK114, HB⟩ := hcut
    cases kq with
    | zero => exact absurd HA.out (fun h_ => by change none = some _ at h_; cases h_)
    | succ kj8 =>
     have H := HA.out; clear HA
     simp only [spec_GoodBuddy.j0] at H
     by_cases c17 : x46_8 = true
     ·subst c17
      have H1 : (some false) = some r := by rw [if_pos rfl] at H; exact H
      clear H; have H := H1; clear H1; obtain rfl := Option.some.inj H
      go_wp2
      go_ret
      exact ⟨by first | rfl | (simp [errW_none, errW_some] <;> rfl) | (simp only [← hji4, ← hji6]; first | rfl | (simp [errW_none, errW_some] <;> rfl)) | (simp [*, errW_none, errW_some] <;> rfl), zH HB.out⟩
     ·replace c17 := Bool.eq_false_iff.mpr c17
      subst c17
      have H1 : (spec_GoodBuddy.l0 kj8 l0_1 (l0_1.length : Int) 0 a0_0 l0_1 l0_2) = some r := by rw [if_neg (show ¬ (false = true) by decide)] at H; exact H
      clear H; have H := H1; clear H1; have H' := aM H; clear H; have Z18_0 : wc.cell? ⟨gb114, 0, none⟩ = some (.int .i64 a0_0) := yc BK114.out 0; have Z18_1 : wc.cell? ⟨gb114, 1, none⟩ = some (.slice A0_1 l0_1.length c0_1) := yc BK114.out 1; have Z18_2 : wc.cell? ⟨gb114, 2, none⟩ = some (.slice A0_2 l0_2.length c0_2) := yc BK114.out 2; have Y18_0 := yZ BK114.out 0; have Y18_1 := yZ BK114.out 1; have Y18_2 := yZ BK114.out 2
      go_wp2
      go_loopg [50] kj8 (fun kq v50 w' => ∃ (x50_2 : Int), v50 = .int .i64 x50_2 ∧ Aside0 (spec_GoodBuddy.l0 kq l0_1 (l0_1.length : Int) x50_2 a0_0 l0_1 l0_2 = some r) ∧ Aside0 (kq ≤ kj8) ∧ Aside0 (w'.heap[gb114]? = some (.cells #[.int .i64 a0_0, (.slice A0_1 l0_1.length c0_1), (.slice A0_2 l0_2.length c0_2)] 28 (0, 0))) ∧ Aside0 (Below w.heap.size w w'))
      case atStart => exact ⟨(0), (by first | rfl | (simp; done) | (simp [*]; done)), H', ⟨Nat.le_refl _⟩, ⟨yH BK114.out⟩, ⟨zH HB.out⟩⟩
      case round =>
       clear H'
       (try clear c3); (try clear c5); (try clear c5b0); (try clear c5b1); (try clear c15); (try clear c16); (try clear c17); (try clear Z11_0 Z11_1 Z11_2 Y11_0 Y11_1 Y11_2); (try clear Z13_0 Z13_1 Z13_2 Y13_0 Y13_1 Y13_2); (try clear Z18_0 Z18_1 Z18_2 Y18_0 Y18_1 Y18_2)
       obtain ⟨x50_2, rfl, HA, HK2, BK114, HB⟩ := hrel
       cases gk with
       | zero => exact absurd HA.out (fun h_ => by change none = some _ at h_; cases h_)
       | succ k2 =>
        have H := HA.out; clear HA
        simp only [spec_GoodBuddy.l0] at H
        by_cases c19 : x50_2 < (l0_1.length : Int)
        ·rw [if_pos c19] at H
         have c19b0 : decide (x50_2 < (l0_1.length : Int)) = true := decide_eq_true c19; clear c19
         by_cases c20 : 0 ≤ x50_2
         ·rw [if_pos c20] at H
          have c20b0 : decide (0 ≤ x50_2) = true := decide_eq_true c20; clear c20
          by_cases c21 : x50_2 < (l0_1.length : Int)
          ·rw [if_pos c21] at H
           have c21b0 : decide (x50_2 < (l0_1.length : Int)) = true := decide_eq_true c21; clear c21; have HC22 := aM H; clear H
           have p120 : 0 ≤ (x50_2 : Int) := of_decide_eq_true (by first | (with_reducible assumption) | assumption)
           have q120 : x50_2 < (l0_1.length : Int) := of_decide_eq_true (by first | (with_reducible assumption) | assumption)
           obtain ⟨ad120, e120, hx120_0, hx120_1⟩ := at_T45 HR0_1.out x50_2 p120 q120
           cases e120
           replace hx120_0 := (HB.out.cell (World.block_lt_of_cell? w _ hx120_0)).trans hx120_0; replace hx120_1 := (HB.out.cell (World.block_lt_of_cell? w _ hx120_1)).trans hx120_1; replace p120 := eq_true p120; replace q120 := eq_true q120
           go_upto_region 11 with (first | ((with_reducible refine gate_dst (N := 9) rfl ?_); refine bE 9 #[.int .i64 0, .int .i64 0] 45 ?_; intro gb121 hg w23 hbox hb; have BK121 := aM (hbox); have GW121 := gW hg HB.out; have GE121 := GW121; replace HB := aM (zT (zH HB.out) hb); have NB114_121 := nL BK114.out hg; have NB121_114 := nR BK114.out hg; replace BK114 := yK BK114.out hb; clear hb hbox hg; have M24 := NB121_114.out; have L24 := NB114_121.out; obtain ⟨Z25_0, Z25_1, Y25_0, Y25_1⟩ := y2 BK121.out))
           (try simp only [Act.put, qA, qB, qC])
           go_cut [66] (fun v66 wc => ∃ (kq : Nat) (x66_21 : Bool), v66 = .bool x66_21 ∧ Aside0 (spec_GoodBuddy.j2 kq l0_1 (l0_1.length : Int) x50_2 x66_21 a0_0 l0_1 l0_2 ((rd_T45 l0_1 x50_2).f0) ((rd_T45 l0_1 x50_2).f1) = some r) ∧ Aside0 (kq ≤ k2) ∧ Aside0 (wc.heap[gb114]? = some (.cells #[.int .i64 a0_0, (.slice (some ad120) l0_1.length c0_1), (.slice A0_2 l0_2.length c0_2)] 28 (0, 0))) ∧ Aside0 (wc.heap[gb121]? = some (.cells #[.int .i64 ((rd_T45 l0_1 x50_2).f0), .int .i64 ((rd_T45 l0_1 x50_2).f1)] 45 (0, 0))) ∧ Aside0 (Below w.heap.size w wc))
           case first =>
            have H := HC22.out; clear HC22
            by_cases c26 : ((rd_T45 l0_1 x50_2).f1) < a0_0
            ·rw [if_pos c26] at H
             have c26b0 : decide (((rd_T45 l0_1 x50_2).f1) < a0_0) = true := decide_eq_true c26; clear c26
             (first | rw [c26b0] | (simp only [i64_w, i32_w]; rw [c26b0]) | skip)
             replace H := Option.bind_eq_some_iff.mp H; obtain ⟨⟨t122, t123⟩, A270, H⟩ := H
             replace H : ((spec_l6At.f k2 l0_1 t122 t123).bind fun t124 => (spec_GoodBuddy.j2 k2 l0_1 (l0_1.length : Int) x50_2 (decide (t124 ≥ 0)) a0_0 l0_1 l0_2 ((rd_T45 l0_1 x50_2).f0) ((rd_T45 l0_1 x50_2).f1))) = some r := H
             have A27 := aM A270; clear A270; replace H := Option.bind_eq_some_iff.mp H; obtain ⟨t124, A280, H⟩ := H; replace H : (spec_GoodBuddy.j2 k2 l0_1 (l0_1.length : Int) x50_2 (decide (t124 ≥ 0)) a0_0 l0_1 l0_2 ((rd_T45 l0_1 x50_2).f0) ((rd_T45 l0_1 x50_2).f1)) = some r := H; have A28 := aM A280; clear A280; have H' := aM H; clear H
             try go_wp2
             have n0_ : Aside0 (((w23.setCell ⟨gb121, 0, none⟩ (.int .i64 ((rd_T45 l0_1 x50_2).f0))).setCell ⟨gb121, 1, none⟩ (.int .i64 ((rd_T45 l0_1 x50_2).f1))).heap[gb114]? = some (.cells #[.int .i64 a0_0, .slice (some ad120) l0_1.length c0_1, .slice A0_2 l0_2.length c0_2] 28 (0, 0))) := yG BK114.out
             have n1_ : Aside0 (((w23.setCell ⟨gb121, 0, none⟩ (.int .i64 ((rd_T45 l0_1 x50_2).f0))).setCell ⟨gb121, 1, none⟩ (.int .i64 ((rd_T45 l0_1 x50_2).f1))).heap[gb121]? = some (.cells #[.int .i64 ((rd_T45 l0_1 x50_2).f0), .int .i64 ((rd_T45 l0_1 x50_2).f1)] 45 (0, 0))) := ⟨by refine yW ?_; refine yP (cs := #[.int .i64 ((rd_T45 l0_1 x50_2).f0), .int .i64 0]) ?_ 1 _ rfl; refine yW ?_; refine yP (cs := #[.int .i64 0, .int .i64 0]) ?_ 0 _ rfl; refine yW ?_; exact BK121.out⟩
             have n2_ : Aside0 (Below w.heap.size w ((w23.setCell ⟨gb121, 0, none⟩ (.int .i64 ((rd_T45 l0_1 x50_2).f0))).setCell ⟨gb121, 1, none⟩ (.int .i64 ((rd_T45 l0_1 x50_2).f1)))) := ⟨zH HB.out⟩
             (try clear BK114); (try clear BK121); (try clear HB)
             generalize ((w23.setCell ⟨gb121, 0, none⟩ (.int .i64 ((rd_T45 l0_1 x50_2).f0))).setCell ⟨gb121, 1, none⟩ (.int .i64 ((rd_T45 l0_1 x50_2).f1))) = w29 at n0_ n1_ n2_ ⊢
             have BK114 := n0_; have BK121 := n1_; have HB := n2_; clear n0_ n1_ n2_; replace BK114 := aM (yD BK114.out); replace BK121 := aM (yD BK121.out); replace HB := aM (zD HB.out)
             refine start_ (n := 13) (S := fun w' => w'.cell? ⟨gb121, 0, none⟩ = some (.int .i64 ((rd_T45 l0_1 x50_2).f0)) ∧ w'.cell? ⟨gb121, 1, none⟩ = some (.int .i64 ((rd_T45 l0_1 x50_2).f1)) ∧ w'.cell? ⟨gb114, 0, none⟩ = some (.int .i64 a0_0) ∧ w'.cell? ⟨gb114, 1, none⟩ = some (.slice (some ad120) l0_1.length c0_1) ∧ w'.cell? ⟨gb114, 2, none⟩ = some (.slice A0_2 l0_2.length c0_2)) (ds := []) #[fF,fF,fF,fF,fF,fF,fF,fF,fF,fF,fF,fF,fF] (by kernel_rfl) rfl rfl ⟨yc BK121.out 0, yc BK121.out 1, yc BK114.out 0, yc BK114.out 1, yc BK114.out 2⟩ (fun hHeld => ?_); refine with_tabW spec_GoodBuddy.tab11 spec_GoodBuddy.bits11 (fun HT_ HW_ => ?_)
             generalize w29.drew = w30 at BK114 BK121 HB hHeld ⊢
             refine pP 0 54 HT_ ?_
             refine pP 2 56 HT_ ?_
             refine tK 1 55 HT_ HW_ hHeld ?_
             refine tK 3 57 HT_ HW_ hHeld ?_
             refine pP 4 58 HT_ ?_
             refine pP 5 59 HT_ ?_
             refine pP 6 60 HT_ ?_
             refine tK 7 61 HT_ HW_ hHeld ?_
             refine tK 8 62 HT_ HW_ hHeld ?_
             refine oN 9 (some 63) HT_ (fun K hK => ?_)
             refine gS Try.func29 (by kernel_rfl) rfl #[.agg #[.int .i64 ((rd_T45 l0_1 x50_2).f0), .int .i64 ((rd_T45 l0_1 x50_2).f1)]] (by rfl) rfl rfl ?_
             with_reducible refine (spec_l6Buddy.calls ((rd_T45 l0_1 x50_2).f0) ((rd_T45 l0_1 x50_2).f1) t122 t123 _ A27.out).mono ?_
             rintro e w31 ⟨rfl, hb⟩
             refine ⟨_, rfl, ?_⟩
             replace BK114 := yK BK114.out hb; replace BK121 := yK BK121.out hb; replace HB := aM (zT (zH HB.out) hb)
             (try clear hb)
             refine hK.out _ _ ⟨yc BK121.out 0, yc BK121.out 1, yc BK114.out 0, yc BK114.out 1, yc BK114.out 2⟩ (fun hHeld => ?_)
             clear hK K; refine nN 63 ?_
             refine oN 10 (some 64) HT_ (fun K hK => ?_)
             refine gS Try.func28 (by kernel_rfl) rfl #[.slice (some ad120) l0_1.length c0_1, .agg #[.int .i64 t122, .int .i64 t123]] (by rfl) rfl rfl ?_
             with_reducible refine (spec_l6At.calls k2 _ _ l0_1 t122 t123 t124 _ ?side1 ?side2 A28.out).mono ?_
             (case side1 => exact cK HR0_1.out HB.out)
             (case side2 => exact HC0_1.out)
             rintro e w32 ⟨rfl, hb⟩
             refine ⟨_, rfl, ?_⟩
             replace BK114 := yK BK114.out hb; replace BK121 := yK BK121.out hb; replace HB := aM (zT (zH HB.out) hb)
             (try clear hb)
             refine hK.out _ _ ⟨yc BK121.out 0, yc BK121.out 1, yc BK114.out 0, yc BK114.out 1, yc BK114.out 2⟩ (fun hHeld => ?_)
             clear hK K; refine nN 64 ?_
             refine pP 11 65 HT_ ?_
             refine pP 12 66 HT_ ?_
             refine done_ (done_of HT_.out (by kernel_rfl)) ?_
             try go_wp2
             go_meet
             case rel => exact ⟨_, (decide (t124 ≥ 0)), (by first | rfl | (simp; done) | (simp [*]; done)), H', ⟨by have := HJ8.out; have := HK2.out; first | omega | exact Nat.le_refl _⟩, ⟨yH BK114.out⟩, ⟨yH BK121.out⟩, ⟨zH HB.out⟩⟩
            ·rw [if_neg c26] at H
             have c26b0 : decide (((rd_T45 l0_1 x50_2).f1) < a0_0) = false := decide_eq_false c26; clear c26
             (first | rw [c26b0] | (simp only [i64_w, i32_w]; rw [c26b0]) | skip)
             have H' := aM H; clear H
             try go_wp2
             have n0_ : Aside0 (((w23.setCell ⟨gb121, 0, none⟩ (.int .i64 ((rd_T45 l0_1 x50_2).f0))).setCell ⟨gb121, 1, none⟩ (.int .i64 ((rd_T45 l0_1 x50_2).f1))).heap[gb114]? = some (.cells #[.int .i64 a0_0, .slice (some ad120) l0_1.length c0_1, .slice A0_2 l0_2.length c0_2] 28 (0, 0))) := yG BK114.out
             have n1_ : Aside0 (((w23.setCell ⟨gb121, 0, none⟩ (.int .i64 ((rd_T45 l0_1 x50_2).f0))).setCell ⟨gb121, 1, none⟩ (.int .i64 ((rd_T45 l0_1 x50_2).f1))).heap[gb121]? = some (.cells #[.int .i64 ((rd_T45 l0_1 x50_2).f0), .int .i64 ((rd_T45 l0_1 x50_2).f1)] 45 (0, 0))) := ⟨by refine yW ?_; refine yP (cs := #[.int .i64 ((rd_T45 l0_1 x50_2).f0), .int .i64 0]) ?_ 1 _ rfl; refine yW ?_; refine yP (cs := #[.int .i64 0, .int .i64 0]) ?_ 0 _ rfl; refine yW ?_; exact BK121.out⟩
             have n2_ : Aside0 (Below w.heap.size w ((w23.setCell ⟨gb121, 0, none⟩ (.int .i64 ((rd_T45 l0_1 x50_2).f0))).setCell ⟨gb121, 1, none⟩ (.int .i64 ((rd_T45 l0_1 x50_2).f1)))) := ⟨zH HB.out⟩
             (try clear BK114); (try clear BK121); (try clear HB)
             generalize ((w23.setCell ⟨gb121, 0, none⟩ (.int .i64 ((rd_T45 l0_1 x50_2).f0))).setCell ⟨gb121, 1, none⟩ (.int .i64 ((rd_T45 l0_1 x50_2).f1))) = w33 at n0_ n1_ n2_ ⊢
             have BK114 := n0_; have BK121 := n1_; have HB := n2_; clear n0_ n1_ n2_; replace BK114 := aM (yD BK114.out); replace BK121 := aM (yD BK121.out); replace HB := aM (zD HB.out)
             refine start_ (n := 13) (S := fun w' => w'.cell? ⟨gb121, 0, none⟩ = some (.int .i64 ((rd_T45 l0_1 x50_2).f0)) ∧ w'.cell? ⟨gb121, 1, none⟩ = some (.int .i64 ((rd_T45 l0_1 x50_2).f1)) ∧ w'.cell? ⟨gb114, 0, none⟩ = some (.int .i64 a0_0) ∧ w'.cell? ⟨gb114, 1, none⟩ = some (.slice (some ad120) l0_1.length c0_1) ∧ w'.cell? ⟨gb114, 2, none⟩ = some (.slice A0_2 l0_2.length c0_2)) (ds := []) #[fF,fF,fF,fF,fF,fF,fF,fF,fF,fF,fF,fF,fF] (by kernel_rfl) rfl rfl ⟨yc BK121.out 0, yc BK121.out 1, yc BK114.out 0, yc BK114.out 1, yc BK114.out 2⟩ (fun hHeld => ?_); refine with_tabW spec_GoodBuddy.tab11 spec_GoodBuddy.bits11 (fun HT_ HW_ => ?_)
             generalize w33.drew = w34 at BK114 BK121 HB hHeld ⊢
             refine pP 0 54 HT_ ?_
             refine pP 2 56 HT_ ?_
             refine tK 1 55 HT_ HW_ hHeld ?_
             refine tK 3 57 HT_ HW_ hHeld ?_
             refine pP 4 58 HT_ ?_
             refine pP 5 59 HT_ ?_
             refine pU 6 60 HT_ ?_
             refine pU 7 61 HT_ ?_
             refine pU 8 62 HT_ ?_
             refine pU 9 63 HT_ ?_
             refine pU 10 64 HT_ ?_
             refine pU 11 65 HT_ ?_
             refine pP 12 66 HT_ ?_
             refine done_ (done_of HT_.out (by kernel_rfl)) ?_
             try go_wp2
             go_meet
             case rel => exact ⟨_, (false), (by first | rfl | (simp; done) | (simp [*]; done)), H', ⟨by have := HJ8.out; have := HK2.out; first | omega | exact Nat.le_refl _⟩, ⟨yH BK114.out⟩, ⟨yH BK121.out⟩, ⟨zH HB.out⟩⟩
           case rest =>
            clear HC22
            (try clear c3); (try clear c5); (try clear c5b0); (try clear c5b1); (try clear c15); (try clear c16); (try clear c17); (try clear c19); (try clear c19b0); (try clear c20); (try clear c20b0); (try clear c21); (try clear c21b0); (try clear c26); (try clear c26b0); (try clear Z11_0 Z11_1 Z11_2 Y11_0 Y11_1 Y11_2); (try clear Z13_0 Z13_1 Z13_2 Y13_0 Y13_1 Y13_2); (try clear Z18_0 Z18_1 Z18_2 Y18_0 Y18_1 Y18_2); (try clear Z25_0 Z25_1 Y25_0 Y25_1); (try clear hx120_0); (try clear hx120_1); (try clear p120); (try clear q120)
            obtain ⟨kq, x66_21, rfl, HA, HJ21, BK114, BK121, HB⟩ := hcut
            cases kq with
            | zero => exact absurd HA.out (fun h_ => by change none = some _ at h_; cases h_)
            | succ kj21 =>
             have H := HA.out; clear HA
             simp only [spec_GoodBuddy.j2] at H
             by_cases c35 : x66_21 = true
             ·subst c35
              have H1 : (some false) = some r := by rw [if_pos rfl] at H; exact H
              clear H; have H := H1; clear H1; obtain rfl := Option.some.inj H
              go_wp2
              go_ret
              exact ⟨by first | rfl | (simp [errW_none, errW_some] <;> rfl) | (simp only [← hji4, ← hji6]; first | rfl | (simp [errW_none, errW_some] <;> rfl)) | (simp [*, errW_none, errW_some] <;> rfl), zH HB.out⟩
             ·replace c35 := Bool.eq_false_iff.mpr c35
              subst c35
              have H1 : (spec_GoodBuddy.l1 kj21 l0_1 (l0_1.length : Int) x50_2 l0_2 (l0_2.length : Int) 0 a0_0 l0_1 l0_2 ((rd_T45 l0_1 x50_2).f0) ((rd_T45 l0_1 x50_2).f1)) = some r := by rw [if_neg (show ¬ (false = true) by decide)] at H; exact H
              clear H; have H := H1; clear H1; have H' := aM H; clear H; have M36 := NB114_121.out; have L36 := NB121_114.out; have Z37_0 : wc.cell? ⟨gb114, 0, none⟩ = some (.int .i64 a0_0) := yc BK114.out 0; have Z37_1 : wc.cell? ⟨gb114, 1, none⟩ = some (.slice (some ad120) l0_1.length c0_1) := yc BK114.out 1; have Z37_2 : wc.cell? ⟨gb114, 2, none⟩ = some (.slice A0_2 l0_2.length c0_2) := yc BK114.out 2; have Y37_0 := yZ BK114.out 0; have Y37_1 := yZ BK114.out 1; have Y37_2 := yZ BK114.out 2
              go_wp2
              go_loopg [70] kj21 (fun kq v70 w' => ∃ (x70_4 : Int), v70 = .int .i64 x70_4 ∧ Aside0 (spec_GoodBuddy.l1 kq l0_1 (l0_1.length : Int) x50_2 l0_2 (l0_2.length : Int) x70_4 a0_0 l0_1 l0_2 ((rd_T45 l0_1 x50_2).f0) ((rd_T45 l0_1 x50_2).f1) = some r) ∧ Aside0 (kq ≤ kj21) ∧ Aside0 (w'.heap[gb114]? = some (.cells #[.int .i64 a0_0, (.slice (some ad120) l0_1.length c0_1), (.slice A0_2 l0_2.length c0_2)] 28 (0, 0))) ∧ Aside0 (w'.heap[gb121]? = some (.cells #[.int .i64 ((rd_T45 l0_1 x50_2).f0), .int .i64 ((rd_T45 l0_1 x50_2).f1)] 45 (0, 0))) ∧ Aside0 (Below w.heap.size w w'))
              case atStart => exact ⟨(0), (by first | rfl | (simp; done) | (simp [*]; done)), H', ⟨Nat.le_refl _⟩, ⟨yH BK114.out⟩, ⟨yH BK121.out⟩, ⟨zH HB.out⟩⟩
              case round =>
               clear H'
               (try clear c3); (try clear c5); (try clear c5b0); (try clear c5b1); (try clear c15); (try clear c16); (try clear c17); (try clear c19); (try clear c19b0); (try clear c20); (try clear c20b0); (try clear c21); (try clear c21b0); (try clear c26); (try clear c26b0); (try clear c35); (try clear Z11_0 Z11_1 Z11_2 Y11_0 Y11_1 Y11_2); (try clear Z13_0 Z13_1 Z13_2 Y13_0 Y13_1 Y13_2); (try clear Z18_0 Z18_1 Z18_2 Y18_0 Y18_1 Y18_2); (try clear Z25_0 Z25_1 Y25_0 Y25_1); (try clear Z37_0 Z37_1 Z37_2 Y37_0 Y37_1 Y37_2); (try clear hx120_0); (try clear hx120_1); (try clear p120); (try clear q120)
               obtain ⟨x70_4, rfl, HA, HK4, BK114, BK121, HB⟩ := hrel
               cases gk with
               | zero => exact absurd HA.out (fun h_ => by change none = some _ at h_; cases h_)
               | succ k4 =>
                have H := HA.out; clear HA
                simp only [spec_GoodBuddy.l1] at H
                by_cases c38 : x70_4 < (l0_2.length : Int)
                ·rw [if_pos c38] at H
                 have c38b0 : decide (x70_4 < (l0_2.length : Int)) = true := decide_eq_true c38; clear c38
                 by_cases c39 : 0 ≤ x70_4
                 ·rw [if_pos c39] at H
                  have c39b0 : decide (0 ≤ x70_4) = true := decide_eq_true c39; clear c39
                  by_cases c40 : x70_4 < (l0_2.length : Int)
                  ·rw [if_pos c40] at H
                   have c40b0 : decide (x70_4 < (l0_2.length : Int)) = true := decide_eq_true c40; clear c40; obtain ⟨ji41, hji41⟩ : ∃ j_ : Int, (IntKind.u64.wrap ((rd_T45 l0_2 x70_4).f1)) = j_ := ⟨_, rfl⟩
                   replace H : (if 0 ≤ (ji41) then (if ((rd_T45 l0_1 x50_2).f0) < (wrap64 (((rd_T45 l0_2 x70_4).f0) + (shl .i64 1 (ji41)))) then (if 0 ≤ (IntKind.u64.wrap (((rd_T45 l0_1 x50_2).f1))) then (if ((rd_T45 l0_2 x70_4).f0) < (wrap64 (((rd_T45 l0_1 x50_2).f0) + (shl .i64 1 (IntKind.u64.wrap (((rd_T45 l0_1 x50_2).f1)))))) then (some false) else (spec_GoodBuddy.l1 k4 l0_1 (l0_1.length : Int) x50_2 l0_2 (l0_2.length : Int) (wrap64 (x70_4 + 1)) a0_0 l0_1 l0_2 ((rd_T45 l0_1 x50_2).f0) ((rd_T45 l0_1 x50_2).f1))) else (none)) else (spec_GoodBuddy.l1 k4 l0_1 (l0_1.length : Int) x50_2 l0_2 (l0_2.length : Int) (wrap64 (x70_4 + 1)) a0_0 l0_1 l0_2 ((rd_T45 l0_1 x50_2).f0) ((rd_T45 l0_1 x50_2).f1))) else (none)) = some r := by first | (rw [hji41] at H; exact H) | (simp only [hji41] at H ⊢; exact H)
                   by_cases c42 : 0 ≤ (ji41)
                   ·rw [if_pos c42] at H
                    have c42b0 := eq_true c42; have c42b1 : decide (0 ≤ (ji41)) = true := decide_eq_true c42; clear c42; obtain ⟨ji43, hji43⟩ : ∃ j_ : Int, (shl .i64 1 (ji41)) = j_ := ⟨_, rfl⟩
                    replace H : (if ((rd_T45 l0_1 x50_2).f0) < (wrap64 (((rd_T45 l0_2 x70_4).f0) + (ji43))) then (if 0 ≤ (IntKind.u64.wrap (((rd_T45 l0_1 x50_2).f1))) then (if ((rd_T45 l0_2 x70_4).f0) < (wrap64 (((rd_T45 l0_1 x50_2).f0) + (shl .i64 1 (IntKind.u64.wrap (((rd_T45 l0_1 x50_2).f1)))))) then (some false) else (spec_GoodBuddy.l1 k4 l0_1 (l0_1.length : Int) x50_2 l0_2 (l0_2.length : Int) (wrap64 (x70_4 + 1)) a0_0 l0_1 l0_2 ((rd_T45 l0_1 x50_2).f0) ((rd_T45 l0_1 x50_2).f1))) else (none)) else (spec_GoodBuddy.l1 k4 l0_1 (l0_1.length : Int) x50_2 l0_2 (l0_2.length : Int) (wrap64 (x70_4 + 1)) a0_0 l0_1 l0_2 ((rd_T45 l0_1 x50_2).f0) ((rd_T45 l0_1 x50_2).f1))) = some r := by first | (rw [hji43] at H; exact H) | (simp only [hji43] at H ⊢; exact H)
                    have hji43_ : (IntKind.i64.wrap (1 * 2 ^ min (ji41).toNat 64)) = ji43 := hji43; have hji43z : (ji41) ≤ 64 → (IntKind.i64.wrap (1 * 2 ^ (ji41).toNat)) = ji43 := shl_small hji43
                    have hji43u : (IntKind.i64.wrap (2 ^ min (ji41).toNat 64)) = ji43 := by have h_ := hji43_; rw [Int.one_mul] at h_; exact h_
                    have hji43v : (ji41) ≤ 64 → (IntKind.i64.wrap (2 ^ (ji41).toNat)) = ji43 := fun hle_ => by have h_ := hji43z hle_; rw [Int.one_mul] at h_; exact h_
                    have hji43y : (wrap64 (1 * 2 ^ min (ji41).toNat 64)) = ji43 := (i64_w _).symm.trans hji43_
                    have hji43x : (ji41) ≤ 64 → (wrap64 (1 * 2 ^ (ji41).toNat)) = ji43 := fun h_ => (i64_w _).symm.trans (hji43z h_)
                    by_cases c44 : ((rd_T45 l0_1 x50_2).f0) < (wrap64 (((rd_T45 l0_2 x70_4).f0) + (ji43)))
                    ·rw [if_pos c44] at H
                     have c44b0 : decide (((rd_T45 l0_1 x50_2).f0) < (wrap64 (((rd_T45 l0_2 x70_4).f0) + (ji43)))) = true := decide_eq_true c44; clear c44; obtain ⟨ji45, hji45⟩ : ∃ j_ : Int, (IntKind.u64.wrap (((rd_T45 l0_1 x50_2).f1))) = j_ := ⟨_, rfl⟩
                     replace H : (if 0 ≤ (ji45) then (if ((rd_T45 l0_2 x70_4).f0) < (wrap64 (((rd_T45 l0_1 x50_2).f0) + (shl .i64 1 (ji45)))) then (some false) else (spec_GoodBuddy.l1 k4 l0_1 (l0_1.length : Int) x50_2 l0_2 (l0_2.length : Int) (wrap64 (x70_4 + 1)) a0_0 l0_1 l0_2 ((rd_T45 l0_1 x50_2).f0) ((rd_T45 l0_1 x50_2).f1))) else (none)) = some r := by first | (rw [hji45] at H; exact H) | (simp only [hji45] at H ⊢; exact H)
                     by_cases c46 : 0 ≤ (ji45)
                     ·rw [if_pos c46] at H
                      have c46b0 := eq_true c46; have c46b1 : decide (0 ≤ (ji45)) = true := decide_eq_true c46; clear c46; obtain ⟨ji47, hji47⟩ : ∃ j_ : Int, (shl .i64 1 (ji45)) = j_ := ⟨_, rfl⟩
                      replace H : (if ((rd_T45 l0_2 x70_4).f0) < (wrap64 (((rd_T45 l0_1 x50_2).f0) + (ji47))) then (some false) else (spec_GoodBuddy.l1 k4 l0_1 (l0_1.length : Int) x50_2 l0_2 (l0_2.length : Int) (wrap64 (x70_4 + 1)) a0_0 l0_1 l0_2 ((rd_T45 l0_1 x50_2).f0) ((rd_T45 l0_1 x50_2).f1))) = some r := by first | (rw [hji47] at H; exact H) | (simp only [hji47] at H ⊢; exact H)
                      have hji47_ : (IntKind.i64.wrap (1 * 2 ^ min (ji45).toNat 64)) = ji47 := hji47; have hji47z : (ji45) ≤ 64 → (IntKind.i64.wrap (1 * 2 ^ (ji45).toNat)) = ji47 := shl_small hji47
                      have hji47u : (IntKind.i64.wrap (2 ^ min (ji45).toNat 64)) = ji47 := by have h_ := hji47_; rw [Int.one_mul] at h_; exact h_
                      have hji47v : (ji45) ≤ 64 → (IntKind.i64.wrap (2 ^ (ji45).toNat)) = ji47 := fun hle_ => by have h_ := hji47z hle_; rw [Int.one_mul] at h_; exact h_
                      have hji47y : (wrap64 (1 * 2 ^ min (ji45).toNat 64)) = ji47 := (i64_w _).symm.trans hji47_
                      have hji47x : (ji45) ≤ 64 → (wrap64 (1 * 2 ^ (ji45).toNat)) = ji47 := fun h_ => (i64_w _).symm.trans (hji47z h_)
                      by_cases c48 : ((rd_T45 l0_2 x70_4).f0) < (wrap64 (((rd_T45 l0_1 x50_2).f0) + (ji47)))
                      ·rw [if_pos c48] at H
                       have c48b0 : decide (((rd_T45 l0_2 x70_4).f0) < (wrap64 (((rd_T45 l0_1 x50_2).f0) + (ji47)))) = true := decide_eq_true c48; clear c48; obtain rfl := Option.some.inj H
                       have p125 : 0 ≤ (x70_4 : Int) := of_decide_eq_true (by first | (with_reducible assumption) | assumption)
                       have q125 : x70_4 < (l0_2.length : Int) := of_decide_eq_true (by first | (with_reducible assumption) | assumption)
                       obtain ⟨ad125, e125, hx125_0, hx125_1⟩ := at_T45 HR0_2.out x70_4 p125 q125
                       cases e125
                       replace hx125_0 := (HB.out.cell (World.block_lt_of_cell? w _ hx125_0)).trans hx125_0; replace hx125_1 := (HB.out.cell (World.block_lt_of_cell? w _ hx125_1)).trans hx125_1; replace p125 := eq_true p125; replace q125 := eq_true q125
                       go_wp2_with (first | ((with_reducible refine gate_dst (N := 11) rfl ?_); refine bE 11 #[.int .i64 0, .int .i64 0] 45 ?_; intro gb126 hg w49 hbox hb; have BK126 := aM (hbox); have GW126 := gW hg HB.out; have GE126 := GW126; replace HB := aM (zT (zH HB.out) hb); have NB114_126 := nL BK114.out hg; have NB126_114 := nR BK114.out hg; replace BK114 := yK BK114.out hb; have NB121_126 := nL BK121.out hg; have NB126_121 := nR BK121.out hg; replace BK121 := yK BK121.out hb; clear hb hbox hg; have M50 := NB126_114.out; have L50 := NB114_126.out; have M51 := NB126_121.out; have L51 := NB121_126.out; obtain ⟨Z52_0, Z52_1, Y52_0, Y52_1⟩ := y2 BK126.out; have M53 := NB121_114.out; have L53 := NB114_121.out; obtain ⟨Z54_0, Z54_1, Y54_0, Y54_1⟩ := y2 BK121.out))
                       go_ret
                       exact ⟨by first | rfl | (simp [errW_none, errW_some] <;> rfl) | (simp only [← hji4, ← hji6, ← hji41, ← hji43, ← hji45, ← hji47]; first | rfl | (simp [errW_none, errW_some] <;> rfl)) | (simp [*, errW_none, errW_some] <;> rfl), zH HB.out⟩
                      ·rw [if_neg c48] at H
                       have c48b0 : decide (((rd_T45 l0_2 x70_4).f0) < (wrap64 (((rd_T45 l0_1 x50_2).f0) + (ji47)))) = false := decide_eq_false c48; clear c48; have H' := aM H; clear H
                       have p125 : 0 ≤ (x70_4 : Int) := of_decide_eq_true (by first | (with_reducible assumption) | assumption)
                       have q125 : x70_4 < (l0_2.length : Int) := of_decide_eq_true (by first | (with_reducible assumption) | assumption)
                       obtain ⟨ad125, e125, hx125_0, hx125_1⟩ := at_T45 HR0_2.out x70_4 p125 q125
                       cases e125
                       replace hx125_0 := (HB.out.cell (World.block_lt_of_cell? w _ hx125_0)).trans hx125_0; replace hx125_1 := (HB.out.cell (World.block_lt_of_cell? w _ hx125_1)).trans hx125_1; replace p125 := eq_true p125; replace q125 := eq_true q125
                       go_wp2_with (first | ((with_reducible refine gate_dst (N := 11) rfl ?_); refine bE 11 #[.int .i64 0, .int .i64 0] 45 ?_; intro gb126 hg w55 hbox hb; have BK126 := aM (hbox); have GW126 := gW hg HB.out; have GE126 := GW126; replace HB := aM (zT (zH HB.out) hb); have NB114_126 := nL BK114.out hg; have NB126_114 := nR BK114.out hg; replace BK114 := yK BK114.out hb; have NB121_126 := nL BK121.out hg; have NB126_121 := nR BK121.out hg; replace BK121 := yK BK121.out hb; clear hb hbox hg; have M56 := NB126_114.out; have L56 := NB114_126.out; have M57 := NB126_121.out; have L57 := NB121_126.out; obtain ⟨Z58_0, Z58_1, Y58_0, Y58_1⟩ := y2 BK126.out; have M59 := NB121_114.out; have L59 := NB114_121.out; obtain ⟨Z60_0, Z60_1, Y60_0, Y60_1⟩ := y2 BK121.out))
                       go_roundg k4
                       case measure => have := HJ8.out; have := HK2.out; have := HJ21.out; have := HK4.out; omega
                       case rel => exact ⟨(wrap64 (x70_4 + 1)), (by first | rfl | (simp; done) | (simp [*]; done)), H', ⟨by have := HJ8.out; have := HK2.out; have := HJ21.out; have := HK4.out; omega⟩, yG BK114.out, yG BK121.out, ⟨zH HB.out⟩⟩
                     ·rw [if_neg c46] at H
                      exact absurd H (by simp)
                    ·rw [if_neg c44] at H
                     have c44b0 : decide (((rd_T45 l0_1 x50_2).f0) < (wrap64 (((rd_T45 l0_2 x70_4).f0) + (ji43)))) = false := decide_eq_false c44; clear c44; have H' := aM H; clear H
                     have p125 : 0 ≤ (x70_4 : Int) := of_decide_eq_true (by first | (with_reducible assumption) | assumption)
                     have q125 : x70_4 < (l0_2.length : Int) := of_decide_eq_true (by first | (with_reducible assumption) | assumption)
                     obtain ⟨ad125, e125, hx125_0, hx125_1⟩ := at_T45 HR0_2.out x70_4 p125 q125
                     cases e125
                     replace hx125_0 := (HB.out.cell (World.block_lt_of_cell? w _ hx125_0)).trans hx125_0; replace hx125_1 := (HB.out.cell (World.block_lt_of_cell? w _ hx125_1)).trans hx125_1; replace p125 := eq_true p125; replace q125 := eq_true q125
                     go_wp2_with (first | ((with_reducible refine gate_dst (N := 11) rfl ?_); refine bE 11 #[.int .i64 0, .int .i64 0] 45 ?_; intro gb126 hg w61 hbox hb; have BK126 := aM (hbox); have GW126 := gW hg HB.out; have GE126 := GW126; replace HB := aM (zT (zH HB.out) hb); have NB114_126 := nL BK114.out hg; have NB126_114 := nR BK114.out hg; replace BK114 := yK BK114.out hb; have NB121_126 := nL BK121.out hg; have NB126_121 := nR BK121.out hg; replace BK121 := yK BK121.out hb; clear hb hbox hg; have M62 := NB126_114.out; have L62 := NB114_126.out; have M63 := NB126_121.out; have L63 := NB121_126.out; obtain ⟨Z64_0, Z64_1, Y64_0, Y64_1⟩ := y2 BK126.out; have M65 := NB121_114.out; have L65 := NB114_121.out; obtain ⟨Z66_0, Z66_1, Y66_0, Y66_1⟩ := y2 BK121.out))
                     go_roundg k4
                     case measure => have := HJ8.out; have := HK2.out; have := HJ21.out; have := HK4.out; omega
                     case rel => exact ⟨(wrap64 (x70_4 + 1)), (by first | rfl | (simp; done) | (simp [*]; done)), H', ⟨by have := HJ8.out; have := HK2.out; have := HJ21.out; have := HK4.out; omega⟩, yG BK114.out, yG BK121.out, ⟨zH HB.out⟩⟩
                   ·rw [if_neg c42] at H
                    exact absurd H (by simp)
                  ·rw [if_neg c40] at H
                   exact absurd H (by simp)
                 ·rw [if_neg c39] at H
                  exact absurd H (by simp)
                ·rw [if_neg c38] at H
                 have c38b0 : decide (x70_4 < (l0_2.length : Int)) = false := decide_eq_false c38; clear c38; have H' := aM H; clear H
                 go_wp2
                 go_roundg k4
                 case measure => have := HJ8.out; have := HK2.out; have := HJ21.out; have := HK4.out; omega
                 case rel => exact ⟨(wrap64 (x50_2 + 1)), (by first | rfl | (simp; done) | (simp [*]; done)), H', ⟨by have := HJ8.out; have := HK2.out; have := HJ21.out; have := HK4.out; omega⟩, ⟨yH BK114.out⟩, ⟨zH HB.out⟩⟩
          ·rw [if_neg c21] at H
           exact absurd H (by simp)
         ·rw [if_neg c20] at H
          exact absurd H (by simp)
        ·rw [if_neg c19] at H
         have c19b0 : decide (x50_2 < (l0_1.length : Int)) = false := decide_eq_false c19; clear c19; obtain rfl := Option.some.inj H
         go_wp2
         go_ret
         exact ⟨by first | rfl | (simp [errW_none, errW_some] <;> rfl) | (simp only [← hji4, ← hji6]; first | rfl | (simp [errW_none, errW_some] <;> rfl)) | (simp [*, errW_none, errW_some] <;> rfl), zH HB.out⟩
  ·rw [if_neg c5] at H
   exact absurd H (by simp)
 ·replace c3 := Bool.eq_false_iff.mpr c3
  subst c3
  have H1 : (some false) = some r := by rw [if_neg (show ¬ (false = true) by decide)] at H; exact H
  clear H; have H := H1; clear H1; obtain rfl := Option.some.inj H
  go_enter Try.func20, Try.ntmps20
  go_wp2_with (first | ((with_reducible refine gate_dst (N := 1) rfl ?_); refine bE 1 #[.int .i64 a0_0, .slice A0_1 l0_1.length c0_1, .slice A0_2 l0_2.length c0_2] 28 ?_; intro gb114 hg w67 hbox hb; have BK114 := aM (hbox); have GW114 := gW hg HB.out; have GE114 := GW114; replace HB := aM (zT (zH HB.out) hb); clear hb hbox hg; obtain ⟨Z68_0, Z68_1, Z68_2, Y68_0, Y68_1, Y68_2⟩ := y3 BK114.out) | ((with_reducible refine gate_callee (f := 43) rfl ?_); refine goesL_ (some 14) rfl rfl Try.func43 (by kernel_rfl) rfl #[.int .i64 a0_0, .int .i64 0, .int .i64 8] rfl mA ?_; (with_reducible refine (spec_l1In.calls a0_0 0 8 false _ A2.out).mono ?_); rintro e w' ⟨rfl, ⟨nd, rfl⟩⟩; refine ⟨_, rfl, ?_⟩))
  go_ret
  exact ⟨eW, zH HB.out⟩

end Go.Proofs.Ytbjcioihomeikaa.PFnBuddies
