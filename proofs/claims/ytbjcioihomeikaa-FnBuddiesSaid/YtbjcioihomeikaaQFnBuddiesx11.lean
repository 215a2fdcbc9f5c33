/- The walks of FnBuddies: Go's calls come to what the Lean functions beside them say; no condition. -/
import Derived.Test.YtbjcioihomeikaaQFnBuddiesx0
import Derived.Test.YtbjcioihomeikaaQFnBuddiesx6
import Derived.Test.YtbjcioihomeikaaQFnBuddiesx8
import Derived.Test.YtbjcioihomeikaaQFnBuddiesx9
import Derived.Test.YtbjcioihomeikaaQFnBuddiesx10
namespace Go.Proofs.Ytbjcioihomeikaa.PFnBuddies
open Go.RowKit Go.Proofs.YtbjcioihomeikaaW.PrintWords Go.Proofs.YtbjcioihomeikaaW.PrintLast Go.Proofs.YtbjcioihomeikaaW.PrintMore
attribute [local go_sem] max2_int min2_int max_two min_two max_three min_three max_four min_four   -- for this text's walks alone
set_option linter.unusedVariables false
set_option linter.unusedSimpArgs false
set_option maxRecDepth 100000

/-! ### impl_GiveBlock: function 11 -/
mutual
def impl_GiveBlock.j0 : Nat → Int → Bool → Int → List (S45) → List (S45) → Option (Int × (List (S45)) × (List (S45)) × Bool)
 | 0, _, _, _, _, _ => none
 | k + 1, x6, x19, x249000, x249001, x249002 => if x19 = true then (some (0, ([] : List (S45)), ([] : List (S45)), false)) else (if 0 ≤ x6 then (if x6 < (x249002.length : Int) then ((impl_Block_35.f x249001).bind fun t254 => ((impl_lacking.f x249002 ((rd_T45 x249002 x6).f0) ((rd_T45 x249002 x6).f1)).bind fun t257 => (impl_GiveBlock.l0 k ((rd_T45 x249002 x6).f0) ((rd_T45 x249002 x6).f1) x249000 t254 t257))) else (none)) else (none))
def impl_GiveBlock.l0 : Nat → Int → Int → Int → List (S45) → List (S45) → Option (Int × (List (S45)) × (List (S45)) × Bool)
 | 0, _, _, _, _, _ => none
 | k + 1, x254000, x254001, x261000, x261001, x261002 => (impl_Block_buddy.f x254000 x254001).bind fun bt261 => ((impl_Block_37.f k x261001 bt261.1 bt261.2).bind fun t263 => (if t263 = true then ((impl_Block_buddy.f x254000 x254001).bind fun bt264 => ((impl_lacking.f x261001 bt264.1 bt264.2).bind fun t266 => ((impl_Block_buddy.f x254000 x254001).bind fun bt269 => (impl_GiveBlock.l0 k (mn x254000 bt269.1) (wrap64 (x254001 + 1)) x261000 t266 x261002)))) else ((impl_with.f x261001 x254000 x254001).bind fun t271 => (some (x261000, t271, x261002, true)))))
end
def impl_GiveBlock.f (k : Nat) (a0_0 : Int) (l0_1 : List (S45)) (l0_2 : List (S45)) (a1 : Int) : Option (Int × (List (S45)) × (List (S45)) × Bool) := (impl_Block_33.f l0_2 a1).bind fun t250 => ((impl_GoodBuddy.f k a0_0 l0_1 l0_2).bind fun t251 => (if t251 = true then (impl_GiveBlock.j0 k t250 (decide (t250 < 0)) a0_0 l0_1 l0_2) else (impl_GiveBlock.j0 k t250 true a0_0 l0_1 l0_2)))
theorem impl_GiveBlock.mono_l : ∀ k, (∀ y0 y1 y2 y3 y4, LeO (impl_GiveBlock.j0 k y0 y1 y2 y3 y4) (impl_GiveBlock.j0 (k + 1) y0 y1 y2 y3 y4)) ∧ (∀ y0 y1 y2 y3 y4, LeO (impl_GiveBlock.l0 k y0 y1 y2 y3 y4) (impl_GiveBlock.l0 (k + 1) y0 y1 y2 y3 y4))
 | 0 => ⟨fun _ _ _ _ _ r h => by simp [impl_GiveBlock.j0] at h, fun _ _ _ _ _ r h => by simp [impl_GiveBlock.l0] at h⟩
 | k + 1 => by
  obtain ⟨ih0, ih1⟩ := impl_GiveBlock.mono_l k
  refine ⟨?_, ?_⟩
  ·intro y0 y1 y2 y3 y4
   unfold impl_GiveBlock.j0
   repeat' first
   | (with_reducible exact ih0 _ _ _ _ _)
   | (with_reducible exact ih1 _ _ _ _ _)
   | (with_reducible exact impl_Block_37.mono _ _ _ _)
   | (with_reducible exact impl_GoodBuddy.mono _ _ _ _)
   | (with_reducible exact LeO.refl _)
   | (with_reducible exact LeO.none _)
   | (with_reducible refine LeO.ite ?_ ?_)
   | (with_reducible refine LeO.bind ?_ (fun _ => ?_))
   | exact ih0 _ _ _ _ _
   | exact ih1 _ _ _ _ _
   | exact impl_Block_37.mono _ _ _ _
   | exact impl_GoodBuddy.mono _ _ _ _
   | exact LeO.none _
   | refine LeO.ite ?_ ?_
   | refine LeO.bind ?_ (fun _ => ?_)
  ·intro y0 y1 y2 y3 y4
   unfold impl_GiveBlock.l0
   repeat' first
   | (with_reducible exact ih0 _ _ _ _ _)
   | (with_reducible exact ih1 _ _ _ _ _)
   | (with_reducible exact impl_Block_37.mono _ _ _ _)
   | (with_reducible exact impl_GoodBuddy.mono _ _ _ _)
   | (with_reducible exact LeO.refl _)
   | (with_reducible exact LeO.none _)
   | (with_reducible refine LeO.ite ?_ ?_)
   | (with_reducible refine LeO.bind ?_ (fun _ => ?_))
   | exact ih0 _ _ _ _ _
   | exact ih1 _ _ _ _ _
   | exact impl_Block_37.mono _ _ _ _
   | exact impl_GoodBuddy.mono _ _ _ _
   | exact LeO.none _
   | refine LeO.ite ?_ ?_
   | refine LeO.bind ?_ (fun _ => ?_)
theorem impl_GiveBlock.mono : ∀ a0 a1 a2 a3 k, LeO (impl_GiveBlock.f k a0 a1 a2 a3) (impl_GiveBlock.f (k + 1) a0 a1 a2 a3) := by
 intro a0 a1 a2 a3 k
 obtain ⟨ih0, ih1⟩ := impl_GiveBlock.mono_l k
 unfold impl_GiveBlock.f
 repeat' first
   | (with_reducible exact ih0 _ _ _ _ _)
   | (with_reducible exact ih1 _ _ _ _ _)
   | (with_reducible exact impl_Block_37.mono _ _ _ _)
   | (with_reducible exact impl_GoodBuddy.mono _ _ _ _)
   | (with_reducible exact LeO.refl _)
   | (with_reducible exact LeO.none _)
   | (with_reducible refine LeO.ite ?_ ?_)
   | (with_reducible refine LeO.bind ?_ (fun _ => ?_))
   | exact ih0 _ _ _ _ _
   | exact ih1 _ _ _ _ _
   | exact impl_Block_37.mono _ _ _ _
   | exact impl_GoodBuddy.mono _ _ _ _
   | exact LeO.none _
   | refine LeO.ite ?_ ?_
   | refine LeO.bind ?_ (fun _ => ?_)
def impl_GiveBlock.T5 : Bool × List (List Nat × List Nat) := (true, [([], []), ([0], [0]), ([], []), ([2], [2]), ([3], [3]), ([], []), ([5], [5]), ([], []), ([6, 7, 4], [6, 7]), ([1, 4, 8], [1, 4, 8]), ([], []), ([10, 9, 8, 0, 1, 2, 3, 4, 5, 6, 7, 8, 9, 10], [9, 10])])
def impl_GiveBlock.B5 : List Nat := [0, 1, 0, 4, 12, 0, 32, 0, 252, 511, 0, 2047]
theorem impl_GiveBlock.tab5 : rtab .any (opsOf Try.f11 5) = impl_GiveBlock.T5 := by kernel_rfl
theorem impl_GiveBlock.bits5 : waitsOk impl_GiveBlock.T5.2 impl_GiveBlock.B5 = true := by kernel_rfl
def impl_GiveBlock.T8 : Bool × List (List Nat × List Nat) := (true, [([], []), ([0], [0]), ([], []), ([2], [2]), ([3], [3]), ([1, 4], [1, 4]), ([], []), ([6], [6]), ([7], [7]), ([5, 8], [5, 8]), ([9, 3, 0, 1, 2, 3, 4, 5, 6, 7, 8, 9], [9])])
def impl_GiveBlock.B8 : List Nat := [0, 1, 0, 4, 12, 31, 0, 64, 192, 511, 1023]
theorem impl_GiveBlock.tab8 : rtab .any (opsOf Try.f11 8) = impl_GiveBlock.T8 := by kernel_rfl
theorem impl_GiveBlock.bits8 : waitsOk impl_GiveBlock.T8.2 impl_GiveBlock.B8 = true := by kernel_rfl
set_option maxHeartbeats 8000000 in
set_option maxRecDepth 100000 in
theorem impl_GiveBlock.calls (k : Nat) (a0_0 : Int) (A0_1 : Option Addr) (c0_1 : Nat) (l0_1 : List (S45)) (A0_2 : Option Addr) (c0_2 : Nat) (l0_2 : List (S45)) (a1 : Int) (r1 : Int) (r2 : List (S45)) (r3 : List (S45)) (r4 : Bool) (w : World) (hr0_1 : Kd.C k45 w A0_1 l0_1.length l0_1) (hc0_1 : l0_1.length ≤ c0_1) (hr0_2 : Kd.C k45 w A0_2 l0_2.length l0_2) (hc0_2 : l0_2.length ≤ c0_2) (h : impl_GiveBlock.f k a0_0 l0_1 l0_2 a1 = some (r1, r2, r3, r4)) :
  Calls Try.prog 11 #[.agg #[.int .i64 a0_0, .slice A0_1 l0_1.length c0_1, .slice A0_2 l0_2.length c0_2], .int .i64 a1] w fun e w' => ∃ v1_ v2_ : Value, e = .returned (.tuple #[.agg #[.int .i64 r1, v1_, v2_], .bool r4]) ∧ Kd.R k45 45 w' w.heap.size (fun k_ => some k_ ≠ (v2_ : Value).ownBlock) v1_ r2 ∧ Kd.R k45 45 w' w.heap.size (fun k_ => some k_ ≠ (v1_ : Value).ownBlock) v2_ r3 ∧ Below w.heap.size w w' := by
 have hu28 := Try.underlying28
 have hfd : ∀ (x y : Int) (w' : World), (Instr.field 45 (.agg #[.int .i64 x, .int .i64 y]) 0).run Try.prog w' = .ok (.int .i64 x) w' := fun _ _ _ => by kernel_rfl
 have hu45 := Try.underlying45; have HR0_1 := aM hr0_1; have HC0_1 := aM hc0_1; clear hr0_1 hc0_1; have HR0_2 := aM hr0_2; have HC0_2 := aM hc0_2; clear hr0_2 hc0_2; have HB := aM (Below.refl w.heap.size w)
 have H : ((impl_Block_33.f l0_2 a1).bind fun t250 => ((impl_GoodBuddy.f k a0_0 l0_1 l0_2).bind fun t251 => (if t251 = true then (impl_GiveBlock.j0 k t250 (decide (t250 < 0)) a0_0 l0_1 l0_2) else (impl_GiveBlock.j0 k t250 true a0_0 l0_1 l0_2)))) = some (r1, r2, r3, r4) := h
 clear h; replace H := Option.bind_eq_some_iff.mp H; obtain ⟨t250, A30, H⟩ := H
 replace H : ((impl_GoodBuddy.f k a0_0 l0_1 l0_2).bind fun t251 => (if t251 = true then (impl_GiveBlock.j0 k t250 (decide (t250 < 0)) a0_0 l0_1 l0_2) else (impl_GiveBlock.j0 k t250 true a0_0 l0_1 l0_2))) = some (r1, r2, r3, r4) := H
 have A3 := aM A30; clear A30; have HC4 := aM H; clear H
 go_enter Try.func11, Try.ntmps11
 go_upto_region 2 with (first | ((with_reducible refine gate_dst (N := 2) rfl ?_); refine bE 2 #[.int .i64 a0_0, .slice A0_1 l0_1.length c0_1, .slice A0_2 l0_2.length c0_2] 28 ?_; intro gb248 hg w5 hbox hb; have BK248 := aM (hbox); have GW248 := gW hg HB.out; have GE248 := GW248; replace HB := aM (zT (zH HB.out) hb); clear hb hbox hg) | ((with_reducible refine gate_dst (N := 3) rfl ?_); refine bE 3 #[.int .i64 a1] 3 ?_; intro gbx hg wx_ hbox hb; replace BK248 := yK BK248.out hb; replace HB := aM (zT (zH HB.out) hb); have BKX := aM hbox; clear hb hbox hg) | ((with_reducible refine gate_dst (N := 4) rfl ?_); refine bE 4 #[.int .i64 0, .slice none 0 0, .slice none 0 0] 28 ?_; intro gb249 hg w6 hbox hb; have nx_ := aM (yB (g := gbx) (o := .cells #[.int .i64 a1] 3 (0, 0)) (yH BKX.out) hb); clear BKX; have BKX := nx_; clear nx_; have BK249 := aM (hbox); have GW249 := gW hg HB.out; have GE249 := GW249; replace HB := aM (zT (zH HB.out) hb); have NB248_249 := nL BK248.out hg; have NB249_248 := nR BK248.out hg; replace BK248 := yK BK248.out hb; clear hb hbox hg; have M7 := NB248_249.out; have L7 := NB249_248.out; obtain ⟨Z8_0, Z8_1, Z8_2, Y8_0, Y8_1, Y8_2⟩ := y3 BK248.out) | ((with_reducible refine gate_callee (f := 33) rfl ?_); refine goesL_ (some 12) rfl rfl Try.func33 (by kernel_rfl) rfl #[.slice A0_2 l0_2.length c0_2, .func (.func 34) #[] #[.pointer (some ⟨gbx, 0, none⟩)]] rfl mA ?_; (with_reducible refine (impl_Block_33.calls _ _ l0_2 a1 t250 _ gbx BKX.out ?side1 ?side2 A3.out).mono ?_); (case side1 => exact cK HR0_2.out HB.out); (case side2 => exact HC0_2.out); rintro e w9 ⟨rfl, hb⟩; refine ⟨_, rfl, ?_⟩; replace BK248 := yK BK248.out hb; replace BK249 := yK BK249.out hb; replace HB := aM (zT (zH HB.out) hb); (try clear hb)))
 (try simp only [Act.put, qA, qB, qC])
 go_cut [19] (fun v19 wc => ∃ (kq : Nat) (x19_3 : Bool), v19 = .bool x19_3 ∧ Aside0 (impl_GiveBlock.j0 kq t250 x19_3 a0_0 l0_1 l0_2 = some (r1, r2, r3, r4)) ∧ Aside0 (kq ≤ k) ∧ Aside0 (wc.heap[gb248]? = some (.cells #[.int .i64 a0_0, (.slice A0_1 l0_1.length c0_1), (.slice A0_2 l0_2.length c0_2)] 28 (0, 0))) ∧ Aside0 (wc.heap[gb249]? = some (.cells #[.int .i64 0, (.slice none 0 0), (.slice none 0 0)] 28 (0, 0))) ∧ Aside0 (Below w.heap.size w wc))
 case first =>
  have H := HC4.out; clear HC4; replace H := Option.bind_eq_some_iff.mp H; obtain ⟨t251, A100, H⟩ := H; replace H : (if t251 = true then (impl_GiveBlock.j0 k t250 (decide (t250 < 0)) a0_0 l0_1 l0_2) else (impl_GiveBlock.j0 k t250 true a0_0 l0_1 l0_2)) = some (r1, r2, r3, r4) := H; have A10 := aM A100; clear A100
  by_cases c11 : t251 = true
  ·subst c11
   have H1 : (impl_GiveBlock.j0 k t250 (decide (t250 < 0)) a0_0 l0_1 l0_2) = some (r1, r2, r3, r4) := by rw [if_pos rfl] at H; exact H
   clear H; have H := H1; clear H1; have H' := aM H; clear H; have M12 := NB248_249.out; have L12 := NB249_248.out; obtain ⟨Z13_0, Z13_1, Z13_2, Y13_0, Y13_1, Y13_2⟩ := y3 BK248.out
   go_wp2_with (first | ((with_reducible refine gate_callee (f := 19) rfl ?_); refine goesL_ (some 14) rfl rfl Try.func19 (by kernel_rfl) rfl #[.agg #[.int .i64 a0_0, .slice A0_1 l0_1.length c0_1, .slice A0_2 l0_2.length c0_2]] rfl mA ?_; (with_reducible refine (impl_GoodBuddy.calls k a0_0 _ _ l0_1 _ _ l0_2 true _ ?side1 ?side2 ?side3 ?side4 A10.out).mono ?_); (case side1 => exact cK HR0_1.out HB.out); (case side2 => exact HC0_1.out); (case side3 => exact cK HR0_2.out HB.out); (case side4 => exact HC0_2.out); rintro e w14 ⟨rfl, hb⟩; refine ⟨_, rfl, ?_⟩; replace BK248 := yK BK248.out hb; replace BK249 := yK BK249.out hb; replace HB := aM (zT (zH HB.out) hb); (try clear hb)))
   go_meet
   case rel => exact ⟨_, (decide (t250 < 0)), (by first | rfl | (simp; done) | (simp [*]; done)), H', ⟨by first | omega | exact Nat.le_refl _⟩, ⟨yH BK248.out⟩, ⟨yH BK249.out⟩, ⟨zH HB.out⟩⟩
  ·replace c11 := Bool.eq_false_iff.mpr c11
   subst c11
   have H1 : (impl_GiveBlock.j0 k t250 true a0_0 l0_1 l0_2) = some (r1, r2, r3, r4) := by rw [if_neg (show ¬ (false = true) by decide)] at H; exact H
   clear H; have H := H1; clear H1; have H' := aM H; clear H; have M15 := NB248_249.out; have L15 := NB249_248.out; obtain ⟨Z16_0, Z16_1, Z16_2, Y16_0, Y16_1, Y16_2⟩ := y3 BK248.out
   go_wp2_with (first | ((with_reducible refine gate_callee (f := 19) rfl ?_); refine goesL_ (some 14) rfl rfl Try.func19 (by kernel_rfl) rfl #[.agg #[.int .i64 a0_0, .slice A0_1 l0_1.length c0_1, .slice A0_2 l0_2.length c0_2]] rfl mA ?_; (with_reducible refine (impl_GoodBuddy.calls k a0_0 _ _ l0_1 _ _ l0_2 false _ ?side1 ?side2 ?side3 ?side4 A10.out).mono ?_); (case side1 => exact cK HR0_1.out HB.out); (case side2 => exact HC0_1.out); (case side3 => exact cK HR0_2.out HB.out); (case side4 => exact HC0_2.out); rintro e w17 ⟨rfl, hb⟩; refine ⟨_, rfl, ?_⟩; replace BK248 := yK BK248.out hb; replace BK249 := yK BK249.out hb; replace HB := aM (zT (zH HB.out) hb); (try clear hb)))
   go_meet
   case rel => exact ⟨_, (true), (by first | rfl | (simp; done) | (simp [*]; done)), H', ⟨by first | omega | exact Nat.le_refl _⟩, ⟨yH BK248.out⟩, ⟨yH BK249.out⟩, ⟨zH HB.out⟩⟩
 case rest =>
  clear HC4
  (try clear c11); (try clear Z13_0 Z13_1 Z13_2 Y13_0 Y13_1 Y13_2); (try clear Z16_0 Z16_1 Z16_2 Y16_0 Y16_1 Y16_2); (try clear Z8_0 Z8_1 Z8_2 Y8_0 Y8_1 Y8_2)
  obtain ⟨kq, x19_3, rfl, HA, HJ3, BK248, BK249, HB⟩ := hcut
  cases kq with
  | zero => exact absurd HA.out (fun h_ => by change none = some _ at h_; cases h_)
  | succ kj3 =>
   have H := HA.out; clear HA
   simp only [impl_GiveBlock.j0] at H
   by_cases c18 : x19_3 = true
   ·subst c18
    have H1 : (some (0, ([] : List (S45)), ([] : List (S45)), false)) = some (r1, r2, r3, r4) := by rw [if_pos rfl] at H; exact H
    clear H; have H := H1; clear H1
    simp only [Option.some.injEq, Prod.mk.injEq] at H
    obtain ⟨rfl, rfl, rfl, rfl⟩ := H; have M19 := NB249_248.out; have L19 := NB248_249.out; have Z20_0 : wc.cell? ⟨gb249, 0, none⟩ = some (.int .i64 0) := yc BK249.out 0; have Z20_1 : wc.cell? ⟨gb249, 1, none⟩ = some (.slice none 0 0) := yc BK249.out 1; have Z20_2 : wc.cell? ⟨gb249, 2, none⟩ = some (.slice none 0 0) := yc BK249.out 2; have Y20_0 := yZ BK249.out 0; have Y20_1 := yZ BK249.out 1; have Y20_2 := yZ BK249.out 2
    go_wp2
    refine bodyPost_ret (results_ct rfl _ _ gb249 28 #[.int .i64 0, .slice none 0 0, .slice none 0 0] (0, 0) _ rfl (by refine yW ?_; refine yP (cs := #[.int .i64 0, .slice none 0 0, .slice none 0 0]) ?_ 2 _ rfl; refine yW ?_; refine yP (cs := #[.int .i64 0, .slice none 0 0, .slice none 0 0]) ?_ 1 _ rfl; refine yW ?_; refine yP (cs := #[.int .i64 0, .slice none 0 0, .slice none 0 0]) ?_ 0 _ rfl; refine yW ?_; exact BK249.out) Try.underlying28 rfl (by kernel_rfl)) rfl ?_
    exact ⟨_, _, eW, by first | exact Kd.R_nil _ _ _ _ _ | exact Kd.N_nil _ _ _ _ _ | exact Kd.V_nil _ _ _ _ _ | exact Kd.Q_nil _ _ _ _ _ | exact Kd.S_nil _ _ _ _ _, by first | exact Kd.R_nil _ _ _ _ _ | exact Kd.N_nil _ _ _ _ _ | exact Kd.V_nil _ _ _ _ _ | exact Kd.Q_nil _ _ _ _ _ | exact Kd.S_nil _ _ _ _ _, zH HB.out⟩
   ·replace c18 := Bool.eq_false_iff.mpr c18
    subst c18
    have H1 : (if 0 ≤ t250 then (if t250 < (l0_2.length : Int) then ((impl_Block_35.f l0_1).bind fun t254 => ((impl_lacking.f l0_2 ((rd_T45 l0_2 t250).f0) ((rd_T45 l0_2 t250).f1)).bind fun t257 => (impl_GiveBlock.l0 kj3 ((rd_T45 l0_2 t250).f0) ((rd_T45 l0_2 t250).f1) a0_0 t254 t257))) else (none)) else (none)) = some (r1, r2, r3, r4) := by rw [if_neg (show ¬ (false = true) by decide)] at H; exact H
    clear H; have H := H1; clear H1
    by_cases c21 : 0 ≤ t250
    ·rw [if_pos c21] at H
     have c21b0 : decide (0 ≤ t250) = true := decide_eq_true c21; clear c21
     by_cases c22 : t250 < (l0_2.length : Int)
     ·rw [if_pos c22] at H
      have c22b0 : decide (t250 < (l0_2.length : Int)) = true := decide_eq_true c22; clear c22; replace H := Option.bind_eq_some_iff.mp H; obtain ⟨t254, A230, H⟩ := H
      replace H : ((impl_lacking.f l0_2 ((rd_T45 l0_2 t250).f0) ((rd_T45 l0_2 t250).f1)).bind fun t257 => (impl_GiveBlock.l0 kj3 ((rd_T45 l0_2 t250).f0) ((rd_T45 l0_2 t250).f1) a0_0 t254 t257)) = some (r1, r2, r3, r4) := H
      have A23 := aM A230; clear A230; replace H := Option.bind_eq_some_iff.mp H; obtain ⟨t257, A240, H⟩ := H; replace H : (impl_GiveBlock.l0 kj3 ((rd_T45 l0_2 t250).f0) ((rd_T45 l0_2 t250).f1) a0_0 t254 t257) = some (r1, r2, r3, r4) := H; have A24 := aM A240; clear A240; have H' := aM H; clear H; have M25 := NB248_249.out; have L25 := NB249_248.out; have Z26_0 : wc.cell? ⟨gb248, 0, none⟩ = some (.int .i64 a0_0) := yc BK248.out 0; have Z26_1 : wc.cell? ⟨gb248, 1, none⟩ = some (.slice A0_1 l0_1.length c0_1) := yc BK248.out 1; have Z26_2 : wc.cell? ⟨gb248, 2, none⟩ = some (.slice A0_2 l0_2.length c0_2) := yc BK248.out 2; have Y26_0 := yZ BK248.out 0; have Y26_1 := yZ BK248.out 1; have Y26_2 := yZ BK248.out 2
      have p252 : 0 ≤ (t250 : Int) := of_decide_eq_true (by first | (with_reducible assumption) | assumption)
      have q252 : t250 < (l0_2.length : Int) := of_decide_eq_true (by first | (with_reducible assumption) | assumption)
      obtain ⟨ad252, e252, hx252_0, hx252_1⟩ := at_T45 HR0_2.out t250 p252 q252
      cases e252
      replace hx252_0 := (HB.out.cell (World.block_lt_of_cell? w _ hx252_0)).trans hx252_0; replace hx252_1 := (HB.out.cell (World.block_lt_of_cell? w _ hx252_1)).trans hx252_1; replace p252 := eq_true p252; replace q252 := eq_true q252
      try go_wp2_with (first | ((with_reducible refine gate_dst (N := 7) rfl ?_); refine bE 7 #[.int .i64 0, .int .i64 0] 45 ?_; intro gb253 hg w27 hbox hb; have BK253 := aM (hbox); have GW253 := gW hg HB.out; have GE253 := GW253; replace HB := aM (zT (zH HB.out) hb); have NB248_253 := nL BK248.out hg; have NB253_248 := nR BK248.out hg; replace BK248 := yK BK248.out hb; have NB249_253 := nL BK249.out hg; have NB253_249 := nR BK249.out hg; replace BK249 := yK BK249.out hb; clear hb hbox hg; have M28 := NB253_248.out; have L28 := NB248_253.out; have M29 := NB253_249.out; have L29 := NB249_253.out; obtain ⟨Z30_0, Z30_1, Y30_0, Y30_1⟩ := y2 BK253.out))
      have n0_ : Aside0 (((w27.setCell ⟨gb253, 0, none⟩ (.int .i64 ((rd_T45 l0_2 t250).f0))).setCell ⟨gb253, 1, none⟩ (.int .i64 ((rd_T45 l0_2 t250).f1))).heap[gb248]? = some (.cells #[.int .i64 a0_0, .slice A0_1 l0_1.length c0_1, .slice (some ad252) l0_2.length c0_2] 28 (0, 0))) := yG BK248.out
      have n1_ : Aside0 (((w27.setCell ⟨gb253, 0, none⟩ (.int .i64 ((rd_T45 l0_2 t250).f0))).setCell ⟨gb253, 1, none⟩ (.int .i64 ((rd_T45 l0_2 t250).f1))).heap[gb249]? = some (.cells #[.int .i64 0, .slice none 0 0, .slice none 0 0] 28 (0, 0))) := yG BK249.out
      have n2_ : Aside0 (((w27.setCell ⟨gb253, 0, none⟩ (.int .i64 ((rd_T45 l0_2 t250).f0))).setCell ⟨gb253, 1, none⟩ (.int .i64 ((rd_T45 l0_2 t250).f1))).heap[gb253]? = some (.cells #[.int .i64 ((rd_T45 l0_2 t250).f0), .int .i64 ((rd_T45 l0_2 t250).f1)] 45 (0, 0))) := ⟨by refine yW ?_; refine yP (cs := #[.int .i64 ((rd_T45 l0_2 t250).f0), .int .i64 0]) ?_ 1 _ rfl; refine yW ?_; refine yP (cs := #[.int .i64 0, .int .i64 0]) ?_ 0 _ rfl; refine yW ?_; exact BK253.out⟩
      have n3_ : Aside0 (Below w.heap.size w ((w27.setCell ⟨gb253, 0, none⟩ (.int .i64 ((rd_T45 l0_2 t250).f0))).setCell ⟨gb253, 1, none⟩ (.int .i64 ((rd_T45 l0_2 t250).f1)))) := ⟨zH HB.out⟩
      (try clear BK248); (try clear BK249); (try clear BK253); (try clear HB)
      generalize ((w27.setCell ⟨gb253, 0, none⟩ (.int .i64 ((rd_T45 l0_2 t250).f0))).setCell ⟨gb253, 1, none⟩ (.int .i64 ((rd_T45 l0_2 t250).f1))) = w31 at n0_ n1_ n2_ n3_ ⊢
      have BK248 := n0_; have BK249 := n1_; have BK253 := n2_; have HB := n3_; clear n0_ n1_ n2_ n3_; replace BK248 := aM (yD BK248.out); replace BK249 := aM (yD BK249.out); replace BK253 := aM (yD BK253.out); replace HB := aM (zD HB.out)
      refine start_ (n := 12) (S := fun w' => w'.cell? ⟨gb248, 0, none⟩ = some (.int .i64 a0_0) ∧ w'.cell? ⟨gb248, 1, none⟩ = some (.slice A0_1 l0_1.length c0_1) ∧ w'.cell? ⟨gb248, 2, none⟩ = some (.slice (some ad252) l0_2.length c0_2) ∧ w'.cell? ⟨gb253, 0, none⟩ = some (.int .i64 ((rd_T45 l0_2 t250).f0)) ∧ w'.cell? ⟨gb253, 1, none⟩ = some (.int .i64 ((rd_T45 l0_2 t250).f1))) (ds := []) #[fF,fF,fF,fF,fF,fF,fF,fF,fF,fF,fF,fF] (by kernel_rfl) rfl rfl ⟨yc BK248.out 0, yc BK248.out 1, yc BK248.out 2, yc BK253.out 0, yc BK253.out 1⟩ (fun hHeld => ?_); refine with_tabW impl_GiveBlock.tab5 impl_GiveBlock.bits5 (fun HT_ HW_ => ?_)
      generalize w31.drew = w32 at BK248 BK249 BK253 HB hHeld ⊢
      refine pP 0 26 HT_ ?_
      refine pP 2 28 HT_ ?_
      refine pP 5 31 HT_ ?_
      refine tK 1 27 HT_ HW_ hHeld ?_
      refine tK 3 29 HT_ HW_ hHeld ?_
      refine tK 6 32 HT_ HW_ hHeld ?_
      refine tK 7 33 HT_ HW_ hHeld ?_
      refine join_ (σ := Value × Value × Nat) 1 #[tT,tT,tT,tT,tT,tT,tT,tT,tT,tT,tT,fF] (fun s_ => [(30, s_.1), (34, s_.2.1), (8, .pointer (some ⟨s_.2.2, 0, none⟩)), (35, .agg #[.int .i64 a0_0, s_.1, s_.2.1])]) (fun s_ w' => (w'.cell? ⟨gb248, 0, none⟩ = some (.int .i64 a0_0) ∧ w'.cell? ⟨gb248, 1, none⟩ = some (.slice A0_1 l0_1.length c0_1) ∧ w'.cell? ⟨gb248, 2, none⟩ = some (.slice (some ad252) l0_2.length c0_2) ∧ w'.cell? ⟨gb253, 0, none⟩ = some (.int .i64 ((rd_T45 l0_2 t250).f0)) ∧ w'.cell? ⟨gb253, 1, none⟩ = some (.int .i64 ((rd_T45 l0_2 t250).f1))) ∧ (Kd.R k45 45 w' w.heap.size (fun k_ => some k_ ≠ (s_.2.1 : Value).ownBlock ∧ k_ ≠ gb253) s_.1 t254) ∧ (Kd.R k45 45 w' w.heap.size (fun k_ => some k_ ≠ (s_.1 : Value).ownBlock ∧ k_ ≠ gb253) s_.2.1 t257) ∧ (w'.heap[gb248]? = some (.cells #[.int .i64 a0_0, .slice A0_1 l0_1.length c0_1, .slice (some ad252) l0_2.length c0_2] 28 (0, 0))) ∧ (w'.heap[gb249]? = some (.cells #[.int .i64 0, .slice none 0 0, .slice none 0 0] 28 (0, 0))) ∧ (w'.heap[gb253]? = some (.cells #[.int .i64 ((rd_T45 l0_2 t250).f0), .int .i64 ((rd_T45 l0_2 t250).f1)] 45 (0, 0))) ∧ (w'.heap[s_.2.2]? = some (.cells #[.int .i64 0, .slice none 0 0, .slice none 0 0] 28 (0, 0))) ∧ (w.heap.size ≤ s_.2.2) ∧ (w.heap.size ≤ s_.2.2) ∧ (gb248 ≠ s_.2.2) ∧ (s_.2.2 ≠ gb248) ∧ (gb249 ≠ s_.2.2) ∧ (s_.2.2 ≠ gb249) ∧ (gb253 ≠ s_.2.2) ∧ (s_.2.2 ≠ gb253) ∧ (Below w.heap.size w w')) ?_ ?_
      rotate_left
      ·intro hCont
       refine two_ (i := 4) (j := 10) (Ni := some 30) (Nj := some 8) #[tT,tT,tT,tT,tT,tT,tT,tT,fF,fF,fF,fF] #[tT,tT,tT,tT,fF,tT,tT,tT,fF,fF,tT,fF] rfl rfl rfl rfl (two_of HT_.out (by kernel_rfl)) (by decide) (by decide) (fun K hK => ?_) (fun K hK => ?_)
       ·skip
        refine gS Try.func35 (by kernel_rfl) rfl #[.slice A0_1 l0_1.length c0_1] (by rfl) rfl rfl ?_
        with_reducible refine (impl_Block_35.calls _ _ l0_1 t254 _ ?side1 ?side2 A23.out).mono ?_
        (case side1 => exact cK HR0_1.out HB.out)
        (case side2 => exact HC0_1.out)
        rintro e w33 ⟨v255, rfl, ho0, hb⟩
        refine ⟨_, rfl, ?_⟩
        have HO256 := aM (xL (Kd.R_newB ho0 (g := gb253) (o := .cells #[.int .i64 ((rd_T45 l0_2 t250).f0), .int .i64 ((rd_T45 l0_2 t250).f1)] 45 (0, 0)) (yH BK253.out)) (zZ (zH HB.out))); replace BK248 := yK BK248.out hb; replace BK249 := yK BK249.out hb; replace BK253 := yK BK253.out hb; replace HB := aM (zT (zH HB.out) hb)
        (try clear hb); (try clear ho0)
        refine hK.out _ _ ⟨yc BK248.out 0, yc BK248.out 1, yc BK248.out 2, yc BK253.out 0, yc BK253.out 1⟩ (fun hHeld => ?_)
        clear hK K; refine nN 30 ?_
        refine two_ (i := 8) (j := 10) (Ni := some 34) (Nj := some 8) #[tT,tT,tT,tT,tT,tT,tT,tT,tT,fF,fF,fF] #[tT,tT,tT,tT,tT,tT,tT,tT,fF,fF,tT,fF] rfl rfl rfl rfl (two_of HT_.out (by kernel_rfl)) (by decide) (by decide) (fun K hK => ?_) (fun K hK => ?_)
        ·skip
         refine gS Try.func36 (by kernel_rfl) rfl #[.slice (some ad252) l0_2.length c0_2, .agg #[.int .i64 ((rd_T45 l0_2 t250).f0), .int .i64 ((rd_T45 l0_2 t250).f1)]] (by rfl) rfl rfl ?_
         with_reducible refine (impl_lacking.calls _ _ l0_2 ((rd_T45 l0_2 t250).f0) ((rd_T45 l0_2 t250).f1) t257 _ ?side1 ?side2 A24.out).mono ?_
         (case side1 => exact cK HR0_2.out HB.out)
         (case side2 => exact HC0_2.out)
         rintro e w34 ⟨v258, rfl, ho0, hb⟩
         refine ⟨_, rfl, ?_⟩
         have HO259 := aM (xL (Kd.R_newB (Kd.R_new' ho0 (Kd.R_lt (xH HO256.out))) (g := gb253) (o := .cells #[.int .i64 ((rd_T45 l0_2 t250).f0), .int .i64 ((rd_T45 l0_2 t250).f1)] 45 (0, 0)) (yH BK253.out)) (zZ (zH HB.out))); replace HO256 := aM (Kd.R_elder' (xH HO256.out) (Kd.R_base ho0) hb); replace BK248 := yK BK248.out hb; replace BK249 := yK BK249.out hb; replace BK253 := yK BK253.out hb; replace HB := aM (zT (zH HB.out) hb)
         (try clear hb); (try clear ho0)
         obtain ⟨Ao35, co35, eo35⟩ := Kd.R_slice HO259.out
         (first | subst eo35 | obtain ⟨rfl, rfl⟩ := eI eo35)
         obtain ⟨Ao36, co36, eo36⟩ := Kd.R_slice HO256.out
         (first | subst eo36 | obtain ⟨rfl, rfl⟩ := eI eo36)
         refine hK.out _ _ ⟨yc BK248.out 0, yc BK248.out 1, yc BK248.out 2, yc BK253.out 0, yc BK253.out 1⟩ (fun hHeld => ?_)
         clear hK K; refine nN 34 ?_
         refine pP 9 35 HT_ ?_
         refine oN 10 (some 8) HT_ (fun K hK => ?_)
         refine box_step ?hg (N := 8) ?hd (cs := #[.int .i64 0, .slice none 0 0, .slice none 0 0]) (t := 28) ?hr ?_; (case hd => rfl); (case hg => rfl); (case hr => first | (go_simp; done) | (go_simp; rfl))
         intro gb260 hg w37 hbox hb
         replace HO256 := xK HO256.out hb; replace HO259 := xK HO259.out hb; have BK260 := aM (hbox)
         have GW260 := aM ((by rw [hg]; exact (zZ (zH HB.out)) : w.heap.size ≤ gb260))
         have GE260 := gW hg HB.out
         replace HB := aM (zT (zH HB.out) hb); have NB248_260 := nL BK248.out hg; have NB260_248 := nR BK248.out hg; replace BK248 := yK BK248.out hb; have NB249_260 := nL BK249.out hg; have NB260_249 := nR BK249.out hg; replace BK249 := yK BK249.out hb; have NB253_260 := nL BK253.out hg; have NB260_253 := nR BK253.out hg; replace BK253 := yK BK253.out hb; clear hb hbox hg
         refine hK.out _ _ ⟨yc BK248.out 0, yc BK248.out 1, yc BK248.out 2, yc BK253.out 0, yc BK253.out 1⟩ (fun hHeld => ?_)
         clear hK K; refine nN 8 ?_
         exact norm_ (by simp only [putAll, Act.put, qA, qB, qC]) (hCont (.slice Ao36 t254.length co36, .slice Ao35 t257.length co35, gb260) _ ⟨hHeld, (xH (xM HO256.out (fun _ hk => ⟨hk.2, hk.1.2⟩))), (xH (xM HO259.out (fun _ hk => ⟨hk.1.2, hk.2⟩))), (yH BK248.out), (yH BK249.out), (yH BK253.out), (yH BK260.out), GW260.out, GE260.out, NB248_260.out, NB260_248.out, NB249_260.out, NB260_249.out, NB253_260.out, NB260_253.out, (zH HB.out)⟩)
        ·skip
         refine box_step ?hg (N := 8) ?hd (cs := #[.int .i64 0, .slice none 0 0, .slice none 0 0]) (t := 28) ?hr ?_; (case hd => rfl); (case hg => rfl); (case hr => first | (go_simp; done) | (go_simp; rfl))
         intro gb260 hg w34 hbox hb
         replace HO256 := xK HO256.out hb; have BK260 := aM (hbox)
         have GW260 := aM ((by rw [hg]; exact (zZ (zH HB.out)) : w.heap.size ≤ gb260))
         have GE260 := gW hg HB.out
         replace HB := aM (zT (zH HB.out) hb); have NB248_260 := nL BK248.out hg; have NB260_248 := nR BK248.out hg; replace BK248 := yK BK248.out hb; have NB249_260 := nL BK249.out hg; have NB260_249 := nR BK249.out hg; replace BK249 := yK BK249.out hb; have NB253_260 := nL BK253.out hg; have NB260_253 := nR BK253.out hg; replace BK253 := yK BK253.out hb; clear hb hbox hg
         refine hK.out _ _ ⟨yc BK248.out 0, yc BK248.out 1, yc BK248.out 2, yc BK253.out 0, yc BK253.out 1⟩ (fun hHeld => ?_)
         clear hK K; refine nN 8 ?_
         refine oN 8 (some 34) HT_ (fun K hK => ?_)
         refine gS Try.func36 (by kernel_rfl) rfl #[.slice (some ad252) l0_2.length c0_2, .agg #[.int .i64 ((rd_T45 l0_2 t250).f0), .int .i64 ((rd_T45 l0_2 t250).f1)]] (by rfl) rfl rfl ?_
         with_reducible refine (impl_lacking.calls _ _ l0_2 ((rd_T45 l0_2 t250).f0) ((rd_T45 l0_2 t250).f1) t257 _ ?side1 ?side2 A24.out).mono ?_
         (case side1 => exact cK HR0_2.out HB.out)
         (case side2 => exact HC0_2.out)
         rintro e w35 ⟨v258, rfl, ho0, hb⟩
         refine ⟨_, rfl, ?_⟩
         have HO259 := aM (xL (Kd.R_newB (Kd.R_new' ho0 (Kd.R_lt (xH HO256.out))) (g := gb253) (o := .cells #[.int .i64 ((rd_T45 l0_2 t250).f0), .int .i64 ((rd_T45 l0_2 t250).f1)] 45 (0, 0)) (yH BK253.out)) (zZ (zH HB.out))); replace HO256 := aM (Kd.R_elder' (xH HO256.out) (Kd.R_base ho0) hb); replace BK248 := yK BK248.out hb; replace BK249 := yK BK249.out hb; replace BK253 := yK BK253.out hb; replace BK260 := yK BK260.out hb; replace HB := aM (zT (zH HB.out) hb)
         (try clear hb); (try clear ho0)
         obtain ⟨Ao36, co36, eo36⟩ := Kd.R_slice HO259.out
         (first | subst eo36 | obtain ⟨rfl, rfl⟩ := eI eo36)
         obtain ⟨Ao37, co37, eo37⟩ := Kd.R_slice HO256.out
         (first | subst eo37 | obtain ⟨rfl, rfl⟩ := eI eo37)
         refine hK.out _ _ ⟨yc BK248.out 0, yc BK248.out 1, yc BK248.out 2, yc BK253.out 0, yc BK253.out 1⟩ (fun hHeld => ?_)
         clear hK K; refine nN 34 ?_
         refine pP 9 35 HT_ ?_
         exact norm_ (by simp only [putAll, Act.put, qA, qB, qC]) (hCont (.slice Ao37 t254.length co37, .slice Ao36 t257.length co36, gb260) _ ⟨hHeld, (xH (xM HO256.out (fun _ hk => ⟨hk.2, hk.1.2⟩))), (xH (xM HO259.out (fun _ hk => ⟨hk.1.2, hk.2⟩))), (yH BK248.out), (yH BK249.out), (yH BK253.out), (yH BK260.out), GW260.out, GE260.out, NB248_260.out, NB260_248.out, NB249_260.out, NB260_249.out, NB253_260.out, NB260_253.out, (zH HB.out)⟩)
       ·skip
        refine box_step ?hg (N := 8) ?hd (cs := #[.int .i64 0, .slice none 0 0, .slice none 0 0]) (t := 28) ?hr ?_; (case hd => rfl); (case hg => rfl); (case hr => first | (go_simp; done) | (go_simp; rfl))
        intro gb260 hg w33 hbox hb
        have BK260 := aM (hbox)
        have GW260 := aM ((by rw [hg]; exact (zZ (zH HB.out)) : w.heap.size ≤ gb260))
        have GE260 := gW hg HB.out
        replace HB := aM (zT (zH HB.out) hb); have NB248_260 := nL BK248.out hg; have NB260_248 := nR BK248.out hg; replace BK248 := yK BK248.out hb; have NB249_260 := nL BK249.out hg; have NB260_249 := nR BK249.out hg; replace BK249 := yK BK249.out hb; have NB253_260 := nL BK253.out hg; have NB260_253 := nR BK253.out hg; replace BK253 := yK BK253.out hb; clear hb hbox hg
        refine hK.out _ _ ⟨yc BK248.out 0, yc BK248.out 1, yc BK248.out 2, yc BK253.out 0, yc BK253.out 1⟩ (fun hHeld => ?_)
        clear hK K; refine nN 8 ?_
        refine oN 4 (some 30) HT_ (fun K hK => ?_)
        refine gS Try.func35 (by kernel_rfl) rfl #[.slice A0_1 l0_1.length c0_1] (by rfl) rfl rfl ?_
        with_reducible refine (impl_Block_35.calls _ _ l0_1 t254 _ ?side1 ?side2 A23.out).mono ?_
        (case side1 => exact cK HR0_1.out HB.out)
        (case side2 => exact HC0_1.out)
        rintro e w34 ⟨v255, rfl, ho0, hb⟩
        refine ⟨_, rfl, ?_⟩
        have HO256 := aM (xL (Kd.R_newB ho0 (g := gb253) (o := .cells #[.int .i64 ((rd_T45 l0_2 t250).f0), .int .i64 ((rd_T45 l0_2 t250).f1)] 45 (0, 0)) (yH BK253.out)) (zZ (zH HB.out))); replace BK248 := yK BK248.out hb; replace BK249 := yK BK249.out hb; replace BK253 := yK BK253.out hb; replace BK260 := yK BK260.out hb; replace HB := aM (zT (zH HB.out) hb)
        (try clear hb); (try clear ho0)
        refine hK.out _ _ ⟨yc BK248.out 0, yc BK248.out 1, yc BK248.out 2, yc BK253.out 0, yc BK253.out 1⟩ (fun hHeld => ?_)
        clear hK K; refine nN 30 ?_
        refine oN 8 (some 34) HT_ (fun K hK => ?_)
        refine gS Try.func36 (by kernel_rfl) rfl #[.slice (some ad252) l0_2.length c0_2, .agg #[.int .i64 ((rd_T45 l0_2 t250).f0), .int .i64 ((rd_T45 l0_2 t250).f1)]] (by rfl) rfl rfl ?_
        with_reducible refine (impl_lacking.calls _ _ l0_2 ((rd_T45 l0_2 t250).f0) ((rd_T45 l0_2 t250).f1) t257 _ ?side1 ?side2 A24.out).mono ?_
        (case side1 => exact cK HR0_2.out HB.out)
        (case side2 => exact HC0_2.out)
        rintro e w35 ⟨v258, rfl, ho0, hb⟩
        refine ⟨_, rfl, ?_⟩
        have HO259 := aM (xL (Kd.R_newB (Kd.R_new' ho0 (Kd.R_lt (xH HO256.out))) (g := gb253) (o := .cells #[.int .i64 ((rd_T45 l0_2 t250).f0), .int .i64 ((rd_T45 l0_2 t250).f1)] 45 (0, 0)) (yH BK253.out)) (zZ (zH HB.out))); replace HO256 := aM (Kd.R_elder' (xH HO256.out) (Kd.R_base ho0) hb); replace BK248 := yK BK248.out hb; replace BK249 := yK BK249.out hb; replace BK253 := yK BK253.out hb; replace BK260 := yK BK260.out hb; replace HB := aM (zT (zH HB.out) hb)
        (try clear hb); (try clear ho0)
        obtain ⟨Ao36, co36, eo36⟩ := Kd.R_slice HO259.out
        (first | subst eo36 | obtain ⟨rfl, rfl⟩ := eI eo36)
        obtain ⟨Ao37, co37, eo37⟩ := Kd.R_slice HO256.out
        (first | subst eo37 | obtain ⟨rfl, rfl⟩ := eI eo37)
        refine hK.out _ _ ⟨yc BK248.out 0, yc BK248.out 1, yc BK248.out 2, yc BK253.out 0, yc BK253.out 1⟩ (fun hHeld => ?_)
        clear hK K; refine nN 34 ?_
        refine pP 9 35 HT_ ?_
        exact norm_ (by simp only [putAll, Act.put, qA, qB, qC]) (hCont (.slice Ao37 t254.length co37, .slice Ao36 t257.length co36, gb260) _ ⟨hHeld, (xH (xM HO256.out (fun _ hk => ⟨hk.2, hk.1.2⟩))), (xH (xM HO259.out (fun _ hk => ⟨hk.1.2, hk.2⟩))), (yH BK248.out), (yH BK249.out), (yH BK253.out), (yH BK260.out), GW260.out, GE260.out, NB248_260.out, NB260_248.out, NB249_260.out, NB260_249.out, NB253_260.out, NB260_253.out, (zH HB.out)⟩)
      rintro ⟨v255, v258, gb260⟩ w38 ⟨hS_, h0_, h1_, h2_, h3_, h4_, h5_, h6_, h7_, h8_, h9_, h10_, h11_, h12_, h13_, h14_⟩
      (try dsimp only at h0_ h1_ h2_ h3_ h4_ h5_ h6_ h7_ h8_ h9_ h10_ h11_ h12_ h13_ h14_)
      have n0_ := aM h0_; have n1_ := aM h1_; have n2_ := aM h2_; have n3_ := aM h3_; have n4_ := aM h4_; have n5_ := aM h5_; have n6_ := aM h6_; have n7_ := aM h7_; have n8_ := aM h8_; have n9_ := aM h9_; have n10_ := aM h10_; have n11_ := aM h11_; have n12_ := aM h12_; have n13_ := aM h13_; have n14_ := aM h14_; clear BK248 BK249 BK253 HB h0_ h1_ h2_ h3_ h4_ h5_ h6_ h7_ h8_ h9_ h10_ h11_ h12_ h13_ h14_; have HO256 := n0_; have HO259 := n1_; have BK248 := n2_; have BK249 := n3_; have BK253 := n4_; have BK260 := n5_; have GW260 := n6_; have GE260 := n7_; have NB248_260 := n8_; have NB260_248 := n9_; have NB249_260 := n10_; have NB260_249 := n11_; have NB253_260 := n12_; have NB260_253 := n13_; have HB := n14_; clear n0_ n1_ n2_ n3_ n4_ n5_ n6_ n7_ n8_ n9_ n10_ n11_ n12_ n13_ n14_; have hHeld : w38.cell? ⟨gb248, 0, none⟩ = some (.int .i64 a0_0) ∧ w38.cell? ⟨gb248, 1, none⟩ = some (.slice A0_1 l0_1.length c0_1) ∧ w38.cell? ⟨gb248, 2, none⟩ = some (.slice (some ad252) l0_2.length c0_2) ∧ w38.cell? ⟨gb253, 0, none⟩ = some (.int .i64 ((rd_T45 l0_2 t250).f0)) ∧ w38.cell? ⟨gb253, 1, none⟩ = some (.int .i64 ((rd_T45 l0_2 t250).f1)) := hS_; obtain ⟨Ao39, co39, eo39⟩ := Kd.R_slice HO259.out
      (first | subst eo39 | obtain ⟨rfl, rfl⟩ := eI eo39)
      obtain ⟨Ao40, co40, eo40⟩ := Kd.R_slice HO256.out
      (first | subst eo40 | obtain ⟨rfl, rfl⟩ := eI eo40)
      refine norm_ (a' := ?_) ?_ ?_; rotate_left
      ·simp only [putAll, Act.put, qA, qB, qC]
       rfl
      refine oN 11 none HT_ (fun K hK => ?_)
      have hs41 : w38.cell? ⟨gb260, 0, none⟩ = some (.int .i64 0) := yc BK260.out 0; have hfs41 := yZ BK260.out 0; have hns41_0 := NB248_260.out; have hns41_1 := NB249_260.out; have hns41_2 := NB253_260.out; have hms41_0 := NB260_248.out; have hms41_1 := NB260_249.out; have hms41_2 := NB260_253.out; have hs42 : w38.cell? ⟨gb260, 1, none⟩ = some (.slice none 0 0) := yc BK260.out 1; have hfs42 := yZ BK260.out 1; have hns42_0 := NB248_260.out; have hns42_1 := NB249_260.out; have hns42_2 := NB253_260.out; have hms42_0 := NB260_248.out; have hms42_1 := NB260_249.out; have hms42_2 := NB260_253.out; have hs43 : w38.cell? ⟨gb260, 2, none⟩ = some (.slice none 0 0) := yc BK260.out 2; have hfs43 := yZ BK260.out 2; have hns43_0 := NB248_260.out; have hns43_1 := NB249_260.out; have hns43_2 := NB253_260.out; have hms43_0 := NB260_248.out; have hms43_1 := NB260_249.out; have hms43_2 := NB260_253.out
      refine skip_ (w1 := ?_) (by rfl) rfl ?_ ?_
      rotate_left
      ·go_simp
       rfl
      refine hK.out _ _ ⟨((cell_far (p := ⟨gb260, _, none⟩) NB248_260.out _).trans (((cell_far (p := ⟨gb260, _, none⟩) NB248_260.out _).trans (((cell_far (p := ⟨gb260, _, none⟩) NB248_260.out _).trans (hHeld.1)))))), ((cell_far (p := ⟨gb260, _, none⟩) NB248_260.out _).trans (((cell_far (p := ⟨gb260, _, none⟩) NB248_260.out _).trans (((cell_far (p := ⟨gb260, _, none⟩) NB248_260.out _).trans (hHeld.2.1)))))), ((cell_far (p := ⟨gb260, _, none⟩) NB248_260.out _).trans (((cell_far (p := ⟨gb260, _, none⟩) NB248_260.out _).trans (((cell_far (p := ⟨gb260, _, none⟩) NB248_260.out _).trans (hHeld.2.2.1)))))), ((cell_far (p := ⟨gb260, _, none⟩) NB253_260.out _).trans (((cell_far (p := ⟨gb260, _, none⟩) NB253_260.out _).trans (((cell_far (p := ⟨gb260, _, none⟩) NB253_260.out _).trans (hHeld.2.2.2.1)))))), ((cell_far (p := ⟨gb260, _, none⟩) NB253_260.out _).trans (((cell_far (p := ⟨gb260, _, none⟩) NB253_260.out _).trans (((cell_far (p := ⟨gb260, _, none⟩) NB253_260.out _).trans (hHeld.2.2.2.2))))))⟩ (fun hHeld => ?_)
      clear hK K
      refine done_ (done_of HT_.out (by kernel_rfl)) ?_
      try go_wp2
      go_loopg [] kj3 (fun kq w' => ∃ (x254000_2 : Int) (x254001_2 : Int) (x261001_2 : List (S45)) (u261001 : Value), Aside0 (impl_GiveBlock.l0 kq x254000_2 x254001_2 a0_0 x261001_2 t257 = some (r1, r2, r3, r4)) ∧ Aside0 (kq ≤ kj3) ∧ Aside0 (Kd.R k45 45 w' w.heap.size (fun k_ => some k_ ≠ oB Ao39 t257.length co39 ∧ k_ ≠ gb253) u261001 x261001_2) ∧ Aside0 (Kd.R k45 45 w' w.heap.size (fun k_ => some k_ ≠ (u261001 : Value).ownBlock ∧ k_ ≠ gb253) (.slice Ao39 t257.length co39) t257) ∧ Aside0 (w'.heap[gb248]? = some (.cells #[.int .i64 a0_0, (.slice A0_1 l0_1.length c0_1), (.slice (some ad252) l0_2.length c0_2)] 28 (0, 0))) ∧ Aside0 (w'.heap[gb249]? = some (.cells #[.int .i64 0, (.slice none 0 0), (.slice none 0 0)] 28 (0, 0))) ∧ Aside0 (w'.heap[gb253]? = some (.cells #[.int .i64 x254000_2, .int .i64 x254001_2] 45 (0, 0))) ∧ Aside0 (w'.heap[gb260]? = some (.cells #[.int .i64 a0_0, u261001, (.slice Ao39 t257.length co39)] 28 (0, 0))) ∧ Aside0 (Below w.heap.size w w'))
      case atStart => exact ⟨((rd_T45 l0_2 t250).f0), ((rd_T45 l0_2 t250).f1), (t254), (.slice Ao40 t254.length co40), H', ⟨Nat.le_refl _⟩, ⟨xH (xM (xF (p := ⟨gb260, 2, none⟩) (xF (p := ⟨gb260, 1, none⟩) (xF (p := ⟨gb260, 0, none⟩) (xT HO256.out BK260.out (by decide)) (fun _ hk => hk.2) (.int .i64 a0_0)) (fun _ hk => hk.2) (.slice Ao40 t254.length co40)) (fun _ hk => hk.2) (.slice Ao39 t257.length co39)) (fun _ hk => ⟨hk.1.1, hk.1.2⟩))⟩, ⟨xH (xM (xF (p := ⟨gb260, 2, none⟩) (xF (p := ⟨gb260, 1, none⟩) (xF (p := ⟨gb260, 0, none⟩) (xT HO259.out BK260.out (by decide)) (fun _ hk => hk.2) (.int .i64 a0_0)) (fun _ hk => hk.2) (.slice Ao40 t254.length co40)) (fun _ hk => hk.2) (.slice Ao39 t257.length co39)) (fun _ hk => ⟨hk.1.1, hk.1.2⟩))⟩, yG BK248.out, yG BK249.out, yG BK253.out, ⟨by refine yW ?_; refine yP (cs := #[.int .i64 a0_0, .slice Ao40 t254.length co40, .slice none 0 0]) ?_ 2 _ rfl; refine yW ?_; refine yP (cs := #[.int .i64 a0_0, .slice none 0 0, .slice none 0 0]) ?_ 1 _ rfl; refine yW ?_; refine yP (cs := #[.int .i64 0, .slice none 0 0, .slice none 0 0]) ?_ 0 _ rfl; refine yW ?_; exact BK260.out⟩, ⟨zH HB.out⟩⟩
      case round =>
       clear H'
       (try clear c18); (try clear c21); (try clear c21b0); (try clear c22); (try clear c22b0); (try clear Z20_0 Z20_1 Z20_2 Y20_0 Y20_1 Y20_2); (try clear Z26_0 Z26_1 Z26_2 Y26_0 Y26_1 Y26_2); (try clear Z30_0 Z30_1 Y30_0 Y30_1); (try clear hx252_0); (try clear hx252_1); (try clear p252); (try clear q252)
       obtain ⟨x254000_2, x254001_2, x261001_2, u261001, HA, HK2, p0', p1', BK248, BK249, BK253, BK260, HB⟩ := hrel
       cases gk with
       | zero => exact absurd HA.out (fun h_ => by change none = some _ at h_; cases h_)
       | succ k2 =>
        have H := HA.out; clear HA
        simp only [impl_GiveBlock.l0] at H
        replace H := Option.bind_eq_some_iff.mp H; obtain ⟨⟨t261, t262⟩, A440, H⟩ := H
        replace H : ((impl_Block_37.f k2 x261001_2 t261 t262).bind fun t263 => (if t263 = true then ((impl_Block_buddy.f x254000_2 x254001_2).bind fun bt264 => ((impl_lacking.f x261001_2 bt264.1 bt264.2).bind fun t266 => ((impl_Block_buddy.f x254000_2 x254001_2).bind fun bt269 => (impl_GiveBlock.l0 k2 (mn x254000_2 bt269.1) (wrap64 (x254001_2 + 1)) a0_0 t266 t257)))) else ((impl_with.f x261001_2 x254000_2 x254001_2).bind fun t271 => (some (a0_0, t271, t257, true))))) = some (r1, r2, r3, r4) := H
        have A44 := aM A440; clear A440; replace H := Option.bind_eq_some_iff.mp H; obtain ⟨t263, A450, H⟩ := H
        replace H : (if t263 = true then ((impl_Block_buddy.f x254000_2 x254001_2).bind fun bt264 => ((impl_lacking.f x261001_2 bt264.1 bt264.2).bind fun t266 => ((impl_Block_buddy.f x254000_2 x254001_2).bind fun bt269 => (impl_GiveBlock.l0 k2 (mn x254000_2 bt269.1) (wrap64 (x254001_2 + 1)) a0_0 t266 t257)))) else ((impl_with.f x261001_2 x254000_2 x254001_2).bind fun t271 => (some (a0_0, t271, t257, true)))) = some (r1, r2, r3, r4) := H
        have A45 := aM A450; clear A450
        by_cases c46 : t263 = true
        ·subst c46
         have H1 : ((impl_Block_buddy.f x254000_2 x254001_2).bind fun bt264 => ((impl_lacking.f x261001_2 bt264.1 bt264.2).bind fun t266 => ((impl_Block_buddy.f x254000_2 x254001_2).bind fun bt269 => (impl_GiveBlock.l0 k2 (mn x254000_2 bt269.1) (wrap64 (x254001_2 + 1)) a0_0 t266 t257)))) = some (r1, r2, r3, r4) := by rw [if_pos rfl] at H; exact H
         clear H; have H := H1; clear H1; replace H := Option.bind_eq_some_iff.mp H; obtain ⟨⟨t264, t265⟩, A470, H⟩ := H
         replace H : ((impl_lacking.f x261001_2 t264 t265).bind fun t266 => ((impl_Block_buddy.f x254000_2 x254001_2).bind fun bt269 => (impl_GiveBlock.l0 k2 (mn x254000_2 bt269.1) (wrap64 (x254001_2 + 1)) a0_0 t266 t257))) = some (r1, r2, r3, r4) := H
         have A47 := aM A470; clear A470; replace H := Option.bind_eq_some_iff.mp H; obtain ⟨t266, A480, H⟩ := H
         replace H : ((impl_Block_buddy.f x254000_2 x254001_2).bind fun bt269 => (impl_GiveBlock.l0 k2 (mn x254000_2 bt269.1) (wrap64 (x254001_2 + 1)) a0_0 t266 t257)) = some (r1, r2, r3, r4) := H
         have A48 := aM A480; clear A480; replace H := Option.bind_eq_some_iff.mp H; obtain ⟨⟨t269, t270⟩, A490, H⟩ := H; replace H : (impl_GiveBlock.l0 k2 (mn x254000_2 t269) (wrap64 (x254001_2 + 1)) a0_0 t266 t257) = some (r1, r2, r3, r4) := H; have A49 := aM A490; clear A490; obtain ⟨ji50, hji50⟩ : ∃ j_ : Int, (mn x254000_2 t269) = j_ := ⟨_, rfl⟩
         replace H : (impl_GiveBlock.l0 k2 ji50 (wrap64 (x254001_2 + 1)) a0_0 t266 t257) = some (r1, r2, r3, r4) := by first | (rw [hji50] at H; exact H) | (simp only [hji50] at H ⊢; exact H)
         (try rw [hji50] at A44)
         (try rw [hji50] at A45)
         (try rw [hji50] at A47)
         (try rw [hji50] at A48)
         (try rw [hji50] at A49)
         have hji50_ : (if t269 < x254000_2 then t269 else x254000_2) = ji50 := hji50; have H' := aM H; clear H
         try go_wp2
         replace p0' := aM (xD p0'.out); replace p1' := aM (xD p1'.out); replace BK248 := aM (yD BK248.out); replace BK249 := aM (yD BK249.out); replace BK253 := aM (yD BK253.out); replace BK260 := aM (yD BK260.out); replace HB := aM (zD HB.out)
         refine start_ (n := 5) (S := fun w' => w'.cell? ⟨gb260, 0, none⟩ = some (.int .i64 a0_0) ∧ w'.cell? ⟨gb260, 1, none⟩ = some (u261001) ∧ w'.cell? ⟨gb260, 2, none⟩ = some (.slice Ao39 t257.length co39) ∧ w'.cell? ⟨gb253, 0, none⟩ = some (.int .i64 x254000_2) ∧ w'.cell? ⟨gb253, 1, none⟩ = some (.int .i64 x254001_2)) (ds := []) #[fF,fF,fF,fF,fF] (by kernel_rfl) rfl rfl ⟨yc BK260.out 0, yc BK260.out 1, yc BK260.out 2, yc BK253.out 0, yc BK253.out 1⟩ (fun hHeld => ?_)
         generalize wr.drew = w51 at p0' p1' BK248 BK249 BK253 BK260 HB hHeld ⊢
         refine pure_ (i := 0) (N := some 36) (v := ?_) (a' := ?_) #[tT,fF,fF,fF,fF] rfl rfl (by kernel_rfl) (fun _ _ _ h => h) (Or.inl ⟨by rfl, ?_⟩) ?_ ?_
         rotate_left
         ·intro w'
          go_simp
          with_reducible rfl
         rotate_left
         ·simp only [Act.put, qA, qB, qC, i64_w, i32_w]
          rfl
         refine take_ (i := 1) (N := some 37) (v := ?_) (a' := ?_) #[tT,tT,fF,fF,fF] rfl rfl (by kernel_rfl) (fun _ _ _ h => h) (Or.inl ⟨by rfl, ?_⟩) hHeld ?_ ?_
         rotate_left
         ·rintro w' ⟨s0, s1, s2, s3, s4⟩
          go_simp
          with_reducible rfl
         rotate_left
         ·simp only [Act.put, qA, qB, qC, i64_w, i32_w]
          rfl
         refine take_ (i := 2) (N := some 38) (v := ?_) (a' := ?_) #[tT,tT,tT,fF,fF] rfl rfl (by kernel_rfl) (fun _ _ _ h => h) (Or.inl ⟨by rfl, ?_⟩) hHeld ?_ ?_
         rotate_left
         ·rintro w' ⟨s0, s1, s2, s3, s4⟩
          go_simp
          with_reducible rfl
         rotate_left
         ·simp only [Act.put, qA, qB, qC, i64_w, i32_w]
          rfl
         refine one_ (i := 3) (N := some 39) #[tT,tT,tT,tT,fF] rfl rfl (by kernel_rfl) (by decide) (fun K hK => ?_)
         refine gS Try.func38 (by kernel_rfl) rfl #[.agg #[.int .i64 x254000_2, .int .i64 x254001_2]] (by rfl) rfl rfl ?_
         with_reducible refine (impl_Block_buddy.calls x254000_2 x254001_2 t261 t262 _ A44.out).mono ?_
         rintro e w52 ⟨rfl, hb⟩
         refine ⟨_, rfl, ?_⟩
         replace p0' := xK p0'.out hb; replace p1' := xK p1'.out hb; replace BK248 := yK BK248.out hb; replace BK249 := yK BK249.out hb; replace BK253 := yK BK253.out hb; replace BK260 := yK BK260.out hb; replace HB := aM (zT (zH HB.out) hb)
         (try clear hb)
         obtain ⟨Ao53, co53, eo53⟩ := Kd.R_slice p0'.out
         (first | subst eo53 | obtain ⟨rfl, rfl⟩ := eI eo53)
         refine hK.out _ _ ⟨yc BK260.out 0, yc BK260.out 1, yc BK260.out 2, yc BK253.out 0, yc BK253.out 1⟩ (fun hHeld => ?_)
         clear hK K; refine nN 39 ?_
         refine one_ (i := 4) (N := some 40) #[tT,tT,tT,tT,tT] rfl rfl (by kernel_rfl) (by decide) (fun K hK => ?_)
         refine gS Try.func37 (by kernel_rfl) rfl #[.slice Ao53 x261001_2.length co53, .agg #[.int .i64 t261, .int .i64 t262]] (by rfl) rfl rfl ?_
         with_reducible refine (impl_Block_37.calls k2 _ _ x261001_2 t261 t262 true _ ?side1 ?side2 A45.out).mono ?_
         (case side1 => exact cS (Kd.R_reads' p0'.out).2.2)
         (case side2 => exact (Kd.R_reads' p0'.out).2.1)
         rintro e w54 ⟨rfl, hb⟩
         refine ⟨_, rfl, ?_⟩
         replace p0' := xK p0'.out hb; replace p1' := xK p1'.out hb; replace BK248 := yK BK248.out hb; replace BK249 := yK BK249.out hb; replace BK253 := yK BK253.out hb; replace BK260 := yK BK260.out hb; replace HB := aM (zT (zH HB.out) hb)
         (try clear hb)
         refine hK.out _ _ ⟨yc BK260.out 0, yc BK260.out 1, yc BK260.out 2, yc BK253.out 0, yc BK253.out 1⟩ (fun hHeld => ?_)
         clear hK K; refine nN 40 ?_
         refine done_ (by kernel_rfl) ?_
         try go_wp2
         replace p0' := aM (xD p0'.out); replace p1' := aM (xD p1'.out); replace BK248 := aM (yD BK248.out); replace BK249 := aM (yD BK249.out); replace BK253 := aM (yD BK253.out); replace BK260 := aM (yD BK260.out); replace HB := aM (zD HB.out)
         refine start_ (n := 7) (S := fun w' => w'.cell? ⟨gb260, 0, none⟩ = some (.int .i64 a0_0) ∧ w'.cell? ⟨gb260, 1, none⟩ = some (.slice Ao53 x261001_2.length co53) ∧ w'.cell? ⟨gb260, 2, none⟩ = some (.slice Ao39 t257.length co39) ∧ w'.cell? ⟨gb253, 0, none⟩ = some (.int .i64 x254000_2) ∧ w'.cell? ⟨gb253, 1, none⟩ = some (.int .i64 x254001_2)) (ds := [6]) #[fF,fF,fF,fF,fF,fF,fF] (by kernel_rfl) rfl rfl ⟨yc BK260.out 0, yc BK260.out 1, yc BK260.out 2, yc BK253.out 0, yc BK253.out 1⟩ (fun hHeld => ?_)
         generalize w54.drew = w55 at p0' p1' BK248 BK249 BK253 BK260 HB hHeld ⊢
         refine pure_ (i := 0) (N := some 41) (v := ?_) (a' := ?_) #[tT,fF,fF,fF,fF,fF,fF] rfl rfl (by kernel_rfl) (fun _ _ _ h => h) (Or.inl ⟨by rfl, ?_⟩) ?_ ?_
         rotate_left
         ·intro w'
          go_simp
          with_reducible rfl
         rotate_left
         ·simp only [Act.put, qA, qB, qC, i64_w, i32_w]
          rfl
         refine take_ (i := 1) (N := some 42) (v := ?_) (a' := ?_) #[tT,tT,fF,fF,fF,fF,fF] rfl rfl (by kernel_rfl) (fun _ _ _ h => h) (Or.inl ⟨by rfl, ?_⟩) hHeld ?_ ?_
         rotate_left
         ·rintro w' ⟨s0, s1, s2, s3, s4⟩
          go_simp
          with_reducible rfl
         rotate_left
         ·simp only [Act.put, qA, qB, qC, i64_w, i32_w]
          rfl
         refine take_ (i := 2) (N := some 43) (v := ?_) (a' := ?_) #[tT,tT,tT,fF,fF,fF,fF] rfl rfl (by kernel_rfl) (fun _ _ _ h => h) (Or.inl ⟨by rfl, ?_⟩) hHeld ?_ ?_
         rotate_left
         ·rintro w' ⟨s0, s1, s2, s3, s4⟩
          go_simp
          with_reducible rfl
         rotate_left
         ·simp only [Act.put, qA, qB, qC, i64_w, i32_w]
          rfl
         refine one_ (i := 3) (N := some 44) #[tT,tT,tT,tT,fF,fF,fF] rfl rfl (by kernel_rfl) (by decide) (fun K hK => ?_)
         refine gS Try.func38 (by kernel_rfl) rfl #[.agg #[.int .i64 x254000_2, .int .i64 x254001_2]] (by rfl) rfl rfl ?_
         with_reducible refine (impl_Block_buddy.calls x254000_2 x254001_2 t264 t265 _ A47.out).mono ?_
         rintro e w56 ⟨rfl, hb⟩
         refine ⟨_, rfl, ?_⟩
         replace p0' := xK p0'.out hb; replace p1' := xK p1'.out hb; replace BK248 := yK BK248.out hb; replace BK249 := yK BK249.out hb; replace BK253 := yK BK253.out hb; replace BK260 := yK BK260.out hb; replace HB := aM (zT (zH HB.out) hb)
         (try clear hb)
         refine hK.out _ _ ⟨yc BK260.out 0, yc BK260.out 1, yc BK260.out 2, yc BK253.out 0, yc BK253.out 1⟩ (fun hHeld => ?_)
         clear hK K; refine nN 44 ?_
         refine one_ (i := 4) (N := some 45) #[tT,tT,tT,tT,tT,fF,fF] rfl rfl (by kernel_rfl) (by decide) (fun K hK => ?_)
         refine gS Try.func36 (by kernel_rfl) rfl #[.slice Ao53 x261001_2.length co53, .agg #[.int .i64 t264, .int .i64 t265]] (by rfl) rfl rfl ?_
         with_reducible refine (impl_lacking.calls _ _ x261001_2 t264 t265 t266 _ ?side1 ?side2 A48.out).mono ?_
         (case side1 => exact cS (Kd.R_reads' p0'.out).2.2)
         (case side2 => exact (Kd.R_reads' p0'.out).2.1)
         rintro e w57 ⟨v267, rfl, ho0, hb⟩
         refine ⟨_, rfl, ?_⟩
         have HO268 := aM (xL (Kd.R_newB (Kd.R_new' (Kd.R_new' ho0 (Kd.R_lt (xH p0'.out))) (Kd.R_lt (xH p1'.out))) (g := gb253) (o := .cells #[.int .i64 x254000_2, .int .i64 x254001_2] 45 (0, 0)) (yH BK253.out)) (zZ (zH HB.out))); replace p0' := aM (Kd.R_elder' (xH p0'.out) (Kd.R_base ho0) hb); replace p1' := aM (Kd.R_elder' (xH p1'.out) (Kd.R_base ho0) hb); replace BK248 := yK BK248.out hb; replace BK249 := yK BK249.out hb; replace BK253 := yK BK253.out hb; replace BK260 := yK BK260.out hb; replace HB := aM (zT (zH HB.out) hb)
         (try clear hb); (try clear ho0)
         obtain ⟨Ao58, co58, eo58⟩ := Kd.R_slice HO268.out
         (first | subst eo58 | obtain ⟨rfl, rfl⟩ := eI eo58)
         refine hK.out _ _ ⟨yc BK260.out 0, yc BK260.out 1, yc BK260.out 2, yc BK253.out 0, yc BK253.out 1⟩ (fun hHeld => ?_)
         clear hK K; refine nN 45 ?_
         refine pure_ (i := 5) (N := some 46) (v := ?_) (a' := ?_) #[tT,tT,tT,tT,tT,tT,fF] rfl rfl (by kernel_rfl) (fun _ _ _ h => h) (Or.inl ⟨by rfl, ?_⟩) ?_ ?_
         rotate_left
         ·intro w'
          go_simp
          with_reducible rfl
         rotate_left
         ·simp only [Act.put, qA, qB, qC, i64_w, i32_w]
          rfl
         refine last_ (i := 6) (N := none) #[tT,tT,tT,tT,tT,tT,tT] rfl rfl (by kernel_rfl) (by decide) (fun K hK => ?_)
         have hs59 : w57.cell? ⟨gb260, 1, none⟩ = some (.slice Ao53 x261001_2.length co53) := yc BK260.out 1; have hfs59 := yZ BK260.out 1; have hns59_0 := NB248_260.out; have hns59_1 := NB249_260.out; have hns59_2 := NB253_260.out; have hms59_0 := NB260_248.out; have hms59_1 := NB260_249.out; have hms59_2 := NB260_253.out
         refine skip_ (w1 := ?_) (by rfl) rfl ?_ ?_
         rotate_left
         ·go_simp
          rfl
         refine hK.out _ _ ?_
         clear hK K
         refine done_ (by kernel_rfl) ?_
         try go_wp2
         have n0_ : Aside0 (Kd.R k45 45 (w57.setCell ⟨gb260, 1, none⟩ (.slice Ao58 t266.length co58)) w.heap.size (fun k_ => some k_ ≠ oB Ao39 t257.length co39 ∧ some k_ ≠ oB Ao58 t266.length co58 ∧ k_ ≠ gb253) (.slice Ao53 x261001_2.length co53) x261001_2) := ⟨xH (xM (xF (p := ⟨gb260, 1, none⟩) (xT p0'.out BK260.out (by decide)) (fun _ hk => hk.2) (.slice Ao58 t266.length co58)) (fun _ hk => ⟨hk.1.1.1, ⟨hk.1.2, hk.1.1.2⟩⟩))⟩
         have n1_ : Aside0 (Kd.R k45 45 (w57.setCell ⟨gb260, 1, none⟩ (.slice Ao58 t266.length co58)) w.heap.size (fun k_ => some k_ ≠ (.slice Ao53 x261001_2.length co53 : Value).ownBlock ∧ some k_ ≠ oB Ao58 t266.length co58 ∧ k_ ≠ gb253) (.slice Ao39 t257.length co39) t257) := ⟨xH (xM (xF (p := ⟨gb260, 1, none⟩) (xT p1'.out BK260.out (by decide)) (fun _ hk => hk.2) (.slice Ao58 t266.length co58)) (fun _ hk => ⟨hk.1.1.1, ⟨hk.1.2, hk.1.1.2⟩⟩))⟩
         have n2_ : Aside0 (Kd.R k45 45 (w57.setCell ⟨gb260, 1, none⟩ (.slice Ao58 t266.length co58)) w.heap.size (fun k_ => some k_ ≠ (.slice Ao53 x261001_2.length co53 : Value).ownBlock ∧ some k_ ≠ oB Ao39 t257.length co39 ∧ k_ ≠ gb253) (.slice Ao58 t266.length co58) t266) := ⟨xH (xM (xF (p := ⟨gb260, 1, none⟩) (xT HO268.out BK260.out (by decide)) (fun _ hk => hk.2) (.slice Ao58 t266.length co58)) (fun _ hk => ⟨hk.1.1.1.2, ⟨hk.1.1.2, hk.1.2⟩⟩))⟩
         have n3_ : Aside0 ((w57.setCell ⟨gb260, 1, none⟩ (.slice Ao58 t266.length co58)).heap[gb248]? = some (.cells #[.int .i64 a0_0, .slice A0_1 l0_1.length c0_1, .slice (some ad252) l0_2.length c0_2] 28 (0, 0))) := yG BK248.out
         have n4_ : Aside0 ((w57.setCell ⟨gb260, 1, none⟩ (.slice Ao58 t266.length co58)).heap[gb249]? = some (.cells #[.int .i64 0, .slice none 0 0, .slice none 0 0] 28 (0, 0))) := yG BK249.out
         have n5_ : Aside0 ((w57.setCell ⟨gb260, 1, none⟩ (.slice Ao58 t266.length co58)).heap[gb253]? = some (.cells #[.int .i64 x254000_2, .int .i64 x254001_2] 45 (0, 0))) := yG BK253.out
         have n6_ : Aside0 ((w57.setCell ⟨gb260, 1, none⟩ (.slice Ao58 t266.length co58)).heap[gb260]? = some (.cells #[.int .i64 a0_0, .slice Ao58 t266.length co58, .slice Ao39 t257.length co39] 28 (0, 0))) := ⟨by refine yW ?_; refine yP (cs := #[.int .i64 a0_0, .slice Ao53 x261001_2.length co53, .slice Ao39 t257.length co39]) ?_ 1 _ rfl; refine yW ?_; exact BK260.out⟩
         have n7_ : Aside0 (Below w.heap.size w (w57.setCell ⟨gb260, 1, none⟩ (.slice Ao58 t266.length co58))) := ⟨zH HB.out⟩
         (try clear p0')
         (try clear p1'); (try clear HO268); (try clear BK248); (try clear BK249); (try clear BK253); (try clear BK260); (try clear HB)
         generalize (w57.setCell ⟨gb260, 1, none⟩ (.slice Ao58 t266.length co58)) = w60 at n0_ n1_ n2_ n3_ n4_ n5_ n6_ n7_ ⊢
         have p0' := n0_; have p1' := n1_; have HO268 := n2_; have BK248 := n3_; have BK249 := n4_; have BK253 := n5_; have BK260 := n6_; have HB := n7_; clear n0_ n1_ n2_ n3_ n4_ n5_ n6_ n7_; replace p0' := aM (xD p0'.out); replace p1' := aM (xD p1'.out); replace HO268 := aM (xD HO268.out); replace BK248 := aM (yD BK248.out); replace BK249 := aM (yD BK249.out); replace BK253 := aM (yD BK253.out); replace BK260 := aM (yD BK260.out); replace HB := aM (zD HB.out)
         refine start_ (n := 11) (S := fun w' => w'.cell? ⟨gb253, 0, none⟩ = some (.int .i64 x254000_2) ∧ w'.cell? ⟨gb253, 1, none⟩ = some (.int .i64 x254001_2)) (ds := [10]) #[fF,fF,fF,fF,fF,fF,fF,fF,fF,fF,fF] (by kernel_rfl) rfl rfl ⟨yc BK253.out 0, yc BK253.out 1⟩ (fun hHeld => ?_); refine with_tabW impl_GiveBlock.tab8 impl_GiveBlock.bits8 (fun HT_ HW_ => ?_)
         generalize w60.drew = w61 at p0' p1' HO268 BK248 BK249 BK253 BK260 HB hHeld ⊢
         refine pP 0 47 HT_ ?_
         refine pP 6 53 HT_ ?_
         refine tK 1 48 HT_ HW_ hHeld ?_
         refine tK 2 49 HT_ HW_ hHeld ?_
         refine tK 7 54 HT_ HW_ hHeld ?_
         refine pP 8 55 HT_ ?_
         refine oN 3 (some 50) HT_ (fun K hK => ?_)
         refine gS Try.func38 (by kernel_rfl) rfl #[.agg #[.int .i64 x254000_2, .int .i64 x254001_2]] (by rfl) rfl rfl ?_
         with_reducible refine (impl_Block_buddy.calls x254000_2 x254001_2 t269 t270 _ A49.out).mono ?_
         rintro e w62 ⟨rfl, hb⟩
         refine ⟨_, rfl, ?_⟩
         replace p0' := xK p0'.out hb; replace p1' := xK p1'.out hb; replace HO268 := xK HO268.out hb; replace BK248 := yK BK248.out hb; replace BK249 := yK BK249.out hb; replace BK253 := yK BK253.out hb; replace BK260 := yK BK260.out hb; replace HB := aM (zT (zH HB.out) hb)
         (try clear hb)
         refine hK.out _ _ ⟨yc BK253.out 0, yc BK253.out 1⟩ (fun hHeld => ?_)
         clear hK K; refine nN 50 ?_
         refine pP 4 51 HT_ ?_
         refine pP 5 52 HT_ ?_
         refine pP 9 56 HT_ ?_
         refine last_ (i := 10) (N := none) #[tT,tT,tT,tT,tT,tT,tT,tT,tT,tT,tT] rfl rfl (one_of HT_.out (by kernel_rfl)) (by decide) (fun K hK => ?_)
         have hs63 : w62.cell? ⟨gb253, 0, none⟩ = some (.int .i64 x254000_2) := yc BK253.out 0; have hfs63 := yZ BK253.out 0; have hns63_0 := NB248_253.out; have hns63_1 := NB249_253.out; have hns63_3 := NB260_253.out; have hms63_0 := NB253_248.out; have hms63_1 := NB253_249.out; have hms63_3 := NB253_260.out; have hs64 : w62.cell? ⟨gb253, 1, none⟩ = some (.int .i64 x254001_2) := yc BK253.out 1; have hfs64 := yZ BK253.out 1; have hns64_0 := NB248_253.out; have hns64_1 := NB249_253.out; have hns64_3 := NB260_253.out; have hms64_0 := NB253_248.out; have hms64_1 := NB253_249.out; have hms64_3 := NB253_260.out
         refine skip_ (w1 := ?_) (by rfl) rfl ?_ ?_
         rotate_left
         ·go_simp
          rfl
         refine hK.out _ _ ?_
         clear hK K
         refine done_ (done_of HT_.out (by kernel_rfl)) ?_
         try go_wp2
         go_roundg k2
         case measure => have := HJ3.out; have := HK2.out; omega
         case rel => exact ⟨(ji50), (wrap64 (x254001_2 + 1)), (t266), (.slice Ao58 t266.length co58), H', ⟨by have := HJ3.out; have := HK2.out; omega⟩, ⟨xH (xM (xF (p := ⟨gb253, 1, none⟩) (xF (p := ⟨gb253, 0, none⟩) (xM HO268.out (fun k_ hk => (⟨hk, hk.2.2⟩ : _ ∧ k_ ≠ gb253))) (fun _ hk => hk.2) (.int .i64 ji50)) (fun _ hk => hk.2) (.int .i64 (wrap64 (x254001_2 + 1)))) (fun _ hk => ⟨hk.1.2.1, hk.1.2.2⟩))⟩, ⟨xH (xM (xF (p := ⟨gb253, 1, none⟩) (xF (p := ⟨gb253, 0, none⟩) (xM p1'.out (fun k_ hk => (⟨hk, hk.2.2⟩ : _ ∧ k_ ≠ gb253))) (fun _ hk => hk.2) (.int .i64 ji50)) (fun _ hk => hk.2) (.int .i64 (wrap64 (x254001_2 + 1)))) (fun _ hk => ⟨hk.1.2.1, hk.1.2.2⟩))⟩, yG BK248.out, yG BK249.out, ⟨by refine yW ?_; refine yP (cs := #[.int .i64 ji50, .int .i64 x254001_2]) ?_ 1 _ rfl; refine yW ?_; refine yP (cs := #[.int .i64 x254000_2, .int .i64 x254001_2]) ?_ 0 _ rfl; refine yW ?_; exact BK253.out⟩, yG BK260.out, ⟨zH HB.out⟩⟩
        ·replace c46 := Bool.eq_false_iff.mpr c46
         subst c46
         have H1 : ((impl_with.f x261001_2 x254000_2 x254001_2).bind fun t271 => (some (a0_0, t271, t257, true))) = some (r1, r2, r3, r4) := by rw [if_neg (show ¬ (false = true) by decide)] at H; exact H
         clear H; have H := H1; clear H1; replace H := Option.bind_eq_some_iff.mp H; obtain ⟨t271, A650, H⟩ := H; replace H : (some (a0_0, t271, t257, true)) = some (r1, r2, r3, r4) := H; have A65 := aM A650; clear A650
         simp only [Option.some.injEq, Prod.mk.injEq] at H
         obtain ⟨rfl, rfl, rfl, rfl⟩ := H
         try go_wp2
         replace p0' := aM (xD p0'.out); replace p1' := aM (xD p1'.out); replace BK248 := aM (yD BK248.out); replace BK249 := aM (yD BK249.out); replace BK253 := aM (yD BK253.out); replace BK260 := aM (yD BK260.out); replace HB := aM (zD HB.out)
         refine start_ (n := 5) (S := fun w' => w'.cell? ⟨gb260, 0, none⟩ = some (.int .i64 a0_0) ∧ w'.cell? ⟨gb260, 1, none⟩ = some (u261001) ∧ w'.cell? ⟨gb260, 2, none⟩ = some (.slice Ao39 t257.length co39) ∧ w'.cell? ⟨gb253, 0, none⟩ = some (.int .i64 x254000_2) ∧ w'.cell? ⟨gb253, 1, none⟩ = some (.int .i64 x254001_2)) (ds := []) #[fF,fF,fF,fF,fF] (by kernel_rfl) rfl rfl ⟨yc BK260.out 0, yc BK260.out 1, yc BK260.out 2, yc BK253.out 0, yc BK253.out 1⟩ (fun hHeld => ?_)
         generalize wr.drew = w66 at p0' p1' BK248 BK249 BK253 BK260 HB hHeld ⊢
         refine pure_ (i := 0) (N := some 36) (v := ?_) (a' := ?_) #[tT,fF,fF,fF,fF] rfl rfl (by kernel_rfl) (fun _ _ _ h => h) (Or.inl ⟨by rfl, ?_⟩) ?_ ?_
         rotate_left
         ·intro w'
          go_simp
          with_reducible rfl
         rotate_left
         ·simp only [Act.put, qA, qB, qC, i64_w, i32_w]
          rfl
         refine take_ (i := 1) (N := some 37) (v := ?_) (a' := ?_) #[tT,tT,fF,fF,fF] rfl rfl (by kernel_rfl) (fun _ _ _ h => h) (Or.inl ⟨by rfl, ?_⟩) hHeld ?_ ?_
         rotate_left
         ·rintro w' ⟨s0, s1, s2, s3, s4⟩
          go_simp
          with_reducible rfl
         rotate_left
         ·simp only [Act.put, qA, qB, qC, i64_w, i32_w]
          rfl
         refine take_ (i := 2) (N := some 38) (v := ?_) (a' := ?_) #[tT,tT,tT,fF,fF] rfl rfl (by kernel_rfl) (fun _ _ _ h => h) (Or.inl ⟨by rfl, ?_⟩) hHeld ?_ ?_
         rotate_left
         ·rintro w' ⟨s0, s1, s2, s3, s4⟩
          go_simp
          with_reducible rfl
         rotate_left
         ·simp only [Act.put, qA, qB, qC, i64_w, i32_w]
          rfl
         refine one_ (i := 3) (N := some 39) #[tT,tT,tT,tT,fF] rfl rfl (by kernel_rfl) (by decide) (fun K hK => ?_)
         refine gS Try.func38 (by kernel_rfl) rfl #[.agg #[.int .i64 x254000_2, .int .i64 x254001_2]] (by rfl) rfl rfl ?_
         with_reducible refine (impl_Block_buddy.calls x254000_2 x254001_2 t261 t262 _ A44.out).mono ?_
         rintro e w67 ⟨rfl, hb⟩
         refine ⟨_, rfl, ?_⟩
         replace p0' := xK p0'.out hb; replace p1' := xK p1'.out hb; replace BK248 := yK BK248.out hb; replace BK249 := yK BK249.out hb; replace BK253 := yK BK253.out hb; replace BK260 := yK BK260.out hb; replace HB := aM (zT (zH HB.out) hb)
         (try clear hb)
         obtain ⟨Ao68, co68, eo68⟩ := Kd.R_slice p0'.out
         (first | subst eo68 | obtain ⟨rfl, rfl⟩ := eI eo68)
         refine hK.out _ _ ⟨yc BK260.out 0, yc BK260.out 1, yc BK260.out 2, yc BK253.out 0, yc BK253.out 1⟩ (fun hHeld => ?_)
         clear hK K; refine nN 39 ?_
         refine one_ (i := 4) (N := some 40) #[tT,tT,tT,tT,tT] rfl rfl (by kernel_rfl) (by decide) (fun K hK => ?_)
         refine gS Try.func37 (by kernel_rfl) rfl #[.slice Ao68 x261001_2.length co68, .agg #[.int .i64 t261, .int .i64 t262]] (by rfl) rfl rfl ?_
         with_reducible refine (impl_Block_37.calls k2 _ _ x261001_2 t261 t262 false _ ?side1 ?side2 A45.out).mono ?_
         (case side1 => exact cS (Kd.R_reads' p0'.out).2.2)
         (case side2 => exact (Kd.R_reads' p0'.out).2.1)
         rintro e w69 ⟨rfl, hb⟩
         refine ⟨_, rfl, ?_⟩
         replace p0' := xK p0'.out hb; replace p1' := xK p1'.out hb; replace BK248 := yK BK248.out hb; replace BK249 := yK BK249.out hb; replace BK253 := yK BK253.out hb; replace BK260 := yK BK260.out hb; replace HB := aM (zT (zH HB.out) hb)
         (try clear hb)
         refine hK.out _ _ ⟨yc BK260.out 0, yc BK260.out 1, yc BK260.out 2, yc BK253.out 0, yc BK253.out 1⟩ (fun hHeld => ?_)
         clear hK K; refine nN 40 ?_
         refine done_ (by kernel_rfl) ?_
         have M70 := NB260_248.out; have L70 := NB248_260.out; have M71 := NB260_249.out; have L71 := NB249_260.out; have M72 := NB260_253.out; have L72 := NB253_260.out; obtain ⟨Z73_0, Z73_1, Z73_2, Y73_0, Y73_1, Y73_2⟩ := y3 BK260.out; have M74 := NB253_248.out; have L74 := NB248_253.out; have M75 := NB253_249.out; have L75 := NB249_253.out; obtain ⟨Z76_0, Z76_1, Y76_0, Y76_1⟩ := y2 BK253.out
         try go_wp2_with (first | ((with_reducible refine gate_callee (f := 39) rfl ?_); refine goesL_ (some 60) rfl rfl Try.func39 (by kernel_rfl) rfl #[.slice Ao68 x261001_2.length co68, .agg #[.int .i64 x254000_2, .int .i64 x254001_2]] rfl mA ?_; (with_reducible refine (impl_with.calls _ _ x261001_2 x254000_2 x254001_2 t271 _ ?side1 ?side2 A65.out).mono ?_); (case side1 => exact cS (Kd.R_reads' p0'.out).2.2); (case side2 => exact (Kd.R_reads' p0'.out).2.1); rintro e w77 ⟨v272, rfl, ho0, hb⟩; refine ⟨_, rfl, ?_⟩; have HO273 := aM (xL (Kd.R_newB (Kd.R_new' (Kd.R_new' ho0 (Kd.R_lt (xH p0'.out))) (Kd.R_lt (xH p1'.out))) (g := gb253) (o := .cells #[.int .i64 x254000_2, .int .i64 x254001_2] 45 (0, 0)) (yH BK253.out)) (zZ (zH HB.out))); replace p0' := aM (Kd.R_elder' (xH p0'.out) (Kd.R_base ho0) hb); replace p1' := aM (Kd.R_elder' (xH p1'.out) (Kd.R_base ho0) hb); replace BK248 := yK BK248.out hb; replace BK249 := yK BK249.out hb; replace BK253 := yK BK253.out hb; replace BK260 := yK BK260.out hb; replace HB := aM (zT (zH HB.out) hb); (try clear hb); (try clear ho0); obtain ⟨Ao78, co78, eo78⟩ := Kd.R_slice HO273.out; subst eo78; obtain ⟨Z79_0, Z79_1, Z79_2, Y79_0, Y79_1, Y79_2⟩ := y3 BK260.out; have M80 := NB249_248.out; have L80 := NB248_249.out; obtain ⟨Z81_0, Z81_1, Z81_2, Y81_0, Y81_1, Y81_2⟩ := y3 BK249.out))
         refine bodyPost_ret (results_ct rfl _ _ gb249 28 #[.int .i64 a0_0, .slice Ao78 t271.length co78, .slice Ao39 t257.length co39] (0, 0) _ rfl (by refine yW ?_; refine yP (cs := #[.int .i64 a0_0, .slice Ao78 t271.length co78, .slice none 0 0]) ?_ 2 _ rfl; refine yW ?_; refine yP (cs := #[.int .i64 a0_0, .slice none 0 0, .slice none 0 0]) ?_ 1 _ rfl; refine yW ?_; refine yP (cs := #[.int .i64 0, .slice none 0 0, .slice none 0 0]) ?_ 0 _ rfl; refine yW ?_; refine yF ?_ NB249_260.out _; refine yW ?_; exact BK249.out) Try.underlying28 rfl (by kernel_rfl)) rfl ?_
         exact ⟨_, _, eW, xH (xM (xF (p := ⟨gb249, 2, none⟩) (xF (p := ⟨gb249, 1, none⟩) (xF (p := ⟨gb249, 0, none⟩) (xF (p := ⟨gb260, 1, none⟩) (xT (xT HO273.out BK260.out (by decide)) BK249.out (by decide)) (fun _ hk => hk.1.2) (.slice Ao78 t271.length co78)) (fun _ hk => hk.2) (.int .i64 a0_0)) (fun _ hk => hk.2) (.slice Ao78 t271.length co78)) (fun _ hk => hk.2) (.slice Ao39 t257.length co39)) (fun _ hk => hk.1.1.1.2)), xH (xM (xF (p := ⟨gb249, 2, none⟩) (xF (p := ⟨gb249, 1, none⟩) (xF (p := ⟨gb249, 0, none⟩) (xF (p := ⟨gb260, 1, none⟩) (xT (xT p1'.out BK260.out (by decide)) BK249.out (by decide)) (fun _ hk => hk.1.2) (.slice Ao78 t271.length co78)) (fun _ hk => hk.2) (.int .i64 a0_0)) (fun _ hk => hk.2) (.slice Ao78 t271.length co78)) (fun _ hk => hk.2) (.slice Ao39 t257.length co39)) (fun _ hk => hk.1.1.2)), zH HB.out⟩
     ·rw [if_neg c22] at H
      exact absurd H (by simp)
    ·rw [if_neg c21] at H
     exact absurd H (by simp)

end Go.Proofs.Ytbjcioihomeikaa.PFnBuddies
