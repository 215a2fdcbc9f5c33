/- The walks of FnExactGiveBlock: Go's calls come to what the Lean functions beside them say; no condition. -/
import Derived.Test.YtbjcioihomeikaaQFnExactGiveBlockx0
import Derived.Test.YtbjcioihomeikaaQFnExactGiveBlockx7
import Derived.Test.YtbjcioihomeikaaQFnExactGiveBlockx8
import Derived.Test.YtbjcioihomeikaaQFnExactGiveBlockx9
import Derived.Test.YtbjcioihomeikaaQFnExactGiveBlockx10
namespace Go.Proofs.Ytbjcioihomeikaa.PFnExactGiveBlock
open Go.RowKit Go.Proofs.YtbjcioihomeikaaW.PrintWords Go.Proofs.YtbjcioihomeikaaW.PrintLast Go.Proofs.YtbjcioihomeikaaW.PrintMore
attribute [local go_sem] max2_int min2_int max_two min_two max_three min_three max_four min_four   -- for this text's walks alone
set_option linter.unusedVariables false
set_option linter.unusedSimpArgs false
set_option maxRecDepth 100000

/-! ### impl_GiveBlock: function 11 -/
mutual
def impl_GiveBlock.j0 : Nat → Int → Bool → Int → List (S45) → List (S45) → Option (Int × (List (S45)) × (List (S45)) × Bool)
 | 0, _, _, _, _, _ => none
 | k + 1, x6, x19, x271000, x271001, x271002 => if x19 = true then (some (0, ([] : List (S45)), ([] : List (S45)), false)) else (if 0 ≤ x6 then (if x6 < (x271002.length : Int) then ((impl_Block_35.f x271001).bind fun t276 => ((impl_lacking.f x271002 ((rd_T45 x271002 x6).f0) ((rd_T45 x271002 x6).f1)).bind fun t279 => (impl_GiveBlock.l0 k ((rd_T45 x271002 x6).f0) ((rd_T45 x271002 x6).f1) x271000 t276 t279))) else (none)) else (none))
def impl_GiveBlock.l0 : Nat → Int → Int → Int → List (S45) → List (S45) → Option (Int × (List (S45)) × (List (S45)) × Bool)
 | 0, _, _, _, _, _ => none
 | k + 1, x276000, x276001, x283000, x283001, x283002 => (impl_Block_buddy.f x276000 x276001).bind fun bt283 => ((impl_Block_37.f k x283001 bt283.1 bt283.2).bind fun t285 => (if t285 = true then ((impl_Block_buddy.f x276000 x276001).bind fun bt286 => ((impl_lacking.f x283001 bt286.1 bt286.2).bind fun t288 => ((impl_Block_buddy.f x276000 x276001).bind fun bt291 => (impl_GiveBlock.l0 k (mn x276000 bt291.1) (wrap64 (x276001 + 1)) x283000 t288 x283002)))) else ((impl_with.f x283001 x276000 x276001).bind fun t293 => (some (x283000, t293, x283002, true)))))
end
def impl_GiveBlock.f (k : Nat) (a0_0 : Int) (l0_1 : List (S45)) (l0_2 : List (S45)) (a1 : Int) : Option (Int × (List (S45)) × (List (S45)) × Bool) := (impl_Block_33.f l0_2 a1).bind fun t272 => ((impl_GoodBuddy.f k a0_0 l0_1 l0_2).bind fun t273 => (if t273 = true then (impl_GiveBlock.j0 k t272 (decide (t272 < 0)) a0_0 l0_1 l0_2) else (impl_GiveBlock.j0 k t272 true a0_0 l0_1 l0_2)))
theorem impl_GiveBlock.mono_l : ∀ k, (∀ y0 y1 y2 y3 y4, LeO (impl_GiveBlock.j0 k y0 y1 y2 y3 y4) (impl_GiveBlock.j0 (k + 1) y0 y1 y2 y3 y4)) ∧ (∀ y0 y1 y2 y3 y4, LeO (impl_GiveBlock.l0 k y0 y1 y2 y3 y4) (impl_GiveBlock.l0 (k + 1) y0 y1 y2 y3 y4))
 | 0 => ⟨fun _ _ _ _ _ r h => by simp [impl_GiveBlock.j0] at h, fun _ _ _ _ _ r h => by simp [impl_GiveBlock.l0] at h⟩
 | k + 1 => by
  obtain ⟨ih0, ih1⟩ := impl_GiveBlock.mono_l k
  refine ⟨?_, ?_⟩
  ·intro y0 y1 y2 y3 y4
   unfold impl_GiveBlock.j0
   repeat' first
   | (with_reducible exact ih0 _ _ _ _ _)
   | (with_reducible exact ih1 _ _ _ _ _)
   | (with_reducible exact impl_Block_37.mono _ _ _ _)
   | (with_reducible exact impl_GoodBuddy.mono _ _ _ _)
   | (with_reducible exact LeO.refl _)
   | (with_reducible exact LeO.none _)
   | (with_reducible refine LeO.ite ?_ ?_)
   | (with_reducible refine LeO.bind ?_ (fun _ => ?_))
   | exact ih0 _ _ _ _ _
   | exact ih1 _ _ _ _ _
   | exact impl_Block_37.mono _ _ _ _
   | exact impl_GoodBuddy.mono _ _ _ _
   | exact LeO.none _
   | refine LeO.ite ?_ ?_
   | refine LeO.bind ?_ (fun _ => ?_)
  ·intro y0 y1 y2 y3 y4
   unfold impl_GiveBlock.l0
   repeat' first
   | (with_reducible exact ih0 _ _ _ _ _)
   | (with_reducible exact ih1 _ _ _ _ _)
   | (with_reducible exact impl_Block_37.mono _ _ _ _)
   | (with_reducible exact impl_GoodBuddy.mono _ _ _ _)
   | (with_reducible exact LeO.refl _)
   | (with_reducible exact LeO.none _)
   | (with_reducible refine LeO.ite ?_ ?_)
   | (with_reducible refine LeO.bind ?_ (fun _ => ?_))
   | exact ih0 _ _ _ _ _
   | exact ih1 _ _ _ _ _
   | exact impl_Block_37.mono _ _ _ _
   | exact impl_GoodBuddy.mono _ _ _ _
   | exact LeO.none _
   | refine LeO.ite ?_ ?_
   | refine LeO.bind ?_ (fun _ => ?_)
theorem impl_GiveBlock.mono : ∀ a0 a1 a2 a3 k, LeO (impl_GiveBlock.f k a0 a1 a2 a3) (impl_GiveBlock.f (k + 1) a0 a1 a2 a3) := by
 intro a0 a1 a2 a3 k
 obtain ⟨ih0, ih1⟩ := impl_GiveBlock.mono_l k
 unfold impl_GiveBlock.f
 repeat' first
   | (with_reducible exact ih0 _ _ _ _ _)
   | (with_reducible exact ih1 _ _ _ _ _)
   | (with_reducible exact impl_Block_37.mono _ _ _ _)
   | (with_reducible exact impl_GoodBuddy.mono _ _ _ _)
   | (with_reducible exact LeO.refl _)
   | (with_reducible exact LeO.none _)
   | (with_reducible refine LeO.ite ?_ ?_)
   | (with_reducible refine LeO.bind ?_ (fun _ => ?_))
   | exact ih0 _ _ _ _ _
   | exact ih1 _ _ _ _ _
   | exact impl_Block_37.mono _ _ _ _
   | exact impl_GoodBuddy.mono _ _ _ _
   | exact LeO.none _
   | refine LeO.ite ?_ ?_
   | refine LeO.bind ?_ (fun _ => ?_)
def impl_GiveBlock.T5 : Bool × List (List Nat × List Nat) := (true, [([], []), ([0], [0]), ([], []), ([2], [2]), ([3], [3]), ([], []), ([5], [5]), ([], []), ([6, 7, 4], [6, 7]), ([1, 4, 8], [1, 4, 8]), ([], []), ([10, 9, 8, 0, 1, 2, 3, 4, 5, 6, 7, 8, 9, 10], [9, 10])])
def impl_GiveBlock.B5 : List Nat := [0, 1, 0, 4, 12, 0, 32, 0, 252, 511, 0, 2047]
theorem impl_GiveBlock.tab5 : rtab .any (opsOf Try.f11 5) = impl_GiveBlock.T5 := by kernel_rfl
theorem impl_GiveBlock.bits5 : waitsOk impl_GiveBlock.T5.2 impl_GiveBlock.B5 = true := by kernel_rfl
def impl_GiveBlock.T8 : Bool × List (List Nat × List Nat) := (true, [([], []), ([0], [0]), ([], []), ([2], [2]), ([3], [3]), ([1, 4], [1, 4]), ([], []), ([6], [6]), ([7], [7]), ([5, 8], [5, 8]), ([9, 3, 0, 1, 2, 3, 4, 5, 6, 7, 8, 9], [9])])
def impl_GiveBlock.B8 : List Nat := [0, 1, 0, 4, 12, 31, 0, 64, 192, 511, 1023]
theorem impl_GiveBlock.tab8 : rtab .any (opsOf Try.f11 8) = impl_GiveBlock.T8 := by kernel_rfl
theorem impl_GiveBlock.bits8 : waitsOk impl_GiveBlock.T8.2 impl_GiveBlock.B8 = true := by kernel_rfl
set_option maxHeartbeats 8000000 in
set_option maxRecDepth 100000 in
theorem impl_GiveBlock.calls (k : Nat) (a0_0 : Int) (A0_1 : Option Addr) (c0_1 : Nat) (l0_1 : List (S45)) (A0_2 : Option Addr) (c0_2 : Nat) (l0_2 : List (S45)) (a1 : Int) (r1 : Int) (r2 : List (S45)) (r3 : List (S45)) (r4 : Bool) (w : World) (hr0_1 : Kd.C k45 w A0_1 l0_1.length l0_1) (hc0_1 : l0_1.length ≤ c0_1) (hr0_2 : Kd.C k45 w A0_2 l0_2.length l0_2) (hc0_2 : l0_2.length ≤ c0_2) (h : impl_GiveBlock.f k a0_0 l0_1 l0_2 a1 = some (r1, r2, r3, r4)) :
  Calls Try.prog 11 #[.agg #[.int .i64 a0_0, .slice A0_1 l0_1.length c0_1, .slice A0_2 l0_2.length c0_2], .int .i64 a1] w fun e w' => ∃ v1_ v2_ : Value, e = .returned (.tuple #[.agg #[.int .i64 r1, v1_, v2_], .bool r4]) ∧ Kd.R k45 45 w' w.heap.size (fun k_ => some k_ ≠ (v2_ : Value).ownBlock) v1_ r2 ∧ Kd.R k45 45 w' w.heap.size (fun k_ => some k_ ≠ (v1_ : Value).ownBlock) v2_ r3 ∧ Below w.heap.size w w' := by
 have hu28 := Try.underlying28
 have hfd : ∀ (x y : Int) (w' : World), (Instr.field 45 (.agg #[.int .i64 x, .int .i64 y]) 0).run Try.prog w' = .ok (.int .i64 x) w' := fun _ _ _ => by kernel_rfl
 have hu45 := Try.underlying45
 have HR0_1 := aM hr0_1
 have HC0_1 := aM hc0_1
 clear hr0_1 hc0_1
 have HR0_2 := aM hr0_2
 have HC0_2 := aM hc0_2
 clear hr0_2 hc0_2
 have HB := aM (Below.refl w.heap.size w)
 have H : ((impl_Block_33.f l0_2 a1).bind fun t272 => ((impl_GoodBuddy.f k a0_0 l0_1 l0_2).bind fun t273 => (if t273 = true then (impl_GiveBlock.j0 k t272 (decide (t272 < 0)) a0_0 l0_1 l0_2) else (impl_GiveBlock.j0 k t272 true a0_0 l0_1 l0_2)))) = some (r1, r2, r3, r4) := h
 clear h
 replace H := Option.bind_eq_some_iff.mp H
 obtain ⟨t272, A30, H⟩ := H
 replace H : ((impl_GoodBuddy.f k a0_0 l0_1 l0_2).bind fun t273 => (if t273 = true then (impl_GiveBlock.j0 k t272 (decide (t272 < 0)) a0_0 l0_1 l0_2) else (impl_GiveBlock.j0 k t272 true a0_0 l0_1 l0_2))) = some (r1, r2, r3, r4) := H
 have A3 := aM A30
 clear A30
 have HC4 := aM H
 clear H
 go_enter Try.func11, Try.ntmps11
 go_upto_region 2 with (first | ((with_reducible refine gate_dst (N := 2) rfl ?_); refine box_event ?hg (N := 2) ?hd (cs := #[.int .i64 a0_0, .slice A0_1 l0_1.length c0_1, .slice A0_2 l0_2.length c0_2]) (t := 28) ?hr ?_; (case hd => rfl); (case hg => rfl); (case hr => first | (go_simp; done) | (go_simp; rfl)); intro gb270 hg w5 hbox hb; have BK270 := aM (hbox); have GW270 := aM ((by rw [hg]; exact (zZ (zH HB.out)) : w.heap.size ≤ gb270)); have GE270 := aM ((by rw [hg]; exact (zZ (zH HB.out)) : w.heap.size ≤ gb270)); replace HB := aM (zT (zH HB.out) hb); clear hb hbox hg) | ((with_reducible refine gate_dst (N := 3) rfl ?_); refine box_event ?hg (N := 3) ?hd (cs := #[.int .i64 a1]) (t := 3) ?hr ?_; (case hd => rfl); (case hg => rfl); (case hr => first | (go_simp; done) | (go_simp; rfl)); intro gbx hg wx_ hbox hb; replace BK270 := yK BK270.out hb; replace HB := aM (zT (zH HB.out) hb); have BKX := aM hbox; clear hb hbox hg) | ((with_reducible refine gate_dst (N := 4) rfl ?_); refine box_event ?hg (N := 4) ?hd (cs := #[.int .i64 0, .slice none 0 0, .slice none 0 0]) (t := 28) ?hr ?_; (case hd => rfl); (case hg => rfl); (case hr => first | (go_simp; done) | (go_simp; rfl)); intro gb271 hg w6 hbox hb; have nx_ := aM (yB (g := gbx) (o := .cells #[.int .i64 a1] 3 (0, 0)) (yH BKX.out) hb); clear BKX; have BKX := nx_; clear nx_; have BK271 := aM (hbox); have GW271 := aM ((by rw [hg]; exact (zZ (zH HB.out)) : w.heap.size ≤ gb271)); have GE271 := aM ((by rw [hg]; exact (zZ (zH HB.out)) : w.heap.size ≤ gb271)); replace HB := aM (zT (zH HB.out) hb); have NB270_271 := nL BK270.out hg; have NB271_270 := nR BK270.out hg; replace BK270 := yK BK270.out hb; clear hb hbox hg; have hnb7 := NB270_271.out; have hnc7 := NB271_270.out; have hcz8_0 : w6.cell? ⟨gb270, 0, none⟩ = some (.int .i64 a0_0) := yc BK270.out 0; have hcz8_1 : w6.cell? ⟨gb270, 1, none⟩ = some (.slice A0_1 l0_1.length c0_1) := yc BK270.out 1; have hcz8_2 : w6.cell? ⟨gb270, 2, none⟩ = some (.slice A0_2 l0_2.length c0_2) := yc BK270.out 2; have hfz8_0 := yZ BK270.out 0; have hfz8_1 := yZ BK270.out 1; have hfz8_2 := yZ BK270.out 2) | ((with_reducible refine gate_callee (f := 33) rfl ?_); refine goesL_ (some 12) rfl rfl Try.func33 (by kernel_rfl) rfl #[.slice A0_2 l0_2.length c0_2, .func (.func 34) #[] #[.pointer (some ⟨gbx, 0, none⟩)]] rfl (by (try simp only [List.map_toArray, List.map_cons, List.map_nil]); first | done | rfl | (simp only [List.length_drop, List.length_take]; rfl)) ?_; (with_reducible refine (impl_Block_33.calls _ _ l0_2 a1 t272 _ gbx BKX.out ?side1 ?side2 A3.out).mono ?_); (case side1 => exact cK HR0_2.out HB.out); (case side2 => exact HC0_2.out); rintro e w9 ⟨rfl, hb⟩; refine ⟨_, rfl, ?_⟩; replace BK270 := yK BK270.out hb; replace BK271 := yK BK271.out hb; replace HB := aM (zT (zH HB.out) hb); (try clear hb)))
 (try simp only [Act.put, qA, qB, qC])
 go_cut [19] (fun v19 wc => ∃ (kq : Nat) (x19_3 : Bool), v19 = .bool x19_3 ∧ Aside0 (impl_GiveBlock.j0 kq t272 x19_3 a0_0 l0_1 l0_2 = some (r1, r2, r3, r4)) ∧ Aside0 (kq ≤ k) ∧ Aside0 (wc.heap[gb270]? = some (.cells #[.int .i64 a0_0, (.slice A0_1 l0_1.length c0_1), (.slice A0_2 l0_2.length c0_2)] 28 (0, 0))) ∧ Aside0 (wc.heap[gb271]? = some (.cells #[.int .i64 0, (.slice none 0 0), (.slice none 0 0)] 28 (0, 0))) ∧ Aside0 (Below w.heap.size w wc))
 case first =>
  have H := HC4.out
  clear HC4
  replace H := Option.bind_eq_some_iff.mp H
  obtain ⟨t273, A100, H⟩ := H
  replace H : (if t273 = true then (impl_GiveBlock.j0 k t272 (decide (t272 < 0)) a0_0 l0_1 l0_2) else (impl_GiveBlock.j0 k t272 true a0_0 l0_1 l0_2)) = some (r1, r2, r3, r4) := H
  have A10 := aM A100
  clear A100
  by_cases c11 : t273 = true
  ·subst c11
   have H1 : (impl_GiveBlock.j0 k t272 (decide (t272 < 0)) a0_0 l0_1 l0_2) = some (r1, r2, r3, r4) := by rw [if_pos rfl] at H; exact H
   clear H
   have H := H1
   clear H1
   have H' := aM H
   clear H
   have hnb12 := NB270_271.out
   have hnc12 := NB271_270.out
   have hcz13_0 : w9.cell? ⟨gb270, 0, none⟩ = some (.int .i64 a0_0) := yc BK270.out 0
   have hcz13_1 : w9.cell? ⟨gb270, 1, none⟩ = some (.slice A0_1 l0_1.length c0_1) := yc BK270.out 1
   have hcz13_2 : w9.cell? ⟨gb270, 2, none⟩ = some (.slice A0_2 l0_2.length c0_2) := yc BK270.out 2
   have hfz13_0 := yZ BK270.out 0
   have hfz13_1 := yZ BK270.out 1
   have hfz13_2 := yZ BK270.out 2
   go_wp2_with (first | ((with_reducible refine gate_callee (f := 19) rfl ?_); refine goesL_ (some 14) rfl rfl Try.func19 (by kernel_rfl) rfl #[.agg #[.int .i64 a0_0, .slice A0_1 l0_1.length c0_1, .slice A0_2 l0_2.length c0_2]] rfl (by (try simp only [List.map_toArray, List.map_cons, List.map_nil]); first | done | rfl | (simp only [List.length_drop, List.length_take]; rfl)) ?_; (with_reducible refine (impl_GoodBuddy.calls k a0_0 _ _ l0_1 _ _ l0_2 true _ ?side1 ?side2 ?side3 ?side4 A10.out).mono ?_); (case side1 => exact cK HR0_1.out HB.out); (case side2 => exact HC0_1.out); (case side3 => exact cK HR0_2.out HB.out); (case side4 => exact HC0_2.out); rintro e w14 ⟨rfl, hb⟩; refine ⟨_, rfl, ?_⟩; replace BK270 := yK BK270.out hb; replace BK271 := yK BK271.out hb; replace HB := aM (zT (zH HB.out) hb); (try clear hb)))
   go_meet
   case rel => exact ⟨_, (decide (t272 < 0)), (by first | rfl | (simp; done) | (simp [*]; done)), H', ⟨by first | omega | exact Nat.le_refl _⟩, ⟨yH BK270.out⟩, ⟨yH BK271.out⟩, ⟨zH HB.out⟩⟩
  ·replace c11 := Bool.eq_false_iff.mpr c11
   subst c11
   have H1 : (impl_GiveBlock.j0 k t272 true a0_0 l0_1 l0_2) = some (r1, r2, r3, r4) := by rw [if_neg (show ¬ (false = true) by decide)] at H; exact H
   clear H
   have H := H1
   clear H1
   have H' := aM H
   clear H
   have hnb15 := NB270_271.out
   have hnc15 := NB271_270.out
   have hcz16_0 : w9.cell? ⟨gb270, 0, none⟩ = some (.int .i64 a0_0) := yc BK270.out 0
   have hcz16_1 : w9.cell? ⟨gb270, 1, none⟩ = some (.slice A0_1 l0_1.length c0_1) := yc BK270.out 1
   have hcz16_2 : w9.cell? ⟨gb270, 2, none⟩ = some (.slice A0_2 l0_2.length c0_2) := yc BK270.out 2
   have hfz16_0 := yZ BK270.out 0
   have hfz16_1 := yZ BK270.out 1
   have hfz16_2 := yZ BK270.out 2
   go_wp2_with (first | ((with_reducible refine gate_callee (f := 19) rfl ?_); refine goesL_ (some 14) rfl rfl Try.func19 (by kernel_rfl) rfl #[.agg #[.int .i64 a0_0, .slice A0_1 l0_1.length c0_1, .slice A0_2 l0_2.length c0_2]] rfl (by (try simp only [List.map_toArray, List.map_cons, List.map_nil]); first | done | rfl | (simp only [List.length_drop, List.length_take]; rfl)) ?_; (with_reducible refine (impl_GoodBuddy.calls k a0_0 _ _ l0_1 _ _ l0_2 false _ ?side1 ?side2 ?side3 ?side4 A10.out).mono ?_); (case side1 => exact cK HR0_1.out HB.out); (case side2 => exact HC0_1.out); (case side3 => exact cK HR0_2.out HB.out); (case side4 => exact HC0_2.out); rintro e w17 ⟨rfl, hb⟩; refine ⟨_, rfl, ?_⟩; replace BK270 := yK BK270.out hb; replace BK271 := yK BK271.out hb; replace HB := aM (zT (zH HB.out) hb); (try clear hb)))
   go_meet
   case rel => exact ⟨_, (true), (by first | rfl | (simp; done) | (simp [*]; done)), H', ⟨by first | omega | exact Nat.le_refl _⟩, ⟨yH BK270.out⟩, ⟨yH BK271.out⟩, ⟨zH HB.out⟩⟩
 case rest =>
  clear HC4
  (try clear c1); (try clear p2); (try clear c3); (try clear c7); (try clear c11); (try clear c12); (try clear c15); (try clear hcz13_0); (try clear hcz13_1); (try clear hcz13_2); (try clear hcz16_0); (try clear hcz16_1); (try clear hcz16_2); (try clear hcz8_0); (try clear hcz8_1); (try clear hcz8_2); (try clear hfz13_0); (try clear hfz13_1); (try clear hfz13_2); (try clear hfz16_0); (try clear hfz16_1); (try clear hfz16_2); (try clear hfz8_0); (try clear hfz8_1); (try clear hfz8_2)
  obtain ⟨kq, x19_3, rfl, HA, HJ3, BK270, BK271, HB⟩ := hcut
  cases kq with
  | zero => exact absurd HA.out (fun h_ => by change none = some _ at h_; cases h_)
  | succ kj3 =>
   have H := HA.out
   clear HA
   simp only [impl_GiveBlock.j0] at H
   by_cases c18 : x19_3 = true
   ·subst c18
    have H1 : (some (0, ([] : List (S45)), ([] : List (S45)), false)) = some (r1, r2, r3, r4) := by rw [if_pos rfl] at H; exact H
    clear H
    have H := H1
    clear H1
    simp only [Option.some.injEq, Prod.mk.injEq] at H
    obtain ⟨rfl, rfl, rfl, rfl⟩ := H
    have hnb19 := NB271_270.out
    have hnc19 := NB270_271.out
    have hcz20_0 : wc.cell? ⟨gb271, 0, none⟩ = some (.int .i64 0) := yc BK271.out 0
    have hcz20_1 : wc.cell? ⟨gb271, 1, none⟩ = some (.slice none 0 0) := yc BK271.out 1
    have hcz20_2 : wc.cell? ⟨gb271, 2, none⟩ = some (.slice none 0 0) := yc BK271.out 2
    have hfz20_0 := yZ BK271.out 0
    have hfz20_1 := yZ BK271.out 1
    have hfz20_2 := yZ BK271.out 2
    go_wp2
    refine bodyPost_ret (results_ct rfl _ _ gb271 28 #[.int .i64 0, .slice none 0 0, .slice none 0 0] (0, 0) _ rfl (by (with_reducible repeat (first | refine yN ?_ _ | refine yD ?_ | refine yA ?_ _)); refine yP (cs := #[.int .i64 0, .slice none 0 0, .slice none 0 0]) ?_ 2 _ rfl; (with_reducible repeat (first | refine yN ?_ _ | refine yD ?_ | refine yA ?_ _)); refine yP (cs := #[.int .i64 0, .slice none 0 0, .slice none 0 0]) ?_ 1 _ rfl; (with_reducible repeat (first | refine yN ?_ _ | refine yD ?_ | refine yA ?_ _)); refine yP (cs := #[.int .i64 0, .slice none 0 0, .slice none 0 0]) ?_ 0 _ rfl; (with_reducible repeat (first | refine yN ?_ _ | refine yD ?_ | refine yA ?_ _)); exact BK271.out) Try.underlying28 rfl (by kernel_rfl)) rfl ?_
    exact ⟨_, _, by first | rfl | (simp [errW_none, errW_some] <;> rfl) | (simp [*, errW_none, errW_some] <;> rfl), by first | exact Kd.R_nil _ _ _ _ _ | exact Kd.N_nil _ _ _ _ _ | exact Kd.V_nil _ _ _ _ _ | exact Kd.Q_nil _ _ _ _ _ | exact Kd.S_nil _ _ _ _ _, by first | exact Kd.R_nil _ _ _ _ _ | exact Kd.N_nil _ _ _ _ _ | exact Kd.V_nil _ _ _ _ _ | exact Kd.Q_nil _ _ _ _ _ | exact Kd.S_nil _ _ _ _ _, zH HB.out⟩
   ·replace c18 := Bool.eq_false_iff.mpr c18
    subst c18
    have H1 : (if 0 ≤ t272 then (if t272 < (l0_2.length : Int) then ((impl_Block_35.f l0_1).bind fun t276 => ((impl_lacking.f l0_2 ((rd_T45 l0_2 t272).f0) ((rd_T45 l0_2 t272).f1)).bind fun t279 => (impl_GiveBlock.l0 kj3 ((rd_T45 l0_2 t272).f0) ((rd_T45 l0_2 t272).f1) a0_0 t276 t279))) else (none)) else (none)) = some (r1, r2, r3, r4) := by rw [if_neg (show ¬ (false = true) by decide)] at H; exact H
    clear H
    have H := H1
    clear H1
    by_cases c21 : 0 ≤ t272
    ·rw [if_pos c21] at H
     have c21b0 : decide (0 ≤ t272) = true := decide_eq_true c21
     clear c21
     by_cases c22 : t272 < (l0_2.length : Int)
     ·rw [if_pos c22] at H
      have c22b0 : decide (t272 < (l0_2.length : Int)) = true := decide_eq_true c22
      clear c22
      replace H := Option.bind_eq_some_iff.mp H
      obtain ⟨t276, A230, H⟩ := H
      replace H : ((impl_lacking.f l0_2 ((rd_T45 l0_2 t272).f0) ((rd_T45 l0_2 t272).f1)).bind fun t279 => (impl_GiveBlock.l0 kj3 ((rd_T45 l0_2 t272).f0) ((rd_T45 l0_2 t272).f1) a0_0 t276 t279)) = some (r1, r2, r3, r4) := H
      have A23 := aM A230
      clear A230
      replace H := Option.bind_eq_some_iff.mp H
      obtain ⟨t279, A240, H⟩ := H
      replace H : (impl_GiveBlock.l0 kj3 ((rd_T45 l0_2 t272).f0) ((rd_T45 l0_2 t272).f1) a0_0 t276 t279) = some (r1, r2, r3, r4) := H
      have A24 := aM A240
      clear A240
      have H' := aM H
      clear H
      have hnb25 := NB270_271.out
      have hnc25 := NB271_270.out
      have hcz26_0 : wc.cell? ⟨gb270, 0, none⟩ = some (.int .i64 a0_0) := yc BK270.out 0
      have hcz26_1 : wc.cell? ⟨gb270, 1, none⟩ = some (.slice A0_1 l0_1.length c0_1) := yc BK270.out 1
      have hcz26_2 : wc.cell? ⟨gb270, 2, none⟩ = some (.slice A0_2 l0_2.length c0_2) := yc BK270.out 2
      have hfz26_0 := yZ BK270.out 0
      have hfz26_1 := yZ BK270.out 1
      have hfz26_2 := yZ BK270.out 2
      have p274 : 0 ≤ (t272 : Int) := of_decide_eq_true (by first | (with_reducible assumption) | assumption)
      have q274 : t272 < (l0_2.length : Int) := of_decide_eq_true (by first | (with_reducible assumption) | assumption)
      obtain ⟨ad274, e274, hx274_0, hx274_1⟩ := at_T45 HR0_2.out t272 p274 q274
      cases e274
      replace hx274_0 := (HB.out.cell (World.block_lt_of_cell? w _ hx274_0)).trans hx274_0
      replace hx274_1 := (HB.out.cell (World.block_lt_of_cell? w _ hx274_1)).trans hx274_1
      replace p274 := eq_true p274
      replace q274 := eq_true q274
      try go_wp2_with (first | ((with_reducible refine gate_dst (N := 7) rfl ?_); refine box_event ?hg (N := 7) ?hd (cs := #[.int .i64 0, .int .i64 0]) (t := 45) ?hr ?_; (case hd => rfl); (case hg => rfl); (case hr => first | (go_simp; done) | (go_simp; rfl)); intro gb275 hg w27 hbox hb; have BK275 := aM (hbox); have GW275 := aM ((by rw [hg]; exact (zZ (zH HB.out)) : w.heap.size ≤ gb275)); have GE275 := aM ((by rw [hg]; exact (zZ (zH HB.out)) : w.heap.size ≤ gb275)); replace HB := aM (zT (zH HB.out) hb); have NB270_275 := nL BK270.out hg; have NB275_270 := nR BK270.out hg; replace BK270 := yK BK270.out hb; have NB271_275 := nL BK271.out hg; have NB275_271 := nR BK271.out hg; replace BK271 := yK BK271.out hb; clear hb hbox hg; have hnb28 := NB275_270.out; have hnc28 := NB270_275.out; have hnb29 := NB275_271.out; have hnc29 := NB271_275.out; have hcz30_0 : w27.cell? ⟨gb275, 0, none⟩ = some (.int .i64 0) := yc BK275.out 0; have hcz30_1 : w27.cell? ⟨gb275, 1, none⟩ = some (.int .i64 0) := yc BK275.out 1; have hfz30_0 := yZ BK275.out 0; have hfz30_1 := yZ BK275.out 1))
      have n0_ : Aside0 (((w27.setCell ⟨gb275, 0, none⟩ (.int .i64 ((rd_T45 l0_2 t272).f0))).setCell ⟨gb275, 1, none⟩ (.int .i64 ((rd_T45 l0_2 t272).f1))).heap[gb270]? = some (.cells #[.int .i64 a0_0, .slice A0_1 l0_1.length c0_1, .slice (some ad274) l0_2.length c0_2] 28 (0, 0))) := ⟨by (with_reducible repeat (first | refine yN ?_ _ | refine yD ?_ | refine yA ?_ _)); refine yF ?_ NB270_275.out _; (with_reducible repeat (first | refine yN ?_ _ | refine yD ?_ | refine yA ?_ _)); refine yF ?_ NB270_275.out _; (with_reducible repeat (first | refine yN ?_ _ | refine yD ?_ | refine yA ?_ _)); exact BK270.out⟩
      have n1_ : Aside0 (((w27.setCell ⟨gb275, 0, none⟩ (.int .i64 ((rd_T45 l0_2 t272).f0))).setCell ⟨gb275, 1, none⟩ (.int .i64 ((rd_T45 l0_2 t272).f1))).heap[gb271]? = some (.cells #[.int .i64 0, .slice none 0 0, .slice none 0 0] 28 (0, 0))) := ⟨by (with_reducible repeat (first | refine yN ?_ _ | refine yD ?_ | refine yA ?_ _)); refine yF ?_ NB271_275.out _; (with_reducible repeat (first | refine yN ?_ _ | refine yD ?_ | refine yA ?_ _)); refine yF ?_ NB271_275.out _; (with_reducible repeat (first | refine yN ?_ _ | refine yD ?_ | refine yA ?_ _)); exact BK271.out⟩
      have n2_ : Aside0 (((w27.setCell ⟨gb275, 0, none⟩ (.int .i64 ((rd_T45 l0_2 t272).f0))).setCell ⟨gb275, 1, none⟩ (.int .i64 ((rd_T45 l0_2 t272).f1))).heap[gb275]? = some (.cells #[.int .i64 ((rd_T45 l0_2 t272).f0), .int .i64 ((rd_T45 l0_2 t272).f1)] 45 (0, 0))) := ⟨by (with_reducible repeat (first | refine yN ?_ _ | refine yD ?_ | refine yA ?_ _)); refine yP (cs := #[.int .i64 ((rd_T45 l0_2 t272).f0), .int .i64 0]) ?_ 1 _ rfl; (with_reducible repeat (first | refine yN ?_ _ | refine yD ?_ | refine yA ?_ _)); refine yP (cs := #[.int .i64 0, .int .i64 0]) ?_ 0 _ rfl; (with_reducible repeat (first | refine yN ?_ _ | refine yD ?_ | refine yA ?_ _)); exact BK275.out⟩
      have n3_ : Aside0 (Below w.heap.size w ((w27.setCell ⟨gb275, 0, none⟩ (.int .i64 ((rd_T45 l0_2 t272).f0))).setCell ⟨gb275, 1, none⟩ (.int .i64 ((rd_T45 l0_2 t272).f1)))) := ⟨zH HB.out⟩
      (try clear BK270); (try clear BK271); (try clear BK275); (try clear HB)
      generalize ((w27.setCell ⟨gb275, 0, none⟩ (.int .i64 ((rd_T45 l0_2 t272).f0))).setCell ⟨gb275, 1, none⟩ (.int .i64 ((rd_T45 l0_2 t272).f1))) = w31 at n0_ n1_ n2_ n3_ ⊢
      have BK270 := n0_
      have BK271 := n1_
      have BK275 := n2_
      have HB := n3_
      clear n0_ n1_ n2_ n3_
      replace BK270 := aM (yD BK270.out)
      replace BK271 := aM (yD BK271.out)
      replace BK275 := aM (yD BK275.out)
      replace HB := aM (zD HB.out)
      refine start_ (n := 12) (S := fun w' => w'.cell? ⟨gb270, 0, none⟩ = some (.int .i64 a0_0) ∧ w'.cell? ⟨gb270, 1, none⟩ = some (.slice A0_1 l0_1.length c0_1) ∧ w'.cell? ⟨gb270, 2, none⟩ = some (.slice (some ad274) l0_2.length c0_2) ∧ w'.cell? ⟨gb275, 0, none⟩ = some (.int .i64 ((rd_T45 l0_2 t272).f0)) ∧ w'.cell? ⟨gb275, 1, none⟩ = some (.int .i64 ((rd_T45 l0_2 t272).f1))) (ds := []) #[fF,fF,fF,fF,fF,fF,fF,fF,fF,fF,fF,fF] (by kernel_rfl) rfl rfl ⟨yc BK270.out 0, yc BK270.out 1, yc BK270.out 2, yc BK275.out 0, yc BK275.out 1⟩ (fun hHeld => ?_); refine with_tabW impl_GiveBlock.tab5 impl_GiveBlock.bits5 (fun HT_ HW_ => ?_)
      generalize w31.drew = w32 at BK270 BK271 BK275 HB hHeld ⊢
      refine pure_ (i := 0) (N := some 26) (v := ?_) (a' := ?_) #[tT,fF,fF,fF,fF,fF,fF,fF,fF,fF,fF,fF] rfl rfl (any_of HT_.out (by kernel_rfl)) (fun _ _ _ h => h) (Or.inl ⟨by rfl, ?_⟩) ?_ ?_
      rotate_left
      ·intro w'
       go_simp
       with_reducible rfl
      rotate_left
      ·simp only [Act.put, qA, qB, qC, i64_w, i32_w]
       rfl
      refine pure_ (i := 2) (N := some 28) (v := ?_) (a' := ?_) #[tT,fF,tT,fF,fF,fF,fF,fF,fF,fF,fF,fF] rfl rfl (any_of HT_.out (by kernel_rfl)) (fun _ _ _ h => h) (Or.inl ⟨by rfl, ?_⟩) ?_ ?_
      rotate_left
      ·intro w'
       go_simp
       with_reducible rfl
      rotate_left
      ·simp only [Act.put, qA, qB, qC, i64_w, i32_w]
       rfl
      refine pure_ (i := 5) (N := some 31) (v := ?_) (a' := ?_) #[tT,fF,tT,fF,fF,tT,fF,fF,fF,fF,fF,fF] rfl rfl (any_of HT_.out (by kernel_rfl)) (fun _ _ _ h => h) (Or.inl ⟨by rfl, ?_⟩) ?_ ?_
      rotate_left
      ·intro w'
       go_simp
       with_reducible rfl
      rotate_left
      ·simp only [Act.put, qA, qB, qC, i64_w, i32_w]
       rfl
      refine take_ (i := 1) (N := some 27) (v := ?_) (a' := ?_) #[tT,tT,tT,fF,fF,tT,fF,fF,fF,fF,fF,fF] rfl rfl (take_ofW HT_.out HW_.out (by kernel_rfl)) (fun _ _ _ h => h) (Or.inl ⟨by rfl, ?_⟩) hHeld ?_ ?_
      rotate_left
      ·rintro w' ⟨s0, s1, s2, s3, s4⟩
       go_simp
       with_reducible rfl
      rotate_left
      ·simp only [Act.put, qA, qB, qC, i64_w, i32_w]
       rfl
      refine take_ (i := 3) (N := some 29) (v := ?_) (a' := ?_) #[tT,tT,tT,tT,fF,tT,fF,fF,fF,fF,fF,fF] rfl rfl (take_ofW HT_.out HW_.out (by kernel_rfl)) (fun _ _ _ h => h) (Or.inl ⟨by rfl, ?_⟩) hHeld ?_ ?_
      rotate_left
      ·rintro w' ⟨s0, s1, s2, s3, s4⟩
       go_simp
       with_reducible rfl
      rotate_left
      ·simp only [Act.put, qA, qB, qC, i64_w, i32_w]
       rfl
      refine take_ (i := 6) (N := some 32) (v := ?_) (a' := ?_) #[tT,tT,tT,tT,fF,tT,tT,fF,fF,fF,fF,fF] rfl rfl (take_ofW HT_.out HW_.out (by kernel_rfl)) (fun _ _ _ h => h) (Or.inl ⟨by rfl, ?_⟩) hHeld ?_ ?_
      rotate_left
      ·rintro w' ⟨s0, s1, s2, s3, s4⟩
       go_simp
       with_reducible rfl
      rotate_left
      ·simp only [Act.put, qA, qB, qC, i64_w, i32_w]
       rfl
      refine take_ (i := 7) (N := some 33) (v := ?_) (a' := ?_) #[tT,tT,tT,tT,fF,tT,tT,tT,fF,fF,fF,fF] rfl rfl (take_ofW HT_.out HW_.out (by kernel_rfl)) (fun _ _ _ h => h) (Or.inl ⟨by rfl, ?_⟩) hHeld ?_ ?_
      rotate_left
      ·rintro w' ⟨s0, s1, s2, s3, s4⟩
       go_simp
       with_reducible rfl
      rotate_left
      ·simp only [Act.put, qA, qB, qC, i64_w, i32_w]
       rfl
      refine join_ (σ := Value × Value × Nat) 1 #[tT,tT,tT,tT,tT,tT,tT,tT,tT,tT,tT,fF] (fun s_ => [(30, s_.1), (34, s_.2.1), (8, .pointer (some ⟨s_.2.2, 0, none⟩)), (35, .agg #[.int .i64 a0_0, s_.1, s_.2.1])]) (fun s_ w' => (w'.cell? ⟨gb270, 0, none⟩ = some (.int .i64 a0_0) ∧ w'.cell? ⟨gb270, 1, none⟩ = some (.slice A0_1 l0_1.length c0_1) ∧ w'.cell? ⟨gb270, 2, none⟩ = some (.slice (some ad274) l0_2.length c0_2) ∧ w'.cell? ⟨gb275, 0, none⟩ = some (.int .i64 ((rd_T45 l0_2 t272).f0)) ∧ w'.cell? ⟨gb275, 1, none⟩ = some (.int .i64 ((rd_T45 l0_2 t272).f1))) ∧ (Kd.R k45 45 w' w.heap.size (fun k_ => some k_ ≠ (s_.2.1 : Value).ownBlock ∧ k_ ≠ gb275) s_.1 t276) ∧ (Kd.R k45 45 w' w.heap.size (fun k_ => some k_ ≠ (s_.1 : Value).ownBlock ∧ k_ ≠ gb275) s_.2.1 t279) ∧ (w'.heap[gb270]? = some (.cells #[.int .i64 a0_0, .slice A0_1 l0_1.length c0_1, .slice (some ad274) l0_2.length c0_2] 28 (0, 0))) ∧ (w'.heap[gb271]? = some (.cells #[.int .i64 0, .slice none 0 0, .slice none 0 0] 28 (0, 0))) ∧ (w'.heap[gb275]? = some (.cells #[.int .i64 ((rd_T45 l0_2 t272).f0), .int .i64 ((rd_T45 l0_2 t272).f1)] 45 (0, 0))) ∧ (w'.heap[s_.2.2]? = some (.cells #[.int .i64 0, .slice none 0 0, .slice none 0 0] 28 (0, 0))) ∧ (w.heap.size ≤ s_.2.2) ∧ (w.heap.size ≤ s_.2.2) ∧ (gb270 ≠ s_.2.2) ∧ (s_.2.2 ≠ gb270) ∧ (gb271 ≠ s_.2.2) ∧ (s_.2.2 ≠ gb271) ∧ (gb275 ≠ s_.2.2) ∧ (s_.2.2 ≠ gb275) ∧ (Below w.heap.size w w')) ?_ ?_
      rotate_left
      ·intro hCont
       refine two_ (i := 4) (j := 10) (Ni := some 30) (Nj := some 8) #[tT,tT,tT,tT,tT,tT,tT,tT,fF,fF,fF,fF] #[tT,tT,tT,tT,fF,tT,tT,tT,fF,fF,tT,fF] rfl rfl rfl rfl (two_of HT_.out (by kernel_rfl)) (by decide) (by decide) (fun K hK => ?_) (fun K hK => ?_)
       ·skip
        refine gS Try.func35 (by kernel_rfl) rfl #[.slice A0_1 l0_1.length c0_1] (by rfl) rfl rfl ?_
        with_reducible refine (impl_Block_35.calls _ _ l0_1 t276 _ ?side1 ?side2 A23.out).mono ?_
        (case side1 => exact cK HR0_1.out HB.out)
        (case side2 => exact HC0_1.out)
        rintro e w33 ⟨v277, rfl, ho0, hb⟩
        refine ⟨_, rfl, ?_⟩
        have HO278 := aM (xL (Kd.R_newB ho0 (g := gb275) (o := .cells #[.int .i64 ((rd_T45 l0_2 t272).f0), .int .i64 ((rd_T45 l0_2 t272).f1)] 45 (0, 0)) (yH BK275.out)) (zZ (zH HB.out)))
        replace BK270 := yK BK270.out hb
        replace BK271 := yK BK271.out hb
        replace BK275 := yK BK275.out hb
        replace HB := aM (zT (zH HB.out) hb)
        (try clear hb); (try clear ho0)
        refine hK.out _ _ ⟨yc BK270.out 0, yc BK270.out 1, yc BK270.out 2, yc BK275.out 0, yc BK275.out 1⟩ (fun hHeld => ?_)
        clear hK K
        refine norm_ (a' := ?_) ?_ ?_
        rotate_left
        ·show Act.put _ (some 30) _ = _
         simp only [Act.put, qA, qB, qC, i64_w, i32_w]
         rfl
        refine two_ (i := 8) (j := 10) (Ni := some 34) (Nj := some 8) #[tT,tT,tT,tT,tT,tT,tT,tT,tT,fF,fF,fF] #[tT,tT,tT,tT,tT,tT,tT,tT,fF,fF,tT,fF] rfl rfl rfl rfl (two_of HT_.out (by kernel_rfl)) (by decide) (by decide) (fun K hK => ?_) (fun K hK => ?_)
        ·skip
         refine gS Try.func36 (by kernel_rfl) rfl #[.slice (some ad274) l0_2.length c0_2, .agg #[.int .i64 ((rd_T45 l0_2 t272).f0), .int .i64 ((rd_T45 l0_2 t272).f1)]] (by rfl) rfl rfl ?_
         with_reducible refine (impl_lacking.calls _ _ l0_2 ((rd_T45 l0_2 t272).f0) ((rd_T45 l0_2 t272).f1) t279 _ ?side1 ?side2 A24.out).mono ?_
         (case side1 => exact cK HR0_2.out HB.out)
         (case side2 => exact HC0_2.out)
         rintro e w34 ⟨v280, rfl, ho0, hb⟩
         refine ⟨_, rfl, ?_⟩
         have HO281 := aM (xL (Kd.R_newB (Kd.R_new' ho0 (Kd.R_lt (xH HO278.out))) (g := gb275) (o := .cells #[.int .i64 ((rd_T45 l0_2 t272).f0), .int .i64 ((rd_T45 l0_2 t272).f1)] 45 (0, 0)) (yH BK275.out)) (zZ (zH HB.out)))
         replace HO278 := aM (Kd.R_elder' (xH HO278.out) (Kd.R_base ho0) hb)
         replace BK270 := yK BK270.out hb
         replace BK271 := yK BK271.out hb
         replace BK275 := yK BK275.out hb
         replace HB := aM (zT (zH HB.out) hb)
         (try clear hb); (try clear ho0)
         obtain ⟨Ao35, co35, eo35⟩ := Kd.R_slice HO281.out
         (first | subst eo35 | obtain ⟨rfl, rfl⟩ := eI eo35)
         obtain ⟨Ao36, co36, eo36⟩ := Kd.R_slice HO278.out
         (first | subst eo36 | obtain ⟨rfl, rfl⟩ := eI eo36)
         refine hK.out _ _ ⟨yc BK270.out 0, yc BK270.out 1, yc BK270.out 2, yc BK275.out 0, yc BK275.out 1⟩ (fun hHeld => ?_)
         clear hK K
         refine norm_ (a' := ?_) ?_ ?_
         rotate_left
         ·show Act.put _ (some 34) _ = _
          simp only [Act.put, qA, qB, qC, i64_w, i32_w]
          rfl
         refine pure_ (i := 9) (N := some 35) (v := ?_) (a' := ?_) #[tT,tT,tT,tT,tT,tT,tT,tT,tT,tT,fF,fF] rfl rfl (any_of HT_.out (by kernel_rfl)) (fun _ _ _ h => h) (Or.inl ⟨by rfl, ?_⟩) ?_ ?_
         rotate_left
         ·intro w'
          go_simp
          with_reducible rfl
         rotate_left
         ·simp only [Act.put, qA, qB, qC, i64_w, i32_w]
          rfl
         refine one_ (i := 10) (N := some 8) #[tT,tT,tT,tT,tT,tT,tT,tT,tT,tT,tT,fF] rfl rfl (one_of HT_.out (by kernel_rfl)) (by decide) (fun K hK => ?_)
         refine box_step ?hg (N := 8) ?hd (cs := #[.int .i64 0, .slice none 0 0, .slice none 0 0]) (t := 28) ?hr ?_; (case hd => rfl); (case hg => rfl); (case hr => first | (go_simp; done) | (go_simp; rfl))
         intro gb282 hg w37 hbox hb
         replace HO278 := xK HO278.out hb
         replace HO281 := xK HO281.out hb
         have BK282 := aM (hbox)
         have GW282 := aM ((by rw [hg]; exact (zZ (zH HB.out)) : w.heap.size ≤ gb282))
         have GE282 := aM ((by rw [hg]; exact (zZ (zH HB.out)) : w.heap.size ≤ gb282))
         replace HB := aM (zT (zH HB.out) hb)
         have NB270_282 := nL BK270.out hg
         have NB282_270 := nR BK270.out hg
         replace BK270 := yK BK270.out hb
         have NB271_282 := nL BK271.out hg
         have NB282_271 := nR BK271.out hg
         replace BK271 := yK BK271.out hb
         have NB275_282 := nL BK275.out hg
         have NB282_275 := nR BK275.out hg
         replace BK275 := yK BK275.out hb
         clear hb hbox hg
         refine hK.out _ _ ⟨yc BK270.out 0, yc BK270.out 1, yc BK270.out 2, yc BK275.out 0, yc BK275.out 1⟩ (fun hHeld => ?_)
         clear hK K
         refine norm_ (a' := ?_) ?_ ?_
         rotate_left
         ·show Act.put _ (some 8) _ = _
          simp only [Act.put, qA, qB, qC, i64_w, i32_w]
          rfl
         exact norm_ (by simp only [putAll, Act.put, qA, qB, qC]) (hCont (.slice Ao36 t276.length co36, .slice Ao35 t279.length co35, gb282) _ ⟨hHeld, (xH (xM HO278.out (fun _ hk => ⟨hk.2, hk.1.2⟩))), (xH (xM HO281.out (fun _ hk => ⟨hk.1.2, hk.2⟩))), (yH BK270.out), (yH BK271.out), (yH BK275.out), (yH BK282.out), GW282.out, GE282.out, NB270_282.out, NB282_270.out, NB271_282.out, NB282_271.out, NB275_282.out, NB282_275.out, (zH HB.out)⟩)
        ·skip
         refine box_step ?hg (N := 8) ?hd (cs := #[.int .i64 0, .slice none 0 0, .slice none 0 0]) (t := 28) ?hr ?_; (case hd => rfl); (case hg => rfl); (case hr => first | (go_simp; done) | (go_simp; rfl))
         intro gb282 hg w34 hbox hb
         replace HO278 := xK HO278.out hb
         have BK282 := aM (hbox)
         have GW282 := aM ((by rw [hg]; exact (zZ (zH HB.out)) : w.heap.size ≤ gb282))
         have GE282 := aM ((by rw [hg]; exact (zZ (zH HB.out)) : w.heap.size ≤ gb282))
         replace HB := aM (zT (zH HB.out) hb)
         have NB270_282 := nL BK270.out hg
         have NB282_270 := nR BK270.out hg
         replace BK270 := yK BK270.out hb
         have NB271_282 := nL BK271.out hg
         have NB282_271 := nR BK271.out hg
         replace BK271 := yK BK271.out hb
         have NB275_282 := nL BK275.out hg
         have NB282_275 := nR BK275.out hg
         replace BK275 := yK BK275.out hb
         clear hb hbox hg
         refine hK.out _ _ ⟨yc BK270.out 0, yc BK270.out 1, yc BK270.out 2, yc BK275.out 0, yc BK275.out 1⟩ (fun hHeld => ?_)
         clear hK K
         refine norm_ (a' := ?_) ?_ ?_
         rotate_left
         ·show Act.put _ (some 8) _ = _
          simp only [Act.put, qA, qB, qC, i64_w, i32_w]
          rfl
         refine one_ (i := 8) (N := some 34) #[tT,tT,tT,tT,tT,tT,tT,tT,tT,fF,tT,fF] rfl rfl (one_of HT_.out (by kernel_rfl)) (by decide) (fun K hK => ?_)
         refine gS Try.func36 (by kernel_rfl) rfl #[.slice (some ad274) l0_2.length c0_2, .agg #[.int .i64 ((rd_T45 l0_2 t272).f0), .int .i64 ((rd_T45 l0_2 t272).f1)]] (by rfl) rfl rfl ?_
         with_reducible refine (impl_lacking.calls _ _ l0_2 ((rd_T45 l0_2 t272).f0) ((rd_T45 l0_2 t272).f1) t279 _ ?side1 ?side2 A24.out).mono ?_
         (case side1 => exact cK HR0_2.out HB.out)
         (case side2 => exact HC0_2.out)
         rintro e w35 ⟨v280, rfl, ho0, hb⟩
         refine ⟨_, rfl, ?_⟩
         have HO281 := aM (xL (Kd.R_newB (Kd.R_new' ho0 (Kd.R_lt (xH HO278.out))) (g := gb275) (o := .cells #[.int .i64 ((rd_T45 l0_2 t272).f0), .int .i64 ((rd_T45 l0_2 t272).f1)] 45 (0, 0)) (yH BK275.out)) (zZ (zH HB.out)))
         replace HO278 := aM (Kd.R_elder' (xH HO278.out) (Kd.R_base ho0) hb)
         replace BK270 := yK BK270.out hb
         replace BK271 := yK BK271.out hb
         replace BK275 := yK BK275.out hb
         replace BK282 := yK BK282.out hb
         replace HB := aM (zT (zH HB.out) hb)
         (try clear hb); (try clear ho0)
         obtain ⟨Ao36, co36, eo36⟩ := Kd.R_slice HO281.out
         (first | subst eo36 | obtain ⟨rfl, rfl⟩ := eI eo36)
         obtain ⟨Ao37, co37, eo37⟩ := Kd.R_slice HO278.out
         (first | subst eo37 | obtain ⟨rfl, rfl⟩ := eI eo37)
         refine hK.out _ _ ⟨yc BK270.out 0, yc BK270.out 1, yc BK270.out 2, yc BK275.out 0, yc BK275.out 1⟩ (fun hHeld => ?_)
         clear hK K
         refine norm_ (a' := ?_) ?_ ?_
         rotate_left
         ·show Act.put _ (some 34) _ = _
          simp only [Act.put, qA, qB, qC, i64_w, i32_w]
          rfl
         refine pure_ (i := 9) (N := some 35) (v := ?_) (a' := ?_) #[tT,tT,tT,tT,tT,tT,tT,tT,tT,tT,tT,fF] rfl rfl (any_of HT_.out (by kernel_rfl)) (fun _ _ _ h => h) (Or.inl ⟨by rfl, ?_⟩) ?_ ?_
         rotate_left
         ·intro w'
          go_simp
          with_reducible rfl
         rotate_left
         ·simp only [Act.put, qA, qB, qC, i64_w, i32_w]
          rfl
         exact norm_ (by simp only [putAll, Act.put, qA, qB, qC]) (hCont (.slice Ao37 t276.length co37, .slice Ao36 t279.length co36, gb282) _ ⟨hHeld, (xH (xM HO278.out (fun _ hk => ⟨hk.2, hk.1.2⟩))), (xH (xM HO281.out (fun _ hk => ⟨hk.1.2, hk.2⟩))), (yH BK270.out), (yH BK271.out), (yH BK275.out), (yH BK282.out), GW282.out, GE282.out, NB270_282.out, NB282_270.out, NB271_282.out, NB282_271.out, NB275_282.out, NB282_275.out, (zH HB.out)⟩)
       ·skip
        refine box_step ?hg (N := 8) ?hd (cs := #[.int .i64 0, .slice none 0 0, .slice none 0 0]) (t := 28) ?hr ?_; (case hd => rfl); (case hg => rfl); (case hr => first | (go_simp; done) | (go_simp; rfl))
        intro gb282 hg w33 hbox hb
        have BK282 := aM (hbox)
        have GW282 := aM ((by rw [hg]; exact (zZ (zH HB.out)) : w.heap.size ≤ gb282))
        have GE282 := aM ((by rw [hg]; exact (zZ (zH HB.out)) : w.heap.size ≤ gb282))
        replace HB := aM (zT (zH HB.out) hb)
        have NB270_282 := nL BK270.out hg
        have NB282_270 := nR BK270.out hg
        replace BK270 := yK BK270.out hb
        have NB271_282 := nL BK271.out hg
        have NB282_271 := nR BK271.out hg
        replace BK271 := yK BK271.out hb
        have NB275_282 := nL BK275.out hg
        have NB282_275 := nR BK275.out hg
        replace BK275 := yK BK275.out hb
        clear hb hbox hg
        refine hK.out _ _ ⟨yc BK270.out 0, yc BK270.out 1, yc BK270.out 2, yc BK275.out 0, yc BK275.out 1⟩ (fun hHeld => ?_)
        clear hK K
        refine norm_ (a' := ?_) ?_ ?_
        rotate_left
        ·show Act.put _ (some 8) _ = _
         simp only [Act.put, qA, qB, qC, i64_w, i32_w]
         rfl
        refine one_ (i := 4) (N := some 30) #[tT,tT,tT,tT,tT,tT,tT,tT,fF,fF,tT,fF] rfl rfl (one_of HT_.out (by kernel_rfl)) (by decide) (fun K hK => ?_)
        refine gS Try.func35 (by kernel_rfl) rfl #[.slice A0_1 l0_1.length c0_1] (by rfl) rfl rfl ?_
        with_reducible refine (impl_Block_35.calls _ _ l0_1 t276 _ ?side1 ?side2 A23.out).mono ?_
        (case side1 => exact cK HR0_1.out HB.out)
        (case side2 => exact HC0_1.out)
        rintro e w34 ⟨v277, rfl, ho0, hb⟩
        refine ⟨_, rfl, ?_⟩
        have HO278 := aM (xL (Kd.R_newB ho0 (g := gb275) (o := .cells #[.int .i64 ((rd_T45 l0_2 t272).f0), .int .i64 ((rd_T45 l0_2 t272).f1)] 45 (0, 0)) (yH BK275.out)) (zZ (zH HB.out)))
        replace BK270 := yK BK270.out hb
        replace BK271 := yK BK271.out hb
        replace BK275 := yK BK275.out hb
        replace BK282 := yK BK282.out hb
        replace HB := aM (zT (zH HB.out) hb)
        (try clear hb); (try clear ho0)
        refine hK.out _ _ ⟨yc BK270.out 0, yc BK270.out 1, yc BK270.out 2, yc BK275.out 0, yc BK275.out 1⟩ (fun hHeld => ?_)
        clear hK K
        refine norm_ (a' := ?_) ?_ ?_
        rotate_left
        ·show Act.put _ (some 30) _ = _
         simp only [Act.put, qA, qB, qC, i64_w, i32_w]
         rfl
        refine one_ (i := 8) (N := some 34) #[tT,tT,tT,tT,tT,tT,tT,tT,tT,fF,tT,fF] rfl rfl (one_of HT_.out (by kernel_rfl)) (by decide) (fun K hK => ?_)
        refine gS Try.func36 (by kernel_rfl) rfl #[.slice (some ad274) l0_2.length c0_2, .agg #[.int .i64 ((rd_T45 l0_2 t272).f0), .int .i64 ((rd_T45 l0_2 t272).f1)]] (by rfl) rfl rfl ?_
        with_reducible refine (impl_lacking.calls _ _ l0_2 ((rd_T45 l0_2 t272).f0) ((rd_T45 l0_2 t272).f1) t279 _ ?side1 ?side2 A24.out).mono ?_
        (case side1 => exact cK HR0_2.out HB.out)
        (case side2 => exact HC0_2.out)
        rintro e w35 ⟨v280, rfl, ho0, hb⟩
        refine ⟨_, rfl, ?_⟩
        have HO281 := aM (xL (Kd.R_newB (Kd.R_new' ho0 (Kd.R_lt (xH HO278.out))) (g := gb275) (o := .cells #[.int .i64 ((rd_T45 l0_2 t272).f0), .int .i64 ((rd_T45 l0_2 t272).f1)] 45 (0, 0)) (yH BK275.out)) (zZ (zH HB.out)))
        replace HO278 := aM (Kd.R_elder' (xH HO278.out) (Kd.R_base ho0) hb)
        replace BK270 := yK BK270.out hb
        replace BK271 := yK BK271.out hb
        replace BK275 := yK BK275.out hb
        replace BK282 := yK BK282.out hb
        replace HB := aM (zT (zH HB.out) hb)
        (try clear hb); (try clear ho0)
        obtain ⟨Ao36, co36, eo36⟩ := Kd.R_slice HO281.out
        (first | subst eo36 | obtain ⟨rfl, rfl⟩ := eI eo36)
        obtain ⟨Ao37, co37, eo37⟩ := Kd.R_slice HO278.out
        (first | subst eo37 | obtain ⟨rfl, rfl⟩ := eI eo37)
        refine hK.out _ _ ⟨yc BK270.out 0, yc BK270.out 1, yc BK270.out 2, yc BK275.out 0, yc BK275.out 1⟩ (fun hHeld => ?_)
        clear hK K
        refine norm_ (a' := ?_) ?_ ?_
        rotate_left
        ·show Act.put _ (some 34) _ = _
         simp only [Act.put, qA, qB, qC, i64_w, i32_w]
         rfl
        refine pure_ (i := 9) (N := some 35) (v := ?_) (a' := ?_) #[tT,tT,tT,tT,tT,tT,tT,tT,tT,tT,tT,fF] rfl rfl (any_of HT_.out (by kernel_rfl)) (fun _ _ _ h => h) (Or.inl ⟨by rfl, ?_⟩) ?_ ?_
        rotate_left
        ·intro w'
         go_simp
         with_reducible rfl
        rotate_left
        ·simp only [Act.put, qA, qB, qC, i64_w, i32_w]
         rfl
        exact norm_ (by simp only [putAll, Act.put, qA, qB, qC]) (hCont (.slice Ao37 t276.length co37, .slice Ao36 t279.length co36, gb282) _ ⟨hHeld, (xH (xM HO278.out (fun _ hk => ⟨hk.2, hk.1.2⟩))), (xH (xM HO281.out (fun _ hk => ⟨hk.1.2, hk.2⟩))), (yH BK270.out), (yH BK271.out), (yH BK275.out), (yH BK282.out), GW282.out, GE282.out, NB270_282.out, NB282_270.out, NB271_282.out, NB282_271.out, NB275_282.out, NB282_275.out, (zH HB.out)⟩)
      rintro ⟨v277, v280, gb282⟩ w38 ⟨hS_, h0_, h1_, h2_, h3_, h4_, h5_, h6_, h7_, h8_, h9_, h10_, h11_, h12_, h13_, h14_⟩
      (try dsimp only at h0_ h1_ h2_ h3_ h4_ h5_ h6_ h7_ h8_ h9_ h10_ h11_ h12_ h13_ h14_)
      have n0_ := aM h0_
      have n1_ := aM h1_
      have n2_ := aM h2_
      have n3_ := aM h3_
      have n4_ := aM h4_
      have n5_ := aM h5_
      have n6_ := aM h6_
      have n7_ := aM h7_
      have n8_ := aM h8_
      have n9_ := aM h9_
      have n10_ := aM h10_
      have n11_ := aM h11_
      have n12_ := aM h12_
      have n13_ := aM h13_
      have n14_ := aM h14_
      clear BK270 BK271 BK275 HB h0_ h1_ h2_ h3_ h4_ h5_ h6_ h7_ h8_ h9_ h10_ h11_ h12_ h13_ h14_
      have HO278 := n0_
      have HO281 := n1_
      have BK270 := n2_
      have BK271 := n3_
      have BK275 := n4_
      have BK282 := n5_
      have GW282 := n6_
      have GE282 := n7_
      have NB270_282 := n8_
      have NB282_270 := n9_
      have NB271_282 := n10_
      have NB282_271 := n11_
      have NB275_282 := n12_
      have NB282_275 := n13_
      have HB := n14_
      clear n0_ n1_ n2_ n3_ n4_ n5_ n6_ n7_ n8_ n9_ n10_ n11_ n12_ n13_ n14_
      have hHeld : w38.cell? ⟨gb270, 0, none⟩ = some (.int .i64 a0_0) ∧ w38.cell? ⟨gb270, 1, none⟩ = some (.slice A0_1 l0_1.length c0_1) ∧ w38.cell? ⟨gb270, 2, none⟩ = some (.slice (some ad274) l0_2.length c0_2) ∧ w38.cell? ⟨gb275, 0, none⟩ = some (.int .i64 ((rd_T45 l0_2 t272).f0)) ∧ w38.cell? ⟨gb275, 1, none⟩ = some (.int .i64 ((rd_T45 l0_2 t272).f1)) := hS_
      obtain ⟨Ao39, co39, eo39⟩ := Kd.R_slice HO281.out
      (first | subst eo39 | obtain ⟨rfl, rfl⟩ := eI eo39)
      obtain ⟨Ao40, co40, eo40⟩ := Kd.R_slice HO278.out
      (first | subst eo40 | obtain ⟨rfl, rfl⟩ := eI eo40)
      refine norm_ (a' := ?_) ?_ ?_
      rotate_left
      ·simp only [putAll, Act.put, qA, qB, qC]
       rfl
      refine one_ (i := 11) (N := none) #[tT,tT,tT,tT,tT,tT,tT,tT,tT,tT,tT,tT] rfl rfl (one_of HT_.out (by kernel_rfl)) (by decide) (fun K hK => ?_)
      have hs41 : w38.cell? ⟨gb282, 0, none⟩ = some (.int .i64 0) := yc BK282.out 0
      have hfs41 := yZ BK282.out 0
      have hns41_0 := NB270_282.out
      have hns41_1 := NB271_282.out
      have hns41_2 := NB275_282.out
      have hms41_0 := NB282_270.out
      have hms41_1 := NB282_271.out
      have hms41_2 := NB282_275.out
      have hs42 : w38.cell? ⟨gb282, 1, none⟩ = some (.slice none 0 0) := yc BK282.out 1
      have hfs42 := yZ BK282.out 1
      have hns42_0 := NB270_282.out
      have hns42_1 := NB271_282.out
      have hns42_2 := NB275_282.out
      have hms42_0 := NB282_270.out
      have hms42_1 := NB282_271.out
      have hms42_2 := NB282_275.out
      have hs43 : w38.cell? ⟨gb282, 2, none⟩ = some (.slice none 0 0) := yc BK282.out 2
      have hfs43 := yZ BK282.out 2
      have hns43_0 := NB270_282.out
      have hns43_1 := NB271_282.out
      have hns43_2 := NB275_282.out
      have hms43_0 := NB282_270.out
      have hms43_1 := NB282_271.out
      have hms43_2 := NB282_275.out
      refine skip_ (w1 := ?_) (by rfl) rfl ?_ ?_
      rotate_left
      ·go_simp
       rfl
      refine hK.out _ _ ⟨((cell_far (p := ⟨gb282, _, none⟩) NB270_282.out _).trans (((cell_far (p := ⟨gb282, _, none⟩) NB270_282.out _).trans (((cell_far (p := ⟨gb282, _, none⟩) NB270_282.out _).trans (hHeld.1)))))), ((cell_far (p := ⟨gb282, _, none⟩) NB270_282.out _).trans (((cell_far (p := ⟨gb282, _, none⟩) NB270_282.out _).trans (((cell_far (p := ⟨gb282, _, none⟩) NB270_282.out _).trans (hHeld.2.1)))))), ((cell_far (p := ⟨gb282, _, none⟩) NB270_282.out _).trans (((cell_far (p := ⟨gb282, _, none⟩) NB270_282.out _).trans (((cell_far (p := ⟨gb282, _, none⟩) NB270_282.out _).trans (hHeld.2.2.1)))))), ((cell_far (p := ⟨gb282, _, none⟩) NB275_282.out _).trans (((cell_far (p := ⟨gb282, _, none⟩) NB275_282.out _).trans (((cell_far (p := ⟨gb282, _, none⟩) NB275_282.out _).trans (hHeld.2.2.2.1)))))), ((cell_far (p := ⟨gb282, _, none⟩) NB275_282.out _).trans (((cell_far (p := ⟨gb282, _, none⟩) NB275_282.out _).trans (((cell_far (p := ⟨gb282, _, none⟩) NB275_282.out _).trans (hHeld.2.2.2.2))))))⟩ (fun hHeld => ?_)
      clear hK K
      refine done_ (done_of HT_.out (by kernel_rfl)) ?_
      try go_wp2
      go_loopg [] kj3 (fun kq w' => ∃ (x276000_2 : Int) (x276001_2 : Int) (x283001_2 : List (S45)) (u283001 : Value), Aside0 (impl_GiveBlock.l0 kq x276000_2 x276001_2 a0_0 x283001_2 t279 = some (r1, r2, r3, r4)) ∧ Aside0 (kq ≤ kj3) ∧ Aside0 (Kd.R k45 45 w' w.heap.size (fun k_ => some k_ ≠ oB Ao39 t279.length co39 ∧ k_ ≠ gb275) u283001 x283001_2) ∧ Aside0 (Kd.R k45 45 w' w.heap.size (fun k_ => some k_ ≠ (u283001 : Value).ownBlock ∧ k_ ≠ gb275) (.slice Ao39 t279.length co39) t279) ∧ Aside0 (w'.heap[gb270]? = some (.cells #[.int .i64 a0_0, (.slice A0_1 l0_1.length c0_1), (.slice (some ad274) l0_2.length c0_2)] 28 (0, 0))) ∧ Aside0 (w'.heap[gb271]? = some (.cells #[.int .i64 0, (.slice none 0 0), (.slice none 0 0)] 28 (0, 0))) ∧ Aside0 (w'.heap[gb275]? = some (.cells #[.int .i64 x276000_2, .int .i64 x276001_2] 45 (0, 0))) ∧ Aside0 (w'.heap[gb282]? = some (.cells #[.int .i64 a0_0, u283001, (.slice Ao39 t279.length co39)] 28 (0, 0))) ∧ Aside0 (Below w.heap.size w w'))
      case atStart => exact ⟨((rd_T45 l0_2 t272).f0), ((rd_T45 l0_2 t272).f1), (t276), (.slice Ao40 t276.length co40), H', ⟨Nat.le_refl _⟩, ⟨xH (xM (xF (p := ⟨gb282, 2, none⟩) (xF (p := ⟨gb282, 1, none⟩) (xF (p := ⟨gb282, 0, none⟩) (xT HO278.out BK282.out (by decide)) (fun _ hk => hk.2) (.int .i64 a0_0)) (fun _ hk => hk.2) (.slice Ao40 t276.length co40)) (fun _ hk => hk.2) (.slice Ao39 t279.length co39)) (fun _ hk => ⟨hk.1.1, hk.1.2⟩))⟩, ⟨xH (xM (xF (p := ⟨gb282, 2, none⟩) (xF (p := ⟨gb282, 1, none⟩) (xF (p := ⟨gb282, 0, none⟩) (xT HO281.out BK282.out (by decide)) (fun _ hk => hk.2) (.int .i64 a0_0)) (fun _ hk => hk.2) (.slice Ao40 t276.length co40)) (fun _ hk => hk.2) (.slice Ao39 t279.length co39)) (fun _ hk => ⟨hk.1.1, hk.1.2⟩))⟩, ⟨by (with_reducible repeat (first | refine yN ?_ _ | refine yD ?_ | refine yA ?_ _)); refine yF ?_ NB270_282.out _; (with_reducible repeat (first | refine yN ?_ _ | refine yD ?_ | refine yA ?_ _)); refine yF ?_ NB270_282.out _; (with_reducible repeat (first | refine yN ?_ _ | refine yD ?_ | refine yA ?_ _)); refine yF ?_ NB270_282.out _; (with_reducible repeat (first | refine yN ?_ _ | refine yD ?_ | refine yA ?_ _)); exact BK270.out⟩, ⟨by (with_reducible repeat (first | refine yN ?_ _ | refine yD ?_ | refine yA ?_ _)); refine yF ?_ NB271_282.out _; (with_reducible repeat (first | refine yN ?_ _ | refine yD ?_ | refine yA ?_ _)); refine yF ?_ NB271_282.out _; (with_reducible repeat (first | refine yN ?_ _ | refine yD ?_ | refine yA ?_ _)); refine yF ?_ NB271_282.out _; (with_reducible repeat (first | refine yN ?_ _ | refine yD ?_ | refine yA ?_ _)); exact BK271.out⟩, ⟨by (with_reducible repeat (first | refine yN ?_ _ | refine yD ?_ | refine yA ?_ _)); refine yF ?_ NB275_282.out _; (with_reducible repeat (first | refine yN ?_ _ | refine yD ?_ | refine yA ?_ _)); refine yF ?_ NB275_282.out _; (with_reducible repeat (first | refine yN ?_ _ | refine yD ?_ | refine yA ?_ _)); refine yF ?_ NB275_282.out _; (with_reducible repeat (first | refine yN ?_ _ | refine yD ?_ | refine yA ?_ _)); exact BK275.out⟩, ⟨by (with_reducible repeat (first | refine yN ?_ _ | refine yD ?_ | refine yA ?_ _)); refine yP (cs := #[.int .i64 a0_0, .slice Ao40 t276.length co40, .slice none 0 0]) ?_ 2 _ rfl; (with_reducible repeat (first | refine yN ?_ _ | refine yD ?_ | refine yA ?_ _)); refine yP (cs := #[.int .i64 a0_0, .slice none 0 0, .slice none 0 0]) ?_ 1 _ rfl; (with_reducible repeat (first | refine yN ?_ _ | refine yD ?_ | refine yA ?_ _)); refine yP (cs := #[.int .i64 0, .slice none 0 0, .slice none 0 0]) ?_ 0 _ rfl; (with_reducible repeat (first | refine yN ?_ _ | refine yD ?_ | refine yA ?_ _)); exact BK282.out⟩, ⟨zH HB.out⟩⟩
      case round =>
       clear H'
       (try clear c1); (try clear c2); (try clear p2); (try clear q2); (try clear hx2); (try clear c3); (try clear c18); (try clear c19); (try clear c21); (try clear c21b0); (try clear c22); (try clear c22b0); (try clear c25); (try clear p27); (try clear q27); (try clear hx27); (try clear c28); (try clear c29); (try clear c35); (try clear c36); (try clear hcz20_0); (try clear hcz20_1); (try clear hcz20_2); (try clear hcz26_0); (try clear hcz26_1); (try clear hcz26_2); (try clear hcz30_0); (try clear hcz30_1); (try clear hfz20_0); (try clear hfz20_1); (try clear hfz20_2); (try clear hfz26_0); (try clear hfz26_1); (try clear hfz26_2); (try clear hfz30_0); (try clear hfz30_1); (try clear hx274_0); (try clear hx274_1); (try clear p274); (try clear q274)
       obtain ⟨x276000_2, x276001_2, x283001_2, u283001, HA, HK2, p0', p1', BK270, BK271, BK275, BK282, HB⟩ := hrel
       cases gk with
       | zero => exact absurd HA.out (fun h_ => by change none = some _ at h_; cases h_)
       | succ k2 =>
        have H := HA.out
        clear HA
        simp only [impl_GiveBlock.l0] at H
        replace H := Option.bind_eq_some_iff.mp H
        obtain ⟨⟨t283, t284⟩, A440, H⟩ := H
        replace H : ((impl_Block_37.f k2 x283001_2 t283 t284).bind fun t285 => (if t285 = true then ((impl_Block_buddy.f x276000_2 x276001_2).bind fun bt286 => ((impl_lacking.f x283001_2 bt286.1 bt286.2).bind fun t288 => ((impl_Block_buddy.f x276000_2 x276001_2).bind fun bt291 => (impl_GiveBlock.l0 k2 (mn x276000_2 bt291.1) (wrap64 (x276001_2 + 1)) a0_0 t288 t279)))) else ((impl_with.f x283001_2 x276000_2 x276001_2).bind fun t293 => (some (a0_0, t293, t279, true))))) = some (r1, r2, r3, r4) := H
        have A44 := aM A440
        clear A440
        replace H := Option.bind_eq_some_iff.mp H
        obtain ⟨t285, A450, H⟩ := H
        replace H : (if t285 = true then ((impl_Block_buddy.f x276000_2 x276001_2).bind fun bt286 => ((impl_lacking.f x283001_2 bt286.1 bt286.2).bind fun t288 => ((impl_Block_buddy.f x276000_2 x276001_2).bind fun bt291 => (impl_GiveBlock.l0 k2 (mn x276000_2 bt291.1) (wrap64 (x276001_2 + 1)) a0_0 t288 t279)))) else ((impl_with.f x283001_2 x276000_2 x276001_2).bind fun t293 => (some (a0_0, t293, t279, true)))) = some (r1, r2, r3, r4) := H
        have A45 := aM A450
        clear A450
        by_cases c46 : t285 = true
        ·subst c46
         have H1 : ((impl_Block_buddy.f x276000_2 x276001_2).bind fun bt286 => ((impl_lacking.f x283001_2 bt286.1 bt286.2).bind fun t288 => ((impl_Block_buddy.f x276000_2 x276001_2).bind fun bt291 => (impl_GiveBlock.l0 k2 (mn x276000_2 bt291.1) (wrap64 (x276001_2 + 1)) a0_0 t288 t279)))) = some (r1, r2, r3, r4) := by rw [if_pos rfl] at H; exact H
         clear H
         have H := H1
         clear H1
         replace H := Option.bind_eq_some_iff.mp H
         obtain ⟨⟨t286, t287⟩, A470, H⟩ := H
         replace H : ((impl_lacking.f x283001_2 t286 t287).bind fun t288 => ((impl_Block_buddy.f x276000_2 x276001_2).bind fun bt291 => (impl_GiveBlock.l0 k2 (mn x276000_2 bt291.1) (wrap64 (x276001_2 + 1)) a0_0 t288 t279))) = some (r1, r2, r3, r4) := H
         have A47 := aM A470
         clear A470
         replace H := Option.bind_eq_some_iff.mp H
         obtain ⟨t288, A480, H⟩ := H
         replace H : ((impl_Block_buddy.f x276000_2 x276001_2).bind fun bt291 => (impl_GiveBlock.l0 k2 (mn x276000_2 bt291.1) (wrap64 (x276001_2 + 1)) a0_0 t288 t279)) = some (r1, r2, r3, r4) := H
         have A48 := aM A480
         clear A480
         replace H := Option.bind_eq_some_iff.mp H
         obtain ⟨⟨t291, t292⟩, A490, H⟩ := H
         replace H : (impl_GiveBlock.l0 k2 (mn x276000_2 t291) (wrap64 (x276001_2 + 1)) a0_0 t288 t279) = some (r1, r2, r3, r4) := H
         have A49 := aM A490
         clear A490
         obtain ⟨ji50, hji50⟩ : ∃ j_ : Int, (mn x276000_2 t291) = j_ := ⟨_, rfl⟩
         replace H : (impl_GiveBlock.l0 k2 ji50 (wrap64 (x276001_2 + 1)) a0_0 t288 t279) = some (r1, r2, r3, r4) := by first | (rw [hji50] at H; exact H) | (simp only [hji50] at H ⊢; exact H)
         (try rw [hji50] at A44)
         (try rw [hji50] at A45)
         (try rw [hji50] at A47)
         (try rw [hji50] at A48)
         (try rw [hji50] at A49)
         have hji50_ : (if t291 < x276000_2 then t291 else x276000_2) = ji50 := hji50
         have H' := aM H
         clear H
         try go_wp2
         replace p0' := aM (xD p0'.out)
         replace p1' := aM (xD p1'.out)
         replace BK270 := aM (yD BK270.out)
         replace BK271 := aM (yD BK271.out)
         replace BK275 := aM (yD BK275.out)
         replace BK282 := aM (yD BK282.out)
         replace HB := aM (zD HB.out)
         refine start_ (n := 5) (S := fun w' => w'.cell? ⟨gb282, 0, none⟩ = some (.int .i64 a0_0) ∧ w'.cell? ⟨gb282, 1, none⟩ = some (u283001) ∧ w'.cell? ⟨gb282, 2, none⟩ = some (.slice Ao39 t279.length co39) ∧ w'.cell? ⟨gb275, 0, none⟩ = some (.int .i64 x276000_2) ∧ w'.cell? ⟨gb275, 1, none⟩ = some (.int .i64 x276001_2)) (ds := []) #[fF,fF,fF,fF,fF] (by kernel_rfl) rfl rfl ⟨yc BK282.out 0, yc BK282.out 1, yc BK282.out 2, yc BK275.out 0, yc BK275.out 1⟩ (fun hHeld => ?_)
         generalize wr.drew = w51 at p0' p1' BK270 BK271 BK275 BK282 HB hHeld ⊢
         refine pure_ (i := 0) (N := some 36) (v := ?_) (a' := ?_) #[tT,fF,fF,fF,fF] rfl rfl (by kernel_rfl) (fun _ _ _ h => h) (Or.inl ⟨by rfl, ?_⟩) ?_ ?_
         rotate_left
         ·intro w'
          go_simp
          with_reducible rfl
         rotate_left
         ·simp only [Act.put, qA, qB, qC, i64_w, i32_w]
          rfl
         refine take_ (i := 1) (N := some 37) (v := ?_) (a' := ?_) #[tT,tT,fF,fF,fF] rfl rfl (by kernel_rfl) (fun _ _ _ h => h) (Or.inl ⟨by rfl, ?_⟩) hHeld ?_ ?_
         rotate_left
         ·rintro w' ⟨s0, s1, s2, s3, s4⟩
          go_simp
          with_reducible rfl
         rotate_left
         ·simp only [Act.put, qA, qB, qC, i64_w, i32_w]
          rfl
         refine take_ (i := 2) (N := some 38) (v := ?_) (a' := ?_) #[tT,tT,tT,fF,fF] rfl rfl (by kernel_rfl) (fun _ _ _ h => h) (Or.inl ⟨by rfl, ?_⟩) hHeld ?_ ?_
         rotate_left
         ·rintro w' ⟨s0, s1, s2, s3, s4⟩
          go_simp
          with_reducible rfl
         rotate_left
         ·simp only [Act.put, qA, qB, qC, i64_w, i32_w]
          rfl
         refine one_ (i := 3) (N := some 39) #[tT,tT,tT,tT,fF] rfl rfl (by kernel_rfl) (by decide) (fun K hK => ?_)
         refine gS Try.func38 (by kernel_rfl) rfl #[.agg #[.int .i64 x276000_2, .int .i64 x276001_2]] (by rfl) rfl rfl ?_
         with_reducible refine (impl_Block_buddy.calls x276000_2 x276001_2 t283 t284 _ A44.out).mono ?_
         rintro e w52 ⟨rfl, hb⟩
         refine ⟨_, rfl, ?_⟩
         replace p0' := xK p0'.out hb
         replace p1' := xK p1'.out hb
         replace BK270 := yK BK270.out hb
         replace BK271 := yK BK271.out hb
         replace BK275 := yK BK275.out hb
         replace BK282 := yK BK282.out hb
         replace HB := aM (zT (zH HB.out) hb)
         (try clear hb)
         obtain ⟨Ao53, co53, eo53⟩ := Kd.R_slice p0'.out
         (first | subst eo53 | obtain ⟨rfl, rfl⟩ := eI eo53)
         refine hK.out _ _ ⟨yc BK282.out 0, yc BK282.out 1, yc BK282.out 2, yc BK275.out 0, yc BK275.out 1⟩ (fun hHeld => ?_)
         clear hK K
         refine norm_ (a' := ?_) ?_ ?_
         rotate_left
         ·show Act.put _ (some 39) _ = _
          simp only [Act.put, qA, qB, qC, i64_w, i32_w]
          rfl
         refine one_ (i := 4) (N := some 40) #[tT,tT,tT,tT,tT] rfl rfl (by kernel_rfl) (by decide) (fun K hK => ?_)
         refine gS Try.func37 (by kernel_rfl) rfl #[.slice Ao53 x283001_2.length co53, .agg #[.int .i64 t283, .int .i64 t284]] (by rfl) rfl rfl ?_
         with_reducible refine (impl_Block_37.calls k2 _ _ x283001_2 t283 t284 true _ ?side1 ?side2 A45.out).mono ?_
         (case side1 => repeat (first | exact (Kd.R_reads' p0'.out).2.2 | (with_reducible refine cA ?_ _) | (with_reducible refine cN ?_ _) | (with_reducible refine cD ?_)))
         (case side2 => exact (Kd.R_reads' p0'.out).2.1)
         rintro e w54 ⟨rfl, hb⟩
         refine ⟨_, rfl, ?_⟩
         replace p0' := xK p0'.out hb
         replace p1' := xK p1'.out hb
         replace BK270 := yK BK270.out hb
         replace BK271 := yK BK271.out hb
         replace BK275 := yK BK275.out hb
         replace BK282 := yK BK282.out hb
         replace HB := aM (zT (zH HB.out) hb)
         (try clear hb)
         refine hK.out _ _ ⟨yc BK282.out 0, yc BK282.out 1, yc BK282.out 2, yc BK275.out 0, yc BK275.out 1⟩ (fun hHeld => ?_)
         clear hK K
         refine norm_ (a' := ?_) ?_ ?_
         rotate_left
         ·show Act.put _ (some 40) _ = _
          simp only [Act.put, qA, qB, qC, i64_w, i32_w]
          rfl
         refine done_ (by kernel_rfl) ?_
         try go_wp2
         replace p0' := aM (xD p0'.out)
         replace p1' := aM (xD p1'.out)
         replace BK270 := aM (yD BK270.out)
         replace BK271 := aM (yD BK271.out)
         replace BK275 := aM (yD BK275.out)
         replace BK282 := aM (yD BK282.out)
         replace HB := aM (zD HB.out)
         refine start_ (n := 7) (S := fun w' => w'.cell? ⟨gb282, 0, none⟩ = some (.int .i64 a0_0) ∧ w'.cell? ⟨gb282, 1, none⟩ = some (.slice Ao53 x283001_2.length co53) ∧ w'.cell? ⟨gb282, 2, none⟩ = some (.slice Ao39 t279.length co39) ∧ w'.cell? ⟨gb275, 0, none⟩ = some (.int .i64 x276000_2) ∧ w'.cell? ⟨gb275, 1, none⟩ = some (.int .i64 x276001_2)) (ds := [6]) #[fF,fF,fF,fF,fF,fF,fF] (by kernel_rfl) rfl rfl ⟨yc BK282.out 0, yc BK282.out 1, yc BK282.out 2, yc BK275.out 0, yc BK275.out 1⟩ (fun hHeld => ?_)
         generalize w54.drew = w55 at p0' p1' BK270 BK271 BK275 BK282 HB hHeld ⊢
         refine pure_ (i := 0) (N := some 41) (v := ?_) (a' := ?_) #[tT,fF,fF,fF,fF,fF,fF] rfl rfl (by kernel_rfl) (fun _ _ _ h => h) (Or.inl ⟨by rfl, ?_⟩) ?_ ?_
         rotate_left
         ·intro w'
          go_simp
          with_reducible rfl
         rotate_left
         ·simp only [Act.put, qA, qB, qC, i64_w, i32_w]
          rfl
         refine take_ (i := 1) (N := some 42) (v := ?_) (a' := ?_) #[tT,tT,fF,fF,fF,fF,fF] rfl rfl (by kernel_rfl) (fun _ _ _ h => h) (Or.inl ⟨by rfl, ?_⟩) hHeld ?_ ?_
         rotate_left
         ·rintro w' ⟨s0, s1, s2, s3, s4⟩
          go_simp
          with_reducible rfl
         rotate_left
         ·simp only [Act.put, qA, qB, qC, i64_w, i32_w]
          rfl
         refine take_ (i := 2) (N := some 43) (v := ?_) (a' := ?_) #[tT,tT,tT,fF,fF,fF,fF] rfl rfl (by kernel_rfl) (fun _ _ _ h => h) (Or.inl ⟨by rfl, ?_⟩) hHeld ?_ ?_
         rotate_left
         ·rintro w' ⟨s0, s1, s2, s3, s4⟩
          go_simp
          with_reducible rfl
         rotate_left
         ·simp only [Act.put, qA, qB, qC, i64_w, i32_w]
          rfl
         refine one_ (i := 3) (N := some 44) #[tT,tT,tT,tT,fF,fF,fF] rfl rfl (by kernel_rfl) (by decide) (fun K hK => ?_)
         refine gS Try.func38 (by kernel_rfl) rfl #[.agg #[.int .i64 x276000_2, .int .i64 x276001_2]] (by rfl) rfl rfl ?_
         with_reducible refine (impl_Block_buddy.calls x276000_2 x276001_2 t286 t287 _ A47.out).mono ?_
         rintro e w56 ⟨rfl, hb⟩
         refine ⟨_, rfl, ?_⟩
         replace p0' := xK p0'.out hb
         replace p1' := xK p1'.out hb
         replace BK270 := yK BK270.out hb
         replace BK271 := yK BK271.out hb
         replace BK275 := yK BK275.out hb
         replace BK282 := yK BK282.out hb
         replace HB := aM (zT (zH HB.out) hb)
         (try clear hb)
         refine hK.out _ _ ⟨yc BK282.out 0, yc BK282.out 1, yc BK282.out 2, yc BK275.out 0, yc BK275.out 1⟩ (fun hHeld => ?_)
         clear hK K
         refine norm_ (a' := ?_) ?_ ?_
         rotate_left
         ·show Act.put _ (some 44) _ = _
          simp only [Act.put, qA, qB, qC, i64_w, i32_w]
          rfl
         refine one_ (i := 4) (N := some 45) #[tT,tT,tT,tT,tT,fF,fF] rfl rfl (by kernel_rfl) (by decide) (fun K hK => ?_)
         refine gS Try.func36 (by kernel_rfl) rfl #[.slice Ao53 x283001_2.length co53, .agg #[.int .i64 t286, .int .i64 t287]] (by rfl) rfl rfl ?_
         with_reducible refine (impl_lacking.calls _ _ x283001_2 t286 t287 t288 _ ?side1 ?side2 A48.out).mono ?_
         (case side1 => repeat (first | exact (Kd.R_reads' p0'.out).2.2 | (with_reducible refine cA ?_ _) | (with_reducible refine cN ?_ _) | (with_reducible refine cD ?_)))
         (case side2 => exact (Kd.R_reads' p0'.out).2.1)
         rintro e w57 ⟨v289, rfl, ho0, hb⟩
         refine ⟨_, rfl, ?_⟩
         have HO290 := aM (xL (Kd.R_newB (Kd.R_new' (Kd.R_new' ho0 (Kd.R_lt (xH p0'.out))) (Kd.R_lt (xH p1'.out))) (g := gb275) (o := .cells #[.int .i64 x276000_2, .int .i64 x276001_2] 45 (0, 0)) (yH BK275.out)) (zZ (zH HB.out)))
         replace p0' := aM (Kd.R_elder' (xH p0'.out) (Kd.R_base ho0) hb)
         replace p1' := aM (Kd.R_elder' (xH p1'.out) (Kd.R_base ho0) hb)
         replace BK270 := yK BK270.out hb
         replace BK271 := yK BK271.out hb
         replace BK275 := yK BK275.out hb
         replace BK282 := yK BK282.out hb
         replace HB := aM (zT (zH HB.out) hb)
         (try clear hb); (try clear ho0)
         obtain ⟨Ao58, co58, eo58⟩ := Kd.R_slice HO290.out
         (first | subst eo58 | obtain ⟨rfl, rfl⟩ := eI eo58)
         refine hK.out _ _ ⟨yc BK282.out 0, yc BK282.out 1, yc BK282.out 2, yc BK275.out 0, yc BK275.out 1⟩ (fun hHeld => ?_)
         clear hK K
         refine norm_ (a' := ?_) ?_ ?_
         rotate_left
         ·show Act.put _ (some 45) _ = _
          simp only [Act.put, qA, qB, qC, i64_w, i32_w]
          rfl
         refine pure_ (i := 5) (N := some 46) (v := ?_) (a' := ?_) #[tT,tT,tT,tT,tT,tT,fF] rfl rfl (by kernel_rfl) (fun _ _ _ h => h) (Or.inl ⟨by rfl, ?_⟩) ?_ ?_
         rotate_left
         ·intro w'
          go_simp
          with_reducible rfl
         rotate_left
         ·simp only [Act.put, qA, qB, qC, i64_w, i32_w]
          rfl
         refine last_ (i := 6) (N := none) #[tT,tT,tT,tT,tT,tT,tT] rfl rfl (by kernel_rfl) (by decide) (fun K hK => ?_)
         have hs59 : w57.cell? ⟨gb282, 1, none⟩ = some (.slice Ao53 x283001_2.length co53) := yc BK282.out 1
         have hfs59 := yZ BK282.out 1
         have hns59_0 := NB270_282.out
         have hns59_1 := NB271_282.out
         have hns59_2 := NB275_282.out
         have hms59_0 := NB282_270.out
         have hms59_1 := NB282_271.out
         have hms59_2 := NB282_275.out
         refine skip_ (w1 := ?_) (by rfl) rfl ?_ ?_
         rotate_left
         ·go_simp
          rfl
         refine hK.out _ _ ?_
         clear hK K
         refine done_ (by kernel_rfl) ?_
         try go_wp2
         have n0_ : Aside0 (Kd.R k45 45 (w57.setCell ⟨gb282, 1, none⟩ (.slice Ao58 t288.length co58)) w.heap.size (fun k_ => some k_ ≠ oB Ao39 t279.length co39 ∧ some k_ ≠ oB Ao58 t288.length co58 ∧ k_ ≠ gb275) (.slice Ao53 x283001_2.length co53) x283001_2) := ⟨xH (xM (xF (p := ⟨gb282, 1, none⟩) (xT p0'.out BK282.out (by decide)) (fun _ hk => hk.2) (.slice Ao58 t288.length co58)) (fun _ hk => ⟨hk.1.1.1, ⟨hk.1.2, hk.1.1.2⟩⟩))⟩
         have n1_ : Aside0 (Kd.R k45 45 (w57.setCell ⟨gb282, 1, none⟩ (.slice Ao58 t288.length co58)) w.heap.size (fun k_ => some k_ ≠ (.slice Ao53 x283001_2.length co53 : Value).ownBlock ∧ some k_ ≠ oB Ao58 t288.length co58 ∧ k_ ≠ gb275) (.slice Ao39 t279.length co39) t279) := ⟨xH (xM (xF (p := ⟨gb282, 1, none⟩) (xT p1'.out BK282.out (by decide)) (fun _ hk => hk.2) (.slice Ao58 t288.length co58)) (fun _ hk => ⟨hk.1.1.1, ⟨hk.1.2, hk.1.1.2⟩⟩))⟩
         have n2_ : Aside0 (Kd.R k45 45 (w57.setCell ⟨gb282, 1, none⟩ (.slice Ao58 t288.length co58)) w.heap.size (fun k_ => some k_ ≠ (.slice Ao53 x283001_2.length co53 : Value).ownBlock ∧ some k_ ≠ oB Ao39 t279.length co39 ∧ k_ ≠ gb275) (.slice Ao58 t288.length co58) t288) := ⟨xH (xM (xF (p := ⟨gb282, 1, none⟩) (xT HO290.out BK282.out (by decide)) (fun _ hk => hk.2) (.slice Ao58 t288.length co58)) (fun _ hk => ⟨hk.1.1.1.2, ⟨hk.1.1.2, hk.1.2⟩⟩))⟩
         have n3_ : Aside0 ((w57.setCell ⟨gb282, 1, none⟩ (.slice Ao58 t288.length co58)).heap[gb270]? = some (.cells #[.int .i64 a0_0, .slice A0_1 l0_1.length c0_1, .slice (some ad274) l0_2.length c0_2] 28 (0, 0))) := ⟨by (with_reducible repeat (first | refine yN ?_ _ | refine yD ?_ | refine yA ?_ _)); refine yF ?_ NB270_282.out _; (with_reducible repeat (first | refine yN ?_ _ | refine yD ?_ | refine yA ?_ _)); exact BK270.out⟩
         have n4_ : Aside0 ((w57.setCell ⟨gb282, 1, none⟩ (.slice Ao58 t288.length co58)).heap[gb271]? = some (.cells #[.int .i64 0, .slice none 0 0, .slice none 0 0] 28 (0, 0))) := ⟨by (with_reducible repeat (first | refine yN ?_ _ | refine yD ?_ | refine yA ?_ _)); refine yF ?_ NB271_282.out _; (with_reducible repeat (first | refine yN ?_ _ | refine yD ?_ | refine yA ?_ _)); exact BK271.out⟩
         have n5_ : Aside0 ((w57.setCell ⟨gb282, 1, none⟩ (.slice Ao58 t288.length co58)).heap[gb275]? = some (.cells #[.int .i64 x276000_2, .int .i64 x276001_2] 45 (0, 0))) := ⟨by (with_reducible repeat (first | refine yN ?_ _ | refine yD ?_ | refine yA ?_ _)); refine yF ?_ NB275_282.out _; (with_reducible repeat (first | refine yN ?_ _ | refine yD ?_ | refine yA ?_ _)); exact BK275.out⟩
         have n6_ : Aside0 ((w57.setCell ⟨gb282, 1, none⟩ (.slice Ao58 t288.length co58)).heap[gb282]? = some (.cells #[.int .i64 a0_0, .slice Ao58 t288.length co58, .slice Ao39 t279.length co39] 28 (0, 0))) := ⟨by (with_reducible repeat (first | refine yN ?_ _ | refine yD ?_ | refine yA ?_ _)); refine yP (cs := #[.int .i64 a0_0, .slice Ao53 x283001_2.length co53, .slice Ao39 t279.length co39]) ?_ 1 _ rfl; (with_reducible repeat (first | refine yN ?_ _ | refine yD ?_ | refine yA ?_ _)); exact BK282.out⟩
         have n7_ : Aside0 (Below w.heap.size w (w57.setCell ⟨gb282, 1, none⟩ (.slice Ao58 t288.length co58))) := ⟨zH HB.out⟩
         (try clear p0')
         (try clear p1'); (try clear HO290); (try clear BK270); (try clear BK271); (try clear BK275); (try clear BK282); (try clear HB)
         generalize (w57.setCell ⟨gb282, 1, none⟩ (.slice Ao58 t288.length co58)) = w60 at n0_ n1_ n2_ n3_ n4_ n5_ n6_ n7_ ⊢
         have p0' := n0_
         have p1' := n1_
         have HO290 := n2_
         have BK270 := n3_
         have BK271 := n4_
         have BK275 := n5_
         have BK282 := n6_
         have HB := n7_
         clear n0_ n1_ n2_ n3_ n4_ n5_ n6_ n7_
         replace p0' := aM (xD p0'.out)
         replace p1' := aM (xD p1'.out)
         replace HO290 := aM (xD HO290.out)
         replace BK270 := aM (yD BK270.out)
         replace BK271 := aM (yD BK271.out)
         replace BK275 := aM (yD BK275.out)
         replace BK282 := aM (yD BK282.out)
         replace HB := aM (zD HB.out)
         refine start_ (n := 11) (S := fun w' => w'.cell? ⟨gb275, 0, none⟩ = some (.int .i64 x276000_2) ∧ w'.cell? ⟨gb275, 1, none⟩ = some (.int .i64 x276001_2)) (ds := [10]) #[fF,fF,fF,fF,fF,fF,fF,fF,fF,fF,fF] (by kernel_rfl) rfl rfl ⟨yc BK275.out 0, yc BK275.out 1⟩ (fun hHeld => ?_); refine with_tabW impl_GiveBlock.tab8 impl_GiveBlock.bits8 (fun HT_ HW_ => ?_)
         generalize w60.drew = w61 at p0' p1' HO290 BK270 BK271 BK275 BK282 HB hHeld ⊢
         refine pure_ (i := 0) (N := some 47) (v := ?_) (a' := ?_) #[tT,fF,fF,fF,fF,fF,fF,fF,fF,fF,fF] rfl rfl (any_of HT_.out (by kernel_rfl)) (fun _ _ _ h => h) (Or.inl ⟨by rfl, ?_⟩) ?_ ?_
         rotate_left
         ·intro w'
          go_simp
          with_reducible rfl
         rotate_left
         ·simp only [Act.put, qA, qB, qC, i64_w, i32_w]
          rfl
         refine pure_ (i := 6) (N := some 53) (v := ?_) (a' := ?_) #[tT,fF,fF,fF,fF,fF,tT,fF,fF,fF,fF] rfl rfl (any_of HT_.out (by kernel_rfl)) (fun _ _ _ h => h) (Or.inl ⟨by rfl, ?_⟩) ?_ ?_
         rotate_left
         ·intro w'
          go_simp
          with_reducible rfl
         rotate_left
         ·simp only [Act.put, qA, qB, qC, i64_w, i32_w]
          rfl
         refine take_ (i := 1) (N := some 48) (v := ?_) (a' := ?_) #[tT,tT,fF,fF,fF,fF,tT,fF,fF,fF,fF] rfl rfl (take_ofW HT_.out HW_.out (by kernel_rfl)) (fun _ _ _ h => h) (Or.inl ⟨by rfl, ?_⟩) hHeld ?_ ?_
         rotate_left
         ·rintro w' ⟨s0, s1⟩
          go_simp
          with_reducible rfl
         rotate_left
         ·simp only [Act.put, qA, qB, qC, i64_w, i32_w]
          rfl
         refine take_ (i := 2) (N := some 49) (v := ?_) (a' := ?_) #[tT,tT,tT,fF,fF,fF,tT,fF,fF,fF,fF] rfl rfl (take_ofW HT_.out HW_.out (by kernel_rfl)) (fun _ _ _ h => h) (Or.inl ⟨by rfl, ?_⟩) hHeld ?_ ?_
         rotate_left
         ·rintro w' ⟨s0, s1⟩
          go_simp
          with_reducible rfl
         rotate_left
         ·simp only [Act.put, qA, qB, qC, i64_w, i32_w]
          rfl
         refine take_ (i := 7) (N := some 54) (v := ?_) (a' := ?_) #[tT,tT,tT,fF,fF,fF,tT,tT,fF,fF,fF] rfl rfl (take_ofW HT_.out HW_.out (by kernel_rfl)) (fun _ _ _ h => h) (Or.inl ⟨by rfl, ?_⟩) hHeld ?_ ?_
         rotate_left
         ·rintro w' ⟨s0, s1⟩
          go_simp
          with_reducible rfl
         rotate_left
         ·simp only [Act.put, qA, qB, qC, i64_w, i32_w]
          rfl
         refine pure_ (i := 8) (N := some 55) (v := ?_) (a' := ?_) #[tT,tT,tT,fF,fF,fF,tT,tT,tT,fF,fF] rfl rfl (any_of HT_.out (by kernel_rfl)) (fun _ _ _ h => h) (Or.inl ⟨by rfl, ?_⟩) ?_ ?_
         rotate_left
         ·intro w'
          go_simp
          with_reducible rfl
         rotate_left
         ·simp only [Act.put, qA, qB, qC, i64_w, i32_w]
          rfl
         refine one_ (i := 3) (N := some 50) #[tT,tT,tT,tT,fF,fF,tT,tT,tT,fF,fF] rfl rfl (one_of HT_.out (by kernel_rfl)) (by decide) (fun K hK => ?_)
         refine gS Try.func38 (by kernel_rfl) rfl #[.agg #[.int .i64 x276000_2, .int .i64 x276001_2]] (by rfl) rfl rfl ?_
         with_reducible refine (impl_Block_buddy.calls x276000_2 x276001_2 t291 t292 _ A49.out).mono ?_
         rintro e w62 ⟨rfl, hb⟩
         refine ⟨_, rfl, ?_⟩
         replace p0' := xK p0'.out hb
         replace p1' := xK p1'.out hb
         replace HO290 := xK HO290.out hb
         replace BK270 := yK BK270.out hb
         replace BK271 := yK BK271.out hb
         replace BK275 := yK BK275.out hb
         replace BK282 := yK BK282.out hb
         replace HB := aM (zT (zH HB.out) hb)
         (try clear hb)
         refine hK.out _ _ ⟨yc BK275.out 0, yc BK275.out 1⟩ (fun hHeld => ?_)
         clear hK K
         refine norm_ (a' := ?_) ?_ ?_
         rotate_left
         ·show Act.put _ (some 50) _ = _
          simp only [Act.put, qA, qB, qC, i64_w, i32_w]
          rfl
         refine pure_ (i := 4) (N := some 51) (v := ?_) (a' := ?_) #[tT,tT,tT,tT,tT,fF,tT,tT,tT,fF,fF] rfl rfl (any_of HT_.out (by kernel_rfl)) (fun _ _ _ h => h) (Or.inl ⟨by rfl, ?_⟩) ?_ ?_
         rotate_left
         ·intro w'
          go_simp
          with_reducible rfl
         rotate_left
         ·simp only [Act.put, qA, qB, qC, i64_w, i32_w]
          rfl
         refine pure_ (i := 5) (N := some 52) (v := ?_) (a' := ?_) #[tT,tT,tT,tT,tT,tT,tT,tT,tT,fF,fF] rfl rfl (any_of HT_.out (by kernel_rfl)) (fun _ _ _ h => h) (Or.inl ⟨by rfl, ?_⟩) ?_ ?_
         rotate_left
         ·intro w'
          go_simp
          with_reducible rfl
         rotate_left
         ·simp only [Act.put, qA, qB, qC, i64_w, i32_w]
          rfl
         refine pure_ (i := 9) (N := some 56) (v := ?_) (a' := ?_) #[tT,tT,tT,tT,tT,tT,tT,tT,tT,tT,fF] rfl rfl (any_of HT_.out (by kernel_rfl)) (fun _ _ _ h => h) (Or.inl ⟨by rfl, ?_⟩) ?_ ?_
         rotate_left
         ·intro w'
          go_simp
          with_reducible rfl
         rotate_left
         ·simp only [Act.put, qA, qB, qC, i64_w, i32_w]
          rfl
         refine last_ (i := 10) (N := none) #[tT,tT,tT,tT,tT,tT,tT,tT,tT,tT,tT] rfl rfl (one_of HT_.out (by kernel_rfl)) (by decide) (fun K hK => ?_)
         have hs63 : w62.cell? ⟨gb275, 0, none⟩ = some (.int .i64 x276000_2) := yc BK275.out 0
         have hfs63 := yZ BK275.out 0
         have hns63_0 := NB270_275.out
         have hns63_1 := NB271_275.out
         have hns63_3 := NB282_275.out
         have hms63_0 := NB275_270.out
         have hms63_1 := NB275_271.out
         have hms63_3 := NB275_282.out
         have hs64 : w62.cell? ⟨gb275, 1, none⟩ = some (.int .i64 x276001_2) := yc BK275.out 1
         have hfs64 := yZ BK275.out 1
         have hns64_0 := NB270_275.out
         have hns64_1 := NB271_275.out
         have hns64_3 := NB282_275.out
         have hms64_0 := NB275_270.out
         have hms64_1 := NB275_271.out
         have hms64_3 := NB275_282.out
         refine skip_ (w1 := ?_) (by rfl) rfl ?_ ?_
         rotate_left
         ·go_simp
          rfl
         refine hK.out _ _ ?_
         clear hK K
         refine done_ (done_of HT_.out (by kernel_rfl)) ?_
         try go_wp2
         go_roundg k2
         case measure => have := HJ3.out; have := HK2.out; omega
         case rel => exact ⟨(ji50), (wrap64 (x276001_2 + 1)), (t288), (.slice Ao58 t288.length co58), H', ⟨by have := HJ3.out; have := HK2.out; omega⟩, ⟨xH (xM (xF (p := ⟨gb275, 1, none⟩) (xF (p := ⟨gb275, 0, none⟩) (xM HO290.out (fun k_ hk => (⟨hk, hk.2.2⟩ : _ ∧ k_ ≠ gb275))) (fun _ hk => hk.2) (.int .i64 ji50)) (fun _ hk => hk.2) (.int .i64 (wrap64 (x276001_2 + 1)))) (fun _ hk => ⟨hk.1.2.1, hk.1.2.2⟩))⟩, ⟨xH (xM (xF (p := ⟨gb275, 1, none⟩) (xF (p := ⟨gb275, 0, none⟩) (xM p1'.out (fun k_ hk => (⟨hk, hk.2.2⟩ : _ ∧ k_ ≠ gb275))) (fun _ hk => hk.2) (.int .i64 ji50)) (fun _ hk => hk.2) (.int .i64 (wrap64 (x276001_2 + 1)))) (fun _ hk => ⟨hk.1.2.1, hk.1.2.2⟩))⟩, ⟨by (with_reducible repeat (first | refine yN ?_ _ | refine yD ?_ | refine yA ?_ _)); refine yF ?_ NB270_275.out _; (with_reducible repeat (first | refine yN ?_ _ | refine yD ?_ | refine yA ?_ _)); refine yF ?_ NB270_275.out _; (with_reducible repeat (first | refine yN ?_ _ | refine yD ?_ | refine yA ?_ _)); exact BK270.out⟩, ⟨by (with_reducible repeat (first | refine yN ?_ _ | refine yD ?_ | refine yA ?_ _)); refine yF ?_ NB271_275.out _; (with_reducible repeat (first | refine yN ?_ _ | refine yD ?_ | refine yA ?_ _)); refine yF ?_ NB271_275.out _; (with_reducible repeat (first | refine yN ?_ _ | refine yD ?_ | refine yA ?_ _)); exact BK271.out⟩, ⟨by (with_reducible repeat (first | refine yN ?_ _ | refine yD ?_ | refine yA ?_ _)); refine yP (cs := #[.int .i64 ji50, .int .i64 x276001_2]) ?_ 1 _ rfl; (with_reducible repeat (first | refine yN ?_ _ | refine yD ?_ | refine yA ?_ _)); refine yP (cs := #[.int .i64 x276000_2, .int .i64 x276001_2]) ?_ 0 _ rfl; (with_reducible repeat (first | refine yN ?_ _ | refine yD ?_ | refine yA ?_ _)); exact BK275.out⟩, ⟨by (with_reducible repeat (first | refine yN ?_ _ | refine yD ?_ | refine yA ?_ _)); refine yF ?_ NB282_275.out _; (with_reducible repeat (first | refine yN ?_ _ | refine yD ?_ | refine yA ?_ _)); refine yF ?_ NB282_275.out _; (with_reducible repeat (first | refine yN ?_ _ | refine yD ?_ | refine yA ?_ _)); exact BK282.out⟩, ⟨zH HB.out⟩⟩
        ·replace c46 := Bool.eq_false_iff.mpr c46
         subst c46
         have H1 : ((impl_with.f x283001_2 x276000_2 x276001_2).bind fun t293 => (some (a0_0, t293, t279, true))) = some (r1, r2, r3, r4) := by rw [if_neg (show ¬ (false = true) by decide)] at H; exact H
         clear H
         have H := H1
         clear H1
         replace H := Option.bind_eq_some_iff.mp H
         obtain ⟨t293, A650, H⟩ := H
         replace H : (some (a0_0, t293, t279, true)) = some (r1, r2, r3, r4) := H
         have A65 := aM A650
         clear A650
         simp only [Option.some.injEq, Prod.mk.injEq] at H
         obtain ⟨rfl, rfl, rfl, rfl⟩ := H
         try go_wp2
         replace p0' := aM (xD p0'.out)
         replace p1' := aM (xD p1'.out)
         replace BK270 := aM (yD BK270.out)
         replace BK271 := aM (yD BK271.out)
         replace BK275 := aM (yD BK275.out)
         replace BK282 := aM (yD BK282.out)
         replace HB := aM (zD HB.out)
         refine start_ (n := 5) (S := fun w' => w'.cell? ⟨gb282, 0, none⟩ = some (.int .i64 a0_0) ∧ w'.cell? ⟨gb282, 1, none⟩ = some (u283001) ∧ w'.cell? ⟨gb282, 2, none⟩ = some (.slice Ao39 t279.length co39) ∧ w'.cell? ⟨gb275, 0, none⟩ = some (.int .i64 x276000_2) ∧ w'.cell? ⟨gb275, 1, none⟩ = some (.int .i64 x276001_2)) (ds := []) #[fF,fF,fF,fF,fF] (by kernel_rfl) rfl rfl ⟨yc BK282.out 0, yc BK282.out 1, yc BK282.out 2, yc BK275.out 0, yc BK275.out 1⟩ (fun hHeld => ?_)
         generalize wr.drew = w66 at p0' p1' BK270 BK271 BK275 BK282 HB hHeld ⊢
         refine pure_ (i := 0) (N := some 36) (v := ?_) (a' := ?_) #[tT,fF,fF,fF,fF] rfl rfl (by kernel_rfl) (fun _ _ _ h => h) (Or.inl ⟨by rfl, ?_⟩) ?_ ?_
         rotate_left
         ·intro w'
          go_simp
          with_reducible rfl
         rotate_left
         ·simp only [Act.put, qA, qB, qC, i64_w, i32_w]
          rfl
         refine take_ (i := 1) (N := some 37) (v := ?_) (a' := ?_) #[tT,tT,fF,fF,fF] rfl rfl (by kernel_rfl) (fun _ _ _ h => h) (Or.inl ⟨by rfl, ?_⟩) hHeld ?_ ?_
         rotate_left
         ·rintro w' ⟨s0, s1, s2, s3, s4⟩
          go_simp
          with_reducible rfl
         rotate_left
         ·simp only [Act.put, qA, qB, qC, i64_w, i32_w]
          rfl
         refine take_ (i := 2) (N := some 38) (v := ?_) (a' := ?_) #[tT,tT,tT,fF,fF] rfl rfl (by kernel_rfl) (fun _ _ _ h => h) (Or.inl ⟨by rfl, ?_⟩) hHeld ?_ ?_
         rotate_left
         ·rintro w' ⟨s0, s1, s2, s3, s4⟩
          go_simp
          with_reducible rfl
         rotate_left
         ·simp only [Act.put, qA, qB, qC, i64_w, i32_w]
          rfl
         refine one_ (i := 3) (N := some 39) #[tT,tT,tT,tT,fF] rfl rfl (by kernel_rfl) (by decide) (fun K hK => ?_)
         refine gS Try.func38 (by kernel_rfl) rfl #[.agg #[.int .i64 x276000_2, .int .i64 x276001_2]] (by rfl) rfl rfl ?_
         with_reducible refine (impl_Block_buddy.calls x276000_2 x276001_2 t283 t284 _ A44.out).mono ?_
         rintro e w67 ⟨rfl, hb⟩
         refine ⟨_, rfl, ?_⟩
         replace p0' := xK p0'.out hb
         replace p1' := xK p1'.out hb
         replace BK270 := yK BK270.out hb
         replace BK271 := yK BK271.out hb
         replace BK275 := yK BK275.out hb
         replace BK282 := yK BK282.out hb
         replace HB := aM (zT (zH HB.out) hb)
         (try clear hb)
         obtain ⟨Ao68, co68, eo68⟩ := Kd.R_slice p0'.out
         (first | subst eo68 | obtain ⟨rfl, rfl⟩ := eI eo68)
         refine hK.out _ _ ⟨yc BK282.out 0, yc BK282.out 1, yc BK282.out 2, yc BK275.out 0, yc BK275.out 1⟩ (fun hHeld => ?_)
         clear hK K
         refine norm_ (a' := ?_) ?_ ?_
         rotate_left
         ·show Act.put _ (some 39) _ = _
          simp only [Act.put, qA, qB, qC, i64_w, i32_w]
          rfl
         refine one_ (i := 4) (N := some 40) #[tT,tT,tT,tT,tT] rfl rfl (by kernel_rfl) (by decide) (fun K hK => ?_)
         refine gS Try.func37 (by kernel_rfl) rfl #[.slice Ao68 x283001_2.length co68, .agg #[.int .i64 t283, .int .i64 t284]] (by rfl) rfl rfl ?_
         with_reducible refine (impl_Block_37.calls k2 _ _ x283001_2 t283 t284 false _ ?side1 ?side2 A45.out).mono ?_
         (case side1 => repeat (first | exact (Kd.R_reads' p0'.out).2.2 | (with_reducible refine cA ?_ _) | (with_reducible refine cN ?_ _) | (with_reducible refine cD ?_)))
         (case side2 => exact (Kd.R_reads' p0'.out).2.1)
         rintro e w69 ⟨rfl, hb⟩
         refine ⟨_, rfl, ?_⟩
         replace p0' := xK p0'.out hb
         replace p1' := xK p1'.out hb
         replace BK270 := yK BK270.out hb
         replace BK271 := yK BK271.out hb
         replace BK275 := yK BK275.out hb
         replace BK282 := yK BK282.out hb
         replace HB := aM (zT (zH HB.out) hb)
         (try clear hb)
         refine hK.out _ _ ⟨yc BK282.out 0, yc BK282.out 1, yc BK282.out 2, yc BK275.out 0, yc BK275.out 1⟩ (fun hHeld => ?_)
         clear hK K
         refine norm_ (a' := ?_) ?_ ?_
         rotate_left
         ·show Act.put _ (some 40) _ = _
          simp only [Act.put, qA, qB, qC, i64_w, i32_w]
          rfl
         refine done_ (by kernel_rfl) ?_
         have hnb70 := NB282_270.out
         have hnc70 := NB270_282.out
         have hnb71 := NB282_271.out
         have hnc71 := NB271_282.out
         have hnb72 := NB282_275.out
         have hnc72 := NB275_282.out
         have hcz73_0 : w69.cell? ⟨gb282, 0, none⟩ = some (.int .i64 a0_0) := yc BK282.out 0
         have hcz73_1 : w69.cell? ⟨gb282, 1, none⟩ = some (.slice Ao68 x283001_2.length co68) := yc BK282.out 1
         have hcz73_2 : w69.cell? ⟨gb282, 2, none⟩ = some (.slice Ao39 t279.length co39) := yc BK282.out 2
         have hfz73_0 := yZ BK282.out 0
         have hfz73_1 := yZ BK282.out 1
         have hfz73_2 := yZ BK282.out 2
         have hnb74 := NB275_270.out
         have hnc74 := NB270_275.out
         have hnb75 := NB275_271.out
         have hnc75 := NB271_275.out
         have hcz76_0 : w69.cell? ⟨gb275, 0, none⟩ = some (.int .i64 x276000_2) := yc BK275.out 0
         have hcz76_1 : w69.cell? ⟨gb275, 1, none⟩ = some (.int .i64 x276001_2) := yc BK275.out 1
         have hfz76_0 := yZ BK275.out 0
         have hfz76_1 := yZ BK275.out 1
         try go_wp2_with (first | ((with_reducible refine gate_callee (f := 39) rfl ?_); refine goesL_ (some 60) rfl rfl Try.func39 (by kernel_rfl) rfl #[.slice Ao68 x283001_2.length co68, .agg #[.int .i64 x276000_2, .int .i64 x276001_2]] rfl (by (try simp only [List.map_toArray, List.map_cons, List.map_nil]); first | done | rfl | (simp only [List.length_drop, List.length_take]; rfl)) ?_; (with_reducible refine (impl_with.calls _ _ x283001_2 x276000_2 x276001_2 t293 _ ?side1 ?side2 A65.out).mono ?_); (case side1 => repeat (first | exact (Kd.R_reads' p0'.out).2.2 | (with_reducible refine cA ?_ _) | (with_reducible refine cN ?_ _) | (with_reducible refine cD ?_))); (case side2 => exact (Kd.R_reads' p0'.out).2.1); rintro e w77 ⟨v294, rfl, ho0, hb⟩; refine ⟨_, rfl, ?_⟩; have HO295 := aM (xL (Kd.R_newB (Kd.R_new' (Kd.R_new' ho0 (Kd.R_lt (xH p0'.out))) (Kd.R_lt (xH p1'.out))) (g := gb275) (o := .cells #[.int .i64 x276000_2, .int .i64 x276001_2] 45 (0, 0)) (yH BK275.out)) (zZ (zH HB.out))); replace p0' := aM (Kd.R_elder' (xH p0'.out) (Kd.R_base ho0) hb); replace p1' := aM (Kd.R_elder' (xH p1'.out) (Kd.R_base ho0) hb); replace BK270 := yK BK270.out hb; replace BK271 := yK BK271.out hb; replace BK275 := yK BK275.out hb; replace BK282 := yK BK282.out hb; replace HB := aM (zT (zH HB.out) hb); (try clear hb); (try clear ho0); obtain ⟨Ao78, co78, eo78⟩ := Kd.R_slice HO295.out; subst eo78; have hcz79_0 : w77.cell? ⟨gb282, 0, none⟩ = some (.int .i64 a0_0) := yc BK282.out 0; have hcz79_1 : w77.cell? ⟨gb282, 1, none⟩ = some (.slice Ao68 x283001_2.length co68) := yc BK282.out 1; have hcz79_2 : w77.cell? ⟨gb282, 2, none⟩ = some (.slice Ao39 t279.length co39) := yc BK282.out 2; have hfz79_0 := yZ BK282.out 0; have hfz79_1 := yZ BK282.out 1; have hfz79_2 := yZ BK282.out 2; have hnb80 := NB271_270.out; have hnc80 := NB270_271.out; have hcz81_0 : w77.cell? ⟨gb271, 0, none⟩ = some (.int .i64 0) := yc BK271.out 0; have hcz81_1 : w77.cell? ⟨gb271, 1, none⟩ = some (.slice none 0 0) := yc BK271.out 1; have hcz81_2 : w77.cell? ⟨gb271, 2, none⟩ = some (.slice none 0 0) := yc BK271.out 2; have hfz81_0 := yZ BK271.out 0; have hfz81_1 := yZ BK271.out 1; have hfz81_2 := yZ BK271.out 2))
         refine bodyPost_ret (results_ct rfl _ _ gb271 28 #[.int .i64 a0_0, .slice Ao78 t293.length co78, .slice Ao39 t279.length co39] (0, 0) _ rfl (by (with_reducible repeat (first | refine yN ?_ _ | refine yD ?_ | refine yA ?_ _)); refine yP (cs := #[.int .i64 a0_0, .slice Ao78 t293.length co78, .slice none 0 0]) ?_ 2 _ rfl; (with_reducible repeat (first | refine yN ?_ _ | refine yD ?_ | refine yA ?_ _)); refine yP (cs := #[.int .i64 a0_0, .slice none 0 0, .slice none 0 0]) ?_ 1 _ rfl; (with_reducible repeat (first | refine yN ?_ _ | refine yD ?_ | refine yA ?_ _)); refine yP (cs := #[.int .i64 0, .slice none 0 0, .slice none 0 0]) ?_ 0 _ rfl; (with_reducible repeat (first | refine yN ?_ _ | refine yD ?_ | refine yA ?_ _)); refine yF ?_ NB271_282.out _; (with_reducible repeat (first | refine yN ?_ _ | refine yD ?_ | refine yA ?_ _)); exact BK271.out) Try.underlying28 rfl (by kernel_rfl)) rfl ?_
         exact ⟨_, _, by first | rfl | (simp [errW_none, errW_some] <;> rfl) | (simp [*, errW_none, errW_some] <;> rfl), xH (xM (xF (p := ⟨gb271, 2, none⟩) (xF (p := ⟨gb271, 1, none⟩) (xF (p := ⟨gb271, 0, none⟩) (xF (p := ⟨gb282, 1, none⟩) (xT (xT HO295.out BK282.out (by decide)) BK271.out (by decide)) (fun _ hk => hk.1.2) (.slice Ao78 t293.length co78)) (fun _ hk => hk.2) (.int .i64 a0_0)) (fun _ hk => hk.2) (.slice Ao78 t293.length co78)) (fun _ hk => hk.2) (.slice Ao39 t279.length co39)) (fun _ hk => hk.1.1.1.2)), xH (xM (xF (p := ⟨gb271, 2, none⟩) (xF (p := ⟨gb271, 1, none⟩) (xF (p := ⟨gb271, 0, none⟩) (xF (p := ⟨gb282, 1, none⟩) (xT (xT p1'.out BK282.out (by decide)) BK271.out (by decide)) (fun _ hk => hk.1.2) (.slice Ao78 t293.length co78)) (fun _ hk => hk.2) (.int .i64 a0_0)) (fun _ hk => hk.2) (.slice Ao78 t293.length co78)) (fun _ hk => hk.2) (.slice Ao39 t279.length co39)) (fun _ hk => hk.1.1.2)), zH HB.out⟩
     ·rw [if_neg c22] at H
      exact absurd H (by simp)
    ·rw [if_neg c21] at H
     exact absurd H (by simp)

end Go.Proofs.Ytbjcioihomeikaa.PFnExactGiveBlock
