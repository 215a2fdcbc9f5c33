/- The walks of FnParity: Go's calls come to what the Lean functions beside them say; no condition. -/
import Derived.Test.YtfijnlhklfmoeaaQFnParityx0
import Derived.Test.YtfijnlhklfmoeaaQFnParityx2
import Derived.Test.YtfijnlhklfmoeaaQFnParityx4
import Derived.Test.YtfijnlhklfmoeaaQFnParityx5
import Derived.Test.YtfijnlhklfmoeaaQFnParityx8
namespace Go.Proofs.Ytfijnlhklfmoeaa.PFnParity
open Go.RowKit Go.Proofs.YtfijnlhklfmoeaaW.PrintWords Go.Proofs.YtfijnlhklfmoeaaW.PrintLast Go.Proofs.YtfijnlhklfmoeaaW.PrintMore
attribute [local go_sem] max2_int min2_int max_two min_two max_three min_three max_four min_four   -- for this text's walks alone
set_option linter.unusedVariables false
set_option linter.unusedSimpArgs false
set_option maxRecDepth 100000

/-! ### impl_RecoverTwo: function 34 -/
def impl_RecoverTwo.j0 : Nat → Int → Int → Bool → List ByteArray → ByteArray → ByteArray → Option (List ByteArray × ByteArray × ByteArray × Bool)
 | 0, _, _, _, _, _, _ => none
 | k + 1, x1, x2, x27, x312000, x312001, x312002 => if x27 = true then (some (([] : List ByteArray), (⟨#[]⟩ : ByteArray), (⟨#[]⟩ : ByteArray), false)) else ((impl_without.f k x312000 x312001 x312002 (([mn x1 x2, mx x1 x2] : List Int))).bind fun bt318 => ((impl_parities.f k bt318.1).bind fun bt324 => (if (mn x1 x2) = (x312000.length : Int) then (some (bt318.1, bt324.1, bt324.2, true)) else (if (mx x1 x2) = (x312000.length : Int) then ((impl_xor.f bt324.2 x312002).bind fun t326 => ((impl_power.f k 2 (mn x1 x2)).bind fun t327 => ((impl_divided.f k t326 t327).bind fun t328 => (if 0 ≤ (mn x1 x2) then (if (mn x1 x2) < (bt318.1.length : Int) then ((some (bt318.1.set ((mn x1 x2) : Int).toNat t328 : List ByteArray)).bind fun y329 => ((impl_parities.f k y329).bind fun bt330 => (some (y329, bt330.1, bt318.2.2, true)))) else (none)) else (none))))) else (if (mx x1 x2) = (wrap64 ((x312000.length : Int) + 1)) then ((impl_xor.f bt324.1 x312001).bind fun t332 => (if 0 ≤ (mn x1 x2) then (if (mn x1 x2) < (bt318.1.length : Int) then ((some (bt318.1.set ((mn x1 x2) : Int).toNat t332 : List ByteArray)).bind fun y333 => ((impl_parities.f k y333).bind fun bt334 => (some (y333, bt318.2.1, bt334.2, true)))) else (none)) else (none))) else ((impl_xor.f bt324.1 x312001).bind fun t336 => ((impl_xor.f bt324.2 x312002).bind fun t337 => ((impl_weighed.f k t336 (mx x1 x2)).bind fun t338 => ((impl_xor.f t337 t338).bind fun t339 => ((impl_power.f k 2 (mn x1 x2)).bind fun t340 => ((impl_power.f k 2 (mx x1 x2)).bind fun t341 => ((impl_divided.f k t339 (Go.bits .xor .u8 t340 t341)).bind fun t342 => (if 0 ≤ (mn x1 x2) then (if (mn x1 x2) < (bt318.1.length : Int) then ((some (bt318.1.set ((mn x1 x2) : Int).toNat t342 : List ByteArray)).bind fun y343 => ((impl_xor.f t336 (rdOf ByteArray.empty y343 (mn x1 x2))).bind fun t345 => (if 0 ≤ (mx x1 x2) then (if (mx x1 x2) < (bt318.1.length : Int) then (some ((y343.set ((mx x1 x2) : Int).toNat t345), bt318.2.1, bt318.2.2, true)) else (none)) else (none)))) else (none)) else (none))))))))))))))
def impl_RecoverTwo.f (k : Nat) (l0_0 : List ByteArray) (a0_1 : ByteArray) (a0_2 : ByteArray) (a1 : Int) (a2 : Int) : Option (List ByteArray × ByteArray × ByteArray × Bool) := (impl_isDisk.f l0_0 a0_1 a0_2 a1).bind fun t313 => (if t313 = true then ((impl_isDisk.f l0_0 a0_1 a0_2 a2).bind fun t314 => (if t314 = true then (impl_RecoverTwo.j0 k a1 a2 (a1 == a2) l0_0 a0_1 a0_2) else (impl_RecoverTwo.j0 k a1 a2 true l0_0 a0_1 a0_2))) else (impl_RecoverTwo.j0 k a1 a2 true l0_0 a0_1 a0_2))
theorem impl_RecoverTwo.mono_l : ∀ k, (∀ y0 y1 y2 y3 y4 y5, LeO (impl_RecoverTwo.j0 k y0 y1 y2 y3 y4 y5) (impl_RecoverTwo.j0 (k + 1) y0 y1 y2 y3 y4 y5))
 | 0 => fun _ _ _ _ _ _ r h => by change none = some r at h; cases h
 | k + 1 => by
  have ih0 := impl_RecoverTwo.mono_l k
  ·intro y0 y1 y2 y3 y4 y5
   unfold impl_RecoverTwo.j0
   repeat' first
   | (with_reducible exact ih0 _ _ _ _ _ _)
   | (with_reducible exact impl_divided.mono _ _ _)
   | (with_reducible exact impl_parities.mono _ _)
   | (with_reducible exact impl_power.mono _ _ _)
   | (with_reducible exact impl_weighed.mono _ _ _)
   | (with_reducible exact impl_without.mono _ _ _ _ _)
   | (with_reducible exact LeO.refl _)
   | (with_reducible exact LeO.none _)
   | (with_reducible refine LeO.ite ?_ ?_)
   | (with_reducible refine LeO.bind ?_ (fun _ => ?_))
   | exact ih0 _ _ _ _ _ _
   | exact impl_divided.mono _ _ _
   | exact impl_parities.mono _ _
   | exact impl_power.mono _ _ _
   | exact impl_weighed.mono _ _ _
   | exact impl_without.mono _ _ _ _ _
   | exact LeO.none _
   | refine LeO.ite ?_ ?_
   | refine LeO.bind ?_ (fun _ => ?_)
theorem impl_RecoverTwo.mono : ∀ a0 a1 a2 a3 a4 k, LeO (impl_RecoverTwo.f k a0 a1 a2 a3 a4) (impl_RecoverTwo.f (k + 1) a0 a1 a2 a3 a4) := by
 intro a0 a1 a2 a3 a4 k
 have ih0 := impl_RecoverTwo.mono_l k
 unfold impl_RecoverTwo.f
 repeat' first
   | (with_reducible exact ih0 _ _ _ _ _ _)
   | (with_reducible exact impl_divided.mono _ _ _)
   | (with_reducible exact impl_parities.mono _ _)
   | (with_reducible exact impl_power.mono _ _ _)
   | (with_reducible exact impl_weighed.mono _ _ _)
   | (with_reducible exact impl_without.mono _ _ _ _ _)
   | (with_reducible exact LeO.refl _)
   | (with_reducible exact LeO.none _)
   | (with_reducible refine LeO.ite ?_ ?_)
   | (with_reducible refine LeO.bind ?_ (fun _ => ?_))
   | exact ih0 _ _ _ _ _ _
   | exact impl_divided.mono _ _ _
   | exact impl_parities.mono _ _
   | exact impl_power.mono _ _ _
   | exact impl_weighed.mono _ _ _
   | exact impl_without.mono _ _ _ _ _
   | exact LeO.none _
   | refine LeO.ite ?_ ?_
   | refine LeO.bind ?_ (fun _ => ?_)
def impl_RecoverTwo.T8 : Bool × List (List Nat × List Nat) := (true, [([], []), ([0], [0]), ([], []), ([], []), ([], []), ([4], [4]), ([3, 5], [3, 5]), ([], []), ([], []), ([7, 8, 6], [7, 8]), ([6, 9, 9], [6, 9]), ([], []), ([11, 10], [11]), ([], []), ([13, 12], [13]), ([12, 14], [12, 14]), ([10, 15, 14], [10, 15]), ([1, 2, 0, 1, 2, 3, 4, 5, 6, 7, 8, 9, 10, 11, 12, 13, 14, 15, 16], [1, 2]), ([17, 16, 16, 0, 1, 2, 3, 4, 5, 6, 7, 8, 9, 10, 11, 12, 13, 14, 15, 16], [16, 17])])
def impl_RecoverTwo.B8 : List Nat := [0, 1, 0, 0, 0, 16, 56, 0, 0, 504, 1016, 0, 4088, 0, 16376, 32760, 65528, 131071, 262143]
theorem impl_RecoverTwo.tab8 : rtab .any (opsOf Try.f34 8) = impl_RecoverTwo.T8 := by kernel_rfl
theorem impl_RecoverTwo.bits8 : waitsOk impl_RecoverTwo.T8.2 impl_RecoverTwo.B8 = true := by kernel_rfl
def impl_RecoverTwo.T9 : Bool × List (List Nat × List Nat) := (true, [([], []), ([0], [0]), ([], []), ([], []), ([], []), ([4], [4]), ([], []), ([5, 6], [5, 6]), ([7], [7]), ([3, 8], [3, 8]), ([1, 2, 0, 1, 2, 3, 4, 5, 6, 7, 8, 9], [1, 2]), ([10, 9, 9, 0, 1, 2, 3, 4, 5, 6, 7, 8, 9], [9, 10])])
def impl_RecoverTwo.B9 : List Nat := [0, 1, 0, 0, 0, 16, 0, 112, 240, 504, 1023, 2047]
theorem impl_RecoverTwo.tab9 : rtab .any (opsOf Try.f34 9) = impl_RecoverTwo.T9 := by kernel_rfl
theorem impl_RecoverTwo.bits9 : waitsOk impl_RecoverTwo.T9.2 impl_RecoverTwo.B9 = true := by kernel_rfl
def impl_RecoverTwo.T13 : Bool × List (List Nat × List Nat) := (true, [([], []), ([0], [0]), ([], []), ([], []), ([], []), ([4], [4]), ([3, 5], [3, 5]), ([], []), ([7, 6], [7]), ([6, 8, 8], [6, 8]), ([1, 2, 0, 1, 2, 3, 4, 5, 6, 7, 8, 9], [1, 2]), ([10, 9, 9, 0, 1, 2, 3, 4, 5, 6, 7, 8, 9], [9, 10])])
def impl_RecoverTwo.B13 : List Nat := [0, 1, 0, 0, 0, 16, 56, 0, 248, 504, 1023, 2047]
theorem impl_RecoverTwo.tab13 : rtab .any (opsOf Try.f34 13) = impl_RecoverTwo.T13 := by kernel_rfl
theorem impl_RecoverTwo.bits13 : waitsOk impl_RecoverTwo.T13.2 impl_RecoverTwo.B13 = true := by kernel_rfl
def impl_RecoverTwo.T16 : Bool × List (List Nat × List Nat) := (true, [([], []), ([0], [0]), ([], []), ([], []), ([], []), ([4], [4]), ([3, 5], [3, 5]), ([1, 2, 0, 1, 2, 3, 4, 5, 6], [1, 2]), ([7, 6, 6, 0, 1, 2, 3, 4, 5, 6], [6, 7])])
def impl_RecoverTwo.B16 : List Nat := [0, 1, 0, 0, 0, 16, 56, 127, 255]
theorem impl_RecoverTwo.tab16 : rtab .any (opsOf Try.f34 16) = impl_RecoverTwo.T16 := by kernel_rfl
theorem impl_RecoverTwo.bits16 : waitsOk impl_RecoverTwo.T16.2 impl_RecoverTwo.B16 = true := by kernel_rfl
set_option maxHeartbeats 8000000 in
set_option maxRecDepth 100000 in
theorem impl_RecoverTwo.calls (k : Nat) (A0_0 : Option Addr) (c0_0 : Nat) (l0_0 : List ByteArray) (a0_1 : ByteArray) (a0_2 : ByteArray) (a1 : Int) (a2 : Int) (r1 : List ByteArray) (r2 : ByteArray) (r3 : ByteArray) (r4 : Bool) (w : World) (hr0_0 : Kd.C Kd.string w A0_0 l0_0.length l0_0) (hc0_0 : l0_0.length ≤ c0_0) (h : impl_RecoverTwo.f k l0_0 a0_1 a0_2 a1 a2 = some (r1, r2, r3, r4)) :
  Calls Try.prog 34 #[.agg #[.slice A0_0 l0_0.length c0_0, .string a0_1, .string a0_2], .int .i64 a1, .int .i64 a2] w fun e w' => ∃ v0_ : Value, e = .returned (.tuple #[.agg #[v0_, .string r2, .string r3], .bool r4]) ∧ Kd.R Kd.string 9 w' w.heap.size (fun _ => True) v0_ r1 ∧ Below w.heap.size w w' := by
 have hu27 := Try.underlying27; have HR0_0 := aM hr0_0; have HC0_0 := aM hc0_0; clear hr0_0 hc0_0; have HB := aM (Below.refl w.heap.size w)
 have H : ((impl_isDisk.f l0_0 a0_1 a0_2 a1).bind fun t313 => (if t313 = true then ((impl_isDisk.f l0_0 a0_1 a0_2 a2).bind fun t314 => (if t314 = true then (impl_RecoverTwo.j0 k a1 a2 (a1 == a2) l0_0 a0_1 a0_2) else (impl_RecoverTwo.j0 k a1 a2 true l0_0 a0_1 a0_2))) else (impl_RecoverTwo.j0 k a1 a2 true l0_0 a0_1 a0_2))) = some (r1, r2, r3, r4) := h
 clear h; have HC4 := aM H; clear H
 go_enter Try.func34, Try.ntmps34
 go_upto_region 1 with (first | ((with_reducible refine gate_dst (N := 3) rfl ?_); refine box_event ?hg (N := 3) ?hd (cs := #[.slice A0_0 l0_0.length c0_0, .string a0_1, .string a0_2]) (t := 27) ?hr ?_; (case hd => rfl); (case hg => rfl); (case hr => first | (go_simp; done) | (go_simp; rfl)); intro gb311 hg w5 hbox hb; have BK311 := aM (hbox); have GW311 := aM ((by rw [hg]; exact (zZ (zH HB.out)) : w.heap.size ≤ gb311)); have GE311 := aM ((by rw [hg]; exact (zZ (zH HB.out)) : w.heap.size ≤ gb311)); replace HB := aM (zT (zH HB.out) hb); clear hb hbox hg) | ((with_reducible refine gate_dst (N := 6) rfl ?_); refine box_event ?hg (N := 6) ?hd (cs := #[.slice none 0 0, .string (⟨#[]⟩ : ByteArray), .string (⟨#[]⟩ : ByteArray)]) (t := 27) ?hr ?_; (case hd => rfl); (case hg => rfl); (case hr => first | (go_simp; done) | (go_simp; rfl)); intro gb312 hg w6 hbox hb; have BK312 := aM (hbox); have GW312 := aM ((by rw [hg]; exact (zZ (zH HB.out)) : w.heap.size ≤ gb312)); have GE312 := aM ((by rw [hg]; exact (zZ (zH HB.out)) : w.heap.size ≤ gb312)); replace HB := aM (zT (zH HB.out) hb); have NB311_312 := nL BK311.out hg; have NB312_311 := nR BK311.out hg; replace BK311 := yK BK311.out hb; clear hb hbox hg))
 (try simp only [Act.put, qA, qB, qC])
 go_cut [27] (fun v27 wc => ∃ (kq : Nat) (x27_3 : Bool), v27 = .bool x27_3 ∧ Aside0 (impl_RecoverTwo.j0 kq a1 a2 x27_3 l0_0 a0_1 a0_2 = some (r1, r2, r3, r4)) ∧ Aside0 (kq ≤ k) ∧ Aside0 (wc.heap[gb311]? = some (.cells #[(.slice A0_0 l0_0.length c0_0), .string a0_1, .string a0_2] 27 (0, 0))) ∧ Aside0 (wc.heap[gb312]? = some (.cells #[(.slice none 0 0), .string (⟨#[]⟩ : ByteArray), .string (⟨#[]⟩ : ByteArray)] 27 (0, 0))) ∧ Aside0 (Below w.heap.size w wc))
 case first =>
  have H := HC4.out; clear HC4; replace H := Option.bind_eq_some_iff.mp H; obtain ⟨t313, A70, H⟩ := H
  replace H : (if t313 = true then ((impl_isDisk.f l0_0 a0_1 a0_2 a2).bind fun t314 => (if t314 = true then (impl_RecoverTwo.j0 k a1 a2 (a1 == a2) l0_0 a0_1 a0_2) else (impl_RecoverTwo.j0 k a1 a2 true l0_0 a0_1 a0_2))) else (impl_RecoverTwo.j0 k a1 a2 true l0_0 a0_1 a0_2)) = some (r1, r2, r3, r4) := H
  have A7 := aM A70; clear A70
  by_cases c8 : t313 = true
  ·subst c8
   have H1 : ((impl_isDisk.f l0_0 a0_1 a0_2 a2).bind fun t314 => (if t314 = true then (impl_RecoverTwo.j0 k a1 a2 (a1 == a2) l0_0 a0_1 a0_2) else (impl_RecoverTwo.j0 k a1 a2 true l0_0 a0_1 a0_2))) = some (r1, r2, r3, r4) := by rw [if_pos rfl] at H; exact H
   clear H; have H := H1; clear H1; replace H := Option.bind_eq_some_iff.mp H; obtain ⟨t314, A90, H⟩ := H; replace H : (if t314 = true then (impl_RecoverTwo.j0 k a1 a2 (a1 == a2) l0_0 a0_1 a0_2) else (impl_RecoverTwo.j0 k a1 a2 true l0_0 a0_1 a0_2)) = some (r1, r2, r3, r4) := H; have A9 := aM A90; clear A90
   by_cases c10 : t314 = true
   ·subst c10
    have H1 : (impl_RecoverTwo.j0 k a1 a2 (a1 == a2) l0_0 a0_1 a0_2) = some (r1, r2, r3, r4) := by rw [if_pos rfl] at H; exact H
    clear H; have H := H1; clear H1; have H' := aM H; clear H; have hnb11 := NB311_312.out; have hnc11 := NB312_311.out; have hcz12_0 : w6.cell? ⟨gb311, 0, none⟩ = some (.slice A0_0 l0_0.length c0_0) := yc BK311.out 0; have hcz12_1 : w6.cell? ⟨gb311, 1, none⟩ = some (.string a0_1) := yc BK311.out 1; have hcz12_2 : w6.cell? ⟨gb311, 2, none⟩ = some (.string a0_2) := yc BK311.out 2; have hfz12_0 := yZ BK311.out 0; have hfz12_1 := yZ BK311.out 1; have hfz12_2 := yZ BK311.out 2
    go_wp2_with (first | ((with_reducible refine gate_callee (f := 55) rfl ?_); refine goesL_ (some 15) rfl rfl Try.func55 (by kernel_rfl) rfl #[.agg #[.slice A0_0 l0_0.length c0_0, .string a0_1, .string a0_2], .int .i64 a1] rfl mA ?_; (with_reducible refine (impl_isDisk.calls _ _ l0_0 a0_1 a0_2 a1 true _ ?side1 ?side2 A7.out).mono ?_); (case side1 => exact cK HR0_0.out HB.out); (case side2 => exact HC0_0.out); rintro e w13 ⟨rfl, hb⟩; refine ⟨_, rfl, ?_⟩; replace BK311 := yK BK311.out hb; replace BK312 := yK BK312.out hb; replace HB := aM (zT (zH HB.out) hb); (try clear hb); have hcz14_0 : w13.cell? ⟨gb311, 0, none⟩ = some (.slice A0_0 l0_0.length c0_0) := yc BK311.out 0; have hcz14_1 : w13.cell? ⟨gb311, 1, none⟩ = some (.string a0_1) := yc BK311.out 1; have hcz14_2 : w13.cell? ⟨gb311, 2, none⟩ = some (.string a0_2) := yc BK311.out 2; have hfz14_0 := yZ BK311.out 0; have hfz14_1 := yZ BK311.out 1; have hfz14_2 := yZ BK311.out 2) | (go_at_call 55; (with_reducible refine (impl_isDisk.calls _ _ l0_0 a0_1 a0_2 a2 true _ ?side1 ?side2 A9.out).mono ?_); (case side1 => exact cK HR0_0.out HB.out); (case side2 => exact HC0_0.out); rintro e w15 ⟨rfl, hb⟩; replace BK311 := yK BK311.out hb; replace BK312 := yK BK312.out hb; replace HB := aM (zT (zH HB.out) hb); (try clear hb)))
    go_meet
    case rel => exact ⟨_, ((a1 == a2)), (by first | rfl | (simp; done) | (simp [*]; done)), H', ⟨by first | omega | exact Nat.le_refl _⟩, ⟨yH BK311.out⟩, ⟨yH BK312.out⟩, ⟨zH HB.out⟩⟩
   ·replace c10 := Bool.eq_false_iff.mpr c10
    subst c10
    have H1 : (impl_RecoverTwo.j0 k a1 a2 true l0_0 a0_1 a0_2) = some (r1, r2, r3, r4) := by rw [if_neg (show ¬ (false = true) by decide)] at H; exact H
    clear H; have H := H1; clear H1; have H' := aM H; clear H; have hnb16 := NB311_312.out; have hnc16 := NB312_311.out; have hcz17_0 : w6.cell? ⟨gb311, 0, none⟩ = some (.slice A0_0 l0_0.length c0_0) := yc BK311.out 0; have hcz17_1 : w6.cell? ⟨gb311, 1, none⟩ = some (.string a0_1) := yc BK311.out 1; have hcz17_2 : w6.cell? ⟨gb311, 2, none⟩ = some (.string a0_2) := yc BK311.out 2; have hfz17_0 := yZ BK311.out 0; have hfz17_1 := yZ BK311.out 1; have hfz17_2 := yZ BK311.out 2
    go_wp2_with (first | ((with_reducible refine gate_callee (f := 55) rfl ?_); refine goesL_ (some 15) rfl rfl Try.func55 (by kernel_rfl) rfl #[.agg #[.slice A0_0 l0_0.length c0_0, .string a0_1, .string a0_2], .int .i64 a1] rfl mA ?_; (with_reducible refine (impl_isDisk.calls _ _ l0_0 a0_1 a0_2 a1 true _ ?side1 ?side2 A7.out).mono ?_); (case side1 => exact cK HR0_0.out HB.out); (case side2 => exact HC0_0.out); rintro e w18 ⟨rfl, hb⟩; refine ⟨_, rfl, ?_⟩; replace BK311 := yK BK311.out hb; replace BK312 := yK BK312.out hb; replace HB := aM (zT (zH HB.out) hb); (try clear hb); have hcz19_0 : w18.cell? ⟨gb311, 0, none⟩ = some (.slice A0_0 l0_0.length c0_0) := yc BK311.out 0; have hcz19_1 : w18.cell? ⟨gb311, 1, none⟩ = some (.string a0_1) := yc BK311.out 1; have hcz19_2 : w18.cell? ⟨gb311, 2, none⟩ = some (.string a0_2) := yc BK311.out 2; have hfz19_0 := yZ BK311.out 0; have hfz19_1 := yZ BK311.out 1; have hfz19_2 := yZ BK311.out 2) | (go_at_call 55; (with_reducible refine (impl_isDisk.calls _ _ l0_0 a0_1 a0_2 a2 false _ ?side1 ?side2 A9.out).mono ?_); (case side1 => exact cK HR0_0.out HB.out); (case side2 => exact HC0_0.out); rintro e w20 ⟨rfl, hb⟩; replace BK311 := yK BK311.out hb; replace BK312 := yK BK312.out hb; replace HB := aM (zT (zH HB.out) hb); (try clear hb)))
    go_meet
    case rel => exact ⟨_, (true), (by first | rfl | (simp; done) | (simp [*]; done)), H', ⟨by first | omega | exact Nat.le_refl _⟩, ⟨yH BK311.out⟩, ⟨yH BK312.out⟩, ⟨zH HB.out⟩⟩
  ·replace c8 := Bool.eq_false_iff.mpr c8
   subst c8
   have H1 : (impl_RecoverTwo.j0 k a1 a2 true l0_0 a0_1 a0_2) = some (r1, r2, r3, r4) := by rw [if_neg (show ¬ (false = true) by decide)] at H; exact H
   clear H; have H := H1; clear H1; have H' := aM H; clear H; have hnb21 := NB311_312.out; have hnc21 := NB312_311.out; have hcz22_0 : w6.cell? ⟨gb311, 0, none⟩ = some (.slice A0_0 l0_0.length c0_0) := yc BK311.out 0; have hcz22_1 : w6.cell? ⟨gb311, 1, none⟩ = some (.string a0_1) := yc BK311.out 1; have hcz22_2 : w6.cell? ⟨gb311, 2, none⟩ = some (.string a0_2) := yc BK311.out 2; have hfz22_0 := yZ BK311.out 0; have hfz22_1 := yZ BK311.out 1; have hfz22_2 := yZ BK311.out 2
   go_wp2_with (first | ((with_reducible refine gate_callee (f := 55) rfl ?_); refine goesL_ (some 15) rfl rfl Try.func55 (by kernel_rfl) rfl #[.agg #[.slice A0_0 l0_0.length c0_0, .string a0_1, .string a0_2], .int .i64 a1] rfl mA ?_; (with_reducible refine (impl_isDisk.calls _ _ l0_0 a0_1 a0_2 a1 false _ ?side1 ?side2 A7.out).mono ?_); (case side1 => exact cK HR0_0.out HB.out); (case side2 => exact HC0_0.out); rintro e w23 ⟨rfl, hb⟩; refine ⟨_, rfl, ?_⟩; replace BK311 := yK BK311.out hb; replace BK312 := yK BK312.out hb; replace HB := aM (zT (zH HB.out) hb); (try clear hb)))
   go_meet
   case rel => exact ⟨_, (true), (by first | rfl | (simp; done) | (simp [*]; done)), H', ⟨by first | omega | exact Nat.le_refl _⟩, ⟨yH BK311.out⟩, ⟨yH BK312.out⟩, ⟨zH HB.out⟩⟩
 case rest =>
  clear HC4
  (try clear c8); (try clear c10); (try clear hcz12_0); (try clear hcz12_1); (try clear hcz12_2); (try clear hcz14_0); (try clear hcz14_1); (try clear hcz14_2); (try clear hcz17_0); (try clear hcz17_1); (try clear hcz17_2); (try clear hcz19_0); (try clear hcz19_1); (try clear hcz19_2); (try clear hcz22_0); (try clear hcz22_1); (try clear hcz22_2); (try clear hfz12_0); (try clear hfz12_1); (try clear hfz12_2); (try clear hfz14_0); (try clear hfz14_1); (try clear hfz14_2); (try clear hfz17_0); (try clear hfz17_1); (try clear hfz17_2); (try clear hfz19_0); (try clear hfz19_1); (try clear hfz19_2); (try clear hfz22_0); (try clear hfz22_1); (try clear hfz22_2)
  obtain ⟨kq, x27_3, rfl, HA, HJ3, BK311, BK312, HB⟩ := hcut
  cases kq with
  | zero => exact absurd HA.out (fun h_ => by change none = some _ at h_; cases h_)
  | succ kj3 =>
   have H := HA.out; clear HA
   simp only [impl_RecoverTwo.j0] at H
   by_cases c24 : x27_3 = true
   ·subst c24
    have H1 : (some (([] : List ByteArray), (⟨#[]⟩ : ByteArray), (⟨#[]⟩ : ByteArray), false)) = some (r1, r2, r3, r4) := by rw [if_pos rfl] at H; exact H
    clear H; have H := H1; clear H1
    simp only [Option.some.injEq, Prod.mk.injEq] at H
    obtain ⟨rfl, rfl, rfl, rfl⟩ := H; have hnb25 := NB312_311.out; have hnc25 := NB311_312.out; have hcz26_0 : wc.cell? ⟨gb312, 0, none⟩ = some (.slice none 0 0) := yc BK312.out 0; have hcz26_1 : wc.cell? ⟨gb312, 1, none⟩ = some (.string (⟨#[]⟩ : ByteArray)) := yc BK312.out 1; have hcz26_2 : wc.cell? ⟨gb312, 2, none⟩ = some (.string (⟨#[]⟩ : ByteArray)) := yc BK312.out 2; have hfz26_0 := yZ BK312.out 0; have hfz26_1 := yZ BK312.out 1; have hfz26_2 := yZ BK312.out 2
    go_wp2
    refine bodyPost_ret (results_ct rfl _ _ gb312 27 #[.slice none 0 0, .string (⟨#[]⟩ : ByteArray), .string (⟨#[]⟩ : ByteArray)] (0, 0) _ rfl (by refine yW ?_; refine yP (cs := #[.slice none 0 0, .string (⟨#[]⟩ : ByteArray), .string (⟨#[]⟩ : ByteArray)]) ?_ 2 _ rfl; refine yW ?_; refine yP (cs := #[.slice none 0 0, .string (⟨#[]⟩ : ByteArray), .string (⟨#[]⟩ : ByteArray)]) ?_ 1 _ rfl; refine yW ?_; refine yP (cs := #[.slice none 0 0, .string (⟨#[]⟩ : ByteArray), .string (⟨#[]⟩ : ByteArray)]) ?_ 0 _ rfl; refine yW ?_; exact BK312.out) Try.underlying27 rfl (by kernel_rfl)) rfl ?_
    exact ⟨_, eW, by first | exact Kd.R_nil _ _ _ _ _ | exact Kd.N_nil _ _ _ _ _ | exact Kd.V_nil _ _ _ _ _ | exact Kd.Q_nil _ _ _ _ _ | exact Kd.S_nil _ _ _ _ _, zH HB.out⟩
   ·replace c24 := Bool.eq_false_iff.mpr c24
    subst c24
    have H1 : ((impl_without.f kj3 l0_0 a0_1 a0_2 (([mn a1 a2, mx a1 a2] : List Int))).bind fun bt318 => ((impl_parities.f kj3 bt318.1).bind fun bt324 => (if (mn a1 a2) = (l0_0.length : Int) then (some (bt318.1, bt324.1, bt324.2, true)) else (if (mx a1 a2) = (l0_0.length : Int) then ((impl_xor.f bt324.2 a0_2).bind fun t326 => ((impl_power.f kj3 2 (mn a1 a2)).bind fun t327 => ((impl_divided.f kj3 t326 t327).bind fun t328 => (if 0 ≤ (mn a1 a2) then (if (mn a1 a2) < (bt318.1.length : Int) then ((some (bt318.1.set ((mn a1 a2) : Int).toNat t328 : List ByteArray)).bind fun y329 => ((impl_parities.f kj3 y329).bind fun bt330 => (some (y329, bt330.1, bt318.2.2, true)))) else (none)) else (none))))) else (if (mx a1 a2) = (wrap64 ((l0_0.length : Int) + 1)) then ((impl_xor.f bt324.1 a0_1).bind fun t332 => (if 0 ≤ (mn a1 a2) then (if (mn a1 a2) < (bt318.1.length : Int) then ((some (bt318.1.set ((mn a1 a2) : Int).toNat t332 : List ByteArray)).bind fun y333 => ((impl_parities.f kj3 y333).bind fun bt334 => (some (y333, bt318.2.1, bt334.2, true)))) else (none)) else (none))) else ((impl_xor.f bt324.1 a0_1).bind fun t336 => ((impl_xor.f bt324.2 a0_2).bind fun t337 => ((impl_weighed.f kj3 t336 (mx a1 a2)).bind fun t338 => ((impl_xor.f t337 t338).bind fun t339 => ((impl_power.f kj3 2 (mn a1 a2)).bind fun t340 => ((impl_power.f kj3 2 (mx a1 a2)).bind fun t341 => ((impl_divided.f kj3 t339 (Go.bits .xor .u8 t340 t341)).bind fun t342 => (if 0 ≤ (mn a1 a2) then (if (mn a1 a2) < (bt318.1.length : Int) then ((some (bt318.1.set ((mn a1 a2) : Int).toNat t342 : List ByteArray)).bind fun y343 => ((impl_xor.f t336 (rdOf ByteArray.empty y343 (mn a1 a2))).bind fun t345 => (if 0 ≤ (mx a1 a2) then (if (mx a1 a2) < (bt318.1.length : Int) then (some ((y343.set ((mx a1 a2) : Int).toNat t345), bt318.2.1, bt318.2.2, true)) else (none)) else (none)))) else (none)) else (none)))))))))))))) = some (r1, r2, r3, r4) := by rw [if_neg (show ¬ (false = true) by decide)] at H; exact H
    clear H; have H := H1; clear H1; obtain ⟨ji27, hji27⟩ : ∃ j_ : Int, (mn a1 a2) = j_ := ⟨_, rfl⟩
    replace H : ((impl_without.f kj3 l0_0 a0_1 a0_2 (([ji27, mx a1 a2] : List Int))).bind fun bt318 => ((impl_parities.f kj3 bt318.1).bind fun bt324 => (if (ji27) = (l0_0.length : Int) then (some (bt318.1, bt324.1, bt324.2, true)) else (if (mx a1 a2) = (l0_0.length : Int) then ((impl_xor.f bt324.2 a0_2).bind fun t326 => ((impl_power.f kj3 2 (ji27)).bind fun t327 => ((impl_divided.f kj3 t326 t327).bind fun t328 => (if 0 ≤ (ji27) then (if (ji27) < (bt318.1.length : Int) then ((some (bt318.1.set ((ji27) : Int).toNat t328 : List ByteArray)).bind fun y329 => ((impl_parities.f kj3 y329).bind fun bt330 => (some (y329, bt330.1, bt318.2.2, true)))) else (none)) else (none))))) else (if (mx a1 a2) = (wrap64 ((l0_0.length : Int) + 1)) then ((impl_xor.f bt324.1 a0_1).bind fun t332 => (if 0 ≤ (ji27) then (if (ji27) < (bt318.1.length : Int) then ((some (bt318.1.set ((ji27) : Int).toNat t332 : List ByteArray)).bind fun y333 => ((impl_parities.f kj3 y333).bind fun bt334 => (some (y333, bt318.2.1, bt334.2, true)))) else (none)) else (none))) else ((impl_xor.f bt324.1 a0_1).bind fun t336 => ((impl_xor.f bt324.2 a0_2).bind fun t337 => ((impl_weighed.f kj3 t336 (mx a1 a2)).bind fun t338 => ((impl_xor.f t337 t338).bind fun t339 => ((impl_power.f kj3 2 (ji27)).bind fun t340 => ((impl_power.f kj3 2 (mx a1 a2)).bind fun t341 => ((impl_divided.f kj3 t339 (Go.bits .xor .u8 t340 t341)).bind fun t342 => (if 0 ≤ (ji27) then (if (ji27) < (bt318.1.length : Int) then ((some (bt318.1.set ((ji27) : Int).toNat t342 : List ByteArray)).bind fun y343 => ((impl_xor.f t336 (rdOf ByteArray.empty y343 (ji27))).bind fun t345 => (if 0 ≤ (mx a1 a2) then (if (mx a1 a2) < (bt318.1.length : Int) then (some ((y343.set ((mx a1 a2) : Int).toNat t345), bt318.2.1, bt318.2.2, true)) else (none)) else (none)))) else (none)) else (none)))))))))))))) = some (r1, r2, r3, r4) := by first | (rw [hji27] at H; exact H) | (simp only [hji27] at H ⊢; exact H)
    have hji27_ : (if a2 < a1 then a2 else a1) = ji27 := hji27; obtain ⟨ji28, hji28⟩ : ∃ j_ : Int, (mx a1 a2) = j_ := ⟨_, rfl⟩
    replace H : ((impl_without.f kj3 l0_0 a0_1 a0_2 (([ji27, ji28] : List Int))).bind fun bt318 => ((impl_parities.f kj3 bt318.1).bind fun bt324 => (if (ji27) = (l0_0.length : Int) then (some (bt318.1, bt324.1, bt324.2, true)) else (if (ji28) = (l0_0.length : Int) then ((impl_xor.f bt324.2 a0_2).bind fun t326 => ((impl_power.f kj3 2 (ji27)).bind fun t327 => ((impl_divided.f kj3 t326 t327).bind fun t328 => (if 0 ≤ (ji27) then (if (ji27) < (bt318.1.length : Int) then ((some (bt318.1.set ((ji27) : Int).toNat t328 : List ByteArray)).bind fun y329 => ((impl_parities.f kj3 y329).bind fun bt330 => (some (y329, bt330.1, bt318.2.2, true)))) else (none)) else (none))))) else (if (ji28) = (wrap64 ((l0_0.length : Int) + 1)) then ((impl_xor.f bt324.1 a0_1).bind fun t332 => (if 0 ≤ (ji27) then (if (ji27) < (bt318.1.length : Int) then ((some (bt318.1.set ((ji27) : Int).toNat t332 : List ByteArray)).bind fun y333 => ((impl_parities.f kj3 y333).bind fun bt334 => (some (y333, bt318.2.1, bt334.2, true)))) else (none)) else (none))) else ((impl_xor.f bt324.1 a0_1).bind fun t336 => ((impl_xor.f bt324.2 a0_2).bind fun t337 => ((impl_weighed.f kj3 t336 (ji28)).bind fun t338 => ((impl_xor.f t337 t338).bind fun t339 => ((impl_power.f kj3 2 (ji27)).bind fun t340 => ((impl_power.f kj3 2 (ji28)).bind fun t341 => ((impl_divided.f kj3 t339 (Go.bits .xor .u8 t340 t341)).bind fun t342 => (if 0 ≤ (ji27) then (if (ji27) < (bt318.1.length : Int) then ((some (bt318.1.set ((ji27) : Int).toNat t342 : List ByteArray)).bind fun y343 => ((impl_xor.f t336 (rdOf ByteArray.empty y343 (ji27))).bind fun t345 => (if 0 ≤ (ji28) then (if (ji28) < (bt318.1.length : Int) then (some ((y343.set ((ji28) : Int).toNat t345), bt318.2.1, bt318.2.2, true)) else (none)) else (none)))) else (none)) else (none)))))))))))))) = some (r1, r2, r3, r4) := by first | (rw [hji28] at H; exact H) | (simp only [hji28] at H ⊢; exact H)
    have hji28_ : (if a1 < a2 then a2 else a1) = ji28 := hji28; obtain ⟨y315, hy315⟩ : ∃ y_ : List Int, y_ = (([ji27, ji28] : List Int)) := ⟨_, rfl⟩
    replace H : ((impl_without.f kj3 l0_0 a0_1 a0_2 y315).bind fun bt318 => ((impl_parities.f kj3 bt318.1).bind fun bt324 => (if (ji27) = (l0_0.length : Int) then (some (bt318.1, bt324.1, bt324.2, true)) else (if (ji28) = (l0_0.length : Int) then ((impl_xor.f bt324.2 a0_2).bind fun t326 => ((impl_power.f kj3 2 (ji27)).bind fun t327 => ((impl_divided.f kj3 t326 t327).bind fun t328 => (if 0 ≤ (ji27) then (if (ji27) < (bt318.1.length : Int) then ((some (bt318.1.set ((ji27) : Int).toNat t328 : List ByteArray)).bind fun y329 => ((impl_parities.f kj3 y329).bind fun bt330 => (some (y329, bt330.1, bt318.2.2, true)))) else (none)) else (none))))) else (if (ji28) = (wrap64 ((l0_0.length : Int) + 1)) then ((impl_xor.f bt324.1 a0_1).bind fun t332 => (if 0 ≤ (ji27) then (if (ji27) < (bt318.1.length : Int) then ((some (bt318.1.set ((ji27) : Int).toNat t332 : List ByteArray)).bind fun y333 => ((impl_parities.f kj3 y333).bind fun bt334 => (some (y333, bt318.2.1, bt334.2, true)))) else (none)) else (none))) else ((impl_xor.f bt324.1 a0_1).bind fun t336 => ((impl_xor.f bt324.2 a0_2).bind fun t337 => ((impl_weighed.f kj3 t336 (ji28)).bind fun t338 => ((impl_xor.f t337 t338).bind fun t339 => ((impl_power.f kj3 2 (ji27)).bind fun t340 => ((impl_power.f kj3 2 (ji28)).bind fun t341 => ((impl_divided.f kj3 t339 (Go.bits .xor .u8 t340 t341)).bind fun t342 => (if 0 ≤ (ji27) then (if (ji27) < (bt318.1.length : Int) then ((some (bt318.1.set ((ji27) : Int).toNat t342 : List ByteArray)).bind fun y343 => ((impl_xor.f t336 (rdOf ByteArray.empty y343 (ji27))).bind fun t345 => (if 0 ≤ (ji28) then (if (ji28) < (bt318.1.length : Int) then (some ((y343.set ((ji28) : Int).toNat t345), bt318.2.1, bt318.2.2, true)) else (none)) else (none)))) else (none)) else (none)))))))))))))) = some (r1, r2, r3, r4) := by first | (rw [hy315]; with_reducible exact H) | (have H2_ := (Option.bind_some _ _).symm.trans H; rw [hy315]; with_reducible exact H2_) | (have H2_ := (Option.bind_some _ _).symm.trans H; with_reducible exact H2_) | with_reducible exact H | (rw [hy315]; exact H) | exact H
    have Ny315 := aM hy315; clear hy315; replace H := Option.bind_eq_some_iff.mp H; obtain ⟨⟨t318, t321, t322⟩, A290, H⟩ := H
    replace H : ((impl_parities.f kj3 t318).bind fun bt324 => (if (ji27) = (l0_0.length : Int) then (some (t318, bt324.1, bt324.2, true)) else (if (ji28) = (l0_0.length : Int) then ((impl_xor.f bt324.2 a0_2).bind fun t326 => ((impl_power.f kj3 2 (ji27)).bind fun t327 => ((impl_divided.f kj3 t326 t327).bind fun t328 => (if 0 ≤ (ji27) then (if (ji27) < (t318.length : Int) then ((some (t318.set ((ji27) : Int).toNat t328 : List ByteArray)).bind fun y329 => ((impl_parities.f kj3 y329).bind fun bt330 => (some (y329, bt330.1, t322, true)))) else (none)) else (none))))) else (if (ji28) = (wrap64 ((l0_0.length : Int) + 1)) then ((impl_xor.f bt324.1 a0_1).bind fun t332 => (if 0 ≤ (ji27) then (if (ji27) < (t318.length : Int) then ((some (t318.set ((ji27) : Int).toNat t332 : List ByteArray)).bind fun y333 => ((impl_parities.f kj3 y333).bind fun bt334 => (some (y333, t321, bt334.2, true)))) else (none)) else (none))) else ((impl_xor.f bt324.1 a0_1).bind fun t336 => ((impl_xor.f bt324.2 a0_2).bind fun t337 => ((impl_weighed.f kj3 t336 (ji28)).bind fun t338 => ((impl_xor.f t337 t338).bind fun t339 => ((impl_power.f kj3 2 (ji27)).bind fun t340 => ((impl_power.f kj3 2 (ji28)).bind fun t341 => ((impl_divided.f kj3 t339 (Go.bits .xor .u8 t340 t341)).bind fun t342 => (if 0 ≤ (ji27) then (if (ji27) < (t318.length : Int) then ((some (t318.set ((ji27) : Int).toNat t342 : List ByteArray)).bind fun y343 => ((impl_xor.f t336 (rdOf ByteArray.empty y343 (ji27))).bind fun t345 => (if 0 ≤ (ji28) then (if (ji28) < (t318.length : Int) then (some ((y343.set ((ji28) : Int).toNat t345), t321, t322, true)) else (none)) else (none)))) else (none)) else (none))))))))))))) = some (r1, r2, r3, r4) := H
    have A29 := aM A290; clear A290; replace H := Option.bind_eq_some_iff.mp H; obtain ⟨⟨t324, t325⟩, A300, H⟩ := H
    replace H : (if (ji27) = (l0_0.length : Int) then (some (t318, t324, t325, true)) else (if (ji28) = (l0_0.length : Int) then ((impl_xor.f t325 a0_2).bind fun t326 => ((impl_power.f kj3 2 (ji27)).bind fun t327 => ((impl_divided.f kj3 t326 t327).bind fun t328 => (if 0 ≤ (ji27) then (if (ji27) < (t318.length : Int) then ((some (t318.set ((ji27) : Int).toNat t328 : List ByteArray)).bind fun y329 => ((impl_parities.f kj3 y329).bind fun bt330 => (some (y329, bt330.1, t322, true)))) else (none)) else (none))))) else (if (ji28) = (wrap64 ((l0_0.length : Int) + 1)) then ((impl_xor.f t324 a0_1).bind fun t332 => (if 0 ≤ (ji27) then (if (ji27) < (t318.length : Int) then ((some (t318.set ((ji27) : Int).toNat t332 : List ByteArray)).bind fun y333 => ((impl_parities.f kj3 y333).bind fun bt334 => (some (y333, t321, bt334.2, true)))) else (none)) else (none))) else ((impl_xor.f t324 a0_1).bind fun t336 => ((impl_xor.f t325 a0_2).bind fun t337 => ((impl_weighed.f kj3 t336 (ji28)).bind fun t338 => ((impl_xor.f t337 t338).bind fun t339 => ((impl_power.f kj3 2 (ji27)).bind fun t340 => ((impl_power.f kj3 2 (ji28)).bind fun t341 => ((impl_divided.f kj3 t339 (Go.bits .xor .u8 t340 t341)).bind fun t342 => (if 0 ≤ (ji27) then (if (ji27) < (t318.length : Int) then ((some (t318.set ((ji27) : Int).toNat t342 : List ByteArray)).bind fun y343 => ((impl_xor.f t336 (rdOf ByteArray.empty y343 (ji27))).bind fun t345 => (if 0 ≤ (ji28) then (if (ji28) < (t318.length : Int) then (some ((y343.set ((ji28) : Int).toNat t345), t321, t322, true)) else (none)) else (none)))) else (none)) else (none)))))))))))) = some (r1, r2, r3, r4) := H
    have A30 := aM A300; clear A300
    by_cases c31 : (ji27) = (l0_0.length : Int)
    ·rw [if_pos c31] at H
     have c31b0 : ((ji27) == (l0_0.length : Int)) = true := beq_iff_eq.mpr c31; have c31b1 : ((ji27) != (l0_0.length : Int)) = false := bne_eq_false_iff_eq.mpr c31; clear c31
     simp only [Option.some.injEq, Prod.mk.injEq] at H
     obtain ⟨rfl, rfl, rfl, rfl⟩ := H; have hnb32 := NB311_312.out; have hnc32 := NB312_311.out; have hcz33_0 : wc.cell? ⟨gb311, 0, none⟩ = some (.slice A0_0 l0_0.length c0_0) := yc BK311.out 0; have hcz33_1 : wc.cell? ⟨gb311, 1, none⟩ = some (.string a0_1) := yc BK311.out 1; have hcz33_2 : wc.cell? ⟨gb311, 2, none⟩ = some (.string a0_2) := yc BK311.out 2; have hfz33_0 := yZ BK311.out 0; have hfz33_1 := yZ BK311.out 1; have hfz33_2 := yZ BK311.out 2
     go_wp2_with (first | ((with_reducible refine gate_dst (N := 41) rfl ?_); refine Kd.R_lit (Kd.int .i64) _ 3 ?hg (N := 41) ?hd (xs := ([ji27, ji28] : List Int)) (inner := [.int .i64 ji27, .int .i64 ji28]) (ok := fun _ => True) (okp := fun _ => True) ?hr ?hp (fun _ hk => hk) trivial (Below.refl _ _) (Nat.le_refl _) (by simp) ?_; (case hd => rfl); (case hg => rfl); (case hr => first | (go_simp; done) | (go_simp; rfl)); (case hp => exact (Reps.one (show Kd.M (Kd.int .i64) _ _ _ ji27 [.int .i64 ji27] from rfl) (Reps.one (show Kd.M (Kd.int .i64) _ _ _ ji28 [.int .i64 ji28] from rfl) (Reps.none _ _)))); intro v316 w34 ho35 hb hg_ hnew_; clear hg_ hnew_; (first | rw [← Ny315.out] at ho35 | (simp only [Int.reduceToNat] at ho35; rw [← Ny315.out] at ho35)); have HO317 := aM (xL ho35 (zZ (zH HB.out))); replace BK311 := yK BK311.out hb; replace BK312 := yK BK312.out hb; replace HB := aM (zT (zH HB.out) hb); clear hb ho35; obtain ⟨Ao36, co36, eo36⟩ := Kd.R_slice HO317.out; subst eo36) | ((with_reducible refine gate_callee (f := 56) rfl ?_); refine goesL_ (some 42) rfl rfl Try.func56 (by kernel_rfl) rfl #[.agg #[.slice A0_0 l0_0.length c0_0, .string a0_1, .string a0_2], .slice Ao36 y315.length co36] rfl mA ?_; (with_reducible refine (impl_without.calls kj3 _ _ l0_0 a0_1 a0_2 _ _ y315 t318 t321 t322 _ ?side1 ?side2 ?side3 ?side4 A29.out).mono ?_); (case side1 => exact cK HR0_0.out HB.out); (case side2 => exact HC0_0.out); (case side3 => exact cS (Kd.R_reads' HO317.out).2.2); (case side4 => exact (Kd.R_reads' HO317.out).2.1); rintro e w37 ⟨v319, rfl, ho0, hb⟩; refine ⟨_, rfl, ?_⟩; replace HO317 := xK HO317.out hb; have HO320 := aM (xL ho0 (zZ (zH HB.out))); replace BK311 := yK BK311.out hb; replace BK312 := yK BK312.out hb; replace HB := aM (zT (zH HB.out) hb); (try clear hb); (try clear ho0)) | ((with_reducible refine gate_dst (N := 9) rfl ?_); refine box_event ?hg (N := 9) ?hd (cs := #[.slice none 0 0, .string (⟨#[]⟩ : ByteArray), .string (⟨#[]⟩ : ByteArray)]) (t := 27) ?hr ?_; (case hd => rfl); (case hg => rfl); (case hr => first | (go_simp; done) | (go_simp; rfl)); intro gb323 hg w38 hbox hb; replace HO317 := xK HO317.out hb; replace HO320 := xK HO320.out hb; have BK323 := aM (hbox); have GW323 := aM ((by rw [hg]; exact (zZ (zH HB.out)) : w.heap.size ≤ gb323)); have GE323 := aM ((by rw [hg]; exact (zZ (zH HB.out)) : w.heap.size ≤ gb323)); replace HB := aM (zT (zH HB.out) hb); have NB311_323 := nL BK311.out hg; have NB323_311 := nR BK311.out hg; replace BK311 := yK BK311.out hb; have NB312_323 := nL BK312.out hg; have NB323_312 := nR BK312.out hg; replace BK312 := yK BK312.out hb; clear hb hbox hg; obtain ⟨Ao39, co39, eo39⟩ := Kd.R_slice HO320.out; subst eo39; have hnb40 := NB323_311.out; have hnc40 := NB311_323.out; have hnb41 := NB323_312.out; have hnc41 := NB312_323.out; have hcz42_0 : w38.cell? ⟨gb323, 0, none⟩ = some (.slice none 0 0) := yc BK323.out 0; have hcz42_1 : w38.cell? ⟨gb323, 1, none⟩ = some (.string (⟨#[]⟩ : ByteArray)) := yc BK323.out 1; have hcz42_2 : w38.cell? ⟨gb323, 2, none⟩ = some (.string (⟨#[]⟩ : ByteArray)) := yc BK323.out 2; have hfz42_0 := yZ BK323.out 0; have hfz42_1 := yZ BK323.out 1; have hfz42_2 := yZ BK323.out 2) | ((with_reducible refine gate_callee (f := 46) rfl ?_); refine goesL_ (some 46) rfl rfl Try.func46 (by kernel_rfl) rfl #[.slice Ao39 t318.length co39] rfl mA ?_; (with_reducible refine (impl_parities.calls kj3 _ _ t318 t324 t325 _ ?side1 ?side2 A30.out).mono ?_); (case side1 => exact rC (n := t318.length) (c := co39) ((x3 HO320.out BK323.out (by decide) (.slice Ao39 t318.length co39) (.string t321) (.string t322)))); (case side2 => exact (Kd.R_reads' HO320.out).2.1); rintro e w43 ⟨rfl, hb⟩; refine ⟨_, rfl, ?_⟩; replace HO317 := aM (xB (xH ((x3 HO317.out BK323.out (by decide) (.slice Ao39 t318.length co39) (.string t321) (.string t322)))) hb); replace HO320 := aM (xB (xH ((x3 HO320.out BK323.out (by decide) (.slice Ao39 t318.length co39) (.string t321) (.string t322)))) hb); replace BK311 := aM (yB (g := gb311) (o := .cells #[.slice A0_0 l0_0.length c0_0, .string a0_1, .string a0_2] 27 (0, 0)) (by refine yW ?_; refine yF ?_ NB311_323.out _; refine yW ?_; refine yF ?_ NB311_323.out _; refine yW ?_; refine yF ?_ NB311_323.out _; refine yW ?_; exact BK311.out) hb); replace BK312 := aM (yB (g := gb312) (o := .cells #[.slice none 0 0, .string (⟨#[]⟩ : ByteArray), .string (⟨#[]⟩ : ByteArray)] 27 (0, 0)) (by refine yW ?_; refine yF ?_ NB312_323.out _; refine yW ?_; refine yF ?_ NB312_323.out _; refine yW ?_; refine yF ?_ NB312_323.out _; refine yW ?_; exact BK312.out) hb); replace BK323 := aM (yB (g := gb323) (o := .cells #[.slice Ao39 t318.length co39, .string t321, .string t322] 27 (0, 0)) (by refine yW ?_; refine yP (cs := #[.slice Ao39 t318.length co39, .string t321, .string (⟨#[]⟩ : ByteArray)]) ?_ 2 _ rfl; refine yW ?_; refine yP (cs := #[.slice Ao39 t318.length co39, .string (⟨#[]⟩ : ByteArray), .string (⟨#[]⟩ : ByteArray)]) ?_ 1 _ rfl; refine yW ?_; refine yP (cs := #[.slice none 0 0, .string (⟨#[]⟩ : ByteArray), .string (⟨#[]⟩ : ByteArray)]) ?_ 0 _ rfl; refine yW ?_; exact BK323.out) hb); replace HB := aM (zT (zH HB.out) hb); (try clear hb); have hcz44_0 : w43.cell? ⟨gb323, 0, none⟩ = some (.slice Ao39 t318.length co39) := yc BK323.out 0; have hcz44_1 : w43.cell? ⟨gb323, 1, none⟩ = some (.string t321) := yc BK323.out 1; have hcz44_2 : w43.cell? ⟨gb323, 2, none⟩ = some (.string t322) := yc BK323.out 2; have hfz44_0 := yZ BK323.out 0; have hfz44_1 := yZ BK323.out 1; have hfz44_2 := yZ BK323.out 2; have hcz45_0 : w43.cell? ⟨gb312, 0, none⟩ = some (.slice none 0 0) := yc BK312.out 0; have hcz45_1 : w43.cell? ⟨gb312, 1, none⟩ = some (.string (⟨#[]⟩ : ByteArray)) := yc BK312.out 1; have hcz45_2 : w43.cell? ⟨gb312, 2, none⟩ = some (.string (⟨#[]⟩ : ByteArray)) := yc BK312.out 2; have hfz45_0 := yZ BK312.out 0; have hfz45_1 := yZ BK312.out 1; have hfz45_2 := yZ BK312.out 2))
     refine bodyPost_ret (results_ct rfl _ _ gb312 27 #[.slice Ao39 t318.length co39, .string t324, .string t325] (0, 0) _ rfl (by refine yW ?_; refine yP (cs := #[.slice Ao39 t318.length co39, .string t324, .string (⟨#[]⟩ : ByteArray)]) ?_ 2 _ rfl; refine yW ?_; refine yP (cs := #[.slice Ao39 t318.length co39, .string (⟨#[]⟩ : ByteArray), .string (⟨#[]⟩ : ByteArray)]) ?_ 1 _ rfl; refine yW ?_; refine yP (cs := #[.slice none 0 0, .string (⟨#[]⟩ : ByteArray), .string (⟨#[]⟩ : ByteArray)]) ?_ 0 _ rfl; refine yW ?_; refine yF ?_ NB312_323.out _; refine yW ?_; refine yF ?_ NB312_323.out _; refine yW ?_; exact BK312.out) Try.underlying27 rfl (by kernel_rfl)) rfl ?_
     exact ⟨_, by first | rfl | (simp [errW_none, errW_some] <;> rfl) | (simp only [← hji27, ← hji28]; first | rfl | (simp [errW_none, errW_some] <;> rfl)) | (simp [*, errW_none, errW_some] <;> rfl), xH (xM (xF (p := ⟨gb312, 2, none⟩) (xF (p := ⟨gb312, 1, none⟩) (xF (p := ⟨gb312, 0, none⟩) (xF (p := ⟨gb323, 2, none⟩) (xF (p := ⟨gb323, 1, none⟩) (xT (xT HO320.out BK323.out (by decide)) BK312.out (by decide)) (fun _ hk => hk.1.2) (.string t324)) (fun _ hk => hk.1.2) (.string t325)) (fun _ hk => hk.2) (.slice Ao39 t318.length co39)) (fun _ hk => hk.2) (.string t324)) (fun _ hk => hk.2) (.string t325)) (fun _ hk => trivial)), zH HB.out⟩
    ·rw [if_neg c31] at H
     have c31b0 : ((ji27) == (l0_0.length : Int)) = false := beq_eq_false_iff_ne.mpr c31; have c31b1 : ((ji27) != (l0_0.length : Int)) = true := bne_iff_ne.mpr c31
     by_cases c46 : (ji28) = (l0_0.length : Int)
     ·rw [if_pos c46] at H
      have c46b0 : ((ji28) == (l0_0.length : Int)) = true := beq_iff_eq.mpr c46; have c46b1 : ((ji28) != (l0_0.length : Int)) = false := bne_eq_false_iff_eq.mpr c46; clear c46; replace H := Option.bind_eq_some_iff.mp H; obtain ⟨t326, A470, H⟩ := H
      replace H : ((impl_power.f kj3 2 (ji27)).bind fun t327 => ((impl_divided.f kj3 t326 t327).bind fun t328 => (if 0 ≤ (ji27) then (if (ji27) < (t318.length : Int) then ((some (t318.set ((ji27) : Int).toNat t328 : List ByteArray)).bind fun y329 => ((impl_parities.f kj3 y329).bind fun bt330 => (some (y329, bt330.1, t322, true)))) else (none)) else (none)))) = some (r1, r2, r3, r4) := H
      have A47 := aM A470; clear A470; replace H := Option.bind_eq_some_iff.mp H; obtain ⟨t327, A480, H⟩ := H
      replace H : ((impl_divided.f kj3 t326 t327).bind fun t328 => (if 0 ≤ (ji27) then (if (ji27) < (t318.length : Int) then ((some (t318.set ((ji27) : Int).toNat t328 : List ByteArray)).bind fun y329 => ((impl_parities.f kj3 y329).bind fun bt330 => (some (y329, bt330.1, t322, true)))) else (none)) else (none))) = some (r1, r2, r3, r4) := H
      have A48 := aM A480; clear A480; replace H := Option.bind_eq_some_iff.mp H; obtain ⟨t328, A490, H⟩ := H
      replace H : (if 0 ≤ (ji27) then (if (ji27) < (t318.length : Int) then ((some (t318.set ((ji27) : Int).toNat t328 : List ByteArray)).bind fun y329 => ((impl_parities.f kj3 y329).bind fun bt330 => (some (y329, bt330.1, t322, true)))) else (none)) else (none)) = some (r1, r2, r3, r4) := H
      have A49 := aM A490; clear A490
      by_cases c50 : 0 ≤ (ji27)
      ·rw [if_pos c50] at H
       have c50b0 : decide (0 ≤ (ji27)) = true := decide_eq_true c50; clear c50
       by_cases c51 : (ji27) < (t318.length : Int)
       ·rw [if_pos c51] at H
        have c51b0 : decide ((ji27) < (t318.length : Int)) = true := decide_eq_true c51; clear c51; obtain ⟨y329, hy329⟩ : ∃ y_ : List ByteArray, y_ = (t318.set ((ji27) : Int).toNat t328) := ⟨_, rfl⟩
        replace H : ((impl_parities.f kj3 y329).bind fun bt330 => (some (y329, bt330.1, t322, true))) = some (r1, r2, r3, r4) := by first | (rw [hy329]; with_reducible exact H) | (have H2_ := (Option.bind_some _ _).symm.trans H; rw [hy329]; with_reducible exact H2_) | (have H2_ := (Option.bind_some _ _).symm.trans H; with_reducible exact H2_) | with_reducible exact H | (rw [hy329]; exact H) | exact H
        have Ny329 := aM hy329; clear hy329; replace H := Option.bind_eq_some_iff.mp H; obtain ⟨⟨t330, t331⟩, A530, H⟩ := H; replace H : (some (y329, t330, t322, true)) = some (r1, r2, r3, r4) := H; have A53 := aM A530; clear A530
        simp only [Option.some.injEq, Prod.mk.injEq] at H
        obtain ⟨rfl, rfl, rfl, rfl⟩ := H; have hnb54 := NB311_312.out; have hnc54 := NB312_311.out; have hcz55_0 : wc.cell? ⟨gb311, 0, none⟩ = some (.slice A0_0 l0_0.length c0_0) := yc BK311.out 0; have hcz55_1 : wc.cell? ⟨gb311, 1, none⟩ = some (.string a0_1) := yc BK311.out 1; have hcz55_2 : wc.cell? ⟨gb311, 2, none⟩ = some (.string a0_2) := yc BK311.out 2; have hfz55_0 := yZ BK311.out 0; have hfz55_1 := yZ BK311.out 1; have hfz55_2 := yZ BK311.out 2
        try go_wp2_with (first | ((with_reducible refine gate_dst (N := 41) rfl ?_); refine Kd.R_lit (Kd.int .i64) _ 3 ?hg (N := 41) ?hd (xs := ([ji27, ji28] : List Int)) (inner := [.int .i64 ji27, .int .i64 ji28]) (ok := fun _ => True) (okp := fun _ => True) ?hr ?hp (fun _ hk => hk) trivial (Below.refl _ _) (Nat.le_refl _) (by simp) ?_; (case hd => rfl); (case hg => rfl); (case hr => first | (go_simp; done) | (go_simp; rfl)); (case hp => exact (Reps.one (show Kd.M (Kd.int .i64) _ _ _ ji27 [.int .i64 ji27] from rfl) (Reps.one (show Kd.M (Kd.int .i64) _ _ _ ji28 [.int .i64 ji28] from rfl) (Reps.none _ _)))); intro v316 w56 ho57 hb hg_ hnew_; clear hg_ hnew_; (first | rw [← Ny315.out] at ho57 | (simp only [Int.reduceToNat] at ho57; rw [← Ny315.out] at ho57)); have HO317 := aM (xL ho57 (zZ (zH HB.out))); replace BK311 := yK BK311.out hb; replace BK312 := yK BK312.out hb; replace HB := aM (zT (zH HB.out) hb); clear hb ho57; obtain ⟨Ao58, co58, eo58⟩ := Kd.R_slice HO317.out; subst eo58) | ((with_reducible refine gate_callee (f := 56) rfl ?_); refine goesL_ (some 42) rfl rfl Try.func56 (by kernel_rfl) rfl #[.agg #[.slice A0_0 l0_0.length c0_0, .string a0_1, .string a0_2], .slice Ao58 y315.length co58] rfl mA ?_; (with_reducible refine (impl_without.calls kj3 _ _ l0_0 a0_1 a0_2 _ _ y315 t318 t321 t322 _ ?side1 ?side2 ?side3 ?side4 A29.out).mono ?_); (case side1 => exact cK HR0_0.out HB.out); (case side2 => exact HC0_0.out); (case side3 => exact cS (Kd.R_reads' HO317.out).2.2); (case side4 => exact (Kd.R_reads' HO317.out).2.1); rintro e w59 ⟨v319, rfl, ho0, hb⟩; refine ⟨_, rfl, ?_⟩; replace HO317 := xK HO317.out hb; have HO320 := aM (xL ho0 (zZ (zH HB.out))); replace BK311 := yK BK311.out hb; replace BK312 := yK BK312.out hb; replace HB := aM (zT (zH HB.out) hb); (try clear hb); (try clear ho0)) | ((with_reducible refine gate_dst (N := 9) rfl ?_); refine box_event ?hg (N := 9) ?hd (cs := #[.slice none 0 0, .string (⟨#[]⟩ : ByteArray), .string (⟨#[]⟩ : ByteArray)]) (t := 27) ?hr ?_; (case hd => rfl); (case hg => rfl); (case hr => first | (go_simp; done) | (go_simp; rfl)); intro gb323 hg w60 hbox hb; replace HO317 := xK HO317.out hb; replace HO320 := xK HO320.out hb; have BK323 := aM (hbox); have GW323 := aM ((by rw [hg]; exact (zZ (zH HB.out)) : w.heap.size ≤ gb323)); have GE323 := aM ((by rw [hg]; exact (zZ (zH HB.out)) : w.heap.size ≤ gb323)); replace HB := aM (zT (zH HB.out) hb); have NB311_323 := nL BK311.out hg; have NB323_311 := nR BK311.out hg; replace BK311 := yK BK311.out hb; have NB312_323 := nL BK312.out hg; have NB323_312 := nR BK312.out hg; replace BK312 := yK BK312.out hb; clear hb hbox hg; obtain ⟨Ao61, co61, eo61⟩ := Kd.R_slice HO320.out; subst eo61; have hnb62 := NB323_311.out; have hnc62 := NB311_323.out; have hnb63 := NB323_312.out; have hnc63 := NB312_323.out; have hcz64_0 : w60.cell? ⟨gb323, 0, none⟩ = some (.slice none 0 0) := yc BK323.out 0; have hcz64_1 : w60.cell? ⟨gb323, 1, none⟩ = some (.string (⟨#[]⟩ : ByteArray)) := yc BK323.out 1; have hcz64_2 : w60.cell? ⟨gb323, 2, none⟩ = some (.string (⟨#[]⟩ : ByteArray)) := yc BK323.out 2; have hfz64_0 := yZ BK323.out 0; have hfz64_1 := yZ BK323.out 1; have hfz64_2 := yZ BK323.out 2) | ((with_reducible refine gate_callee (f := 46) rfl ?_); refine goesL_ (some 46) rfl rfl Try.func46 (by kernel_rfl) rfl #[.slice Ao61 t318.length co61] rfl mA ?_; (with_reducible refine (impl_parities.calls kj3 _ _ t318 t324 t325 _ ?side1 ?side2 A30.out).mono ?_); (case side1 => exact rC (n := t318.length) (c := co61) ((x3 HO320.out BK323.out (by decide) (.slice Ao61 t318.length co61) (.string t321) (.string t322)))); (case side2 => exact (Kd.R_reads' HO320.out).2.1); rintro e w65 ⟨rfl, hb⟩; refine ⟨_, rfl, ?_⟩; replace HO317 := aM (xB (xH ((x3 HO317.out BK323.out (by decide) (.slice Ao61 t318.length co61) (.string t321) (.string t322)))) hb); replace HO320 := aM (xB (xH ((x3 HO320.out BK323.out (by decide) (.slice Ao61 t318.length co61) (.string t321) (.string t322)))) hb); replace BK311 := aM (yB (g := gb311) (o := .cells #[.slice A0_0 l0_0.length c0_0, .string a0_1, .string a0_2] 27 (0, 0)) (by refine yW ?_; refine yF ?_ NB311_323.out _; refine yW ?_; refine yF ?_ NB311_323.out _; refine yW ?_; refine yF ?_ NB311_323.out _; refine yW ?_; exact BK311.out) hb); replace BK312 := aM (yB (g := gb312) (o := .cells #[.slice none 0 0, .string (⟨#[]⟩ : ByteArray), .string (⟨#[]⟩ : ByteArray)] 27 (0, 0)) (by refine yW ?_; refine yF ?_ NB312_323.out _; refine yW ?_; refine yF ?_ NB312_323.out _; refine yW ?_; refine yF ?_ NB312_323.out _; refine yW ?_; exact BK312.out) hb); replace BK323 := aM (yB (g := gb323) (o := .cells #[.slice Ao61 t318.length co61, .string t321, .string t322] 27 (0, 0)) (by refine yW ?_; refine yP (cs := #[.slice Ao61 t318.length co61, .string t321, .string (⟨#[]⟩ : ByteArray)]) ?_ 2 _ rfl; refine yW ?_; refine yP (cs := #[.slice Ao61 t318.length co61, .string (⟨#[]⟩ : ByteArray), .string (⟨#[]⟩ : ByteArray)]) ?_ 1 _ rfl; refine yW ?_; refine yP (cs := #[.slice none 0 0, .string (⟨#[]⟩ : ByteArray), .string (⟨#[]⟩ : ByteArray)]) ?_ 0 _ rfl; refine yW ?_; exact BK323.out) hb); replace HB := aM (zT (zH HB.out) hb); (try clear hb)))
        replace HO317 := aM (xD HO317.out); replace HO320 := aM (xD HO320.out); replace BK311 := aM (yD BK311.out); replace BK312 := aM (yD BK312.out); replace BK323 := aM (yD BK323.out); replace HB := aM (zD HB.out)
        refine start_ (n := 12) (S := fun w' => w'.cell? ⟨gb323, 0, none⟩ = some (.slice Ao61 t318.length co61) ∧ w'.cell? ⟨gb323, 1, none⟩ = some (.string t321) ∧ w'.cell? ⟨gb323, 2, none⟩ = some (.string t322) ∧ w'.cell? ⟨gb311, 0, none⟩ = some (.slice A0_0 l0_0.length c0_0) ∧ w'.cell? ⟨gb311, 1, none⟩ = some (.string a0_1) ∧ w'.cell? ⟨gb311, 2, none⟩ = some (.string a0_2)) (ds := [11]) #[fF,fF,fF,fF,fF,fF,fF,fF,fF,fF,fF,fF] (by kernel_rfl) rfl rfl ⟨yc BK323.out 0, yc BK323.out 1, yc BK323.out 2, yc BK311.out 0, yc BK311.out 1, yc BK311.out 2⟩ (fun hHeld => ?_); refine with_tabW impl_RecoverTwo.tab13 impl_RecoverTwo.bits13 (fun HT_ HW_ => ?_)
        generalize w65.drew = w66 at HO317 HO320 BK311 BK312 BK323 HB hHeld ⊢
        refine pure_ (i := 0) (N := some 94) (v := ?_) (a' := ?_) #[tT,fF,fF,fF,fF,fF,fF,fF,fF,fF,fF,fF] rfl rfl (any_of HT_.out (by kernel_rfl)) (fun _ _ _ h => h) (Or.inl ⟨by rfl, ?_⟩) ?_ ?_
        rotate_left
        ·intro w'
         go_simp
         with_reducible rfl
        rotate_left
        ·simp only [Act.put, qA, qB, qC, i64_w, i32_w]
         rfl
        refine pure_ (i := 2) (N := some 96) (v := ?_) (a' := ?_) #[tT,fF,tT,fF,fF,fF,fF,fF,fF,fF,fF,fF] rfl rfl (any_of HT_.out (by kernel_rfl)) (fun _ _ _ h => h) (Or.inl ⟨by rfl, ?_⟩) ?_ ?_
        rotate_left
        ·intro w'
         go_simp
         with_reducible rfl
        rotate_left
        ·simp only [Act.put, qA, qB, qC, i64_w, i32_w]
         rfl
        refine pure_ (i := 3) (N := some 97) (v := ?_) (a' := ?_) #[tT,fF,tT,tT,fF,fF,fF,fF,fF,fF,fF,fF] rfl rfl (any_of HT_.out (by kernel_rfl)) (fun _ _ _ h => h) (Or.inl ⟨by rfl, ?_⟩) ?_ ?_
        rotate_left
        ·intro w'
         go_simp
         with_reducible rfl
        rotate_left
        ·simp only [Act.put, qA, qB, qC, i64_w, i32_w]
         rfl
        refine pure_ (i := 4) (N := some 98) (v := ?_) (a' := ?_) #[tT,fF,tT,tT,tT,fF,fF,fF,fF,fF,fF,fF] rfl rfl (any_of HT_.out (by kernel_rfl)) (fun _ _ _ h => h) (Or.inl ⟨by rfl, ?_⟩) ?_ ?_
        rotate_left
        ·intro w'
         go_simp
         with_reducible rfl
        rotate_left
        ·simp only [Act.put, qA, qB, qC, i64_w, i32_w]
         rfl
        refine pure_ (i := 7) (N := some 101) (v := ?_) (a' := ?_) #[tT,fF,tT,tT,tT,fF,fF,tT,fF,fF,fF,fF] rfl rfl (any_of HT_.out (by kernel_rfl)) (fun _ _ _ h => h) (Or.inl ⟨by rfl, ?_⟩) ?_ ?_
        rotate_left
        ·intro w'
         go_simp
         with_reducible rfl
        rotate_left
        ·simp only [Act.put, qA, qB, qC, i64_w, i32_w]
         rfl
        refine take_ (i := 1) (N := some 95) (v := ?_) (a' := ?_) #[tT,tT,tT,tT,tT,fF,fF,tT,fF,fF,fF,fF] rfl rfl (take_ofW HT_.out HW_.out (by kernel_rfl)) (fun _ _ _ h => h) (Or.inl ⟨by rfl, ?_⟩) hHeld ?_ ?_
        rotate_left
        ·rintro w' ⟨s0, s1, s2, s3, s4, s5⟩
         go_simp
         with_reducible rfl
        rotate_left
        ·simp only [Act.put, qA, qB, qC, i64_w, i32_w]
         rfl
        refine take_ (i := 5) (N := some 99) (v := ?_) (a' := ?_) #[tT,tT,tT,tT,tT,tT,fF,tT,fF,fF,fF,fF] rfl rfl (take_ofW HT_.out HW_.out (by kernel_rfl)) (fun _ _ _ h => h) (Or.inl ⟨by rfl, ?_⟩) hHeld ?_ ?_
        rotate_left
        ·rintro w' ⟨s0, s1, s2, s3, s4, s5⟩
         go_simp
         with_reducible rfl
        rotate_left
        ·simp only [Act.put, qA, qB, qC, i64_w, i32_w]
         rfl
        refine one_ (i := 6) (N := some 100) #[tT,tT,tT,tT,tT,tT,tT,tT,fF,fF,fF,fF] rfl rfl (one_of HT_.out (by kernel_rfl)) (by decide) (fun K hK => ?_)
        refine gS Try.func57 (by kernel_rfl) rfl #[.string t325, .string a0_2] (by rfl) rfl rfl ?_
        with_reducible refine (impl_xor.calls t325 a0_2 t326 _ A47.out).mono ?_
        rintro e w67 ⟨rfl, hb⟩
        refine ⟨_, rfl, ?_⟩
        replace HO317 := xK HO317.out hb; replace HO320 := xK HO320.out hb; replace BK311 := yK BK311.out hb; replace BK312 := yK BK312.out hb; replace BK323 := yK BK323.out hb; replace HB := aM (zT (zH HB.out) hb)
        (try clear hb)
        refine hK.out _ _ ⟨yc BK323.out 0, yc BK323.out 1, yc BK323.out 2, yc BK311.out 0, yc BK311.out 1, yc BK311.out 2⟩ (fun hHeld => ?_)
        clear hK K; refine norm_ (a' := ?_) ?_ ?_; rotate_left
        ·show Act.put _ (some 100) _ = _
         simp only [Act.put, qA, qB, qC, i64_w, i32_w]
         rfl
        refine one_ (i := 8) (N := some 102) #[tT,tT,tT,tT,tT,tT,tT,tT,tT,fF,fF,fF] rfl rfl (one_of HT_.out (by kernel_rfl)) (by decide) (fun K hK => ?_)
        refine goes_ Try.func63 (by kernel_rfl) rfl #[.int .u8 2, .int .i64 ji27] (by rfl) rfl rfl (by (try simp only [List.map_toArray, List.map_cons, List.map_nil]); first | done | (simp only [hji27]; rfl) | rfl | (simp only [List.length_drop, List.length_take]; rfl)) ?_
        with_reducible refine (impl_power.calls kj3 2 ji27 t327 _ A48.out).mono ?_
        rintro e w' ⟨rfl, ⟨nd, rfl⟩⟩
        refine ⟨_, rfl, ?_⟩
        refine hK.out _ _ ⟨yc BK323.out 0, yc BK323.out 1, yc BK323.out 2, yc BK311.out 0, yc BK311.out 1, yc BK311.out 2⟩ (fun hHeld => ?_)
        clear hK K; refine norm_ (a' := ?_) ?_ ?_; rotate_left
        ·show Act.put _ (some 102) _ = _
         simp only [Act.put, qA, qB, qC, i64_w, i32_w]
         rfl
        refine one_ (i := 9) (N := some 103) #[tT,tT,tT,tT,tT,tT,tT,tT,tT,tT,fF,fF] rfl rfl (one_of HT_.out (by kernel_rfl)) (by decide) (fun K hK => ?_)
        refine gS Try.func62 (by kernel_rfl) rfl #[.string t326, .int .u8 t327] (by rfl) rfl rfl ?_
        with_reducible refine (impl_divided.calls kj3 t326 t327 t328 _ A49.out).mono ?_
        rintro e w68 ⟨rfl, hb⟩
        refine ⟨_, rfl, ?_⟩
        replace HO317 := xK HO317.out hb; replace HO320 := xK HO320.out hb; replace BK311 := yK BK311.out hb; replace BK312 := yK BK312.out hb; replace BK323 := yK BK323.out hb; replace HB := aM (zT (zH HB.out) hb)
        (try clear hb)
        have p52 : 0 ≤ ((ji27) : Int) := of_decide_eq_true (by first | (with_reducible assumption) | assumption)
        have q52 : ((ji27) : Int) < ((t318.length : Int) : Int) := of_decide_eq_true (by first | (with_reducible assumption) | assumption)
        obtain ⟨go52, co52, eo52, gb52, gl52, cl52, HG52⟩ := Kd.R_form HO320.out (by omega)
        (first | cases eo52 | (injection eo52 with ea_ en_ ec_; (first | subst ea_ | (injection ea_ with ea_; subst ea_)); subst ec_; clear en_))
        have GB52 := aM gb52; have GG52 := aM HG52; clear gb52 gl52 HG52; obtain ⟨hx52_0, hf52_0⟩ := Kd.R_celln (⟨#[]⟩ : ByteArray) HO320.out ((ji27) : Int) p52 q52; replace p52 := eq_true p52; replace q52 := eq_true q52; have HP69 := Kd.R_putn HO320.out ((ji27) : Int) t328
        rw [← Ny329.out] at HP69
        have HQ69 := aM HP69; clear HP69
        refine hK.out _ _ ⟨yc BK323.out 0, yc BK323.out 1, yc BK323.out 2, yc BK311.out 0, yc BK311.out 1, yc BK311.out 2⟩ (fun hHeld => ?_)
        clear hK K; refine norm_ (a' := ?_) ?_ ?_; rotate_left
        ·show Act.put _ (some 103) _ = _
         simp only [Act.put, qA, qB, qC, i64_w, i32_w]
         rfl
        refine pure_ (i := 10) (N := some 104) (v := ?_) (a' := ?_) #[tT,tT,tT,tT,tT,tT,tT,tT,tT,tT,tT,fF] rfl rfl (any_of HT_.out (by kernel_rfl)) (fun _ _ _ h => h) (Or.inl ⟨by rfl, ?_⟩) ?_ ?_
        rotate_left
        ·intro w'
         go_simp
         with_reducible rfl
        rotate_left
        ·simp only [Act.put, qA, qB, qC, i64_w, i32_w]
         rfl
        refine last_ (i := 11) (N := none) #[tT,tT,tT,tT,tT,tT,tT,tT,tT,tT,tT,tT] rfl rfl (one_of HT_.out (by kernel_rfl)) (by decide) (fun K hK => ?_)
        refine skip_ (w1 := ?_) (by rfl) rfl ?_ ?_
        rotate_left
        ·go_simp
         rfl
        refine hK.out _ _ ?_
        clear hK K
        refine done_ (done_of HT_.out (by kernel_rfl)) ?_
        have n0_ : Aside0 (Kd.R (Kd.int .i64) 3 (w68.setCell ⟨go52, ((ji27) : Int).toNat, none⟩ (.string t328)) w.heap.size (fun _ => True) (.slice Ao58 y315.length co58) y315) := ⟨by (with_reducible repeat (first | apply xA | apply xN | apply xD)); first | exact xM (xF (p := ⟨go52, ((ji27) : Int).toNat, none⟩) (xT HO317.out GG52.out (by decide)) (fun _ hk => hk.2) (.string t328)) (fun _ hk => trivial) | (obtain ⟨_, _, _, q_, hq_, cl_, HG_⟩ := (Kd.R_bound HO320.out).1 go52 rfl; obtain rfl : q_ = 9 := (by first | exact List.mem_singleton.mp hq_ | simpa using hq_); exact xM (xF (p := ⟨go52, ((ji27) : Int).toNat, none⟩) (xT HO317.out HG_ (by decide)) (fun _ hk => hk.2) (.string t328)) (fun _ hk => trivial))⟩
        have n1_ : Aside0 (Kd.R Kd.string 9 (w68.setCell ⟨go52, ((ji27) : Int).toNat, none⟩ (.string t328)) w.heap.size (fun _ => True) (.slice (some ⟨go52, 0, none⟩) t318.length co61) y329) := ⟨xH HQ69.out⟩
        have n2_ : Aside0 ((w68.setCell ⟨go52, ((ji27) : Int).toNat, none⟩ (.string t328)).heap[gb311]? = some (.cells #[.slice A0_0 l0_0.length c0_0, .string a0_1, .string a0_2] 27 (0, 0))) := ⟨by refine yW ?_; refine yF ?_ (by have h_ := Kd.R_ne HO320.out BK311.out (by decide); intro e_; exact h_ (by rw [e_]; rfl)) _; refine yW ?_; exact BK311.out⟩
        have n3_ : Aside0 ((w68.setCell ⟨go52, ((ji27) : Int).toNat, none⟩ (.string t328)).heap[gb312]? = some (.cells #[.slice none 0 0, .string (⟨#[]⟩ : ByteArray), .string (⟨#[]⟩ : ByteArray)] 27 (0, 0))) := ⟨by refine yW ?_; refine yF ?_ (by have h_ := Kd.R_ne HO320.out BK312.out (by decide); intro e_; exact h_ (by rw [e_]; rfl)) _; refine yW ?_; exact BK312.out⟩
        have n4_ : Aside0 ((w68.setCell ⟨go52, ((ji27) : Int).toNat, none⟩ (.string t328)).heap[gb323]? = some (.cells #[.slice (some ⟨go52, 0, none⟩) t318.length co61, .string t321, .string t322] 27 (0, 0))) := ⟨by refine yW ?_; refine yF ?_ (by have h_ := Kd.R_ne HO320.out BK323.out (by decide); intro e_; exact h_ (by rw [e_]; rfl)) _; refine yW ?_; exact BK323.out⟩
        have n5_ : Aside0 (Below w.heap.size w (w68.setCell ⟨go52, ((ji27) : Int).toNat, none⟩ (.string t328))) := ⟨by repeat (first | (with_reducible first | exact HB.out | apply zA | apply zN | apply zD | refine zS ?_ GB52.out | refine zS ?_ GE311.out | refine zS ?_ GE312.out | refine zS ?_ GE323.out) | exact HB.out)⟩
        (try clear HO317); (try clear HO320); (try clear BK311); (try clear BK312); (try clear BK323); (try clear HB)
        generalize (w68.setCell ⟨go52, ((ji27) : Int).toNat, none⟩ (.string t328)) = w70 at n0_ n1_ n2_ n3_ n4_ n5_ ⊢
        have HO317 := n0_; have HO320 := n1_; have BK311 := n2_; have BK312 := n3_; have BK323 := n4_; have HB := n5_; clear n0_ n1_ n2_ n3_ n4_ n5_; have hcz71_0 : w70.cell? ⟨gb323, 0, none⟩ = some (.slice (some ⟨go52, 0, none⟩) t318.length co61) := yc BK323.out 0; have hcz71_1 : w70.cell? ⟨gb323, 1, none⟩ = some (.string t321) := yc BK323.out 1; have hcz71_2 : w70.cell? ⟨gb323, 2, none⟩ = some (.string t322) := yc BK323.out 2; have hfz71_0 := yZ BK323.out 0; have hfz71_1 := yZ BK323.out 1; have hfz71_2 := yZ BK323.out 2
        try go_wp2_with (first | ((with_reducible refine gate_callee (f := 46) rfl ?_); refine goesL_ (some 108) rfl rfl Try.func46 (by kernel_rfl) rfl #[.slice (some ⟨go52, 0, none⟩) y329.length co61] rfl (by (try simp only [List.map_toArray, List.map_cons, List.map_nil]); first | done | (rw [show y329.length = t318.length from (Kd.R_reads' HO320.out).1.symm] <;> rfl) | rfl | (simp only [List.length_drop, List.length_take]; rfl)) ?_; (with_reducible refine (impl_parities.calls kj3 _ _ y329 t330 t331 _ ?side1 ?side2 A53.out).mono ?_); (case side1 => exact cS (Kd.R_reads' HO320.out).2.2); (case side2 => rw [show y329.length = t318.length from (Kd.R_reads' HO320.out).1.symm]; exact (Kd.R_reads' HO320.out).2.1); rintro e w72 ⟨rfl, hb⟩; refine ⟨_, rfl, ?_⟩; replace HO317 := xK HO317.out hb; replace HO320 := xK HO320.out hb; replace BK311 := yK BK311.out hb; replace BK312 := yK BK312.out hb; replace BK323 := yK BK323.out hb; replace HB := aM (zT (zH HB.out) hb); (try clear hb); have hcz73_0 : w72.cell? ⟨gb323, 0, none⟩ = some (.slice (some ⟨go52, 0, none⟩) t318.length co61) := yc BK323.out 0; have hcz73_1 : w72.cell? ⟨gb323, 1, none⟩ = some (.string t321) := yc BK323.out 1; have hcz73_2 : w72.cell? ⟨gb323, 2, none⟩ = some (.string t322) := yc BK323.out 2; have hfz73_0 := yZ BK323.out 0; have hfz73_1 := yZ BK323.out 1; have hfz73_2 := yZ BK323.out 2; have hcz74_0 : w72.cell? ⟨gb312, 0, none⟩ = some (.slice none 0 0) := yc BK312.out 0; have hcz74_1 : w72.cell? ⟨gb312, 1, none⟩ = some (.string (⟨#[]⟩ : ByteArray)) := yc BK312.out 1; have hcz74_2 : w72.cell? ⟨gb312, 2, none⟩ = some (.string (⟨#[]⟩ : ByteArray)) := yc BK312.out 2; have hfz74_0 := yZ BK312.out 0; have hfz74_1 := yZ BK312.out 1; have hfz74_2 := yZ BK312.out 2))
        refine bodyPost_ret (results_ct rfl _ _ gb312 27 #[.slice (some ⟨go52, 0, none⟩) t318.length co61, .string t330, .string t322] (0, 0) _ rfl (by refine yW ?_; refine yP (cs := #[.slice (some ⟨go52, 0, none⟩) t318.length co61, .string t330, .string (⟨#[]⟩ : ByteArray)]) ?_ 2 _ rfl; refine yW ?_; refine yP (cs := #[.slice (some ⟨go52, 0, none⟩) t318.length co61, .string (⟨#[]⟩ : ByteArray), .string (⟨#[]⟩ : ByteArray)]) ?_ 1 _ rfl; refine yW ?_; refine yP (cs := #[.slice none 0 0, .string (⟨#[]⟩ : ByteArray), .string (⟨#[]⟩ : ByteArray)]) ?_ 0 _ rfl; refine yW ?_; refine yF ?_ NB312_323.out _; refine yW ?_; exact BK312.out) Try.underlying27 rfl (by kernel_rfl)) rfl ?_
        exact ⟨_, by first | rfl | (simp [errW_none, errW_some] <;> rfl) | (simp only [← hji27, ← hji28]; first | rfl | (simp [errW_none, errW_some] <;> rfl)) | (simp [*, errW_none, errW_some] <;> rfl), xH (xM (xF (p := ⟨gb312, 2, none⟩) (xF (p := ⟨gb312, 1, none⟩) (xF (p := ⟨gb312, 0, none⟩) (xF (p := ⟨gb323, 1, none⟩) (xT (xT HO320.out BK323.out (by decide)) BK312.out (by decide)) (fun _ hk => hk.1.2) (.string t330)) (fun _ hk => hk.2) (.slice (some ⟨go52, 0, none⟩) t318.length co61)) (fun _ hk => hk.2) (.string t330)) (fun _ hk => hk.2) (.string t322)) (fun _ hk => trivial)), zH HB.out⟩
       ·rw [if_neg c51] at H
        exact absurd H (by simp)
      ·rw [if_neg c50] at H
       exact absurd H (by simp)
     ·rw [if_neg c46] at H
      have c46b0 : ((ji28) == (l0_0.length : Int)) = false := beq_eq_false_iff_ne.mpr c46; have c46b1 : ((ji28) != (l0_0.length : Int)) = true := bne_iff_ne.mpr c46
      by_cases c75 : (ji28) = (wrap64 ((l0_0.length : Int) + 1))
      ·rw [if_pos c75] at H
       have c75b0 : ((ji28) == (wrap64 ((l0_0.length : Int) + 1))) = true := beq_iff_eq.mpr c75; have c75b1 : ((ji28) != (wrap64 ((l0_0.length : Int) + 1))) = false := bne_eq_false_iff_eq.mpr c75; clear c75; replace H := Option.bind_eq_some_iff.mp H; obtain ⟨t332, A760, H⟩ := H
       replace H : (if 0 ≤ (ji27) then (if (ji27) < (t318.length : Int) then ((some (t318.set ((ji27) : Int).toNat t332 : List ByteArray)).bind fun y333 => ((impl_parities.f kj3 y333).bind fun bt334 => (some (y333, t321, bt334.2, true)))) else (none)) else (none)) = some (r1, r2, r3, r4) := H
       have A76 := aM A760; clear A760
       by_cases c77 : 0 ≤ (ji27)
       ·rw [if_pos c77] at H
        have c77b0 : decide (0 ≤ (ji27)) = true := decide_eq_true c77; clear c77
        by_cases c78 : (ji27) < (t318.length : Int)
        ·rw [if_pos c78] at H
         have c78b0 : decide ((ji27) < (t318.length : Int)) = true := decide_eq_true c78; clear c78; obtain ⟨y333, hy333⟩ : ∃ y_ : List ByteArray, y_ = (t318.set ((ji27) : Int).toNat t332) := ⟨_, rfl⟩
         replace H : ((impl_parities.f kj3 y333).bind fun bt334 => (some (y333, t321, bt334.2, true))) = some (r1, r2, r3, r4) := by first | (rw [hy333]; with_reducible exact H) | (have H2_ := (Option.bind_some _ _).symm.trans H; rw [hy333]; with_reducible exact H2_) | (have H2_ := (Option.bind_some _ _).symm.trans H; with_reducible exact H2_) | with_reducible exact H | (rw [hy333]; exact H) | exact H
         have Ny333 := aM hy333; clear hy333; replace H := Option.bind_eq_some_iff.mp H; obtain ⟨⟨t334, t335⟩, A800, H⟩ := H; replace H : (some (y333, t321, t335, true)) = some (r1, r2, r3, r4) := H; have A80 := aM A800; clear A800
         simp only [Option.some.injEq, Prod.mk.injEq] at H
         obtain ⟨rfl, rfl, rfl, rfl⟩ := H; have hnb81 := NB311_312.out; have hnc81 := NB312_311.out; have hcz82_0 : wc.cell? ⟨gb311, 0, none⟩ = some (.slice A0_0 l0_0.length c0_0) := yc BK311.out 0; have hcz82_1 : wc.cell? ⟨gb311, 1, none⟩ = some (.string a0_1) := yc BK311.out 1; have hcz82_2 : wc.cell? ⟨gb311, 2, none⟩ = some (.string a0_2) := yc BK311.out 2; have hfz82_0 := yZ BK311.out 0; have hfz82_1 := yZ BK311.out 1; have hfz82_2 := yZ BK311.out 2
         try go_wp2_with (first | ((with_reducible refine gate_dst (N := 41) rfl ?_); refine Kd.R_lit (Kd.int .i64) _ 3 ?hg (N := 41) ?hd (xs := ([ji27, ji28] : List Int)) (inner := [.int .i64 ji27, .int .i64 ji28]) (ok := fun _ => True) (okp := fun _ => True) ?hr ?hp (fun _ hk => hk) trivial (Below.refl _ _) (Nat.le_refl _) (by simp) ?_; (case hd => rfl); (case hg => rfl); (case hr => first | (go_simp; done) | (go_simp; rfl)); (case hp => exact (Reps.one (show Kd.M (Kd.int .i64) _ _ _ ji27 [.int .i64 ji27] from rfl) (Reps.one (show Kd.M (Kd.int .i64) _ _ _ ji28 [.int .i64 ji28] from rfl) (Reps.none _ _)))); intro v316 w83 ho84 hb hg_ hnew_; clear hg_ hnew_; (first | rw [← Ny315.out] at ho84 | (simp only [Int.reduceToNat] at ho84; rw [← Ny315.out] at ho84)); have HO317 := aM (xL ho84 (zZ (zH HB.out))); replace BK311 := yK BK311.out hb; replace BK312 := yK BK312.out hb; replace HB := aM (zT (zH HB.out) hb); clear hb ho84; obtain ⟨Ao85, co85, eo85⟩ := Kd.R_slice HO317.out; subst eo85) | ((with_reducible refine gate_callee (f := 56) rfl ?_); refine goesL_ (some 42) rfl rfl Try.func56 (by kernel_rfl) rfl #[.agg #[.slice A0_0 l0_0.length c0_0, .string a0_1, .string a0_2], .slice Ao85 y315.length co85] rfl mA ?_; (with_reducible refine (impl_without.calls kj3 _ _ l0_0 a0_1 a0_2 _ _ y315 t318 t321 t322 _ ?side1 ?side2 ?side3 ?side4 A29.out).mono ?_); (case side1 => exact cK HR0_0.out HB.out); (case side2 => exact HC0_0.out); (case side3 => exact cS (Kd.R_reads' HO317.out).2.2); (case side4 => exact (Kd.R_reads' HO317.out).2.1); rintro e w86 ⟨v319, rfl, ho0, hb⟩; refine ⟨_, rfl, ?_⟩; replace HO317 := xK HO317.out hb; have HO320 := aM (xL ho0 (zZ (zH HB.out))); replace BK311 := yK BK311.out hb; replace BK312 := yK BK312.out hb; replace HB := aM (zT (zH HB.out) hb); (try clear hb); (try clear ho0)) | ((with_reducible refine gate_dst (N := 9) rfl ?_); refine box_event ?hg (N := 9) ?hd (cs := #[.slice none 0 0, .string (⟨#[]⟩ : ByteArray), .string (⟨#[]⟩ : ByteArray)]) (t := 27) ?hr ?_; (case hd => rfl); (case hg => rfl); (case hr => first | (go_simp; done) | (go_simp; rfl)); intro gb323 hg w87 hbox hb; replace HO317 := xK HO317.out hb; replace HO320 := xK HO320.out hb; have BK323 := aM (hbox); have GW323 := aM ((by rw [hg]; exact (zZ (zH HB.out)) : w.heap.size ≤ gb323)); have GE323 := aM ((by rw [hg]; exact (zZ (zH HB.out)) : w.heap.size ≤ gb323)); replace HB := aM (zT (zH HB.out) hb); have NB311_323 := nL BK311.out hg; have NB323_311 := nR BK311.out hg; replace BK311 := yK BK311.out hb; have NB312_323 := nL BK312.out hg; have NB323_312 := nR BK312.out hg; replace BK312 := yK BK312.out hb; clear hb hbox hg; obtain ⟨Ao88, co88, eo88⟩ := Kd.R_slice HO320.out; subst eo88; have hnb89 := NB323_311.out; have hnc89 := NB311_323.out; have hnb90 := NB323_312.out; have hnc90 := NB312_323.out; have hcz91_0 : w87.cell? ⟨gb323, 0, none⟩ = some (.slice none 0 0) := yc BK323.out 0; have hcz91_1 : w87.cell? ⟨gb323, 1, none⟩ = some (.string (⟨#[]⟩ : ByteArray)) := yc BK323.out 1; have hcz91_2 : w87.cell? ⟨gb323, 2, none⟩ = some (.string (⟨#[]⟩ : ByteArray)) := yc BK323.out 2; have hfz91_0 := yZ BK323.out 0; have hfz91_1 := yZ BK323.out 1; have hfz91_2 := yZ BK323.out 2) | ((with_reducible refine gate_callee (f := 46) rfl ?_); refine goesL_ (some 46) rfl rfl Try.func46 (by kernel_rfl) rfl #[.slice Ao88 t318.length co88] rfl mA ?_; (with_reducible refine (impl_parities.calls kj3 _ _ t318 t324 t325 _ ?side1 ?side2 A30.out).mono ?_); (case side1 => exact rC (n := t318.length) (c := co88) ((x3 HO320.out BK323.out (by decide) (.slice Ao88 t318.length co88) (.string t321) (.string t322)))); (case side2 => exact (Kd.R_reads' HO320.out).2.1); rintro e w92 ⟨rfl, hb⟩; refine ⟨_, rfl, ?_⟩; replace HO317 := aM (xB (xH ((x3 HO317.out BK323.out (by decide) (.slice Ao88 t318.length co88) (.string t321) (.string t322)))) hb); replace HO320 := aM (xB (xH ((x3 HO320.out BK323.out (by decide) (.slice Ao88 t318.length co88) (.string t321) (.string t322)))) hb); replace BK311 := aM (yB (g := gb311) (o := .cells #[.slice A0_0 l0_0.length c0_0, .string a0_1, .string a0_2] 27 (0, 0)) (by refine yW ?_; refine yF ?_ NB311_323.out _; refine yW ?_; refine yF ?_ NB311_323.out _; refine yW ?_; refine yF ?_ NB311_323.out _; refine yW ?_; exact BK311.out) hb); replace BK312 := aM (yB (g := gb312) (o := .cells #[.slice none 0 0, .string (⟨#[]⟩ : ByteArray), .string (⟨#[]⟩ : ByteArray)] 27 (0, 0)) (by refine yW ?_; refine yF ?_ NB312_323.out _; refine yW ?_; refine yF ?_ NB312_323.out _; refine yW ?_; refine yF ?_ NB312_323.out _; refine yW ?_; exact BK312.out) hb); replace BK323 := aM (yB (g := gb323) (o := .cells #[.slice Ao88 t318.length co88, .string t321, .string t322] 27 (0, 0)) (by refine yW ?_; refine yP (cs := #[.slice Ao88 t318.length co88, .string t321, .string (⟨#[]⟩ : ByteArray)]) ?_ 2 _ rfl; refine yW ?_; refine yP (cs := #[.slice Ao88 t318.length co88, .string (⟨#[]⟩ : ByteArray), .string (⟨#[]⟩ : ByteArray)]) ?_ 1 _ rfl; refine yW ?_; refine yP (cs := #[.slice none 0 0, .string (⟨#[]⟩ : ByteArray), .string (⟨#[]⟩ : ByteArray)]) ?_ 0 _ rfl; refine yW ?_; exact BK323.out) hb); replace HB := aM (zT (zH HB.out) hb); (try clear hb)))
         replace HO317 := aM (xD HO317.out); replace HO320 := aM (xD HO320.out); replace BK311 := aM (yD BK311.out); replace BK312 := aM (yD BK312.out); replace BK323 := aM (yD BK323.out); replace HB := aM (zD HB.out)
         refine start_ (n := 9) (S := fun w' => w'.cell? ⟨gb323, 0, none⟩ = some (.slice Ao88 t318.length co88) ∧ w'.cell? ⟨gb323, 1, none⟩ = some (.string t321) ∧ w'.cell? ⟨gb323, 2, none⟩ = some (.string t322) ∧ w'.cell? ⟨gb311, 0, none⟩ = some (.slice A0_0 l0_0.length c0_0) ∧ w'.cell? ⟨gb311, 1, none⟩ = some (.string a0_1) ∧ w'.cell? ⟨gb311, 2, none⟩ = some (.string a0_2)) (ds := [8]) #[fF,fF,fF,fF,fF,fF,fF,fF,fF] (by kernel_rfl) rfl rfl ⟨yc BK323.out 0, yc BK323.out 1, yc BK323.out 2, yc BK311.out 0, yc BK311.out 1, yc BK311.out 2⟩ (fun hHeld => ?_); refine with_tabW impl_RecoverTwo.tab16 impl_RecoverTwo.bits16 (fun HT_ HW_ => ?_)
         generalize w92.drew = w93 at HO317 HO320 BK311 BK312 BK323 HB hHeld ⊢
         refine pure_ (i := 0) (N := some 117) (v := ?_) (a' := ?_) #[tT,fF,fF,fF,fF,fF,fF,fF,fF] rfl rfl (any_of HT_.out (by kernel_rfl)) (fun _ _ _ h => h) (Or.inl ⟨by rfl, ?_⟩) ?_ ?_
         rotate_left
         ·intro w'
          go_simp
          with_reducible rfl
         rotate_left
         ·simp only [Act.put, qA, qB, qC, i64_w, i32_w]
          rfl
         refine pure_ (i := 2) (N := some 119) (v := ?_) (a' := ?_) #[tT,fF,tT,fF,fF,fF,fF,fF,fF] rfl rfl (any_of HT_.out (by kernel_rfl)) (fun _ _ _ h => h) (Or.inl ⟨by rfl, ?_⟩) ?_ ?_
         rotate_left
         ·intro w'
          go_simp
          with_reducible rfl
         rotate_left
         ·simp only [Act.put, qA, qB, qC, i64_w, i32_w]
          rfl
         refine pure_ (i := 3) (N := some 120) (v := ?_) (a' := ?_) #[tT,fF,tT,tT,fF,fF,fF,fF,fF] rfl rfl (any_of HT_.out (by kernel_rfl)) (fun _ _ _ h => h) (Or.inl ⟨by rfl, ?_⟩) ?_ ?_
         rotate_left
         ·intro w'
          go_simp
          with_reducible rfl
         rotate_left
         ·simp only [Act.put, qA, qB, qC, i64_w, i32_w]
          rfl
         refine pure_ (i := 4) (N := some 121) (v := ?_) (a' := ?_) #[tT,fF,tT,tT,tT,fF,fF,fF,fF] rfl rfl (any_of HT_.out (by kernel_rfl)) (fun _ _ _ h => h) (Or.inl ⟨by rfl, ?_⟩) ?_ ?_
         rotate_left
         ·intro w'
          go_simp
          with_reducible rfl
         rotate_left
         ·simp only [Act.put, qA, qB, qC, i64_w, i32_w]
          rfl
         refine take_ (i := 1) (N := some 118) (v := ?_) (a' := ?_) #[tT,tT,tT,tT,tT,fF,fF,fF,fF] rfl rfl (take_ofW HT_.out HW_.out (by kernel_rfl)) (fun _ _ _ h => h) (Or.inl ⟨by rfl, ?_⟩) hHeld ?_ ?_
         rotate_left
         ·rintro w' ⟨s0, s1, s2, s3, s4, s5⟩
          go_simp
          with_reducible rfl
         rotate_left
         ·simp only [Act.put, qA, qB, qC, i64_w, i32_w]
          rfl
         refine take_ (i := 5) (N := some 122) (v := ?_) (a' := ?_) #[tT,tT,tT,tT,tT,tT,fF,fF,fF] rfl rfl (take_ofW HT_.out HW_.out (by kernel_rfl)) (fun _ _ _ h => h) (Or.inl ⟨by rfl, ?_⟩) hHeld ?_ ?_
         rotate_left
         ·rintro w' ⟨s0, s1, s2, s3, s4, s5⟩
          go_simp
          with_reducible rfl
         rotate_left
         ·simp only [Act.put, qA, qB, qC, i64_w, i32_w]
          rfl
         refine one_ (i := 6) (N := some 123) #[tT,tT,tT,tT,tT,tT,tT,fF,fF] rfl rfl (one_of HT_.out (by kernel_rfl)) (by decide) (fun K hK => ?_)
         refine gS Try.func57 (by kernel_rfl) rfl #[.string t324, .string a0_1] (by rfl) rfl rfl ?_
         with_reducible refine (impl_xor.calls t324 a0_1 t332 _ A76.out).mono ?_
         rintro e w94 ⟨rfl, hb⟩
         refine ⟨_, rfl, ?_⟩
         replace HO317 := xK HO317.out hb; replace HO320 := xK HO320.out hb; replace BK311 := yK BK311.out hb; replace BK312 := yK BK312.out hb; replace BK323 := yK BK323.out hb; replace HB := aM (zT (zH HB.out) hb)
         (try clear hb)
         have p79 : 0 ≤ ((ji27) : Int) := of_decide_eq_true (by first | (with_reducible assumption) | assumption)
         have q79 : ((ji27) : Int) < ((t318.length : Int) : Int) := of_decide_eq_true (by first | (with_reducible assumption) | assumption)
         obtain ⟨go79, co79, eo79, gb79, gl79, cl79, HG79⟩ := Kd.R_form HO320.out (by omega)
         (first | cases eo79 | (injection eo79 with ea_ en_ ec_; (first | subst ea_ | (injection ea_ with ea_; subst ea_)); subst ec_; clear en_))
         have GB79 := aM gb79; have GG79 := aM HG79; clear gb79 gl79 HG79; obtain ⟨hx79_0, hf79_0⟩ := Kd.R_celln (⟨#[]⟩ : ByteArray) HO320.out ((ji27) : Int) p79 q79; replace p79 := eq_true p79; replace q79 := eq_true q79; have HP95 := Kd.R_putn HO320.out ((ji27) : Int) t332
         rw [← Ny333.out] at HP95
         have HQ95 := aM HP95; clear HP95
         refine hK.out _ _ ⟨yc BK323.out 0, yc BK323.out 1, yc BK323.out 2, yc BK311.out 0, yc BK311.out 1, yc BK311.out 2⟩ (fun hHeld => ?_)
         clear hK K; refine norm_ (a' := ?_) ?_ ?_; rotate_left
         ·show Act.put _ (some 123) _ = _
          simp only [Act.put, qA, qB, qC, i64_w, i32_w]
          rfl
         refine pure_ (i := 7) (N := some 124) (v := ?_) (a' := ?_) #[tT,tT,tT,tT,tT,tT,tT,tT,fF] rfl rfl (any_of HT_.out (by kernel_rfl)) (fun _ _ _ h => h) (Or.inl ⟨by rfl, ?_⟩) ?_ ?_
         rotate_left
         ·intro w'
          go_simp
          with_reducible rfl
         rotate_left
         ·simp only [Act.put, qA, qB, qC, i64_w, i32_w]
          rfl
         refine last_ (i := 8) (N := none) #[tT,tT,tT,tT,tT,tT,tT,tT,tT] rfl rfl (one_of HT_.out (by kernel_rfl)) (by decide) (fun K hK => ?_)
         refine skip_ (w1 := ?_) (by rfl) rfl ?_ ?_
         rotate_left
         ·go_simp
          rfl
         refine hK.out _ _ ?_
         clear hK K
         refine done_ (done_of HT_.out (by kernel_rfl)) ?_
         have n0_ : Aside0 (Kd.R (Kd.int .i64) 3 (w94.setCell ⟨go79, ((ji27) : Int).toNat, none⟩ (.string t332)) w.heap.size (fun _ => True) (.slice Ao85 y315.length co85) y315) := ⟨by (with_reducible repeat (first | apply xA | apply xN | apply xD)); first | exact xM (xF (p := ⟨go79, ((ji27) : Int).toNat, none⟩) (xT HO317.out GG79.out (by decide)) (fun _ hk => hk.2) (.string t332)) (fun _ hk => trivial) | (obtain ⟨_, _, _, q_, hq_, cl_, HG_⟩ := (Kd.R_bound HO320.out).1 go79 rfl; obtain rfl : q_ = 9 := (by first | exact List.mem_singleton.mp hq_ | simpa using hq_); exact xM (xF (p := ⟨go79, ((ji27) : Int).toNat, none⟩) (xT HO317.out HG_ (by decide)) (fun _ hk => hk.2) (.string t332)) (fun _ hk => trivial))⟩
         have n1_ : Aside0 (Kd.R Kd.string 9 (w94.setCell ⟨go79, ((ji27) : Int).toNat, none⟩ (.string t332)) w.heap.size (fun _ => True) (.slice (some ⟨go79, 0, none⟩) t318.length co88) y333) := ⟨xH HQ95.out⟩
         have n2_ : Aside0 ((w94.setCell ⟨go79, ((ji27) : Int).toNat, none⟩ (.string t332)).heap[gb311]? = some (.cells #[.slice A0_0 l0_0.length c0_0, .string a0_1, .string a0_2] 27 (0, 0))) := ⟨by refine yW ?_; refine yF ?_ (by have h_ := Kd.R_ne HO320.out BK311.out (by decide); intro e_; exact h_ (by rw [e_]; rfl)) _; refine yW ?_; exact BK311.out⟩
         have n3_ : Aside0 ((w94.setCell ⟨go79, ((ji27) : Int).toNat, none⟩ (.string t332)).heap[gb312]? = some (.cells #[.slice none 0 0, .string (⟨#[]⟩ : ByteArray), .string (⟨#[]⟩ : ByteArray)] 27 (0, 0))) := ⟨by refine yW ?_; refine yF ?_ (by have h_ := Kd.R_ne HO320.out BK312.out (by decide); intro e_; exact h_ (by rw [e_]; rfl)) _; refine yW ?_; exact BK312.out⟩
         have n4_ : Aside0 ((w94.setCell ⟨go79, ((ji27) : Int).toNat, none⟩ (.string t332)).heap[gb323]? = some (.cells #[.slice (some ⟨go79, 0, none⟩) t318.length co88, .string t321, .string t322] 27 (0, 0))) := ⟨by refine yW ?_; refine yF ?_ (by have h_ := Kd.R_ne HO320.out BK323.out (by decide); intro e_; exact h_ (by rw [e_]; rfl)) _; refine yW ?_; exact BK323.out⟩
         have n5_ : Aside0 (Below w.heap.size w (w94.setCell ⟨go79, ((ji27) : Int).toNat, none⟩ (.string t332))) := ⟨by repeat (first | (with_reducible first | exact HB.out | apply zA | apply zN | apply zD | refine zS ?_ GB79.out | refine zS ?_ GE311.out | refine zS ?_ GE312.out | refine zS ?_ GE323.out) | exact HB.out)⟩
         (try clear HO317); (try clear HO320); (try clear BK311); (try clear BK312); (try clear BK323); (try clear HB)
         generalize (w94.setCell ⟨go79, ((ji27) : Int).toNat, none⟩ (.string t332)) = w96 at n0_ n1_ n2_ n3_ n4_ n5_ ⊢
         have HO317 := n0_; have HO320 := n1_; have BK311 := n2_; have BK312 := n3_; have BK323 := n4_; have HB := n5_; clear n0_ n1_ n2_ n3_ n4_ n5_; have hcz97_0 : w96.cell? ⟨gb323, 0, none⟩ = some (.slice (some ⟨go79, 0, none⟩) t318.length co88) := yc BK323.out 0; have hcz97_1 : w96.cell? ⟨gb323, 1, none⟩ = some (.string t321) := yc BK323.out 1; have hcz97_2 : w96.cell? ⟨gb323, 2, none⟩ = some (.string t322) := yc BK323.out 2; have hfz97_0 := yZ BK323.out 0; have hfz97_1 := yZ BK323.out 1; have hfz97_2 := yZ BK323.out 2
         try go_wp2_with (first | ((with_reducible refine gate_callee (f := 46) rfl ?_); refine goesL_ (some 128) rfl rfl Try.func46 (by kernel_rfl) rfl #[.slice (some ⟨go79, 0, none⟩) y333.length co88] rfl (by (try simp only [List.map_toArray, List.map_cons, List.map_nil]); first | done | (rw [show y333.length = t318.length from (Kd.R_reads' HO320.out).1.symm] <;> rfl) | rfl | (simp only [List.length_drop, List.length_take]; rfl)) ?_; (with_reducible refine (impl_parities.calls kj3 _ _ y333 t334 t335 _ ?side1 ?side2 A80.out).mono ?_); (case side1 => exact cS (Kd.R_reads' HO320.out).2.2); (case side2 => rw [show y333.length = t318.length from (Kd.R_reads' HO320.out).1.symm]; exact (Kd.R_reads' HO320.out).2.1); rintro e w98 ⟨rfl, hb⟩; refine ⟨_, rfl, ?_⟩; replace HO317 := xK HO317.out hb; replace HO320 := xK HO320.out hb; replace BK311 := yK BK311.out hb; replace BK312 := yK BK312.out hb; replace BK323 := yK BK323.out hb; replace HB := aM (zT (zH HB.out) hb); (try clear hb); have hcz99_0 : w98.cell? ⟨gb323, 0, none⟩ = some (.slice (some ⟨go79, 0, none⟩) t318.length co88) := yc BK323.out 0; have hcz99_1 : w98.cell? ⟨gb323, 1, none⟩ = some (.string t321) := yc BK323.out 1; have hcz99_2 : w98.cell? ⟨gb323, 2, none⟩ = some (.string t322) := yc BK323.out 2; have hfz99_0 := yZ BK323.out 0; have hfz99_1 := yZ BK323.out 1; have hfz99_2 := yZ BK323.out 2; have hcz100_0 : w98.cell? ⟨gb312, 0, none⟩ = some (.slice none 0 0) := yc BK312.out 0; have hcz100_1 : w98.cell? ⟨gb312, 1, none⟩ = some (.string (⟨#[]⟩ : ByteArray)) := yc BK312.out 1; have hcz100_2 : w98.cell? ⟨gb312, 2, none⟩ = some (.string (⟨#[]⟩ : ByteArray)) := yc BK312.out 2; have hfz100_0 := yZ BK312.out 0; have hfz100_1 := yZ BK312.out 1; have hfz100_2 := yZ BK312.out 2))
         refine bodyPost_ret (results_ct rfl _ _ gb312 27 #[.slice (some ⟨go79, 0, none⟩) t318.length co88, .string t321, .string t335] (0, 0) _ rfl (by refine yW ?_; refine yP (cs := #[.slice (some ⟨go79, 0, none⟩) t318.length co88, .string t321, .string (⟨#[]⟩ : ByteArray)]) ?_ 2 _ rfl; refine yW ?_; refine yP (cs := #[.slice (some ⟨go79, 0, none⟩) t318.length co88, .string (⟨#[]⟩ : ByteArray), .string (⟨#[]⟩ : ByteArray)]) ?_ 1 _ rfl; refine yW ?_; refine yP (cs := #[.slice none 0 0, .string (⟨#[]⟩ : ByteArray), .string (⟨#[]⟩ : ByteArray)]) ?_ 0 _ rfl; refine yW ?_; refine yF ?_ NB312_323.out _; refine yW ?_; exact BK312.out) Try.underlying27 rfl (by kernel_rfl)) rfl ?_
         exact ⟨_, by first | rfl | (simp [errW_none, errW_some] <;> rfl) | (simp only [← hji27, ← hji28]; first | rfl | (simp [errW_none, errW_some] <;> rfl)) | (simp [*, errW_none, errW_some] <;> rfl), xH (xM (xF (p := ⟨gb312, 2, none⟩) (xF (p := ⟨gb312, 1, none⟩) (xF (p := ⟨gb312, 0, none⟩) (xF (p := ⟨gb323, 2, none⟩) (xT (xT HO320.out BK323.out (by decide)) BK312.out (by decide)) (fun _ hk => hk.1.2) (.string t335)) (fun _ hk => hk.2) (.slice (some ⟨go79, 0, none⟩) t318.length co88)) (fun _ hk => hk.2) (.string t321)) (fun _ hk => hk.2) (.string t335)) (fun _ hk => trivial)), zH HB.out⟩
        ·rw [if_neg c78] at H
         exact absurd H (by simp)
       ·rw [if_neg c77] at H
        exact absurd H (by simp)
      ·rw [if_neg c75] at H
       have c75b0 : ((ji28) == (wrap64 ((l0_0.length : Int) + 1))) = false := beq_eq_false_iff_ne.mpr c75; have c75b1 : ((ji28) != (wrap64 ((l0_0.length : Int) + 1))) = true := bne_iff_ne.mpr c75; replace H := Option.bind_eq_some_iff.mp H; obtain ⟨t336, A1010, H⟩ := H
       replace H : ((impl_xor.f t325 a0_2).bind fun t337 => ((impl_weighed.f kj3 t336 (ji28)).bind fun t338 => ((impl_xor.f t337 t338).bind fun t339 => ((impl_power.f kj3 2 (ji27)).bind fun t340 => ((impl_power.f kj3 2 (ji28)).bind fun t341 => ((impl_divided.f kj3 t339 (Go.bits .xor .u8 t340 t341)).bind fun t342 => (if 0 ≤ (ji27) then (if (ji27) < (t318.length : Int) then ((some (t318.set ((ji27) : Int).toNat t342 : List ByteArray)).bind fun y343 => ((impl_xor.f t336 (rdOf ByteArray.empty y343 (ji27))).bind fun t345 => (if 0 ≤ (ji28) then (if (ji28) < (t318.length : Int) then (some ((y343.set ((ji28) : Int).toNat t345), t321, t322, true)) else (none)) else (none)))) else (none)) else (none)))))))) = some (r1, r2, r3, r4) := H
       have A101 := aM A1010; clear A1010; replace H := Option.bind_eq_some_iff.mp H; obtain ⟨t337, A1020, H⟩ := H
       replace H : ((impl_weighed.f kj3 t336 (ji28)).bind fun t338 => ((impl_xor.f t337 t338).bind fun t339 => ((impl_power.f kj3 2 (ji27)).bind fun t340 => ((impl_power.f kj3 2 (ji28)).bind fun t341 => ((impl_divided.f kj3 t339 (Go.bits .xor .u8 t340 t341)).bind fun t342 => (if 0 ≤ (ji27) then (if (ji27) < (t318.length : Int) then ((some (t318.set ((ji27) : Int).toNat t342 : List ByteArray)).bind fun y343 => ((impl_xor.f t336 (rdOf ByteArray.empty y343 (ji27))).bind fun t345 => (if 0 ≤ (ji28) then (if (ji28) < (t318.length : Int) then (some ((y343.set ((ji28) : Int).toNat t345), t321, t322, true)) else (none)) else (none)))) else (none)) else (none))))))) = some (r1, r2, r3, r4) := H
       have A102 := aM A1020; clear A1020; replace H := Option.bind_eq_some_iff.mp H; obtain ⟨t338, A1030, H⟩ := H
       replace H : ((impl_xor.f t337 t338).bind fun t339 => ((impl_power.f kj3 2 (ji27)).bind fun t340 => ((impl_power.f kj3 2 (ji28)).bind fun t341 => ((impl_divided.f kj3 t339 (Go.bits .xor .u8 t340 t341)).bind fun t342 => (if 0 ≤ (ji27) then (if (ji27) < (t318.length : Int) then ((some (t318.set ((ji27) : Int).toNat t342 : List ByteArray)).bind fun y343 => ((impl_xor.f t336 (rdOf ByteArray.empty y343 (ji27))).bind fun t345 => (if 0 ≤ (ji28) then (if (ji28) < (t318.length : Int) then (some ((y343.set ((ji28) : Int).toNat t345), t321, t322, true)) else (none)) else (none)))) else (none)) else (none)))))) = some (r1, r2, r3, r4) := H
       have A103 := aM A1030; clear A1030; replace H := Option.bind_eq_some_iff.mp H; obtain ⟨t339, A1040, H⟩ := H
       replace H : ((impl_power.f kj3 2 (ji27)).bind fun t340 => ((impl_power.f kj3 2 (ji28)).bind fun t341 => ((impl_divided.f kj3 t339 (Go.bits .xor .u8 t340 t341)).bind fun t342 => (if 0 ≤ (ji27) then (if (ji27) < (t318.length : Int) then ((some (t318.set ((ji27) : Int).toNat t342 : List ByteArray)).bind fun y343 => ((impl_xor.f t336 (rdOf ByteArray.empty y343 (ji27))).bind fun t345 => (if 0 ≤ (ji28) then (if (ji28) < (t318.length : Int) then (some ((y343.set ((ji28) : Int).toNat t345), t321, t322, true)) else (none)) else (none)))) else (none)) else (none))))) = some (r1, r2, r3, r4) := H
       have A104 := aM A1040; clear A1040; replace H := Option.bind_eq_some_iff.mp H; obtain ⟨t340, A1050, H⟩ := H
       replace H : ((impl_power.f kj3 2 (ji28)).bind fun t341 => ((impl_divided.f kj3 t339 (Go.bits .xor .u8 t340 t341)).bind fun t342 => (if 0 ≤ (ji27) then (if (ji27) < (t318.length : Int) then ((some (t318.set ((ji27) : Int).toNat t342 : List ByteArray)).bind fun y343 => ((impl_xor.f t336 (rdOf ByteArray.empty y343 (ji27))).bind fun t345 => (if 0 ≤ (ji28) then (if (ji28) < (t318.length : Int) then (some ((y343.set ((ji28) : Int).toNat t345), t321, t322, true)) else (none)) else (none)))) else (none)) else (none)))) = some (r1, r2, r3, r4) := H
       have A105 := aM A1050; clear A1050; replace H := Option.bind_eq_some_iff.mp H; obtain ⟨t341, A1060, H⟩ := H
       replace H : ((impl_divided.f kj3 t339 (Go.bits .xor .u8 t340 t341)).bind fun t342 => (if 0 ≤ (ji27) then (if (ji27) < (t318.length : Int) then ((some (t318.set ((ji27) : Int).toNat t342 : List ByteArray)).bind fun y343 => ((impl_xor.f t336 (rdOf ByteArray.empty y343 (ji27))).bind fun t345 => (if 0 ≤ (ji28) then (if (ji28) < (t318.length : Int) then (some ((y343.set ((ji28) : Int).toNat t345), t321, t322, true)) else (none)) else (none)))) else (none)) else (none))) = some (r1, r2, r3, r4) := H
       have A106 := aM A1060; clear A1060; replace H := Option.bind_eq_some_iff.mp H; obtain ⟨t342, A1070, H⟩ := H
       replace H : (if 0 ≤ (ji27) then (if (ji27) < (t318.length : Int) then ((some (t318.set ((ji27) : Int).toNat t342 : List ByteArray)).bind fun y343 => ((impl_xor.f t336 (rdOf ByteArray.empty y343 (ji27))).bind fun t345 => (if 0 ≤ (ji28) then (if (ji28) < (t318.length : Int) then (some ((y343.set ((ji28) : Int).toNat t345), t321, t322, true)) else (none)) else (none)))) else (none)) else (none)) = some (r1, r2, r3, r4) := H
       have A107 := aM A1070; clear A1070
       by_cases c108 : 0 ≤ (ji27)
       ·rw [if_pos c108] at H
        have c108b0 : decide (0 ≤ (ji27)) = true := decide_eq_true c108; clear c108
        by_cases c109 : (ji27) < (t318.length : Int)
        ·rw [if_pos c109] at H
         have c109b0 : decide ((ji27) < (t318.length : Int)) = true := decide_eq_true c109; clear c109; obtain ⟨y343, hy343⟩ : ∃ y_ : List ByteArray, y_ = (t318.set ((ji27) : Int).toNat t342) := ⟨_, rfl⟩
         replace H : ((impl_xor.f t336 (rdOf ByteArray.empty y343 (ji27))).bind fun t345 => (if 0 ≤ (ji28) then (if (ji28) < (t318.length : Int) then (some ((y343.set ((ji28) : Int).toNat t345), t321, t322, true)) else (none)) else (none))) = some (r1, r2, r3, r4) := by first | (rw [hy343]; with_reducible exact H) | (have H2_ := (Option.bind_some _ _).symm.trans H; rw [hy343]; with_reducible exact H2_) | (have H2_ := (Option.bind_some _ _).symm.trans H; with_reducible exact H2_) | with_reducible exact H | (rw [hy343]; exact H) | exact H
         have Ny343 := aM hy343; clear hy343; replace H := Option.bind_eq_some_iff.mp H; obtain ⟨t345, A1110, H⟩ := H; replace H : (if 0 ≤ (ji28) then (if (ji28) < (t318.length : Int) then (some ((y343.set ((ji28) : Int).toNat t345), t321, t322, true)) else (none)) else (none)) = some (r1, r2, r3, r4) := H; have A111 := aM A1110; clear A1110
         by_cases c112 : 0 ≤ (ji28)
         ·rw [if_pos c112] at H
          have c112b0 : decide (0 ≤ (ji28)) = true := decide_eq_true c112; clear c112
          by_cases c113 : (ji28) < (t318.length : Int)
          ·rw [if_pos c113] at H
           have c113b0 : decide ((ji28) < (t318.length : Int)) = true := decide_eq_true c113; clear c113; obtain ⟨y346, hy346⟩ : ∃ y_ : List ByteArray, y_ = (y343.set ((ji28) : Int).toNat t345) := ⟨_, rfl⟩
           replace H : (some (y346, t321, t322, true)) = some (r1, r2, r3, r4) := by first | (rw [hy346]; with_reducible exact H) | (have H2_ := (Option.bind_some _ _).symm.trans H; rw [hy346]; with_reducible exact H2_) | (have H2_ := (Option.bind_some _ _).symm.trans H; with_reducible exact H2_) | with_reducible exact H | (rw [hy346]; exact H) | exact H
           have Ny346 := aM hy346; clear hy346
           simp only [Option.some.injEq, Prod.mk.injEq] at H
           obtain ⟨rfl, rfl, rfl, rfl⟩ := H; have hnb115 := NB311_312.out; have hnc115 := NB312_311.out; have hcz116_0 : wc.cell? ⟨gb311, 0, none⟩ = some (.slice A0_0 l0_0.length c0_0) := yc BK311.out 0; have hcz116_1 : wc.cell? ⟨gb311, 1, none⟩ = some (.string a0_1) := yc BK311.out 1; have hcz116_2 : wc.cell? ⟨gb311, 2, none⟩ = some (.string a0_2) := yc BK311.out 2; have hfz116_0 := yZ BK311.out 0; have hfz116_1 := yZ BK311.out 1; have hfz116_2 := yZ BK311.out 2
           try go_wp2_with (first | ((with_reducible refine gate_dst (N := 41) rfl ?_); refine Kd.R_lit (Kd.int .i64) _ 3 ?hg (N := 41) ?hd (xs := ([ji27, ji28] : List Int)) (inner := [.int .i64 ji27, .int .i64 ji28]) (ok := fun _ => True) (okp := fun _ => True) ?hr ?hp (fun _ hk => hk) trivial (Below.refl _ _) (Nat.le_refl _) (by simp) ?_; (case hd => rfl); (case hg => rfl); (case hr => first | (go_simp; done) | (go_simp; rfl)); (case hp => exact (Reps.one (show Kd.M (Kd.int .i64) _ _ _ ji27 [.int .i64 ji27] from rfl) (Reps.one (show Kd.M (Kd.int .i64) _ _ _ ji28 [.int .i64 ji28] from rfl) (Reps.none _ _)))); intro v316 w117 ho118 hb hg_ hnew_; clear hg_ hnew_; (first | rw [← Ny315.out] at ho118 | (simp only [Int.reduceToNat] at ho118; rw [← Ny315.out] at ho118)); have HO317 := aM (xL ho118 (zZ (zH HB.out))); replace BK311 := yK BK311.out hb; replace BK312 := yK BK312.out hb; replace HB := aM (zT (zH HB.out) hb); clear hb ho118; obtain ⟨Ao119, co119, eo119⟩ := Kd.R_slice HO317.out; subst eo119) | ((with_reducible refine gate_callee (f := 56) rfl ?_); refine goesL_ (some 42) rfl rfl Try.func56 (by kernel_rfl) rfl #[.agg #[.slice A0_0 l0_0.length c0_0, .string a0_1, .string a0_2], .slice Ao119 y315.length co119] rfl mA ?_; (with_reducible refine (impl_without.calls kj3 _ _ l0_0 a0_1 a0_2 _ _ y315 t318 t321 t322 _ ?side1 ?side2 ?side3 ?side4 A29.out).mono ?_); (case side1 => exact cK HR0_0.out HB.out); (case side2 => exact HC0_0.out); (case side3 => exact cS (Kd.R_reads' HO317.out).2.2); (case side4 => exact (Kd.R_reads' HO317.out).2.1); rintro e w120 ⟨v319, rfl, ho0, hb⟩; refine ⟨_, rfl, ?_⟩; replace HO317 := xK HO317.out hb; have HO320 := aM (xL ho0 (zZ (zH HB.out))); replace BK311 := yK BK311.out hb; replace BK312 := yK BK312.out hb; replace HB := aM (zT (zH HB.out) hb); (try clear hb); (try clear ho0)) | ((with_reducible refine gate_dst (N := 9) rfl ?_); refine box_event ?hg (N := 9) ?hd (cs := #[.slice none 0 0, .string (⟨#[]⟩ : ByteArray), .string (⟨#[]⟩ : ByteArray)]) (t := 27) ?hr ?_; (case hd => rfl); (case hg => rfl); (case hr => first | (go_simp; done) | (go_simp; rfl)); intro gb323 hg w121 hbox hb; replace HO317 := xK HO317.out hb; replace HO320 := xK HO320.out hb; have BK323 := aM (hbox); have GW323 := aM ((by rw [hg]; exact (zZ (zH HB.out)) : w.heap.size ≤ gb323)); have GE323 := aM ((by rw [hg]; exact (zZ (zH HB.out)) : w.heap.size ≤ gb323)); replace HB := aM (zT (zH HB.out) hb); have NB311_323 := nL BK311.out hg; have NB323_311 := nR BK311.out hg; replace BK311 := yK BK311.out hb; have NB312_323 := nL BK312.out hg; have NB323_312 := nR BK312.out hg; replace BK312 := yK BK312.out hb; clear hb hbox hg; obtain ⟨Ao122, co122, eo122⟩ := Kd.R_slice HO320.out; subst eo122; have hnb123 := NB323_311.out; have hnc123 := NB311_323.out; have hnb124 := NB323_312.out; have hnc124 := NB312_323.out; have hcz125_0 : w121.cell? ⟨gb323, 0, none⟩ = some (.slice none 0 0) := yc BK323.out 0; have hcz125_1 : w121.cell? ⟨gb323, 1, none⟩ = some (.string (⟨#[]⟩ : ByteArray)) := yc BK323.out 1; have hcz125_2 : w121.cell? ⟨gb323, 2, none⟩ = some (.string (⟨#[]⟩ : ByteArray)) := yc BK323.out 2; have hfz125_0 := yZ BK323.out 0; have hfz125_1 := yZ BK323.out 1; have hfz125_2 := yZ BK323.out 2) | ((with_reducible refine gate_callee (f := 46) rfl ?_); refine goesL_ (some 46) rfl rfl Try.func46 (by kernel_rfl) rfl #[.slice Ao122 t318.length co122] rfl mA ?_; (with_reducible refine (impl_parities.calls kj3 _ _ t318 t324 t325 _ ?side1 ?side2 A30.out).mono ?_); (case side1 => exact rC (n := t318.length) (c := co122) ((x3 HO320.out BK323.out (by decide) (.slice Ao122 t318.length co122) (.string t321) (.string t322)))); (case side2 => exact (Kd.R_reads' HO320.out).2.1); rintro e w126 ⟨rfl, hb⟩; refine ⟨_, rfl, ?_⟩; replace HO317 := aM (xB (xH ((x3 HO317.out BK323.out (by decide) (.slice Ao122 t318.length co122) (.string t321) (.string t322)))) hb); replace HO320 := aM (xB (xH ((x3 HO320.out BK323.out (by decide) (.slice Ao122 t318.length co122) (.string t321) (.string t322)))) hb); replace BK311 := aM (yB (g := gb311) (o := .cells #[.slice A0_0 l0_0.length c0_0, .string a0_1, .string a0_2] 27 (0, 0)) (by refine yW ?_; refine yF ?_ NB311_323.out _; refine yW ?_; refine yF ?_ NB311_323.out _; refine yW ?_; refine yF ?_ NB311_323.out _; refine yW ?_; exact BK311.out) hb); replace BK312 := aM (yB (g := gb312) (o := .cells #[.slice none 0 0, .string (⟨#[]⟩ : ByteArray), .string (⟨#[]⟩ : ByteArray)] 27 (0, 0)) (by refine yW ?_; refine yF ?_ NB312_323.out _; refine yW ?_; refine yF ?_ NB312_323.out _; refine yW ?_; refine yF ?_ NB312_323.out _; refine yW ?_; exact BK312.out) hb); replace BK323 := aM (yB (g := gb323) (o := .cells #[.slice Ao122 t318.length co122, .string t321, .string t322] 27 (0, 0)) (by refine yW ?_; refine yP (cs := #[.slice Ao122 t318.length co122, .string t321, .string (⟨#[]⟩ : ByteArray)]) ?_ 2 _ rfl; refine yW ?_; refine yP (cs := #[.slice Ao122 t318.length co122, .string (⟨#[]⟩ : ByteArray), .string (⟨#[]⟩ : ByteArray)]) ?_ 1 _ rfl; refine yW ?_; refine yP (cs := #[.slice none 0 0, .string (⟨#[]⟩ : ByteArray), .string (⟨#[]⟩ : ByteArray)]) ?_ 0 _ rfl; refine yW ?_; exact BK323.out) hb); replace HB := aM (zT (zH HB.out) hb); (try clear hb); have hcz127_0 : w126.cell? ⟨gb311, 0, none⟩ = some (.slice A0_0 l0_0.length c0_0) := yc BK311.out 0; have hcz127_1 : w126.cell? ⟨gb311, 1, none⟩ = some (.string a0_1) := yc BK311.out 1; have hcz127_2 : w126.cell? ⟨gb311, 2, none⟩ = some (.string a0_2) := yc BK311.out 2; have hfz127_0 := yZ BK311.out 0; have hfz127_1 := yZ BK311.out 1; have hfz127_2 := yZ BK311.out 2) | ((with_reducible refine gate_callee (f := 57) rfl ?_); refine goesL_ (some 52) rfl rfl Try.func57 (by kernel_rfl) rfl #[.string t324, .string a0_1] rfl mA ?_; (with_reducible refine (impl_xor.calls t324 a0_1 t336 _ A101.out).mono ?_); rintro e w128 ⟨rfl, hb⟩; refine ⟨_, rfl, ?_⟩; replace HO317 := xK HO317.out hb; replace HO320 := xK HO320.out hb; replace BK311 := yK BK311.out hb; replace BK312 := yK BK312.out hb; replace BK323 := yK BK323.out hb; replace HB := aM (zT (zH HB.out) hb); (try clear hb)))
           replace HO317 := aM (xD HO317.out); replace HO320 := aM (xD HO320.out); replace BK311 := aM (yD BK311.out); replace BK312 := aM (yD BK312.out); replace BK323 := aM (yD BK323.out); replace HB := aM (zD HB.out)
           refine start_ (n := 19) (S := fun w' => w'.cell? ⟨gb323, 0, none⟩ = some (.slice Ao122 t318.length co122) ∧ w'.cell? ⟨gb323, 1, none⟩ = some (.string t321) ∧ w'.cell? ⟨gb323, 2, none⟩ = some (.string t322) ∧ w'.cell? ⟨gb311, 0, none⟩ = some (.slice A0_0 l0_0.length c0_0) ∧ w'.cell? ⟨gb311, 1, none⟩ = some (.string a0_1) ∧ w'.cell? ⟨gb311, 2, none⟩ = some (.string a0_2)) (ds := [18]) #[fF,fF,fF,fF,fF,fF,fF,fF,fF,fF,fF,fF,fF,fF,fF,fF,fF,fF,fF] (by kernel_rfl) rfl rfl ⟨yc BK323.out 0, yc BK323.out 1, yc BK323.out 2, yc BK311.out 0, yc BK311.out 1, yc BK311.out 2⟩ (fun hHeld => ?_); refine with_tabW impl_RecoverTwo.tab8 impl_RecoverTwo.bits8 (fun HT_ HW_ => ?_)
           generalize w128.drew = w129 at HO317 HO320 BK311 BK312 BK323 HB hHeld ⊢
           refine pure_ (i := 0) (N := some 53) (v := ?_) (a' := ?_) #[tT,fF,fF,fF,fF,fF,fF,fF,fF,fF,fF,fF,fF,fF,fF,fF,fF,fF,fF] rfl rfl (any_of HT_.out (by kernel_rfl)) (fun _ _ _ h => h) (Or.inl ⟨by rfl, ?_⟩) ?_ ?_
           rotate_left
           ·intro w'
            go_simp
            with_reducible rfl
           rotate_left
           ·simp only [Act.put, qA, qB, qC, i64_w, i32_w]
            rfl
           refine pure_ (i := 2) (N := some 55) (v := ?_) (a' := ?_) #[tT,fF,tT,fF,fF,fF,fF,fF,fF,fF,fF,fF,fF,fF,fF,fF,fF,fF,fF] rfl rfl (any_of HT_.out (by kernel_rfl)) (fun _ _ _ h => h) (Or.inl ⟨by rfl, ?_⟩) ?_ ?_
           rotate_left
           ·intro w'
            go_simp
            with_reducible rfl
           rotate_left
           ·simp only [Act.put, qA, qB, qC, i64_w, i32_w]
            rfl
           refine pure_ (i := 3) (N := some 56) (v := ?_) (a' := ?_) #[tT,fF,tT,tT,fF,fF,fF,fF,fF,fF,fF,fF,fF,fF,fF,fF,fF,fF,fF] rfl rfl (any_of HT_.out (by kernel_rfl)) (fun _ _ _ h => h) (Or.inl ⟨by rfl, ?_⟩) ?_ ?_
           rotate_left
           ·intro w'
            go_simp
            with_reducible rfl
           rotate_left
           ·simp only [Act.put, qA, qB, qC, i64_w, i32_w]
            rfl
           refine pure_ (i := 4) (N := some 57) (v := ?_) (a' := ?_) #[tT,fF,tT,tT,tT,fF,fF,fF,fF,fF,fF,fF,fF,fF,fF,fF,fF,fF,fF] rfl rfl (any_of HT_.out (by kernel_rfl)) (fun _ _ _ h => h) (Or.inl ⟨by rfl, ?_⟩) ?_ ?_
           rotate_left
           ·intro w'
            go_simp
            with_reducible rfl
           rotate_left
           ·simp only [Act.put, qA, qB, qC, i64_w, i32_w]
            rfl
           refine pure_ (i := 7) (N := some 60) (v := ?_) (a' := ?_) #[tT,fF,tT,tT,tT,fF,fF,tT,fF,fF,fF,fF,fF,fF,fF,fF,fF,fF,fF] rfl rfl (any_of HT_.out (by kernel_rfl)) (fun _ _ _ h => h) (Or.inl ⟨by rfl, ?_⟩) ?_ ?_
           rotate_left
           ·intro w'
            go_simp
            with_reducible rfl
           rotate_left
           ·simp only [Act.put, qA, qB, qC, i64_w, i32_w]
            rfl
           refine pure_ (i := 8) (N := some 61) (v := ?_) (a' := ?_) #[tT,fF,tT,tT,tT,fF,fF,tT,tT,fF,fF,fF,fF,fF,fF,fF,fF,fF,fF] rfl rfl (any_of HT_.out (by kernel_rfl)) (fun _ _ _ h => h) (Or.inl ⟨by rfl, ?_⟩) ?_ ?_
           rotate_left
           ·intro w'
            go_simp
            with_reducible rfl
           rotate_left
           ·simp only [Act.put, qA, qB, qC, i64_w, i32_w]
            rfl
           refine pure_ (i := 11) (N := some 64) (v := ?_) (a' := ?_) #[tT,fF,tT,tT,tT,fF,fF,tT,tT,fF,fF,tT,fF,fF,fF,fF,fF,fF,fF] rfl rfl (any_of HT_.out (by kernel_rfl)) (fun _ _ _ h => h) (Or.inl ⟨by rfl, ?_⟩) ?_ ?_
           rotate_left
           ·intro w'
            go_simp
            with_reducible rfl
           rotate_left
           ·simp only [Act.put, qA, qB, qC, i64_w, i32_w]
            rfl
           refine pure_ (i := 13) (N := some 66) (v := ?_) (a' := ?_) #[tT,fF,tT,tT,tT,fF,fF,tT,tT,fF,fF,tT,fF,tT,fF,fF,fF,fF,fF] rfl rfl (any_of HT_.out (by kernel_rfl)) (fun _ _ _ h => h) (Or.inl ⟨by rfl, ?_⟩) ?_ ?_
           rotate_left
           ·intro w'
            go_simp
            with_reducible rfl
           rotate_left
           ·simp only [Act.put, qA, qB, qC, i64_w, i32_w]
            rfl
           refine take_ (i := 1) (N := some 54) (v := ?_) (a' := ?_) #[tT,tT,tT,tT,tT,fF,fF,tT,tT,fF,fF,tT,fF,tT,fF,fF,fF,fF,fF] rfl rfl (take_ofW HT_.out HW_.out (by kernel_rfl)) (fun _ _ _ h => h) (Or.inl ⟨by rfl, ?_⟩) hHeld ?_ ?_
           rotate_left
           ·rintro w' ⟨s0, s1, s2, s3, s4, s5⟩
            go_simp
            with_reducible rfl
           rotate_left
           ·simp only [Act.put, qA, qB, qC, i64_w, i32_w]
            rfl
           refine take_ (i := 5) (N := some 58) (v := ?_) (a' := ?_) #[tT,tT,tT,tT,tT,tT,fF,tT,tT,fF,fF,tT,fF,tT,fF,fF,fF,fF,fF] rfl rfl (take_ofW HT_.out HW_.out (by kernel_rfl)) (fun _ _ _ h => h) (Or.inl ⟨by rfl, ?_⟩) hHeld ?_ ?_
           rotate_left
           ·rintro w' ⟨s0, s1, s2, s3, s4, s5⟩
            go_simp
            with_reducible rfl
           rotate_left
           ·simp only [Act.put, qA, qB, qC, i64_w, i32_w]
            rfl
           refine one_ (i := 6) (N := some 59) #[tT,tT,tT,tT,tT,tT,tT,tT,tT,fF,fF,tT,fF,tT,fF,fF,fF,fF,fF] rfl rfl (one_of HT_.out (by kernel_rfl)) (by decide) (fun K hK => ?_)
           refine gS Try.func57 (by kernel_rfl) rfl #[.string t325, .string a0_2] (by rfl) rfl rfl ?_
           with_reducible refine (impl_xor.calls t325 a0_2 t337 _ A102.out).mono ?_
           rintro e w130 ⟨rfl, hb⟩
           refine ⟨_, rfl, ?_⟩
           replace HO317 := xK HO317.out hb; replace HO320 := xK HO320.out hb; replace BK311 := yK BK311.out hb; replace BK312 := yK BK312.out hb; replace BK323 := yK BK323.out hb; replace HB := aM (zT (zH HB.out) hb)
           (try clear hb)
           refine hK.out _ _ ⟨yc BK323.out 0, yc BK323.out 1, yc BK323.out 2, yc BK311.out 0, yc BK311.out 1, yc BK311.out 2⟩ (fun hHeld => ?_)
           clear hK K; refine norm_ (a' := ?_) ?_ ?_; rotate_left
           ·show Act.put _ (some 59) _ = _
            simp only [Act.put, qA, qB, qC, i64_w, i32_w]
            rfl
           refine one_ (i := 9) (N := some 62) #[tT,tT,tT,tT,tT,tT,tT,tT,tT,tT,fF,tT,fF,tT,fF,fF,fF,fF,fF] rfl rfl (one_of HT_.out (by kernel_rfl)) (by decide) (fun K hK => ?_)
           refine goes_ Try.func58 (by kernel_rfl) rfl #[.string t336, .int .i64 ji28] (by rfl) rfl rfl (by (try simp only [List.map_toArray, List.map_cons, List.map_nil]); first | done | (simp only [hji28]; rfl) | rfl | (simp only [List.length_drop, List.length_take]; rfl)) ?_
           with_reducible refine (impl_weighed.calls kj3 t336 ji28 t338 _ A103.out).mono ?_
           rintro e w131 ⟨rfl, hb⟩
           refine ⟨_, rfl, ?_⟩
           replace HO317 := xK HO317.out hb; replace HO320 := xK HO320.out hb; replace BK311 := yK BK311.out hb; replace BK312 := yK BK312.out hb; replace BK323 := yK BK323.out hb; replace HB := aM (zT (zH HB.out) hb)
           (try clear hb)
           refine hK.out _ _ ⟨yc BK323.out 0, yc BK323.out 1, yc BK323.out 2, yc BK311.out 0, yc BK311.out 1, yc BK311.out 2⟩ (fun hHeld => ?_)
           clear hK K; refine norm_ (a' := ?_) ?_ ?_; rotate_left
           ·show Act.put _ (some 62) _ = _
            simp only [Act.put, qA, qB, qC, i64_w, i32_w]
            rfl
           refine one_ (i := 10) (N := some 63) #[tT,tT,tT,tT,tT,tT,tT,tT,tT,tT,tT,tT,fF,tT,fF,fF,fF,fF,fF] rfl rfl (one_of HT_.out (by kernel_rfl)) (by decide) (fun K hK => ?_)
           refine gS Try.func57 (by kernel_rfl) rfl #[.string t337, .string t338] (by rfl) rfl rfl ?_
           with_reducible refine (impl_xor.calls t337 t338 t339 _ A104.out).mono ?_
           rintro e w132 ⟨rfl, hb⟩
           refine ⟨_, rfl, ?_⟩
           replace HO317 := xK HO317.out hb; replace HO320 := xK HO320.out hb; replace BK311 := yK BK311.out hb; replace BK312 := yK BK312.out hb; replace BK323 := yK BK323.out hb; replace HB := aM (zT (zH HB.out) hb)
           (try clear hb)
           refine hK.out _ _ ⟨yc BK323.out 0, yc BK323.out 1, yc BK323.out 2, yc BK311.out 0, yc BK311.out 1, yc BK311.out 2⟩ (fun hHeld => ?_)
           clear hK K; refine norm_ (a' := ?_) ?_ ?_; rotate_left
           ·show Act.put _ (some 63) _ = _
            simp only [Act.put, qA, qB, qC, i64_w, i32_w]
            rfl
           refine one_ (i := 12) (N := some 65) #[tT,tT,tT,tT,tT,tT,tT,tT,tT,tT,tT,tT,tT,tT,fF,fF,fF,fF,fF] rfl rfl (one_of HT_.out (by kernel_rfl)) (by decide) (fun K hK => ?_)
           refine goes_ Try.func63 (by kernel_rfl) rfl #[.int .u8 2, .int .i64 ji27] (by rfl) rfl rfl (by (try simp only [List.map_toArray, List.map_cons, List.map_nil]); first | done | (simp only [hji27]; rfl) | rfl | (simp only [List.length_drop, List.length_take]; rfl)) ?_
           with_reducible refine (impl_power.calls kj3 2 ji27 t340 _ A105.out).mono ?_
           rintro e w' ⟨rfl, ⟨nd, rfl⟩⟩
           refine ⟨_, rfl, ?_⟩
           refine hK.out _ _ ⟨yc BK323.out 0, yc BK323.out 1, yc BK323.out 2, yc BK311.out 0, yc BK311.out 1, yc BK311.out 2⟩ (fun hHeld => ?_)
           clear hK K; refine norm_ (a' := ?_) ?_ ?_; rotate_left
           ·show Act.put _ (some 65) _ = _
            simp only [Act.put, qA, qB, qC, i64_w, i32_w]
            rfl
           refine one_ (i := 14) (N := some 67) #[tT,tT,tT,tT,tT,tT,tT,tT,tT,tT,tT,tT,tT,tT,tT,fF,fF,fF,fF] rfl rfl (one_of HT_.out (by kernel_rfl)) (by decide) (fun K hK => ?_)
           refine goes_ Try.func63 (by kernel_rfl) rfl #[.int .u8 2, .int .i64 ji28] (by rfl) rfl rfl (by (try simp only [List.map_toArray, List.map_cons, List.map_nil]); first | done | (simp only [hji28]; rfl) | rfl | (simp only [List.length_drop, List.length_take]; rfl)) ?_
           with_reducible refine (impl_power.calls kj3 2 ji28 t341 _ A106.out).mono ?_
           rintro e w' ⟨rfl, ⟨nd, rfl⟩⟩
           refine ⟨_, rfl, ?_⟩
           refine hK.out _ _ ⟨yc BK323.out 0, yc BK323.out 1, yc BK323.out 2, yc BK311.out 0, yc BK311.out 1, yc BK311.out 2⟩ (fun hHeld => ?_)
           clear hK K; refine norm_ (a' := ?_) ?_ ?_; rotate_left
           ·show Act.put _ (some 67) _ = _
            simp only [Act.put, qA, qB, qC, i64_w, i32_w]
            rfl
           refine pure_ (i := 15) (N := some 68) (v := ?_) (a' := ?_) #[tT,tT,tT,tT,tT,tT,tT,tT,tT,tT,tT,tT,tT,tT,tT,tT,fF,fF,fF] rfl rfl (any_of HT_.out (by kernel_rfl)) (fun _ _ _ h => h) (Or.inl ⟨by rfl, ?_⟩) ?_ ?_
           rotate_left
           ·intro w'
            go_simp
            with_reducible rfl
           rotate_left
           ·simp only [Act.put, qA, qB, qC, i64_w, i32_w]
            rfl
           refine one_ (i := 16) (N := some 69) #[tT,tT,tT,tT,tT,tT,tT,tT,tT,tT,tT,tT,tT,tT,tT,tT,tT,fF,fF] rfl rfl (one_of HT_.out (by kernel_rfl)) (by decide) (fun K hK => ?_)
           refine gS Try.func62 (by kernel_rfl) rfl #[.string t339, .int .u8 (Go.bits .xor .u8 t340 t341)] (by rfl) rfl rfl ?_
           with_reducible refine (impl_divided.calls kj3 t339 (Go.bits .xor .u8 t340 t341) t342 _ A107.out).mono ?_
           rintro e w133 ⟨rfl, hb⟩
           refine ⟨_, rfl, ?_⟩
           replace HO317 := xK HO317.out hb; replace HO320 := xK HO320.out hb; replace BK311 := yK BK311.out hb; replace BK312 := yK BK312.out hb; replace BK323 := yK BK323.out hb; replace HB := aM (zT (zH HB.out) hb)
           (try clear hb)
           have p110 : 0 ≤ ((ji27) : Int) := of_decide_eq_true (by first | (with_reducible assumption) | assumption)
           have q110 : ((ji27) : Int) < ((t318.length : Int) : Int) := of_decide_eq_true (by first | (with_reducible assumption) | assumption)
           obtain ⟨go110, co110, eo110, gb110, gl110, cl110, HG110⟩ := Kd.R_form HO320.out (by omega)
           (first | cases eo110 | (injection eo110 with ea_ en_ ec_; (first | subst ea_ | (injection ea_ with ea_; subst ea_)); subst ec_; clear en_))
           have GB110 := aM gb110; have GG110 := aM HG110; clear gb110 gl110 HG110; obtain ⟨hx110_0, hf110_0⟩ := Kd.R_celln (⟨#[]⟩ : ByteArray) HO320.out ((ji27) : Int) p110 q110; replace p110 := eq_true p110; replace q110 := eq_true q110; have HP134 := Kd.R_putn HO320.out ((ji27) : Int) t342
           rw [← Ny343.out] at HP134
           have HQ134 := aM HP134; clear HP134
           refine hK.out _ _ ⟨yc BK323.out 0, yc BK323.out 1, yc BK323.out 2, yc BK311.out 0, yc BK311.out 1, yc BK311.out 2⟩ (fun hHeld => ?_)
           clear hK K; refine norm_ (a' := ?_) ?_ ?_; rotate_left
           ·show Act.put _ (some 69) _ = _
            simp only [Act.put, qA, qB, qC, i64_w, i32_w]
            rfl
           refine pure_ (i := 17) (N := some 70) (v := ?_) (a' := ?_) #[tT,tT,tT,tT,tT,tT,tT,tT,tT,tT,tT,tT,tT,tT,tT,tT,tT,tT,fF] rfl rfl (any_of HT_.out (by kernel_rfl)) (fun _ _ _ h => h) (Or.inl ⟨by rfl, ?_⟩) ?_ ?_
           rotate_left
           ·intro w'
            go_simp
            with_reducible rfl
           rotate_left
           ·simp only [Act.put, qA, qB, qC, i64_w, i32_w]
            rfl
           refine last_ (i := 18) (N := none) #[tT,tT,tT,tT,tT,tT,tT,tT,tT,tT,tT,tT,tT,tT,tT,tT,tT,tT,tT] rfl rfl (one_of HT_.out (by kernel_rfl)) (by decide) (fun K hK => ?_)
           refine skip_ (w1 := ?_) (by rfl) rfl ?_ ?_
           rotate_left
           ·go_simp
            rfl
           refine hK.out _ _ ?_
           clear hK K
           refine done_ (done_of HT_.out (by kernel_rfl)) ?_
           have n0_ : Aside0 (Kd.R (Kd.int .i64) 3 (w133.setCell ⟨go110, ((ji27) : Int).toNat, none⟩ (.string t342)) w.heap.size (fun _ => True) (.slice Ao119 y315.length co119) y315) := ⟨by (with_reducible repeat (first | apply xA | apply xN | apply xD)); first | exact xM (xF (p := ⟨go110, ((ji27) : Int).toNat, none⟩) (xT HO317.out GG110.out (by decide)) (fun _ hk => hk.2) (.string t342)) (fun _ hk => trivial) | (obtain ⟨_, _, _, q_, hq_, cl_, HG_⟩ := (Kd.R_bound HO320.out).1 go110 rfl; obtain rfl : q_ = 9 := (by first | exact List.mem_singleton.mp hq_ | simpa using hq_); exact xM (xF (p := ⟨go110, ((ji27) : Int).toNat, none⟩) (xT HO317.out HG_ (by decide)) (fun _ hk => hk.2) (.string t342)) (fun _ hk => trivial))⟩
           have n1_ : Aside0 (Kd.R Kd.string 9 (w133.setCell ⟨go110, ((ji27) : Int).toNat, none⟩ (.string t342)) w.heap.size (fun _ => True) (.slice (some ⟨go110, 0, none⟩) t318.length co122) y343) := ⟨xH HQ134.out⟩
           have n2_ : Aside0 ((w133.setCell ⟨go110, ((ji27) : Int).toNat, none⟩ (.string t342)).heap[gb311]? = some (.cells #[.slice A0_0 l0_0.length c0_0, .string a0_1, .string a0_2] 27 (0, 0))) := ⟨by refine yW ?_; refine yF ?_ (by have h_ := Kd.R_ne HO320.out BK311.out (by decide); intro e_; exact h_ (by rw [e_]; rfl)) _; refine yW ?_; exact BK311.out⟩
           have n3_ : Aside0 ((w133.setCell ⟨go110, ((ji27) : Int).toNat, none⟩ (.string t342)).heap[gb312]? = some (.cells #[.slice none 0 0, .string (⟨#[]⟩ : ByteArray), .string (⟨#[]⟩ : ByteArray)] 27 (0, 0))) := ⟨by refine yW ?_; refine yF ?_ (by have h_ := Kd.R_ne HO320.out BK312.out (by decide); intro e_; exact h_ (by rw [e_]; rfl)) _; refine yW ?_; exact BK312.out⟩
           have n4_ : Aside0 ((w133.setCell ⟨go110, ((ji27) : Int).toNat, none⟩ (.string t342)).heap[gb323]? = some (.cells #[.slice (some ⟨go110, 0, none⟩) t318.length co122, .string t321, .string t322] 27 (0, 0))) := ⟨by refine yW ?_; refine yF ?_ (by have h_ := Kd.R_ne HO320.out BK323.out (by decide); intro e_; exact h_ (by rw [e_]; rfl)) _; refine yW ?_; exact BK323.out⟩
           have n5_ : Aside0 (Below w.heap.size w (w133.setCell ⟨go110, ((ji27) : Int).toNat, none⟩ (.string t342))) := ⟨by repeat (first | (with_reducible first | exact HB.out | apply zA | apply zN | apply zD | refine zS ?_ GB110.out | refine zS ?_ GE311.out | refine zS ?_ GE312.out | refine zS ?_ GE323.out) | exact HB.out)⟩
           (try clear HO317); (try clear HO320); (try clear BK311); (try clear BK312); (try clear BK323); (try clear HB)
           generalize (w133.setCell ⟨go110, ((ji27) : Int).toNat, none⟩ (.string t342)) = w135 at n0_ n1_ n2_ n3_ n4_ n5_ ⊢
           have HO317 := n0_; have HO320 := n1_; have BK311 := n2_; have BK312 := n3_; have BK323 := n4_; have HB := n5_; clear n0_ n1_ n2_ n3_ n4_ n5_
           try go_wp2
           replace HO317 := aM (xD HO317.out); replace HO320 := aM (xD HO320.out); replace BK311 := aM (yD BK311.out); replace BK312 := aM (yD BK312.out); replace BK323 := aM (yD BK323.out); replace HB := aM (zD HB.out)
           have p344 : 0 ≤ ((ji27) : Int) := of_decide_eq_true (by first | (with_reducible assumption) | assumption)
           have q344 : (ji27) < (y343.length : Int) := (by have h_ : ((ji27) : Int) < ((t318.length : Int) : Int) := of_decide_eq_true (by first | (with_reducible assumption) | assumption); first | (have e_ := (Kd.R_reads' HO320.out).1; omega) | simpa only [Ny343.out, List.length_set] using h_)
           have ql344 : (((ji27) : Int) < ((t318.length : Int) : Int)) = True := eq_true (of_decide_eq_true (by first | (with_reducible assumption) | assumption))
           obtain ⟨ad344, e344, hx344_0⟩ := Kd.at_string (Kd.R_reads' HO320.out).2.2 (ji27) p344 q344
           obtain rfl : (⟨go110, 0, none⟩ : Addr) = ad344 := (by injection e344)
           (first | simp only [add_plain] at hx344_0 | simp only [add_at] at hx344_0 | simp only [Addr.add, Nat.zero_add] at hx344_0 | skip)
           replace p344 := eq_true p344; replace q344 := eq_true q344
           refine start_ (n := 12) (S := fun w' => w'.cell? ⟨gb323, 0, none⟩ = some (.slice (some ⟨go110, 0, none⟩) t318.length co122) ∧ w'.cell? ⟨gb323, 1, none⟩ = some (.string t321) ∧ w'.cell? ⟨gb323, 2, none⟩ = some (.string t322) ∧ w'.cell? ⟨go110, ((ji27)).toNat, none⟩ = some (.string (rdOf ByteArray.empty y343 (ji27)))) (ds := [11]) #[fF,fF,fF,fF,fF,fF,fF,fF,fF,fF,fF,fF] (by kernel_rfl) rfl rfl ⟨yc BK323.out 0, yc BK323.out 1, yc BK323.out 2, hx344_0⟩ (fun hHeld => ?_); refine with_tabW impl_RecoverTwo.tab9 impl_RecoverTwo.bits9 (fun HT_ HW_ => ?_)
           generalize w135.drew = w136 at HO317 HO320 BK311 BK312 BK323 HB hx344_0 hHeld ⊢
           refine pure_ (i := 0) (N := some 71) (v := ?_) (a' := ?_) #[tT,fF,fF,fF,fF,fF,fF,fF,fF,fF,fF,fF] rfl rfl (any_of HT_.out (by kernel_rfl)) (fun _ _ _ h => h) (Or.inl ⟨by rfl, ?_⟩) ?_ ?_
           rotate_left
           ·intro w'
            go_simp
            with_reducible rfl
           rotate_left
           ·simp only [Act.put, qA, qB, qC, i64_w, i32_w]
            rfl
           refine pure_ (i := 2) (N := some 73) (v := ?_) (a' := ?_) #[tT,fF,tT,fF,fF,fF,fF,fF,fF,fF,fF,fF] rfl rfl (any_of HT_.out (by kernel_rfl)) (fun _ _ _ h => h) (Or.inl ⟨by rfl, ?_⟩) ?_ ?_
           rotate_left
           ·intro w'
            go_simp
            with_reducible rfl
           rotate_left
           ·simp only [Act.put, qA, qB, qC, i64_w, i32_w]
            rfl
           refine pure_ (i := 3) (N := some 74) (v := ?_) (a' := ?_) #[tT,fF,tT,tT,fF,fF,fF,fF,fF,fF,fF,fF] rfl rfl (any_of HT_.out (by kernel_rfl)) (fun _ _ _ h => h) (Or.inl ⟨by rfl, ?_⟩) ?_ ?_
           rotate_left
           ·intro w'
            go_simp
            with_reducible rfl
           rotate_left
           ·simp only [Act.put, qA, qB, qC, i64_w, i32_w]
            rfl
           refine pure_ (i := 4) (N := some 75) (v := ?_) (a' := ?_) #[tT,fF,tT,tT,tT,fF,fF,fF,fF,fF,fF,fF] rfl rfl (any_of HT_.out (by kernel_rfl)) (fun _ _ _ h => h) (Or.inl ⟨by rfl, ?_⟩) ?_ ?_
           rotate_left
           ·intro w'
            go_simp
            with_reducible rfl
           rotate_left
           ·simp only [Act.put, qA, qB, qC, i64_w, i32_w]
            rfl
           refine pure_ (i := 6) (N := some 77) (v := ?_) (a' := ?_) #[tT,fF,tT,tT,tT,fF,tT,fF,fF,fF,fF,fF] rfl rfl (any_of HT_.out (by kernel_rfl)) (fun _ _ _ h => h) (Or.inl ⟨by rfl, ?_⟩) ?_ ?_
           rotate_left
           ·intro w'
            go_simp
            with_reducible rfl
           rotate_left
           ·simp only [Act.put, qA, qB, qC, i64_w, i32_w]
            rfl
           refine take_ (i := 1) (N := some 72) (v := ?_) (a' := ?_) #[tT,tT,tT,tT,tT,fF,tT,fF,fF,fF,fF,fF] rfl rfl (take_ofW HT_.out HW_.out (by kernel_rfl)) (fun _ _ _ h => h) (Or.inl ⟨by rfl, ?_⟩) hHeld ?_ ?_
           rotate_left
           ·rintro w' ⟨s0, s1, s2, s3⟩
            go_simp
            with_reducible rfl
           rotate_left
           ·simp only [Act.put, qA, qB, qC, i64_w, i32_w]
            rfl
           refine take_ (i := 5) (N := some 76) (v := ?_) (a' := ?_) #[tT,tT,tT,tT,tT,tT,tT,fF,fF,fF,fF,fF] rfl rfl (take_ofW HT_.out HW_.out (by kernel_rfl)) (fun _ _ _ h => h) (Or.inl ⟨by rfl, ?_⟩) hHeld ?_ ?_
           rotate_left
           ·rintro w' ⟨s0, s1, s2, s3⟩
            go_simp
            with_reducible rfl
           rotate_left
           ·simp only [Act.put, qA, qB, qC, i64_w, i32_w]
            rfl
           refine pure_ (i := 7) (N := some 78) (v := ?_) (a' := ?_) #[tT,tT,tT,tT,tT,tT,tT,tT,fF,fF,fF,fF] rfl rfl (any_of HT_.out (by kernel_rfl)) (fun _ _ _ h => h) (Or.inl ⟨by rfl, ?_⟩) ?_ ?_
           rotate_left
           ·intro w'
            go_simp
            with_reducible rfl
           rotate_left
           ·simp only [Act.put, qA, qB, qC, i64_w, i32_w]
            rfl
           refine take_ (i := 8) (N := some 79) (v := ?_) (a' := ?_) #[tT,tT,tT,tT,tT,tT,tT,tT,tT,fF,fF,fF] rfl rfl (take_ofW HT_.out HW_.out (by kernel_rfl)) (fun _ _ _ h => h) (Or.inl ⟨by rfl, ?_⟩) hHeld ?_ ?_
           rotate_left
           ·rintro w' ⟨s0, s1, s2, s3⟩
            go_simp
            with_reducible rfl
           rotate_left
           ·simp only [Act.put, qA, qB, qC, i64_w, i32_w]
            rfl
           refine one_ (i := 9) (N := some 80) #[tT,tT,tT,tT,tT,tT,tT,tT,tT,tT,fF,fF] rfl rfl (one_of HT_.out (by kernel_rfl)) (by decide) (fun K hK => ?_)
           refine goes_ Try.func57 (by kernel_rfl) rfl #[.string t336, .string (rdOf ByteArray.empty y343 (ji27))] (by rfl) rfl rfl (by (try simp only [List.map_toArray, List.map_cons, List.map_nil]); first | done | (simp only [hji27]; rfl) | rfl | (simp only [List.length_drop, List.length_take]; rfl)) ?_
           with_reducible refine (impl_xor.calls t336 (rdOf ByteArray.empty y343 (ji27)) t345 _ A111.out).mono ?_
           rintro e w137 ⟨rfl, hb⟩
           have HS3_ := (hb.cell (World.block_lt_of_cell? _ _ (hHeld.2.2.2))).trans (hHeld.2.2.2)
           refine ⟨_, rfl, ?_⟩
           replace HO317 := xK HO317.out hb; replace HO320 := xK HO320.out hb; replace BK311 := yK BK311.out hb; replace BK312 := yK BK312.out hb; replace BK323 := yK BK323.out hb; replace HB := aM (zT (zH HB.out) hb)
           (try clear hb)
           have p114 : 0 ≤ ((ji28) : Int) := of_decide_eq_true (by first | (with_reducible assumption) | assumption)
           have q114 : ((ji28) : Int) < ((t318.length : Int) : Int) := of_decide_eq_true (by first | (with_reducible assumption) | assumption)
           obtain ⟨hx114_0, hf114_0⟩ := Kd.R_celln (⟨#[]⟩ : ByteArray) HO320.out ((ji28) : Int) p114 q114; replace p114 := eq_true p114; replace q114 := eq_true q114; have HP138 := Kd.R_putn HO320.out ((ji28) : Int) t345
           rw [← Ny346.out] at HP138
           have HQ138 := aM HP138; clear HP138
           refine hK.out _ _ ⟨yc BK323.out 0, yc BK323.out 1, yc BK323.out 2, HS3_⟩ (fun hHeld => ?_)
           clear hK K; refine norm_ (a' := ?_) ?_ ?_; rotate_left
           ·show Act.put _ (some 80) _ = _
            simp only [Act.put, qA, qB, qC, i64_w, i32_w]
            rfl
           refine pure_ (i := 10) (N := some 81) (v := ?_) (a' := ?_) #[tT,tT,tT,tT,tT,tT,tT,tT,tT,tT,tT,fF] rfl rfl (any_of HT_.out (by kernel_rfl)) (fun _ _ _ h => h) (Or.inl ⟨by rfl, ?_⟩) ?_ ?_
           rotate_left
           ·intro w'
            go_simp
            with_reducible rfl
           rotate_left
           ·simp only [Act.put, qA, qB, qC, i64_w, i32_w]
            rfl
           refine last_ (i := 11) (N := none) #[tT,tT,tT,tT,tT,tT,tT,tT,tT,tT,tT,tT] rfl rfl (one_of HT_.out (by kernel_rfl)) (by decide) (fun K hK => ?_)
           refine skip_ (w1 := ?_) (by rfl) rfl ?_ ?_
           rotate_left
           ·go_simp
            rfl
           refine hK.out _ _ ?_
           clear hK K
           refine done_ (done_of HT_.out (by kernel_rfl)) ?_
           have n0_ : Aside0 (Kd.R (Kd.int .i64) 3 (w137.setCell ⟨go110, ((ji28) : Int).toNat, none⟩ (.string t345)) w.heap.size (fun _ => True) (.slice Ao119 y315.length co119) y315) := ⟨by (with_reducible repeat (first | apply xA | apply xN | apply xD)); first | exact xM (xF (p := ⟨go110, ((ji28) : Int).toNat, none⟩) (xT HO317.out GG110.out (by decide)) (fun _ hk => hk.2) (.string t345)) (fun _ hk => trivial) | (obtain ⟨_, _, _, q_, hq_, cl_, HG_⟩ := (Kd.R_bound HO320.out).1 go110 rfl; obtain rfl : q_ = 9 := (by first | exact List.mem_singleton.mp hq_ | simpa using hq_); exact xM (xF (p := ⟨go110, ((ji28) : Int).toNat, none⟩) (xT HO317.out HG_ (by decide)) (fun _ hk => hk.2) (.string t345)) (fun _ hk => trivial))⟩
           have n1_ : Aside0 (Kd.R Kd.string 9 (w137.setCell ⟨go110, ((ji28) : Int).toNat, none⟩ (.string t345)) w.heap.size (fun _ => True) (.slice (some ⟨go110, 0, none⟩) t318.length co122) y346) := ⟨xH HQ138.out⟩
           have n2_ : Aside0 ((w137.setCell ⟨go110, ((ji28) : Int).toNat, none⟩ (.string t345)).heap[gb311]? = some (.cells #[.slice A0_0 l0_0.length c0_0, .string a0_1, .string a0_2] 27 (0, 0))) := ⟨by refine yW ?_; refine yF ?_ (by have h_ := Kd.R_ne HO320.out BK311.out (by decide); intro e_; exact h_ (by rw [e_]; rfl)) _; refine yW ?_; exact BK311.out⟩
           have n3_ : Aside0 ((w137.setCell ⟨go110, ((ji28) : Int).toNat, none⟩ (.string t345)).heap[gb312]? = some (.cells #[.slice none 0 0, .string (⟨#[]⟩ : ByteArray), .string (⟨#[]⟩ : ByteArray)] 27 (0, 0))) := ⟨by refine yW ?_; refine yF ?_ (by have h_ := Kd.R_ne HO320.out BK312.out (by decide); intro e_; exact h_ (by rw [e_]; rfl)) _; refine yW ?_; exact BK312.out⟩
           have n4_ : Aside0 ((w137.setCell ⟨go110, ((ji28) : Int).toNat, none⟩ (.string t345)).heap[gb323]? = some (.cells #[.slice (some ⟨go110, 0, none⟩) t318.length co122, .string t321, .string t322] 27 (0, 0))) := ⟨by refine yW ?_; refine yF ?_ (by have h_ := Kd.R_ne HO320.out BK323.out (by decide); intro e_; exact h_ (by rw [e_]; rfl)) _; refine yW ?_; exact BK323.out⟩
           have n5_ : Aside0 (Below w.heap.size w (w137.setCell ⟨go110, ((ji28) : Int).toNat, none⟩ (.string t345))) := ⟨by repeat (first | (with_reducible first | exact HB.out | apply zA | apply zN | apply zD | refine zS ?_ GB110.out | refine zS ?_ GE311.out | refine zS ?_ GE312.out | refine zS ?_ GE323.out) | exact HB.out)⟩
           (try clear HO317); (try clear HO320); (try clear BK311); (try clear BK312); (try clear BK323); (try clear HB)
           generalize (w137.setCell ⟨go110, ((ji28) : Int).toNat, none⟩ (.string t345)) = w139 at n0_ n1_ n2_ n3_ n4_ n5_ ⊢
           have HO317 := n0_; have HO320 := n1_; have BK311 := n2_; have BK312 := n3_; have BK323 := n4_; have HB := n5_; clear n0_ n1_ n2_ n3_ n4_ n5_; have hcz140_0 : w139.cell? ⟨gb323, 0, none⟩ = some (.slice (some ⟨go110, 0, none⟩) t318.length co122) := yc BK323.out 0; have hcz140_1 : w139.cell? ⟨gb323, 1, none⟩ = some (.string t321) := yc BK323.out 1; have hcz140_2 : w139.cell? ⟨gb323, 2, none⟩ = some (.string t322) := yc BK323.out 2; have hfz140_0 := yZ BK323.out 0; have hfz140_1 := yZ BK323.out 1; have hfz140_2 := yZ BK323.out 2; have hcz141_0 : w139.cell? ⟨gb312, 0, none⟩ = some (.slice none 0 0) := yc BK312.out 0; have hcz141_1 : w139.cell? ⟨gb312, 1, none⟩ = some (.string (⟨#[]⟩ : ByteArray)) := yc BK312.out 1; have hcz141_2 : w139.cell? ⟨gb312, 2, none⟩ = some (.string (⟨#[]⟩ : ByteArray)) := yc BK312.out 2; have hfz141_0 := yZ BK312.out 0; have hfz141_1 := yZ BK312.out 1; have hfz141_2 := yZ BK312.out 2
           try go_wp2
           refine bodyPost_ret (results_ct rfl _ _ gb312 27 #[.slice (some ⟨go110, 0, none⟩) t318.length co122, .string t321, .string t322] (0, 0) _ rfl (by refine yW ?_; refine yP (cs := #[.slice (some ⟨go110, 0, none⟩) t318.length co122, .string t321, .string (⟨#[]⟩ : ByteArray)]) ?_ 2 _ rfl; refine yW ?_; refine yP (cs := #[.slice (some ⟨go110, 0, none⟩) t318.length co122, .string (⟨#[]⟩ : ByteArray), .string (⟨#[]⟩ : ByteArray)]) ?_ 1 _ rfl; refine yW ?_; refine yP (cs := #[.slice none 0 0, .string (⟨#[]⟩ : ByteArray), .string (⟨#[]⟩ : ByteArray)]) ?_ 0 _ rfl; refine yW ?_; exact BK312.out) Try.underlying27 rfl (by kernel_rfl)) rfl ?_
           exact ⟨_, by first | rfl | (simp [errW_none, errW_some] <;> rfl) | (simp only [← hji27, ← hji28]; first | rfl | (simp [errW_none, errW_some] <;> rfl)) | (simp [*, errW_none, errW_some] <;> rfl), xH (xM (xF (p := ⟨gb312, 2, none⟩) (xF (p := ⟨gb312, 1, none⟩) (xF (p := ⟨gb312, 0, none⟩) (xT HO320.out BK312.out (by decide)) (fun _ hk => hk.2) (.slice (some ⟨go110, 0, none⟩) t318.length co122)) (fun _ hk => hk.2) (.string t321)) (fun _ hk => hk.2) (.string t322)) (fun _ hk => trivial)), zH HB.out⟩
          ·rw [if_neg c113] at H
           exact absurd H (by simp)
         ·rw [if_neg c112] at H
          exact absurd H (by simp)
        ·rw [if_neg c109] at H
         exact absurd H (by simp)
       ·rw [if_neg c108] at H
        exact absurd H (by simp)

end Go.Proofs.Ytfijnlhklfmoeaa.PFnParity
