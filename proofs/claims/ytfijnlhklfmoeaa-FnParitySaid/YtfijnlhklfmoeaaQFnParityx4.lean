/- The walks of FnParity: Go's calls come to what the Lean functions beside them say; no condition. -/
import Derived.Test.YtfijnlhklfmoeaaQFnParityx0
import Derived.Test.YtfijnlhklfmoeaaQFnParityx1
import Derived.Test.YtfijnlhklfmoeaaQFnParityx2
import Derived.Test.YtfijnlhklfmoeaaQFnParityx3
namespace Go.Proofs.Ytfijnlhklfmoeaa.PFnParity
open Go.RowKit Go.Proofs.YtfijnlhklfmoeaaW.PrintWords Go.Proofs.YtfijnlhklfmoeaaW.PrintLast Go.Proofs.YtfijnlhklfmoeaaW.PrintMore
attribute [local go_sem] max2_int min2_int max_two min_two max_three min_three max_four min_four   -- for this text's walks alone
set_option linter.unusedVariables false
set_option linter.unusedSimpArgs false
set_option maxRecDepth 100000

/-! ### impl_MakeStripe: function 22 -/
def impl_MakeStripe.f (k : Nat) (l0 : List ByteArray) : Option (List ByteArray × ByteArray × ByteArray × Bool) := (impl_areEqual.f l0).bind fun t150 => (if t150 = true then ((impl_parities.f k l0).bind fun bt151 => ((slices_Clone_string_string.f l0).bind fun t153 => (some (t153, bt151.1, bt151.2, true)))) else (some (([] : List ByteArray), (⟨#[]⟩ : ByteArray), (⟨#[]⟩ : ByteArray), false)))
theorem impl_MakeStripe.mono : ∀ a0 k, LeO (impl_MakeStripe.f k a0) (impl_MakeStripe.f (k + 1) a0) := by
 intro a0 k
 unfold impl_MakeStripe.f
 repeat' first
   | (with_reducible exact impl_parities.mono _ _)
   | (with_reducible exact LeO.refl _)
   | (with_reducible exact LeO.none _)
   | (with_reducible refine LeO.ite ?_ ?_)
   | (with_reducible refine LeO.bind ?_ (fun _ => ?_))
   | exact impl_parities.mono _ _
   | exact LeO.none _
   | refine LeO.ite ?_ ?_
   | refine LeO.bind ?_ (fun _ => ?_)
set_option maxHeartbeats 8000000 in
set_option maxRecDepth 100000 in
theorem impl_MakeStripe.calls (k : Nat) (A0 : Option Addr) (c0 : Nat) (l0 : List ByteArray) (r1 : List ByteArray) (r2 : ByteArray) (r3 : ByteArray) (r4 : Bool) (w : World) (hr0 : Kd.C Kd.string w A0 l0.length l0) (hc0 : l0.length ≤ c0) (h : impl_MakeStripe.f k l0 = some (r1, r2, r3, r4)) :
  Calls Try.prog 22 #[.slice A0 l0.length c0] w fun e w' => ∃ v0_ : Value, e = .returned (.tuple #[.agg #[v0_, .string r2, .string r3], .bool r4]) ∧ Kd.R Kd.string 9 w' w.heap.size (fun _ => True) v0_ r1 ∧ Below w.heap.size w w' := by
 have hu27 := Try.underlying27; have HR0 := aM hr0; have HC0 := aM hc0; clear hr0 hc0; have HB := aM (Below.refl w.heap.size w)
 have H : ((impl_areEqual.f l0).bind fun t150 => (if t150 = true then ((impl_parities.f k l0).bind fun bt151 => ((slices_Clone_string_string.f l0).bind fun t153 => (some (t153, bt151.1, bt151.2, true)))) else (some (([] : List ByteArray), (⟨#[]⟩ : ByteArray), (⟨#[]⟩ : ByteArray), false)))) = some (r1, r2, r3, r4) := h
 clear h; replace H := Option.bind_eq_some_iff.mp H; obtain ⟨t150, A20, H⟩ := H
 replace H : (if t150 = true then ((impl_parities.f k l0).bind fun bt151 => ((slices_Clone_string_string.f l0).bind fun t153 => (some (t153, bt151.1, bt151.2, true)))) else (some (([] : List ByteArray), (⟨#[]⟩ : ByteArray), (⟨#[]⟩ : ByteArray), false))) = some (r1, r2, r3, r4) := H
 have A2 := aM A20; clear A20
 by_cases c3 : t150 = true
 ·subst c3
  have H1 : ((impl_parities.f k l0).bind fun bt151 => ((slices_Clone_string_string.f l0).bind fun t153 => (some (t153, bt151.1, bt151.2, true)))) = some (r1, r2, r3, r4) := by rw [if_pos rfl] at H; exact H
  clear H; have H := H1; clear H1; replace H := Option.bind_eq_some_iff.mp H; obtain ⟨⟨t151, t152⟩, A40, H⟩ := H
  replace H : ((slices_Clone_string_string.f l0).bind fun t153 => (some (t153, t151, t152, true))) = some (r1, r2, r3, r4) := H
  have A4 := aM A40; clear A40; replace H := Option.bind_eq_some_iff.mp H; obtain ⟨t153, A50, H⟩ := H; replace H : (some (t153, t151, t152, true)) = some (r1, r2, r3, r4) := H; have A5 := aM A50; clear A50
  simp only [Option.some.injEq, Prod.mk.injEq] at H
  obtain ⟨rfl, rfl, rfl, rfl⟩ := H
  go_enter Try.func22, Try.ntmps22
  go_wp2_with (first | ((with_reducible refine gate_dst (N := 2) rfl ?_); refine box_event ?hg (N := 2) ?hd (cs := #[.slice none 0 0, .string (⟨#[]⟩ : ByteArray), .string (⟨#[]⟩ : ByteArray)]) (t := 27) ?hr ?_; (case hd => rfl); (case hg => rfl); (case hr => first | (go_simp; done) | (go_simp; rfl)); intro gb149 hg w6 hbox hb; have BK149 := aM (hbox); have GW149 := aM ((by rw [hg]; exact (zZ (zH HB.out)) : w.heap.size ≤ gb149)); have GE149 := aM ((by rw [hg]; exact (zZ (zH HB.out)) : w.heap.size ≤ gb149)); replace HB := aM (zT (zH HB.out) hb); clear hb hbox hg) | ((with_reducible refine gate_callee (f := 42) rfl ?_); refine goesL_ (some 7) rfl rfl Try.func42 (by kernel_rfl) rfl #[.slice A0 l0.length c0] rfl mA ?_; (with_reducible refine (impl_areEqual.calls _ _ l0 true _ ?side1 ?side2 A2.out).mono ?_); (case side1 => exact cK HR0.out HB.out); (case side2 => exact HC0.out); rintro e w7 ⟨rfl, hb⟩; refine ⟨_, rfl, ?_⟩; replace BK149 := yK BK149.out hb; replace HB := aM (zT (zH HB.out) hb); (try clear hb)) | ((with_reducible refine gate_callee (f := 46) rfl ?_); refine goesL_ (some 12) rfl rfl Try.func46 (by kernel_rfl) rfl #[.slice A0 l0.length c0] rfl mA ?_; (with_reducible refine (impl_parities.calls k _ _ l0 t151 t152 _ ?side1 ?side2 A4.out).mono ?_); (case side1 => exact cK HR0.out HB.out); (case side2 => exact HC0.out); rintro e w8 ⟨rfl, hb⟩; refine ⟨_, rfl, ?_⟩; replace BK149 := yK BK149.out hb; replace HB := aM (zT (zH HB.out) hb); (try clear hb)) | ((with_reducible refine gate_callee (f := 47) rfl ?_); refine goesL_ (some 16) rfl rfl Try.func47 (by kernel_rfl) rfl #[.slice A0 l0.length c0] rfl mA ?_; (with_reducible refine (slices_Clone_string_string.calls _ _ l0 t153 _ ?side1 ?side2 A5.out).mono ?_); (case side1 => exact cK HR0.out HB.out); (case side2 => exact HC0.out); rintro e w9 ⟨v154, rfl, ho0, hb⟩; refine ⟨_, rfl, ?_⟩; have HO155 := aM (xL ho0 (zZ (zH HB.out))); replace BK149 := yK BK149.out hb; replace HB := aM (zT (zH HB.out) hb); (try clear hb); (try clear ho0); obtain ⟨Ao10, co10, eo10⟩ := Kd.R_slice HO155.out; subst eo10; have hcz11_0 : w9.cell? ⟨gb149, 0, none⟩ = some (.slice none 0 0) := yc BK149.out 0; have hcz11_1 : w9.cell? ⟨gb149, 1, none⟩ = some (.string (⟨#[]⟩ : ByteArray)) := yc BK149.out 1; have hcz11_2 : w9.cell? ⟨gb149, 2, none⟩ = some (.string (⟨#[]⟩ : ByteArray)) := yc BK149.out 2; have hfz11_0 := yZ BK149.out 0; have hfz11_1 := yZ BK149.out 1; have hfz11_2 := yZ BK149.out 2))
  refine bodyPost_ret (results_ct rfl _ _ gb149 27 #[.slice Ao10 t153.length co10, .string t151, .string t152] (0, 0) _ rfl (by refine yW ?_; refine yP (cs := #[.slice Ao10 t153.length co10, .string t151, .string (⟨#[]⟩ : ByteArray)]) ?_ 2 _ rfl; refine yW ?_; refine yP (cs := #[.slice Ao10 t153.length co10, .string (⟨#[]⟩ : ByteArray), .string (⟨#[]⟩ : ByteArray)]) ?_ 1 _ rfl; refine yW ?_; refine yP (cs := #[.slice none 0 0, .string (⟨#[]⟩ : ByteArray), .string (⟨#[]⟩ : ByteArray)]) ?_ 0 _ rfl; refine yW ?_; exact BK149.out) Try.underlying27 rfl (by kernel_rfl)) rfl ?_
  exact ⟨_, eW, xH (xM (xF (p := ⟨gb149, 2, none⟩) (xF (p := ⟨gb149, 1, none⟩) (xF (p := ⟨gb149, 0, none⟩) (xT HO155.out BK149.out (by decide)) (fun _ hk => hk.2) (.slice Ao10 t153.length co10)) (fun _ hk => hk.2) (.string t151)) (fun _ hk => hk.2) (.string t152)) (fun _ hk => trivial)), zH HB.out⟩
 ·replace c3 := Bool.eq_false_iff.mpr c3
  subst c3
  have H1 : (some (([] : List ByteArray), (⟨#[]⟩ : ByteArray), (⟨#[]⟩ : ByteArray), false)) = some (r1, r2, r3, r4) := by rw [if_neg (show ¬ (false = true) by decide)] at H; exact H
  clear H; have H := H1; clear H1
  simp only [Option.some.injEq, Prod.mk.injEq] at H
  obtain ⟨rfl, rfl, rfl, rfl⟩ := H
  go_enter Try.func22, Try.ntmps22
  go_wp2_with (first | ((with_reducible refine gate_dst (N := 2) rfl ?_); refine box_event ?hg (N := 2) ?hd (cs := #[.slice none 0 0, .string (⟨#[]⟩ : ByteArray), .string (⟨#[]⟩ : ByteArray)]) (t := 27) ?hr ?_; (case hd => rfl); (case hg => rfl); (case hr => first | (go_simp; done) | (go_simp; rfl)); intro gb149 hg w12 hbox hb; have BK149 := aM (hbox); have GW149 := aM ((by rw [hg]; exact (zZ (zH HB.out)) : w.heap.size ≤ gb149)); have GE149 := aM ((by rw [hg]; exact (zZ (zH HB.out)) : w.heap.size ≤ gb149)); replace HB := aM (zT (zH HB.out) hb); clear hb hbox hg) | ((with_reducible refine gate_callee (f := 42) rfl ?_); refine goesL_ (some 7) rfl rfl Try.func42 (by kernel_rfl) rfl #[.slice A0 l0.length c0] rfl mA ?_; (with_reducible refine (impl_areEqual.calls _ _ l0 false _ ?side1 ?side2 A2.out).mono ?_); (case side1 => exact cK HR0.out HB.out); (case side2 => exact HC0.out); rintro e w13 ⟨rfl, hb⟩; refine ⟨_, rfl, ?_⟩; replace BK149 := yK BK149.out hb; replace HB := aM (zT (zH HB.out) hb); (try clear hb); have hcz14_0 : w13.cell? ⟨gb149, 0, none⟩ = some (.slice none 0 0) := yc BK149.out 0; have hcz14_1 : w13.cell? ⟨gb149, 1, none⟩ = some (.string (⟨#[]⟩ : ByteArray)) := yc BK149.out 1; have hcz14_2 : w13.cell? ⟨gb149, 2, none⟩ = some (.string (⟨#[]⟩ : ByteArray)) := yc BK149.out 2; have hfz14_0 := yZ BK149.out 0; have hfz14_1 := yZ BK149.out 1; have hfz14_2 := yZ BK149.out 2))
  refine bodyPost_ret (results_ct rfl _ _ gb149 27 #[.slice none 0 0, .string (⟨#[]⟩ : ByteArray), .string (⟨#[]⟩ : ByteArray)] (0, 0) _ rfl (by refine yW ?_; refine yP (cs := #[.slice none 0 0, .string (⟨#[]⟩ : ByteArray), .string (⟨#[]⟩ : ByteArray)]) ?_ 2 _ rfl; refine yW ?_; refine yP (cs := #[.slice none 0 0, .string (⟨#[]⟩ : ByteArray), .string (⟨#[]⟩ : ByteArray)]) ?_ 1 _ rfl; refine yW ?_; refine yP (cs := #[.slice none 0 0, .string (⟨#[]⟩ : ByteArray), .string (⟨#[]⟩ : ByteArray)]) ?_ 0 _ rfl; refine yW ?_; exact BK149.out) Try.underlying27 rfl (by kernel_rfl)) rfl ?_
  exact ⟨_, eW, by first | exact Kd.R_nil _ _ _ _ _ | exact Kd.N_nil _ _ _ _ _ | exact Kd.V_nil _ _ _ _ _ | exact Kd.Q_nil _ _ _ _ _ | exact Kd.S_nil _ _ _ _ _, zH HB.out⟩

/-! ### impl_without: function 56 -/
def impl_without.l0 : Nat → List Int → Int → Int → List ByteArray → ByteArray → ByteArray → List ByteArray → ByteArray → ByteArray → Option (List ByteArray × ByteArray × ByteArray)
 | 0, _, _, _, _, _, _, _, _, _ => none
 | k + 1, x16, x17, x18, x157000, x157001, x157002, x162000, x162001, x162002 => if x18 < x17 then (if 0 ≤ x18 then (if x18 < (x16.length : Int) then (if (rd x16 x18) < (x157000.length : Int) then (if 0 ≤ (x157001.size : Int) then (if ((x157001.size : Int) : Int).toNat ≤ 281474976710656 then (if 0 ≤ (rd x16 x18) then (if (rd x16 x18) < (x162000.length : Int) then (impl_without.l0 k x16 x17 (wrap64 (x18 + 1)) x157000 x157001 x157002 (x162000.set ((rd x16 x18) : Int).toNat (strOfNums (List.replicate ((x157001.size : Int) : Int).toNat 0))) x162001 x162002) else (none)) else (none)) else (none)) else (none)) else (impl_without.l0 k x16 x17 (wrap64 (x18 + 1)) x157000 x157001 x157002 x162000 x162001 x162002)) else (none)) else (none)) else (some (x162000, x162001, x162002))
def impl_without.f (k : Nat) (l0_0 : List ByteArray) (a0_1 : ByteArray) (a0_2 : ByteArray) (l1 : List Int) : Option (List ByteArray × ByteArray × ByteArray) := (slices_Clone_string_string.f l0_0).bind fun t158 => (impl_without.l0 k l1 (l1.length : Int) 0 l0_0 a0_1 a0_2 t158 a0_1 a0_2)
theorem impl_without.mono_l : ∀ k, (∀ y0 y1 y2 y3 y4 y5 y6 y7 y8, LeO (impl_without.l0 k y0 y1 y2 y3 y4 y5 y6 y7 y8) (impl_without.l0 (k + 1) y0 y1 y2 y3 y4 y5 y6 y7 y8))
 | 0 => fun _ _ _ _ _ _ _ _ _ r h => by change none = some r at h; cases h
 | k + 1 => by
  have ih0 := impl_without.mono_l k
  ·intro y0 y1 y2 y3 y4 y5 y6 y7 y8
   unfold impl_without.l0
   repeat' first
   | (with_reducible exact ih0 _ _ _ _ _ _ _ _ _)
   | (with_reducible exact LeO.refl _)
   | (with_reducible exact LeO.none _)
   | (with_reducible refine LeO.ite ?_ ?_)
   | (with_reducible refine LeO.bind ?_ (fun _ => ?_))
   | exact ih0 _ _ _ _ _ _ _ _ _
   | exact LeO.none _
   | refine LeO.ite ?_ ?_
   | refine LeO.bind ?_ (fun _ => ?_)
theorem impl_without.mono : ∀ a0 a1 a2 a3 k, LeO (impl_without.f k a0 a1 a2 a3) (impl_without.f (k + 1) a0 a1 a2 a3) := by
 intro a0 a1 a2 a3 k
 have ih0 := impl_without.mono_l k
 unfold impl_without.f
 repeat' first
   | (with_reducible exact ih0 _ _ _ _ _ _ _ _ _)
   | (with_reducible exact LeO.refl _)
   | (with_reducible exact LeO.none _)
   | (with_reducible refine LeO.ite ?_ ?_)
   | (with_reducible refine LeO.bind ?_ (fun _ => ?_))
   | exact ih0 _ _ _ _ _ _ _ _ _
   | exact LeO.none _
   | refine LeO.ite ?_ ?_
   | refine LeO.bind ?_ (fun _ => ?_)
def impl_without.T1 : Bool × List (List Nat × List Nat) := (true, [([], []), ([0], [0]), ([1], [1]), ([], []), ([3], [3]), ([], []), ([5], [5]), ([2, 4, 6], [2, 4, 6]), ([], []), ([8, 7, 2, 0, 1, 2, 3, 4, 5, 6, 7, 8], [7, 8])])
def impl_without.B1 : List Nat := [0, 1, 3, 0, 8, 0, 32, 127, 0, 511]
theorem impl_without.tab1 : rtab .any (opsOf Try.f56 1) = impl_without.T1 := by kernel_rfl
theorem impl_without.bits1 : waitsOk impl_without.T1.2 impl_without.B1 = true := by kernel_rfl
def impl_without.T6 : Bool × List (List Nat × List Nat) := (true, [([], []), ([0], [0]), ([], []), ([], []), ([3], [3]), ([4], [4]), ([5, 5], [5]), ([6], [6]), ([1, 2, 0, 1, 2, 3, 4, 5, 6, 7], [1, 2]), ([8, 7, 0, 1, 2, 3, 4, 5, 6, 7], [7, 8])])
def impl_without.B6 : List Nat := [0, 1, 0, 0, 8, 24, 56, 120, 255, 511]
theorem impl_without.tab6 : rtab .any (opsOf Try.f56 6) = impl_without.T6 := by kernel_rfl
theorem impl_without.bits6 : waitsOk impl_without.T6.2 impl_without.B6 = true := by kernel_rfl
set_option maxHeartbeats 8000000 in
set_option maxRecDepth 100000 in
theorem impl_without.calls (k : Nat) (A0_0 : Option Addr) (c0_0 : Nat) (l0_0 : List ByteArray) (a0_1 : ByteArray) (a0_2 : ByteArray) (A1 : Option Addr) (c1 : Nat) (l1 : List Int) (r1 : List ByteArray) (r2 : ByteArray) (r3 : ByteArray) (w : World) (hr0_0 : Kd.C Kd.string w A0_0 l0_0.length l0_0) (hc0_0 : l0_0.length ≤ c0_0) (hr1 : Kd.C (Kd.int .i64) w A1 l1.length l1) (hc1 : l1.length ≤ c1) (h : impl_without.f k l0_0 a0_1 a0_2 l1 = some (r1, r2, r3)) :
  Calls Try.prog 56 #[.agg #[.slice A0_0 l0_0.length c0_0, .string a0_1, .string a0_2], .slice A1 l1.length c1] w fun e w' => ∃ v0_ : Value, e = .returned (.agg #[v0_, .string r2, .string r3]) ∧ Kd.R Kd.string 9 w' w.heap.size (fun _ => True) v0_ r1 ∧ Below w.heap.size w w' := by
 have hu27 := Try.underlying27; have HR0_0 := aM hr0_0; have HC0_0 := aM hc0_0; clear hr0_0 hc0_0; have HR1 := aM hr1; have HC1 := aM hc1; clear hr1 hc1; have HB := aM (Below.refl w.heap.size w)
 have H : ((slices_Clone_string_string.f l0_0).bind fun t158 => (impl_without.l0 k l1 (l1.length : Int) 0 l0_0 a0_1 a0_2 t158 a0_1 a0_2)) = some (r1, r2, r3) := h
 clear h; replace H := Option.bind_eq_some_iff.mp H; obtain ⟨t158, A30, H⟩ := H; replace H : (impl_without.l0 k l1 (l1.length : Int) 0 l0_0 a0_1 a0_2 t158 a0_1 a0_2) = some (r1, r2, r3) := H; have A3 := aM A30; clear A30; have H' := aM H; clear H
 go_enter Try.func56, Try.ntmps56
 try go_wp2_with (first | ((with_reducible refine gate_dst (N := 2) rfl ?_); refine box_event ?hg (N := 2) ?hd (cs := #[.slice A0_0 l0_0.length c0_0, .string a0_1, .string a0_2]) (t := 27) ?hr ?_; (case hd => rfl); (case hg => rfl); (case hr => first | (go_simp; done) | (go_simp; rfl)); intro gb156 hg w4 hbox hb; have BK156 := aM (hbox); have GW156 := aM ((by rw [hg]; exact (zZ (zH HB.out)) : w.heap.size ≤ gb156)); have GE156 := aM ((by rw [hg]; exact (zZ (zH HB.out)) : w.heap.size ≤ gb156)); replace HB := aM (zT (zH HB.out) hb); clear hb hbox hg) | ((with_reducible refine gate_dst (N := 4) rfl ?_); refine box_event ?hg (N := 4) ?hd (cs := #[.slice none 0 0, .string (⟨#[]⟩ : ByteArray), .string (⟨#[]⟩ : ByteArray)]) (t := 27) ?hr ?_; (case hd => rfl); (case hg => rfl); (case hr => first | (go_simp; done) | (go_simp; rfl)); intro gb157 hg w5 hbox hb; have BK157 := aM (hbox); have GW157 := aM ((by rw [hg]; exact (zZ (zH HB.out)) : w.heap.size ≤ gb157)); have GE157 := aM ((by rw [hg]; exact (zZ (zH HB.out)) : w.heap.size ≤ gb157)); replace HB := aM (zT (zH HB.out) hb); have NB156_157 := nL BK156.out hg; have NB157_156 := nR BK156.out hg; replace BK156 := yK BK156.out hb; clear hb hbox hg))
 replace BK156 := aM (yD BK156.out); replace BK157 := aM (yD BK157.out); replace HB := aM (zD HB.out)
 refine start_ (n := 10) (S := fun w' => w'.cell? ⟨gb156, 0, none⟩ = some (.slice A0_0 l0_0.length c0_0) ∧ w'.cell? ⟨gb156, 1, none⟩ = some (.string a0_1) ∧ w'.cell? ⟨gb156, 2, none⟩ = some (.string a0_2)) (ds := []) #[fF,fF,fF,fF,fF,fF,fF,fF,fF,fF] (by kernel_rfl) rfl rfl ⟨yc BK156.out 0, yc BK156.out 1, yc BK156.out 2⟩ (fun hHeld => ?_); refine with_tabW impl_without.tab1 impl_without.bits1 (fun HT_ HW_ => ?_)
 generalize w5.drew = w6 at BK156 BK157 HB hHeld ⊢
 refine pure_ (i := 0) (N := some 8) (v := ?_) (a' := ?_) #[tT,fF,fF,fF,fF,fF,fF,fF,fF,fF] rfl rfl (any_of HT_.out (by kernel_rfl)) (fun _ _ _ h => h) (Or.inl ⟨by rfl, ?_⟩) ?_ ?_
 rotate_left
 ·intro w'
  go_simp
  with_reducible rfl
 rotate_left
 ·simp only [Act.put, qA, qB, qC, i64_w, i32_w]
  rfl
 refine pure_ (i := 3) (N := some 11) (v := ?_) (a' := ?_) #[tT,fF,fF,tT,fF,fF,fF,fF,fF,fF] rfl rfl (any_of HT_.out (by kernel_rfl)) (fun _ _ _ h => h) (Or.inl ⟨by rfl, ?_⟩) ?_ ?_
 rotate_left
 ·intro w'
  go_simp
  with_reducible rfl
 rotate_left
 ·simp only [Act.put, qA, qB, qC, i64_w, i32_w]
  rfl
 refine pure_ (i := 5) (N := some 13) (v := ?_) (a' := ?_) #[tT,fF,fF,tT,fF,tT,fF,fF,fF,fF] rfl rfl (any_of HT_.out (by kernel_rfl)) (fun _ _ _ h => h) (Or.inl ⟨by rfl, ?_⟩) ?_ ?_
 rotate_left
 ·intro w'
  go_simp
  with_reducible rfl
 rotate_left
 ·simp only [Act.put, qA, qB, qC, i64_w, i32_w]
  rfl
 refine take_ (i := 1) (N := some 9) (v := ?_) (a' := ?_) #[tT,tT,fF,tT,fF,tT,fF,fF,fF,fF] rfl rfl (take_ofW HT_.out HW_.out (by kernel_rfl)) (fun _ _ _ h => h) (Or.inl ⟨by rfl, ?_⟩) hHeld ?_ ?_
 rotate_left
 ·rintro w' ⟨s0, s1, s2⟩
  go_simp
  with_reducible rfl
 rotate_left
 ·simp only [Act.put, qA, qB, qC, i64_w, i32_w]
  rfl
 refine take_ (i := 4) (N := some 12) (v := ?_) (a' := ?_) #[tT,tT,fF,tT,tT,tT,fF,fF,fF,fF] rfl rfl (take_ofW HT_.out HW_.out (by kernel_rfl)) (fun _ _ _ h => h) (Or.inl ⟨by rfl, ?_⟩) hHeld ?_ ?_
 rotate_left
 ·rintro w' ⟨s0, s1, s2⟩
  go_simp
  with_reducible rfl
 rotate_left
 ·simp only [Act.put, qA, qB, qC, i64_w, i32_w]
  rfl
 refine take_ (i := 6) (N := some 14) (v := ?_) (a' := ?_) #[tT,tT,fF,tT,tT,tT,tT,fF,fF,fF] rfl rfl (take_ofW HT_.out HW_.out (by kernel_rfl)) (fun _ _ _ h => h) (Or.inl ⟨by rfl, ?_⟩) hHeld ?_ ?_
 rotate_left
 ·rintro w' ⟨s0, s1, s2⟩
  go_simp
  with_reducible rfl
 rotate_left
 ·simp only [Act.put, qA, qB, qC, i64_w, i32_w]
  rfl
 refine join_ (σ := Value × Nat) 1 #[tT,tT,tT,tT,tT,tT,tT,tT,tT,fF] (fun s_ => [(10, s_.1), (5, .pointer (some ⟨s_.2, 0, none⟩)), (15, .agg #[s_.1, .string a0_1, .string a0_2])]) (fun s_ w' => (w'.cell? ⟨gb156, 0, none⟩ = some (.slice A0_0 l0_0.length c0_0) ∧ w'.cell? ⟨gb156, 1, none⟩ = some (.string a0_1) ∧ w'.cell? ⟨gb156, 2, none⟩ = some (.string a0_2)) ∧ (Kd.R Kd.string 9 w' w.heap.size (fun _ => True) s_.1 t158) ∧ (w'.heap[gb156]? = some (.cells #[.slice A0_0 l0_0.length c0_0, .string a0_1, .string a0_2] 27 (0, 0))) ∧ (w'.heap[gb157]? = some (.cells #[.slice none 0 0, .string (⟨#[]⟩ : ByteArray), .string (⟨#[]⟩ : ByteArray)] 27 (0, 0))) ∧ (w'.heap[s_.2]? = some (.cells #[.slice none 0 0, .string (⟨#[]⟩ : ByteArray), .string (⟨#[]⟩ : ByteArray)] 27 (0, 0))) ∧ (w.heap.size ≤ s_.2) ∧ (w.heap.size ≤ s_.2) ∧ (gb156 ≠ s_.2) ∧ (s_.2 ≠ gb156) ∧ (gb157 ≠ s_.2) ∧ (s_.2 ≠ gb157) ∧ (Below w.heap.size w w')) ?_ ?_
 rotate_left
 ·intro hCont
  refine two_ (i := 2) (j := 8) (Ni := some 10) (Nj := some 5) #[tT,tT,tT,tT,tT,tT,tT,fF,fF,fF] #[tT,tT,fF,tT,tT,tT,tT,fF,tT,fF] rfl rfl rfl rfl (two_of HT_.out (by kernel_rfl)) (by decide) (by decide) (fun K hK => ?_) (fun K hK => ?_)
  ·skip
   refine gS Try.func47 (by kernel_rfl) rfl #[.slice A0_0 l0_0.length c0_0] (by rfl) rfl rfl ?_
   with_reducible refine (slices_Clone_string_string.calls _ _ l0_0 t158 _ ?side1 ?side2 A3.out).mono ?_
   (case side1 => exact cK HR0_0.out HB.out)
   (case side2 => exact HC0_0.out)
   rintro e w7 ⟨v159, rfl, ho0, hb⟩
   refine ⟨_, rfl, ?_⟩
   have HO160 := aM (xL ho0 (zZ (zH HB.out))); replace BK156 := yK BK156.out hb; replace BK157 := yK BK157.out hb; replace HB := aM (zT (zH HB.out) hb)
   (try clear hb); (try clear ho0)
   obtain ⟨Ao8, co8, eo8⟩ := Kd.R_slice HO160.out
   (first | subst eo8 | obtain ⟨rfl, rfl⟩ := eI eo8)
   refine hK.out _ _ ⟨yc BK156.out 0, yc BK156.out 1, yc BK156.out 2⟩ (fun hHeld => ?_)
   clear hK K; refine norm_ (a' := ?_) ?_ ?_; rotate_left
   ·show Act.put _ (some 10) _ = _
    simp only [Act.put, qA, qB, qC, i64_w, i32_w]
    rfl
   refine pure_ (i := 7) (N := some 15) (v := ?_) (a' := ?_) #[tT,tT,tT,tT,tT,tT,tT,tT,fF,fF] rfl rfl (any_of HT_.out (by kernel_rfl)) (fun _ _ _ h => h) (Or.inl ⟨by rfl, ?_⟩) ?_ ?_
   rotate_left
   ·intro w'
    go_simp
    with_reducible rfl
   rotate_left
   ·simp only [Act.put, qA, qB, qC, i64_w, i32_w]
    rfl
   refine one_ (i := 8) (N := some 5) #[tT,tT,tT,tT,tT,tT,tT,tT,tT,fF] rfl rfl (one_of HT_.out (by kernel_rfl)) (by decide) (fun K hK => ?_)
   refine box_step ?hg (N := 5) ?hd (cs := #[.slice none 0 0, .string (⟨#[]⟩ : ByteArray), .string (⟨#[]⟩ : ByteArray)]) (t := 27) ?hr ?_; (case hd => rfl); (case hg => rfl); (case hr => first | (go_simp; done) | (go_simp; rfl))
   intro gb161 hg w9 hbox hb
   replace HO160 := xK HO160.out hb; have BK161 := aM (hbox)
   have GW161 := aM ((by rw [hg]; exact (zZ (zH HB.out)) : w.heap.size ≤ gb161))
   have GE161 := aM ((by rw [hg]; exact (zZ (zH HB.out)) : w.heap.size ≤ gb161))
   replace HB := aM (zT (zH HB.out) hb); have NB156_161 := nL BK156.out hg; have NB161_156 := nR BK156.out hg; replace BK156 := yK BK156.out hb; have NB157_161 := nL BK157.out hg; have NB161_157 := nR BK157.out hg; replace BK157 := yK BK157.out hb; clear hb hbox hg
   refine hK.out _ _ ⟨yc BK156.out 0, yc BK156.out 1, yc BK156.out 2⟩ (fun hHeld => ?_)
   clear hK K; refine norm_ (a' := ?_) ?_ ?_; rotate_left
   ·show Act.put _ (some 5) _ = _
    simp only [Act.put, qA, qB, qC, i64_w, i32_w]
    rfl
   exact norm_ (by simp only [putAll, Act.put, qA, qB, qC]) (hCont (.slice Ao8 t158.length co8, gb161) _ ⟨hHeld, (xH HO160.out), (yH BK156.out), (yH BK157.out), (yH BK161.out), GW161.out, GE161.out, NB156_161.out, NB161_156.out, NB157_161.out, NB161_157.out, (zH HB.out)⟩)
  ·skip
   refine box_step ?hg (N := 5) ?hd (cs := #[.slice none 0 0, .string (⟨#[]⟩ : ByteArray), .string (⟨#[]⟩ : ByteArray)]) (t := 27) ?hr ?_; (case hd => rfl); (case hg => rfl); (case hr => first | (go_simp; done) | (go_simp; rfl))
   intro gb161 hg w7 hbox hb
   have BK161 := aM (hbox)
   have GW161 := aM ((by rw [hg]; exact (zZ (zH HB.out)) : w.heap.size ≤ gb161))
   have GE161 := aM ((by rw [hg]; exact (zZ (zH HB.out)) : w.heap.size ≤ gb161))
   replace HB := aM (zT (zH HB.out) hb); have NB156_161 := nL BK156.out hg; have NB161_156 := nR BK156.out hg; replace BK156 := yK BK156.out hb; have NB157_161 := nL BK157.out hg; have NB161_157 := nR BK157.out hg; replace BK157 := yK BK157.out hb; clear hb hbox hg
   refine hK.out _ _ ⟨yc BK156.out 0, yc BK156.out 1, yc BK156.out 2⟩ (fun hHeld => ?_)
   clear hK K; refine norm_ (a' := ?_) ?_ ?_; rotate_left
   ·show Act.put _ (some 5) _ = _
    simp only [Act.put, qA, qB, qC, i64_w, i32_w]
    rfl
   refine one_ (i := 2) (N := some 10) #[tT,tT,tT,tT,tT,tT,tT,fF,tT,fF] rfl rfl (one_of HT_.out (by kernel_rfl)) (by decide) (fun K hK => ?_)
   refine gS Try.func47 (by kernel_rfl) rfl #[.slice A0_0 l0_0.length c0_0] (by rfl) rfl rfl ?_
   with_reducible refine (slices_Clone_string_string.calls _ _ l0_0 t158 _ ?side1 ?side2 A3.out).mono ?_
   (case side1 => exact cK HR0_0.out HB.out)
   (case side2 => exact HC0_0.out)
   rintro e w8 ⟨v159, rfl, ho0, hb⟩
   refine ⟨_, rfl, ?_⟩
   have HO160 := aM (xL ho0 (zZ (zH HB.out))); replace BK156 := yK BK156.out hb; replace BK157 := yK BK157.out hb; replace BK161 := yK BK161.out hb; replace HB := aM (zT (zH HB.out) hb)
   (try clear hb); (try clear ho0)
   obtain ⟨Ao9, co9, eo9⟩ := Kd.R_slice HO160.out
   (first | subst eo9 | obtain ⟨rfl, rfl⟩ := eI eo9)
   refine hK.out _ _ ⟨yc BK156.out 0, yc BK156.out 1, yc BK156.out 2⟩ (fun hHeld => ?_)
   clear hK K; refine norm_ (a' := ?_) ?_ ?_; rotate_left
   ·show Act.put _ (some 10) _ = _
    simp only [Act.put, qA, qB, qC, i64_w, i32_w]
    rfl
   refine pure_ (i := 7) (N := some 15) (v := ?_) (a' := ?_) #[tT,tT,tT,tT,tT,tT,tT,tT,tT,fF] rfl rfl (any_of HT_.out (by kernel_rfl)) (fun _ _ _ h => h) (Or.inl ⟨by rfl, ?_⟩) ?_ ?_
   rotate_left
   ·intro w'
    go_simp
    with_reducible rfl
   rotate_left
   ·simp only [Act.put, qA, qB, qC, i64_w, i32_w]
    rfl
   exact norm_ (by simp only [putAll, Act.put, qA, qB, qC]) (hCont (.slice Ao9 t158.length co9, gb161) _ ⟨hHeld, (xH HO160.out), (yH BK156.out), (yH BK157.out), (yH BK161.out), GW161.out, GE161.out, NB156_161.out, NB161_156.out, NB157_161.out, NB161_157.out, (zH HB.out)⟩)
 rintro ⟨v159, gb161⟩ w10 ⟨hS_, h0_, h1_, h2_, h3_, h4_, h5_, h6_, h7_, h8_, h9_, h10_⟩
 (try dsimp only at h0_ h1_ h2_ h3_ h4_ h5_ h6_ h7_ h8_ h9_ h10_)
 have n0_ := aM h0_; have n1_ := aM h1_; have n2_ := aM h2_; have n3_ := aM h3_; have n4_ := aM h4_; have n5_ := aM h5_; have n6_ := aM h6_; have n7_ := aM h7_; have n8_ := aM h8_; have n9_ := aM h9_; have n10_ := aM h10_; clear BK156 BK157 HB h0_ h1_ h2_ h3_ h4_ h5_ h6_ h7_ h8_ h9_ h10_; have HO160 := n0_; have BK156 := n1_; have BK157 := n2_; have BK161 := n3_; have GW161 := n4_; have GE161 := n5_; have NB156_161 := n6_; have NB161_156 := n7_; have NB157_161 := n8_; have NB161_157 := n9_; have HB := n10_; clear n0_ n1_ n2_ n3_ n4_ n5_ n6_ n7_ n8_ n9_ n10_; have hHeld : w10.cell? ⟨gb156, 0, none⟩ = some (.slice A0_0 l0_0.length c0_0) ∧ w10.cell? ⟨gb156, 1, none⟩ = some (.string a0_1) ∧ w10.cell? ⟨gb156, 2, none⟩ = some (.string a0_2) := hS_; obtain ⟨Ao11, co11, eo11⟩ := Kd.R_slice HO160.out
 (first | subst eo11 | obtain ⟨rfl, rfl⟩ := eI eo11)
 refine norm_ (a' := ?_) ?_ ?_; rotate_left
 ·simp only [putAll, Act.put, qA, qB, qC]
  rfl
 refine one_ (i := 9) (N := none) #[tT,tT,tT,tT,tT,tT,tT,tT,tT,tT] rfl rfl (one_of HT_.out (by kernel_rfl)) (by decide) (fun K hK => ?_)
 have hs12 : w10.cell? ⟨gb161, 0, none⟩ = some (.slice none 0 0) := yc BK161.out 0; have hfs12 := yZ BK161.out 0; have hns12_0 := NB156_161.out; have hns12_1 := NB157_161.out; have hms12_0 := NB161_156.out; have hms12_1 := NB161_157.out; have hs13 : w10.cell? ⟨gb161, 1, none⟩ = some (.string (⟨#[]⟩ : ByteArray)) := yc BK161.out 1; have hfs13 := yZ BK161.out 1; have hns13_0 := NB156_161.out; have hns13_1 := NB157_161.out; have hms13_0 := NB161_156.out; have hms13_1 := NB161_157.out; have hs14 : w10.cell? ⟨gb161, 2, none⟩ = some (.string (⟨#[]⟩ : ByteArray)) := yc BK161.out 2; have hfs14 := yZ BK161.out 2; have hns14_0 := NB156_161.out; have hns14_1 := NB157_161.out; have hms14_0 := NB161_156.out; have hms14_1 := NB161_157.out
 refine skip_ (w1 := ?_) (by rfl) rfl ?_ ?_
 rotate_left
 ·go_simp
  rfl
 refine hK.out _ _ ⟨((cell_far (p := ⟨gb161, _, none⟩) NB156_161.out _).trans (((cell_far (p := ⟨gb161, _, none⟩) NB156_161.out _).trans (((cell_far (p := ⟨gb161, _, none⟩) NB156_161.out _).trans (hHeld.1)))))), ((cell_far (p := ⟨gb161, _, none⟩) NB156_161.out _).trans (((cell_far (p := ⟨gb161, _, none⟩) NB156_161.out _).trans (((cell_far (p := ⟨gb161, _, none⟩) NB156_161.out _).trans (hHeld.2.1)))))), ((cell_far (p := ⟨gb161, _, none⟩) NB156_161.out _).trans (((cell_far (p := ⟨gb161, _, none⟩) NB156_161.out _).trans (((cell_far (p := ⟨gb161, _, none⟩) NB156_161.out _).trans (hHeld.2.2))))))⟩ (fun hHeld => ?_)
 clear hK K
 refine done_ (done_of HT_.out (by kernel_rfl)) ?_
 try go_wp2
 go_loopg [18] k (fun kq v18 w' => ∃ (x18_1 : Int) (x162000_1 : List ByteArray) (u162000 : Value), v18 = .int .i64 x18_1 ∧ Aside0 (impl_without.l0 kq l1 (l1.length : Int) x18_1 l0_0 a0_1 a0_2 x162000_1 a0_1 a0_2 = some (r1, r2, r3)) ∧ Aside0 (kq ≤ k) ∧ Aside0 (Kd.R Kd.string 9 w' w.heap.size (fun _ => True) u162000 x162000_1) ∧ Aside0 (w'.heap[gb156]? = some (.cells #[(.slice A0_0 l0_0.length c0_0), .string a0_1, .string a0_2] 27 (0, 0))) ∧ Aside0 (w'.heap[gb157]? = some (.cells #[(.slice none 0 0), .string (⟨#[]⟩ : ByteArray), .string (⟨#[]⟩ : ByteArray)] 27 (0, 0))) ∧ Aside0 (w'.heap[gb161]? = some (.cells #[u162000, .string a0_1, .string a0_2] 27 (0, 0))) ∧ Aside0 (Below w.heap.size w w'))
 case atStart => exact ⟨(0), (t158), (.slice Ao11 t158.length co11), (by first | rfl | (simp; done) | (simp [*]; done)), H', ⟨Nat.le_refl _⟩, ⟨xH (xM (xF (p := ⟨gb161, 2, none⟩) (xF (p := ⟨gb161, 1, none⟩) (xF (p := ⟨gb161, 0, none⟩) (xT HO160.out BK161.out (by decide)) (fun _ hk => hk.2) (.slice Ao11 t158.length co11)) (fun _ hk => hk.2) (.string a0_1)) (fun _ hk => hk.2) (.string a0_2)) (fun _ hk => trivial))⟩, ⟨by refine yW ?_; refine yF ?_ NB156_161.out _; refine yW ?_; refine yF ?_ NB156_161.out _; refine yW ?_; refine yF ?_ NB156_161.out _; refine yW ?_; exact BK156.out⟩, ⟨by refine yW ?_; refine yF ?_ NB157_161.out _; refine yW ?_; refine yF ?_ NB157_161.out _; refine yW ?_; refine yF ?_ NB157_161.out _; refine yW ?_; exact BK157.out⟩, ⟨by refine yW ?_; refine yP (cs := #[.slice Ao11 t158.length co11, .string a0_1, .string (⟨#[]⟩ : ByteArray)]) ?_ 2 _ rfl; refine yW ?_; refine yP (cs := #[.slice Ao11 t158.length co11, .string (⟨#[]⟩ : ByteArray), .string (⟨#[]⟩ : ByteArray)]) ?_ 1 _ rfl; refine yW ?_; refine yP (cs := #[.slice none 0 0, .string (⟨#[]⟩ : ByteArray), .string (⟨#[]⟩ : ByteArray)]) ?_ 0 _ rfl; refine yW ?_; exact BK161.out⟩, ⟨zH HB.out⟩⟩
 case round =>
  clear H'
  (try clear c1)
  obtain ⟨x18_1, x162000_1, u162000, rfl, HA, HK1, p0', BK156, BK157, BK161, HB⟩ := hrel
  cases gk with
  | zero => exact absurd HA.out (fun h_ => by change none = some _ at h_; cases h_)
  | succ k1 =>
   have H := HA.out; clear HA
   simp only [impl_without.l0] at H
   by_cases c15 : x18_1 < (l1.length : Int)
   ·rw [if_pos c15] at H
    have c15b0 : decide (x18_1 < (l1.length : Int)) = true := decide_eq_true c15; clear c15
    by_cases c16 : 0 ≤ x18_1
    ·rw [if_pos c16] at H
     have c16b0 : decide (0 ≤ x18_1) = true := decide_eq_true c16; clear c16
     by_cases c17 : x18_1 < (l1.length : Int)
     ·rw [if_pos c17] at H
      have c17b0 : decide (x18_1 < (l1.length : Int)) = true := decide_eq_true c17; clear c17
      by_cases c18 : (rd l1 x18_1) < (l0_0.length : Int)
      ·rw [if_pos c18] at H
       have c18b0 : decide ((rd l1 x18_1) < (l0_0.length : Int)) = true := decide_eq_true c18; clear c18
       by_cases c19 : 0 ≤ (a0_1.size : Int)
       ·rw [if_pos c19] at H
        have c19b0 := eq_true c19; have c19b1 : decide (0 ≤ (a0_1.size : Int)) = true := decide_eq_true c19; clear c19
        by_cases c20 : ((a0_1.size : Int) : Int).toNat ≤ 281474976710656
        ·rw [if_pos c20] at H
         have c20b0 := eq_true c20; have c20b1 : decide (((a0_1.size : Int) : Int).toNat ≤ 281474976710656) = true := decide_eq_true c20; clear c20; obtain ⟨y163, hy163⟩ : ∃ y_ : List Int, y_ = (List.replicate ((a0_1.size : Int) : Int).toNat 0) := ⟨_, rfl⟩
         replace H : (if 0 ≤ (rd l1 x18_1) then (if (rd l1 x18_1) < (x162000_1.length : Int) then (impl_without.l0 k1 l1 (l1.length : Int) (wrap64 (x18_1 + 1)) l0_0 a0_1 a0_2 (x162000_1.set ((rd l1 x18_1) : Int).toNat (strOfNums y163)) a0_1 a0_2) else (none)) else (none)) = some (r1, r2, r3) := by first | (rw [hy163]; with_reducible exact H) | (have H2_ := (Option.bind_some _ _).symm.trans H; rw [hy163]; with_reducible exact H2_) | (have H2_ := (Option.bind_some _ _).symm.trans H; with_reducible exact H2_) | with_reducible exact H | (rw [hy163]; exact H) | exact H
         have Ny163 := aM hy163; clear hy163
         by_cases c21 : 0 ≤ (rd l1 x18_1)
         ·rw [if_pos c21] at H
          have c21b0 : decide (0 ≤ (rd l1 x18_1)) = true := decide_eq_true c21; clear c21
          by_cases c22 : (rd l1 x18_1) < (x162000_1.length : Int)
          ·rw [if_pos c22] at H
           have c22b0 : decide ((rd l1 x18_1) < (x162000_1.length : Int)) = true := decide_eq_true c22; clear c22; obtain ⟨y166, hy166⟩ : ∃ y_ : List ByteArray, y_ = (x162000_1.set ((rd l1 x18_1) : Int).toNat (strOfNums y163)) := ⟨_, rfl⟩
           replace H : (impl_without.l0 k1 l1 (l1.length : Int) (wrap64 (x18_1 + 1)) l0_0 a0_1 a0_2 y166 a0_1 a0_2) = some (r1, r2, r3) := by first | (rw [hy166]; with_reducible exact H) | (have H2_ := (Option.bind_some _ _).symm.trans H; rw [hy166]; with_reducible exact H2_) | (have H2_ := (Option.bind_some _ _).symm.trans H; with_reducible exact H2_) | with_reducible exact H | (rw [hy166]; exact H) | exact H
           have Ny166 := aM hy166; clear hy166; have H' := aM H; clear H
           have p162 : 0 ≤ (x18_1 : Int) := of_decide_eq_true (by first | (with_reducible assumption) | assumption)
           have q162 : x18_1 < (l1.length : Int) := of_decide_eq_true (by first | (with_reducible assumption) | assumption)
           obtain ⟨ad162, e162, hx162_0⟩ := Kd.at_int HR1.out x18_1 p162 q162
           cases e162
           replace hx162_0 := (HB.out.cell (World.block_lt_of_cell? w _ hx162_0)).trans hx162_0; replace p162 := eq_true p162; replace q162 := eq_true q162; have hnb24 := NB156_157.out; have hnc24 := NB157_156.out; have hnb25 := NB156_161.out; have hnc25 := NB161_156.out; have hcz26_0 : wr.cell? ⟨gb156, 0, none⟩ = some (.slice A0_0 l0_0.length c0_0) := yc BK156.out 0; have hcz26_1 : wr.cell? ⟨gb156, 1, none⟩ = some (.string a0_1) := yc BK156.out 1; have hcz26_2 : wr.cell? ⟨gb156, 2, none⟩ = some (.string a0_2) := yc BK156.out 2; have hfz26_0 := yZ BK156.out 0; have hfz26_1 := yZ BK156.out 1; have hfz26_2 := yZ BK156.out 2
           try go_wp2
           replace p0' := aM (xD p0'.out); replace BK156 := aM (yD BK156.out); replace BK157 := aM (yD BK157.out); replace BK161 := aM (yD BK161.out); replace HB := aM (zD HB.out)
           refine start_ (n := 10) (S := fun w' => w'.cell? ⟨gb161, 0, none⟩ = some (u162000) ∧ w'.cell? ⟨gb161, 1, none⟩ = some (.string a0_1) ∧ w'.cell? ⟨gb161, 2, none⟩ = some (.string a0_2) ∧ w'.cell? ⟨gb156, 0, none⟩ = some (.slice A0_0 l0_0.length c0_0) ∧ w'.cell? ⟨gb156, 1, none⟩ = some (.string a0_1) ∧ w'.cell? ⟨gb156, 2, none⟩ = some (.string a0_2)) (ds := [9]) #[fF,fF,fF,fF,fF,fF,fF,fF,fF,fF] (by kernel_rfl) rfl rfl ⟨yc BK161.out 0, yc BK161.out 1, yc BK161.out 2, yc BK156.out 0, yc BK156.out 1, yc BK156.out 2⟩ (fun hHeld => ?_); refine with_tabW impl_without.tab6 impl_without.bits6 (fun HT_ HW_ => ?_)
           generalize wr.drew = w27 at p0' BK156 BK157 BK161 HB hHeld ⊢
           refine pure_ (i := 0) (N := some 27) (v := ?_) (a' := ?_) #[tT,fF,fF,fF,fF,fF,fF,fF,fF,fF] rfl rfl (any_of HT_.out (by kernel_rfl)) (fun _ _ _ h => h) (Or.inl ⟨by rfl, ?_⟩) ?_ ?_
           rotate_left
           ·intro w'
            go_simp
            with_reducible rfl
           rotate_left
           ·simp only [Act.put, qA, qB, qC, i64_w, i32_w]
            rfl
           refine pure_ (i := 2) (N := some 29) (v := ?_) (a' := ?_) #[tT,fF,tT,fF,fF,fF,fF,fF,fF,fF] rfl rfl (any_of HT_.out (by kernel_rfl)) (fun _ _ _ h => h) (Or.inl ⟨by rfl, ?_⟩) ?_ ?_
           rotate_left
           ·intro w'
            go_simp
            with_reducible rfl
           rotate_left
           ·simp only [Act.put, qA, qB, qC, i64_w, i32_w]
            rfl
           refine pure_ (i := 3) (N := some 30) (v := ?_) (a' := ?_) #[tT,fF,tT,tT,fF,fF,fF,fF,fF,fF] rfl rfl (any_of HT_.out (by kernel_rfl)) (fun _ _ _ h => h) (Or.inl ⟨by rfl, ?_⟩) ?_ ?_
           rotate_left
           ·intro w'
            go_simp
            with_reducible rfl
           rotate_left
           ·simp only [Act.put, qA, qB, qC, i64_w, i32_w]
            rfl
           refine take_ (i := 1) (N := some 28) (v := ?_) (a' := ?_) #[tT,tT,tT,tT,fF,fF,fF,fF,fF,fF] rfl rfl (take_ofW HT_.out HW_.out (by kernel_rfl)) (fun _ _ _ h => h) (Or.inl ⟨by rfl, ?_⟩) hHeld ?_ ?_
           rotate_left
           ·rintro w' ⟨s0, s1, s2, s3, s4, s5⟩
            go_simp
            with_reducible rfl
           rotate_left
           ·simp only [Act.put, qA, qB, qC, i64_w, i32_w]
            rfl
           refine take_ (i := 4) (N := some 31) (v := ?_) (a' := ?_) #[tT,tT,tT,tT,tT,fF,fF,fF,fF,fF] rfl rfl (take_ofW HT_.out HW_.out (by kernel_rfl)) (fun _ _ _ h => h) (Or.inl ⟨by rfl, ?_⟩) hHeld ?_ ?_
           rotate_left
           ·rintro w' ⟨s0, s1, s2, s3, s4, s5⟩
            go_simp
            with_reducible rfl
           rotate_left
           ·simp only [Act.put, qA, qB, qC, i64_w, i32_w]
            rfl
           refine pure_ (i := 5) (N := some 32) (v := ?_) (a' := ?_) #[tT,tT,tT,tT,tT,tT,fF,fF,fF,fF] rfl rfl (any_of HT_.out (by kernel_rfl)) (fun _ _ _ h => h) (Or.inl ⟨by rfl, ?_⟩) ?_ ?_
           rotate_left
           ·intro w'
            go_simp
            with_reducible rfl
           rotate_left
           ·simp only [Act.put, qA, qB, qC, i64_w, i32_w]
            rfl
           refine one_ (i := 6) (N := some 33) #[tT,tT,tT,tT,tT,tT,tT,fF,fF,fF] rfl rfl (one_of HT_.out (by kernel_rfl)) (by decide) (fun K hK => ?_)
           refine Kd.R_make_step (Kd.int .u8) _ 5 (by rfl) (N := 33) rfl 48 _ _ rfl (a0_1.size : Int) rfl rfl Try.underlying48 (.int .u8 0) 1 info5 rfl (by decide) (by omega) 0 (ok := fun _ => True) (okp := fun _ => True) rfl (fun _ hk => hk) trivial (of_decide_eq_true (by first | (with_reducible assumption) | assumption)) (Nat.le_trans (Nat.mul_le_mul_right _ (of_decide_eq_true (by first | (with_reducible assumption) | assumption) : (a0_1.size : Int).toNat ≤ 281474976710656)) (by omega)) (Below.refl _ _) (Nat.le_refl _) ?_
           intro v164 w28 ho29 hb hg_ hnew_
           clear hg_ hnew_
           (first | rw [← Ny163.out] at ho29 | (simp only [Int.reduceToNat] at ho29; rw [← Ny163.out] at ho29))
           replace p0' := xK p0'.out hb; have HO165 := aM (xL ho29 (zZ (zH HB.out))); replace BK156 := yK BK156.out hb; replace BK157 := yK BK157.out hb; replace BK161 := yK BK161.out hb; replace HB := aM (zT (zH HB.out) hb); clear hb ho29
           have p23 : 0 ≤ ((rd l1 x18_1) : Int) := of_decide_eq_true (by first | (with_reducible assumption) | assumption)
           have q23 : ((rd l1 x18_1) : Int) < ((x162000_1.length : Int) : Int) := of_decide_eq_true (by first | (with_reducible assumption) | assumption)
           obtain ⟨go23, co23, eo23, gb23, gl23, cl23, HG23⟩ := Kd.R_form p0'.out (by omega)
           (first | cases eo23 | (injection eo23 with ea_ en_ ec_; (first | subst ea_ | (injection ea_ with ea_; subst ea_)); subst ec_; clear en_))
           have GB23 := aM gb23; have GG23 := aM HG23; clear gb23 gl23 HG23; obtain ⟨hx23_0, hf23_0⟩ := Kd.R_celln (⟨#[]⟩ : ByteArray) p0'.out ((rd l1 x18_1) : Int) p23 q23; replace p23 := eq_true p23; replace q23 := eq_true q23; have HP31 := Kd.R_putn p0'.out ((rd l1 x18_1) : Int) (strOfNums y163)
           rw [← Ny166.out] at HP31
           have HQ31 := aM HP31; clear HP31
           refine hK.out _ _ ⟨yc BK161.out 0, yc BK161.out 1, yc BK161.out 2, yc BK156.out 0, yc BK156.out 1, yc BK156.out 2⟩ (fun hHeld => ?_)
           clear hK K; refine norm_ (a' := ?_) ?_ ?_; rotate_left
           ·show Act.put _ (some 33) _ = _
            simp only [Act.put, qA, qB, qC, i64_w, i32_w]
            rfl
           refine one_ (i := 7) (N := some 34) #[tT,tT,tT,tT,tT,tT,tT,tT,fF,fF] rfl rfl (one_of HT_.out (by kernel_rfl)) (by decide) (fun K hK => ?_)
           have hcv30 := own_string (P := Try.prog) Try.underlying48 Try.underlying5 Try.underlying9 (Kd.own_of_R HO165.out)
           refine value_ (w1 := ?_) (v := ?_) (by rfl) rfl ?_ ?_
           rotate_left 2
           ·go_simp
            constructor
            ·rfl
            ·rfl
           clear hcv30
           refine hK.out _ _ ⟨yc BK161.out 0, yc BK161.out 1, yc BK161.out 2, yc BK156.out 0, yc BK156.out 1, yc BK156.out 2⟩ (fun hHeld => ?_)
           clear hK K; refine norm_ (a' := ?_) ?_ ?_; rotate_left
           ·show Act.put _ (some 34) _ = _
            simp only [Act.put, qA, qB, qC, i64_w, i32_w]
            rfl
           refine pure_ (i := 8) (N := some 35) (v := ?_) (a' := ?_) #[tT,tT,tT,tT,tT,tT,tT,tT,tT,fF] rfl rfl (any_of HT_.out (by kernel_rfl)) (fun _ _ _ h => h) (Or.inl ⟨by rfl, ?_⟩) ?_ ?_
           rotate_left
           ·intro w'
            go_simp
            with_reducible rfl
           rotate_left
           ·simp only [Act.put, qA, qB, qC, i64_w, i32_w]
            rfl
           refine last_ (i := 9) (N := none) #[tT,tT,tT,tT,tT,tT,tT,tT,tT,tT] rfl rfl (one_of HT_.out (by kernel_rfl)) (by decide) (fun K hK => ?_)
           refine skip_ (w1 := ?_) (by rfl) rfl ?_ ?_
           rotate_left
           ·go_simp
            rfl
           refine hK.out _ _ ?_
           clear hK K
           refine done_ (done_of HT_.out (by kernel_rfl)) ?_
           try go_wp2
           go_roundg k1
           case measure => have := HK1.out; omega
           case rel => exact ⟨(wrap64 (x18_1 + 1)), (y166), (.slice (some ⟨go23, 0, none⟩) x162000_1.length co23), (by first | rfl | (simp; done) | (simp [*]; done)), H', ⟨by have := HK1.out; omega⟩, ⟨xH HQ31.out⟩, ⟨by refine yW ?_; refine yF ?_ (by have h_ := Kd.R_ne p0'.out BK156.out (by decide); intro e_; exact h_ (by rw [e_]; rfl)) _; refine yW ?_; exact BK156.out⟩, ⟨by refine yW ?_; refine yF ?_ (by have h_ := Kd.R_ne p0'.out BK157.out (by decide); intro e_; exact h_ (by rw [e_]; rfl)) _; refine yW ?_; exact BK157.out⟩, ⟨by refine yW ?_; refine yF ?_ (by have h_ := Kd.R_ne p0'.out BK161.out (by decide); intro e_; exact h_ (by rw [e_]; rfl)) _; refine yW ?_; exact BK161.out⟩, ⟨by repeat (first | (with_reducible first | exact HB.out | apply zA | apply zN | apply zD | refine zS ?_ GB23.out | refine zS ?_ GE156.out | refine zS ?_ GE157.out | refine zS ?_ GE161.out) | exact HB.out)⟩⟩
          ·rw [if_neg c22] at H
           exact absurd H (by simp)
         ·rw [if_neg c21] at H
          exact absurd H (by simp)
        ·rw [if_neg c20] at H
         exact absurd H (by simp)
       ·rw [if_neg c19] at H
        exact absurd H (by simp)
      ·rw [if_neg c18] at H
       have c18b0 : decide ((rd l1 x18_1) < (l0_0.length : Int)) = false := decide_eq_false c18; clear c18; have H' := aM H; clear H
       have p162 : 0 ≤ (x18_1 : Int) := of_decide_eq_true (by first | (with_reducible assumption) | assumption)
       have q162 : x18_1 < (l1.length : Int) := of_decide_eq_true (by first | (with_reducible assumption) | assumption)
       obtain ⟨ad162, e162, hx162_0⟩ := Kd.at_int HR1.out x18_1 p162 q162
       cases e162
       replace hx162_0 := (HB.out.cell (World.block_lt_of_cell? w _ hx162_0)).trans hx162_0; replace p162 := eq_true p162; replace q162 := eq_true q162; have hnb32 := NB156_157.out; have hnc32 := NB157_156.out; have hnb33 := NB156_161.out; have hnc33 := NB161_156.out; have hcz34_0 : wr.cell? ⟨gb156, 0, none⟩ = some (.slice A0_0 l0_0.length c0_0) := yc BK156.out 0; have hcz34_1 : wr.cell? ⟨gb156, 1, none⟩ = some (.string a0_1) := yc BK156.out 1; have hcz34_2 : wr.cell? ⟨gb156, 2, none⟩ = some (.string a0_2) := yc BK156.out 2; have hfz34_0 := yZ BK156.out 0; have hfz34_1 := yZ BK156.out 1; have hfz34_2 := yZ BK156.out 2
       go_wp2
       go_roundg k1
       case measure => have := HK1.out; omega
       case rel => exact ⟨(wrap64 (x18_1 + 1)), (x162000_1), (u162000), (by first | rfl | (simp; done) | (simp [*]; done)), H', ⟨by have := HK1.out; omega⟩, ⟨xH p0'.out⟩, ⟨yH BK156.out⟩, ⟨yH BK157.out⟩, ⟨yH BK161.out⟩, ⟨zH HB.out⟩⟩
     ·rw [if_neg c17] at H
      exact absurd H (by simp)
    ·rw [if_neg c16] at H
     exact absurd H (by simp)
   ·rw [if_neg c15] at H
    have c15b0 : decide (x18_1 < (l1.length : Int)) = false := decide_eq_false c15; clear c15
    simp only [Option.some.injEq, Prod.mk.injEq] at H
    obtain ⟨rfl, rfl, rfl⟩ := H; have hnb35 := NB161_156.out; have hnc35 := NB156_161.out; have hnb36 := NB161_157.out; have hnc36 := NB157_161.out; have hcz37_0 : wr.cell? ⟨gb161, 0, none⟩ = some (u162000) := yc BK161.out 0; have hcz37_1 : wr.cell? ⟨gb161, 1, none⟩ = some (.string a0_1) := yc BK161.out 1; have hcz37_2 : wr.cell? ⟨gb161, 2, none⟩ = some (.string a0_2) := yc BK161.out 2; have hfz37_0 := yZ BK161.out 0; have hfz37_1 := yZ BK161.out 1; have hfz37_2 := yZ BK161.out 2; obtain ⟨Ao38, co38, eo38⟩ := Kd.R_slice p0'.out
    subst eo38
    have hnb39 := NB157_156.out; have hnc39 := NB156_157.out; have hcz40_0 : wr.cell? ⟨gb157, 0, none⟩ = some (.slice none 0 0) := yc BK157.out 0; have hcz40_1 : wr.cell? ⟨gb157, 1, none⟩ = some (.string (⟨#[]⟩ : ByteArray)) := yc BK157.out 1; have hcz40_2 : wr.cell? ⟨gb157, 2, none⟩ = some (.string (⟨#[]⟩ : ByteArray)) := yc BK157.out 2; have hfz40_0 := yZ BK157.out 0; have hfz40_1 := yZ BK157.out 1; have hfz40_2 := yZ BK157.out 2
    go_wp2
    refine bodyPost_ret (results_cell_row rfl _ _ gb157 27 #[.slice Ao38 x162000_1.length co38, .string a0_1, .string a0_2] (0, 0) _ rfl (by refine yW ?_; refine yP (cs := #[.slice Ao38 x162000_1.length co38, .string a0_1, .string (⟨#[]⟩ : ByteArray)]) ?_ 2 _ rfl; refine yW ?_; refine yP (cs := #[.slice Ao38 x162000_1.length co38, .string (⟨#[]⟩ : ByteArray), .string (⟨#[]⟩ : ByteArray)]) ?_ 1 _ rfl; refine yW ?_; refine yP (cs := #[.slice none 0 0, .string (⟨#[]⟩ : ByteArray), .string (⟨#[]⟩ : ByteArray)]) ?_ 0 _ rfl; refine yW ?_; exact BK157.out) Try.underlying27 rfl (by kernel_rfl)) rfl ?_
    exact ⟨_, eW, xH (xM (xF (p := ⟨gb157, 2, none⟩) (xF (p := ⟨gb157, 1, none⟩) (xF (p := ⟨gb157, 0, none⟩) (xT p0'.out BK157.out (by decide)) (fun _ hk => hk.2) (.slice Ao38 x162000_1.length co38)) (fun _ hk => hk.2) (.string a0_1)) (fun _ hk => hk.2) (.string a0_2)) (fun _ hk => trivial)), zH HB.out⟩

end Go.Proofs.Ytfijnlhklfmoeaa.PFnParity
