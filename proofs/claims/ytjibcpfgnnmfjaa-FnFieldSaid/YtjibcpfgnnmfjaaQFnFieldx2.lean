/- The walks of FnField: Go's calls come to what the Lean functions beside them say; no condition. -/
import Derived.Test.YtjibcpfgnnmfjaaQFnFieldx0
import Derived.Test.YtjibcpfgnnmfjaaQFnFieldx1
namespace Go.Proofs.Ytjibcpfgnnmfjaa.PFnField
open Go.RowKit Go.Proofs.YtjibcpfgnnmfjaaW.PrintWords Go.Proofs.YtjibcpfgnnmfjaaW.PrintLast Go.Proofs.YtjibcpfgnnmfjaaW.PrintMore
attribute [local go_sem] max2_int min2_int max_two min_two max_three min_three max_four min_four   -- for this text's walks alone
set_option linter.unusedVariables false
set_option linter.unusedSimpArgs false
set_option maxRecDepth 100000

/-! ### laws_FnField: function 3 -/
mutual
def laws_FnField.j0 : Nat → Int → Int → Int → Int → Bool → Option (Bool)
  | 0, _, _, _, _, _ => none
  | k + 1, x5, x6, x7, x8, x42 => if x42 = true then (some false) else ((impl_FieldMul.f k x5 x6).bind fun t149 => ((impl_FieldMul.f k t149 x7).bind fun t150 => ((impl_FieldMul.f k x6 x7).bind fun t151 => ((impl_FieldMul.f k x5 t151).bind fun t152 => (if t150 = t152 then ((impl_FieldMul.f k x5 (Go.bits .xor .u8 x6 x7)).bind fun t153 => ((impl_FieldMul.f k x5 x6).bind fun t154 => ((impl_FieldMul.f k x5 x7).bind fun t155 => (if t153 = (Go.bits .xor .u8 t154 t155) then ((impl_FieldMul.f k x5 1).bind fun t156 => (laws_FnField.j1 k x5 x6 x7 x8 (t156 != x5))) else (laws_FnField.j1 k x5 x6 x7 x8 true))))) else (laws_FnField.j1 k x5 x6 x7 x8 true))))))
def laws_FnField.j1 : Nat → Int → Int → Int → Int → Bool → Option (Bool)
  | 0, _, _, _, _, _ => none
  | k + 1, x5, x6, x7, x8, x74 => if x74 = true then (some false) else (if x5 = 0 then (laws_FnField.j2 k x5 x6 x7 x8 false) else ((impl_FieldInv.f k x5).bind fun t157 => ((impl_FieldMul.f k x5 t157).bind fun t158 => (if t158 = 1 then ((impl_FieldInv.f k x5).bind fun t159 => ((impl_FieldInv.f k t159).bind fun t160 => (laws_FnField.j2 k x5 x6 x7 x8 (t160 != x5)))) else (laws_FnField.j2 k x5 x6 x7 x8 true)))))
def laws_FnField.j2 : Nat → Int → Int → Int → Int → Bool → Option (Bool)
  | 0, _, _, _, _, _ => none
  | k + 1, x5, x6, x7, x8, x90 => if x90 = true then (some false) else ((impl_FieldDiv.f k x7 x8).bind fun bt161 => (if (bt161.2 != (x8 != 0)) = true then (some false) else (if bt161.2 = true then ((impl_FieldMul.f k bt161.1 x8).bind fun t163 => (if t163 = x7 then (if x5 = 0 then (some true) else (if x6 = 0 then (some true) else ((impl_FieldMul.f k x5 x6).bind fun t164 => (some (t164 != 0))))) else (some false))) else (if bt161.1 = 0 then (if x5 = 0 then (some true) else (if x6 = 0 then (some true) else ((impl_FieldMul.f k x5 x6).bind fun t165 => (some (t165 != 0))))) else (some false)))))
end
def laws_FnField.f (k : Nat) (l0 : List Int) (l1 : List Int) : Option (Bool) := if (wrap64 ((l0.length : Int) + (l1.length : Int))) > 1048576 then (some true) else ((spec_DrawFieldMul.f l0).bind fun bt141 => ((spec_DrawFieldDiv.f l1).bind fun bt143 => ((impl_FieldMul.f k bt141.1 bt141.2).bind fun t145 => ((spec_FieldMul.f k bt141.1 bt141.2).bind fun t146 => (if t145 = t146 then ((impl_FieldMul.f k bt141.1 bt141.2).bind fun t147 => ((impl_FieldMul.f k bt141.2 bt141.1).bind fun t148 => (laws_FnField.j0 k bt141.1 bt141.2 bt143.1 bt143.2 (t147 != t148)))) else (laws_FnField.j0 k bt141.1 bt141.2 bt143.1 bt143.2 true))))))
theorem laws_FnField.mono_l : ∀ k, (∀ y0 y1 y2 y3 y4, LeO (laws_FnField.j0 k y0 y1 y2 y3 y4) (laws_FnField.j0 (k + 1) y0 y1 y2 y3 y4)) ∧ (∀ y0 y1 y2 y3 y4, LeO (laws_FnField.j1 k y0 y1 y2 y3 y4) (laws_FnField.j1 (k + 1) y0 y1 y2 y3 y4)) ∧ (∀ y0 y1 y2 y3 y4, LeO (laws_FnField.j2 k y0 y1 y2 y3 y4) (laws_FnField.j2 (k + 1) y0 y1 y2 y3 y4))
  | 0 => ⟨fun _ _ _ _ _ r h => by simp [laws_FnField.j0] at h, fun _ _ _ _ _ r h => by simp [laws_FnField.j1] at h, fun _ _ _ _ _ r h => by simp [laws_FnField.j2] at h⟩
  | k + 1 => by
    obtain ⟨ih0, ih1, ih2⟩ := laws_FnField.mono_l k
    refine ⟨?_, ?_, ?_⟩
    · intro y0 y1 y2 y3 y4
      unfold laws_FnField.j0
      repeat' first
      | (with_reducible exact ih0 _ _ _ _ _)
      | (with_reducible exact ih1 _ _ _ _ _)
      | (with_reducible exact ih2 _ _ _ _ _)
      | (with_reducible exact impl_FieldDiv.mono _ _ _)
      | (with_reducible exact impl_FieldInv.mono _ _)
      | (with_reducible exact impl_FieldMul.mono _ _ _)
      | (with_reducible exact spec_FieldMul.mono _ _ _)
      | (with_reducible exact LeO.refl _)
      | (with_reducible exact LeO.none _)
      | (with_reducible refine LeO.ite ?_ ?_)
      | (with_reducible refine LeO.bind ?_ (fun _ => ?_))
      | exact ih0 _ _ _ _ _
      | exact ih1 _ _ _ _ _
      | exact ih2 _ _ _ _ _
      | exact impl_FieldDiv.mono _ _ _
      | exact impl_FieldInv.mono _ _
      | exact impl_FieldMul.mono _ _ _
      | exact spec_FieldMul.mono _ _ _
      | exact LeO.none _
      | refine LeO.ite ?_ ?_
      | refine LeO.bind ?_ (fun _ => ?_)
    · intro y0 y1 y2 y3 y4
      unfold laws_FnField.j1
      repeat' first
      | (with_reducible exact ih0 _ _ _ _ _)
      | (with_reducible exact ih1 _ _ _ _ _)
      | (with_reducible exact ih2 _ _ _ _ _)
      | (with_reducible exact impl_FieldDiv.mono _ _ _)
      | (with_reducible exact impl_FieldInv.mono _ _)
      | (with_reducible exact impl_FieldMul.mono _ _ _)
      | (with_reducible exact spec_FieldMul.mono _ _ _)
      | (with_reducible exact LeO.refl _)
      | (with_reducible exact LeO.none _)
      | (with_reducible refine LeO.ite ?_ ?_)
      | (with_reducible refine LeO.bind ?_ (fun _ => ?_))
      | exact ih0 _ _ _ _ _
      | exact ih1 _ _ _ _ _
      | exact ih2 _ _ _ _ _
      | exact impl_FieldDiv.mono _ _ _
      | exact impl_FieldInv.mono _ _
      | exact impl_FieldMul.mono _ _ _
      | exact spec_FieldMul.mono _ _ _
      | exact LeO.none _
      | refine LeO.ite ?_ ?_
      | refine LeO.bind ?_ (fun _ => ?_)
    · intro y0 y1 y2 y3 y4
      unfold laws_FnField.j2
      repeat' first
      | (with_reducible exact ih0 _ _ _ _ _)
      | (with_reducible exact ih1 _ _ _ _ _)
      | (with_reducible exact ih2 _ _ _ _ _)
      | (with_reducible exact impl_FieldDiv.mono _ _ _)
      | (with_reducible exact impl_FieldInv.mono _ _)
      | (with_reducible exact impl_FieldMul.mono _ _ _)
      | (with_reducible exact spec_FieldMul.mono _ _ _)
      | (with_reducible exact LeO.refl _)
      | (with_reducible exact LeO.none _)
      | (with_reducible refine LeO.ite ?_ ?_)
      | (with_reducible refine LeO.bind ?_ (fun _ => ?_))
      | exact ih0 _ _ _ _ _
      | exact ih1 _ _ _ _ _
      | exact ih2 _ _ _ _ _
      | exact impl_FieldDiv.mono _ _ _
      | exact impl_FieldInv.mono _ _
      | exact impl_FieldMul.mono _ _ _
      | exact spec_FieldMul.mono _ _ _
      | exact LeO.none _
      | refine LeO.ite ?_ ?_
      | refine LeO.bind ?_ (fun _ => ?_)
theorem laws_FnField.mono : ∀ a0 a1 k, LeO (laws_FnField.f k a0 a1) (laws_FnField.f (k + 1) a0 a1) := by
  intro a0 a1 k
  obtain ⟨ih0, ih1, ih2⟩ := laws_FnField.mono_l k
  unfold laws_FnField.f
  repeat' first
      | (with_reducible exact ih0 _ _ _ _ _)
      | (with_reducible exact ih1 _ _ _ _ _)
      | (with_reducible exact ih2 _ _ _ _ _)
      | (with_reducible exact impl_FieldDiv.mono _ _ _)
      | (with_reducible exact impl_FieldInv.mono _ _)
      | (with_reducible exact impl_FieldMul.mono _ _ _)
      | (with_reducible exact spec_FieldMul.mono _ _ _)
      | (with_reducible exact LeO.refl _)
      | (with_reducible exact LeO.none _)
      | (with_reducible refine LeO.ite ?_ ?_)
      | (with_reducible refine LeO.bind ?_ (fun _ => ?_))
      | exact ih0 _ _ _ _ _
      | exact ih1 _ _ _ _ _
      | exact ih2 _ _ _ _ _
      | exact impl_FieldDiv.mono _ _ _
      | exact impl_FieldInv.mono _ _
      | exact impl_FieldMul.mono _ _ _
      | exact spec_FieldMul.mono _ _ _
      | exact LeO.none _
      | refine LeO.ite ?_ ?_
      | refine LeO.bind ?_ (fun _ => ?_)
set_option maxHeartbeats 8000000 in
set_option maxRecDepth 100000 in
theorem laws_FnField.calls (k : Nat) (A0 : Option Addr) (c0 : Nat) (l0 : List Int) (A1 : Option Addr) (c1 : Nat) (l1 : List Int) (r : Bool) (w : World) (hr0 : Kd.C (Kd.int .u8) w A0 l0.length l0) (hc0 : l0.length ≤ c0) (hr1 : Kd.C (Kd.int .u8) w A1 l1.length l1) (hc1 : l1.length ≤ c1) (h : laws_FnField.f k l0 l1 = some r) :
    Calls Try.prog 3 #[.slice A0 l0.length c0, .slice A1 l1.length c1] w fun e w' => e = .returned (.bool r) ∧ Below w.heap.size w w' := by
  have HR0 := Aside0.mk hr0
  have HC0 := Aside0.mk hc0
  clear hr0 hc0
  have HR1 := Aside0.mk hr1
  have HC1 := Aside0.mk hc1
  clear hr1 hc1
  have HB := Aside0.mk (Below.refl w.heap.size w)
  have H : (if (wrap64 ((l0.length : Int) + (l1.length : Int))) > 1048576 then (some true) else ((spec_DrawFieldMul.f l0).bind fun bt141 => ((spec_DrawFieldDiv.f l1).bind fun bt143 => ((impl_FieldMul.f k bt141.1 bt141.2).bind fun t145 => ((spec_FieldMul.f k bt141.1 bt141.2).bind fun t146 => (if t145 = t146 then ((impl_FieldMul.f k bt141.1 bt141.2).bind fun t147 => ((impl_FieldMul.f k bt141.2 bt141.1).bind fun t148 => (laws_FnField.j0 k bt141.1 bt141.2 bt143.1 bt143.2 (t147 != t148)))) else (laws_FnField.j0 k bt141.1 bt141.2 bt143.1 bt143.2 true))))))) = some r := h
  clear h
  by_cases c3 : (wrap64 ((l0.length : Int) + (l1.length : Int))) > 1048576
  · rw [if_pos c3] at H
    have c3b0 : decide (1048576 < (wrap64 ((l0.length : Int) + (l1.length : Int)))) = true := decide_eq_true c3
    clear c3
    obtain rfl := Option.some.inj H
    go_enter Try.func3, Try.ntmps3
    go_wp2
    go_ret
    exact ⟨by first | rfl | (simp [errW_none, errW_some] <;> rfl) | (simp [*, errW_none, errW_some] <;> rfl), by repeat (first | (with_reducible first | exact HB.out | apply below_alloc | apply pw_below_drewN | apply below_drew1) | exact HB.out)⟩
  · rw [if_neg c3] at H
    have c3b0 : decide (1048576 < (wrap64 ((l0.length : Int) + (l1.length : Int)))) = false := decide_eq_false c3
    clear c3
    replace H := Option.bind_eq_some_iff.mp H
    obtain ⟨⟨t141, t142⟩, A40, H⟩ := H
    replace H : ((spec_DrawFieldDiv.f l1).bind fun bt143 => ((impl_FieldMul.f k t141 t142).bind fun t145 => ((spec_FieldMul.f k t141 t142).bind fun t146 => (if t145 = t146 then ((impl_FieldMul.f k t141 t142).bind fun t147 => ((impl_FieldMul.f k t142 t141).bind fun t148 => (laws_FnField.j0 k t141 t142 bt143.1 bt143.2 (t147 != t148)))) else (laws_FnField.j0 k t141 t142 bt143.1 bt143.2 true))))) = some r := H
    have A4 := Aside0.mk A40
    clear A40
    replace H := Option.bind_eq_some_iff.mp H
    obtain ⟨⟨t143, t144⟩, A50, H⟩ := H
    replace H : ((impl_FieldMul.f k t141 t142).bind fun t145 => ((spec_FieldMul.f k t141 t142).bind fun t146 => (if t145 = t146 then ((impl_FieldMul.f k t141 t142).bind fun t147 => ((impl_FieldMul.f k t142 t141).bind fun t148 => (laws_FnField.j0 k t141 t142 t143 t144 (t147 != t148)))) else (laws_FnField.j0 k t141 t142 t143 t144 true)))) = some r := H
    have A5 := Aside0.mk A50
    clear A50
    have HC6 := Aside0.mk H
    clear H
    go_enter Try.func3, Try.ntmps3
    go_upto_region 5 with (first | ((with_reducible refine gate_callee (f := 15) rfl ?_); refine goesL_ (some 19) rfl rfl Try.func15 (by kernel_rfl) rfl #[.slice A0 l0.length c0] rfl (by (try simp only [List.map_toArray, List.map_cons, List.map_nil]); first | done | rfl | (simp only [List.length_drop, List.length_take]; rfl)) ?_; (with_reducible refine (spec_DrawFieldMul.calls _ _ l0 t141 t142 _ ?side1 ?side2 A4.out).mono ?_); (case side1 => repeat (first | exact HR0.out | (with_reducible refine Kd.C_alloc ?_ _) | (with_reducible refine Kd.C_drewN ?_ _) | (with_reducible refine Kd.C_drew ?_))); (case side2 => exact HC0.out); rintro e w7 ⟨rfl, hb⟩; refine ⟨_, rfl, ?_⟩; have n0_ := Aside0.mk (below_step (by repeat (first | (with_reducible first | exact HB.out | apply below_alloc | apply pw_below_drewN | apply below_drew1) | exact HB.out)) hb); clear HB; have HB := n0_; clear n0_; (try clear hb); (try clear hb2); (try clear hk); (try clear hi)) | ((with_reducible refine gate_callee (f := 16) rfl ?_); refine goesL_ (some 24) rfl rfl Try.func16 (by kernel_rfl) rfl #[.slice A1 l1.length c1] rfl (by (try simp only [List.map_toArray, List.map_cons, List.map_nil]); first | done | rfl | (simp only [List.length_drop, List.length_take]; rfl)) ?_; (with_reducible refine (spec_DrawFieldDiv.calls _ _ l1 t143 t144 _ ?side1 ?side2 A5.out).mono ?_); (case side1 => repeat (first | exact (Kd.C_below HR1.out HB.out) | (with_reducible refine Kd.C_alloc ?_ _) | (with_reducible refine Kd.C_drewN ?_ _) | (with_reducible refine Kd.C_drew ?_))); (case side2 => exact HC1.out); rintro e w8 ⟨rfl, hb⟩; refine ⟨_, rfl, ?_⟩; have n0_ := Aside0.mk (below_step (by repeat (first | (with_reducible first | exact HB.out | apply below_alloc | apply pw_below_drewN | apply below_drew1) | exact HB.out)) hb); clear HB; have HB := n0_; clear n0_; (try clear hb); (try clear hb2); (try clear hk); (try clear hi)))
    (try simp only [Act.put, List.setIfInBounds_toArray, List.set_cons_zero, List.set_cons_succ])
    go_cut [42] (fun v42 wc => ∃ (kq : Nat) (x42_5 : Bool), v42 = .bool x42_5 ∧ Aside0 (laws_FnField.j0 kq t141 t142 t143 t144 x42_5 = some r) ∧ Aside0 (kq ≤ k) ∧ Aside0 (Below w.heap.size w wc))
    case first =>
      have H := HC6.out
      clear HC6
      replace H := Option.bind_eq_some_iff.mp H
      obtain ⟨t145, A90, H⟩ := H
      replace H : ((spec_FieldMul.f k t141 t142).bind fun t146 => (if t145 = t146 then ((impl_FieldMul.f k t141 t142).bind fun t147 => ((impl_FieldMul.f k t142 t141).bind fun t148 => (laws_FnField.j0 k t141 t142 t143 t144 (t147 != t148)))) else (laws_FnField.j0 k t141 t142 t143 t144 true))) = some r := H
      have A9 := Aside0.mk A90
      clear A90
      replace H := Option.bind_eq_some_iff.mp H
      obtain ⟨t146, A100, H⟩ := H
      replace H : (if t145 = t146 then ((impl_FieldMul.f k t141 t142).bind fun t147 => ((impl_FieldMul.f k t142 t141).bind fun t148 => (laws_FnField.j0 k t141 t142 t143 t144 (t147 != t148)))) else (laws_FnField.j0 k t141 t142 t143 t144 true)) = some r := H
      have A10 := Aside0.mk A100
      clear A100
      by_cases c11 : t145 = t146
      · rw [if_pos c11] at H
        have c11b0 : (t145 == t146) = true := beq_iff_eq.mpr c11
        have c11b1 : (t145 != t146) = false := bne_eq_false_iff_eq.mpr c11
        clear c11
        (first | rw [c11b0] | (simp only [i64_w, i32_w]; rw [c11b0]) | skip)
        replace H := Option.bind_eq_some_iff.mp H
        obtain ⟨t147, A120, H⟩ := H
        replace H : ((impl_FieldMul.f k t142 t141).bind fun t148 => (laws_FnField.j0 k t141 t142 t143 t144 (t147 != t148))) = some r := H
        have A12 := Aside0.mk A120
        clear A120
        replace H := Option.bind_eq_some_iff.mp H
        obtain ⟨t148, A130, H⟩ := H
        replace H : (laws_FnField.j0 k t141 t142 t143 t144 (t147 != t148)) = some r := H
        have A13 := Aside0.mk A130
        clear A130
        have H' := Aside0.mk H
        clear H
        go_wp2_with (first | ((with_reducible refine gate_callee (f := 17) rfl ?_); refine goesL_ (some 29) rfl rfl Try.func17 (by kernel_rfl) rfl #[.int .u8 t141, .int .u8 t142] rfl (by (try simp only [List.map_toArray, List.map_cons, List.map_nil]); first | done | rfl | (simp only [List.length_drop, List.length_take]; rfl)) ?_; (with_reducible refine (impl_FieldMul.calls k t141 t142 t145 _ A9.out).mono ?_); rintro e w' ⟨rfl, ⟨nd, rfl⟩⟩; refine ⟨_, rfl, ?_⟩) | ((with_reducible refine gate_callee (f := 18) rfl ?_); refine goesL_ (some 32) rfl rfl Try.func18 (by kernel_rfl) rfl #[.int .u8 t141, .int .u8 t142] rfl (by (try simp only [List.map_toArray, List.map_cons, List.map_nil]); first | done | rfl | (simp only [List.length_drop, List.length_take]; rfl)) ?_; (with_reducible refine (spec_FieldMul.calls k t141 t142 t146 _ A10.out).mono ?_); rintro e w' ⟨rfl, ⟨nd, rfl⟩⟩; refine ⟨_, rfl, ?_⟩) | (go_at_call 17; (with_reducible refine (impl_FieldMul.calls k t141 t142 t147 _ A12.out).mono ?_); rintro e w' ⟨rfl, ⟨nd, rfl⟩⟩) | (go_at_call 17; (with_reducible refine (impl_FieldMul.calls k t142 t141 t148 _ A13.out).mono ?_); rintro e w' ⟨rfl, ⟨nd, rfl⟩⟩))
        go_meet
        case rel => exact ⟨_, ((t147 != t148)), (by first | rfl | (simp; done) | (simp [*]; done)), H', ⟨by first | omega | exact Nat.le_refl _⟩, ⟨by repeat (first | (with_reducible first | exact HB.out | apply below_alloc | apply pw_below_drewN | apply below_drew1) | exact HB.out)⟩⟩
      · rw [if_neg c11] at H
        have c11b0 : (t145 == t146) = false := beq_eq_false_iff_ne.mpr c11
        have c11b1 : (t145 != t146) = true := bne_iff_ne.mpr c11
        (first | rw [c11b0] | (simp only [i64_w, i32_w]; rw [c11b0]) | skip)
        have H' := Aside0.mk H
        clear H
        go_wp2_with (first | ((with_reducible refine gate_callee (f := 17) rfl ?_); refine goesL_ (some 29) rfl rfl Try.func17 (by kernel_rfl) rfl #[.int .u8 t141, .int .u8 t142] rfl (by (try simp only [List.map_toArray, List.map_cons, List.map_nil]); first | done | rfl | (simp only [List.length_drop, List.length_take]; rfl)) ?_; (with_reducible refine (impl_FieldMul.calls k t141 t142 t145 _ A9.out).mono ?_); rintro e w' ⟨rfl, ⟨nd, rfl⟩⟩; refine ⟨_, rfl, ?_⟩) | ((with_reducible refine gate_callee (f := 18) rfl ?_); refine goesL_ (some 32) rfl rfl Try.func18 (by kernel_rfl) rfl #[.int .u8 t141, .int .u8 t142] rfl (by (try simp only [List.map_toArray, List.map_cons, List.map_nil]); first | done | rfl | (simp only [List.length_drop, List.length_take]; rfl)) ?_; (with_reducible refine (spec_FieldMul.calls k t141 t142 t146 _ A10.out).mono ?_); rintro e w' ⟨rfl, ⟨nd, rfl⟩⟩; refine ⟨_, rfl, ?_⟩))
        go_meet
        case rel => exact ⟨_, (true), (by first | rfl | (simp; done) | (simp [*]; done)), H', ⟨by first | omega | exact Nat.le_refl _⟩, ⟨by repeat (first | (with_reducible first | exact HB.out | apply below_alloc | apply pw_below_drewN | apply below_drew1) | exact HB.out)⟩⟩
    case rest =>
      clear HC6
      try clear c1
      try clear p2
      try clear c3
      try clear c3b0
      try clear p6
      try clear c11
      try clear c11b0
      try clear c11b1
      obtain ⟨kq, x42_5, rfl, HA, HJ5, HB⟩ := hcut
      cases kq with
      | zero => exact absurd HA.out (fun h_ => by change none = some _ at h_; cases h_)
      | succ kj5 =>
        have H := HA.out
        clear HA
        simp only [laws_FnField.j0] at H
        by_cases c14 : x42_5 = true
        · subst c14
          have H1 : (some false) = some r := by rw [if_pos rfl] at H; exact H
          clear H
          have H := H1
          clear H1
          obtain rfl := Option.some.inj H
          go_wp2
          go_ret
          exact ⟨by first | rfl | (simp [errW_none, errW_some] <;> rfl) | (simp [*, errW_none, errW_some] <;> rfl), by repeat (first | (with_reducible first | exact HB.out | apply below_alloc | apply pw_below_drewN | apply below_drew1) | exact HB.out)⟩
        · replace c14 := Bool.eq_false_iff.mpr c14
          subst c14
          have H1 : ((impl_FieldMul.f kj5 t141 t142).bind fun t149 => ((impl_FieldMul.f kj5 t149 t143).bind fun t150 => ((impl_FieldMul.f kj5 t142 t143).bind fun t151 => ((impl_FieldMul.f kj5 t141 t151).bind fun t152 => (if t150 = t152 then ((impl_FieldMul.f kj5 t141 (Go.bits .xor .u8 t142 t143)).bind fun t153 => ((impl_FieldMul.f kj5 t141 t142).bind fun t154 => ((impl_FieldMul.f kj5 t141 t143).bind fun t155 => (if t153 = (Go.bits .xor .u8 t154 t155) then ((impl_FieldMul.f kj5 t141 1).bind fun t156 => (laws_FnField.j1 kj5 t141 t142 t143 t144 (t156 != t141))) else (laws_FnField.j1 kj5 t141 t142 t143 t144 true))))) else (laws_FnField.j1 kj5 t141 t142 t143 t144 true)))))) = some r := by rw [if_neg (show ¬ (false = true) by decide)] at H; exact H
          clear H
          have H := H1
          clear H1
          have HC15 := Aside0.mk H
          clear H
          go_upto_region 7 with (fail)
          go_cut [74] (fun v74 wc => ∃ (kq : Nat) (x74_14 : Bool), v74 = .bool x74_14 ∧ Aside0 (laws_FnField.j1 kq t141 t142 t143 t144 x74_14 = some r) ∧ Aside0 (kq ≤ kj5) ∧ Aside0 (Below w.heap.size w wc))
          case first =>
            have H := HC15.out
            clear HC15
            replace H := Option.bind_eq_some_iff.mp H
            obtain ⟨t149, A160, H⟩ := H
            replace H : ((impl_FieldMul.f kj5 t149 t143).bind fun t150 => ((impl_FieldMul.f kj5 t142 t143).bind fun t151 => ((impl_FieldMul.f kj5 t141 t151).bind fun t152 => (if t150 = t152 then ((impl_FieldMul.f kj5 t141 (Go.bits .xor .u8 t142 t143)).bind fun t153 => ((impl_FieldMul.f kj5 t141 t142).bind fun t154 => ((impl_FieldMul.f kj5 t141 t143).bind fun t155 => (if t153 = (Go.bits .xor .u8 t154 t155) then ((impl_FieldMul.f kj5 t141 1).bind fun t156 => (laws_FnField.j1 kj5 t141 t142 t143 t144 (t156 != t141))) else (laws_FnField.j1 kj5 t141 t142 t143 t144 true))))) else (laws_FnField.j1 kj5 t141 t142 t143 t144 true))))) = some r := H
            have A16 := Aside0.mk A160
            clear A160
            replace H := Option.bind_eq_some_iff.mp H
            obtain ⟨t150, A170, H⟩ := H
            replace H : ((impl_FieldMul.f kj5 t142 t143).bind fun t151 => ((impl_FieldMul.f kj5 t141 t151).bind fun t152 => (if t150 = t152 then ((impl_FieldMul.f kj5 t141 (Go.bits .xor .u8 t142 t143)).bind fun t153 => ((impl_FieldMul.f kj5 t141 t142).bind fun t154 => ((impl_FieldMul.f kj5 t141 t143).bind fun t155 => (if t153 = (Go.bits .xor .u8 t154 t155) then ((impl_FieldMul.f kj5 t141 1).bind fun t156 => (laws_FnField.j1 kj5 t141 t142 t143 t144 (t156 != t141))) else (laws_FnField.j1 kj5 t141 t142 t143 t144 true))))) else (laws_FnField.j1 kj5 t141 t142 t143 t144 true)))) = some r := H
            have A17 := Aside0.mk A170
            clear A170
            replace H := Option.bind_eq_some_iff.mp H
            obtain ⟨t151, A180, H⟩ := H
            replace H : ((impl_FieldMul.f kj5 t141 t151).bind fun t152 => (if t150 = t152 then ((impl_FieldMul.f kj5 t141 (Go.bits .xor .u8 t142 t143)).bind fun t153 => ((impl_FieldMul.f kj5 t141 t142).bind fun t154 => ((impl_FieldMul.f kj5 t141 t143).bind fun t155 => (if t153 = (Go.bits .xor .u8 t154 t155) then ((impl_FieldMul.f kj5 t141 1).bind fun t156 => (laws_FnField.j1 kj5 t141 t142 t143 t144 (t156 != t141))) else (laws_FnField.j1 kj5 t141 t142 t143 t144 true))))) else (laws_FnField.j1 kj5 t141 t142 t143 t144 true))) = some r := H
            have A18 := Aside0.mk A180
            clear A180
            replace H := Option.bind_eq_some_iff.mp H
            obtain ⟨t152, A190, H⟩ := H
            replace H : (if t150 = t152 then ((impl_FieldMul.f kj5 t141 (Go.bits .xor .u8 t142 t143)).bind fun t153 => ((impl_FieldMul.f kj5 t141 t142).bind fun t154 => ((impl_FieldMul.f kj5 t141 t143).bind fun t155 => (if t153 = (Go.bits .xor .u8 t154 t155) then ((impl_FieldMul.f kj5 t141 1).bind fun t156 => (laws_FnField.j1 kj5 t141 t142 t143 t144 (t156 != t141))) else (laws_FnField.j1 kj5 t141 t142 t143 t144 true))))) else (laws_FnField.j1 kj5 t141 t142 t143 t144 true)) = some r := H
            have A19 := Aside0.mk A190
            clear A190
            by_cases c20 : t150 = t152
            · rw [if_pos c20] at H
              have c20b0 : (t150 == t152) = true := beq_iff_eq.mpr c20
              have c20b1 : (t150 != t152) = false := bne_eq_false_iff_eq.mpr c20
              clear c20
              (first | rw [c20b0] | (simp only [i64_w, i32_w]; rw [c20b0]) | skip)
              replace H := Option.bind_eq_some_iff.mp H
              obtain ⟨t153, A210, H⟩ := H
              replace H : ((impl_FieldMul.f kj5 t141 t142).bind fun t154 => ((impl_FieldMul.f kj5 t141 t143).bind fun t155 => (if t153 = (Go.bits .xor .u8 t154 t155) then ((impl_FieldMul.f kj5 t141 1).bind fun t156 => (laws_FnField.j1 kj5 t141 t142 t143 t144 (t156 != t141))) else (laws_FnField.j1 kj5 t141 t142 t143 t144 true)))) = some r := H
              have A21 := Aside0.mk A210
              clear A210
              replace H := Option.bind_eq_some_iff.mp H
              obtain ⟨t154, A220, H⟩ := H
              replace H : ((impl_FieldMul.f kj5 t141 t143).bind fun t155 => (if t153 = (Go.bits .xor .u8 t154 t155) then ((impl_FieldMul.f kj5 t141 1).bind fun t156 => (laws_FnField.j1 kj5 t141 t142 t143 t144 (t156 != t141))) else (laws_FnField.j1 kj5 t141 t142 t143 t144 true))) = some r := H
              have A22 := Aside0.mk A220
              clear A220
              replace H := Option.bind_eq_some_iff.mp H
              obtain ⟨t155, A230, H⟩ := H
              replace H : (if t153 = (Go.bits .xor .u8 t154 t155) then ((impl_FieldMul.f kj5 t141 1).bind fun t156 => (laws_FnField.j1 kj5 t141 t142 t143 t144 (t156 != t141))) else (laws_FnField.j1 kj5 t141 t142 t143 t144 true)) = some r := H
              have A23 := Aside0.mk A230
              clear A230
              by_cases c24 : t153 = (Go.bits .xor .u8 t154 t155)
              · rw [if_pos c24] at H
                have c24b0 : (t153 == (Go.bits .xor .u8 t154 t155)) = true := beq_iff_eq.mpr c24
                have c24b1 : (t153 != (Go.bits .xor .u8 t154 t155)) = false := bne_eq_false_iff_eq.mpr c24
                clear c24
                replace H := Option.bind_eq_some_iff.mp H
                obtain ⟨t156, A250, H⟩ := H
                replace H : (laws_FnField.j1 kj5 t141 t142 t143 t144 (t156 != t141)) = some r := H
                have A25 := Aside0.mk A250
                clear A250
                have H' := Aside0.mk H
                clear H
                go_wp2_with (first | ((with_reducible refine gate_callee (f := 17) rfl ?_); refine goesL_ (some 45) rfl rfl Try.func17 (by kernel_rfl) rfl #[.int .u8 t141, .int .u8 t142] rfl (by (try simp only [List.map_toArray, List.map_cons, List.map_nil]); first | done | rfl | (simp only [List.length_drop, List.length_take]; rfl)) ?_; (with_reducible refine (impl_FieldMul.calls kj5 t141 t142 t149 _ A16.out).mono ?_); rintro e w' ⟨rfl, ⟨nd, rfl⟩⟩; refine ⟨_, rfl, ?_⟩) | ((with_reducible refine gate_callee (f := 17) rfl ?_); refine goesL_ (some 47) rfl rfl Try.func17 (by kernel_rfl) rfl #[.int .u8 t149, .int .u8 t143] rfl (by (try simp only [List.map_toArray, List.map_cons, List.map_nil]); first | done | rfl | (simp only [List.length_drop, List.length_take]; rfl)) ?_; (with_reducible refine (impl_FieldMul.calls kj5 t149 t143 t150 _ A17.out).mono ?_); rintro e w' ⟨rfl, ⟨nd, rfl⟩⟩; refine ⟨_, rfl, ?_⟩) | ((with_reducible refine gate_callee (f := 17) rfl ?_); refine goesL_ (some 51) rfl rfl Try.func17 (by kernel_rfl) rfl #[.int .u8 t142, .int .u8 t143] rfl (by (try simp only [List.map_toArray, List.map_cons, List.map_nil]); first | done | rfl | (simp only [List.length_drop, List.length_take]; rfl)) ?_; (with_reducible refine (impl_FieldMul.calls kj5 t142 t143 t151 _ A18.out).mono ?_); rintro e w' ⟨rfl, ⟨nd, rfl⟩⟩; refine ⟨_, rfl, ?_⟩) | ((with_reducible refine gate_callee (f := 17) rfl ?_); refine goesL_ (some 52) rfl rfl Try.func17 (by kernel_rfl) rfl #[.int .u8 t141, .int .u8 t151] rfl (by (try simp only [List.map_toArray, List.map_cons, List.map_nil]); first | done | rfl | (simp only [List.length_drop, List.length_take]; rfl)) ?_; (with_reducible refine (impl_FieldMul.calls kj5 t141 t151 t152 _ A19.out).mono ?_); rintro e w' ⟨rfl, ⟨nd, rfl⟩⟩; refine ⟨_, rfl, ?_⟩) | (go_at_call 17; (with_reducible refine (impl_FieldMul.calls kj5 t141 (Go.bits .xor .u8 t142 t143) t153 _ A21.out).mono ?_); rintro e w' ⟨rfl, ⟨nd, rfl⟩⟩) | (go_at_call 17; (with_reducible refine (impl_FieldMul.calls kj5 t141 t142 t154 _ A22.out).mono ?_); rintro e w' ⟨rfl, ⟨nd, rfl⟩⟩) | (go_at_call 17; (with_reducible refine (impl_FieldMul.calls kj5 t141 t143 t155 _ A23.out).mono ?_); rintro e w' ⟨rfl, ⟨nd, rfl⟩⟩) | (go_at_call 17; (with_reducible refine (impl_FieldMul.calls kj5 t141 1 t156 _ A25.out).mono ?_); rintro e w' ⟨rfl, ⟨nd, rfl⟩⟩))
                go_meet
                case rel => exact ⟨_, ((t156 != t141)), (by first | rfl | (simp; done) | (simp [*]; done)), H', ⟨by have := HJ5.out; first | omega | exact Nat.le_refl _⟩, ⟨by repeat (first | (with_reducible first | exact HB.out | apply below_alloc | apply pw_below_drewN | apply below_drew1) | exact HB.out)⟩⟩
              · rw [if_neg c24] at H
                have c24b0 : (t153 == (Go.bits .xor .u8 t154 t155)) = false := beq_eq_false_iff_ne.mpr c24
                have c24b1 : (t153 != (Go.bits .xor .u8 t154 t155)) = true := bne_iff_ne.mpr c24
                have H' := Aside0.mk H
                clear H
                go_wp2_with (first | ((with_reducible refine gate_callee (f := 17) rfl ?_); refine goesL_ (some 45) rfl rfl Try.func17 (by kernel_rfl) rfl #[.int .u8 t141, .int .u8 t142] rfl (by (try simp only [List.map_toArray, List.map_cons, List.map_nil]); first | done | rfl | (simp only [List.length_drop, List.length_take]; rfl)) ?_; (with_reducible refine (impl_FieldMul.calls kj5 t141 t142 t149 _ A16.out).mono ?_); rintro e w' ⟨rfl, ⟨nd, rfl⟩⟩; refine ⟨_, rfl, ?_⟩) | ((with_reducible refine gate_callee (f := 17) rfl ?_); refine goesL_ (some 47) rfl rfl Try.func17 (by kernel_rfl) rfl #[.int .u8 t149, .int .u8 t143] rfl (by (try simp only [List.map_toArray, List.map_cons, List.map_nil]); first | done | rfl | (simp only [List.length_drop, List.length_take]; rfl)) ?_; (with_reducible refine (impl_FieldMul.calls kj5 t149 t143 t150 _ A17.out).mono ?_); rintro e w' ⟨rfl, ⟨nd, rfl⟩⟩; refine ⟨_, rfl, ?_⟩) | ((with_reducible refine gate_callee (f := 17) rfl ?_); refine goesL_ (some 51) rfl rfl Try.func17 (by kernel_rfl) rfl #[.int .u8 t142, .int .u8 t143] rfl (by (try simp only [List.map_toArray, List.map_cons, List.map_nil]); first | done | rfl | (simp only [List.length_drop, List.length_take]; rfl)) ?_; (with_reducible refine (impl_FieldMul.calls kj5 t142 t143 t151 _ A18.out).mono ?_); rintro e w' ⟨rfl, ⟨nd, rfl⟩⟩; refine ⟨_, rfl, ?_⟩) | ((with_reducible refine gate_callee (f := 17) rfl ?_); refine goesL_ (some 52) rfl rfl Try.func17 (by kernel_rfl) rfl #[.int .u8 t141, .int .u8 t151] rfl (by (try simp only [List.map_toArray, List.map_cons, List.map_nil]); first | done | rfl | (simp only [List.length_drop, List.length_take]; rfl)) ?_; (with_reducible refine (impl_FieldMul.calls kj5 t141 t151 t152 _ A19.out).mono ?_); rintro e w' ⟨rfl, ⟨nd, rfl⟩⟩; refine ⟨_, rfl, ?_⟩) | (go_at_call 17; (with_reducible refine (impl_FieldMul.calls kj5 t141 (Go.bits .xor .u8 t142 t143) t153 _ A21.out).mono ?_); rintro e w' ⟨rfl, ⟨nd, rfl⟩⟩) | (go_at_call 17; (with_reducible refine (impl_FieldMul.calls kj5 t141 t142 t154 _ A22.out).mono ?_); rintro e w' ⟨rfl, ⟨nd, rfl⟩⟩) | (go_at_call 17; (with_reducible refine (impl_FieldMul.calls kj5 t141 t143 t155 _ A23.out).mono ?_); rintro e w' ⟨rfl, ⟨nd, rfl⟩⟩))
                go_meet
                case rel => exact ⟨_, (true), (by first | rfl | (simp; done) | (simp [*]; done)), H', ⟨by have := HJ5.out; first | omega | exact Nat.le_refl _⟩, ⟨by repeat (first | (with_reducible first | exact HB.out | apply below_alloc | apply pw_below_drewN | apply below_drew1) | exact HB.out)⟩⟩
            · rw [if_neg c20] at H
              have c20b0 : (t150 == t152) = false := beq_eq_false_iff_ne.mpr c20
              have c20b1 : (t150 != t152) = true := bne_iff_ne.mpr c20
              (first | rw [c20b0] | (simp only [i64_w, i32_w]; rw [c20b0]) | skip)
              have H' := Aside0.mk H
              clear H
              go_wp2_with (first | ((with_reducible refine gate_callee (f := 17) rfl ?_); refine goesL_ (some 45) rfl rfl Try.func17 (by kernel_rfl) rfl #[.int .u8 t141, .int .u8 t142] rfl (by (try simp only [List.map_toArray, List.map_cons, List.map_nil]); first | done | rfl | (simp only [List.length_drop, List.length_take]; rfl)) ?_; (with_reducible refine (impl_FieldMul.calls kj5 t141 t142 t149 _ A16.out).mono ?_); rintro e w' ⟨rfl, ⟨nd, rfl⟩⟩; refine ⟨_, rfl, ?_⟩) | ((with_reducible refine gate_callee (f := 17) rfl ?_); refine goesL_ (some 47) rfl rfl Try.func17 (by kernel_rfl) rfl #[.int .u8 t149, .int .u8 t143] rfl (by (try simp only [List.map_toArray, List.map_cons, List.map_nil]); first | done | rfl | (simp only [List.length_drop, List.length_take]; rfl)) ?_; (with_reducible refine (impl_FieldMul.calls kj5 t149 t143 t150 _ A17.out).mono ?_); rintro e w' ⟨rfl, ⟨nd, rfl⟩⟩; refine ⟨_, rfl, ?_⟩) | ((with_reducible refine gate_callee (f := 17) rfl ?_); refine goesL_ (some 51) rfl rfl Try.func17 (by kernel_rfl) rfl #[.int .u8 t142, .int .u8 t143] rfl (by (try simp only [List.map_toArray, List.map_cons, List.map_nil]); first | done | rfl | (simp only [List.length_drop, List.length_take]; rfl)) ?_; (with_reducible refine (impl_FieldMul.calls kj5 t142 t143 t151 _ A18.out).mono ?_); rintro e w' ⟨rfl, ⟨nd, rfl⟩⟩; refine ⟨_, rfl, ?_⟩) | ((with_reducible refine gate_callee (f := 17) rfl ?_); refine goesL_ (some 52) rfl rfl Try.func17 (by kernel_rfl) rfl #[.int .u8 t141, .int .u8 t151] rfl (by (try simp only [List.map_toArray, List.map_cons, List.map_nil]); first | done | rfl | (simp only [List.length_drop, List.length_take]; rfl)) ?_; (with_reducible refine (impl_FieldMul.calls kj5 t141 t151 t152 _ A19.out).mono ?_); rintro e w' ⟨rfl, ⟨nd, rfl⟩⟩; refine ⟨_, rfl, ?_⟩))
              go_meet
              case rel => exact ⟨_, (true), (by first | rfl | (simp; done) | (simp [*]; done)), H', ⟨by have := HJ5.out; first | omega | exact Nat.le_refl _⟩, ⟨by repeat (first | (with_reducible first | exact HB.out | apply below_alloc | apply pw_below_drewN | apply below_drew1) | exact HB.out)⟩⟩
          case rest =>
            clear HC15
            try clear c1
            try clear c2
            try clear p2
            try clear c3
            try clear c3b0
            try clear p6
            try clear c11
            try clear c11b0
            try clear c11b1
            try clear c14
            try clear c15
            try clear c16
            try clear c17
            try clear c18
            try clear c20
            try clear c20b0
            try clear c20b1
            try clear c24
            try clear c24b0
            try clear c24b1
            try clear p2
            try clear p6
            obtain ⟨kq, x74_14, rfl, HA, HJ14, HB⟩ := hcut
            cases kq with
            | zero => exact absurd HA.out (fun h_ => by change none = some _ at h_; cases h_)
            | succ kj14 =>
              have H := HA.out
              clear HA
              simp only [laws_FnField.j1] at H
              by_cases c26 : x74_14 = true
              · subst c26
                have H1 : (some false) = some r := by rw [if_pos rfl] at H; exact H
                clear H
                have H := H1
                clear H1
                obtain rfl := Option.some.inj H
                go_wp2
                go_ret
                exact ⟨by first | rfl | (simp [errW_none, errW_some] <;> rfl) | (simp [*, errW_none, errW_some] <;> rfl), by repeat (first | (with_reducible first | exact HB.out | apply below_alloc | apply pw_below_drewN | apply below_drew1) | exact HB.out)⟩
              · replace c26 := Bool.eq_false_iff.mpr c26
                subst c26
                have H1 : (if t141 = 0 then (laws_FnField.j2 kj14 t141 t142 t143 t144 false) else ((impl_FieldInv.f kj14 t141).bind fun t157 => ((impl_FieldMul.f kj14 t141 t157).bind fun t158 => (if t158 = 1 then ((impl_FieldInv.f kj14 t141).bind fun t159 => ((impl_FieldInv.f kj14 t159).bind fun t160 => (laws_FnField.j2 kj14 t141 t142 t143 t144 (t160 != t141)))) else (laws_FnField.j2 kj14 t141 t142 t143 t144 true))))) = some r := by rw [if_neg (show ¬ (false = true) by decide)] at H; exact H
                clear H
                have H := H1
                clear H1
                have HC27 := Aside0.mk H
                clear H
                go_upto_region 9 with (fail)
                go_cut [90] (fun v90 wc => ∃ (kq : Nat) (x90_26 : Bool), v90 = .bool x90_26 ∧ Aside0 (laws_FnField.j2 kq t141 t142 t143 t144 x90_26 = some r) ∧ Aside0 (kq ≤ kj14) ∧ Aside0 (Below w.heap.size w wc))
                case first =>
                  have H := HC27.out
                  clear HC27
                  by_cases c28 : t141 = 0
                  · rw [if_pos c28] at H
                    have c28b0 : (t141 == 0) = true := beq_iff_eq.mpr c28
                    have c28b1 : (t141 != 0) = false := bne_eq_false_iff_eq.mpr c28
                    clear c28
                    (first | rw [c28b0] | (simp only [i64_w, i32_w]; rw [c28b0]) | skip)
                    have H' := Aside0.mk H
                    clear H
                    go_wp2
                    go_meet
                    case rel => exact ⟨_, (false), (by first | rfl | (simp; done) | (simp [*]; done)), H', ⟨by have := HJ5.out; have := HJ14.out; first | omega | exact Nat.le_refl _⟩, ⟨by repeat (first | (with_reducible first | exact HB.out | apply below_alloc | apply pw_below_drewN | apply below_drew1) | exact HB.out)⟩⟩
                  · rw [if_neg c28] at H
                    have c28b0 : (t141 == 0) = false := beq_eq_false_iff_ne.mpr c28
                    have c28b1 : (t141 != 0) = true := bne_iff_ne.mpr c28
                    (first | rw [c28b0] | (simp only [i64_w, i32_w]; rw [c28b0]) | skip)
                    replace H := Option.bind_eq_some_iff.mp H
                    obtain ⟨t157, A290, H⟩ := H
                    replace H : ((impl_FieldMul.f kj14 t141 t157).bind fun t158 => (if t158 = 1 then ((impl_FieldInv.f kj14 t141).bind fun t159 => ((impl_FieldInv.f kj14 t159).bind fun t160 => (laws_FnField.j2 kj14 t141 t142 t143 t144 (t160 != t141)))) else (laws_FnField.j2 kj14 t141 t142 t143 t144 true))) = some r := H
                    have A29 := Aside0.mk A290
                    clear A290
                    replace H := Option.bind_eq_some_iff.mp H
                    obtain ⟨t158, A300, H⟩ := H
                    replace H : (if t158 = 1 then ((impl_FieldInv.f kj14 t141).bind fun t159 => ((impl_FieldInv.f kj14 t159).bind fun t160 => (laws_FnField.j2 kj14 t141 t142 t143 t144 (t160 != t141)))) else (laws_FnField.j2 kj14 t141 t142 t143 t144 true)) = some r := H
                    have A30 := Aside0.mk A300
                    clear A300
                    by_cases c31 : t158 = 1
                    · rw [if_pos c31] at H
                      have c31b0 : (t158 == 1) = true := beq_iff_eq.mpr c31
                      have c31b1 : (t158 != 1) = false := bne_eq_false_iff_eq.mpr c31
                      clear c31
                      replace H := Option.bind_eq_some_iff.mp H
                      obtain ⟨t159, A320, H⟩ := H
                      replace H : ((impl_FieldInv.f kj14 t159).bind fun t160 => (laws_FnField.j2 kj14 t141 t142 t143 t144 (t160 != t141))) = some r := H
                      have A32 := Aside0.mk A320
                      clear A320
                      replace H := Option.bind_eq_some_iff.mp H
                      obtain ⟨t160, A330, H⟩ := H
                      replace H : (laws_FnField.j2 kj14 t141 t142 t143 t144 (t160 != t141)) = some r := H
                      have A33 := Aside0.mk A330
                      clear A330
                      have H' := Aside0.mk H
                      clear H
                      obtain rfl : t157 = t159 := Option.some.inj (A29.out.symm.trans A32.out)
                      go_wp2_with (first | (go_at_call 19; (with_reducible refine (impl_FieldInv.calls kj14 t141 t157 _ A29.out).mono ?_); rintro e w' ⟨rfl, ⟨nd, rfl⟩⟩) | (go_at_call 17; (with_reducible refine (impl_FieldMul.calls kj14 t141 t157 t158 _ A30.out).mono ?_); rintro e w' ⟨rfl, ⟨nd, rfl⟩⟩) | (go_at_call 19; (with_reducible refine (impl_FieldInv.calls kj14 t141 t157 _ A32.out).mono ?_); rintro e w' ⟨rfl, ⟨nd, rfl⟩⟩) | (go_at_call 19; (with_reducible refine (impl_FieldInv.calls kj14 t157 t160 _ A33.out).mono ?_); rintro e w' ⟨rfl, ⟨nd, rfl⟩⟩))
                      go_meet
                      case rel => exact ⟨_, ((t160 != t141)), (by first | rfl | (simp; done) | (simp [*]; done)), H', ⟨by have := HJ5.out; have := HJ14.out; first | omega | exact Nat.le_refl _⟩, ⟨by repeat (first | (with_reducible first | exact HB.out | apply below_alloc | apply pw_below_drewN | apply below_drew1) | exact HB.out)⟩⟩
                    · rw [if_neg c31] at H
                      have c31b0 : (t158 == 1) = false := beq_eq_false_iff_ne.mpr c31
                      have c31b1 : (t158 != 1) = true := bne_iff_ne.mpr c31
                      have H' := Aside0.mk H
                      clear H
                      go_wp2_with (first | (go_at_call 19; (with_reducible refine (impl_FieldInv.calls kj14 t141 t157 _ A29.out).mono ?_); rintro e w' ⟨rfl, ⟨nd, rfl⟩⟩) | (go_at_call 17; (with_reducible refine (impl_FieldMul.calls kj14 t141 t157 t158 _ A30.out).mono ?_); rintro e w' ⟨rfl, ⟨nd, rfl⟩⟩))
                      go_meet
                      case rel => exact ⟨_, (true), (by first | rfl | (simp; done) | (simp [*]; done)), H', ⟨by have := HJ5.out; have := HJ14.out; first | omega | exact Nat.le_refl _⟩, ⟨by repeat (first | (with_reducible first | exact HB.out | apply below_alloc | apply pw_below_drewN | apply below_drew1) | exact HB.out)⟩⟩
                case rest =>
                  clear HC27
                  try clear c1
                  try clear c2
                  try clear p2
                  try clear c3
                  try clear c3b0
                  try clear p6
                  try clear c11
                  try clear c11b0
                  try clear c11b1
                  try clear c14
                  try clear c15
                  try clear c16
                  try clear c17
                  try clear c18
                  try clear c20
                  try clear c20b0
                  try clear c20b1
                  try clear c24
                  try clear c24b0
                  try clear c24b1
                  try clear c26
                  try clear c28
                  try clear c28b0
                  try clear c28b1
                  try clear c31
                  try clear c31b0
                  try clear c31b1
                  try clear p2
                  try clear p6
                  obtain ⟨kq, x90_26, rfl, HA, HJ26, HB⟩ := hcut
                  cases kq with
                  | zero => exact absurd HA.out (fun h_ => by change none = some _ at h_; cases h_)
                  | succ kj26 =>
                    have H := HA.out
                    clear HA
                    simp only [laws_FnField.j2] at H
                    by_cases c34 : x90_26 = true
                    · subst c34
                      have H1 : (some false) = some r := by rw [if_pos rfl] at H; exact H
                      clear H
                      have H := H1
                      clear H1
                      obtain rfl := Option.some.inj H
                      go_wp2
                      go_ret
                      exact ⟨by first | rfl | (simp [errW_none, errW_some] <;> rfl) | (simp [*, errW_none, errW_some] <;> rfl), by repeat (first | (with_reducible first | exact HB.out | apply below_alloc | apply pw_below_drewN | apply below_drew1) | exact HB.out)⟩
                    · replace c34 := Bool.eq_false_iff.mpr c34
                      subst c34
                      have H1 : ((impl_FieldDiv.f kj26 t143 t144).bind fun bt161 => (if (bt161.2 != (t144 != 0)) = true then (some false) else (if bt161.2 = true then ((impl_FieldMul.f kj26 bt161.1 t144).bind fun t163 => (if t163 = t143 then (if t141 = 0 then (some true) else (if t142 = 0 then (some true) else ((impl_FieldMul.f kj26 t141 t142).bind fun t164 => (some (t164 != 0))))) else (some false))) else (if bt161.1 = 0 then (if t141 = 0 then (some true) else (if t142 = 0 then (some true) else ((impl_FieldMul.f kj26 t141 t142).bind fun t165 => (some (t165 != 0))))) else (some false))))) = some r := by rw [if_neg (show ¬ (false = true) by decide)] at H; exact H
                      clear H
                      have H := H1
                      clear H1
                      replace H := Option.bind_eq_some_iff.mp H
                      obtain ⟨⟨t161, t162⟩, A350, H⟩ := H
                      replace H : (if (t162 != (t144 != 0)) = true then (some false) else (if t162 = true then ((impl_FieldMul.f kj26 t161 t144).bind fun t163 => (if t163 = t143 then (if t141 = 0 then (some true) else (if t142 = 0 then (some true) else ((impl_FieldMul.f kj26 t141 t142).bind fun t164 => (some (t164 != 0))))) else (some false))) else (if t161 = 0 then (if t141 = 0 then (some true) else (if t142 = 0 then (some true) else ((impl_FieldMul.f kj26 t141 t142).bind fun t165 => (some (t165 != 0))))) else (some false)))) = some r := H
                      have A35 := Aside0.mk A350
                      clear A350
                      by_cases c36 : (t162 != (t144 != 0)) = true
                      · rw [if_pos c36] at H
                        have c36b0 : (t162 != (t144 != 0)) = true := c36
                        (try (have c36b1 : decide (t162 = (t144 != 0)) = false := by simpa using c36))
                        (try (have c36b2 : (t162 == (t144 != 0)) = false := by simpa using c36))
                        (try (have c36b3 : ¬ (t162 = (t144 != 0)) := by simpa using c36))
                        clear c36
                        obtain rfl := Option.some.inj H
                        go_wp2_with (first | ((with_reducible refine gate_callee (f := 20) rfl ?_); refine goesL_ (some 94) rfl rfl Try.func20 (by kernel_rfl) rfl #[.int .u8 t143, .int .u8 t144] rfl (by (try simp only [List.map_toArray, List.map_cons, List.map_nil]); first | done | rfl | (simp only [List.length_drop, List.length_take]; rfl)) ?_; (with_reducible refine (impl_FieldDiv.calls kj26 t143 t144 t161 t162 _ A35.out).mono ?_); rintro e w' ⟨rfl, ⟨nd, rfl⟩⟩; refine ⟨_, rfl, ?_⟩))
                        go_ret
                        exact ⟨by first | rfl | (simp [errW_none, errW_some] <;> rfl) | (simp [*, errW_none, errW_some] <;> rfl), by repeat (first | (with_reducible first | exact HB.out | apply below_alloc | apply pw_below_drewN | apply below_drew1) | exact HB.out)⟩
                      · rw [if_neg c36] at H
                        have c36b0 : (t162 != (t144 != 0)) = false := by simpa using c36
                        (try (have c36b1 : decide (t162 = (t144 != 0)) = true := by simpa using c36))
                        (try (have c36b2 : (t162 == (t144 != 0)) = true := by simpa using c36))
                        clear c36
                        by_cases c37 : t162 = true
                        · subst c37
                          have H1 : ((impl_FieldMul.f kj26 t161 t144).bind fun t163 => (if t163 = t143 then (if t141 = 0 then (some true) else (if t142 = 0 then (some true) else ((impl_FieldMul.f kj26 t141 t142).bind fun t164 => (some (t164 != 0))))) else (some false))) = some r := by rw [if_pos rfl] at H; exact H
                          clear H
                          have H := H1
                          clear H1
                          replace H := Option.bind_eq_some_iff.mp H
                          obtain ⟨t163, A380, H⟩ := H
                          replace H : (if t163 = t143 then (if t141 = 0 then (some true) else (if t142 = 0 then (some true) else ((impl_FieldMul.f kj26 t141 t142).bind fun t164 => (some (t164 != 0))))) else (some false)) = some r := H
                          have A38 := Aside0.mk A380
                          clear A380
                          by_cases c39 : t163 = t143
                          · rw [if_pos c39] at H
                            have c39b0 : (t163 == t143) = true := beq_iff_eq.mpr c39
                            have c39b1 : (t163 != t143) = false := bne_eq_false_iff_eq.mpr c39
                            clear c39
                            by_cases c40 : t141 = 0
                            · rw [if_pos c40] at H
                              have c40b0 : (t141 == 0) = true := beq_iff_eq.mpr c40
                              have c40b1 : (t141 != 0) = false := bne_eq_false_iff_eq.mpr c40
                              clear c40
                              obtain rfl := Option.some.inj H
                              go_wp2_with (first | ((with_reducible refine gate_callee (f := 20) rfl ?_); refine goesL_ (some 94) rfl rfl Try.func20 (by kernel_rfl) rfl #[.int .u8 t143, .int .u8 t144] rfl (by (try simp only [List.map_toArray, List.map_cons, List.map_nil]); first | done | rfl | (simp only [List.length_drop, List.length_take]; rfl)) ?_; (with_reducible refine (impl_FieldDiv.calls kj26 t143 t144 t161 true _ A35.out).mono ?_); rintro e w' ⟨rfl, ⟨nd, rfl⟩⟩; refine ⟨_, rfl, ?_⟩) | (go_at_call 17; (with_reducible refine (impl_FieldMul.calls kj26 t161 t144 t163 _ A38.out).mono ?_); rintro e w' ⟨rfl, ⟨nd, rfl⟩⟩))
                              go_ret
                              exact ⟨by first | rfl | (simp [errW_none, errW_some] <;> rfl) | (simp [*, errW_none, errW_some] <;> rfl), by repeat (first | (with_reducible first | exact HB.out | apply below_alloc | apply pw_below_drewN | apply below_drew1) | exact HB.out)⟩
                            · rw [if_neg c40] at H
                              have c40b0 : (t141 == 0) = false := beq_eq_false_iff_ne.mpr c40
                              have c40b1 : (t141 != 0) = true := bne_iff_ne.mpr c40
                              by_cases c41 : t142 = 0
                              · rw [if_pos c41] at H
                                have c41b0 : (t142 == 0) = true := beq_iff_eq.mpr c41
                                have c41b1 : (t142 != 0) = false := bne_eq_false_iff_eq.mpr c41
                                clear c41
                                obtain rfl := Option.some.inj H
                                go_wp2_with (first | ((with_reducible refine gate_callee (f := 20) rfl ?_); refine goesL_ (some 94) rfl rfl Try.func20 (by kernel_rfl) rfl #[.int .u8 t143, .int .u8 t144] rfl (by (try simp only [List.map_toArray, List.map_cons, List.map_nil]); first | done | rfl | (simp only [List.length_drop, List.length_take]; rfl)) ?_; (with_reducible refine (impl_FieldDiv.calls kj26 t143 t144 t161 true _ A35.out).mono ?_); rintro e w' ⟨rfl, ⟨nd, rfl⟩⟩; refine ⟨_, rfl, ?_⟩) | (go_at_call 17; (with_reducible refine (impl_FieldMul.calls kj26 t161 t144 t163 _ A38.out).mono ?_); rintro e w' ⟨rfl, ⟨nd, rfl⟩⟩))
                                go_ret
                                exact ⟨by first | rfl | (simp [errW_none, errW_some] <;> rfl) | (simp [*, errW_none, errW_some] <;> rfl), by repeat (first | (with_reducible first | exact HB.out | apply below_alloc | apply pw_below_drewN | apply below_drew1) | exact HB.out)⟩
                              · rw [if_neg c41] at H
                                have c41b0 : (t142 == 0) = false := beq_eq_false_iff_ne.mpr c41
                                have c41b1 : (t142 != 0) = true := bne_iff_ne.mpr c41
                                replace H := Option.bind_eq_some_iff.mp H
                                obtain ⟨t164, A420, H⟩ := H
                                replace H : (some (t164 != 0)) = some r := H
                                have A42 := Aside0.mk A420
                                clear A420
                                obtain rfl := Option.some.inj H
                                go_wp2_with (first | ((with_reducible refine gate_callee (f := 20) rfl ?_); refine goesL_ (some 94) rfl rfl Try.func20 (by kernel_rfl) rfl #[.int .u8 t143, .int .u8 t144] rfl (by (try simp only [List.map_toArray, List.map_cons, List.map_nil]); first | done | rfl | (simp only [List.length_drop, List.length_take]; rfl)) ?_; (with_reducible refine (impl_FieldDiv.calls kj26 t143 t144 t161 true _ A35.out).mono ?_); rintro e w' ⟨rfl, ⟨nd, rfl⟩⟩; refine ⟨_, rfl, ?_⟩) | (go_at_call 17; (with_reducible refine (impl_FieldMul.calls kj26 t161 t144 t163 _ A38.out).mono ?_); rintro e w' ⟨rfl, ⟨nd, rfl⟩⟩) | (go_at_call 17; (with_reducible refine (impl_FieldMul.calls kj26 t141 t142 t164 _ A42.out).mono ?_); rintro e w' ⟨rfl, ⟨nd, rfl⟩⟩))
                                go_ret
                                exact ⟨by first | rfl | (simp [errW_none, errW_some] <;> rfl) | (simp [*, errW_none, errW_some] <;> rfl), by repeat (first | (with_reducible first | exact HB.out | apply below_alloc | apply pw_below_drewN | apply below_drew1) | exact HB.out)⟩
                          · rw [if_neg c39] at H
                            have c39b0 : (t163 == t143) = false := beq_eq_false_iff_ne.mpr c39
                            have c39b1 : (t163 != t143) = true := bne_iff_ne.mpr c39
                            obtain rfl := Option.some.inj H
                            go_wp2_with (first | ((with_reducible refine gate_callee (f := 20) rfl ?_); refine goesL_ (some 94) rfl rfl Try.func20 (by kernel_rfl) rfl #[.int .u8 t143, .int .u8 t144] rfl (by (try simp only [List.map_toArray, List.map_cons, List.map_nil]); first | done | rfl | (simp only [List.length_drop, List.length_take]; rfl)) ?_; (with_reducible refine (impl_FieldDiv.calls kj26 t143 t144 t161 true _ A35.out).mono ?_); rintro e w' ⟨rfl, ⟨nd, rfl⟩⟩; refine ⟨_, rfl, ?_⟩) | (go_at_call 17; (with_reducible refine (impl_FieldMul.calls kj26 t161 t144 t163 _ A38.out).mono ?_); rintro e w' ⟨rfl, ⟨nd, rfl⟩⟩))
                            go_ret
                            exact ⟨by first | rfl | (simp [errW_none, errW_some] <;> rfl) | (simp [*, errW_none, errW_some] <;> rfl), by repeat (first | (with_reducible first | exact HB.out | apply below_alloc | apply pw_below_drewN | apply below_drew1) | exact HB.out)⟩
                        · replace c37 := Bool.eq_false_iff.mpr c37
                          subst c37
                          have H1 : (if t161 = 0 then (if t141 = 0 then (some true) else (if t142 = 0 then (some true) else ((impl_FieldMul.f kj26 t141 t142).bind fun t165 => (some (t165 != 0))))) else (some false)) = some r := by rw [if_neg (show ¬ (false = true) by decide)] at H; exact H
                          clear H
                          have H := H1
                          clear H1
                          by_cases c43 : t161 = 0
                          · rw [if_pos c43] at H
                            have c43b0 : (t161 == 0) = true := beq_iff_eq.mpr c43
                            have c43b1 : (t161 != 0) = false := bne_eq_false_iff_eq.mpr c43
                            clear c43
                            by_cases c44 : t141 = 0
                            · rw [if_pos c44] at H
                              have c44b0 : (t141 == 0) = true := beq_iff_eq.mpr c44
                              have c44b1 : (t141 != 0) = false := bne_eq_false_iff_eq.mpr c44
                              clear c44
                              obtain rfl := Option.some.inj H
                              go_wp2_with (first | ((with_reducible refine gate_callee (f := 20) rfl ?_); refine goesL_ (some 94) rfl rfl Try.func20 (by kernel_rfl) rfl #[.int .u8 t143, .int .u8 t144] rfl (by (try simp only [List.map_toArray, List.map_cons, List.map_nil]); first | done | rfl | (simp only [List.length_drop, List.length_take]; rfl)) ?_; (with_reducible refine (impl_FieldDiv.calls kj26 t143 t144 t161 false _ A35.out).mono ?_); rintro e w' ⟨rfl, ⟨nd, rfl⟩⟩; refine ⟨_, rfl, ?_⟩))
                              go_ret
                              exact ⟨by first | rfl | (simp [errW_none, errW_some] <;> rfl) | (simp [*, errW_none, errW_some] <;> rfl), by repeat (first | (with_reducible first | exact HB.out | apply below_alloc | apply pw_below_drewN | apply below_drew1) | exact HB.out)⟩
                            · rw [if_neg c44] at H
                              have c44b0 : (t141 == 0) = false := beq_eq_false_iff_ne.mpr c44
                              have c44b1 : (t141 != 0) = true := bne_iff_ne.mpr c44
                              by_cases c45 : t142 = 0
                              · rw [if_pos c45] at H
                                have c45b0 : (t142 == 0) = true := beq_iff_eq.mpr c45
                                have c45b1 : (t142 != 0) = false := bne_eq_false_iff_eq.mpr c45
                                clear c45
                                obtain rfl := Option.some.inj H
                                go_wp2_with (first | ((with_reducible refine gate_callee (f := 20) rfl ?_); refine goesL_ (some 94) rfl rfl Try.func20 (by kernel_rfl) rfl #[.int .u8 t143, .int .u8 t144] rfl (by (try simp only [List.map_toArray, List.map_cons, List.map_nil]); first | done | rfl | (simp only [List.length_drop, List.length_take]; rfl)) ?_; (with_reducible refine (impl_FieldDiv.calls kj26 t143 t144 t161 false _ A35.out).mono ?_); rintro e w' ⟨rfl, ⟨nd, rfl⟩⟩; refine ⟨_, rfl, ?_⟩))
                                go_ret
                                exact ⟨by first | rfl | (simp [errW_none, errW_some] <;> rfl) | (simp [*, errW_none, errW_some] <;> rfl), by repeat (first | (with_reducible first | exact HB.out | apply below_alloc | apply pw_below_drewN | apply below_drew1) | exact HB.out)⟩
                              · rw [if_neg c45] at H
                                have c45b0 : (t142 == 0) = false := beq_eq_false_iff_ne.mpr c45
                                have c45b1 : (t142 != 0) = true := bne_iff_ne.mpr c45
                                replace H := Option.bind_eq_some_iff.mp H
                                obtain ⟨t165, A460, H⟩ := H
                                replace H : (some (t165 != 0)) = some r := H
                                have A46 := Aside0.mk A460
                                clear A460
                                obtain rfl := Option.some.inj H
                                go_wp2_with (first | ((with_reducible refine gate_callee (f := 20) rfl ?_); refine goesL_ (some 94) rfl rfl Try.func20 (by kernel_rfl) rfl #[.int .u8 t143, .int .u8 t144] rfl (by (try simp only [List.map_toArray, List.map_cons, List.map_nil]); first | done | rfl | (simp only [List.length_drop, List.length_take]; rfl)) ?_; (with_reducible refine (impl_FieldDiv.calls kj26 t143 t144 t161 false _ A35.out).mono ?_); rintro e w' ⟨rfl, ⟨nd, rfl⟩⟩; refine ⟨_, rfl, ?_⟩) | (go_at_call 17; (with_reducible refine (impl_FieldMul.calls kj26 t141 t142 t165 _ A46.out).mono ?_); rintro e w' ⟨rfl, ⟨nd, rfl⟩⟩))
                                go_ret
                                exact ⟨by first | rfl | (simp [errW_none, errW_some] <;> rfl) | (simp [*, errW_none, errW_some] <;> rfl), by repeat (first | (with_reducible first | exact HB.out | apply below_alloc | apply pw_below_drewN | apply below_drew1) | exact HB.out)⟩
                          · rw [if_neg c43] at H
                            have c43b0 : (t161 == 0) = false := beq_eq_false_iff_ne.mpr c43
                            have c43b1 : (t161 != 0) = true := bne_iff_ne.mpr c43
                            obtain rfl := Option.some.inj H
                            go_wp2_with (first | ((with_reducible refine gate_callee (f := 20) rfl ?_); refine goesL_ (some 94) rfl rfl Try.func20 (by kernel_rfl) rfl #[.int .u8 t143, .int .u8 t144] rfl (by (try simp only [List.map_toArray, List.map_cons, List.map_nil]); first | done | rfl | (simp only [List.length_drop, List.length_take]; rfl)) ?_; (with_reducible refine (impl_FieldDiv.calls kj26 t143 t144 t161 false _ A35.out).mono ?_); rintro e w' ⟨rfl, ⟨nd, rfl⟩⟩; refine ⟨_, rfl, ?_⟩))
                            go_ret
                            exact ⟨by first | rfl | (simp [errW_none, errW_some] <;> rfl) | (simp [*, errW_none, errW_some] <;> rfl), by repeat (first | (with_reducible first | exact HB.out | apply below_alloc | apply pw_below_drewN | apply below_drew1) | exact HB.out)⟩

/-- THE ONE PURE STATEMENT of laws_FnField: yours. -/
def laws_FnField.Pure : Prop := ∀ (l0 : List Int) (l1 : List Int), l0.length ≤ maxLen → l0.length * 1 ≤ 140737488351232 → (∀ x ∈ l0, (Lit.int .u8 x).wf = true) → l1.length ≤ maxLen → l1.length * 1 ≤ 140737488351232 → (∀ x ∈ l1, (Lit.int .u8 x).wf = true) → ∃ k, laws_FnField.f k l0 l1 = some true
theorem laws_FnField.walk (P : laws_FnField.Pure) (a0 : Option Addr) (len0 cap0 : Nat) (z0 : List Int) (a1 : Option Addr) (len1 cap1 : Nat) (z1 : List Int) (w : World) (w0 : (a0 = none ∧ len0 = 0 ∧ cap0 = 0 ∧ z0 = []) ∨ ∃ x, a0 = some x ∧ len0 ≤ cap0 ∧ cap0 ≤ maxLen ∧ z0.length = cap0 ∧ (∀ i, i < z0.length → w.cell? (x.add i) = some (.int .u8 (z0.getD i 0))) ∧ ∀ n ∈ z0, (Lit.int .u8 n).wf = true) (y0 : len0 * 1 ≤ 140737488351232) (w1 : (a1 = none ∧ len1 = 0 ∧ cap1 = 0 ∧ z1 = []) ∨ ∃ x, a1 = some x ∧ len1 ≤ cap1 ∧ cap1 ≤ maxLen ∧ z1.length = cap1 ∧ (∀ i, i < z1.length → w.cell? (x.add i) = some (.int .u8 (z1.getD i 0))) ∧ ∀ n ∈ z1, (Lit.int .u8 n).wf = true) (y1 : len1 * 1 ≤ 140737488351232) :
    Calls Try.prog 3 #[.slice a0 len0 cap0, .slice a1 len1 cap1] w fun e w' => e = .returned (.bool true) ∧ Below w.heap.size w w' := by
  obtain ⟨l0, rfl, hr0, hm0, hw0, hc0⟩ := ReadsInt.ofRowC w0
  obtain ⟨l1, rfl, hr1, hm1, hw1, hc1⟩ := ReadsInt.ofRowC w1
  obtain ⟨k, h⟩ := P l0 l1 hm0 y0 hw0 hm1 y1 hw1
  refine (laws_FnField.calls k _ _ l0 _ _ l1 true w (Kd.C_of_reads (d := (0 : Int)) (h1 := fun _ => rfl) hr0) hc0 (Kd.C_of_reads (d := (0 : Int)) (h1 := fun _ => rfl) hr1) hc1 h).mono ?_
  rintro e w' ⟨rfl, hd⟩
  exact ⟨rfl, hd⟩

end Go.Proofs.Ytjibcpfgnnmfjaa.PFnField
