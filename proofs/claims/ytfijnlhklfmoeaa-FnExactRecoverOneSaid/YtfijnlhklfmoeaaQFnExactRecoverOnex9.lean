/- The walks of FnExactRecoverOne: Go's calls come to what the Lean functions beside them say; no condition. -/
import Derived.Test.YtfijnlhklfmoeaaQFnExactRecoverOnex0
import Derived.Test.YtfijnlhklfmoeaaQFnExactRecoverOnex1
import Derived.Test.YtfijnlhklfmoeaaQFnExactRecoverOnex2
import Derived.Test.YtfijnlhklfmoeaaQFnExactRecoverOnex4
import Derived.Test.YtfijnlhklfmoeaaQFnExactRecoverOnex8
namespace Go.Proofs.Ytfijnlhklfmoeaa.PFnExactRecoverOne
open Go.RowKit Go.Proofs.YtfijnlhklfmoeaaW.PrintWords Go.Proofs.YtfijnlhklfmoeaaW.PrintLast Go.Proofs.YtfijnlhklfmoeaaW.PrintMore
attribute [local go_sem] max2_int min2_int max_two min_two max_three min_three max_four min_four   -- for this text's walks alone
set_option linter.unusedVariables false
set_option linter.unusedSimpArgs false
set_option maxRecDepth 100000

/-! ### laws_FnExactRecoverOne: function 8 -/
mutual
def laws_FnExactRecoverOne.j0 : Nat → Int → Bool → Bool → Bool → List ByteArray → ByteArray → ByteArray → List ByteArray → ByteArray → ByteArray → List ByteArray → ByteArray → ByteArray → List ByteArray → ByteArray → ByteArray → Option (Bool)
  | 0, _, _, _, _, _, _, _, _, _, _, _, _, _, _, _, _ => none
  | k + 1, x1, x7, x10, x44, x247000, x247001, x247002, x260000, x260001, x260002, x266000, x266001, x266002, x273000, x273001, x273002 => if x44 = true then (some false) else ((laws_toStripe.f k x247000 x247001 x247002).bind fun bt274 => ((laws_eqStripe.f k x266000 x266001 x266002 bt274.1 bt274.2.1 bt274.2.2).bind fun t279 => (if t279 = true then ((laws_markStripe.f k x266000 x266001 x266002 1).bind fun bt280 => (if bt280.1 < 0 then (laws_FnExactRecoverOne.j1 k x1 x7 true x247000 x247001 x247002 x260000 x260001 x260002 x273000 x273001 x273002) else ((laws_eqStripe.f k x273000 x273001 x273002 x260000 x260001 x260002).bind fun t282 => (if t282 = true then (laws_FnExactRecoverOne.j1 k x1 x7 (x10 != x7) x247000 x247001 x247002 x260000 x260001 x260002 x273000 x273001 x273002) else (laws_FnExactRecoverOne.j1 k x1 x7 true x247000 x247001 x247002 x260000 x260001 x260002 x273000 x273001 x273002))))) else (some false))))
def laws_FnExactRecoverOne.j1 : Nat → Int → Bool → Bool → List ByteArray → ByteArray → ByteArray → List ByteArray → ByteArray → ByteArray → List ByteArray → ByteArray → ByteArray → Option (Bool)
  | 0, _, _, _, _, _, _, _, _, _, _, _, _ => none
  | k + 1, x1, x7, x65, x247000, x247001, x247002, x260000, x260001, x260002, x273000, x273001, x273002 => if x65 = true then (some false) else ((laws_markStripe.f k x273000 x273001 x273002 1).bind fun bt283 => ((laws_heldStripe.f k bt283.2 x273001 x273002 1).bind fun t285 => (if t285 < 0 then (some false) else (if t285 = bt283.1 then ((laws_toStripe.f k x247000 x247001 x247002).bind fun bt286 => ((impl_RecoverOne.f k bt286.1 bt286.2.1 bt286.2.2 x1).bind fun bt291 => ((laws_eqStripe.f k bt291.1 bt291.2.1 bt291.2.2.1 x260000 x260001 x260002).bind fun t298 => (if t298 = true then (laws_FnExactRecoverOne.j2 k bt283.1 (bt291.2.2.2 != x7) bt283.2 x273001 x273002) else (laws_FnExactRecoverOne.j2 k bt283.1 true bt283.2 x273001 x273002))))) else (some false)))))
def laws_FnExactRecoverOne.j2 : Nat → Int → Bool → List ByteArray → ByteArray → ByteArray → Option (Bool)
  | 0, _, _, _, _, _ => none
  | k + 1, x12, x92, x273000, x273001, x273002 => if x92 = true then (some false) else ((laws_heldStripe.f k x273000 x273001 x273002 1).bind fun t299 => (if t299 < 0 then (some false) else (if t299 = x12 then (some true) else (some false))))
end
def laws_FnExactRecoverOne.f (k : Nat) (l0_0 : List ByteArray) (a0_1 : ByteArray) (a0_2 : ByteArray) (a1 : Int) : Option (Bool) := (laws_szStripe.f k l0_0 a0_1 a0_2 1048576).bind fun t247 => (if t247 < 0 then (some true) else ((laws_toStripe.f k l0_0 a0_1 a0_2).bind fun bt248 => ((spec_RecoverOne.f k bt248.1 bt248.2.1 bt248.2.2 a1).bind fun bt253 => ((laws_toStripe.f k l0_0 a0_1 a0_2).bind fun bt260 => ((impl_RecoverOne.f k bt260.1 bt260.2.1 bt260.2.2 a1).bind fun bt266 => ((laws_eqStripe.f k bt266.1 bt266.2.1 bt266.2.2.1 bt253.1 bt253.2.1 bt253.2.2.1).bind fun t273 => (if t273 = true then (laws_FnExactRecoverOne.j0 k a1 bt253.2.2.2 bt266.2.2.2 (bt266.2.2.2 != bt253.2.2.2) l0_0 a0_1 a0_2 bt253.1 bt253.2.1 bt253.2.2.1 bt260.1 bt260.2.1 bt260.2.2 bt266.1 bt266.2.1 bt266.2.2.1) else (laws_FnExactRecoverOne.j0 k a1 bt253.2.2.2 bt266.2.2.2 true l0_0 a0_1 a0_2 bt253.1 bt253.2.1 bt253.2.2.1 bt260.1 bt260.2.1 bt260.2.2 bt266.1 bt266.2.1 bt266.2.2.1))))))))
theorem laws_FnExactRecoverOne.mono_l : ∀ k, (∀ y0 y1 y2 y3 y4 y5 y6 y7 y8 y9 y10 y11 y12 y13 y14 y15, LeO (laws_FnExactRecoverOne.j0 k y0 y1 y2 y3 y4 y5 y6 y7 y8 y9 y10 y11 y12 y13 y14 y15) (laws_FnExactRecoverOne.j0 (k + 1) y0 y1 y2 y3 y4 y5 y6 y7 y8 y9 y10 y11 y12 y13 y14 y15)) ∧ (∀ y0 y1 y2 y3 y4 y5 y6 y7 y8 y9 y10 y11, LeO (laws_FnExactRecoverOne.j1 k y0 y1 y2 y3 y4 y5 y6 y7 y8 y9 y10 y11) (laws_FnExactRecoverOne.j1 (k + 1) y0 y1 y2 y3 y4 y5 y6 y7 y8 y9 y10 y11)) ∧ (∀ y0 y1 y2 y3 y4, LeO (laws_FnExactRecoverOne.j2 k y0 y1 y2 y3 y4) (laws_FnExactRecoverOne.j2 (k + 1) y0 y1 y2 y3 y4))
  | 0 => ⟨fun _ _ _ _ _ _ _ _ _ _ _ _ _ _ _ _ r h => by simp [laws_FnExactRecoverOne.j0] at h, fun _ _ _ _ _ _ _ _ _ _ _ _ r h => by simp [laws_FnExactRecoverOne.j1] at h, fun _ _ _ _ _ r h => by simp [laws_FnExactRecoverOne.j2] at h⟩
  | k + 1 => by
    obtain ⟨ih0, ih1, ih2⟩ := laws_FnExactRecoverOne.mono_l k
    refine ⟨?_, ?_, ?_⟩
    · intro y0 y1 y2 y3 y4 y5 y6 y7 y8 y9 y10 y11 y12 y13 y14 y15
      unfold laws_FnExactRecoverOne.j0
      repeat' first
      | (with_reducible exact ih0 _ _ _ _ _ _ _ _ _ _ _ _ _ _ _ _)
      | (with_reducible exact ih1 _ _ _ _ _ _ _ _ _ _ _ _)
      | (with_reducible exact ih2 _ _ _ _ _)
      | (with_reducible exact impl_RecoverOne.mono _ _ _ _ _)
      | (with_reducible exact laws_eqStripe.mono _ _ _ _ _ _ _)
      | (with_reducible exact laws_heldStripe.mono _ _ _ _ _)
      | (with_reducible exact laws_markStripe.mono _ _ _ _ _)
      | (with_reducible exact laws_szStripe.mono _ _ _ _ _)
      | (with_reducible exact laws_toStripe.mono _ _ _ _)
      | (with_reducible exact spec_RecoverOne.mono _ _ _ _ _)
      | (with_reducible exact LeO.refl _)
      | (with_reducible exact LeO.none _)
      | (with_reducible refine LeO.ite ?_ ?_)
      | (with_reducible refine LeO.bind ?_ (fun _ => ?_))
      | exact ih0 _ _ _ _ _ _ _ _ _ _ _ _ _ _ _ _
      | exact ih1 _ _ _ _ _ _ _ _ _ _ _ _
      | exact ih2 _ _ _ _ _
      | exact impl_RecoverOne.mono _ _ _ _ _
      | exact laws_eqStripe.mono _ _ _ _ _ _ _
      | exact laws_heldStripe.mono _ _ _ _ _
      | exact laws_markStripe.mono _ _ _ _ _
      | exact laws_szStripe.mono _ _ _ _ _
      | exact laws_toStripe.mono _ _ _ _
      | exact spec_RecoverOne.mono _ _ _ _ _
      | exact LeO.none _
      | refine LeO.ite ?_ ?_
      | refine LeO.bind ?_ (fun _ => ?_)
    · intro y0 y1 y2 y3 y4 y5 y6 y7 y8 y9 y10 y11
      unfold laws_FnExactRecoverOne.j1
      repeat' first
      | (with_reducible exact ih0 _ _ _ _ _ _ _ _ _ _ _ _ _ _ _ _)
      | (with_reducible exact ih1 _ _ _ _ _ _ _ _ _ _ _ _)
      | (with_reducible exact ih2 _ _ _ _ _)
      | (with_reducible exact impl_RecoverOne.mono _ _ _ _ _)
      | (with_reducible exact laws_eqStripe.mono _ _ _ _ _ _ _)
      | (with_reducible exact laws_heldStripe.mono _ _ _ _ _)
      | (with_reducible exact laws_markStripe.mono _ _ _ _ _)
      | (with_reducible exact laws_szStripe.mono _ _ _ _ _)
      | (with_reducible exact laws_toStripe.mono _ _ _ _)
      | (with_reducible exact spec_RecoverOne.mono _ _ _ _ _)
      | (with_reducible exact LeO.refl _)
      | (with_reducible exact LeO.none _)
      | (with_reducible refine LeO.ite ?_ ?_)
      | (with_reducible refine LeO.bind ?_ (fun _ => ?_))
      | exact ih0 _ _ _ _ _ _ _ _ _ _ _ _ _ _ _ _
      | exact ih1 _ _ _ _ _ _ _ _ _ _ _ _
      | exact ih2 _ _ _ _ _
      | exact impl_RecoverOne.mono _ _ _ _ _
      | exact laws_eqStripe.mono _ _ _ _ _ _ _
      | exact laws_heldStripe.mono _ _ _ _ _
      | exact laws_markStripe.mono _ _ _ _ _
      | exact laws_szStripe.mono _ _ _ _ _
      | exact laws_toStripe.mono _ _ _ _
      | exact spec_RecoverOne.mono _ _ _ _ _
      | exact LeO.none _
      | refine LeO.ite ?_ ?_
      | refine LeO.bind ?_ (fun _ => ?_)
    · intro y0 y1 y2 y3 y4
      unfold laws_FnExactRecoverOne.j2
      repeat' first
      | (with_reducible exact ih0 _ _ _ _ _ _ _ _ _ _ _ _ _ _ _ _)
      | (with_reducible exact ih1 _ _ _ _ _ _ _ _ _ _ _ _)
      | (with_reducible exact ih2 _ _ _ _ _)
      | (with_reducible exact impl_RecoverOne.mono _ _ _ _ _)
      | (with_reducible exact laws_eqStripe.mono _ _ _ _ _ _ _)
      | (with_reducible exact laws_heldStripe.mono _ _ _ _ _)
      | (with_reducible exact laws_markStripe.mono _ _ _ _ _)
      | (with_reducible exact laws_szStripe.mono _ _ _ _ _)
      | (with_reducible exact laws_toStripe.mono _ _ _ _)
      | (with_reducible exact spec_RecoverOne.mono _ _ _ _ _)
      | (with_reducible exact LeO.refl _)
      | (with_reducible exact LeO.none _)
      | (with_reducible refine LeO.ite ?_ ?_)
      | (with_reducible refine LeO.bind ?_ (fun _ => ?_))
      | exact ih0 _ _ _ _ _ _ _ _ _ _ _ _ _ _ _ _
      | exact ih1 _ _ _ _ _ _ _ _ _ _ _ _
      | exact ih2 _ _ _ _ _
      | exact impl_RecoverOne.mono _ _ _ _ _
      | exact laws_eqStripe.mono _ _ _ _ _ _ _
      | exact laws_heldStripe.mono _ _ _ _ _
      | exact laws_markStripe.mono _ _ _ _ _
      | exact laws_szStripe.mono _ _ _ _ _
      | exact laws_toStripe.mono _ _ _ _
      | exact spec_RecoverOne.mono _ _ _ _ _
      | exact LeO.none _
      | refine LeO.ite ?_ ?_
      | refine LeO.bind ?_ (fun _ => ?_)
theorem laws_FnExactRecoverOne.mono : ∀ a0 a1 a2 a3 k, LeO (laws_FnExactRecoverOne.f k a0 a1 a2 a3) (laws_FnExactRecoverOne.f (k + 1) a0 a1 a2 a3) := by
  intro a0 a1 a2 a3 k
  obtain ⟨ih0, ih1, ih2⟩ := laws_FnExactRecoverOne.mono_l k
  unfold laws_FnExactRecoverOne.f
  repeat' first
      | (with_reducible exact ih0 _ _ _ _ _ _ _ _ _ _ _ _ _ _ _ _)
      | (with_reducible exact ih1 _ _ _ _ _ _ _ _ _ _ _ _)
      | (with_reducible exact ih2 _ _ _ _ _)
      | (with_reducible exact impl_RecoverOne.mono _ _ _ _ _)
      | (with_reducible exact laws_eqStripe.mono _ _ _ _ _ _ _)
      | (with_reducible exact laws_heldStripe.mono _ _ _ _ _)
      | (with_reducible exact laws_markStripe.mono _ _ _ _ _)
      | (with_reducible exact laws_szStripe.mono _ _ _ _ _)
      | (with_reducible exact laws_toStripe.mono _ _ _ _)
      | (with_reducible exact spec_RecoverOne.mono _ _ _ _ _)
      | (with_reducible exact LeO.refl _)
      | (with_reducible exact LeO.none _)
      | (with_reducible refine LeO.ite ?_ ?_)
      | (with_reducible refine LeO.bind ?_ (fun _ => ?_))
      | exact ih0 _ _ _ _ _ _ _ _ _ _ _ _ _ _ _ _
      | exact ih1 _ _ _ _ _ _ _ _ _ _ _ _
      | exact ih2 _ _ _ _ _
      | exact impl_RecoverOne.mono _ _ _ _ _
      | exact laws_eqStripe.mono _ _ _ _ _ _ _
      | exact laws_heldStripe.mono _ _ _ _ _
      | exact laws_markStripe.mono _ _ _ _ _
      | exact laws_szStripe.mono _ _ _ _ _
      | exact laws_toStripe.mono _ _ _ _
      | exact spec_RecoverOne.mono _ _ _ _ _
      | exact LeO.none _
      | refine LeO.ite ?_ ?_
      | refine LeO.bind ?_ (fun _ => ?_)
set_option maxHeartbeats 8000000 in
set_option maxRecDepth 100000 in
theorem laws_FnExactRecoverOne.calls (k : Nat) (A0_0 : Option Addr) (c0_0 : Nat) (l0_0 : List ByteArray) (a0_1 : ByteArray) (a0_2 : ByteArray) (a1 : Int) (r : Bool) (w : World) (hr0_0 : Kd.C Kd.string w A0_0 l0_0.length l0_0) (hc0_0 : l0_0.length ≤ c0_0) (h : laws_FnExactRecoverOne.f k l0_0 a0_1 a0_2 a1 = some r) :
    Calls Try.prog 8 #[.agg #[.slice A0_0 l0_0.length c0_0, .string a0_1, .string a0_2], .int .i64 a1] w fun e w' => e = .returned (.bool r) ∧ Below w.heap.size w w' := by
  have hu24 := Try.underlying24
  have hu27 := Try.underlying27
  have HR0_0 := Aside0.mk hr0_0
  have HC0_0 := Aside0.mk hc0_0
  clear hr0_0 hc0_0
  have HB := Aside0.mk (Below.refl w.heap.size w)
  have H : ((laws_szStripe.f k l0_0 a0_1 a0_2 1048576).bind fun t247 => (if t247 < 0 then (some true) else ((laws_toStripe.f k l0_0 a0_1 a0_2).bind fun bt248 => ((spec_RecoverOne.f k bt248.1 bt248.2.1 bt248.2.2 a1).bind fun bt253 => ((laws_toStripe.f k l0_0 a0_1 a0_2).bind fun bt260 => ((impl_RecoverOne.f k bt260.1 bt260.2.1 bt260.2.2 a1).bind fun bt266 => ((laws_eqStripe.f k bt266.1 bt266.2.1 bt266.2.2.1 bt253.1 bt253.2.1 bt253.2.2.1).bind fun t273 => (if t273 = true then (laws_FnExactRecoverOne.j0 k a1 bt253.2.2.2 bt266.2.2.2 (bt266.2.2.2 != bt253.2.2.2) l0_0 a0_1 a0_2 bt253.1 bt253.2.1 bt253.2.2.1 bt260.1 bt260.2.1 bt260.2.2 bt266.1 bt266.2.1 bt266.2.2.1) else (laws_FnExactRecoverOne.j0 k a1 bt253.2.2.2 bt266.2.2.2 true l0_0 a0_1 a0_2 bt253.1 bt253.2.1 bt253.2.2.1 bt260.1 bt260.2.1 bt260.2.2 bt266.1 bt266.2.1 bt266.2.2.1))))))))) = some r := h
  clear h
  replace H := Option.bind_eq_some_iff.mp H
  obtain ⟨t247, A30, H⟩ := H
  replace H : (if t247 < 0 then (some true) else ((laws_toStripe.f k l0_0 a0_1 a0_2).bind fun bt248 => ((spec_RecoverOne.f k bt248.1 bt248.2.1 bt248.2.2 a1).bind fun bt253 => ((laws_toStripe.f k l0_0 a0_1 a0_2).bind fun bt260 => ((impl_RecoverOne.f k bt260.1 bt260.2.1 bt260.2.2 a1).bind fun bt266 => ((laws_eqStripe.f k bt266.1 bt266.2.1 bt266.2.2.1 bt253.1 bt253.2.1 bt253.2.2.1).bind fun t273 => (if t273 = true then (laws_FnExactRecoverOne.j0 k a1 bt253.2.2.2 bt266.2.2.2 (bt266.2.2.2 != bt253.2.2.2) l0_0 a0_1 a0_2 bt253.1 bt253.2.1 bt253.2.2.1 bt260.1 bt260.2.1 bt260.2.2 bt266.1 bt266.2.1 bt266.2.2.1) else (laws_FnExactRecoverOne.j0 k a1 bt253.2.2.2 bt266.2.2.2 true l0_0 a0_1 a0_2 bt253.1 bt253.2.1 bt253.2.2.1 bt260.1 bt260.2.1 bt260.2.2 bt266.1 bt266.2.1 bt266.2.2.1)))))))) = some r := H
  have A3 := Aside0.mk A30
  clear A30
  by_cases c4 : t247 < 0
  · rw [if_pos c4] at H
    have c4b0 : decide (t247 < 0) = true := decide_eq_true c4
    clear c4
    obtain rfl := Option.some.inj H
    go_enter Try.func8, Try.ntmps8
    go_wp2_with (first | ((with_reducible refine gate_dst (N := 2) rfl ?_); refine box_event ?hg (N := 2) ?hd (cs := #[.slice A0_0 l0_0.length c0_0, .string a0_1, .string a0_2]) (t := 24) ?hr ?_; (case hd => rfl); (case hg => rfl); (case hr => first | (go_simp; done) | (go_simp; rfl)); intro gb246 hg w5 hbox hb; have n0_ := Aside0.mk (below_step (by repeat (first | (with_reducible first | exact HB.out | apply below_alloc | apply pw_below_drewN | apply below_drew1) | exact HB.out)) hb); have n1_ := Aside0.mk (hbox); have n2_ := Aside0.mk ((by rw [hg]; exact (below_size (by repeat (first | (with_reducible first | exact HB.out | apply below_alloc | apply pw_below_drewN | apply below_drew1) | exact HB.out))) : w.heap.size ≤ gb246)); have n3_ := Aside0.mk ((by rw [hg]; exact (below_size (by repeat (first | (with_reducible first | exact HB.out | apply below_alloc | apply pw_below_drewN | apply below_drew1) | exact HB.out))) : w.heap.size ≤ gb246)); clear HB; have HB := n0_; have BK246 := n1_; have GW246 := n2_; have GE246 := n3_; clear n0_ n1_ n2_ n3_; clear hb hbox hg; have hcz6_0 : w5.cell? ⟨gb246, 0, none⟩ = some (.slice A0_0 l0_0.length c0_0) := (blk_cell BK246.out 0).trans rfl; have hcz6_1 : w5.cell? ⟨gb246, 1, none⟩ = some (.string a0_1) := (blk_cell BK246.out 1).trans rfl; have hcz6_2 : w5.cell? ⟨gb246, 2, none⟩ = some (.string a0_2) := (blk_cell BK246.out 2).trans rfl; have hfz6_0 := blk_frozen BK246.out 0; have hfz6_1 := blk_frozen BK246.out 1; have hfz6_2 := blk_frozen BK246.out 2) | ((with_reducible refine gate_callee (f := 12) rfl ?_); refine goesL_ (some 18) rfl rfl Try.func12 (by kernel_rfl) rfl #[.agg #[.slice A0_0 l0_0.length c0_0, .string a0_1, .string a0_2], .int .i64 1048576] rfl (by (try simp only [List.map_toArray, List.map_cons, List.map_nil]); first | done | rfl | (simp only [List.length_drop, List.length_take]; rfl)) ?_; (with_reducible refine (laws_szStripe.calls k _ _ l0_0 a0_1 a0_2 1048576 t247 _ ?side1 ?side2 A3.out).mono ?_); (case side1 => repeat (first | exact (Kd.C_below HR0_0.out HB.out) | (with_reducible refine Kd.C_alloc ?_ _) | (with_reducible refine Kd.C_drewN ?_ _) | (with_reducible refine Kd.C_drew ?_))); (case side2 => exact HC0_0.out); rintro e w7 ⟨rfl, hb⟩; refine ⟨_, rfl, ?_⟩; have n0_ := Aside0.mk (blk_below (g := gb246) (o := .cells #[.slice A0_0 l0_0.length c0_0, .string a0_1, .string a0_2] 24 (0, 0)) (by (with_reducible repeat (first | refine blk_drewN ?_ _ | refine blk_drew ?_ | refine blk_alloc ?_ _)); exact BK246.out) hb); have n1_ := Aside0.mk (below_step (by repeat (first | (with_reducible first | exact HB.out | apply below_alloc | apply pw_below_drewN | apply below_drew1 | refine below_set ?_ GE246.out) | exact HB.out)) hb); clear BK246; clear HB; have BK246 := n0_; have HB := n1_; clear n0_ n1_; (try clear hb); (try clear hb2); (try clear hk); (try clear hi)))
    go_ret
    exact ⟨by first | rfl | (simp [errW_none, errW_some] <;> rfl) | (simp [*, errW_none, errW_some] <;> rfl), by repeat (first | (with_reducible first | exact HB.out | apply below_alloc | apply pw_below_drewN | apply below_drew1 | refine below_set ?_ GE246.out) | exact HB.out)⟩
  · rw [if_neg c4] at H
    have c4b0 : decide (t247 < 0) = false := decide_eq_false c4
    clear c4
    replace H := Option.bind_eq_some_iff.mp H
    obtain ⟨⟨t248, t251, t252⟩, A80, H⟩ := H
    replace H : ((spec_RecoverOne.f k t248 t251 t252 a1).bind fun bt253 => ((laws_toStripe.f k l0_0 a0_1 a0_2).bind fun bt260 => ((impl_RecoverOne.f k bt260.1 bt260.2.1 bt260.2.2 a1).bind fun bt266 => ((laws_eqStripe.f k bt266.1 bt266.2.1 bt266.2.2.1 bt253.1 bt253.2.1 bt253.2.2.1).bind fun t273 => (if t273 = true then (laws_FnExactRecoverOne.j0 k a1 bt253.2.2.2 bt266.2.2.2 (bt266.2.2.2 != bt253.2.2.2) l0_0 a0_1 a0_2 bt253.1 bt253.2.1 bt253.2.2.1 bt260.1 bt260.2.1 bt260.2.2 bt266.1 bt266.2.1 bt266.2.2.1) else (laws_FnExactRecoverOne.j0 k a1 bt253.2.2.2 bt266.2.2.2 true l0_0 a0_1 a0_2 bt253.1 bt253.2.1 bt253.2.2.1 bt260.1 bt260.2.1 bt260.2.2 bt266.1 bt266.2.1 bt266.2.2.1)))))) = some r := H
    have A8 := Aside0.mk A80
    clear A80
    replace H := Option.bind_eq_some_iff.mp H
    obtain ⟨⟨t253, t256, t257, t258⟩, A90, H⟩ := H
    replace H : ((laws_toStripe.f k l0_0 a0_1 a0_2).bind fun bt260 => ((impl_RecoverOne.f k bt260.1 bt260.2.1 bt260.2.2 a1).bind fun bt266 => ((laws_eqStripe.f k bt266.1 bt266.2.1 bt266.2.2.1 t253 t256 t257).bind fun t273 => (if t273 = true then (laws_FnExactRecoverOne.j0 k a1 t258 bt266.2.2.2 (bt266.2.2.2 != t258) l0_0 a0_1 a0_2 t253 t256 t257 bt260.1 bt260.2.1 bt260.2.2 bt266.1 bt266.2.1 bt266.2.2.1) else (laws_FnExactRecoverOne.j0 k a1 t258 bt266.2.2.2 true l0_0 a0_1 a0_2 t253 t256 t257 bt260.1 bt260.2.1 bt260.2.2 bt266.1 bt266.2.1 bt266.2.2.1))))) = some r := H
    have A9 := Aside0.mk A90
    clear A90
    replace H := Option.bind_eq_some_iff.mp H
    obtain ⟨⟨t260, t263, t264⟩, A100, H⟩ := H
    replace H : ((impl_RecoverOne.f k t260 t263 t264 a1).bind fun bt266 => ((laws_eqStripe.f k bt266.1 bt266.2.1 bt266.2.2.1 t253 t256 t257).bind fun t273 => (if t273 = true then (laws_FnExactRecoverOne.j0 k a1 t258 bt266.2.2.2 (bt266.2.2.2 != t258) l0_0 a0_1 a0_2 t253 t256 t257 t260 t263 t264 bt266.1 bt266.2.1 bt266.2.2.1) else (laws_FnExactRecoverOne.j0 k a1 t258 bt266.2.2.2 true l0_0 a0_1 a0_2 t253 t256 t257 t260 t263 t264 bt266.1 bt266.2.1 bt266.2.2.1)))) = some r := H
    have A10 := Aside0.mk A100
    clear A100
    replace H := Option.bind_eq_some_iff.mp H
    obtain ⟨⟨t266, t269, t270, t271⟩, A110, H⟩ := H
    replace H : ((laws_eqStripe.f k t266 t269 t270 t253 t256 t257).bind fun t273 => (if t273 = true then (laws_FnExactRecoverOne.j0 k a1 t258 t271 (t271 != t258) l0_0 a0_1 a0_2 t253 t256 t257 t260 t263 t264 t266 t269 t270) else (laws_FnExactRecoverOne.j0 k a1 t258 t271 true l0_0 a0_1 a0_2 t253 t256 t257 t260 t263 t264 t266 t269 t270))) = some r := H
    have A11 := Aside0.mk A110
    clear A110
    have HC12 := Aside0.mk H
    clear H
    go_enter Try.func8, Try.ntmps8
    go_upto_region 8 with (first | ((with_reducible refine gate_dst (N := 2) rfl ?_); refine box_event ?hg (N := 2) ?hd (cs := #[.slice A0_0 l0_0.length c0_0, .string a0_1, .string a0_2]) (t := 24) ?hr ?_; (case hd => rfl); (case hg => rfl); (case hr => first | (go_simp; done) | (go_simp; rfl)); intro gb246 hg w13 hbox hb; have n0_ := Aside0.mk (below_step (by repeat (first | (with_reducible first | exact HB.out | apply below_alloc | apply pw_below_drewN | apply below_drew1) | exact HB.out)) hb); have n1_ := Aside0.mk (hbox); have n2_ := Aside0.mk ((by rw [hg]; exact (below_size (by repeat (first | (with_reducible first | exact HB.out | apply below_alloc | apply pw_below_drewN | apply below_drew1) | exact HB.out))) : w.heap.size ≤ gb246)); have n3_ := Aside0.mk ((by rw [hg]; exact (below_size (by repeat (first | (with_reducible first | exact HB.out | apply below_alloc | apply pw_below_drewN | apply below_drew1) | exact HB.out))) : w.heap.size ≤ gb246)); clear HB; have HB := n0_; have BK246 := n1_; have GW246 := n2_; have GE246 := n3_; clear n0_ n1_ n2_ n3_; clear hb hbox hg; have hcz14_0 : w13.cell? ⟨gb246, 0, none⟩ = some (.slice A0_0 l0_0.length c0_0) := (blk_cell BK246.out 0).trans rfl; have hcz14_1 : w13.cell? ⟨gb246, 1, none⟩ = some (.string a0_1) := (blk_cell BK246.out 1).trans rfl; have hcz14_2 : w13.cell? ⟨gb246, 2, none⟩ = some (.string a0_2) := (blk_cell BK246.out 2).trans rfl; have hfz14_0 := blk_frozen BK246.out 0; have hfz14_1 := blk_frozen BK246.out 1; have hfz14_2 := blk_frozen BK246.out 2) | ((with_reducible refine gate_callee (f := 12) rfl ?_); refine goesL_ (some 18) rfl rfl Try.func12 (by kernel_rfl) rfl #[.agg #[.slice A0_0 l0_0.length c0_0, .string a0_1, .string a0_2], .int .i64 1048576] rfl (by (try simp only [List.map_toArray, List.map_cons, List.map_nil]); first | done | rfl | (simp only [List.length_drop, List.length_take]; rfl)) ?_; (with_reducible refine (laws_szStripe.calls k _ _ l0_0 a0_1 a0_2 1048576 t247 _ ?side1 ?side2 A3.out).mono ?_); (case side1 => repeat (first | exact (Kd.C_below HR0_0.out HB.out) | (with_reducible refine Kd.C_alloc ?_ _) | (with_reducible refine Kd.C_drewN ?_ _) | (with_reducible refine Kd.C_drew ?_))); (case side2 => exact HC0_0.out); rintro e w15 ⟨rfl, hb⟩; refine ⟨_, rfl, ?_⟩; have n0_ := Aside0.mk (blk_below (g := gb246) (o := .cells #[.slice A0_0 l0_0.length c0_0, .string a0_1, .string a0_2] 24 (0, 0)) (by (with_reducible repeat (first | refine blk_drewN ?_ _ | refine blk_drew ?_ | refine blk_alloc ?_ _)); exact BK246.out) hb); have n1_ := Aside0.mk (below_step (by repeat (first | (with_reducible first | exact HB.out | apply below_alloc | apply pw_below_drewN | apply below_drew1 | refine below_set ?_ GE246.out) | exact HB.out)) hb); clear BK246; clear HB; have BK246 := n0_; have HB := n1_; clear n0_ n1_; (try clear hb); (try clear hb2); (try clear hk); (try clear hi); have hcz16_0 : w15.cell? ⟨gb246, 0, none⟩ = some (.slice A0_0 l0_0.length c0_0) := (blk_cell BK246.out 0).trans rfl; have hcz16_1 : w15.cell? ⟨gb246, 1, none⟩ = some (.string a0_1) := (blk_cell BK246.out 1).trans rfl; have hcz16_2 : w15.cell? ⟨gb246, 2, none⟩ = some (.string a0_2) := (blk_cell BK246.out 2).trans rfl; have hfz16_0 := blk_frozen BK246.out 0; have hfz16_1 := blk_frozen BK246.out 1; have hfz16_2 := blk_frozen BK246.out 2) | ((with_reducible refine gate_callee (f := 14) rfl ?_); refine goesL_ (some 23) rfl rfl Try.func14 (by kernel_rfl) rfl #[.agg #[.slice A0_0 l0_0.length c0_0, .string a0_1, .string a0_2]] rfl (by (try simp only [List.map_toArray, List.map_cons, List.map_nil]); first | done | rfl | (simp only [List.length_drop, List.length_take]; rfl)) ?_; (with_reducible refine (laws_toStripe.calls k _ _ l0_0 a0_1 a0_2 t248 t251 t252 _ ?side1 ?side2 A8.out).mono ?_); (case side1 => repeat (first | exact (Kd.C_below HR0_0.out HB.out) | (with_reducible refine Kd.C_alloc ?_ _) | (with_reducible refine Kd.C_drewN ?_ _) | (with_reducible refine Kd.C_drew ?_))); (case side2 => exact HC0_0.out); rintro e w17 ⟨v249, rfl, ho0, hb⟩; refine ⟨_, rfl, ?_⟩; have n0_ := Aside0.mk (Kd.R_lower ho0 (below_size (by repeat (first | (with_reducible first | exact HB.out | apply below_alloc | apply pw_below_drewN | apply below_drew1 | refine below_set ?_ GE246.out) | exact HB.out)))); have n1_ := Aside0.mk (blk_below (g := gb246) (o := .cells #[.slice A0_0 l0_0.length c0_0, .string a0_1, .string a0_2] 24 (0, 0)) (by (with_reducible repeat (first | refine blk_drewN ?_ _ | refine blk_drew ?_ | refine blk_alloc ?_ _)); exact BK246.out) hb); have n2_ := Aside0.mk (below_step (by repeat (first | (with_reducible first | exact HB.out | apply below_alloc | apply pw_below_drewN | apply below_drew1 | refine below_set ?_ GE246.out) | exact HB.out)) hb); clear BK246; clear HB; have HO250 := n0_; have BK246 := n1_; have HB := n2_; clear n0_ n1_ n2_; (try clear hb); (try clear hb2); (try clear hk); (try clear hi); (try clear ho0); obtain ⟨Ao18, co18, eo18⟩ := Kd.R_slice HO250.out; subst eo18) | ((with_reducible refine gate_callee (f := 31) rfl ?_); refine goesL_ (some 25) rfl rfl Try.func31 (by kernel_rfl) rfl #[.agg #[.slice Ao18 t248.length co18, .string t251, .string t252], .int .i64 a1] rfl (by (try simp only [List.map_toArray, List.map_cons, List.map_nil]); first | done | rfl | (simp only [List.length_drop, List.length_take]; rfl)) ?_; (with_reducible refine (spec_RecoverOne.calls k _ _ t248 t251 t252 a1 t253 t256 t257 t258 _ ?side1 ?side2 A9.out).mono ?_); (case side1 => repeat (first | exact (Kd.R_reads' HO250.out).2.2 | (with_reducible refine Kd.C_alloc ?_ _) | (with_reducible refine Kd.C_drewN ?_ _) | (with_reducible refine Kd.C_drew ?_))); (case side2 => exact (Kd.R_reads' HO250.out).2.1); rintro e w19 ⟨v254, rfl, ho0, hb⟩; refine ⟨_, rfl, ?_⟩; have n0_ := Aside0.mk (Kd.R_elder' (by (with_reducible repeat (first | apply Kd.R_alloc | apply Kd.R_drewN | apply Kd.R_drew)); exact HO250.out) (Kd.R_base ho0) hb); have n1_ := Aside0.mk (Kd.R_lower (Kd.R_new' ho0 (Kd.R_lt (by (with_reducible repeat (first | apply Kd.R_alloc | apply Kd.R_drewN | apply Kd.R_drew)); exact HO250.out))) (below_size (by repeat (first | (with_reducible first | exact HB.out | apply below_alloc | apply pw_below_drewN | apply below_drew1 | refine below_set ?_ GE246.out) | exact HB.out)))); have n2_ := Aside0.mk (blk_below (g := gb246) (o := .cells #[.slice A0_0 l0_0.length c0_0, .string a0_1, .string a0_2] 24 (0, 0)) (by (with_reducible repeat (first | refine blk_drewN ?_ _ | refine blk_drew ?_ | refine blk_alloc ?_ _)); exact BK246.out) hb); have n3_ := Aside0.mk (below_step (by repeat (first | (with_reducible first | exact HB.out | apply below_alloc | apply pw_below_drewN | apply below_drew1 | refine below_set ?_ GE246.out) | exact HB.out)) hb); clear HO250; clear BK246; clear HB; have HO250 := n0_; have HO255 := n1_; have BK246 := n2_; have HB := n3_; clear n0_ n1_ n2_ n3_; (try clear hb); (try clear hb2); (try clear hk); (try clear hi); (try clear ho0)) | ((with_reducible refine gate_dst (N := 6) rfl ?_); refine box_event ?hg (N := 6) ?hd (cs := #[.slice none 0 0, .string (⟨#[]⟩ : ByteArray), .string (⟨#[]⟩ : ByteArray)]) (t := 27) ?hr ?_; (case hd => rfl); (case hg => rfl); (case hr => first | (go_simp; done) | (go_simp; rfl)); intro gb259 hg w20 hbox hb; have n0_ := Aside0.mk (Kd.R_below (by (with_reducible repeat (first | apply Kd.R_alloc | apply Kd.R_drewN | apply Kd.R_drew)); exact HO250.out) hb); have n1_ := Aside0.mk (Kd.R_below (by (with_reducible repeat (first | apply Kd.R_alloc | apply Kd.R_drewN | apply Kd.R_drew)); exact HO255.out) hb); have n2_ := Aside0.mk (blk_below (g := gb246) (o := .cells #[.slice A0_0 l0_0.length c0_0, .string a0_1, .string a0_2] 24 (0, 0)) (by (with_reducible repeat (first | refine blk_drewN ?_ _ | refine blk_drew ?_ | refine blk_alloc ?_ _)); exact BK246.out) hb); have n3_ := Aside0.mk (below_step (by repeat (first | (with_reducible first | exact HB.out | apply below_alloc | apply pw_below_drewN | apply below_drew1 | refine below_set ?_ GE246.out) | exact HB.out)) hb); have n4_ := Aside0.mk (hbox); have n5_ := Aside0.mk ((by rw [hg]; exact (below_size (by repeat (first | (with_reducible first | exact HB.out | apply below_alloc | apply pw_below_drewN | apply below_drew1 | refine below_set ?_ GE246.out) | exact HB.out))) : w.heap.size ≤ gb259)); have n6_ := Aside0.mk ((by rw [hg]; exact (below_size (by repeat (first | (with_reducible first | exact HB.out | apply below_alloc | apply pw_below_drewN | apply below_drew1 | refine below_set ?_ GE246.out) | exact HB.out))) : w.heap.size ≤ gb259)); have n7_ := Aside0.mk ((by rw [hg]; exact Nat.ne_of_lt (blk_lt (g := gb246) (o := .cells #[.slice A0_0 l0_0.length c0_0, .string a0_1, .string a0_2] 24 (0, 0)) (by (with_reducible repeat (first | refine blk_drewN ?_ _ | refine blk_drew ?_ | refine blk_alloc ?_ _)); exact BK246.out)) : gb246 ≠ gb259)); have n8_ := Aside0.mk ((by rw [hg]; exact Nat.ne_of_gt (blk_lt (g := gb246) (o := .cells #[.slice A0_0 l0_0.length c0_0, .string a0_1, .string a0_2] 24 (0, 0)) (by (with_reducible repeat (first | refine blk_drewN ?_ _ | refine blk_drew ?_ | refine blk_alloc ?_ _)); exact BK246.out)) : gb259 ≠ gb246)); clear HO250; clear HO255; clear BK246; clear HB; have HO250 := n0_; have HO255 := n1_; have BK246 := n2_; have HB := n3_; have BK259 := n4_; have GW259 := n5_; have GE259 := n6_; have NB246_259 := n7_; have NB259_246 := n8_; clear n0_ n1_ n2_ n3_ n4_ n5_ n6_ n7_ n8_; clear hb hbox hg; obtain ⟨Ao21, co21, eo21⟩ := Kd.R_slice HO255.out; subst eo21; have hnb22 := NB259_246.out; have hnc22 := NB246_259.out; have hcz23_0 : w20.cell? ⟨gb259, 0, none⟩ = some (.slice none 0 0) := (blk_cell BK259.out 0).trans rfl; have hcz23_1 : w20.cell? ⟨gb259, 1, none⟩ = some (.string (⟨#[]⟩ : ByteArray)) := (blk_cell BK259.out 1).trans rfl; have hcz23_2 : w20.cell? ⟨gb259, 2, none⟩ = some (.string (⟨#[]⟩ : ByteArray)) := (blk_cell BK259.out 2).trans rfl; have hfz23_0 := blk_frozen BK259.out 0; have hfz23_1 := blk_frozen BK259.out 1; have hfz23_2 := blk_frozen BK259.out 2; have hcz24_0 : w20.cell? ⟨gb246, 0, none⟩ = some (.slice A0_0 l0_0.length c0_0) := (blk_cell BK246.out 0).trans rfl; have hcz24_1 : w20.cell? ⟨gb246, 1, none⟩ = some (.string a0_1) := (blk_cell BK246.out 1).trans rfl; have hcz24_2 : w20.cell? ⟨gb246, 2, none⟩ = some (.string a0_2) := (blk_cell BK246.out 2).trans rfl; have hfz24_0 := blk_frozen BK246.out 0; have hfz24_1 := blk_frozen BK246.out 1; have hfz24_2 := blk_frozen BK246.out 2) | ((with_reducible refine gate_callee (f := 14) rfl ?_); refine goesL_ (some 29) rfl rfl Try.func14 (by kernel_rfl) rfl #[.agg #[.slice A0_0 l0_0.length c0_0, .string a0_1, .string a0_2]] rfl (by (try simp only [List.map_toArray, List.map_cons, List.map_nil]); first | done | rfl | (simp only [List.length_drop, List.length_take]; rfl)) ?_; (with_reducible refine (laws_toStripe.calls k _ _ l0_0 a0_1 a0_2 t260 t263 t264 _ ?side1 ?side2 A10.out).mono ?_); (case side1 => exact Kd.C_below HR0_0.out (by repeat (first | (with_reducible first | exact HB.out | apply below_alloc | apply pw_below_drewN | apply below_drew1 | refine below_set ?_ GE246.out | refine below_set ?_ GE259.out) | exact HB.out))); (case side2 => exact HC0_0.out); rintro e w25 ⟨v261, rfl, ho0, hb⟩; refine ⟨_, rfl, ?_⟩; have n0_ := Aside0.mk (Kd.R_elder' (by (with_reducible repeat (first | apply Kd.R_alloc | apply Kd.R_drewN | apply Kd.R_drew)); exact (Kd.R_mono (Kd.R_far (p := ⟨gb259, 2, none⟩) (Kd.R_far (p := ⟨gb259, 1, none⟩) (Kd.R_far (p := ⟨gb259, 0, none⟩) (Kd.R_types HO250.out BK259.out (by decide)) (fun _ hk => hk.2) (.slice Ao21 t253.length co21)) (fun _ hk => hk.2) (.string t256)) (fun _ hk => hk.2) (.string t257)) (fun _ h_ => h_.1))) (Kd.R_base ho0) hb); have n1_ := Aside0.mk (Kd.R_elder' (by (with_reducible repeat (first | apply Kd.R_alloc | apply Kd.R_drewN | apply Kd.R_drew)); exact (Kd.R_mono (Kd.R_far (p := ⟨gb259, 2, none⟩) (Kd.R_far (p := ⟨gb259, 1, none⟩) (Kd.R_far (p := ⟨gb259, 0, none⟩) (Kd.R_types HO255.out BK259.out (by decide)) (fun _ hk => hk.2) (.slice Ao21 t253.length co21)) (fun _ hk => hk.2) (.string t256)) (fun _ hk => hk.2) (.string t257)) (fun _ h_ => h_.1))) (Kd.R_base ho0) hb); have n2_ := Aside0.mk (Kd.R_lower (Kd.R_new' (Kd.R_new' ho0 (Kd.R_lt (by (with_reducible repeat (first | apply Kd.R_alloc | apply Kd.R_drewN | apply Kd.R_drew)); exact (Kd.R_mono (Kd.R_far (p := ⟨gb259, 2, none⟩) (Kd.R_far (p := ⟨gb259, 1, none⟩) (Kd.R_far (p := ⟨gb259, 0, none⟩) (Kd.R_types HO250.out BK259.out (by decide)) (fun _ hk => hk.2) (.slice Ao21 t253.length co21)) (fun _ hk => hk.2) (.string t256)) (fun _ hk => hk.2) (.string t257)) (fun _ h_ => h_.1))))) (Kd.R_lt (by (with_reducible repeat (first | apply Kd.R_alloc | apply Kd.R_drewN | apply Kd.R_drew)); exact (Kd.R_mono (Kd.R_far (p := ⟨gb259, 2, none⟩) (Kd.R_far (p := ⟨gb259, 1, none⟩) (Kd.R_far (p := ⟨gb259, 0, none⟩) (Kd.R_types HO255.out BK259.out (by decide)) (fun _ hk => hk.2) (.slice Ao21 t253.length co21)) (fun _ hk => hk.2) (.string t256)) (fun _ hk => hk.2) (.string t257)) (fun _ h_ => h_.1))))) (below_size (by repeat (first | (with_reducible first | exact HB.out | apply below_alloc | apply pw_below_drewN | apply below_drew1 | refine below_set ?_ GE246.out | refine below_set ?_ GE259.out) | exact HB.out)))); have n3_ := Aside0.mk (blk_below (g := gb246) (o := .cells #[.slice A0_0 l0_0.length c0_0, .string a0_1, .string a0_2] 24 (0, 0)) (by (with_reducible repeat (first | refine blk_drewN ?_ _ | refine blk_drew ?_ | refine blk_alloc ?_ _)); refine blk_far ?_ NB246_259.out _; (with_reducible repeat (first | refine blk_drewN ?_ _ | refine blk_drew ?_ | refine blk_alloc ?_ _)); refine blk_far ?_ NB246_259.out _; (with_reducible repeat (first | refine blk_drewN ?_ _ | refine blk_drew ?_ | refine blk_alloc ?_ _)); refine blk_far ?_ NB246_259.out _; (with_reducible repeat (first | refine blk_drewN ?_ _ | refine blk_drew ?_ | refine blk_alloc ?_ _)); exact BK246.out) hb); have n4_ := Aside0.mk (blk_below (g := gb259) (o := .cells #[.slice Ao21 t253.length co21, .string t256, .string t257] 27 (0, 0)) (by (with_reducible repeat (first | refine blk_drewN ?_ _ | refine blk_drew ?_ | refine blk_alloc ?_ _)); refine blk_put (cs := #[.slice Ao21 t253.length co21, .string t256, .string (⟨#[]⟩ : ByteArray)]) ?_ 2 _ rfl; (with_reducible repeat (first | refine blk_drewN ?_ _ | refine blk_drew ?_ | refine blk_alloc ?_ _)); refine blk_put (cs := #[.slice Ao21 t253.length co21, .string (⟨#[]⟩ : ByteArray), .string (⟨#[]⟩ : ByteArray)]) ?_ 1 _ rfl; (with_reducible repeat (first | refine blk_drewN ?_ _ | refine blk_drew ?_ | refine blk_alloc ?_ _)); refine blk_put (cs := #[.slice none 0 0, .string (⟨#[]⟩ : ByteArray), .string (⟨#[]⟩ : ByteArray)]) ?_ 0 _ rfl; (with_reducible repeat (first | refine blk_drewN ?_ _ | refine blk_drew ?_ | refine blk_alloc ?_ _)); exact BK259.out) hb); have n5_ := Aside0.mk (below_step (by repeat (first | (with_reducible first | exact HB.out | apply below_alloc | apply pw_below_drewN | apply below_drew1 | refine below_set ?_ GE246.out | refine below_set ?_ GE259.out) | exact HB.out)) hb); clear HO250; clear HO255; clear BK246; clear BK259; clear HB; have HO250 := n0_; have HO255 := n1_; have HO262 := n2_; have BK246 := n3_; have BK259 := n4_; have HB := n5_; clear n0_ n1_ n2_ n3_ n4_ n5_; (try clear hb); (try clear hb2); (try clear hk); (try clear hi); (try clear ho0)) | ((with_reducible refine gate_dst (N := 8) rfl ?_); refine box_event ?hg (N := 8) ?hd (cs := #[.slice none 0 0, .string (⟨#[]⟩ : ByteArray), .string (⟨#[]⟩ : ByteArray)]) (t := 27) ?hr ?_; (case hd => rfl); (case hg => rfl); (case hr => first | (go_simp; done) | (go_simp; rfl)); intro gb265 hg w26 hbox hb; have n0_ := Aside0.mk (Kd.R_below (by (with_reducible repeat (first | apply Kd.R_alloc | apply Kd.R_drewN | apply Kd.R_drew)); exact HO250.out) hb); have n1_ := Aside0.mk (Kd.R_below (by (with_reducible repeat (first | apply Kd.R_alloc | apply Kd.R_drewN | apply Kd.R_drew)); exact HO255.out) hb); have n2_ := Aside0.mk (Kd.R_below (by (with_reducible repeat (first | apply Kd.R_alloc | apply Kd.R_drewN | apply Kd.R_drew)); exact HO262.out) hb); have n3_ := Aside0.mk (blk_below (g := gb246) (o := .cells #[.slice A0_0 l0_0.length c0_0, .string a0_1, .string a0_2] 24 (0, 0)) (by (with_reducible repeat (first | refine blk_drewN ?_ _ | refine blk_drew ?_ | refine blk_alloc ?_ _)); exact BK246.out) hb); have n4_ := Aside0.mk (blk_below (g := gb259) (o := .cells #[.slice Ao21 t253.length co21, .string t256, .string t257] 27 (0, 0)) (by (with_reducible repeat (first | refine blk_drewN ?_ _ | refine blk_drew ?_ | refine blk_alloc ?_ _)); exact BK259.out) hb); have n5_ := Aside0.mk (below_step (by repeat (first | (with_reducible first | exact HB.out | apply below_alloc | apply pw_below_drewN | apply below_drew1 | refine below_set ?_ GE246.out | refine below_set ?_ GE259.out) | exact HB.out)) hb); have n6_ := Aside0.mk (hbox); have n7_ := Aside0.mk ((by rw [hg]; exact (below_size (by repeat (first | (with_reducible first | exact HB.out | apply below_alloc | apply pw_below_drewN | apply below_drew1 | refine below_set ?_ GE246.out | refine below_set ?_ GE259.out) | exact HB.out))) : w.heap.size ≤ gb265)); have n8_ := Aside0.mk ((by rw [hg]; exact (below_size (by repeat (first | (with_reducible first | exact HB.out | apply below_alloc | apply pw_below_drewN | apply below_drew1 | refine below_set ?_ GE246.out | refine below_set ?_ GE259.out) | exact HB.out))) : w.heap.size ≤ gb265)); have n9_ := Aside0.mk ((by rw [hg]; exact Nat.ne_of_lt (blk_lt (g := gb246) (o := .cells #[.slice A0_0 l0_0.length c0_0, .string a0_1, .string a0_2] 24 (0, 0)) (by (with_reducible repeat (first | refine blk_drewN ?_ _ | refine blk_drew ?_ | refine blk_alloc ?_ _)); exact BK246.out)) : gb246 ≠ gb265)); have n10_ := Aside0.mk ((by rw [hg]; exact Nat.ne_of_gt (blk_lt (g := gb246) (o := .cells #[.slice A0_0 l0_0.length c0_0, .string a0_1, .string a0_2] 24 (0, 0)) (by (with_reducible repeat (first | refine blk_drewN ?_ _ | refine blk_drew ?_ | refine blk_alloc ?_ _)); exact BK246.out)) : gb265 ≠ gb246)); have n11_ := Aside0.mk ((by rw [hg]; exact Nat.ne_of_lt (blk_lt (g := gb259) (o := .cells #[.slice Ao21 t253.length co21, .string t256, .string t257] 27 (0, 0)) (by (with_reducible repeat (first | refine blk_drewN ?_ _ | refine blk_drew ?_ | refine blk_alloc ?_ _)); exact BK259.out)) : gb259 ≠ gb265)); have n12_ := Aside0.mk ((by rw [hg]; exact Nat.ne_of_gt (blk_lt (g := gb259) (o := .cells #[.slice Ao21 t253.length co21, .string t256, .string t257] 27 (0, 0)) (by (with_reducible repeat (first | refine blk_drewN ?_ _ | refine blk_drew ?_ | refine blk_alloc ?_ _)); exact BK259.out)) : gb265 ≠ gb259)); clear HO250; clear HO255; clear HO262; clear BK246; clear BK259; clear HB; have HO250 := n0_; have HO255 := n1_; have HO262 := n2_; have BK246 := n3_; have BK259 := n4_; have HB := n5_; have BK265 := n6_; have GW265 := n7_; have GE265 := n8_; have NB246_265 := n9_; have NB265_246 := n10_; have NB259_265 := n11_; have NB265_259 := n12_; clear n0_ n1_ n2_ n3_ n4_ n5_ n6_ n7_ n8_ n9_ n10_ n11_ n12_; clear hb hbox hg; obtain ⟨Ao27, co27, eo27⟩ := Kd.R_slice HO262.out; subst eo27; have hnb28 := NB265_246.out; have hnc28 := NB246_265.out; have hnb29 := NB265_259.out; have hnc29 := NB259_265.out; have hcz30_0 : w26.cell? ⟨gb265, 0, none⟩ = some (.slice none 0 0) := (blk_cell BK265.out 0).trans rfl; have hcz30_1 : w26.cell? ⟨gb265, 1, none⟩ = some (.string (⟨#[]⟩ : ByteArray)) := (blk_cell BK265.out 1).trans rfl; have hcz30_2 : w26.cell? ⟨gb265, 2, none⟩ = some (.string (⟨#[]⟩ : ByteArray)) := (blk_cell BK265.out 2).trans rfl; have hfz30_0 := blk_frozen BK265.out 0; have hfz30_1 := blk_frozen BK265.out 1; have hfz30_2 := blk_frozen BK265.out 2) | ((with_reducible refine gate_callee (f := 32) rfl ?_); refine goesL_ (some 33) rfl rfl Try.func32 (by kernel_rfl) rfl #[.agg #[.slice Ao27 t260.length co27, .string t263, .string t264], .int .i64 a1] rfl (by (try simp only [List.map_toArray, List.map_cons, List.map_nil]); first | done | rfl | (simp only [List.length_drop, List.length_take]; rfl)) ?_; (with_reducible refine (impl_RecoverOne.calls k _ _ t260 t263 t264 a1 t266 t269 t270 t271 _ ?side1 ?side2 A11.out).mono ?_); (case side1 => refine (Kd.R_reads' (e := 9) (base := w.heap.size) (ok := fun k_ => ((True ∧ some k_ ≠ (.slice Ao18 t248.length co18 : Value).ownBlock) ∧ some k_ ≠ (.slice Ao21 t253.length co21 : Value).ownBlock)) (n := t260.length) (c := co27) ?_).2.2; exact (by (with_reducible repeat (first | apply Kd.R_alloc | apply Kd.R_drewN | apply Kd.R_drew)); exact (Kd.R_mono (Kd.R_far (p := ⟨gb265, 2, none⟩) (Kd.R_far (p := ⟨gb265, 1, none⟩) (Kd.R_far (p := ⟨gb265, 0, none⟩) (Kd.R_types HO262.out BK265.out (by decide)) (fun _ hk => hk.2) (.slice Ao27 t260.length co27)) (fun _ hk => hk.2) (.string t263)) (fun _ hk => hk.2) (.string t264)) (fun _ h_ => h_.1)))); (case side2 => exact (Kd.R_reads' HO262.out).2.1); rintro e w31 ⟨v267, rfl, ho0, hb⟩; refine ⟨_, rfl, ?_⟩; have n0_ := Aside0.mk (Kd.R_elder' (by (with_reducible repeat (first | apply Kd.R_alloc | apply Kd.R_drewN | apply Kd.R_drew)); exact (Kd.R_mono (Kd.R_far (p := ⟨gb265, 2, none⟩) (Kd.R_far (p := ⟨gb265, 1, none⟩) (Kd.R_far (p := ⟨gb265, 0, none⟩) (Kd.R_types HO250.out BK265.out (by decide)) (fun _ hk => hk.2) (.slice Ao27 t260.length co27)) (fun _ hk => hk.2) (.string t263)) (fun _ hk => hk.2) (.string t264)) (fun _ h_ => h_.1))) (Kd.R_base ho0) hb); have n1_ := Aside0.mk (Kd.R_elder' (by (with_reducible repeat (first | apply Kd.R_alloc | apply Kd.R_drewN | apply Kd.R_drew)); exact (Kd.R_mono (Kd.R_far (p := ⟨gb265, 2, none⟩) (Kd.R_far (p := ⟨gb265, 1, none⟩) (Kd.R_far (p := ⟨gb265, 0, none⟩) (Kd.R_types HO255.out BK265.out (by decide)) (fun _ hk => hk.2) (.slice Ao27 t260.length co27)) (fun _ hk => hk.2) (.string t263)) (fun _ hk => hk.2) (.string t264)) (fun _ h_ => h_.1))) (Kd.R_base ho0) hb); have n2_ := Aside0.mk (Kd.R_elder' (by (with_reducible repeat (first | apply Kd.R_alloc | apply Kd.R_drewN | apply Kd.R_drew)); exact (Kd.R_mono (Kd.R_far (p := ⟨gb265, 2, none⟩) (Kd.R_far (p := ⟨gb265, 1, none⟩) (Kd.R_far (p := ⟨gb265, 0, none⟩) (Kd.R_types HO262.out BK265.out (by decide)) (fun _ hk => hk.2) (.slice Ao27 t260.length co27)) (fun _ hk => hk.2) (.string t263)) (fun _ hk => hk.2) (.string t264)) (fun _ h_ => h_.1))) (Kd.R_base ho0) hb); have n3_ := Aside0.mk (Kd.R_lower (Kd.R_new' (Kd.R_new' (Kd.R_new' ho0 (Kd.R_lt (by (with_reducible repeat (first | apply Kd.R_alloc | apply Kd.R_drewN | apply Kd.R_drew)); exact (Kd.R_mono (Kd.R_far (p := ⟨gb265, 2, none⟩) (Kd.R_far (p := ⟨gb265, 1, none⟩) (Kd.R_far (p := ⟨gb265, 0, none⟩) (Kd.R_types HO250.out BK265.out (by decide)) (fun _ hk => hk.2) (.slice Ao27 t260.length co27)) (fun _ hk => hk.2) (.string t263)) (fun _ hk => hk.2) (.string t264)) (fun _ h_ => h_.1))))) (Kd.R_lt (by (with_reducible repeat (first | apply Kd.R_alloc | apply Kd.R_drewN | apply Kd.R_drew)); exact (Kd.R_mono (Kd.R_far (p := ⟨gb265, 2, none⟩) (Kd.R_far (p := ⟨gb265, 1, none⟩) (Kd.R_far (p := ⟨gb265, 0, none⟩) (Kd.R_types HO255.out BK265.out (by decide)) (fun _ hk => hk.2) (.slice Ao27 t260.length co27)) (fun _ hk => hk.2) (.string t263)) (fun _ hk => hk.2) (.string t264)) (fun _ h_ => h_.1))))) (Kd.R_lt (by (with_reducible repeat (first | apply Kd.R_alloc | apply Kd.R_drewN | apply Kd.R_drew)); exact (Kd.R_mono (Kd.R_far (p := ⟨gb265, 2, none⟩) (Kd.R_far (p := ⟨gb265, 1, none⟩) (Kd.R_far (p := ⟨gb265, 0, none⟩) (Kd.R_types HO262.out BK265.out (by decide)) (fun _ hk => hk.2) (.slice Ao27 t260.length co27)) (fun _ hk => hk.2) (.string t263)) (fun _ hk => hk.2) (.string t264)) (fun _ h_ => h_.1))))) (below_size (by repeat (first | (with_reducible first | exact HB.out | apply below_alloc | apply pw_below_drewN | apply below_drew1 | refine below_set ?_ GE246.out | refine below_set ?_ GE259.out | refine below_set ?_ GE265.out) | exact HB.out)))); have n4_ := Aside0.mk (blk_below (g := gb246) (o := .cells #[.slice A0_0 l0_0.length c0_0, .string a0_1, .string a0_2] 24 (0, 0)) (by (with_reducible repeat (first | refine blk_drewN ?_ _ | refine blk_drew ?_ | refine blk_alloc ?_ _)); refine blk_far ?_ NB246_265.out _; (with_reducible repeat (first | refine blk_drewN ?_ _ | refine blk_drew ?_ | refine blk_alloc ?_ _)); refine blk_far ?_ NB246_265.out _; (with_reducible repeat (first | refine blk_drewN ?_ _ | refine blk_drew ?_ | refine blk_alloc ?_ _)); refine blk_far ?_ NB246_265.out _; (with_reducible repeat (first | refine blk_drewN ?_ _ | refine blk_drew ?_ | refine blk_alloc ?_ _)); exact BK246.out) hb); have n5_ := Aside0.mk (blk_below (g := gb259) (o := .cells #[.slice Ao21 t253.length co21, .string t256, .string t257] 27 (0, 0)) (by (with_reducible repeat (first | refine blk_drewN ?_ _ | refine blk_drew ?_ | refine blk_alloc ?_ _)); refine blk_far ?_ NB259_265.out _; (with_reducible repeat (first | refine blk_drewN ?_ _ | refine blk_drew ?_ | refine blk_alloc ?_ _)); refine blk_far ?_ NB259_265.out _; (with_reducible repeat (first | refine blk_drewN ?_ _ | refine blk_drew ?_ | refine blk_alloc ?_ _)); refine blk_far ?_ NB259_265.out _; (with_reducible repeat (first | refine blk_drewN ?_ _ | refine blk_drew ?_ | refine blk_alloc ?_ _)); exact BK259.out) hb); have n6_ := Aside0.mk (blk_below (g := gb265) (o := .cells #[.slice Ao27 t260.length co27, .string t263, .string t264] 27 (0, 0)) (by (with_reducible repeat (first | refine blk_drewN ?_ _ | refine blk_drew ?_ | refine blk_alloc ?_ _)); refine blk_put (cs := #[.slice Ao27 t260.length co27, .string t263, .string (⟨#[]⟩ : ByteArray)]) ?_ 2 _ rfl; (with_reducible repeat (first | refine blk_drewN ?_ _ | refine blk_drew ?_ | refine blk_alloc ?_ _)); refine blk_put (cs := #[.slice Ao27 t260.length co27, .string (⟨#[]⟩ : ByteArray), .string (⟨#[]⟩ : ByteArray)]) ?_ 1 _ rfl; (with_reducible repeat (first | refine blk_drewN ?_ _ | refine blk_drew ?_ | refine blk_alloc ?_ _)); refine blk_put (cs := #[.slice none 0 0, .string (⟨#[]⟩ : ByteArray), .string (⟨#[]⟩ : ByteArray)]) ?_ 0 _ rfl; (with_reducible repeat (first | refine blk_drewN ?_ _ | refine blk_drew ?_ | refine blk_alloc ?_ _)); exact BK265.out) hb); have n7_ := Aside0.mk (below_step (by repeat (first | (with_reducible first | exact HB.out | apply below_alloc | apply pw_below_drewN | apply below_drew1 | refine below_set ?_ GE246.out | refine below_set ?_ GE259.out | refine below_set ?_ GE265.out) | exact HB.out)) hb); clear HO250; clear HO255; clear HO262; clear BK246; clear BK259; clear BK265; clear HB; have HO250 := n0_; have HO255 := n1_; have HO262 := n2_; have HO268 := n3_; have BK246 := n4_; have BK259 := n5_; have BK265 := n6_; have HB := n7_; clear n0_ n1_ n2_ n3_ n4_ n5_ n6_ n7_; (try clear hb); (try clear hb2); (try clear hk); (try clear hi); (try clear ho0)) | ((with_reducible refine gate_dst (N := 9) rfl ?_); refine box_event ?hg (N := 9) ?hd (cs := #[.slice none 0 0, .string (⟨#[]⟩ : ByteArray), .string (⟨#[]⟩ : ByteArray)]) (t := 27) ?hr ?_; (case hd => rfl); (case hg => rfl); (case hr => first | (go_simp; done) | (go_simp; rfl)); intro gb272 hg w32 hbox hb; have n0_ := Aside0.mk (Kd.R_below (by (with_reducible repeat (first | apply Kd.R_alloc | apply Kd.R_drewN | apply Kd.R_drew)); exact HO250.out) hb); have n1_ := Aside0.mk (Kd.R_below (by (with_reducible repeat (first | apply Kd.R_alloc | apply Kd.R_drewN | apply Kd.R_drew)); exact HO255.out) hb); have n2_ := Aside0.mk (Kd.R_below (by (with_reducible repeat (first | apply Kd.R_alloc | apply Kd.R_drewN | apply Kd.R_drew)); exact HO262.out) hb); have n3_ := Aside0.mk (Kd.R_below (by (with_reducible repeat (first | apply Kd.R_alloc | apply Kd.R_drewN | apply Kd.R_drew)); exact HO268.out) hb); have n4_ := Aside0.mk (blk_below (g := gb246) (o := .cells #[.slice A0_0 l0_0.length c0_0, .string a0_1, .string a0_2] 24 (0, 0)) (by (with_reducible repeat (first | refine blk_drewN ?_ _ | refine blk_drew ?_ | refine blk_alloc ?_ _)); exact BK246.out) hb); have n5_ := Aside0.mk (blk_below (g := gb259) (o := .cells #[.slice Ao21 t253.length co21, .string t256, .string t257] 27 (0, 0)) (by (with_reducible repeat (first | refine blk_drewN ?_ _ | refine blk_drew ?_ | refine blk_alloc ?_ _)); exact BK259.out) hb); have n6_ := Aside0.mk (blk_below (g := gb265) (o := .cells #[.slice Ao27 t260.length co27, .string t263, .string t264] 27 (0, 0)) (by (with_reducible repeat (first | refine blk_drewN ?_ _ | refine blk_drew ?_ | refine blk_alloc ?_ _)); exact BK265.out) hb); have n7_ := Aside0.mk (below_step (by repeat (first | (with_reducible first | exact HB.out | apply below_alloc | apply pw_below_drewN | apply below_drew1 | refine below_set ?_ GE246.out | refine below_set ?_ GE259.out | refine below_set ?_ GE265.out) | exact HB.out)) hb); have n8_ := Aside0.mk (hbox); have n9_ := Aside0.mk ((by rw [hg]; exact (below_size (by repeat (first | (with_reducible first | exact HB.out | apply below_alloc | apply pw_below_drewN | apply below_drew1 | refine below_set ?_ GE246.out | refine below_set ?_ GE259.out | refine below_set ?_ GE265.out) | exact HB.out))) : w.heap.size ≤ gb272)); have n10_ := Aside0.mk ((by rw [hg]; exact (below_size (by repeat (first | (with_reducible first | exact HB.out | apply below_alloc | apply pw_below_drewN | apply below_drew1 | refine below_set ?_ GE246.out | refine below_set ?_ GE259.out | refine below_set ?_ GE265.out) | exact HB.out))) : w.heap.size ≤ gb272)); have n11_ := Aside0.mk ((by rw [hg]; exact Nat.ne_of_lt (blk_lt (g := gb246) (o := .cells #[.slice A0_0 l0_0.length c0_0, .string a0_1, .string a0_2] 24 (0, 0)) (by (with_reducible repeat (first | refine blk_drewN ?_ _ | refine blk_drew ?_ | refine blk_alloc ?_ _)); exact BK246.out)) : gb246 ≠ gb272)); have n12_ := Aside0.mk ((by rw [hg]; exact Nat.ne_of_gt (blk_lt (g := gb246) (o := .cells #[.slice A0_0 l0_0.length c0_0, .string a0_1, .string a0_2] 24 (0, 0)) (by (with_reducible repeat (first | refine blk_drewN ?_ _ | refine blk_drew ?_ | refine blk_alloc ?_ _)); exact BK246.out)) : gb272 ≠ gb246)); have n13_ := Aside0.mk ((by rw [hg]; exact Nat.ne_of_lt (blk_lt (g := gb259) (o := .cells #[.slice Ao21 t253.length co21, .string t256, .string t257] 27 (0, 0)) (by (with_reducible repeat (first | refine blk_drewN ?_ _ | refine blk_drew ?_ | refine blk_alloc ?_ _)); exact BK259.out)) : gb259 ≠ gb272)); have n14_ := Aside0.mk ((by rw [hg]; exact Nat.ne_of_gt (blk_lt (g := gb259) (o := .cells #[.slice Ao21 t253.length co21, .string t256, .string t257] 27 (0, 0)) (by (with_reducible repeat (first | refine blk_drewN ?_ _ | refine blk_drew ?_ | refine blk_alloc ?_ _)); exact BK259.out)) : gb272 ≠ gb259)); have n15_ := Aside0.mk ((by rw [hg]; exact Nat.ne_of_lt (blk_lt (g := gb265) (o := .cells #[.slice Ao27 t260.length co27, .string t263, .string t264] 27 (0, 0)) (by (with_reducible repeat (first | refine blk_drewN ?_ _ | refine blk_drew ?_ | refine blk_alloc ?_ _)); exact BK265.out)) : gb265 ≠ gb272)); have n16_ := Aside0.mk ((by rw [hg]; exact Nat.ne_of_gt (blk_lt (g := gb265) (o := .cells #[.slice Ao27 t260.length co27, .string t263, .string t264] 27 (0, 0)) (by (with_reducible repeat (first | refine blk_drewN ?_ _ | refine blk_drew ?_ | refine blk_alloc ?_ _)); exact BK265.out)) : gb272 ≠ gb265)); clear HO250; clear HO255; clear HO262; clear HO268; clear BK246; clear BK259; clear BK265; clear HB; have HO250 := n0_; have HO255 := n1_; have HO262 := n2_; have HO268 := n3_; have BK246 := n4_; have BK259 := n5_; have BK265 := n6_; have HB := n7_; have BK272 := n8_; have GW272 := n9_; have GE272 := n10_; have NB246_272 := n11_; have NB272_246 := n12_; have NB259_272 := n13_; have NB272_259 := n14_; have NB265_272 := n15_; have NB272_265 := n16_; clear n0_ n1_ n2_ n3_ n4_ n5_ n6_ n7_ n8_ n9_ n10_ n11_ n12_ n13_ n14_ n15_ n16_; clear hb hbox hg; obtain ⟨Ao33, co33, eo33⟩ := Kd.R_slice HO268.out; subst eo33; have hnb34 := NB272_246.out; have hnc34 := NB246_272.out; have hnb35 := NB272_259.out; have hnc35 := NB259_272.out; have hnb36 := NB272_265.out; have hnc36 := NB265_272.out; have hcz37_0 : w32.cell? ⟨gb272, 0, none⟩ = some (.slice none 0 0) := (blk_cell BK272.out 0).trans rfl; have hcz37_1 : w32.cell? ⟨gb272, 1, none⟩ = some (.string (⟨#[]⟩ : ByteArray)) := (blk_cell BK272.out 1).trans rfl; have hcz37_2 : w32.cell? ⟨gb272, 2, none⟩ = some (.string (⟨#[]⟩ : ByteArray)) := (blk_cell BK272.out 2).trans rfl; have hfz37_0 := blk_frozen BK272.out 0; have hfz37_1 := blk_frozen BK272.out 1; have hfz37_2 := blk_frozen BK272.out 2))
    (try simp only [Act.put, List.setIfInBounds_toArray, List.set_cons_zero, List.set_cons_succ])
    go_cut [44] (fun v44 wc => ∃ (kq : Nat) (x44_11 : Bool), v44 = .bool x44_11 ∧ Aside0 (laws_FnExactRecoverOne.j0 kq a1 t258 t271 x44_11 l0_0 a0_1 a0_2 t253 t256 t257 t260 t263 t264 t266 t269 t270 = some r) ∧ Aside0 (kq ≤ k) ∧ Aside0 (Kd.R Kd.string 9 wc w.heap.size (fun k_ => some k_ ≠ ((.slice Ao27 t260.length co27) : Value).ownBlock ∧ some k_ ≠ ((.slice Ao33 t266.length co33) : Value).ownBlock) (.slice Ao21 t253.length co21) t253) ∧ Aside0 (Kd.R Kd.string 9 wc w.heap.size (fun k_ => some k_ ≠ ((.slice Ao21 t253.length co21) : Value).ownBlock ∧ some k_ ≠ ((.slice Ao33 t266.length co33) : Value).ownBlock) (.slice Ao27 t260.length co27) t260) ∧ Aside0 (Kd.R Kd.string 9 wc w.heap.size (fun k_ => some k_ ≠ ((.slice Ao21 t253.length co21) : Value).ownBlock ∧ some k_ ≠ ((.slice Ao27 t260.length co27) : Value).ownBlock) (.slice Ao33 t266.length co33) t266) ∧ Aside0 (wc.heap[gb246]? = some (.cells #[(.slice A0_0 l0_0.length c0_0), .string a0_1, .string a0_2] 24 (0, 0))) ∧ Aside0 (wc.heap[gb259]? = some (.cells #[(.slice Ao21 t253.length co21), .string t256, .string t257] 27 (0, 0))) ∧ Aside0 (wc.heap[gb265]? = some (.cells #[(.slice Ao27 t260.length co27), .string t263, .string t264] 27 (0, 0))) ∧ Aside0 (wc.heap[gb272]? = some (.cells #[(.slice Ao33 t266.length co33), .string t269, .string t270] 27 (0, 0))) ∧ Aside0 (Below w.heap.size w wc))
    case first =>
      have H := HC12.out
      clear HC12
      replace H := Option.bind_eq_some_iff.mp H
      obtain ⟨t273, A380, H⟩ := H
      replace H : (if t273 = true then (laws_FnExactRecoverOne.j0 k a1 t258 t271 (t271 != t258) l0_0 a0_1 a0_2 t253 t256 t257 t260 t263 t264 t266 t269 t270) else (laws_FnExactRecoverOne.j0 k a1 t258 t271 true l0_0 a0_1 a0_2 t253 t256 t257 t260 t263 t264 t266 t269 t270)) = some r := H
      have A38 := Aside0.mk A380
      clear A380
      by_cases c39 : t273 = true
      · subst c39
        have H1 : (laws_FnExactRecoverOne.j0 k a1 t258 t271 (t271 != t258) l0_0 a0_1 a0_2 t253 t256 t257 t260 t263 t264 t266 t269 t270) = some r := by rw [if_pos rfl] at H; exact H
        clear H
        have H := H1
        clear H1
        have H' := Aside0.mk H
        clear H
        have hnb40 := NB272_246.out
        have hnc40 := NB246_272.out
        have hnb41 := NB272_259.out
        have hnc41 := NB259_272.out
        have hnb42 := NB272_265.out
        have hnc42 := NB265_272.out
        have hcz43_0 : w32.cell? ⟨gb272, 0, none⟩ = some (.slice none 0 0) := (blk_cell BK272.out 0).trans rfl
        have hcz43_1 : w32.cell? ⟨gb272, 1, none⟩ = some (.string (⟨#[]⟩ : ByteArray)) := (blk_cell BK272.out 1).trans rfl
        have hcz43_2 : w32.cell? ⟨gb272, 2, none⟩ = some (.string (⟨#[]⟩ : ByteArray)) := (blk_cell BK272.out 2).trans rfl
        have hfz43_0 := blk_frozen BK272.out 0
        have hfz43_1 := blk_frozen BK272.out 1
        have hfz43_2 := blk_frozen BK272.out 2
        have hnb44 := NB259_246.out
        have hnc44 := NB246_259.out
        have hnb45 := NB259_265.out
        have hnc45 := NB265_259.out
        have hcz46_0 : w32.cell? ⟨gb259, 0, none⟩ = some (.slice Ao21 t253.length co21) := (blk_cell BK259.out 0).trans rfl
        have hcz46_1 : w32.cell? ⟨gb259, 1, none⟩ = some (.string t256) := (blk_cell BK259.out 1).trans rfl
        have hcz46_2 : w32.cell? ⟨gb259, 2, none⟩ = some (.string t257) := (blk_cell BK259.out 2).trans rfl
        have hfz46_0 := blk_frozen BK259.out 0
        have hfz46_1 := blk_frozen BK259.out 1
        have hfz46_2 := blk_frozen BK259.out 2
        go_wp2_with (first | ((with_reducible refine gate_callee (f := 16) rfl ?_); refine goesL_ (some 38) rfl rfl Try.func16 (by kernel_rfl) rfl #[.agg #[.slice Ao33 t266.length co33, .string t269, .string t270], .agg #[.slice Ao21 t253.length co21, .string t256, .string t257]] rfl (by (try simp only [List.map_toArray, List.map_cons, List.map_nil]); first | done | rfl | (simp only [List.length_drop, List.length_take]; rfl)) ?_; (with_reducible refine (laws_eqStripe.calls k _ _ t266 t269 t270 _ _ t253 t256 t257 true _ ?side1 ?side2 ?side3 ?side4 A38.out).mono ?_); (case side1 => refine (Kd.R_reads' (e := 9) (base := w.heap.size) (ok := fun k_ => (((True ∧ some k_ ≠ (.slice Ao18 t248.length co18 : Value).ownBlock) ∧ some k_ ≠ (.slice Ao21 t253.length co21 : Value).ownBlock) ∧ some k_ ≠ (.slice Ao27 t260.length co27 : Value).ownBlock)) (n := t266.length) (c := co33) ?_).2.2; exact (by (with_reducible repeat (first | apply Kd.R_alloc | apply Kd.R_drewN | apply Kd.R_drew)); exact (Kd.R_mono (Kd.R_far (p := ⟨gb272, 2, none⟩) (Kd.R_far (p := ⟨gb272, 1, none⟩) (Kd.R_far (p := ⟨gb272, 0, none⟩) (Kd.R_types HO268.out BK272.out (by decide)) (fun _ hk => hk.2) (.slice Ao33 t266.length co33)) (fun _ hk => hk.2) (.string t269)) (fun _ hk => hk.2) (.string t270)) (fun _ h_ => h_.1)))); (case side2 => exact (Kd.R_reads' HO268.out).2.1); (case side3 => refine (Kd.R_reads' (e := 9) (base := w.heap.size) (ok := fun k_ => (((True ∧ some k_ ≠ (.slice Ao18 t248.length co18 : Value).ownBlock) ∧ some k_ ≠ (.slice Ao27 t260.length co27 : Value).ownBlock) ∧ some k_ ≠ (.slice Ao33 t266.length co33 : Value).ownBlock)) (n := t253.length) (c := co21) ?_).2.2; exact (by (with_reducible repeat (first | apply Kd.R_alloc | apply Kd.R_drewN | apply Kd.R_drew)); exact (Kd.R_mono (Kd.R_far (p := ⟨gb272, 2, none⟩) (Kd.R_far (p := ⟨gb272, 1, none⟩) (Kd.R_far (p := ⟨gb272, 0, none⟩) (Kd.R_types HO255.out BK272.out (by decide)) (fun _ hk => hk.2) (.slice Ao33 t266.length co33)) (fun _ hk => hk.2) (.string t269)) (fun _ hk => hk.2) (.string t270)) (fun _ h_ => h_.1)))); (case side4 => exact (Kd.R_reads' HO255.out).2.1); rintro e w47 ⟨rfl, hb⟩; refine ⟨_, rfl, ?_⟩; have n0_ := Aside0.mk (Kd.R_below (by (with_reducible repeat (first | apply Kd.R_alloc | apply Kd.R_drewN | apply Kd.R_drew)); exact (Kd.R_mono (Kd.R_far (p := ⟨gb272, 2, none⟩) (Kd.R_far (p := ⟨gb272, 1, none⟩) (Kd.R_far (p := ⟨gb272, 0, none⟩) (Kd.R_types HO250.out BK272.out (by decide)) (fun _ hk => hk.2) (.slice Ao33 t266.length co33)) (fun _ hk => hk.2) (.string t269)) (fun _ hk => hk.2) (.string t270)) (fun _ h_ => h_.1))) hb); have n1_ := Aside0.mk (Kd.R_below (by (with_reducible repeat (first | apply Kd.R_alloc | apply Kd.R_drewN | apply Kd.R_drew)); exact (Kd.R_mono (Kd.R_far (p := ⟨gb272, 2, none⟩) (Kd.R_far (p := ⟨gb272, 1, none⟩) (Kd.R_far (p := ⟨gb272, 0, none⟩) (Kd.R_types HO255.out BK272.out (by decide)) (fun _ hk => hk.2) (.slice Ao33 t266.length co33)) (fun _ hk => hk.2) (.string t269)) (fun _ hk => hk.2) (.string t270)) (fun _ h_ => h_.1))) hb); have n2_ := Aside0.mk (Kd.R_below (by (with_reducible repeat (first | apply Kd.R_alloc | apply Kd.R_drewN | apply Kd.R_drew)); exact (Kd.R_mono (Kd.R_far (p := ⟨gb272, 2, none⟩) (Kd.R_far (p := ⟨gb272, 1, none⟩) (Kd.R_far (p := ⟨gb272, 0, none⟩) (Kd.R_types HO262.out BK272.out (by decide)) (fun _ hk => hk.2) (.slice Ao33 t266.length co33)) (fun _ hk => hk.2) (.string t269)) (fun _ hk => hk.2) (.string t270)) (fun _ h_ => h_.1))) hb); have n3_ := Aside0.mk (Kd.R_below (by (with_reducible repeat (first | apply Kd.R_alloc | apply Kd.R_drewN | apply Kd.R_drew)); exact (Kd.R_mono (Kd.R_far (p := ⟨gb272, 2, none⟩) (Kd.R_far (p := ⟨gb272, 1, none⟩) (Kd.R_far (p := ⟨gb272, 0, none⟩) (Kd.R_types HO268.out BK272.out (by decide)) (fun _ hk => hk.2) (.slice Ao33 t266.length co33)) (fun _ hk => hk.2) (.string t269)) (fun _ hk => hk.2) (.string t270)) (fun _ h_ => h_.1))) hb); have n4_ := Aside0.mk (blk_below (g := gb246) (o := .cells #[.slice A0_0 l0_0.length c0_0, .string a0_1, .string a0_2] 24 (0, 0)) (by (with_reducible repeat (first | refine blk_drewN ?_ _ | refine blk_drew ?_ | refine blk_alloc ?_ _)); refine blk_far ?_ NB246_272.out _; (with_reducible repeat (first | refine blk_drewN ?_ _ | refine blk_drew ?_ | refine blk_alloc ?_ _)); refine blk_far ?_ NB246_272.out _; (with_reducible repeat (first | refine blk_drewN ?_ _ | refine blk_drew ?_ | refine blk_alloc ?_ _)); refine blk_far ?_ NB246_272.out _; (with_reducible repeat (first | refine blk_drewN ?_ _ | refine blk_drew ?_ | refine blk_alloc ?_ _)); exact BK246.out) hb); have n5_ := Aside0.mk (blk_below (g := gb259) (o := .cells #[.slice Ao21 t253.length co21, .string t256, .string t257] 27 (0, 0)) (by (with_reducible repeat (first | refine blk_drewN ?_ _ | refine blk_drew ?_ | refine blk_alloc ?_ _)); refine blk_far ?_ NB259_272.out _; (with_reducible repeat (first | refine blk_drewN ?_ _ | refine blk_drew ?_ | refine blk_alloc ?_ _)); refine blk_far ?_ NB259_272.out _; (with_reducible repeat (first | refine blk_drewN ?_ _ | refine blk_drew ?_ | refine blk_alloc ?_ _)); refine blk_far ?_ NB259_272.out _; (with_reducible repeat (first | refine blk_drewN ?_ _ | refine blk_drew ?_ | refine blk_alloc ?_ _)); exact BK259.out) hb); have n6_ := Aside0.mk (blk_below (g := gb265) (o := .cells #[.slice Ao27 t260.length co27, .string t263, .string t264] 27 (0, 0)) (by (with_reducible repeat (first | refine blk_drewN ?_ _ | refine blk_drew ?_ | refine blk_alloc ?_ _)); refine blk_far ?_ NB265_272.out _; (with_reducible repeat (first | refine blk_drewN ?_ _ | refine blk_drew ?_ | refine blk_alloc ?_ _)); refine blk_far ?_ NB265_272.out _; (with_reducible repeat (first | refine blk_drewN ?_ _ | refine blk_drew ?_ | refine blk_alloc ?_ _)); refine blk_far ?_ NB265_272.out _; (with_reducible repeat (first | refine blk_drewN ?_ _ | refine blk_drew ?_ | refine blk_alloc ?_ _)); exact BK265.out) hb); have n7_ := Aside0.mk (blk_below (g := gb272) (o := .cells #[.slice Ao33 t266.length co33, .string t269, .string t270] 27 (0, 0)) (by (with_reducible repeat (first | refine blk_drewN ?_ _ | refine blk_drew ?_ | refine blk_alloc ?_ _)); refine blk_put (cs := #[.slice Ao33 t266.length co33, .string t269, .string (⟨#[]⟩ : ByteArray)]) ?_ 2 _ rfl; (with_reducible repeat (first | refine blk_drewN ?_ _ | refine blk_drew ?_ | refine blk_alloc ?_ _)); refine blk_put (cs := #[.slice Ao33 t266.length co33, .string (⟨#[]⟩ : ByteArray), .string (⟨#[]⟩ : ByteArray)]) ?_ 1 _ rfl; (with_reducible repeat (first | refine blk_drewN ?_ _ | refine blk_drew ?_ | refine blk_alloc ?_ _)); refine blk_put (cs := #[.slice none 0 0, .string (⟨#[]⟩ : ByteArray), .string (⟨#[]⟩ : ByteArray)]) ?_ 0 _ rfl; (with_reducible repeat (first | refine blk_drewN ?_ _ | refine blk_drew ?_ | refine blk_alloc ?_ _)); exact BK272.out) hb); have n8_ := Aside0.mk (below_step (by repeat (first | (with_reducible first | exact HB.out | apply below_alloc | apply pw_below_drewN | apply below_drew1 | refine below_set ?_ GE246.out | refine below_set ?_ GE259.out | refine below_set ?_ GE265.out | refine below_set ?_ GE272.out) | exact HB.out)) hb); clear HO250; clear HO255; clear HO262; clear HO268; clear BK246; clear BK259; clear BK265; clear BK272; clear HB; have HO250 := n0_; have HO255 := n1_; have HO262 := n2_; have HO268 := n3_; have BK246 := n4_; have BK259 := n5_; have BK265 := n6_; have BK272 := n7_; have HB := n8_; clear n0_ n1_ n2_ n3_ n4_ n5_ n6_ n7_ n8_; (try clear hb); (try clear hb2); (try clear hk); (try clear hi)))
        go_meet
        case rel => exact ⟨_, ((t271 != t258)), (by first | rfl | (simp; done) | (simp [*]; done)), H', ⟨by first | omega | exact Nat.le_refl _⟩, ⟨by (with_reducible repeat (first | apply Kd.R_alloc | apply Kd.R_drewN | apply Kd.R_drew)); exact Kd.R_mono HO255.out (fun _ hk => ⟨hk.1.2, hk.2⟩)⟩, ⟨by (with_reducible repeat (first | apply Kd.R_alloc | apply Kd.R_drewN | apply Kd.R_drew)); exact Kd.R_mono HO262.out (fun _ hk => ⟨hk.1.2, hk.2⟩)⟩, ⟨by (with_reducible repeat (first | apply Kd.R_alloc | apply Kd.R_drewN | apply Kd.R_drew)); exact Kd.R_mono HO268.out (fun _ hk => ⟨hk.1.2, hk.2⟩)⟩, ⟨by (with_reducible repeat (first | refine blk_drewN ?_ _ | refine blk_drew ?_ | refine blk_alloc ?_ _)); exact BK246.out⟩, ⟨by (with_reducible repeat (first | refine blk_drewN ?_ _ | refine blk_drew ?_ | refine blk_alloc ?_ _)); exact BK259.out⟩, ⟨by (with_reducible repeat (first | refine blk_drewN ?_ _ | refine blk_drew ?_ | refine blk_alloc ?_ _)); exact BK265.out⟩, ⟨by (with_reducible repeat (first | refine blk_drewN ?_ _ | refine blk_drew ?_ | refine blk_alloc ?_ _)); exact BK272.out⟩, ⟨by repeat (first | (with_reducible first | exact HB.out | apply below_alloc | apply pw_below_drewN | apply below_drew1 | refine below_set ?_ GE246.out | refine below_set ?_ GE259.out | refine below_set ?_ GE265.out | refine below_set ?_ GE272.out) | exact HB.out)⟩⟩
      · replace c39 := Bool.eq_false_iff.mpr c39
        subst c39
        have H1 : (laws_FnExactRecoverOne.j0 k a1 t258 t271 true l0_0 a0_1 a0_2 t253 t256 t257 t260 t263 t264 t266 t269 t270) = some r := by rw [if_neg (show ¬ (false = true) by decide)] at H; exact H
        clear H
        have H := H1
        clear H1
        have H' := Aside0.mk H
        clear H
        have hnb48 := NB272_246.out
        have hnc48 := NB246_272.out
        have hnb49 := NB272_259.out
        have hnc49 := NB259_272.out
        have hnb50 := NB272_265.out
        have hnc50 := NB265_272.out
        have hcz51_0 : w32.cell? ⟨gb272, 0, none⟩ = some (.slice none 0 0) := (blk_cell BK272.out 0).trans rfl
        have hcz51_1 : w32.cell? ⟨gb272, 1, none⟩ = some (.string (⟨#[]⟩ : ByteArray)) := (blk_cell BK272.out 1).trans rfl
        have hcz51_2 : w32.cell? ⟨gb272, 2, none⟩ = some (.string (⟨#[]⟩ : ByteArray)) := (blk_cell BK272.out 2).trans rfl
        have hfz51_0 := blk_frozen BK272.out 0
        have hfz51_1 := blk_frozen BK272.out 1
        have hfz51_2 := blk_frozen BK272.out 2
        have hnb52 := NB259_246.out
        have hnc52 := NB246_259.out
        have hnb53 := NB259_265.out
        have hnc53 := NB265_259.out
        have hcz54_0 : w32.cell? ⟨gb259, 0, none⟩ = some (.slice Ao21 t253.length co21) := (blk_cell BK259.out 0).trans rfl
        have hcz54_1 : w32.cell? ⟨gb259, 1, none⟩ = some (.string t256) := (blk_cell BK259.out 1).trans rfl
        have hcz54_2 : w32.cell? ⟨gb259, 2, none⟩ = some (.string t257) := (blk_cell BK259.out 2).trans rfl
        have hfz54_0 := blk_frozen BK259.out 0
        have hfz54_1 := blk_frozen BK259.out 1
        have hfz54_2 := blk_frozen BK259.out 2
        go_wp2_with (first | ((with_reducible refine gate_callee (f := 16) rfl ?_); refine goesL_ (some 38) rfl rfl Try.func16 (by kernel_rfl) rfl #[.agg #[.slice Ao33 t266.length co33, .string t269, .string t270], .agg #[.slice Ao21 t253.length co21, .string t256, .string t257]] rfl (by (try simp only [List.map_toArray, List.map_cons, List.map_nil]); first | done | rfl | (simp only [List.length_drop, List.length_take]; rfl)) ?_; (with_reducible refine (laws_eqStripe.calls k _ _ t266 t269 t270 _ _ t253 t256 t257 false _ ?side1 ?side2 ?side3 ?side4 A38.out).mono ?_); (case side1 => refine (Kd.R_reads' (e := 9) (base := w.heap.size) (ok := fun k_ => (((True ∧ some k_ ≠ (.slice Ao18 t248.length co18 : Value).ownBlock) ∧ some k_ ≠ (.slice Ao21 t253.length co21 : Value).ownBlock) ∧ some k_ ≠ (.slice Ao27 t260.length co27 : Value).ownBlock)) (n := t266.length) (c := co33) ?_).2.2; exact (by (with_reducible repeat (first | apply Kd.R_alloc | apply Kd.R_drewN | apply Kd.R_drew)); exact (Kd.R_mono (Kd.R_far (p := ⟨gb272, 2, none⟩) (Kd.R_far (p := ⟨gb272, 1, none⟩) (Kd.R_far (p := ⟨gb272, 0, none⟩) (Kd.R_types HO268.out BK272.out (by decide)) (fun _ hk => hk.2) (.slice Ao33 t266.length co33)) (fun _ hk => hk.2) (.string t269)) (fun _ hk => hk.2) (.string t270)) (fun _ h_ => h_.1)))); (case side2 => exact (Kd.R_reads' HO268.out).2.1); (case side3 => refine (Kd.R_reads' (e := 9) (base := w.heap.size) (ok := fun k_ => (((True ∧ some k_ ≠ (.slice Ao18 t248.length co18 : Value).ownBlock) ∧ some k_ ≠ (.slice Ao27 t260.length co27 : Value).ownBlock) ∧ some k_ ≠ (.slice Ao33 t266.length co33 : Value).ownBlock)) (n := t253.length) (c := co21) ?_).2.2; exact (by (with_reducible repeat (first | apply Kd.R_alloc | apply Kd.R_drewN | apply Kd.R_drew)); exact (Kd.R_mono (Kd.R_far (p := ⟨gb272, 2, none⟩) (Kd.R_far (p := ⟨gb272, 1, none⟩) (Kd.R_far (p := ⟨gb272, 0, none⟩) (Kd.R_types HO255.out BK272.out (by decide)) (fun _ hk => hk.2) (.slice Ao33 t266.length co33)) (fun _ hk => hk.2) (.string t269)) (fun _ hk => hk.2) (.string t270)) (fun _ h_ => h_.1)))); (case side4 => exact (Kd.R_reads' HO255.out).2.1); rintro e w55 ⟨rfl, hb⟩; refine ⟨_, rfl, ?_⟩; have n0_ := Aside0.mk (Kd.R_below (by (with_reducible repeat (first | apply Kd.R_alloc | apply Kd.R_drewN | apply Kd.R_drew)); exact (Kd.R_mono (Kd.R_far (p := ⟨gb272, 2, none⟩) (Kd.R_far (p := ⟨gb272, 1, none⟩) (Kd.R_far (p := ⟨gb272, 0, none⟩) (Kd.R_types HO250.out BK272.out (by decide)) (fun _ hk => hk.2) (.slice Ao33 t266.length co33)) (fun _ hk => hk.2) (.string t269)) (fun _ hk => hk.2) (.string t270)) (fun _ h_ => h_.1))) hb); have n1_ := Aside0.mk (Kd.R_below (by (with_reducible repeat (first | apply Kd.R_alloc | apply Kd.R_drewN | apply Kd.R_drew)); exact (Kd.R_mono (Kd.R_far (p := ⟨gb272, 2, none⟩) (Kd.R_far (p := ⟨gb272, 1, none⟩) (Kd.R_far (p := ⟨gb272, 0, none⟩) (Kd.R_types HO255.out BK272.out (by decide)) (fun _ hk => hk.2) (.slice Ao33 t266.length co33)) (fun _ hk => hk.2) (.string t269)) (fun _ hk => hk.2) (.string t270)) (fun _ h_ => h_.1))) hb); have n2_ := Aside0.mk (Kd.R_below (by (with_reducible repeat (first | apply Kd.R_alloc | apply Kd.R_drewN | apply Kd.R_drew)); exact (Kd.R_mono (Kd.R_far (p := ⟨gb272, 2, none⟩) (Kd.R_far (p := ⟨gb272, 1, none⟩) (Kd.R_far (p := ⟨gb272, 0, none⟩) (Kd.R_types HO262.out BK272.out (by decide)) (fun _ hk => hk.2) (.slice Ao33 t266.length co33)) (fun _ hk => hk.2) (.string t269)) (fun _ hk => hk.2) (.string t270)) (fun _ h_ => h_.1))) hb); have n3_ := Aside0.mk (Kd.R_below (by (with_reducible repeat (first | apply Kd.R_alloc | apply Kd.R_drewN | apply Kd.R_drew)); exact (Kd.R_mono (Kd.R_far (p := ⟨gb272, 2, none⟩) (Kd.R_far (p := ⟨gb272, 1, none⟩) (Kd.R_far (p := ⟨gb272, 0, none⟩) (Kd.R_types HO268.out BK272.out (by decide)) (fun _ hk => hk.2) (.slice Ao33 t266.length co33)) (fun _ hk => hk.2) (.string t269)) (fun _ hk => hk.2) (.string t270)) (fun _ h_ => h_.1))) hb); have n4_ := Aside0.mk (blk_below (g := gb246) (o := .cells #[.slice A0_0 l0_0.length c0_0, .string a0_1, .string a0_2] 24 (0, 0)) (by (with_reducible repeat (first | refine blk_drewN ?_ _ | refine blk_drew ?_ | refine blk_alloc ?_ _)); refine blk_far ?_ NB246_272.out _; (with_reducible repeat (first | refine blk_drewN ?_ _ | refine blk_drew ?_ | refine blk_alloc ?_ _)); refine blk_far ?_ NB246_272.out _; (with_reducible repeat (first | refine blk_drewN ?_ _ | refine blk_drew ?_ | refine blk_alloc ?_ _)); refine blk_far ?_ NB246_272.out _; (with_reducible repeat (first | refine blk_drewN ?_ _ | refine blk_drew ?_ | refine blk_alloc ?_ _)); exact BK246.out) hb); have n5_ := Aside0.mk (blk_below (g := gb259) (o := .cells #[.slice Ao21 t253.length co21, .string t256, .string t257] 27 (0, 0)) (by (with_reducible repeat (first | refine blk_drewN ?_ _ | refine blk_drew ?_ | refine blk_alloc ?_ _)); refine blk_far ?_ NB259_272.out _; (with_reducible repeat (first | refine blk_drewN ?_ _ | refine blk_drew ?_ | refine blk_alloc ?_ _)); refine blk_far ?_ NB259_272.out _; (with_reducible repeat (first | refine blk_drewN ?_ _ | refine blk_drew ?_ | refine blk_alloc ?_ _)); refine blk_far ?_ NB259_272.out _; (with_reducible repeat (first | refine blk_drewN ?_ _ | refine blk_drew ?_ | refine blk_alloc ?_ _)); exact BK259.out) hb); have n6_ := Aside0.mk (blk_below (g := gb265) (o := .cells #[.slice Ao27 t260.length co27, .string t263, .string t264] 27 (0, 0)) (by (with_reducible repeat (first | refine blk_drewN ?_ _ | refine blk_drew ?_ | refine blk_alloc ?_ _)); refine blk_far ?_ NB265_272.out _; (with_reducible repeat (first | refine blk_drewN ?_ _ | refine blk_drew ?_ | refine blk_alloc ?_ _)); refine blk_far ?_ NB265_272.out _; (with_reducible repeat (first | refine blk_drewN ?_ _ | refine blk_drew ?_ | refine blk_alloc ?_ _)); refine blk_far ?_ NB265_272.out _; (with_reducible repeat (first | refine blk_drewN ?_ _ | refine blk_drew ?_ | refine blk_alloc ?_ _)); exact BK265.out) hb); have n7_ := Aside0.mk (blk_below (g := gb272) (o := .cells #[.slice Ao33 t266.length co33, .string t269, .string t270] 27 (0, 0)) (by (with_reducible repeat (first | refine blk_drewN ?_ _ | refine blk_drew ?_ | refine blk_alloc ?_ _)); refine blk_put (cs := #[.slice Ao33 t266.length co33, .string t269, .string (⟨#[]⟩ : ByteArray)]) ?_ 2 _ rfl; (with_reducible repeat (first | refine blk_drewN ?_ _ | refine blk_drew ?_ | refine blk_alloc ?_ _)); refine blk_put (cs := #[.slice Ao33 t266.length co33, .string (⟨#[]⟩ : ByteArray), .string (⟨#[]⟩ : ByteArray)]) ?_ 1 _ rfl; (with_reducible repeat (first | refine blk_drewN ?_ _ | refine blk_drew ?_ | refine blk_alloc ?_ _)); refine blk_put (cs := #[.slice none 0 0, .string (⟨#[]⟩ : ByteArray), .string (⟨#[]⟩ : ByteArray)]) ?_ 0 _ rfl; (with_reducible repeat (first | refine blk_drewN ?_ _ | refine blk_drew ?_ | refine blk_alloc ?_ _)); exact BK272.out) hb); have n8_ := Aside0.mk (below_step (by repeat (first | (with_reducible first | exact HB.out | apply below_alloc | apply pw_below_drewN | apply below_drew1 | refine below_set ?_ GE246.out | refine below_set ?_ GE259.out | refine below_set ?_ GE265.out | refine below_set ?_ GE272.out) | exact HB.out)) hb); clear HO250; clear HO255; clear HO262; clear HO268; clear BK246; clear BK259; clear BK265; clear BK272; clear HB; have HO250 := n0_; have HO255 := n1_; have HO262 := n2_; have HO268 := n3_; have BK246 := n4_; have BK259 := n5_; have BK265 := n6_; have BK272 := n7_; have HB := n8_; clear n0_ n1_ n2_ n3_ n4_ n5_ n6_ n7_ n8_; (try clear hb); (try clear hb2); (try clear hk); (try clear hi)))
        go_meet
        case rel => exact ⟨_, (true), (by first | rfl | (simp; done) | (simp [*]; done)), H', ⟨by first | omega | exact Nat.le_refl _⟩, ⟨by (with_reducible repeat (first | apply Kd.R_alloc | apply Kd.R_drewN | apply Kd.R_drew)); exact Kd.R_mono HO255.out (fun _ hk => ⟨hk.1.2, hk.2⟩)⟩, ⟨by (with_reducible repeat (first | apply Kd.R_alloc | apply Kd.R_drewN | apply Kd.R_drew)); exact Kd.R_mono HO262.out (fun _ hk => ⟨hk.1.2, hk.2⟩)⟩, ⟨by (with_reducible repeat (first | apply Kd.R_alloc | apply Kd.R_drewN | apply Kd.R_drew)); exact Kd.R_mono HO268.out (fun _ hk => ⟨hk.1.2, hk.2⟩)⟩, ⟨by (with_reducible repeat (first | refine blk_drewN ?_ _ | refine blk_drew ?_ | refine blk_alloc ?_ _)); exact BK246.out⟩, ⟨by (with_reducible repeat (first | refine blk_drewN ?_ _ | refine blk_drew ?_ | refine blk_alloc ?_ _)); exact BK259.out⟩, ⟨by (with_reducible repeat (first | refine blk_drewN ?_ _ | refine blk_drew ?_ | refine blk_alloc ?_ _)); exact BK265.out⟩, ⟨by (with_reducible repeat (first | refine blk_drewN ?_ _ | refine blk_drew ?_ | refine blk_alloc ?_ _)); exact BK272.out⟩, ⟨by repeat (first | (with_reducible first | exact HB.out | apply below_alloc | apply pw_below_drewN | apply below_drew1 | refine below_set ?_ GE246.out | refine below_set ?_ GE259.out | refine below_set ?_ GE265.out | refine below_set ?_ GE272.out) | exact HB.out)⟩⟩
    case rest =>
      clear HC12
      try clear c1
      try clear c2
      try clear p2
      try clear c3
      try clear c4
      try clear c4b0
      try clear c5
      try clear c8
      try clear c12
      try clear c14
      try clear c16
      try clear c22
      try clear c28
      try clear c29
      try clear c31
      try clear c32
      try clear c34
      try clear c35
      try clear c36
      try clear c39
      try clear c40
      try clear c41
      try clear c42
      try clear c44
      try clear c45
      try clear c48
      try clear c49
      try clear c50
      try clear c52
      try clear c53
      try clear hcz14_0
      try clear hcz14_1
      try clear hcz14_2
      try clear hcz16_0
      try clear hcz16_1
      try clear hcz16_2
      try clear hcz23_0
      try clear hcz23_1
      try clear hcz23_2
      try clear hcz24_0
      try clear hcz24_1
      try clear hcz24_2
      try clear hcz30_0
      try clear hcz30_1
      try clear hcz30_2
      try clear hcz37_0
      try clear hcz37_1
      try clear hcz37_2
      try clear hcz43_0
      try clear hcz43_1
      try clear hcz43_2
      try clear hcz46_0
      try clear hcz46_1
      try clear hcz46_2
      try clear hcz51_0
      try clear hcz51_1
      try clear hcz51_2
      try clear hcz54_0
      try clear hcz54_1
      try clear hcz54_2
      try clear hcz6_0
      try clear hcz6_1
      try clear hcz6_2
      try clear hfz14_0
      try clear hfz14_1
      try clear hfz14_2
      try clear hfz16_0
      try clear hfz16_1
      try clear hfz16_2
      try clear hfz23_0
      try clear hfz23_1
      try clear hfz23_2
      try clear hfz24_0
      try clear hfz24_1
      try clear hfz24_2
      try clear hfz30_0
      try clear hfz30_1
      try clear hfz30_2
      try clear hfz37_0
      try clear hfz37_1
      try clear hfz37_2
      try clear hfz43_0
      try clear hfz43_1
      try clear hfz43_2
      try clear hfz46_0
      try clear hfz46_1
      try clear hfz46_2
      try clear hfz51_0
      try clear hfz51_1
      try clear hfz51_2
      try clear hfz54_0
      try clear hfz54_1
      try clear hfz54_2
      try clear hfz6_0
      try clear hfz6_1
      try clear hfz6_2
      obtain ⟨kq, x44_11, rfl, HA, HJ11, HO_260000, HO_266000, HO_273000, BK246, BK259, BK265, BK272, HB⟩ := hcut
      cases kq with
      | zero => exact absurd HA.out (fun h_ => by change none = some _ at h_; cases h_)
      | succ kj11 =>
        have H := HA.out
        clear HA
        simp only [laws_FnExactRecoverOne.j0] at H
        by_cases c56 : x44_11 = true
        · subst c56
          have H1 : (some false) = some r := by rw [if_pos rfl] at H; exact H
          clear H
          have H := H1
          clear H1
          obtain rfl := Option.some.inj H
          go_wp2
          go_ret
          exact ⟨by first | rfl | (simp [errW_none, errW_some] <;> rfl) | (simp [*, errW_none, errW_some] <;> rfl), by repeat (first | (with_reducible first | exact HB.out | apply below_alloc | apply pw_below_drewN | apply below_drew1 | refine below_set ?_ GE246.out | refine below_set ?_ GE259.out | refine below_set ?_ GE265.out | refine below_set ?_ GE272.out) | exact HB.out)⟩
        · replace c56 := Bool.eq_false_iff.mpr c56
          subst c56
          have H1 : ((laws_toStripe.f kj11 l0_0 a0_1 a0_2).bind fun bt274 => ((laws_eqStripe.f kj11 t260 t263 t264 bt274.1 bt274.2.1 bt274.2.2).bind fun t279 => (if t279 = true then ((laws_markStripe.f kj11 t260 t263 t264 1).bind fun bt280 => (if bt280.1 < 0 then (laws_FnExactRecoverOne.j1 kj11 a1 t258 true l0_0 a0_1 a0_2 t253 t256 t257 t266 t269 t270) else ((laws_eqStripe.f kj11 t266 t269 t270 t253 t256 t257).bind fun t282 => (if t282 = true then (laws_FnExactRecoverOne.j1 kj11 a1 t258 (t271 != t258) l0_0 a0_1 a0_2 t253 t256 t257 t266 t269 t270) else (laws_FnExactRecoverOne.j1 kj11 a1 t258 true l0_0 a0_1 a0_2 t253 t256 t257 t266 t269 t270))))) else (some false)))) = some r := by rw [if_neg (show ¬ (false = true) by decide)] at H; exact H
          clear H
          have H := H1
          clear H1
          replace H := Option.bind_eq_some_iff.mp H
          obtain ⟨⟨t274, t277, t278⟩, A570, H⟩ := H
          replace H : ((laws_eqStripe.f kj11 t260 t263 t264 t274 t277 t278).bind fun t279 => (if t279 = true then ((laws_markStripe.f kj11 t260 t263 t264 1).bind fun bt280 => (if bt280.1 < 0 then (laws_FnExactRecoverOne.j1 kj11 a1 t258 true l0_0 a0_1 a0_2 t253 t256 t257 t266 t269 t270) else ((laws_eqStripe.f kj11 t266 t269 t270 t253 t256 t257).bind fun t282 => (if t282 = true then (laws_FnExactRecoverOne.j1 kj11 a1 t258 (t271 != t258) l0_0 a0_1 a0_2 t253 t256 t257 t266 t269 t270) else (laws_FnExactRecoverOne.j1 kj11 a1 t258 true l0_0 a0_1 a0_2 t253 t256 t257 t266 t269 t270))))) else (some false))) = some r := H
          have A57 := Aside0.mk A570
          clear A570
          replace H := Option.bind_eq_some_iff.mp H
          obtain ⟨t279, A580, H⟩ := H
          replace H : (if t279 = true then ((laws_markStripe.f kj11 t260 t263 t264 1).bind fun bt280 => (if bt280.1 < 0 then (laws_FnExactRecoverOne.j1 kj11 a1 t258 true l0_0 a0_1 a0_2 t253 t256 t257 t266 t269 t270) else ((laws_eqStripe.f kj11 t266 t269 t270 t253 t256 t257).bind fun t282 => (if t282 = true then (laws_FnExactRecoverOne.j1 kj11 a1 t258 (t271 != t258) l0_0 a0_1 a0_2 t253 t256 t257 t266 t269 t270) else (laws_FnExactRecoverOne.j1 kj11 a1 t258 true l0_0 a0_1 a0_2 t253 t256 t257 t266 t269 t270))))) else (some false)) = some r := H
          have A58 := Aside0.mk A580
          clear A580
          by_cases c59 : t279 = true
          · subst c59
            have H1 : ((laws_markStripe.f kj11 t260 t263 t264 1).bind fun bt280 => (if bt280.1 < 0 then (laws_FnExactRecoverOne.j1 kj11 a1 t258 true l0_0 a0_1 a0_2 t253 t256 t257 t266 t269 t270) else ((laws_eqStripe.f kj11 t266 t269 t270 t253 t256 t257).bind fun t282 => (if t282 = true then (laws_FnExactRecoverOne.j1 kj11 a1 t258 (t271 != t258) l0_0 a0_1 a0_2 t253 t256 t257 t266 t269 t270) else (laws_FnExactRecoverOne.j1 kj11 a1 t258 true l0_0 a0_1 a0_2 t253 t256 t257 t266 t269 t270))))) = some r := by rw [if_pos rfl] at H; exact H
            clear H
            have H := H1
            clear H1
            replace H := Option.bind_eq_some_iff.mp H
            obtain ⟨⟨t280, t281⟩, A600, H⟩ := H
            replace H : (if t280 < 0 then (laws_FnExactRecoverOne.j1 kj11 a1 t258 true l0_0 a0_1 a0_2 t253 t256 t257 t266 t269 t270) else ((laws_eqStripe.f kj11 t266 t269 t270 t253 t256 t257).bind fun t282 => (if t282 = true then (laws_FnExactRecoverOne.j1 kj11 a1 t258 (t271 != t258) l0_0 a0_1 a0_2 t253 t256 t257 t266 t269 t270) else (laws_FnExactRecoverOne.j1 kj11 a1 t258 true l0_0 a0_1 a0_2 t253 t256 t257 t266 t269 t270)))) = some r := H
            have A60 := Aside0.mk A600
            clear A600
            have HC61 := Aside0.mk H
            clear H
            try go_wp2
            have n0_ := Aside0.mk (Kd.R_drew HO_260000.out)
            have n1_ := Aside0.mk (Kd.R_drew HO_266000.out)
            have n2_ := Aside0.mk (Kd.R_drew HO_273000.out)
            have n3_ := Aside0.mk (blk_drew BK246.out)
            have n4_ := Aside0.mk (blk_drew BK259.out)
            have n5_ := Aside0.mk (blk_drew BK265.out)
            have n6_ := Aside0.mk (blk_drew BK272.out)
            have n7_ := Aside0.mk (below_drew1 HB.out)
            clear HO_260000
            clear HO_266000
            clear HO_273000
            clear BK246
            clear BK259
            clear BK265
            clear BK272
            clear HB
            have HO_260000 := n0_
            have HO_266000 := n1_
            have HO_273000 := n2_
            have BK246 := n3_
            have BK259 := n4_
            have BK265 := n5_
            have BK272 := n6_
            have HB := n7_
            clear n0_ n1_ n2_ n3_ n4_ n5_ n6_ n7_
            refine start_ (n := 5) (S := fun w' => w'.cell? ⟨gb265, 0, none⟩ = some (.slice Ao27 t260.length co27) ∧ w'.cell? ⟨gb265, 1, none⟩ = some (.string t263) ∧ w'.cell? ⟨gb265, 2, none⟩ = some (.string t264) ∧ w'.cell? ⟨gb246, 0, none⟩ = some (.slice A0_0 l0_0.length c0_0) ∧ w'.cell? ⟨gb246, 1, none⟩ = some (.string a0_1) ∧ w'.cell? ⟨gb246, 2, none⟩ = some (.string a0_2)) (ds := []) #[false, false, false, false, false] (by kernel_rfl) rfl rfl ⟨(blk_cell BK265.out 0).trans rfl, (blk_cell BK265.out 1).trans rfl, (blk_cell BK265.out 2).trans rfl, (blk_cell BK246.out 0).trans rfl, (blk_cell BK246.out 1).trans rfl, (blk_cell BK246.out 2).trans rfl⟩ (fun hHeld => ?_)
            generalize wc.drew = w62 at HO_260000 HO_266000 HO_273000 BK246 BK259 BK265 BK272 HB hHeld ⊢
            refine take_ (i := 0) (N := some 45) (v := ?_) (a' := ?_) #[true, false, false, false, false] rfl rfl (by kernel_rfl) (fun _ _ _ h => h) (Or.inl ⟨by rfl, ?_⟩) hHeld ?_ ?_
            rotate_left
            · rintro w' ⟨s0, s1, s2, s3, s4, s5⟩
              go_simp
              with_reducible rfl
            rotate_left
            · simp only [Act.put, List.setIfInBounds_toArray, List.set_cons_zero, List.set_cons_succ, i64_w, i32_w]
              rfl
            refine take_ (i := 1) (N := some 46) (v := ?_) (a' := ?_) #[true, true, false, false, false] rfl rfl (by kernel_rfl) (fun _ _ _ h => h) (Or.inl ⟨by rfl, ?_⟩) hHeld ?_ ?_
            rotate_left
            · rintro w' ⟨s0, s1, s2, s3, s4, s5⟩
              go_simp
              with_reducible rfl
            rotate_left
            · simp only [Act.put, List.setIfInBounds_toArray, List.set_cons_zero, List.set_cons_succ, i64_w, i32_w]
              rfl
            refine one_ (i := 2) (N := some 47) #[true, true, true, false, false] rfl rfl (by kernel_rfl) (by decide) (fun K hK => ?_)
            refine goes_ Try.func14 (by kernel_rfl) rfl #[.agg #[.slice A0_0 l0_0.length c0_0, .string a0_1, .string a0_2]] (by rfl) rfl rfl (by (try simp only [List.map_toArray, List.map_cons, List.map_nil]); first | done | rfl | (simp only [List.length_drop, List.length_take]; rfl)) ?_
            with_reducible refine (laws_toStripe.calls kj11 _ _ l0_0 a0_1 a0_2 t274 t277 t278 _ ?side1 ?side2 A57.out).mono ?_
            (case side1 => repeat (first | exact (Kd.C_below HR0_0.out HB.out) | (with_reducible refine Kd.C_alloc ?_ _) | (with_reducible refine Kd.C_drewN ?_ _) | (with_reducible refine Kd.C_drew ?_)))
            (case side2 => exact HC0_0.out)
            rintro e w63 ⟨v275, rfl, ho0, hb⟩
            refine ⟨_, rfl, ?_⟩
            have n0_ := Aside0.mk (Kd.R_elder' (by (with_reducible repeat (first | apply Kd.R_alloc | apply Kd.R_drewN | apply Kd.R_drew)); exact HO_260000.out) (Kd.R_base ho0) hb)
            have n1_ := Aside0.mk (Kd.R_elder' (by (with_reducible repeat (first | apply Kd.R_alloc | apply Kd.R_drewN | apply Kd.R_drew)); exact HO_266000.out) (Kd.R_base ho0) hb)
            have n2_ := Aside0.mk (Kd.R_elder' (by (with_reducible repeat (first | apply Kd.R_alloc | apply Kd.R_drewN | apply Kd.R_drew)); exact HO_273000.out) (Kd.R_base ho0) hb)
            have n3_ := Aside0.mk (Kd.R_lower (Kd.R_new' (Kd.R_new' (Kd.R_new' ho0 (Kd.R_lt (by (with_reducible repeat (first | apply Kd.R_alloc | apply Kd.R_drewN | apply Kd.R_drew)); exact HO_260000.out))) (Kd.R_lt (by (with_reducible repeat (first | apply Kd.R_alloc | apply Kd.R_drewN | apply Kd.R_drew)); exact HO_266000.out))) (Kd.R_lt (by (with_reducible repeat (first | apply Kd.R_alloc | apply Kd.R_drewN | apply Kd.R_drew)); exact HO_273000.out))) (below_size (by repeat (first | (with_reducible first | exact HB.out | apply below_alloc | apply pw_below_drewN | apply below_drew1 | refine below_set ?_ GE246.out | refine below_set ?_ GE259.out | refine below_set ?_ GE265.out | refine below_set ?_ GE272.out) | exact HB.out))))
            have n4_ := Aside0.mk (blk_below (g := gb246) (o := .cells #[.slice A0_0 l0_0.length c0_0, .string a0_1, .string a0_2] 24 (0, 0)) (by (with_reducible repeat (first | refine blk_drewN ?_ _ | refine blk_drew ?_ | refine blk_alloc ?_ _)); exact BK246.out) hb)
            have n5_ := Aside0.mk (blk_below (g := gb259) (o := .cells #[.slice Ao21 t253.length co21, .string t256, .string t257] 27 (0, 0)) (by (with_reducible repeat (first | refine blk_drewN ?_ _ | refine blk_drew ?_ | refine blk_alloc ?_ _)); exact BK259.out) hb)
            have n6_ := Aside0.mk (blk_below (g := gb265) (o := .cells #[.slice Ao27 t260.length co27, .string t263, .string t264] 27 (0, 0)) (by (with_reducible repeat (first | refine blk_drewN ?_ _ | refine blk_drew ?_ | refine blk_alloc ?_ _)); exact BK265.out) hb)
            have n7_ := Aside0.mk (blk_below (g := gb272) (o := .cells #[.slice Ao33 t266.length co33, .string t269, .string t270] 27 (0, 0)) (by (with_reducible repeat (first | refine blk_drewN ?_ _ | refine blk_drew ?_ | refine blk_alloc ?_ _)); exact BK272.out) hb)
            have n8_ := Aside0.mk (below_step (by repeat (first | (with_reducible first | exact HB.out | apply below_alloc | apply pw_below_drewN | apply below_drew1 | refine below_set ?_ GE246.out | refine below_set ?_ GE259.out | refine below_set ?_ GE265.out | refine below_set ?_ GE272.out) | exact HB.out)) hb)
            clear HO_260000
            clear HO_266000
            clear HO_273000
            clear BK246
            clear BK259
            clear BK265
            clear BK272
            clear HB
            have HO_260000 := n0_
            have HO_266000 := n1_
            have HO_273000 := n2_
            have HO276 := n3_
            have BK246 := n4_
            have BK259 := n5_
            have BK265 := n6_
            have BK272 := n7_
            have HB := n8_
            clear n0_ n1_ n2_ n3_ n4_ n5_ n6_ n7_ n8_
            (try clear hb)
            (try clear hb2)
            (try clear hk)
            (try clear hi)
            (try clear ho0)
            obtain ⟨Ao64, co64, eo64⟩ := Kd.R_slice HO276.out
            (first | subst eo64 | (injection eo64 with f1_ f2_ f3_; have f4_ := f1_.symm; have f5_ := f3_.symm; clear f1_ f2_ f3_; subst f4_; subst f5_))
            refine hK.out _ _ ⟨(blk_cell BK265.out 0).trans rfl, (blk_cell BK265.out 1).trans rfl, (blk_cell BK265.out 2).trans rfl, (blk_cell BK246.out 0).trans rfl, (blk_cell BK246.out 1).trans rfl, (blk_cell BK246.out 2).trans rfl⟩ (fun hHeld => ?_)
            clear hK K
            refine norm_ (a' := ?_) ?_ ?_
            rotate_left
            · show Act.put _ (some 47) _ = _
              simp only [Act.put, List.setIfInBounds_toArray, List.set_cons_zero, List.set_cons_succ, i64_w, i32_w]
              rfl
            refine one_ (i := 3) (N := some 48) #[true, true, true, true, false] rfl rfl (by kernel_rfl) (by decide) (fun K hK => ?_)
            refine goes_ Try.func16 (by kernel_rfl) rfl #[.agg #[.slice Ao27 t260.length co27, .string t263, .string t264], .agg #[.slice Ao64 t274.length co64, .string t277, .string t278]] (by rfl) rfl rfl (by (try simp only [List.map_toArray, List.map_cons, List.map_nil]); first | done | rfl | (simp only [List.length_drop, List.length_take]; rfl)) ?_
            with_reducible refine (laws_eqStripe.calls kj11 _ _ t260 t263 t264 _ _ t274 t277 t278 true _ ?side1 ?side2 ?side3 ?side4 A58.out).mono ?_
            (case side1 => repeat (first | exact (Kd.R_reads' HO_266000.out).2.2 | (with_reducible refine Kd.C_alloc ?_ _) | (with_reducible refine Kd.C_drewN ?_ _) | (with_reducible refine Kd.C_drew ?_)))
            (case side2 => exact (Kd.R_reads' HO_266000.out).2.1)
            (case side3 => repeat (first | exact (Kd.R_reads' HO276.out).2.2 | (with_reducible refine Kd.C_alloc ?_ _) | (with_reducible refine Kd.C_drewN ?_ _) | (with_reducible refine Kd.C_drew ?_)))
            (case side4 => exact (Kd.R_reads' HO276.out).2.1)
            rintro e w65 ⟨rfl, hb⟩
            refine ⟨_, rfl, ?_⟩
            have n0_ := Aside0.mk (Kd.R_below (by (with_reducible repeat (first | apply Kd.R_alloc | apply Kd.R_drewN | apply Kd.R_drew)); exact HO_260000.out) hb)
            have n1_ := Aside0.mk (Kd.R_below (by (with_reducible repeat (first | apply Kd.R_alloc | apply Kd.R_drewN | apply Kd.R_drew)); exact HO_266000.out) hb)
            have n2_ := Aside0.mk (Kd.R_below (by (with_reducible repeat (first | apply Kd.R_alloc | apply Kd.R_drewN | apply Kd.R_drew)); exact HO_273000.out) hb)
            have n3_ := Aside0.mk (Kd.R_below (by (with_reducible repeat (first | apply Kd.R_alloc | apply Kd.R_drewN | apply Kd.R_drew)); exact HO276.out) hb)
            have n4_ := Aside0.mk (blk_below (g := gb246) (o := .cells #[.slice A0_0 l0_0.length c0_0, .string a0_1, .string a0_2] 24 (0, 0)) (by (with_reducible repeat (first | refine blk_drewN ?_ _ | refine blk_drew ?_ | refine blk_alloc ?_ _)); exact BK246.out) hb)
            have n5_ := Aside0.mk (blk_below (g := gb259) (o := .cells #[.slice Ao21 t253.length co21, .string t256, .string t257] 27 (0, 0)) (by (with_reducible repeat (first | refine blk_drewN ?_ _ | refine blk_drew ?_ | refine blk_alloc ?_ _)); exact BK259.out) hb)
            have n6_ := Aside0.mk (blk_below (g := gb265) (o := .cells #[.slice Ao27 t260.length co27, .string t263, .string t264] 27 (0, 0)) (by (with_reducible repeat (first | refine blk_drewN ?_ _ | refine blk_drew ?_ | refine blk_alloc ?_ _)); exact BK265.out) hb)
            have n7_ := Aside0.mk (blk_below (g := gb272) (o := .cells #[.slice Ao33 t266.length co33, .string t269, .string t270] 27 (0, 0)) (by (with_reducible repeat (first | refine blk_drewN ?_ _ | refine blk_drew ?_ | refine blk_alloc ?_ _)); exact BK272.out) hb)
            have n8_ := Aside0.mk (below_step (by repeat (first | (with_reducible first | exact HB.out | apply below_alloc | apply pw_below_drewN | apply below_drew1 | refine below_set ?_ GE246.out | refine below_set ?_ GE259.out | refine below_set ?_ GE265.out | refine below_set ?_ GE272.out) | exact HB.out)) hb)
            clear HO_260000
            clear HO_266000
            clear HO_273000
            clear HO276
            clear BK246
            clear BK259
            clear BK265
            clear BK272
            clear HB
            have HO_260000 := n0_
            have HO_266000 := n1_
            have HO_273000 := n2_
            have HO276 := n3_
            have BK246 := n4_
            have BK259 := n5_
            have BK265 := n6_
            have BK272 := n7_
            have HB := n8_
            clear n0_ n1_ n2_ n3_ n4_ n5_ n6_ n7_ n8_
            (try clear hb)
            (try clear hb2)
            (try clear hk)
            (try clear hi)
            refine hK.out _ _ ⟨(blk_cell BK265.out 0).trans rfl, (blk_cell BK265.out 1).trans rfl, (blk_cell BK265.out 2).trans rfl, (blk_cell BK246.out 0).trans rfl, (blk_cell BK246.out 1).trans rfl, (blk_cell BK246.out 2).trans rfl⟩ (fun hHeld => ?_)
            clear hK K
            refine norm_ (a' := ?_) ?_ ?_
            rotate_left
            · show Act.put _ (some 48) _ = _
              simp only [Act.put, List.setIfInBounds_toArray, List.set_cons_zero, List.set_cons_succ, i64_w, i32_w]
              rfl
            refine pure_ (i := 4) (N := some 49) (v := ?_) (a' := ?_) #[true, true, true, true, true] rfl rfl (by kernel_rfl) (fun _ _ _ h => h) (Or.inl ⟨by rfl, ?_⟩) ?_ ?_
            rotate_left
            · intro w'
              go_simp
              with_reducible rfl
            rotate_left
            · simp only [Act.put, List.setIfInBounds_toArray, List.set_cons_zero, List.set_cons_succ, i64_w, i32_w]
              rfl
            refine done_ (by kernel_rfl) ?_
            have hnb66 := NB265_246.out
            have hnc66 := NB246_265.out
            have hnb67 := NB265_259.out
            have hnc67 := NB259_265.out
            have hnb68 := NB265_272.out
            have hnc68 := NB272_265.out
            have hcz69_0 : w65.cell? ⟨gb265, 0, none⟩ = some (.slice Ao27 t260.length co27) := (blk_cell BK265.out 0).trans rfl
            have hcz69_1 : w65.cell? ⟨gb265, 1, none⟩ = some (.string t263) := (blk_cell BK265.out 1).trans rfl
            have hcz69_2 : w65.cell? ⟨gb265, 2, none⟩ = some (.string t264) := (blk_cell BK265.out 2).trans rfl
            have hfz69_0 := blk_frozen BK265.out 0
            have hfz69_1 := blk_frozen BK265.out 1
            have hfz69_2 := blk_frozen BK265.out 2
            go_upto_region 14 with (first | ((with_reducible refine gate_callee (f := 25) rfl ?_); refine goesL_ (some 52) rfl rfl Try.func25 (by kernel_rfl) rfl #[.agg #[.slice Ao27 t260.length co27, .string t263, .string t264], .int .i64 1] rfl (by (try simp only [List.map_toArray, List.map_cons, List.map_nil]); first | done | rfl | (simp only [List.length_drop, List.length_take]; rfl)) ?_; (with_reducible refine (laws_markStripe.calls kj11 (fun k_ => some k_ = (.slice Ao27 t260.length co27 : Value).ownBlock) (.slice Ao27 t260.length co27) t260 t263 t264 1 t280 t281 w _ ?side1 ?side2 A60.out).mono ?_); (case side1 => repeat (first | (with_reducible first | exact HB.out | apply below_alloc | apply pw_below_drewN | apply below_drew1 | refine below_set ?_ GE246.out | refine below_set ?_ GE259.out | refine below_set ?_ GE265.out | refine below_set ?_ GE272.out) | exact HB.out)); (case side2 => exact Kd.R_tight rfl HO_266000.out); rintro e w70 ⟨rfl, hy0, hb, hkp⟩; refine ⟨_, rfl, ?_⟩; have n0_ := Aside0.mk (Kd.R_mono (ok' := fun k_ => some k_ ≠ (.slice Ao27 t260.length co27 : Value).ownBlock ∧ some k_ ≠ (.slice Ao33 t266.length co33 : Value).ownBlock ∧ some k_ ≠ (.slice Ao64 t274.length co64 : Value).ownBlock) (Kd.R_keptB (HO_260000.out) hkp (fun k_ hk_ hs_ => (hk_.1.1) hs_)) (fun k_ hk_ => ⟨hk_.1.1.1, hk_.1.1.2, hk_.1.2⟩)); have n1_ := Aside0.mk (Kd.R_reok rfl hy0 (fun k_ e_ => HO_266000.out.1 k_ e_)); have n2_ := Aside0.mk (Kd.R_mono (ok' := fun k_ => some k_ ≠ (.slice Ao21 t253.length co21 : Value).ownBlock ∧ some k_ ≠ (.slice Ao27 t260.length co27 : Value).ownBlock ∧ some k_ ≠ (.slice Ao64 t274.length co64 : Value).ownBlock) (Kd.R_keptB (HO_273000.out) hkp (fun k_ hk_ hs_ => (hk_.1.2) hs_)) (fun k_ hk_ => ⟨hk_.1.1.1, hk_.1.1.2, hk_.1.2⟩)); have n3_ := Aside0.mk (blk_kept (by (with_reducible repeat (first | refine blk_drewN ?_ _ | refine blk_drew ?_ | refine blk_alloc ?_ _)); exact BK246.out) hkp (fun hs_ => (fun e_ => (Kd.R_ne HO_266000.out BK246.out (by decide)) e_) hs_)); have n4_ := Aside0.mk (blk_kept (by (with_reducible repeat (first | refine blk_drewN ?_ _ | refine blk_drew ?_ | refine blk_alloc ?_ _)); exact BK259.out) hkp (fun hs_ => (fun e_ => (Kd.R_ne HO_266000.out BK259.out (by decide)) e_) hs_)); have n5_ := Aside0.mk (blk_kept (by (with_reducible repeat (first | refine blk_drewN ?_ _ | refine blk_drew ?_ | refine blk_alloc ?_ _)); exact BK265.out) hkp (fun hs_ => (fun e_ => (Kd.R_ne HO_266000.out BK265.out (by decide)) e_) hs_)); have n6_ := Aside0.mk (blk_kept (by (with_reducible repeat (first | refine blk_drewN ?_ _ | refine blk_drew ?_ | refine blk_alloc ?_ _)); exact BK272.out) hkp (fun hs_ => (fun e_ => (Kd.R_ne HO_266000.out BK272.out (by decide)) e_) hs_)); have n7_ := Aside0.mk (Kd.R_mono (ok' := fun k_ => some k_ ≠ (.slice Ao21 t253.length co21 : Value).ownBlock ∧ some k_ ≠ (.slice Ao27 t260.length co27 : Value).ownBlock ∧ some k_ ≠ (.slice Ao33 t266.length co33 : Value).ownBlock) (Kd.R_keptB (HO276.out) hkp (fun k_ hk_ hs_ => (hk_.1.2) hs_)) (fun k_ hk_ => ⟨hk_.1.1.1.2, hk_.1.1.2, hk_.1.2⟩)); have n8_ := Aside0.mk (hb); clear HO_260000; clear HO_266000; clear HO_273000; clear BK246; clear BK259; clear BK265; clear BK272; clear HO276; clear HB; have HO_260000 := n0_; have HO_266000 := n1_; have HO_273000 := n2_; have BK246 := n3_; have BK259 := n4_; have BK265 := n5_; have BK272 := n6_; have HO276 := n7_; have HB := n8_; clear n0_ n1_ n2_ n3_ n4_ n5_ n6_ n7_ n8_; (try clear hb); (try clear hkp); (try clear hy0)))
            (try simp only [Act.put, List.setIfInBounds_toArray, List.set_cons_zero, List.set_cons_succ])
            go_cut [65] (fun v65 wc => ∃ (kq : Nat) (x65_60 : Bool), v65 = .bool x65_60 ∧ Aside0 (laws_FnExactRecoverOne.j1 kq a1 t258 x65_60 l0_0 a0_1 a0_2 t253 t256 t257 t266 t269 t270 = some r) ∧ Aside0 (kq ≤ kj11) ∧ Aside0 (Kd.R Kd.string 9 wc w.heap.size (fun k_ => some k_ ≠ ((.slice Ao27 t260.length co27) : Value).ownBlock ∧ some k_ ≠ ((.slice Ao33 t266.length co33) : Value).ownBlock) (.slice Ao21 t253.length co21) t253) ∧ Aside0 (Kd.R Kd.string 9 wc w.heap.size (fun k_ => some k_ ≠ ((.slice Ao21 t253.length co21) : Value).ownBlock ∧ some k_ ≠ ((.slice Ao33 t266.length co33) : Value).ownBlock) (.slice Ao27 t260.length co27) t281) ∧ Aside0 (Kd.R Kd.string 9 wc w.heap.size (fun k_ => some k_ ≠ ((.slice Ao21 t253.length co21) : Value).ownBlock ∧ some k_ ≠ ((.slice Ao27 t260.length co27) : Value).ownBlock) (.slice Ao33 t266.length co33) t266) ∧ Aside0 (wc.heap[gb246]? = some (.cells #[(.slice A0_0 l0_0.length c0_0), .string a0_1, .string a0_2] 24 (0, 0))) ∧ Aside0 (wc.heap[gb259]? = some (.cells #[(.slice Ao21 t253.length co21), .string t256, .string t257] 27 (0, 0))) ∧ Aside0 (wc.heap[gb265]? = some (.cells #[(.slice Ao27 t260.length co27), .string t263, .string t264] 27 (0, 0))) ∧ Aside0 (wc.heap[gb272]? = some (.cells #[(.slice Ao33 t266.length co33), .string t269, .string t270] 27 (0, 0))) ∧ Aside0 (Below w.heap.size w wc))
            case first =>
              have H := HC61.out
              clear HC61
              by_cases c71 : t280 < 0
              · rw [if_pos c71] at H
                have c71b0 : decide (t280 < 0) = true := decide_eq_true c71
                clear c71
                (first | rw [c71b0] | (simp only [i64_w, i32_w]; rw [c71b0]) | skip)
                have H' := Aside0.mk H
                clear H
                go_wp2
                go_meet
                case rel => exact ⟨_, (true), (by first | rfl | (simp; done) | (simp [*]; done)), H', ⟨by have := HJ11.out; first | omega | exact Nat.le_refl _⟩, ⟨by (with_reducible repeat (first | apply Kd.R_alloc | apply Kd.R_drewN | apply Kd.R_drew)); exact Kd.R_mono HO_260000.out (fun _ hk => ⟨hk.1, hk.2.1⟩)⟩, ⟨by (with_reducible repeat (first | apply Kd.R_alloc | apply Kd.R_drewN | apply Kd.R_drew)); exact Kd.R_mono HO_266000.out (fun _ hk => ⟨hk.1.1, hk.1.2⟩)⟩, ⟨by (with_reducible repeat (first | apply Kd.R_alloc | apply Kd.R_drewN | apply Kd.R_drew)); exact Kd.R_mono HO_273000.out (fun _ hk => ⟨hk.1, hk.2.1⟩)⟩, ⟨by (with_reducible repeat (first | refine blk_drewN ?_ _ | refine blk_drew ?_ | refine blk_alloc ?_ _)); exact BK246.out⟩, ⟨by (with_reducible repeat (first | refine blk_drewN ?_ _ | refine blk_drew ?_ | refine blk_alloc ?_ _)); exact BK259.out⟩, ⟨by (with_reducible repeat (first | refine blk_drewN ?_ _ | refine blk_drew ?_ | refine blk_alloc ?_ _)); exact BK265.out⟩, ⟨by (with_reducible repeat (first | refine blk_drewN ?_ _ | refine blk_drew ?_ | refine blk_alloc ?_ _)); exact BK272.out⟩, ⟨by repeat (first | (with_reducible first | exact HB.out | apply below_alloc | apply pw_below_drewN | apply below_drew1 | refine below_set ?_ GE246.out | refine below_set ?_ GE259.out | refine below_set ?_ GE265.out | refine below_set ?_ GE272.out) | exact HB.out)⟩⟩
              · rw [if_neg c71] at H
                have c71b0 : decide (t280 < 0) = false := decide_eq_false c71
                clear c71
                (first | rw [c71b0] | (simp only [i64_w, i32_w]; rw [c71b0]) | skip)
                replace H := Option.bind_eq_some_iff.mp H
                obtain ⟨t282, A720, H⟩ := H
                replace H : (if t282 = true then (laws_FnExactRecoverOne.j1 kj11 a1 t258 (t271 != t258) l0_0 a0_1 a0_2 t253 t256 t257 t266 t269 t270) else (laws_FnExactRecoverOne.j1 kj11 a1 t258 true l0_0 a0_1 a0_2 t253 t256 t257 t266 t269 t270)) = some r := H
                have A72 := Aside0.mk A720
                clear A720
                by_cases c73 : t282 = true
                · subst c73
                  have H1 : (laws_FnExactRecoverOne.j1 kj11 a1 t258 (t271 != t258) l0_0 a0_1 a0_2 t253 t256 t257 t266 t269 t270) = some r := by rw [if_pos rfl] at H; exact H
                  clear H
                  have H := H1
                  clear H1
                  have H' := Aside0.mk H
                  clear H
                  have hnb74 := NB272_246.out
                  have hnc74 := NB246_272.out
                  have hnb75 := NB272_259.out
                  have hnc75 := NB259_272.out
                  have hnb76 := NB272_265.out
                  have hnc76 := NB265_272.out
                  have hcz77_0 : w70.cell? ⟨gb272, 0, none⟩ = some (.slice Ao33 t266.length co33) := (blk_cell BK272.out 0).trans rfl
                  have hcz77_1 : w70.cell? ⟨gb272, 1, none⟩ = some (.string t269) := (blk_cell BK272.out 1).trans rfl
                  have hcz77_2 : w70.cell? ⟨gb272, 2, none⟩ = some (.string t270) := (blk_cell BK272.out 2).trans rfl
                  have hfz77_0 := blk_frozen BK272.out 0
                  have hfz77_1 := blk_frozen BK272.out 1
                  have hfz77_2 := blk_frozen BK272.out 2
                  have hnb78 := NB259_246.out
                  have hnc78 := NB246_259.out
                  have hnb79 := NB259_265.out
                  have hnc79 := NB265_259.out
                  have hcz80_0 : w70.cell? ⟨gb259, 0, none⟩ = some (.slice Ao21 t253.length co21) := (blk_cell BK259.out 0).trans rfl
                  have hcz80_1 : w70.cell? ⟨gb259, 1, none⟩ = some (.string t256) := (blk_cell BK259.out 1).trans rfl
                  have hcz80_2 : w70.cell? ⟨gb259, 2, none⟩ = some (.string t257) := (blk_cell BK259.out 2).trans rfl
                  have hfz80_0 := blk_frozen BK259.out 0
                  have hfz80_1 := blk_frozen BK259.out 1
                  have hfz80_2 := blk_frozen BK259.out 2
                  go_wp2_with (first | (go_at_call 16; (with_reducible refine (laws_eqStripe.calls kj11 _ _ t266 t269 t270 _ _ t253 t256 t257 true _ ?side1 ?side2 ?side3 ?side4 A72.out).mono ?_); (case side1 => repeat (first | exact (Kd.R_reads' HO_273000.out).2.2 | (with_reducible refine Kd.C_alloc ?_ _) | (with_reducible refine Kd.C_drewN ?_ _) | (with_reducible refine Kd.C_drew ?_))); (case side2 => exact (Kd.R_reads' HO_273000.out).2.1); (case side3 => repeat (first | exact (Kd.R_reads' HO_260000.out).2.2 | (with_reducible refine Kd.C_alloc ?_ _) | (with_reducible refine Kd.C_drewN ?_ _) | (with_reducible refine Kd.C_drew ?_))); (case side4 => exact (Kd.R_reads' HO_260000.out).2.1); rintro e w81 ⟨rfl, hb⟩; have n0_ := Aside0.mk (Kd.R_below (by (with_reducible repeat (first | apply Kd.R_alloc | apply Kd.R_drewN | apply Kd.R_drew)); exact HO_260000.out) hb); have n1_ := Aside0.mk (Kd.R_below (by (with_reducible repeat (first | apply Kd.R_alloc | apply Kd.R_drewN | apply Kd.R_drew)); exact HO_266000.out) hb); have n2_ := Aside0.mk (Kd.R_below (by (with_reducible repeat (first | apply Kd.R_alloc | apply Kd.R_drewN | apply Kd.R_drew)); exact HO_273000.out) hb); have n3_ := Aside0.mk (Kd.R_below (by (with_reducible repeat (first | apply Kd.R_alloc | apply Kd.R_drewN | apply Kd.R_drew)); exact HO276.out) hb); have n4_ := Aside0.mk (blk_below (g := gb246) (o := .cells #[.slice A0_0 l0_0.length c0_0, .string a0_1, .string a0_2] 24 (0, 0)) (by (with_reducible repeat (first | refine blk_drewN ?_ _ | refine blk_drew ?_ | refine blk_alloc ?_ _)); exact BK246.out) hb); have n5_ := Aside0.mk (blk_below (g := gb259) (o := .cells #[.slice Ao21 t253.length co21, .string t256, .string t257] 27 (0, 0)) (by (with_reducible repeat (first | refine blk_drewN ?_ _ | refine blk_drew ?_ | refine blk_alloc ?_ _)); exact BK259.out) hb); have n6_ := Aside0.mk (blk_below (g := gb265) (o := .cells #[.slice Ao27 t260.length co27, .string t263, .string t264] 27 (0, 0)) (by (with_reducible repeat (first | refine blk_drewN ?_ _ | refine blk_drew ?_ | refine blk_alloc ?_ _)); exact BK265.out) hb); have n7_ := Aside0.mk (blk_below (g := gb272) (o := .cells #[.slice Ao33 t266.length co33, .string t269, .string t270] 27 (0, 0)) (by (with_reducible repeat (first | refine blk_drewN ?_ _ | refine blk_drew ?_ | refine blk_alloc ?_ _)); exact BK272.out) hb); have n8_ := Aside0.mk (below_step (by repeat (first | (with_reducible first | exact HB.out | apply below_alloc | apply pw_below_drewN | apply below_drew1 | refine below_set ?_ GE246.out | refine below_set ?_ GE259.out | refine below_set ?_ GE265.out | refine below_set ?_ GE272.out) | exact HB.out)) hb); clear HO_260000; clear HO_266000; clear HO_273000; clear HO276; clear BK246; clear BK259; clear BK265; clear BK272; clear HB; have HO_260000 := n0_; have HO_266000 := n1_; have HO_273000 := n2_; have HO276 := n3_; have BK246 := n4_; have BK259 := n5_; have BK265 := n6_; have BK272 := n7_; have HB := n8_; clear n0_ n1_ n2_ n3_ n4_ n5_ n6_ n7_ n8_; (try clear hb); (try clear hb2); (try clear hk); (try clear hi)))
                  go_meet
                  case rel => exact ⟨_, ((t271 != t258)), (by first | rfl | (simp; done) | (simp [*]; done)), H', ⟨by have := HJ11.out; first | omega | exact Nat.le_refl _⟩, ⟨by (with_reducible repeat (first | apply Kd.R_alloc | apply Kd.R_drewN | apply Kd.R_drew)); exact Kd.R_mono HO_260000.out (fun _ hk => ⟨hk.1, hk.2.1⟩)⟩, ⟨by (with_reducible repeat (first | apply Kd.R_alloc | apply Kd.R_drewN | apply Kd.R_drew)); exact Kd.R_mono HO_266000.out (fun _ hk => ⟨hk.1.1, hk.1.2⟩)⟩, ⟨by (with_reducible repeat (first | apply Kd.R_alloc | apply Kd.R_drewN | apply Kd.R_drew)); exact Kd.R_mono HO_273000.out (fun _ hk => ⟨hk.1, hk.2.1⟩)⟩, ⟨by (with_reducible repeat (first | refine blk_drewN ?_ _ | refine blk_drew ?_ | refine blk_alloc ?_ _)); exact BK246.out⟩, ⟨by (with_reducible repeat (first | refine blk_drewN ?_ _ | refine blk_drew ?_ | refine blk_alloc ?_ _)); exact BK259.out⟩, ⟨by (with_reducible repeat (first | refine blk_drewN ?_ _ | refine blk_drew ?_ | refine blk_alloc ?_ _)); exact BK265.out⟩, ⟨by (with_reducible repeat (first | refine blk_drewN ?_ _ | refine blk_drew ?_ | refine blk_alloc ?_ _)); exact BK272.out⟩, ⟨by repeat (first | (with_reducible first | exact HB.out | apply below_alloc | apply pw_below_drewN | apply below_drew1 | refine below_set ?_ GE246.out | refine below_set ?_ GE259.out | refine below_set ?_ GE265.out | refine below_set ?_ GE272.out) | exact HB.out)⟩⟩
                · replace c73 := Bool.eq_false_iff.mpr c73
                  subst c73
                  have H1 : (laws_FnExactRecoverOne.j1 kj11 a1 t258 true l0_0 a0_1 a0_2 t253 t256 t257 t266 t269 t270) = some r := by rw [if_neg (show ¬ (false = true) by decide)] at H; exact H
                  clear H
                  have H := H1
                  clear H1
                  have H' := Aside0.mk H
                  clear H
                  have hnb82 := NB272_246.out
                  have hnc82 := NB246_272.out
                  have hnb83 := NB272_259.out
                  have hnc83 := NB259_272.out
                  have hnb84 := NB272_265.out
                  have hnc84 := NB265_272.out
                  have hcz85_0 : w70.cell? ⟨gb272, 0, none⟩ = some (.slice Ao33 t266.length co33) := (blk_cell BK272.out 0).trans rfl
                  have hcz85_1 : w70.cell? ⟨gb272, 1, none⟩ = some (.string t269) := (blk_cell BK272.out 1).trans rfl
                  have hcz85_2 : w70.cell? ⟨gb272, 2, none⟩ = some (.string t270) := (blk_cell BK272.out 2).trans rfl
                  have hfz85_0 := blk_frozen BK272.out 0
                  have hfz85_1 := blk_frozen BK272.out 1
                  have hfz85_2 := blk_frozen BK272.out 2
                  have hnb86 := NB259_246.out
                  have hnc86 := NB246_259.out
                  have hnb87 := NB259_265.out
                  have hnc87 := NB265_259.out
                  have hcz88_0 : w70.cell? ⟨gb259, 0, none⟩ = some (.slice Ao21 t253.length co21) := (blk_cell BK259.out 0).trans rfl
                  have hcz88_1 : w70.cell? ⟨gb259, 1, none⟩ = some (.string t256) := (blk_cell BK259.out 1).trans rfl
                  have hcz88_2 : w70.cell? ⟨gb259, 2, none⟩ = some (.string t257) := (blk_cell BK259.out 2).trans rfl
                  have hfz88_0 := blk_frozen BK259.out 0
                  have hfz88_1 := blk_frozen BK259.out 1
                  have hfz88_2 := blk_frozen BK259.out 2
                  go_wp2_with (first | (go_at_call 16; (with_reducible refine (laws_eqStripe.calls kj11 _ _ t266 t269 t270 _ _ t253 t256 t257 false _ ?side1 ?side2 ?side3 ?side4 A72.out).mono ?_); (case side1 => repeat (first | exact (Kd.R_reads' HO_273000.out).2.2 | (with_reducible refine Kd.C_alloc ?_ _) | (with_reducible refine Kd.C_drewN ?_ _) | (with_reducible refine Kd.C_drew ?_))); (case side2 => exact (Kd.R_reads' HO_273000.out).2.1); (case side3 => repeat (first | exact (Kd.R_reads' HO_260000.out).2.2 | (with_reducible refine Kd.C_alloc ?_ _) | (with_reducible refine Kd.C_drewN ?_ _) | (with_reducible refine Kd.C_drew ?_))); (case side4 => exact (Kd.R_reads' HO_260000.out).2.1); rintro e w89 ⟨rfl, hb⟩; have n0_ := Aside0.mk (Kd.R_below (by (with_reducible repeat (first | apply Kd.R_alloc | apply Kd.R_drewN | apply Kd.R_drew)); exact HO_260000.out) hb); have n1_ := Aside0.mk (Kd.R_below (by (with_reducible repeat (first | apply Kd.R_alloc | apply Kd.R_drewN | apply Kd.R_drew)); exact HO_266000.out) hb); have n2_ := Aside0.mk (Kd.R_below (by (with_reducible repeat (first | apply Kd.R_alloc | apply Kd.R_drewN | apply Kd.R_drew)); exact HO_273000.out) hb); have n3_ := Aside0.mk (Kd.R_below (by (with_reducible repeat (first | apply Kd.R_alloc | apply Kd.R_drewN | apply Kd.R_drew)); exact HO276.out) hb); have n4_ := Aside0.mk (blk_below (g := gb246) (o := .cells #[.slice A0_0 l0_0.length c0_0, .string a0_1, .string a0_2] 24 (0, 0)) (by (with_reducible repeat (first | refine blk_drewN ?_ _ | refine blk_drew ?_ | refine blk_alloc ?_ _)); exact BK246.out) hb); have n5_ := Aside0.mk (blk_below (g := gb259) (o := .cells #[.slice Ao21 t253.length co21, .string t256, .string t257] 27 (0, 0)) (by (with_reducible repeat (first | refine blk_drewN ?_ _ | refine blk_drew ?_ | refine blk_alloc ?_ _)); exact BK259.out) hb); have n6_ := Aside0.mk (blk_below (g := gb265) (o := .cells #[.slice Ao27 t260.length co27, .string t263, .string t264] 27 (0, 0)) (by (with_reducible repeat (first | refine blk_drewN ?_ _ | refine blk_drew ?_ | refine blk_alloc ?_ _)); exact BK265.out) hb); have n7_ := Aside0.mk (blk_below (g := gb272) (o := .cells #[.slice Ao33 t266.length co33, .string t269, .string t270] 27 (0, 0)) (by (with_reducible repeat (first | refine blk_drewN ?_ _ | refine blk_drew ?_ | refine blk_alloc ?_ _)); exact BK272.out) hb); have n8_ := Aside0.mk (below_step (by repeat (first | (with_reducible first | exact HB.out | apply below_alloc | apply pw_below_drewN | apply below_drew1 | refine below_set ?_ GE246.out | refine below_set ?_ GE259.out | refine below_set ?_ GE265.out | refine below_set ?_ GE272.out) | exact HB.out)) hb); clear HO_260000; clear HO_266000; clear HO_273000; clear HO276; clear BK246; clear BK259; clear BK265; clear BK272; clear HB; have HO_260000 := n0_; have HO_266000 := n1_; have HO_273000 := n2_; have HO276 := n3_; have BK246 := n4_; have BK259 := n5_; have BK265 := n6_; have BK272 := n7_; have HB := n8_; clear n0_ n1_ n2_ n3_ n4_ n5_ n6_ n7_ n8_; (try clear hb); (try clear hb2); (try clear hk); (try clear hi)))
                  go_meet
                  case rel => exact ⟨_, (true), (by first | rfl | (simp; done) | (simp [*]; done)), H', ⟨by have := HJ11.out; first | omega | exact Nat.le_refl _⟩, ⟨by (with_reducible repeat (first | apply Kd.R_alloc | apply Kd.R_drewN | apply Kd.R_drew)); exact Kd.R_mono HO_260000.out (fun _ hk => ⟨hk.1, hk.2.1⟩)⟩, ⟨by (with_reducible repeat (first | apply Kd.R_alloc | apply Kd.R_drewN | apply Kd.R_drew)); exact Kd.R_mono HO_266000.out (fun _ hk => ⟨hk.1.1, hk.1.2⟩)⟩, ⟨by (with_reducible repeat (first | apply Kd.R_alloc | apply Kd.R_drewN | apply Kd.R_drew)); exact Kd.R_mono HO_273000.out (fun _ hk => ⟨hk.1, hk.2.1⟩)⟩, ⟨by (with_reducible repeat (first | refine blk_drewN ?_ _ | refine blk_drew ?_ | refine blk_alloc ?_ _)); exact BK246.out⟩, ⟨by (with_reducible repeat (first | refine blk_drewN ?_ _ | refine blk_drew ?_ | refine blk_alloc ?_ _)); exact BK259.out⟩, ⟨by (with_reducible repeat (first | refine blk_drewN ?_ _ | refine blk_drew ?_ | refine blk_alloc ?_ _)); exact BK265.out⟩, ⟨by (with_reducible repeat (first | refine blk_drewN ?_ _ | refine blk_drew ?_ | refine blk_alloc ?_ _)); exact BK272.out⟩, ⟨by repeat (first | (with_reducible first | exact HB.out | apply below_alloc | apply pw_below_drewN | apply below_drew1 | refine below_set ?_ GE246.out | refine below_set ?_ GE259.out | refine below_set ?_ GE265.out | refine below_set ?_ GE272.out) | exact HB.out)⟩⟩
            case rest =>
              clear HC61
              try clear c1
              try clear c2
              try clear p2
              try clear c3
              try clear c4
              try clear c4b0
              try clear c5
              try clear c6
              try clear c7
              try clear c8
              try clear c12
              try clear c14
              try clear c16
              try clear c22
              try clear c25
              try clear c28
              try clear c29
              try clear c31
              try clear c32
              try clear c34
              try clear c35
              try clear c36
              try clear c39
              try clear c40
              try clear c41
              try clear c42
              try clear c44
              try clear c45
              try clear c48
              try clear c49
              try clear c50
              try clear c52
              try clear c53
              try clear c56
              try clear c59
              try clear c66
              try clear c67
              try clear c68
              try clear c71
              try clear c71b0
              try clear c73
              try clear c74
              try clear c75
              try clear c76
              try clear c78
              try clear c79
              try clear c82
              try clear c83
              try clear c84
              try clear c86
              try clear c87
              try clear hcz14_0
              try clear hcz14_1
              try clear hcz14_2
              try clear hcz16_0
              try clear hcz16_1
              try clear hcz16_2
              try clear hcz23_0
              try clear hcz23_1
              try clear hcz23_2
              try clear hcz24_0
              try clear hcz24_1
              try clear hcz24_2
              try clear hcz30_0
              try clear hcz30_1
              try clear hcz30_2
              try clear hcz37_0
              try clear hcz37_1
              try clear hcz37_2
              try clear hcz43_0
              try clear hcz43_1
              try clear hcz43_2
              try clear hcz46_0
              try clear hcz46_1
              try clear hcz46_2
              try clear hcz51_0
              try clear hcz51_1
              try clear hcz51_2
              try clear hcz54_0
              try clear hcz54_1
              try clear hcz54_2
              try clear hcz69_0
              try clear hcz69_1
              try clear hcz69_2
              try clear hcz6_0
              try clear hcz6_1
              try clear hcz6_2
              try clear hcz77_0
              try clear hcz77_1
              try clear hcz77_2
              try clear hcz80_0
              try clear hcz80_1
              try clear hcz80_2
              try clear hcz85_0
              try clear hcz85_1
              try clear hcz85_2
              try clear hcz88_0
              try clear hcz88_1
              try clear hcz88_2
              try clear hfz14_0
              try clear hfz14_1
              try clear hfz14_2
              try clear hfz16_0
              try clear hfz16_1
              try clear hfz16_2
              try clear hfz23_0
              try clear hfz23_1
              try clear hfz23_2
              try clear hfz24_0
              try clear hfz24_1
              try clear hfz24_2
              try clear hfz30_0
              try clear hfz30_1
              try clear hfz30_2
              try clear hfz37_0
              try clear hfz37_1
              try clear hfz37_2
              try clear hfz43_0
              try clear hfz43_1
              try clear hfz43_2
              try clear hfz46_0
              try clear hfz46_1
              try clear hfz46_2
              try clear hfz51_0
              try clear hfz51_1
              try clear hfz51_2
              try clear hfz54_0
              try clear hfz54_1
              try clear hfz54_2
              try clear hfz69_0
              try clear hfz69_1
              try clear hfz69_2
              try clear hfz6_0
              try clear hfz6_1
              try clear hfz6_2
              try clear hfz77_0
              try clear hfz77_1
              try clear hfz77_2
              try clear hfz80_0
              try clear hfz80_1
              try clear hfz80_2
              try clear hfz85_0
              try clear hfz85_1
              try clear hfz85_2
              try clear hfz88_0
              try clear hfz88_1
              try clear hfz88_2
              try clear p2
              obtain ⟨kq, x65_60, rfl, HA, HJ60, HO_260000, HO_266000, HO_273000, BK246, BK259, BK265, BK272, HB⟩ := hcut
              have hl266000_60 := (Kd.R_reads' HO_266000.out).1
              rw [hl266000_60] at HO_266000
              (try simp only [hl266000_60])
              (try simp only [hl266000_60] at BK246)
              (try simp only [hl266000_60] at BK259)
              (try simp only [hl266000_60] at BK265)
              (try simp only [hl266000_60] at BK272)
              (try simp only [hl266000_60] at HO_260000)
              (try simp only [hl266000_60] at HO_273000)
              cases kq with
              | zero => exact absurd HA.out (fun h_ => by change none = some _ at h_; cases h_)
              | succ kj60 =>
                have H := HA.out
                clear HA
                simp only [laws_FnExactRecoverOne.j1] at H
                by_cases c90 : x65_60 = true
                · subst c90
                  have H1 : (some false) = some r := by rw [if_pos rfl] at H; exact H
                  clear H
                  have H := H1
                  clear H1
                  obtain rfl := Option.some.inj H
                  go_wp2
                  go_ret
                  exact ⟨by first | rfl | (simp [errW_none, errW_some] <;> rfl) | (simp [*, errW_none, errW_some] <;> rfl), by repeat (first | (with_reducible first | exact HB.out | apply below_alloc | apply pw_below_drewN | apply below_drew1 | refine below_set ?_ GE246.out | refine below_set ?_ GE259.out | refine below_set ?_ GE265.out | refine below_set ?_ GE272.out) | exact HB.out)⟩
                · replace c90 := Bool.eq_false_iff.mpr c90
                  subst c90
                  have H1 : ((laws_markStripe.f kj60 t266 t269 t270 1).bind fun bt283 => ((laws_heldStripe.f kj60 bt283.2 t269 t270 1).bind fun t285 => (if t285 < 0 then (some false) else (if t285 = bt283.1 then ((laws_toStripe.f kj60 l0_0 a0_1 a0_2).bind fun bt286 => ((impl_RecoverOne.f kj60 bt286.1 bt286.2.1 bt286.2.2 a1).bind fun bt291 => ((laws_eqStripe.f kj60 bt291.1 bt291.2.1 bt291.2.2.1 t253 t256 t257).bind fun t298 => (if t298 = true then (laws_FnExactRecoverOne.j2 kj60 bt283.1 (bt291.2.2.2 != t258) bt283.2 t269 t270) else (laws_FnExactRecoverOne.j2 kj60 bt283.1 true bt283.2 t269 t270))))) else (some false))))) = some r := by rw [if_neg (show ¬ (false = true) by decide)] at H; exact H
                  clear H
                  have H := H1
                  clear H1
                  replace H := Option.bind_eq_some_iff.mp H
                  obtain ⟨⟨t283, t284⟩, A910, H⟩ := H
                  replace H : ((laws_heldStripe.f kj60 t284 t269 t270 1).bind fun t285 => (if t285 < 0 then (some false) else (if t285 = t283 then ((laws_toStripe.f kj60 l0_0 a0_1 a0_2).bind fun bt286 => ((impl_RecoverOne.f kj60 bt286.1 bt286.2.1 bt286.2.2 a1).bind fun bt291 => ((laws_eqStripe.f kj60 bt291.1 bt291.2.1 bt291.2.2.1 t253 t256 t257).bind fun t298 => (if t298 = true then (laws_FnExactRecoverOne.j2 kj60 t283 (bt291.2.2.2 != t258) t284 t269 t270) else (laws_FnExactRecoverOne.j2 kj60 t283 true t284 t269 t270))))) else (some false)))) = some r := H
                  have A91 := Aside0.mk A910
                  clear A910
                  replace H := Option.bind_eq_some_iff.mp H
                  obtain ⟨t285, A920, H⟩ := H
                  replace H : (if t285 < 0 then (some false) else (if t285 = t283 then ((laws_toStripe.f kj60 l0_0 a0_1 a0_2).bind fun bt286 => ((impl_RecoverOne.f kj60 bt286.1 bt286.2.1 bt286.2.2 a1).bind fun bt291 => ((laws_eqStripe.f kj60 bt291.1 bt291.2.1 bt291.2.2.1 t253 t256 t257).bind fun t298 => (if t298 = true then (laws_FnExactRecoverOne.j2 kj60 t283 (bt291.2.2.2 != t258) t284 t269 t270) else (laws_FnExactRecoverOne.j2 kj60 t283 true t284 t269 t270))))) else (some false))) = some r := H
                  have A92 := Aside0.mk A920
                  clear A920
                  by_cases c93 : t285 < 0
                  · rw [if_pos c93] at H
                    have c93b0 : decide (t285 < 0) = true := decide_eq_true c93
                    clear c93
                    obtain rfl := Option.some.inj H
                    have hnb94 := NB272_246.out
                    have hnc94 := NB246_272.out
                    have hnb95 := NB272_259.out
                    have hnc95 := NB259_272.out
                    have hnb96 := NB272_265.out
                    have hnc96 := NB265_272.out
                    have hcz97_0 : wc.cell? ⟨gb272, 0, none⟩ = some (.slice Ao33 t266.length co33) := (blk_cell BK272.out 0).trans rfl
                    have hcz97_1 : wc.cell? ⟨gb272, 1, none⟩ = some (.string t269) := (blk_cell BK272.out 1).trans rfl
                    have hcz97_2 : wc.cell? ⟨gb272, 2, none⟩ = some (.string t270) := (blk_cell BK272.out 2).trans rfl
                    have hfz97_0 := blk_frozen BK272.out 0
                    have hfz97_1 := blk_frozen BK272.out 1
                    have hfz97_2 := blk_frozen BK272.out 2
                    go_wp2_with (first | ((with_reducible refine gate_callee (f := 25) rfl ?_); refine goesL_ (some 68) rfl rfl Try.func25 (by kernel_rfl) rfl #[.agg #[.slice Ao33 t266.length co33, .string t269, .string t270], .int .i64 1] rfl (by (try simp only [List.map_toArray, List.map_cons, List.map_nil]); first | done | rfl | (simp only [List.length_drop, List.length_take]; rfl)) ?_; (with_reducible refine (laws_markStripe.calls kj60 (fun k_ => some k_ = (.slice Ao33 t266.length co33 : Value).ownBlock) (.slice Ao33 t266.length co33) t266 t269 t270 1 t283 t284 w _ ?side1 ?side2 A91.out).mono ?_); (case side1 => repeat (first | (with_reducible first | exact HB.out | apply below_alloc | apply pw_below_drewN | apply below_drew1 | refine below_set ?_ GE246.out | refine below_set ?_ GE259.out | refine below_set ?_ GE265.out | refine below_set ?_ GE272.out) | exact HB.out)); (case side2 => exact Kd.R_tight rfl HO_273000.out); rintro e w98 ⟨rfl, hy0, hb, hkp⟩; refine ⟨_, rfl, ?_⟩; have n0_ := Aside0.mk (Kd.R_mono (ok' := fun k_ => some k_ ≠ (.slice Ao27 t281.length co27 : Value).ownBlock ∧ some k_ ≠ (.slice Ao33 t266.length co33 : Value).ownBlock) (Kd.R_keptB (HO_260000.out) hkp (fun k_ hk_ hs_ => (hk_.2) hs_)) (fun k_ hk_ => ⟨hk_.1.1, hk_.1.2⟩)); have n1_ := Aside0.mk (Kd.R_mono (ok' := fun k_ => some k_ ≠ (.slice Ao21 t253.length co21 : Value).ownBlock ∧ some k_ ≠ (.slice Ao33 t266.length co33 : Value).ownBlock) (Kd.R_keptB (HO_266000.out) hkp (fun k_ hk_ hs_ => (hk_.2) hs_)) (fun k_ hk_ => ⟨hk_.1.1, hk_.1.2⟩)); have n2_ := Aside0.mk (Kd.R_reok rfl hy0 (fun k_ e_ => HO_273000.out.1 k_ e_)); have n3_ := Aside0.mk (blk_kept (by (with_reducible repeat (first | refine blk_drewN ?_ _ | refine blk_drew ?_ | refine blk_alloc ?_ _)); exact BK246.out) hkp (fun hs_ => (fun e_ => (Kd.R_ne HO_273000.out BK246.out (by decide)) e_) hs_)); have n4_ := Aside0.mk (blk_kept (by (with_reducible repeat (first | refine blk_drewN ?_ _ | refine blk_drew ?_ | refine blk_alloc ?_ _)); exact BK259.out) hkp (fun hs_ => (fun e_ => (Kd.R_ne HO_273000.out BK259.out (by decide)) e_) hs_)); have n5_ := Aside0.mk (blk_kept (by (with_reducible repeat (first | refine blk_drewN ?_ _ | refine blk_drew ?_ | refine blk_alloc ?_ _)); exact BK265.out) hkp (fun hs_ => (fun e_ => (Kd.R_ne HO_273000.out BK265.out (by decide)) e_) hs_)); have n6_ := Aside0.mk (blk_kept (by (with_reducible repeat (first | refine blk_drewN ?_ _ | refine blk_drew ?_ | refine blk_alloc ?_ _)); exact BK272.out) hkp (fun hs_ => (fun e_ => (Kd.R_ne HO_273000.out BK272.out (by decide)) e_) hs_)); have n7_ := Aside0.mk (hb); clear HO_260000; clear HO_266000; clear HO_273000; clear BK246; clear BK259; clear BK265; clear BK272; clear HB; have HO_260000 := n0_; have HO_266000 := n1_; have HO_273000 := n2_; have BK246 := n3_; have BK259 := n4_; have BK265 := n5_; have BK272 := n6_; have HB := n7_; clear n0_ n1_ n2_ n3_ n4_ n5_ n6_ n7_; (try clear hb); (try clear hkp); (try clear hy0); have hcz99_0 : w98.cell? ⟨gb272, 0, none⟩ = some (.slice Ao33 t266.length co33) := (blk_cell BK272.out 0).trans rfl; have hcz99_1 : w98.cell? ⟨gb272, 1, none⟩ = some (.string t269) := (blk_cell BK272.out 1).trans rfl; have hcz99_2 : w98.cell? ⟨gb272, 2, none⟩ = some (.string t270) := (blk_cell BK272.out 2).trans rfl; have hfz99_0 := blk_frozen BK272.out 0; have hfz99_1 := blk_frozen BK272.out 1; have hfz99_2 := blk_frozen BK272.out 2) | ((with_reducible refine gate_callee (f := 26) rfl ?_); refine goesL_ (some 71) rfl rfl Try.func26 (by kernel_rfl) rfl #[.agg #[.slice Ao33 t284.length co33, .string t269, .string t270], .int .i64 1] rfl (by (try simp only [List.map_toArray, List.map_cons, List.map_nil]); first | done | (rw [show t284.length = t266.length from (Kd.R_reads' HO_273000.out).1.symm] <;> rfl) | rfl | (simp only [List.length_drop, List.length_take]; rfl)) ?_; (with_reducible refine (laws_heldStripe.calls kj60 _ _ t284 t269 t270 1 t285 _ ?side1 ?side2 A92.out).mono ?_); (case side1 => repeat (first | exact (Kd.R_reads' HO_273000.out).2.2 | (with_reducible refine Kd.C_alloc ?_ _) | (with_reducible refine Kd.C_drewN ?_ _) | (with_reducible refine Kd.C_drew ?_))); (case side2 => rw [show t284.length = t266.length from (Kd.R_reads' HO_273000.out).1.symm]; exact (Kd.R_reads' HO_273000.out).2.1); rintro e w100 ⟨rfl, hb⟩; refine ⟨_, rfl, ?_⟩; have n0_ := Aside0.mk (Kd.R_below (by (with_reducible repeat (first | apply Kd.R_alloc | apply Kd.R_drewN | apply Kd.R_drew)); exact HO_260000.out) hb); have n1_ := Aside0.mk (Kd.R_below (by (with_reducible repeat (first | apply Kd.R_alloc | apply Kd.R_drewN | apply Kd.R_drew)); exact HO_266000.out) hb); have n2_ := Aside0.mk (Kd.R_below (by (with_reducible repeat (first | apply Kd.R_alloc | apply Kd.R_drewN | apply Kd.R_drew)); exact HO_273000.out) hb); have n3_ := Aside0.mk (blk_below (g := gb246) (o := .cells #[.slice A0_0 l0_0.length c0_0, .string a0_1, .string a0_2] 24 (0, 0)) (by (with_reducible repeat (first | refine blk_drewN ?_ _ | refine blk_drew ?_ | refine blk_alloc ?_ _)); exact BK246.out) hb); have n4_ := Aside0.mk (blk_below (g := gb259) (o := .cells #[.slice Ao21 t253.length co21, .string t256, .string t257] 27 (0, 0)) (by (with_reducible repeat (first | refine blk_drewN ?_ _ | refine blk_drew ?_ | refine blk_alloc ?_ _)); exact BK259.out) hb); have n5_ := Aside0.mk (blk_below (g := gb265) (o := .cells #[.slice Ao27 t281.length co27, .string t263, .string t264] 27 (0, 0)) (by (with_reducible repeat (first | refine blk_drewN ?_ _ | refine blk_drew ?_ | refine blk_alloc ?_ _)); exact BK265.out) hb); have n6_ := Aside0.mk (blk_below (g := gb272) (o := .cells #[.slice Ao33 t266.length co33, .string t269, .string t270] 27 (0, 0)) (by (with_reducible repeat (first | refine blk_drewN ?_ _ | refine blk_drew ?_ | refine blk_alloc ?_ _)); exact BK272.out) hb); have n7_ := Aside0.mk (below_step (by repeat (first | (with_reducible first | exact HB.out | apply below_alloc | apply pw_below_drewN | apply below_drew1 | refine below_set ?_ GE246.out | refine below_set ?_ GE259.out | refine below_set ?_ GE265.out | refine below_set ?_ GE272.out) | exact HB.out)) hb); clear HO_260000; clear HO_266000; clear HO_273000; clear BK246; clear BK259; clear BK265; clear BK272; clear HB; have HO_260000 := n0_; have HO_266000 := n1_; have HO_273000 := n2_; have BK246 := n3_; have BK259 := n4_; have BK265 := n5_; have BK272 := n6_; have HB := n7_; clear n0_ n1_ n2_ n3_ n4_ n5_ n6_ n7_; (try clear hb); (try clear hb2); (try clear hk); (try clear hi)))
                    go_ret
                    exact ⟨by first | rfl | (simp [errW_none, errW_some] <;> rfl) | (simp [*, errW_none, errW_some] <;> rfl), by repeat (first | (with_reducible first | exact HB.out | apply below_alloc | apply pw_below_drewN | apply below_drew1 | refine below_set ?_ GE246.out | refine below_set ?_ GE259.out | refine below_set ?_ GE265.out | refine below_set ?_ GE272.out) | exact HB.out)⟩
                  · rw [if_neg c93] at H
                    have c93b0 : decide (t285 < 0) = false := decide_eq_false c93
                    clear c93
                    by_cases c101 : t285 = t283
                    · rw [if_pos c101] at H
                      have c101b0 : (t285 == t283) = true := beq_iff_eq.mpr c101
                      have c101b1 : (t285 != t283) = false := bne_eq_false_iff_eq.mpr c101
                      clear c101
                      replace H := Option.bind_eq_some_iff.mp H
                      obtain ⟨⟨t286, t289, t290⟩, A1020, H⟩ := H
                      replace H : ((impl_RecoverOne.f kj60 t286 t289 t290 a1).bind fun bt291 => ((laws_eqStripe.f kj60 bt291.1 bt291.2.1 bt291.2.2.1 t253 t256 t257).bind fun t298 => (if t298 = true then (laws_FnExactRecoverOne.j2 kj60 t283 (bt291.2.2.2 != t258) t284 t269 t270) else (laws_FnExactRecoverOne.j2 kj60 t283 true t284 t269 t270)))) = some r := H
                      have A102 := Aside0.mk A1020
                      clear A1020
                      replace H := Option.bind_eq_some_iff.mp H
                      obtain ⟨⟨t291, t294, t295, t296⟩, A1030, H⟩ := H
                      replace H : ((laws_eqStripe.f kj60 t291 t294 t295 t253 t256 t257).bind fun t298 => (if t298 = true then (laws_FnExactRecoverOne.j2 kj60 t283 (t296 != t258) t284 t269 t270) else (laws_FnExactRecoverOne.j2 kj60 t283 true t284 t269 t270))) = some r := H
                      have A103 := Aside0.mk A1030
                      clear A1030
                      have HC104 := Aside0.mk H
                      clear H
                      have hnb105 := NB272_246.out
                      have hnc105 := NB246_272.out
                      have hnb106 := NB272_259.out
                      have hnc106 := NB259_272.out
                      have hnb107 := NB272_265.out
                      have hnc107 := NB265_272.out
                      have hcz108_0 : wc.cell? ⟨gb272, 0, none⟩ = some (.slice Ao33 t266.length co33) := (blk_cell BK272.out 0).trans rfl
                      have hcz108_1 : wc.cell? ⟨gb272, 1, none⟩ = some (.string t269) := (blk_cell BK272.out 1).trans rfl
                      have hcz108_2 : wc.cell? ⟨gb272, 2, none⟩ = some (.string t270) := (blk_cell BK272.out 2).trans rfl
                      have hfz108_0 := blk_frozen BK272.out 0
                      have hfz108_1 := blk_frozen BK272.out 1
                      have hfz108_2 := blk_frozen BK272.out 2
                      go_upto_region 25 with (first | ((with_reducible refine gate_callee (f := 25) rfl ?_); refine goesL_ (some 68) rfl rfl Try.func25 (by kernel_rfl) rfl #[.agg #[.slice Ao33 t266.length co33, .string t269, .string t270], .int .i64 1] rfl (by (try simp only [List.map_toArray, List.map_cons, List.map_nil]); first | done | rfl | (simp only [List.length_drop, List.length_take]; rfl)) ?_; (with_reducible refine (laws_markStripe.calls kj60 (fun k_ => some k_ = (.slice Ao33 t266.length co33 : Value).ownBlock) (.slice Ao33 t266.length co33) t266 t269 t270 1 t283 t284 w _ ?side1 ?side2 A91.out).mono ?_); (case side1 => repeat (first | (with_reducible first | exact HB.out | apply below_alloc | apply pw_below_drewN | apply below_drew1 | refine below_set ?_ GE246.out | refine below_set ?_ GE259.out | refine below_set ?_ GE265.out | refine below_set ?_ GE272.out) | exact HB.out)); (case side2 => exact Kd.R_tight rfl HO_273000.out); rintro e w109 ⟨rfl, hy0, hb, hkp⟩; refine ⟨_, rfl, ?_⟩; have n0_ := Aside0.mk (Kd.R_mono (ok' := fun k_ => some k_ ≠ (.slice Ao27 t281.length co27 : Value).ownBlock ∧ some k_ ≠ (.slice Ao33 t266.length co33 : Value).ownBlock) (Kd.R_keptB (HO_260000.out) hkp (fun k_ hk_ hs_ => (hk_.2) hs_)) (fun k_ hk_ => ⟨hk_.1.1, hk_.1.2⟩)); have n1_ := Aside0.mk (Kd.R_mono (ok' := fun k_ => some k_ ≠ (.slice Ao21 t253.length co21 : Value).ownBlock ∧ some k_ ≠ (.slice Ao33 t266.length co33 : Value).ownBlock) (Kd.R_keptB (HO_266000.out) hkp (fun k_ hk_ hs_ => (hk_.2) hs_)) (fun k_ hk_ => ⟨hk_.1.1, hk_.1.2⟩)); have n2_ := Aside0.mk (Kd.R_reok rfl hy0 (fun k_ e_ => HO_273000.out.1 k_ e_)); have n3_ := Aside0.mk (blk_kept (by (with_reducible repeat (first | refine blk_drewN ?_ _ | refine blk_drew ?_ | refine blk_alloc ?_ _)); exact BK246.out) hkp (fun hs_ => (fun e_ => (Kd.R_ne HO_273000.out BK246.out (by decide)) e_) hs_)); have n4_ := Aside0.mk (blk_kept (by (with_reducible repeat (first | refine blk_drewN ?_ _ | refine blk_drew ?_ | refine blk_alloc ?_ _)); exact BK259.out) hkp (fun hs_ => (fun e_ => (Kd.R_ne HO_273000.out BK259.out (by decide)) e_) hs_)); have n5_ := Aside0.mk (blk_kept (by (with_reducible repeat (first | refine blk_drewN ?_ _ | refine blk_drew ?_ | refine blk_alloc ?_ _)); exact BK265.out) hkp (fun hs_ => (fun e_ => (Kd.R_ne HO_273000.out BK265.out (by decide)) e_) hs_)); have n6_ := Aside0.mk (blk_kept (by (with_reducible repeat (first | refine blk_drewN ?_ _ | refine blk_drew ?_ | refine blk_alloc ?_ _)); exact BK272.out) hkp (fun hs_ => (fun e_ => (Kd.R_ne HO_273000.out BK272.out (by decide)) e_) hs_)); have n7_ := Aside0.mk (hb); clear HO_260000; clear HO_266000; clear HO_273000; clear BK246; clear BK259; clear BK265; clear BK272; clear HB; have HO_260000 := n0_; have HO_266000 := n1_; have HO_273000 := n2_; have BK246 := n3_; have BK259 := n4_; have BK265 := n5_; have BK272 := n6_; have HB := n7_; clear n0_ n1_ n2_ n3_ n4_ n5_ n6_ n7_; (try clear hb); (try clear hkp); (try clear hy0); have hcz110_0 : w109.cell? ⟨gb272, 0, none⟩ = some (.slice Ao33 t266.length co33) := (blk_cell BK272.out 0).trans rfl; have hcz110_1 : w109.cell? ⟨gb272, 1, none⟩ = some (.string t269) := (blk_cell BK272.out 1).trans rfl; have hcz110_2 : w109.cell? ⟨gb272, 2, none⟩ = some (.string t270) := (blk_cell BK272.out 2).trans rfl; have hfz110_0 := blk_frozen BK272.out 0; have hfz110_1 := blk_frozen BK272.out 1; have hfz110_2 := blk_frozen BK272.out 2) | ((with_reducible refine gate_callee (f := 26) rfl ?_); refine goesL_ (some 71) rfl rfl Try.func26 (by kernel_rfl) rfl #[.agg #[.slice Ao33 t284.length co33, .string t269, .string t270], .int .i64 1] rfl (by (try simp only [List.map_toArray, List.map_cons, List.map_nil]); first | done | (rw [show t284.length = t266.length from (Kd.R_reads' HO_273000.out).1.symm] <;> rfl) | rfl | (simp only [List.length_drop, List.length_take]; rfl)) ?_; (with_reducible refine (laws_heldStripe.calls kj60 _ _ t284 t269 t270 1 t285 _ ?side1 ?side2 A92.out).mono ?_); (case side1 => repeat (first | exact (Kd.R_reads' HO_273000.out).2.2 | (with_reducible refine Kd.C_alloc ?_ _) | (with_reducible refine Kd.C_drewN ?_ _) | (with_reducible refine Kd.C_drew ?_))); (case side2 => rw [show t284.length = t266.length from (Kd.R_reads' HO_273000.out).1.symm]; exact (Kd.R_reads' HO_273000.out).2.1); rintro e w111 ⟨rfl, hb⟩; refine ⟨_, rfl, ?_⟩; have n0_ := Aside0.mk (Kd.R_below (by (with_reducible repeat (first | apply Kd.R_alloc | apply Kd.R_drewN | apply Kd.R_drew)); exact HO_260000.out) hb); have n1_ := Aside0.mk (Kd.R_below (by (with_reducible repeat (first | apply Kd.R_alloc | apply Kd.R_drewN | apply Kd.R_drew)); exact HO_266000.out) hb); have n2_ := Aside0.mk (Kd.R_below (by (with_reducible repeat (first | apply Kd.R_alloc | apply Kd.R_drewN | apply Kd.R_drew)); exact HO_273000.out) hb); have n3_ := Aside0.mk (blk_below (g := gb246) (o := .cells #[.slice A0_0 l0_0.length c0_0, .string a0_1, .string a0_2] 24 (0, 0)) (by (with_reducible repeat (first | refine blk_drewN ?_ _ | refine blk_drew ?_ | refine blk_alloc ?_ _)); exact BK246.out) hb); have n4_ := Aside0.mk (blk_below (g := gb259) (o := .cells #[.slice Ao21 t253.length co21, .string t256, .string t257] 27 (0, 0)) (by (with_reducible repeat (first | refine blk_drewN ?_ _ | refine blk_drew ?_ | refine blk_alloc ?_ _)); exact BK259.out) hb); have n5_ := Aside0.mk (blk_below (g := gb265) (o := .cells #[.slice Ao27 t281.length co27, .string t263, .string t264] 27 (0, 0)) (by (with_reducible repeat (first | refine blk_drewN ?_ _ | refine blk_drew ?_ | refine blk_alloc ?_ _)); exact BK265.out) hb); have n6_ := Aside0.mk (blk_below (g := gb272) (o := .cells #[.slice Ao33 t266.length co33, .string t269, .string t270] 27 (0, 0)) (by (with_reducible repeat (first | refine blk_drewN ?_ _ | refine blk_drew ?_ | refine blk_alloc ?_ _)); exact BK272.out) hb); have n7_ := Aside0.mk (below_step (by repeat (first | (with_reducible first | exact HB.out | apply below_alloc | apply pw_below_drewN | apply below_drew1 | refine below_set ?_ GE246.out | refine below_set ?_ GE259.out | refine below_set ?_ GE265.out | refine below_set ?_ GE272.out) | exact HB.out)) hb); clear HO_260000; clear HO_266000; clear HO_273000; clear BK246; clear BK259; clear BK265; clear BK272; clear HB; have HO_260000 := n0_; have HO_266000 := n1_; have HO_273000 := n2_; have BK246 := n3_; have BK259 := n4_; have BK265 := n5_; have BK272 := n6_; have HB := n7_; clear n0_ n1_ n2_ n3_ n4_ n5_ n6_ n7_; (try clear hb); (try clear hb2); (try clear hk); (try clear hi); have hnb112 := NB246_259.out; have hnc112 := NB259_246.out; have hnb113 := NB246_265.out; have hnc113 := NB265_246.out; have hcz114_0 : w111.cell? ⟨gb246, 0, none⟩ = some (.slice A0_0 l0_0.length c0_0) := (blk_cell BK246.out 0).trans rfl; have hcz114_1 : w111.cell? ⟨gb246, 1, none⟩ = some (.string a0_1) := (blk_cell BK246.out 1).trans rfl; have hcz114_2 : w111.cell? ⟨gb246, 2, none⟩ = some (.string a0_2) := (blk_cell BK246.out 2).trans rfl; have hfz114_0 := blk_frozen BK246.out 0; have hfz114_1 := blk_frozen BK246.out 1; have hfz114_2 := blk_frozen BK246.out 2) | ((with_reducible refine gate_callee (f := 14) rfl ?_); refine goesL_ (some 79) rfl rfl Try.func14 (by kernel_rfl) rfl #[.agg #[.slice A0_0 l0_0.length c0_0, .string a0_1, .string a0_2]] rfl (by (try simp only [List.map_toArray, List.map_cons, List.map_nil]); first | done | rfl | (simp only [List.length_drop, List.length_take]; rfl)) ?_; (with_reducible refine (laws_toStripe.calls kj60 _ _ l0_0 a0_1 a0_2 t286 t289 t290 _ ?side1 ?side2 A102.out).mono ?_); (case side1 => repeat (first | exact (Kd.C_below HR0_0.out HB.out) | (with_reducible refine Kd.C_alloc ?_ _) | (with_reducible refine Kd.C_drewN ?_ _) | (with_reducible refine Kd.C_drew ?_))); (case side2 => exact HC0_0.out); rintro e w115 ⟨v287, rfl, ho0, hb⟩; refine ⟨_, rfl, ?_⟩; have n0_ := Aside0.mk (Kd.R_elder' (by (with_reducible repeat (first | apply Kd.R_alloc | apply Kd.R_drewN | apply Kd.R_drew)); exact HO_260000.out) (Kd.R_base ho0) hb); have n1_ := Aside0.mk (Kd.R_elder' (by (with_reducible repeat (first | apply Kd.R_alloc | apply Kd.R_drewN | apply Kd.R_drew)); exact HO_266000.out) (Kd.R_base ho0) hb); have n2_ := Aside0.mk (Kd.R_elder' (by (with_reducible repeat (first | apply Kd.R_alloc | apply Kd.R_drewN | apply Kd.R_drew)); exact HO_273000.out) (Kd.R_base ho0) hb); have n3_ := Aside0.mk (Kd.R_lower (Kd.R_new' (Kd.R_new' (Kd.R_new' ho0 (Kd.R_lt (by (with_reducible repeat (first | apply Kd.R_alloc | apply Kd.R_drewN | apply Kd.R_drew)); exact HO_260000.out))) (Kd.R_lt (by (with_reducible repeat (first | apply Kd.R_alloc | apply Kd.R_drewN | apply Kd.R_drew)); exact HO_266000.out))) (Kd.R_lt (by (with_reducible repeat (first | apply Kd.R_alloc | apply Kd.R_drewN | apply Kd.R_drew)); exact HO_273000.out))) (below_size (by repeat (first | (with_reducible first | exact HB.out | apply below_alloc | apply pw_below_drewN | apply below_drew1 | refine below_set ?_ GE246.out | refine below_set ?_ GE259.out | refine below_set ?_ GE265.out | refine below_set ?_ GE272.out) | exact HB.out)))); have n4_ := Aside0.mk (blk_below (g := gb246) (o := .cells #[.slice A0_0 l0_0.length c0_0, .string a0_1, .string a0_2] 24 (0, 0)) (by (with_reducible repeat (first | refine blk_drewN ?_ _ | refine blk_drew ?_ | refine blk_alloc ?_ _)); exact BK246.out) hb); have n5_ := Aside0.mk (blk_below (g := gb259) (o := .cells #[.slice Ao21 t253.length co21, .string t256, .string t257] 27 (0, 0)) (by (with_reducible repeat (first | refine blk_drewN ?_ _ | refine blk_drew ?_ | refine blk_alloc ?_ _)); exact BK259.out) hb); have n6_ := Aside0.mk (blk_below (g := gb265) (o := .cells #[.slice Ao27 t281.length co27, .string t263, .string t264] 27 (0, 0)) (by (with_reducible repeat (first | refine blk_drewN ?_ _ | refine blk_drew ?_ | refine blk_alloc ?_ _)); exact BK265.out) hb); have n7_ := Aside0.mk (blk_below (g := gb272) (o := .cells #[.slice Ao33 t266.length co33, .string t269, .string t270] 27 (0, 0)) (by (with_reducible repeat (first | refine blk_drewN ?_ _ | refine blk_drew ?_ | refine blk_alloc ?_ _)); exact BK272.out) hb); have n8_ := Aside0.mk (below_step (by repeat (first | (with_reducible first | exact HB.out | apply below_alloc | apply pw_below_drewN | apply below_drew1 | refine below_set ?_ GE246.out | refine below_set ?_ GE259.out | refine below_set ?_ GE265.out | refine below_set ?_ GE272.out) | exact HB.out)) hb); clear HO_260000; clear HO_266000; clear HO_273000; clear BK246; clear BK259; clear BK265; clear BK272; clear HB; have HO_260000 := n0_; have HO_266000 := n1_; have HO_273000 := n2_; have HO288 := n3_; have BK246 := n4_; have BK259 := n5_; have BK265 := n6_; have BK272 := n7_; have HB := n8_; clear n0_ n1_ n2_ n3_ n4_ n5_ n6_ n7_ n8_; (try clear hb); (try clear hb2); (try clear hk); (try clear hi); (try clear ho0); obtain ⟨Ao116, co116, eo116⟩ := Kd.R_slice HO288.out; subst eo116) | ((with_reducible refine gate_callee (f := 32) rfl ?_); refine goesL_ (some 81) rfl rfl Try.func32 (by kernel_rfl) rfl #[.agg #[.slice Ao116 t286.length co116, .string t289, .string t290], .int .i64 a1] rfl (by (try simp only [List.map_toArray, List.map_cons, List.map_nil]); first | done | rfl | (simp only [List.length_drop, List.length_take]; rfl)) ?_; (with_reducible refine (impl_RecoverOne.calls kj60 _ _ t286 t289 t290 a1 t291 t294 t295 t296 _ ?side1 ?side2 A103.out).mono ?_); (case side1 => repeat (first | exact (Kd.R_reads' HO288.out).2.2 | (with_reducible refine Kd.C_alloc ?_ _) | (with_reducible refine Kd.C_drewN ?_ _) | (with_reducible refine Kd.C_drew ?_))); (case side2 => exact (Kd.R_reads' HO288.out).2.1); rintro e w117 ⟨v292, rfl, ho0, hb⟩; refine ⟨_, rfl, ?_⟩; have n0_ := Aside0.mk (Kd.R_elder' (by (with_reducible repeat (first | apply Kd.R_alloc | apply Kd.R_drewN | apply Kd.R_drew)); exact HO_260000.out) (Kd.R_base ho0) hb); have n1_ := Aside0.mk (Kd.R_elder' (by (with_reducible repeat (first | apply Kd.R_alloc | apply Kd.R_drewN | apply Kd.R_drew)); exact HO_266000.out) (Kd.R_base ho0) hb); have n2_ := Aside0.mk (Kd.R_elder' (by (with_reducible repeat (first | apply Kd.R_alloc | apply Kd.R_drewN | apply Kd.R_drew)); exact HO_273000.out) (Kd.R_base ho0) hb); have n3_ := Aside0.mk (Kd.R_elder' (by (with_reducible repeat (first | apply Kd.R_alloc | apply Kd.R_drewN | apply Kd.R_drew)); exact HO288.out) (Kd.R_base ho0) hb); have n4_ := Aside0.mk (Kd.R_lower (Kd.R_new' (Kd.R_new' (Kd.R_new' (Kd.R_new' ho0 (Kd.R_lt (by (with_reducible repeat (first | apply Kd.R_alloc | apply Kd.R_drewN | apply Kd.R_drew)); exact HO_260000.out))) (Kd.R_lt (by (with_reducible repeat (first | apply Kd.R_alloc | apply Kd.R_drewN | apply Kd.R_drew)); exact HO_266000.out))) (Kd.R_lt (by (with_reducible repeat (first | apply Kd.R_alloc | apply Kd.R_drewN | apply Kd.R_drew)); exact HO_273000.out))) (Kd.R_lt (by (with_reducible repeat (first | apply Kd.R_alloc | apply Kd.R_drewN | apply Kd.R_drew)); exact HO288.out))) (below_size (by repeat (first | (with_reducible first | exact HB.out | apply below_alloc | apply pw_below_drewN | apply below_drew1 | refine below_set ?_ GE246.out | refine below_set ?_ GE259.out | refine below_set ?_ GE265.out | refine below_set ?_ GE272.out) | exact HB.out)))); have n5_ := Aside0.mk (blk_below (g := gb246) (o := .cells #[.slice A0_0 l0_0.length c0_0, .string a0_1, .string a0_2] 24 (0, 0)) (by (with_reducible repeat (first | refine blk_drewN ?_ _ | refine blk_drew ?_ | refine blk_alloc ?_ _)); exact BK246.out) hb); have n6_ := Aside0.mk (blk_below (g := gb259) (o := .cells #[.slice Ao21 t253.length co21, .string t256, .string t257] 27 (0, 0)) (by (with_reducible repeat (first | refine blk_drewN ?_ _ | refine blk_drew ?_ | refine blk_alloc ?_ _)); exact BK259.out) hb); have n7_ := Aside0.mk (blk_below (g := gb265) (o := .cells #[.slice Ao27 t281.length co27, .string t263, .string t264] 27 (0, 0)) (by (with_reducible repeat (first | refine blk_drewN ?_ _ | refine blk_drew ?_ | refine blk_alloc ?_ _)); exact BK265.out) hb); have n8_ := Aside0.mk (blk_below (g := gb272) (o := .cells #[.slice Ao33 t266.length co33, .string t269, .string t270] 27 (0, 0)) (by (with_reducible repeat (first | refine blk_drewN ?_ _ | refine blk_drew ?_ | refine blk_alloc ?_ _)); exact BK272.out) hb); have n9_ := Aside0.mk (below_step (by repeat (first | (with_reducible first | exact HB.out | apply below_alloc | apply pw_below_drewN | apply below_drew1 | refine below_set ?_ GE246.out | refine below_set ?_ GE259.out | refine below_set ?_ GE265.out | refine below_set ?_ GE272.out) | exact HB.out)) hb); clear HO_260000; clear HO_266000; clear HO_273000; clear HO288; clear BK246; clear BK259; clear BK265; clear BK272; clear HB; have HO_260000 := n0_; have HO_266000 := n1_; have HO_273000 := n2_; have HO288 := n3_; have HO293 := n4_; have BK246 := n5_; have BK259 := n6_; have BK265 := n7_; have BK272 := n8_; have HB := n9_; clear n0_ n1_ n2_ n3_ n4_ n5_ n6_ n7_ n8_ n9_; (try clear hb); (try clear hb2); (try clear hk); (try clear hi); (try clear ho0)) | ((with_reducible refine gate_dst (N := 14) rfl ?_); refine box_event ?hg (N := 14) ?hd (cs := #[.slice none 0 0, .string (⟨#[]⟩ : ByteArray), .string (⟨#[]⟩ : ByteArray)]) (t := 27) ?hr ?_; (case hd => rfl); (case hg => rfl); (case hr => first | (go_simp; done) | (go_simp; rfl)); intro gb297 hg w118 hbox hb; have n0_ := Aside0.mk (Kd.R_below (by (with_reducible repeat (first | apply Kd.R_alloc | apply Kd.R_drewN | apply Kd.R_drew)); exact HO_260000.out) hb); have n1_ := Aside0.mk (Kd.R_below (by (with_reducible repeat (first | apply Kd.R_alloc | apply Kd.R_drewN | apply Kd.R_drew)); exact HO_266000.out) hb); have n2_ := Aside0.mk (Kd.R_below (by (with_reducible repeat (first | apply Kd.R_alloc | apply Kd.R_drewN | apply Kd.R_drew)); exact HO_273000.out) hb); have n3_ := Aside0.mk (Kd.R_below (by (with_reducible repeat (first | apply Kd.R_alloc | apply Kd.R_drewN | apply Kd.R_drew)); exact HO288.out) hb); have n4_ := Aside0.mk (Kd.R_below (by (with_reducible repeat (first | apply Kd.R_alloc | apply Kd.R_drewN | apply Kd.R_drew)); exact HO293.out) hb); have n5_ := Aside0.mk (blk_below (g := gb246) (o := .cells #[.slice A0_0 l0_0.length c0_0, .string a0_1, .string a0_2] 24 (0, 0)) (by (with_reducible repeat (first | refine blk_drewN ?_ _ | refine blk_drew ?_ | refine blk_alloc ?_ _)); exact BK246.out) hb); have n6_ := Aside0.mk (blk_below (g := gb259) (o := .cells #[.slice Ao21 t253.length co21, .string t256, .string t257] 27 (0, 0)) (by (with_reducible repeat (first | refine blk_drewN ?_ _ | refine blk_drew ?_ | refine blk_alloc ?_ _)); exact BK259.out) hb); have n7_ := Aside0.mk (blk_below (g := gb265) (o := .cells #[.slice Ao27 t281.length co27, .string t263, .string t264] 27 (0, 0)) (by (with_reducible repeat (first | refine blk_drewN ?_ _ | refine blk_drew ?_ | refine blk_alloc ?_ _)); exact BK265.out) hb); have n8_ := Aside0.mk (blk_below (g := gb272) (o := .cells #[.slice Ao33 t266.length co33, .string t269, .string t270] 27 (0, 0)) (by (with_reducible repeat (first | refine blk_drewN ?_ _ | refine blk_drew ?_ | refine blk_alloc ?_ _)); exact BK272.out) hb); have n9_ := Aside0.mk (below_step (by repeat (first | (with_reducible first | exact HB.out | apply below_alloc | apply pw_below_drewN | apply below_drew1 | refine below_set ?_ GE246.out | refine below_set ?_ GE259.out | refine below_set ?_ GE265.out | refine below_set ?_ GE272.out) | exact HB.out)) hb); have n10_ := Aside0.mk (hbox); have n11_ := Aside0.mk ((by rw [hg]; exact (below_size (by repeat (first | (with_reducible first | exact HB.out | apply below_alloc | apply pw_below_drewN | apply below_drew1 | refine below_set ?_ GE246.out | refine below_set ?_ GE259.out | refine below_set ?_ GE265.out | refine below_set ?_ GE272.out) | exact HB.out))) : w.heap.size ≤ gb297)); have n12_ := Aside0.mk ((by rw [hg]; exact (below_size (by repeat (first | (with_reducible first | exact HB.out | apply below_alloc | apply pw_below_drewN | apply below_drew1 | refine below_set ?_ GE246.out | refine below_set ?_ GE259.out | refine below_set ?_ GE265.out | refine below_set ?_ GE272.out) | exact HB.out))) : w.heap.size ≤ gb297)); have n13_ := Aside0.mk ((by rw [hg]; exact Nat.ne_of_lt (blk_lt (g := gb246) (o := .cells #[.slice A0_0 l0_0.length c0_0, .string a0_1, .string a0_2] 24 (0, 0)) (by (with_reducible repeat (first | refine blk_drewN ?_ _ | refine blk_drew ?_ | refine blk_alloc ?_ _)); exact BK246.out)) : gb246 ≠ gb297)); have n14_ := Aside0.mk ((by rw [hg]; exact Nat.ne_of_gt (blk_lt (g := gb246) (o := .cells #[.slice A0_0 l0_0.length c0_0, .string a0_1, .string a0_2] 24 (0, 0)) (by (with_reducible repeat (first | refine blk_drewN ?_ _ | refine blk_drew ?_ | refine blk_alloc ?_ _)); exact BK246.out)) : gb297 ≠ gb246)); have n15_ := Aside0.mk ((by rw [hg]; exact Nat.ne_of_lt (blk_lt (g := gb259) (o := .cells #[.slice Ao21 t253.length co21, .string t256, .string t257] 27 (0, 0)) (by (with_reducible repeat (first | refine blk_drewN ?_ _ | refine blk_drew ?_ | refine blk_alloc ?_ _)); exact BK259.out)) : gb259 ≠ gb297)); have n16_ := Aside0.mk ((by rw [hg]; exact Nat.ne_of_gt (blk_lt (g := gb259) (o := .cells #[.slice Ao21 t253.length co21, .string t256, .string t257] 27 (0, 0)) (by (with_reducible repeat (first | refine blk_drewN ?_ _ | refine blk_drew ?_ | refine blk_alloc ?_ _)); exact BK259.out)) : gb297 ≠ gb259)); have n17_ := Aside0.mk ((by rw [hg]; exact Nat.ne_of_lt (blk_lt (g := gb265) (o := .cells #[.slice Ao27 t281.length co27, .string t263, .string t264] 27 (0, 0)) (by (with_reducible repeat (first | refine blk_drewN ?_ _ | refine blk_drew ?_ | refine blk_alloc ?_ _)); exact BK265.out)) : gb265 ≠ gb297)); have n18_ := Aside0.mk ((by rw [hg]; exact Nat.ne_of_gt (blk_lt (g := gb265) (o := .cells #[.slice Ao27 t281.length co27, .string t263, .string t264] 27 (0, 0)) (by (with_reducible repeat (first | refine blk_drewN ?_ _ | refine blk_drew ?_ | refine blk_alloc ?_ _)); exact BK265.out)) : gb297 ≠ gb265)); have n19_ := Aside0.mk ((by rw [hg]; exact Nat.ne_of_lt (blk_lt (g := gb272) (o := .cells #[.slice Ao33 t266.length co33, .string t269, .string t270] 27 (0, 0)) (by (with_reducible repeat (first | refine blk_drewN ?_ _ | refine blk_drew ?_ | refine blk_alloc ?_ _)); exact BK272.out)) : gb272 ≠ gb297)); have n20_ := Aside0.mk ((by rw [hg]; exact Nat.ne_of_gt (blk_lt (g := gb272) (o := .cells #[.slice Ao33 t266.length co33, .string t269, .string t270] 27 (0, 0)) (by (with_reducible repeat (first | refine blk_drewN ?_ _ | refine blk_drew ?_ | refine blk_alloc ?_ _)); exact BK272.out)) : gb297 ≠ gb272)); clear HO_260000; clear HO_266000; clear HO_273000; clear HO288; clear HO293; clear BK246; clear BK259; clear BK265; clear BK272; clear HB; have HO_260000 := n0_; have HO_266000 := n1_; have HO_273000 := n2_; have HO288 := n3_; have HO293 := n4_; have BK246 := n5_; have BK259 := n6_; have BK265 := n7_; have BK272 := n8_; have HB := n9_; have BK297 := n10_; have GW297 := n11_; have GE297 := n12_; have NB246_297 := n13_; have NB297_246 := n14_; have NB259_297 := n15_; have NB297_259 := n16_; have NB265_297 := n17_; have NB297_265 := n18_; have NB272_297 := n19_; have NB297_272 := n20_; clear n0_ n1_ n2_ n3_ n4_ n5_ n6_ n7_ n8_ n9_ n10_ n11_ n12_ n13_ n14_ n15_ n16_ n17_ n18_ n19_ n20_; clear hb hbox hg; obtain ⟨Ao119, co119, eo119⟩ := Kd.R_slice HO293.out; subst eo119; have hnb120 := NB297_246.out; have hnc120 := NB246_297.out; have hnb121 := NB297_259.out; have hnc121 := NB259_297.out; have hnb122 := NB297_265.out; have hnc122 := NB265_297.out; have hnb123 := NB297_272.out; have hnc123 := NB272_297.out; have hcz124_0 : w118.cell? ⟨gb297, 0, none⟩ = some (.slice none 0 0) := (blk_cell BK297.out 0).trans rfl; have hcz124_1 : w118.cell? ⟨gb297, 1, none⟩ = some (.string (⟨#[]⟩ : ByteArray)) := (blk_cell BK297.out 1).trans rfl; have hcz124_2 : w118.cell? ⟨gb297, 2, none⟩ = some (.string (⟨#[]⟩ : ByteArray)) := (blk_cell BK297.out 2).trans rfl; have hfz124_0 := blk_frozen BK297.out 0; have hfz124_1 := blk_frozen BK297.out 1; have hfz124_2 := blk_frozen BK297.out 2))
                      (try simp only [Act.put, List.setIfInBounds_toArray, List.set_cons_zero, List.set_cons_succ])
                      go_cut [92] (fun v92 wc => ∃ (kq : Nat) (x92_103 : Bool), v92 = .bool x92_103 ∧ Aside0 (laws_FnExactRecoverOne.j2 kq t283 x92_103 t284 t269 t270 = some r) ∧ Aside0 (kq ≤ kj60) ∧ Aside0 (Kd.R Kd.string 9 wc w.heap.size (fun k_ => some k_ ≠ ((.slice Ao27 t281.length co27) : Value).ownBlock ∧ some k_ ≠ ((.slice Ao33 t266.length co33) : Value).ownBlock ∧ some k_ ≠ ((.slice Ao119 t291.length co119) : Value).ownBlock) (.slice Ao21 t253.length co21) t253) ∧ Aside0 (Kd.R Kd.string 9 wc w.heap.size (fun k_ => some k_ ≠ ((.slice Ao21 t253.length co21) : Value).ownBlock ∧ some k_ ≠ ((.slice Ao33 t266.length co33) : Value).ownBlock ∧ some k_ ≠ ((.slice Ao119 t291.length co119) : Value).ownBlock) (.slice Ao27 t281.length co27) t281) ∧ Aside0 (Kd.R Kd.string 9 wc w.heap.size (fun k_ => some k_ ≠ ((.slice Ao21 t253.length co21) : Value).ownBlock ∧ some k_ ≠ ((.slice Ao27 t281.length co27) : Value).ownBlock ∧ some k_ ≠ ((.slice Ao119 t291.length co119) : Value).ownBlock) (.slice Ao33 t266.length co33) t284) ∧ Aside0 (Kd.R Kd.string 9 wc w.heap.size (fun k_ => some k_ ≠ ((.slice Ao21 t253.length co21) : Value).ownBlock ∧ some k_ ≠ ((.slice Ao27 t281.length co27) : Value).ownBlock ∧ some k_ ≠ ((.slice Ao33 t266.length co33) : Value).ownBlock) (.slice Ao119 t291.length co119) t291) ∧ Aside0 (wc.heap[gb246]? = some (.cells #[(.slice A0_0 l0_0.length c0_0), .string a0_1, .string a0_2] 24 (0, 0))) ∧ Aside0 (wc.heap[gb259]? = some (.cells #[(.slice Ao21 t253.length co21), .string t256, .string t257] 27 (0, 0))) ∧ Aside0 (wc.heap[gb265]? = some (.cells #[(.slice Ao27 t281.length co27), .string t263, .string t264] 27 (0, 0))) ∧ Aside0 (wc.heap[gb272]? = some (.cells #[(.slice Ao33 t266.length co33), .string t269, .string t270] 27 (0, 0))) ∧ Aside0 (wc.heap[gb297]? = some (.cells #[(.slice Ao119 t291.length co119), .string t294, .string t295] 27 (0, 0))) ∧ Aside0 (Below w.heap.size w wc))
                      case first =>
                        have H := HC104.out
                        clear HC104
                        replace H := Option.bind_eq_some_iff.mp H
                        obtain ⟨t298, A1250, H⟩ := H
                        replace H : (if t298 = true then (laws_FnExactRecoverOne.j2 kj60 t283 (t296 != t258) t284 t269 t270) else (laws_FnExactRecoverOne.j2 kj60 t283 true t284 t269 t270)) = some r := H
                        have A125 := Aside0.mk A1250
                        clear A1250
                        by_cases c126 : t298 = true
                        · subst c126
                          have H1 : (laws_FnExactRecoverOne.j2 kj60 t283 (t296 != t258) t284 t269 t270) = some r := by rw [if_pos rfl] at H; exact H
                          clear H
                          have H := H1
                          clear H1
                          have H' := Aside0.mk H
                          clear H
                          have hnb127 := NB297_246.out
                          have hnc127 := NB246_297.out
                          have hnb128 := NB297_259.out
                          have hnc128 := NB259_297.out
                          have hnb129 := NB297_265.out
                          have hnc129 := NB265_297.out
                          have hnb130 := NB297_272.out
                          have hnc130 := NB272_297.out
                          have hcz131_0 : w118.cell? ⟨gb297, 0, none⟩ = some (.slice none 0 0) := (blk_cell BK297.out 0).trans rfl
                          have hcz131_1 : w118.cell? ⟨gb297, 1, none⟩ = some (.string (⟨#[]⟩ : ByteArray)) := (blk_cell BK297.out 1).trans rfl
                          have hcz131_2 : w118.cell? ⟨gb297, 2, none⟩ = some (.string (⟨#[]⟩ : ByteArray)) := (blk_cell BK297.out 2).trans rfl
                          have hfz131_0 := blk_frozen BK297.out 0
                          have hfz131_1 := blk_frozen BK297.out 1
                          have hfz131_2 := blk_frozen BK297.out 2
                          have hnb132 := NB259_246.out
                          have hnc132 := NB246_259.out
                          have hnb133 := NB259_265.out
                          have hnc133 := NB265_259.out
                          have hnb134 := NB259_272.out
                          have hnc134 := NB272_259.out
                          have hcz135_0 : w118.cell? ⟨gb259, 0, none⟩ = some (.slice Ao21 t253.length co21) := (blk_cell BK259.out 0).trans rfl
                          have hcz135_1 : w118.cell? ⟨gb259, 1, none⟩ = some (.string t256) := (blk_cell BK259.out 1).trans rfl
                          have hcz135_2 : w118.cell? ⟨gb259, 2, none⟩ = some (.string t257) := (blk_cell BK259.out 2).trans rfl
                          have hfz135_0 := blk_frozen BK259.out 0
                          have hfz135_1 := blk_frozen BK259.out 1
                          have hfz135_2 := blk_frozen BK259.out 2
                          go_wp2_with (first | ((with_reducible refine gate_callee (f := 16) rfl ?_); refine goesL_ (some 86) rfl rfl Try.func16 (by kernel_rfl) rfl #[.agg #[.slice Ao119 t291.length co119, .string t294, .string t295], .agg #[.slice Ao21 t253.length co21, .string t256, .string t257]] rfl (by (try simp only [List.map_toArray, List.map_cons, List.map_nil]); first | done | rfl | (simp only [List.length_drop, List.length_take]; rfl)) ?_; (with_reducible refine (laws_eqStripe.calls kj60 _ _ t291 t294 t295 _ _ t253 t256 t257 true _ ?side1 ?side2 ?side3 ?side4 A125.out).mono ?_); (case side1 => refine (Kd.R_reads' (e := 9) (base := w.heap.size) (ok := fun k_ => ((((True ∧ some k_ ≠ (.slice Ao21 t253.length co21 : Value).ownBlock) ∧ some k_ ≠ (.slice Ao27 t281.length co27 : Value).ownBlock) ∧ some k_ ≠ (.slice Ao33 t266.length co33 : Value).ownBlock) ∧ some k_ ≠ (.slice Ao116 t286.length co116 : Value).ownBlock)) (n := t291.length) (c := co119) ?_).2.2; exact (by (with_reducible repeat (first | apply Kd.R_alloc | apply Kd.R_drewN | apply Kd.R_drew)); exact (Kd.R_mono (Kd.R_far (p := ⟨gb297, 2, none⟩) (Kd.R_far (p := ⟨gb297, 1, none⟩) (Kd.R_far (p := ⟨gb297, 0, none⟩) (Kd.R_types HO293.out BK297.out (by decide)) (fun _ hk => hk.2) (.slice Ao119 t291.length co119)) (fun _ hk => hk.2) (.string t294)) (fun _ hk => hk.2) (.string t295)) (fun _ h_ => h_.1)))); (case side2 => exact (Kd.R_reads' HO293.out).2.1); (case side3 => refine (Kd.R_reads' (e := 9) (base := w.heap.size) (ok := fun k_ => (((some k_ ≠ (.slice Ao27 t281.length co27 : Value).ownBlock ∧ some k_ ≠ (.slice Ao33 t266.length co33 : Value).ownBlock) ∧ some k_ ≠ (.slice Ao116 t286.length co116 : Value).ownBlock) ∧ some k_ ≠ (.slice Ao119 t291.length co119 : Value).ownBlock)) (n := t253.length) (c := co21) ?_).2.2; exact (by (with_reducible repeat (first | apply Kd.R_alloc | apply Kd.R_drewN | apply Kd.R_drew)); exact (Kd.R_mono (Kd.R_far (p := ⟨gb297, 2, none⟩) (Kd.R_far (p := ⟨gb297, 1, none⟩) (Kd.R_far (p := ⟨gb297, 0, none⟩) (Kd.R_types HO_260000.out BK297.out (by decide)) (fun _ hk => hk.2) (.slice Ao119 t291.length co119)) (fun _ hk => hk.2) (.string t294)) (fun _ hk => hk.2) (.string t295)) (fun _ h_ => h_.1)))); (case side4 => exact (Kd.R_reads' HO_260000.out).2.1); rintro e w136 ⟨rfl, hb⟩; refine ⟨_, rfl, ?_⟩; have n0_ := Aside0.mk (Kd.R_below (by (with_reducible repeat (first | apply Kd.R_alloc | apply Kd.R_drewN | apply Kd.R_drew)); exact (Kd.R_mono (Kd.R_far (p := ⟨gb297, 2, none⟩) (Kd.R_far (p := ⟨gb297, 1, none⟩) (Kd.R_far (p := ⟨gb297, 0, none⟩) (Kd.R_types HO_260000.out BK297.out (by decide)) (fun _ hk => hk.2) (.slice Ao119 t291.length co119)) (fun _ hk => hk.2) (.string t294)) (fun _ hk => hk.2) (.string t295)) (fun _ h_ => h_.1))) hb); have n1_ := Aside0.mk (Kd.R_below (by (with_reducible repeat (first | apply Kd.R_alloc | apply Kd.R_drewN | apply Kd.R_drew)); exact (Kd.R_mono (Kd.R_far (p := ⟨gb297, 2, none⟩) (Kd.R_far (p := ⟨gb297, 1, none⟩) (Kd.R_far (p := ⟨gb297, 0, none⟩) (Kd.R_types HO_266000.out BK297.out (by decide)) (fun _ hk => hk.2) (.slice Ao119 t291.length co119)) (fun _ hk => hk.2) (.string t294)) (fun _ hk => hk.2) (.string t295)) (fun _ h_ => h_.1))) hb); have n2_ := Aside0.mk (Kd.R_below (by (with_reducible repeat (first | apply Kd.R_alloc | apply Kd.R_drewN | apply Kd.R_drew)); exact (Kd.R_mono (Kd.R_far (p := ⟨gb297, 2, none⟩) (Kd.R_far (p := ⟨gb297, 1, none⟩) (Kd.R_far (p := ⟨gb297, 0, none⟩) (Kd.R_types HO_273000.out BK297.out (by decide)) (fun _ hk => hk.2) (.slice Ao119 t291.length co119)) (fun _ hk => hk.2) (.string t294)) (fun _ hk => hk.2) (.string t295)) (fun _ h_ => h_.1))) hb); have n3_ := Aside0.mk (Kd.R_below (by (with_reducible repeat (first | apply Kd.R_alloc | apply Kd.R_drewN | apply Kd.R_drew)); exact (Kd.R_mono (Kd.R_far (p := ⟨gb297, 2, none⟩) (Kd.R_far (p := ⟨gb297, 1, none⟩) (Kd.R_far (p := ⟨gb297, 0, none⟩) (Kd.R_types HO288.out BK297.out (by decide)) (fun _ hk => hk.2) (.slice Ao119 t291.length co119)) (fun _ hk => hk.2) (.string t294)) (fun _ hk => hk.2) (.string t295)) (fun _ h_ => h_.1))) hb); have n4_ := Aside0.mk (Kd.R_below (by (with_reducible repeat (first | apply Kd.R_alloc | apply Kd.R_drewN | apply Kd.R_drew)); exact (Kd.R_mono (Kd.R_far (p := ⟨gb297, 2, none⟩) (Kd.R_far (p := ⟨gb297, 1, none⟩) (Kd.R_far (p := ⟨gb297, 0, none⟩) (Kd.R_types HO293.out BK297.out (by decide)) (fun _ hk => hk.2) (.slice Ao119 t291.length co119)) (fun _ hk => hk.2) (.string t294)) (fun _ hk => hk.2) (.string t295)) (fun _ h_ => h_.1))) hb); have n5_ := Aside0.mk (blk_below (g := gb246) (o := .cells #[.slice A0_0 l0_0.length c0_0, .string a0_1, .string a0_2] 24 (0, 0)) (by (with_reducible repeat (first | refine blk_drewN ?_ _ | refine blk_drew ?_ | refine blk_alloc ?_ _)); refine blk_far ?_ NB246_297.out _; (with_reducible repeat (first | refine blk_drewN ?_ _ | refine blk_drew ?_ | refine blk_alloc ?_ _)); refine blk_far ?_ NB246_297.out _; (with_reducible repeat (first | refine blk_drewN ?_ _ | refine blk_drew ?_ | refine blk_alloc ?_ _)); refine blk_far ?_ NB246_297.out _; (with_reducible repeat (first | refine blk_drewN ?_ _ | refine blk_drew ?_ | refine blk_alloc ?_ _)); exact BK246.out) hb); have n6_ := Aside0.mk (blk_below (g := gb259) (o := .cells #[.slice Ao21 t253.length co21, .string t256, .string t257] 27 (0, 0)) (by (with_reducible repeat (first | refine blk_drewN ?_ _ | refine blk_drew ?_ | refine blk_alloc ?_ _)); refine blk_far ?_ NB259_297.out _; (with_reducible repeat (first | refine blk_drewN ?_ _ | refine blk_drew ?_ | refine blk_alloc ?_ _)); refine blk_far ?_ NB259_297.out _; (with_reducible repeat (first | refine blk_drewN ?_ _ | refine blk_drew ?_ | refine blk_alloc ?_ _)); refine blk_far ?_ NB259_297.out _; (with_reducible repeat (first | refine blk_drewN ?_ _ | refine blk_drew ?_ | refine blk_alloc ?_ _)); exact BK259.out) hb); have n7_ := Aside0.mk (blk_below (g := gb265) (o := .cells #[.slice Ao27 t281.length co27, .string t263, .string t264] 27 (0, 0)) (by (with_reducible repeat (first | refine blk_drewN ?_ _ | refine blk_drew ?_ | refine blk_alloc ?_ _)); refine blk_far ?_ NB265_297.out _; (with_reducible repeat (first | refine blk_drewN ?_ _ | refine blk_drew ?_ | refine blk_alloc ?_ _)); refine blk_far ?_ NB265_297.out _; (with_reducible repeat (first | refine blk_drewN ?_ _ | refine blk_drew ?_ | refine blk_alloc ?_ _)); refine blk_far ?_ NB265_297.out _; (with_reducible repeat (first | refine blk_drewN ?_ _ | refine blk_drew ?_ | refine blk_alloc ?_ _)); exact BK265.out) hb); have n8_ := Aside0.mk (blk_below (g := gb272) (o := .cells #[.slice Ao33 t266.length co33, .string t269, .string t270] 27 (0, 0)) (by (with_reducible repeat (first | refine blk_drewN ?_ _ | refine blk_drew ?_ | refine blk_alloc ?_ _)); refine blk_far ?_ NB272_297.out _; (with_reducible repeat (first | refine blk_drewN ?_ _ | refine blk_drew ?_ | refine blk_alloc ?_ _)); refine blk_far ?_ NB272_297.out _; (with_reducible repeat (first | refine blk_drewN ?_ _ | refine blk_drew ?_ | refine blk_alloc ?_ _)); refine blk_far ?_ NB272_297.out _; (with_reducible repeat (first | refine blk_drewN ?_ _ | refine blk_drew ?_ | refine blk_alloc ?_ _)); exact BK272.out) hb); have n9_ := Aside0.mk (blk_below (g := gb297) (o := .cells #[.slice Ao119 t291.length co119, .string t294, .string t295] 27 (0, 0)) (by (with_reducible repeat (first | refine blk_drewN ?_ _ | refine blk_drew ?_ | refine blk_alloc ?_ _)); refine blk_put (cs := #[.slice Ao119 t291.length co119, .string t294, .string (⟨#[]⟩ : ByteArray)]) ?_ 2 _ rfl; (with_reducible repeat (first | refine blk_drewN ?_ _ | refine blk_drew ?_ | refine blk_alloc ?_ _)); refine blk_put (cs := #[.slice Ao119 t291.length co119, .string (⟨#[]⟩ : ByteArray), .string (⟨#[]⟩ : ByteArray)]) ?_ 1 _ rfl; (with_reducible repeat (first | refine blk_drewN ?_ _ | refine blk_drew ?_ | refine blk_alloc ?_ _)); refine blk_put (cs := #[.slice none 0 0, .string (⟨#[]⟩ : ByteArray), .string (⟨#[]⟩ : ByteArray)]) ?_ 0 _ rfl; (with_reducible repeat (first | refine blk_drewN ?_ _ | refine blk_drew ?_ | refine blk_alloc ?_ _)); exact BK297.out) hb); have n10_ := Aside0.mk (below_step (by repeat (first | (with_reducible first | exact HB.out | apply below_alloc | apply pw_below_drewN | apply below_drew1 | refine below_set ?_ GE246.out | refine below_set ?_ GE259.out | refine below_set ?_ GE265.out | refine below_set ?_ GE272.out | refine below_set ?_ GE297.out) | exact HB.out)) hb); clear HO_260000; clear HO_266000; clear HO_273000; clear HO288; clear HO293; clear BK246; clear BK259; clear BK265; clear BK272; clear BK297; clear HB; have HO_260000 := n0_; have HO_266000 := n1_; have HO_273000 := n2_; have HO288 := n3_; have HO293 := n4_; have BK246 := n5_; have BK259 := n6_; have BK265 := n7_; have BK272 := n8_; have BK297 := n9_; have HB := n10_; clear n0_ n1_ n2_ n3_ n4_ n5_ n6_ n7_ n8_ n9_ n10_; (try clear hb); (try clear hb2); (try clear hk); (try clear hi)))
                          go_meet
                          case rel => exact ⟨_, ((t296 != t258)), (by first | rfl | (simp; done) | (simp [*]; done)), H', ⟨by have := HJ11.out; have := HJ60.out; first | omega | exact Nat.le_refl _⟩, ⟨by (try simp only [hl266000_60]); (with_reducible repeat (first | apply Kd.R_alloc | apply Kd.R_drewN | apply Kd.R_drew)); exact Kd.R_mono HO_260000.out (fun _ hk => ⟨hk.1.1.1, ⟨hk.1.1.2, hk.2⟩⟩)⟩, ⟨by (try simp only [hl266000_60]); (with_reducible repeat (first | apply Kd.R_alloc | apply Kd.R_drewN | apply Kd.R_drew)); exact Kd.R_mono HO_266000.out (fun _ hk => ⟨hk.1.1.1, ⟨hk.1.1.2, hk.2⟩⟩)⟩, ⟨by (try simp only [hl266000_60]); (with_reducible repeat (first | apply Kd.R_alloc | apply Kd.R_drewN | apply Kd.R_drew)); exact Kd.R_mono HO_273000.out (fun _ hk => ⟨hk.1.1.1, ⟨hk.1.1.2, hk.2⟩⟩)⟩, ⟨by (try simp only [hl266000_60]); (with_reducible repeat (first | apply Kd.R_alloc | apply Kd.R_drewN | apply Kd.R_drew)); exact Kd.R_mono HO293.out (fun _ hk => ⟨hk.1.1.1.2, ⟨hk.1.1.2, hk.1.2⟩⟩)⟩, ⟨by (try simp only [hl266000_60]); (with_reducible repeat (first | refine blk_drewN ?_ _ | refine blk_drew ?_ | refine blk_alloc ?_ _)); exact BK246.out⟩, ⟨by (try simp only [hl266000_60]); (with_reducible repeat (first | refine blk_drewN ?_ _ | refine blk_drew ?_ | refine blk_alloc ?_ _)); exact BK259.out⟩, ⟨by (try simp only [hl266000_60]); (with_reducible repeat (first | refine blk_drewN ?_ _ | refine blk_drew ?_ | refine blk_alloc ?_ _)); exact BK265.out⟩, ⟨by (try simp only [hl266000_60]); (with_reducible repeat (first | refine blk_drewN ?_ _ | refine blk_drew ?_ | refine blk_alloc ?_ _)); exact BK272.out⟩, ⟨by (try simp only [hl266000_60]); (with_reducible repeat (first | refine blk_drewN ?_ _ | refine blk_drew ?_ | refine blk_alloc ?_ _)); exact BK297.out⟩, ⟨by repeat (first | (with_reducible first | exact HB.out | apply below_alloc | apply pw_below_drewN | apply below_drew1 | refine below_set ?_ GE246.out | refine below_set ?_ GE259.out | refine below_set ?_ GE265.out | refine below_set ?_ GE272.out | refine below_set ?_ GE297.out) | exact HB.out)⟩⟩
                        · replace c126 := Bool.eq_false_iff.mpr c126
                          subst c126
                          have H1 : (laws_FnExactRecoverOne.j2 kj60 t283 true t284 t269 t270) = some r := by rw [if_neg (show ¬ (false = true) by decide)] at H; exact H
                          clear H
                          have H := H1
                          clear H1
                          have H' := Aside0.mk H
                          clear H
                          have hnb137 := NB297_246.out
                          have hnc137 := NB246_297.out
                          have hnb138 := NB297_259.out
                          have hnc138 := NB259_297.out
                          have hnb139 := NB297_265.out
                          have hnc139 := NB265_297.out
                          have hnb140 := NB297_272.out
                          have hnc140 := NB272_297.out
                          have hcz141_0 : w118.cell? ⟨gb297, 0, none⟩ = some (.slice none 0 0) := (blk_cell BK297.out 0).trans rfl
                          have hcz141_1 : w118.cell? ⟨gb297, 1, none⟩ = some (.string (⟨#[]⟩ : ByteArray)) := (blk_cell BK297.out 1).trans rfl
                          have hcz141_2 : w118.cell? ⟨gb297, 2, none⟩ = some (.string (⟨#[]⟩ : ByteArray)) := (blk_cell BK297.out 2).trans rfl
                          have hfz141_0 := blk_frozen BK297.out 0
                          have hfz141_1 := blk_frozen BK297.out 1
                          have hfz141_2 := blk_frozen BK297.out 2
                          have hnb142 := NB259_246.out
                          have hnc142 := NB246_259.out
                          have hnb143 := NB259_265.out
                          have hnc143 := NB265_259.out
                          have hnb144 := NB259_272.out
                          have hnc144 := NB272_259.out
                          have hcz145_0 : w118.cell? ⟨gb259, 0, none⟩ = some (.slice Ao21 t253.length co21) := (blk_cell BK259.out 0).trans rfl
                          have hcz145_1 : w118.cell? ⟨gb259, 1, none⟩ = some (.string t256) := (blk_cell BK259.out 1).trans rfl
                          have hcz145_2 : w118.cell? ⟨gb259, 2, none⟩ = some (.string t257) := (blk_cell BK259.out 2).trans rfl
                          have hfz145_0 := blk_frozen BK259.out 0
                          have hfz145_1 := blk_frozen BK259.out 1
                          have hfz145_2 := blk_frozen BK259.out 2
                          go_wp2_with (first | ((with_reducible refine gate_callee (f := 16) rfl ?_); refine goesL_ (some 86) rfl rfl Try.func16 (by kernel_rfl) rfl #[.agg #[.slice Ao119 t291.length co119, .string t294, .string t295], .agg #[.slice Ao21 t253.length co21, .string t256, .string t257]] rfl (by (try simp only [List.map_toArray, List.map_cons, List.map_nil]); first | done | rfl | (simp only [List.length_drop, List.length_take]; rfl)) ?_; (with_reducible refine (laws_eqStripe.calls kj60 _ _ t291 t294 t295 _ _ t253 t256 t257 false _ ?side1 ?side2 ?side3 ?side4 A125.out).mono ?_); (case side1 => refine (Kd.R_reads' (e := 9) (base := w.heap.size) (ok := fun k_ => ((((True ∧ some k_ ≠ (.slice Ao21 t253.length co21 : Value).ownBlock) ∧ some k_ ≠ (.slice Ao27 t281.length co27 : Value).ownBlock) ∧ some k_ ≠ (.slice Ao33 t266.length co33 : Value).ownBlock) ∧ some k_ ≠ (.slice Ao116 t286.length co116 : Value).ownBlock)) (n := t291.length) (c := co119) ?_).2.2; exact (by (with_reducible repeat (first | apply Kd.R_alloc | apply Kd.R_drewN | apply Kd.R_drew)); exact (Kd.R_mono (Kd.R_far (p := ⟨gb297, 2, none⟩) (Kd.R_far (p := ⟨gb297, 1, none⟩) (Kd.R_far (p := ⟨gb297, 0, none⟩) (Kd.R_types HO293.out BK297.out (by decide)) (fun _ hk => hk.2) (.slice Ao119 t291.length co119)) (fun _ hk => hk.2) (.string t294)) (fun _ hk => hk.2) (.string t295)) (fun _ h_ => h_.1)))); (case side2 => exact (Kd.R_reads' HO293.out).2.1); (case side3 => refine (Kd.R_reads' (e := 9) (base := w.heap.size) (ok := fun k_ => (((some k_ ≠ (.slice Ao27 t281.length co27 : Value).ownBlock ∧ some k_ ≠ (.slice Ao33 t266.length co33 : Value).ownBlock) ∧ some k_ ≠ (.slice Ao116 t286.length co116 : Value).ownBlock) ∧ some k_ ≠ (.slice Ao119 t291.length co119 : Value).ownBlock)) (n := t253.length) (c := co21) ?_).2.2; exact (by (with_reducible repeat (first | apply Kd.R_alloc | apply Kd.R_drewN | apply Kd.R_drew)); exact (Kd.R_mono (Kd.R_far (p := ⟨gb297, 2, none⟩) (Kd.R_far (p := ⟨gb297, 1, none⟩) (Kd.R_far (p := ⟨gb297, 0, none⟩) (Kd.R_types HO_260000.out BK297.out (by decide)) (fun _ hk => hk.2) (.slice Ao119 t291.length co119)) (fun _ hk => hk.2) (.string t294)) (fun _ hk => hk.2) (.string t295)) (fun _ h_ => h_.1)))); (case side4 => exact (Kd.R_reads' HO_260000.out).2.1); rintro e w146 ⟨rfl, hb⟩; refine ⟨_, rfl, ?_⟩; have n0_ := Aside0.mk (Kd.R_below (by (with_reducible repeat (first | apply Kd.R_alloc | apply Kd.R_drewN | apply Kd.R_drew)); exact (Kd.R_mono (Kd.R_far (p := ⟨gb297, 2, none⟩) (Kd.R_far (p := ⟨gb297, 1, none⟩) (Kd.R_far (p := ⟨gb297, 0, none⟩) (Kd.R_types HO_260000.out BK297.out (by decide)) (fun _ hk => hk.2) (.slice Ao119 t291.length co119)) (fun _ hk => hk.2) (.string t294)) (fun _ hk => hk.2) (.string t295)) (fun _ h_ => h_.1))) hb); have n1_ := Aside0.mk (Kd.R_below (by (with_reducible repeat (first | apply Kd.R_alloc | apply Kd.R_drewN | apply Kd.R_drew)); exact (Kd.R_mono (Kd.R_far (p := ⟨gb297, 2, none⟩) (Kd.R_far (p := ⟨gb297, 1, none⟩) (Kd.R_far (p := ⟨gb297, 0, none⟩) (Kd.R_types HO_266000.out BK297.out (by decide)) (fun _ hk => hk.2) (.slice Ao119 t291.length co119)) (fun _ hk => hk.2) (.string t294)) (fun _ hk => hk.2) (.string t295)) (fun _ h_ => h_.1))) hb); have n2_ := Aside0.mk (Kd.R_below (by (with_reducible repeat (first | apply Kd.R_alloc | apply Kd.R_drewN | apply Kd.R_drew)); exact (Kd.R_mono (Kd.R_far (p := ⟨gb297, 2, none⟩) (Kd.R_far (p := ⟨gb297, 1, none⟩) (Kd.R_far (p := ⟨gb297, 0, none⟩) (Kd.R_types HO_273000.out BK297.out (by decide)) (fun _ hk => hk.2) (.slice Ao119 t291.length co119)) (fun _ hk => hk.2) (.string t294)) (fun _ hk => hk.2) (.string t295)) (fun _ h_ => h_.1))) hb); have n3_ := Aside0.mk (Kd.R_below (by (with_reducible repeat (first | apply Kd.R_alloc | apply Kd.R_drewN | apply Kd.R_drew)); exact (Kd.R_mono (Kd.R_far (p := ⟨gb297, 2, none⟩) (Kd.R_far (p := ⟨gb297, 1, none⟩) (Kd.R_far (p := ⟨gb297, 0, none⟩) (Kd.R_types HO288.out BK297.out (by decide)) (fun _ hk => hk.2) (.slice Ao119 t291.length co119)) (fun _ hk => hk.2) (.string t294)) (fun _ hk => hk.2) (.string t295)) (fun _ h_ => h_.1))) hb); have n4_ := Aside0.mk (Kd.R_below (by (with_reducible repeat (first | apply Kd.R_alloc | apply Kd.R_drewN | apply Kd.R_drew)); exact (Kd.R_mono (Kd.R_far (p := ⟨gb297, 2, none⟩) (Kd.R_far (p := ⟨gb297, 1, none⟩) (Kd.R_far (p := ⟨gb297, 0, none⟩) (Kd.R_types HO293.out BK297.out (by decide)) (fun _ hk => hk.2) (.slice Ao119 t291.length co119)) (fun _ hk => hk.2) (.string t294)) (fun _ hk => hk.2) (.string t295)) (fun _ h_ => h_.1))) hb); have n5_ := Aside0.mk (blk_below (g := gb246) (o := .cells #[.slice A0_0 l0_0.length c0_0, .string a0_1, .string a0_2] 24 (0, 0)) (by (with_reducible repeat (first | refine blk_drewN ?_ _ | refine blk_drew ?_ | refine blk_alloc ?_ _)); refine blk_far ?_ NB246_297.out _; (with_reducible repeat (first | refine blk_drewN ?_ _ | refine blk_drew ?_ | refine blk_alloc ?_ _)); refine blk_far ?_ NB246_297.out _; (with_reducible repeat (first | refine blk_drewN ?_ _ | refine blk_drew ?_ | refine blk_alloc ?_ _)); refine blk_far ?_ NB246_297.out _; (with_reducible repeat (first | refine blk_drewN ?_ _ | refine blk_drew ?_ | refine blk_alloc ?_ _)); exact BK246.out) hb); have n6_ := Aside0.mk (blk_below (g := gb259) (o := .cells #[.slice Ao21 t253.length co21, .string t256, .string t257] 27 (0, 0)) (by (with_reducible repeat (first | refine blk_drewN ?_ _ | refine blk_drew ?_ | refine blk_alloc ?_ _)); refine blk_far ?_ NB259_297.out _; (with_reducible repeat (first | refine blk_drewN ?_ _ | refine blk_drew ?_ | refine blk_alloc ?_ _)); refine blk_far ?_ NB259_297.out _; (with_reducible repeat (first | refine blk_drewN ?_ _ | refine blk_drew ?_ | refine blk_alloc ?_ _)); refine blk_far ?_ NB259_297.out _; (with_reducible repeat (first | refine blk_drewN ?_ _ | refine blk_drew ?_ | refine blk_alloc ?_ _)); exact BK259.out) hb); have n7_ := Aside0.mk (blk_below (g := gb265) (o := .cells #[.slice Ao27 t281.length co27, .string t263, .string t264] 27 (0, 0)) (by (with_reducible repeat (first | refine blk_drewN ?_ _ | refine blk_drew ?_ | refine blk_alloc ?_ _)); refine blk_far ?_ NB265_297.out _; (with_reducible repeat (first | refine blk_drewN ?_ _ | refine blk_drew ?_ | refine blk_alloc ?_ _)); refine blk_far ?_ NB265_297.out _; (with_reducible repeat (first | refine blk_drewN ?_ _ | refine blk_drew ?_ | refine blk_alloc ?_ _)); refine blk_far ?_ NB265_297.out _; (with_reducible repeat (first | refine blk_drewN ?_ _ | refine blk_drew ?_ | refine blk_alloc ?_ _)); exact BK265.out) hb); have n8_ := Aside0.mk (blk_below (g := gb272) (o := .cells #[.slice Ao33 t266.length co33, .string t269, .string t270] 27 (0, 0)) (by (with_reducible repeat (first | refine blk_drewN ?_ _ | refine blk_drew ?_ | refine blk_alloc ?_ _)); refine blk_far ?_ NB272_297.out _; (with_reducible repeat (first | refine blk_drewN ?_ _ | refine blk_drew ?_ | refine blk_alloc ?_ _)); refine blk_far ?_ NB272_297.out _; (with_reducible repeat (first | refine blk_drewN ?_ _ | refine blk_drew ?_ | refine blk_alloc ?_ _)); refine blk_far ?_ NB272_297.out _; (with_reducible repeat (first | refine blk_drewN ?_ _ | refine blk_drew ?_ | refine blk_alloc ?_ _)); exact BK272.out) hb); have n9_ := Aside0.mk (blk_below (g := gb297) (o := .cells #[.slice Ao119 t291.length co119, .string t294, .string t295] 27 (0, 0)) (by (with_reducible repeat (first | refine blk_drewN ?_ _ | refine blk_drew ?_ | refine blk_alloc ?_ _)); refine blk_put (cs := #[.slice Ao119 t291.length co119, .string t294, .string (⟨#[]⟩ : ByteArray)]) ?_ 2 _ rfl; (with_reducible repeat (first | refine blk_drewN ?_ _ | refine blk_drew ?_ | refine blk_alloc ?_ _)); refine blk_put (cs := #[.slice Ao119 t291.length co119, .string (⟨#[]⟩ : ByteArray), .string (⟨#[]⟩ : ByteArray)]) ?_ 1 _ rfl; (with_reducible repeat (first | refine blk_drewN ?_ _ | refine blk_drew ?_ | refine blk_alloc ?_ _)); refine blk_put (cs := #[.slice none 0 0, .string (⟨#[]⟩ : ByteArray), .string (⟨#[]⟩ : ByteArray)]) ?_ 0 _ rfl; (with_reducible repeat (first | refine blk_drewN ?_ _ | refine blk_drew ?_ | refine blk_alloc ?_ _)); exact BK297.out) hb); have n10_ := Aside0.mk (below_step (by repeat (first | (with_reducible first | exact HB.out | apply below_alloc | apply pw_below_drewN | apply below_drew1 | refine below_set ?_ GE246.out | refine below_set ?_ GE259.out | refine below_set ?_ GE265.out | refine below_set ?_ GE272.out | refine below_set ?_ GE297.out) | exact HB.out)) hb); clear HO_260000; clear HO_266000; clear HO_273000; clear HO288; clear HO293; clear BK246; clear BK259; clear BK265; clear BK272; clear BK297; clear HB; have HO_260000 := n0_; have HO_266000 := n1_; have HO_273000 := n2_; have HO288 := n3_; have HO293 := n4_; have BK246 := n5_; have BK259 := n6_; have BK265 := n7_; have BK272 := n8_; have BK297 := n9_; have HB := n10_; clear n0_ n1_ n2_ n3_ n4_ n5_ n6_ n7_ n8_ n9_ n10_; (try clear hb); (try clear hb2); (try clear hk); (try clear hi)))
                          go_meet
                          case rel => exact ⟨_, (true), (by first | rfl | (simp; done) | (simp [*]; done)), H', ⟨by have := HJ11.out; have := HJ60.out; first | omega | exact Nat.le_refl _⟩, ⟨by (try simp only [hl266000_60]); (with_reducible repeat (first | apply Kd.R_alloc | apply Kd.R_drewN | apply Kd.R_drew)); exact Kd.R_mono HO_260000.out (fun _ hk => ⟨hk.1.1.1, ⟨hk.1.1.2, hk.2⟩⟩)⟩, ⟨by (try simp only [hl266000_60]); (with_reducible repeat (first | apply Kd.R_alloc | apply Kd.R_drewN | apply Kd.R_drew)); exact Kd.R_mono HO_266000.out (fun _ hk => ⟨hk.1.1.1, ⟨hk.1.1.2, hk.2⟩⟩)⟩, ⟨by (try simp only [hl266000_60]); (with_reducible repeat (first | apply Kd.R_alloc | apply Kd.R_drewN | apply Kd.R_drew)); exact Kd.R_mono HO_273000.out (fun _ hk => ⟨hk.1.1.1, ⟨hk.1.1.2, hk.2⟩⟩)⟩, ⟨by (try simp only [hl266000_60]); (with_reducible repeat (first | apply Kd.R_alloc | apply Kd.R_drewN | apply Kd.R_drew)); exact Kd.R_mono HO293.out (fun _ hk => ⟨hk.1.1.1.2, ⟨hk.1.1.2, hk.1.2⟩⟩)⟩, ⟨by (try simp only [hl266000_60]); (with_reducible repeat (first | refine blk_drewN ?_ _ | refine blk_drew ?_ | refine blk_alloc ?_ _)); exact BK246.out⟩, ⟨by (try simp only [hl266000_60]); (with_reducible repeat (first | refine blk_drewN ?_ _ | refine blk_drew ?_ | refine blk_alloc ?_ _)); exact BK259.out⟩, ⟨by (try simp only [hl266000_60]); (with_reducible repeat (first | refine blk_drewN ?_ _ | refine blk_drew ?_ | refine blk_alloc ?_ _)); exact BK265.out⟩, ⟨by (try simp only [hl266000_60]); (with_reducible repeat (first | refine blk_drewN ?_ _ | refine blk_drew ?_ | refine blk_alloc ?_ _)); exact BK272.out⟩, ⟨by (try simp only [hl266000_60]); (with_reducible repeat (first | refine blk_drewN ?_ _ | refine blk_drew ?_ | refine blk_alloc ?_ _)); exact BK297.out⟩, ⟨by repeat (first | (with_reducible first | exact HB.out | apply below_alloc | apply pw_below_drewN | apply below_drew1 | refine below_set ?_ GE246.out | refine below_set ?_ GE259.out | refine below_set ?_ GE265.out | refine below_set ?_ GE272.out | refine below_set ?_ GE297.out) | exact HB.out)⟩⟩
                      case rest =>
                        clear HC104
                        try clear c1
                        try clear c2
                        try clear p2
                        try clear c3
                        try clear c4
                        try clear c4b0
                        try clear c5
                        try clear c6
                        try clear c7
                        try clear c8
                        try clear c9
                        try clear c10
                        try clear c11
                        try clear c12
                        try clear c13
                        try clear c14
                        try clear c16
                        try clear c22
                        try clear c25
                        try clear c26
                        try clear c28
                        try clear c29
                        try clear c31
                        try clear c32
                        try clear c34
                        try clear c35
                        try clear c36
                        try clear c39
                        try clear c40
                        try clear c41
                        try clear c42
                        try clear c44
                        try clear c45
                        try clear c48
                        try clear c49
                        try clear c50
                        try clear c52
                        try clear c53
                        try clear c56
                        try clear c59
                        try clear c66
                        try clear c67
                        try clear c68
                        try clear c71
                        try clear c71b0
                        try clear c73
                        try clear c74
                        try clear c75
                        try clear c76
                        try clear c78
                        try clear c79
                        try clear c82
                        try clear c83
                        try clear c84
                        try clear c86
                        try clear c87
                        try clear c90
                        try clear c93
                        try clear c93b0
                        try clear c94
                        try clear c95
                        try clear c96
                        try clear c101
                        try clear c101b0
                        try clear c101b1
                        try clear c105
                        try clear c106
                        try clear c107
                        try clear c112
                        try clear c113
                        try clear c120
                        try clear c121
                        try clear c122
                        try clear c123
                        try clear c126
                        try clear c127
                        try clear c128
                        try clear c129
                        try clear c130
                        try clear c132
                        try clear c133
                        try clear c134
                        try clear c137
                        try clear c138
                        try clear c139
                        try clear c140
                        try clear c142
                        try clear c143
                        try clear c144
                        try clear hcz108_0
                        try clear hcz108_1
                        try clear hcz108_2
                        try clear hcz110_0
                        try clear hcz110_1
                        try clear hcz110_2
                        try clear hcz114_0
                        try clear hcz114_1
                        try clear hcz114_2
                        try clear hcz124_0
                        try clear hcz124_1
                        try clear hcz124_2
                        try clear hcz131_0
                        try clear hcz131_1
                        try clear hcz131_2
                        try clear hcz135_0
                        try clear hcz135_1
                        try clear hcz135_2
                        try clear hcz141_0
                        try clear hcz141_1
                        try clear hcz141_2
                        try clear hcz145_0
                        try clear hcz145_1
                        try clear hcz145_2
                        try clear hcz14_0
                        try clear hcz14_1
                        try clear hcz14_2
                        try clear hcz16_0
                        try clear hcz16_1
                        try clear hcz16_2
                        try clear hcz23_0
                        try clear hcz23_1
                        try clear hcz23_2
                        try clear hcz24_0
                        try clear hcz24_1
                        try clear hcz24_2
                        try clear hcz30_0
                        try clear hcz30_1
                        try clear hcz30_2
                        try clear hcz37_0
                        try clear hcz37_1
                        try clear hcz37_2
                        try clear hcz43_0
                        try clear hcz43_1
                        try clear hcz43_2
                        try clear hcz46_0
                        try clear hcz46_1
                        try clear hcz46_2
                        try clear hcz51_0
                        try clear hcz51_1
                        try clear hcz51_2
                        try clear hcz54_0
                        try clear hcz54_1
                        try clear hcz54_2
                        try clear hcz69_0
                        try clear hcz69_1
                        try clear hcz69_2
                        try clear hcz6_0
                        try clear hcz6_1
                        try clear hcz6_2
                        try clear hcz77_0
                        try clear hcz77_1
                        try clear hcz77_2
                        try clear hcz80_0
                        try clear hcz80_1
                        try clear hcz80_2
                        try clear hcz85_0
                        try clear hcz85_1
                        try clear hcz85_2
                        try clear hcz88_0
                        try clear hcz88_1
                        try clear hcz88_2
                        try clear hcz97_0
                        try clear hcz97_1
                        try clear hcz97_2
                        try clear hcz99_0
                        try clear hcz99_1
                        try clear hcz99_2
                        try clear hfz108_0
                        try clear hfz108_1
                        try clear hfz108_2
                        try clear hfz110_0
                        try clear hfz110_1
                        try clear hfz110_2
                        try clear hfz114_0
                        try clear hfz114_1
                        try clear hfz114_2
                        try clear hfz124_0
                        try clear hfz124_1
                        try clear hfz124_2
                        try clear hfz131_0
                        try clear hfz131_1
                        try clear hfz131_2
                        try clear hfz135_0
                        try clear hfz135_1
                        try clear hfz135_2
                        try clear hfz141_0
                        try clear hfz141_1
                        try clear hfz141_2
                        try clear hfz145_0
                        try clear hfz145_1
                        try clear hfz145_2
                        try clear hfz14_0
                        try clear hfz14_1
                        try clear hfz14_2
                        try clear hfz16_0
                        try clear hfz16_1
                        try clear hfz16_2
                        try clear hfz23_0
                        try clear hfz23_1
                        try clear hfz23_2
                        try clear hfz24_0
                        try clear hfz24_1
                        try clear hfz24_2
                        try clear hfz30_0
                        try clear hfz30_1
                        try clear hfz30_2
                        try clear hfz37_0
                        try clear hfz37_1
                        try clear hfz37_2
                        try clear hfz43_0
                        try clear hfz43_1
                        try clear hfz43_2
                        try clear hfz46_0
                        try clear hfz46_1
                        try clear hfz46_2
                        try clear hfz51_0
                        try clear hfz51_1
                        try clear hfz51_2
                        try clear hfz54_0
                        try clear hfz54_1
                        try clear hfz54_2
                        try clear hfz69_0
                        try clear hfz69_1
                        try clear hfz69_2
                        try clear hfz6_0
                        try clear hfz6_1
                        try clear hfz6_2
                        try clear hfz77_0
                        try clear hfz77_1
                        try clear hfz77_2
                        try clear hfz80_0
                        try clear hfz80_1
                        try clear hfz80_2
                        try clear hfz85_0
                        try clear hfz85_1
                        try clear hfz85_2
                        try clear hfz88_0
                        try clear hfz88_1
                        try clear hfz88_2
                        try clear hfz97_0
                        try clear hfz97_1
                        try clear hfz97_2
                        try clear hfz99_0
                        try clear hfz99_1
                        try clear hfz99_2
                        try clear p2
                        obtain ⟨kq, x92_103, rfl, HA, HJ103, HO_260000, HO_266000, HO_273000, HO_298000, BK246, BK259, BK265, BK272, BK297, HB⟩ := hcut
                        have hl273000_103 := (Kd.R_reads' HO_273000.out).1
                        rw [hl273000_103] at HO_273000
                        (try simp only [hl273000_103])
                        (try simp only [hl273000_103] at BK246)
                        (try simp only [hl273000_103] at BK259)
                        (try simp only [hl273000_103] at BK265)
                        (try simp only [hl273000_103] at BK272)
                        (try simp only [hl273000_103] at BK297)
                        (try simp only [hl273000_103] at HO_260000)
                        (try simp only [hl273000_103] at HO_266000)
                        (try simp only [hl273000_103] at HO_298000)
                        cases kq with
                        | zero => exact absurd HA.out (fun h_ => by change none = some _ at h_; cases h_)
                        | succ kj103 =>
                          have H := HA.out
                          clear HA
                          simp only [laws_FnExactRecoverOne.j2] at H
                          by_cases c147 : x92_103 = true
                          · subst c147
                            have H1 : (some false) = some r := by rw [if_pos rfl] at H; exact H
                            clear H
                            have H := H1
                            clear H1
                            obtain rfl := Option.some.inj H
                            go_wp2
                            go_ret
                            exact ⟨by first | rfl | (simp [errW_none, errW_some] <;> rfl) | (simp [*, errW_none, errW_some] <;> rfl), by repeat (first | (with_reducible first | exact HB.out | apply below_alloc | apply pw_below_drewN | apply below_drew1 | refine below_set ?_ GE246.out | refine below_set ?_ GE259.out | refine below_set ?_ GE265.out | refine below_set ?_ GE272.out | refine below_set ?_ GE297.out) | exact HB.out)⟩
                          · replace c147 := Bool.eq_false_iff.mpr c147
                            subst c147
                            have H1 : ((laws_heldStripe.f kj103 t284 t269 t270 1).bind fun t299 => (if t299 < 0 then (some false) else (if t299 = t283 then (some true) else (some false)))) = some r := by rw [if_neg (show ¬ (false = true) by decide)] at H; exact H
                            clear H
                            have H := H1
                            clear H1
                            replace H := Option.bind_eq_some_iff.mp H
                            obtain ⟨t299, A1480, H⟩ := H
                            replace H : (if t299 < 0 then (some false) else (if t299 = t283 then (some true) else (some false))) = some r := H
                            have A148 := Aside0.mk A1480
                            clear A1480
                            by_cases c149 : t299 < 0
                            · rw [if_pos c149] at H
                              have c149b0 : decide (t299 < 0) = true := decide_eq_true c149
                              clear c149
                              obtain rfl := Option.some.inj H
                              have hnb150 := NB272_246.out
                              have hnc150 := NB246_272.out
                              have hnb151 := NB272_259.out
                              have hnc151 := NB259_272.out
                              have hnb152 := NB272_265.out
                              have hnc152 := NB265_272.out
                              have hnb153 := NB272_297.out
                              have hnc153 := NB297_272.out
                              have hcz154_0 : wc.cell? ⟨gb272, 0, none⟩ = some (.slice Ao33 t284.length co33) := (blk_cell BK272.out 0).trans rfl
                              have hcz154_1 : wc.cell? ⟨gb272, 1, none⟩ = some (.string t269) := (blk_cell BK272.out 1).trans rfl
                              have hcz154_2 : wc.cell? ⟨gb272, 2, none⟩ = some (.string t270) := (blk_cell BK272.out 2).trans rfl
                              have hfz154_0 := blk_frozen BK272.out 0
                              have hfz154_1 := blk_frozen BK272.out 1
                              have hfz154_2 := blk_frozen BK272.out 2
                              go_wp2_with (first | ((with_reducible refine gate_callee (f := 26) rfl ?_); refine goesL_ (some 95) rfl rfl Try.func26 (by kernel_rfl) rfl #[.agg #[.slice Ao33 t284.length co33, .string t269, .string t270], .int .i64 1] rfl (by (try simp only [List.map_toArray, List.map_cons, List.map_nil]); first | done | rfl | (simp only [List.length_drop, List.length_take]; rfl)) ?_; (with_reducible refine (laws_heldStripe.calls kj103 _ _ t284 t269 t270 1 t299 _ ?side1 ?side2 A148.out).mono ?_); (case side1 => repeat (first | exact (Kd.R_reads' HO_273000.out).2.2 | (with_reducible refine Kd.C_alloc ?_ _) | (with_reducible refine Kd.C_drewN ?_ _) | (with_reducible refine Kd.C_drew ?_))); (case side2 => exact (Kd.R_reads' HO_273000.out).2.1); rintro e w155 ⟨rfl, hb⟩; refine ⟨_, rfl, ?_⟩; have n0_ := Aside0.mk (Kd.R_below (by (with_reducible repeat (first | apply Kd.R_alloc | apply Kd.R_drewN | apply Kd.R_drew)); exact HO_260000.out) hb); have n1_ := Aside0.mk (Kd.R_below (by (with_reducible repeat (first | apply Kd.R_alloc | apply Kd.R_drewN | apply Kd.R_drew)); exact HO_266000.out) hb); have n2_ := Aside0.mk (Kd.R_below (by (with_reducible repeat (first | apply Kd.R_alloc | apply Kd.R_drewN | apply Kd.R_drew)); exact HO_273000.out) hb); have n3_ := Aside0.mk (Kd.R_below (by (with_reducible repeat (first | apply Kd.R_alloc | apply Kd.R_drewN | apply Kd.R_drew)); exact HO_298000.out) hb); have n4_ := Aside0.mk (blk_below (g := gb246) (o := .cells #[.slice A0_0 l0_0.length c0_0, .string a0_1, .string a0_2] 24 (0, 0)) (by (with_reducible repeat (first | refine blk_drewN ?_ _ | refine blk_drew ?_ | refine blk_alloc ?_ _)); exact BK246.out) hb); have n5_ := Aside0.mk (blk_below (g := gb259) (o := .cells #[.slice Ao21 t253.length co21, .string t256, .string t257] 27 (0, 0)) (by (with_reducible repeat (first | refine blk_drewN ?_ _ | refine blk_drew ?_ | refine blk_alloc ?_ _)); exact BK259.out) hb); have n6_ := Aside0.mk (blk_below (g := gb265) (o := .cells #[.slice Ao27 t281.length co27, .string t263, .string t264] 27 (0, 0)) (by (with_reducible repeat (first | refine blk_drewN ?_ _ | refine blk_drew ?_ | refine blk_alloc ?_ _)); exact BK265.out) hb); have n7_ := Aside0.mk (blk_below (g := gb272) (o := .cells #[.slice Ao33 t284.length co33, .string t269, .string t270] 27 (0, 0)) (by (with_reducible repeat (first | refine blk_drewN ?_ _ | refine blk_drew ?_ | refine blk_alloc ?_ _)); exact BK272.out) hb); have n8_ := Aside0.mk (blk_below (g := gb297) (o := .cells #[.slice Ao119 t291.length co119, .string t294, .string t295] 27 (0, 0)) (by (with_reducible repeat (first | refine blk_drewN ?_ _ | refine blk_drew ?_ | refine blk_alloc ?_ _)); exact BK297.out) hb); have n9_ := Aside0.mk (below_step (by repeat (first | (with_reducible first | exact HB.out | apply below_alloc | apply pw_below_drewN | apply below_drew1 | refine below_set ?_ GE246.out | refine below_set ?_ GE259.out | refine below_set ?_ GE265.out | refine below_set ?_ GE272.out | refine below_set ?_ GE297.out) | exact HB.out)) hb); clear HO_260000; clear HO_266000; clear HO_273000; clear HO_298000; clear BK246; clear BK259; clear BK265; clear BK272; clear BK297; clear HB; have HO_260000 := n0_; have HO_266000 := n1_; have HO_273000 := n2_; have HO_298000 := n3_; have BK246 := n4_; have BK259 := n5_; have BK265 := n6_; have BK272 := n7_; have BK297 := n8_; have HB := n9_; clear n0_ n1_ n2_ n3_ n4_ n5_ n6_ n7_ n8_ n9_; (try clear hb); (try clear hb2); (try clear hk); (try clear hi)))
                              go_ret
                              exact ⟨by first | rfl | (simp [errW_none, errW_some] <;> rfl) | (simp [*, errW_none, errW_some] <;> rfl), by repeat (first | (with_reducible first | exact HB.out | apply below_alloc | apply pw_below_drewN | apply below_drew1 | refine below_set ?_ GE246.out | refine below_set ?_ GE259.out | refine below_set ?_ GE265.out | refine below_set ?_ GE272.out | refine below_set ?_ GE297.out) | exact HB.out)⟩
                            · rw [if_neg c149] at H
                              have c149b0 : decide (t299 < 0) = false := decide_eq_false c149
                              clear c149
                              by_cases c156 : t299 = t283
                              · rw [if_pos c156] at H
                                have c156b0 : (t299 == t283) = true := beq_iff_eq.mpr c156
                                have c156b1 : (t299 != t283) = false := bne_eq_false_iff_eq.mpr c156
                                clear c156
                                obtain rfl := Option.some.inj H
                                have hnb157 := NB272_246.out
                                have hnc157 := NB246_272.out
                                have hnb158 := NB272_259.out
                                have hnc158 := NB259_272.out
                                have hnb159 := NB272_265.out
                                have hnc159 := NB265_272.out
                                have hnb160 := NB272_297.out
                                have hnc160 := NB297_272.out
                                have hcz161_0 : wc.cell? ⟨gb272, 0, none⟩ = some (.slice Ao33 t284.length co33) := (blk_cell BK272.out 0).trans rfl
                                have hcz161_1 : wc.cell? ⟨gb272, 1, none⟩ = some (.string t269) := (blk_cell BK272.out 1).trans rfl
                                have hcz161_2 : wc.cell? ⟨gb272, 2, none⟩ = some (.string t270) := (blk_cell BK272.out 2).trans rfl
                                have hfz161_0 := blk_frozen BK272.out 0
                                have hfz161_1 := blk_frozen BK272.out 1
                                have hfz161_2 := blk_frozen BK272.out 2
                                go_wp2_with (first | ((with_reducible refine gate_callee (f := 26) rfl ?_); refine goesL_ (some 95) rfl rfl Try.func26 (by kernel_rfl) rfl #[.agg #[.slice Ao33 t284.length co33, .string t269, .string t270], .int .i64 1] rfl (by (try simp only [List.map_toArray, List.map_cons, List.map_nil]); first | done | rfl | (simp only [List.length_drop, List.length_take]; rfl)) ?_; (with_reducible refine (laws_heldStripe.calls kj103 _ _ t284 t269 t270 1 t299 _ ?side1 ?side2 A148.out).mono ?_); (case side1 => repeat (first | exact (Kd.R_reads' HO_273000.out).2.2 | (with_reducible refine Kd.C_alloc ?_ _) | (with_reducible refine Kd.C_drewN ?_ _) | (with_reducible refine Kd.C_drew ?_))); (case side2 => exact (Kd.R_reads' HO_273000.out).2.1); rintro e w162 ⟨rfl, hb⟩; refine ⟨_, rfl, ?_⟩; have n0_ := Aside0.mk (Kd.R_below (by (with_reducible repeat (first | apply Kd.R_alloc | apply Kd.R_drewN | apply Kd.R_drew)); exact HO_260000.out) hb); have n1_ := Aside0.mk (Kd.R_below (by (with_reducible repeat (first | apply Kd.R_alloc | apply Kd.R_drewN | apply Kd.R_drew)); exact HO_266000.out) hb); have n2_ := Aside0.mk (Kd.R_below (by (with_reducible repeat (first | apply Kd.R_alloc | apply Kd.R_drewN | apply Kd.R_drew)); exact HO_273000.out) hb); have n3_ := Aside0.mk (Kd.R_below (by (with_reducible repeat (first | apply Kd.R_alloc | apply Kd.R_drewN | apply Kd.R_drew)); exact HO_298000.out) hb); have n4_ := Aside0.mk (blk_below (g := gb246) (o := .cells #[.slice A0_0 l0_0.length c0_0, .string a0_1, .string a0_2] 24 (0, 0)) (by (with_reducible repeat (first | refine blk_drewN ?_ _ | refine blk_drew ?_ | refine blk_alloc ?_ _)); exact BK246.out) hb); have n5_ := Aside0.mk (blk_below (g := gb259) (o := .cells #[.slice Ao21 t253.length co21, .string t256, .string t257] 27 (0, 0)) (by (with_reducible repeat (first | refine blk_drewN ?_ _ | refine blk_drew ?_ | refine blk_alloc ?_ _)); exact BK259.out) hb); have n6_ := Aside0.mk (blk_below (g := gb265) (o := .cells #[.slice Ao27 t281.length co27, .string t263, .string t264] 27 (0, 0)) (by (with_reducible repeat (first | refine blk_drewN ?_ _ | refine blk_drew ?_ | refine blk_alloc ?_ _)); exact BK265.out) hb); have n7_ := Aside0.mk (blk_below (g := gb272) (o := .cells #[.slice Ao33 t284.length co33, .string t269, .string t270] 27 (0, 0)) (by (with_reducible repeat (first | refine blk_drewN ?_ _ | refine blk_drew ?_ | refine blk_alloc ?_ _)); exact BK272.out) hb); have n8_ := Aside0.mk (blk_below (g := gb297) (o := .cells #[.slice Ao119 t291.length co119, .string t294, .string t295] 27 (0, 0)) (by (with_reducible repeat (first | refine blk_drewN ?_ _ | refine blk_drew ?_ | refine blk_alloc ?_ _)); exact BK297.out) hb); have n9_ := Aside0.mk (below_step (by repeat (first | (with_reducible first | exact HB.out | apply below_alloc | apply pw_below_drewN | apply below_drew1 | refine below_set ?_ GE246.out | refine below_set ?_ GE259.out | refine below_set ?_ GE265.out | refine below_set ?_ GE272.out | refine below_set ?_ GE297.out) | exact HB.out)) hb); clear HO_260000; clear HO_266000; clear HO_273000; clear HO_298000; clear BK246; clear BK259; clear BK265; clear BK272; clear BK297; clear HB; have HO_260000 := n0_; have HO_266000 := n1_; have HO_273000 := n2_; have HO_298000 := n3_; have BK246 := n4_; have BK259 := n5_; have BK265 := n6_; have BK272 := n7_; have BK297 := n8_; have HB := n9_; clear n0_ n1_ n2_ n3_ n4_ n5_ n6_ n7_ n8_ n9_; (try clear hb); (try clear hb2); (try clear hk); (try clear hi)))
                                go_ret
                                exact ⟨by first | rfl | (simp [errW_none, errW_some] <;> rfl) | (simp [*, errW_none, errW_some] <;> rfl), by repeat (first | (with_reducible first | exact HB.out | apply below_alloc | apply pw_below_drewN | apply below_drew1 | refine below_set ?_ GE246.out | refine below_set ?_ GE259.out | refine below_set ?_ GE265.out | refine below_set ?_ GE272.out | refine below_set ?_ GE297.out) | exact HB.out)⟩
                              · rw [if_neg c156] at H
                                have c156b0 : (t299 == t283) = false := beq_eq_false_iff_ne.mpr c156
                                have c156b1 : (t299 != t283) = true := bne_iff_ne.mpr c156
                                obtain rfl := Option.some.inj H
                                have hnb163 := NB272_246.out
                                have hnc163 := NB246_272.out
                                have hnb164 := NB272_259.out
                                have hnc164 := NB259_272.out
                                have hnb165 := NB272_265.out
                                have hnc165 := NB265_272.out
                                have hnb166 := NB272_297.out
                                have hnc166 := NB297_272.out
                                have hcz167_0 : wc.cell? ⟨gb272, 0, none⟩ = some (.slice Ao33 t284.length co33) := (blk_cell BK272.out 0).trans rfl
                                have hcz167_1 : wc.cell? ⟨gb272, 1, none⟩ = some (.string t269) := (blk_cell BK272.out 1).trans rfl
                                have hcz167_2 : wc.cell? ⟨gb272, 2, none⟩ = some (.string t270) := (blk_cell BK272.out 2).trans rfl
                                have hfz167_0 := blk_frozen BK272.out 0
                                have hfz167_1 := blk_frozen BK272.out 1
                                have hfz167_2 := blk_frozen BK272.out 2
                                go_wp2_with (first | ((with_reducible refine gate_callee (f := 26) rfl ?_); refine goesL_ (some 95) rfl rfl Try.func26 (by kernel_rfl) rfl #[.agg #[.slice Ao33 t284.length co33, .string t269, .string t270], .int .i64 1] rfl (by (try simp only [List.map_toArray, List.map_cons, List.map_nil]); first | done | rfl | (simp only [List.length_drop, List.length_take]; rfl)) ?_; (with_reducible refine (laws_heldStripe.calls kj103 _ _ t284 t269 t270 1 t299 _ ?side1 ?side2 A148.out).mono ?_); (case side1 => repeat (first | exact (Kd.R_reads' HO_273000.out).2.2 | (with_reducible refine Kd.C_alloc ?_ _) | (with_reducible refine Kd.C_drewN ?_ _) | (with_reducible refine Kd.C_drew ?_))); (case side2 => exact (Kd.R_reads' HO_273000.out).2.1); rintro e w168 ⟨rfl, hb⟩; refine ⟨_, rfl, ?_⟩; have n0_ := Aside0.mk (Kd.R_below (by (with_reducible repeat (first | apply Kd.R_alloc | apply Kd.R_drewN | apply Kd.R_drew)); exact HO_260000.out) hb); have n1_ := Aside0.mk (Kd.R_below (by (with_reducible repeat (first | apply Kd.R_alloc | apply Kd.R_drewN | apply Kd.R_drew)); exact HO_266000.out) hb); have n2_ := Aside0.mk (Kd.R_below (by (with_reducible repeat (first | apply Kd.R_alloc | apply Kd.R_drewN | apply Kd.R_drew)); exact HO_273000.out) hb); have n3_ := Aside0.mk (Kd.R_below (by (with_reducible repeat (first | apply Kd.R_alloc | apply Kd.R_drewN | apply Kd.R_drew)); exact HO_298000.out) hb); have n4_ := Aside0.mk (blk_below (g := gb246) (o := .cells #[.slice A0_0 l0_0.length c0_0, .string a0_1, .string a0_2] 24 (0, 0)) (by (with_reducible repeat (first | refine blk_drewN ?_ _ | refine blk_drew ?_ | refine blk_alloc ?_ _)); exact BK246.out) hb); have n5_ := Aside0.mk (blk_below (g := gb259) (o := .cells #[.slice Ao21 t253.length co21, .string t256, .string t257] 27 (0, 0)) (by (with_reducible repeat (first | refine blk_drewN ?_ _ | refine blk_drew ?_ | refine blk_alloc ?_ _)); exact BK259.out) hb); have n6_ := Aside0.mk (blk_below (g := gb265) (o := .cells #[.slice Ao27 t281.length co27, .string t263, .string t264] 27 (0, 0)) (by (with_reducible repeat (first | refine blk_drewN ?_ _ | refine blk_drew ?_ | refine blk_alloc ?_ _)); exact BK265.out) hb); have n7_ := Aside0.mk (blk_below (g := gb272) (o := .cells #[.slice Ao33 t284.length co33, .string t269, .string t270] 27 (0, 0)) (by (with_reducible repeat (first | refine blk_drewN ?_ _ | refine blk_drew ?_ | refine blk_alloc ?_ _)); exact BK272.out) hb); have n8_ := Aside0.mk (blk_below (g := gb297) (o := .cells #[.slice Ao119 t291.length co119, .string t294, .string t295] 27 (0, 0)) (by (with_reducible repeat (first | refine blk_drewN ?_ _ | refine blk_drew ?_ | refine blk_alloc ?_ _)); exact BK297.out) hb); have n9_ := Aside0.mk (below_step (by repeat (first | (with_reducible first | exact HB.out | apply below_alloc | apply pw_below_drewN | apply below_drew1 | refine below_set ?_ GE246.out | refine below_set ?_ GE259.out | refine below_set ?_ GE265.out | refine below_set ?_ GE272.out | refine below_set ?_ GE297.out) | exact HB.out)) hb); clear HO_260000; clear HO_266000; clear HO_273000; clear HO_298000; clear BK246; clear BK259; clear BK265; clear BK272; clear BK297; clear HB; have HO_260000 := n0_; have HO_266000 := n1_; have HO_273000 := n2_; have HO_298000 := n3_; have BK246 := n4_; have BK259 := n5_; have BK265 := n6_; have BK272 := n7_; have BK297 := n8_; have HB := n9_; clear n0_ n1_ n2_ n3_ n4_ n5_ n6_ n7_ n8_ n9_; (try clear hb); (try clear hb2); (try clear hk); (try clear hi)))
                                go_ret
                                exact ⟨by first | rfl | (simp [errW_none, errW_some] <;> rfl) | (simp [*, errW_none, errW_some] <;> rfl), by repeat (first | (with_reducible first | exact HB.out | apply below_alloc | apply pw_below_drewN | apply below_drew1 | refine below_set ?_ GE246.out | refine below_set ?_ GE259.out | refine below_set ?_ GE265.out | refine below_set ?_ GE272.out | refine below_set ?_ GE297.out) | exact HB.out)⟩
                    · rw [if_neg c101] at H
                      have c101b0 : (t285 == t283) = false := beq_eq_false_iff_ne.mpr c101
                      have c101b1 : (t285 != t283) = true := bne_iff_ne.mpr c101
                      obtain rfl := Option.some.inj H
                      have hnb169 := NB272_246.out
                      have hnc169 := NB246_272.out
                      have hnb170 := NB272_259.out
                      have hnc170 := NB259_272.out
                      have hnb171 := NB272_265.out
                      have hnc171 := NB265_272.out
                      have hcz172_0 : wc.cell? ⟨gb272, 0, none⟩ = some (.slice Ao33 t266.length co33) := (blk_cell BK272.out 0).trans rfl
                      have hcz172_1 : wc.cell? ⟨gb272, 1, none⟩ = some (.string t269) := (blk_cell BK272.out 1).trans rfl
                      have hcz172_2 : wc.cell? ⟨gb272, 2, none⟩ = some (.string t270) := (blk_cell BK272.out 2).trans rfl
                      have hfz172_0 := blk_frozen BK272.out 0
                      have hfz172_1 := blk_frozen BK272.out 1
                      have hfz172_2 := blk_frozen BK272.out 2
                      go_wp2_with (first | ((with_reducible refine gate_callee (f := 25) rfl ?_); refine goesL_ (some 68) rfl rfl Try.func25 (by kernel_rfl) rfl #[.agg #[.slice Ao33 t266.length co33, .string t269, .string t270], .int .i64 1] rfl (by (try simp only [List.map_toArray, List.map_cons, List.map_nil]); first | done | rfl | (simp only [List.length_drop, List.length_take]; rfl)) ?_; (with_reducible refine (laws_markStripe.calls kj60 (fun k_ => some k_ = (.slice Ao33 t266.length co33 : Value).ownBlock) (.slice Ao33 t266.length co33) t266 t269 t270 1 t283 t284 w _ ?side1 ?side2 A91.out).mono ?_); (case side1 => repeat (first | (with_reducible first | exact HB.out | apply below_alloc | apply pw_below_drewN | apply below_drew1 | refine below_set ?_ GE246.out | refine below_set ?_ GE259.out | refine below_set ?_ GE265.out | refine below_set ?_ GE272.out) | exact HB.out)); (case side2 => exact Kd.R_tight rfl HO_273000.out); rintro e w173 ⟨rfl, hy0, hb, hkp⟩; refine ⟨_, rfl, ?_⟩; have n0_ := Aside0.mk (Kd.R_mono (ok' := fun k_ => some k_ ≠ (.slice Ao27 t281.length co27 : Value).ownBlock ∧ some k_ ≠ (.slice Ao33 t266.length co33 : Value).ownBlock) (Kd.R_keptB (HO_260000.out) hkp (fun k_ hk_ hs_ => (hk_.2) hs_)) (fun k_ hk_ => ⟨hk_.1.1, hk_.1.2⟩)); have n1_ := Aside0.mk (Kd.R_mono (ok' := fun k_ => some k_ ≠ (.slice Ao21 t253.length co21 : Value).ownBlock ∧ some k_ ≠ (.slice Ao33 t266.length co33 : Value).ownBlock) (Kd.R_keptB (HO_266000.out) hkp (fun k_ hk_ hs_ => (hk_.2) hs_)) (fun k_ hk_ => ⟨hk_.1.1, hk_.1.2⟩)); have n2_ := Aside0.mk (Kd.R_reok rfl hy0 (fun k_ e_ => HO_273000.out.1 k_ e_)); have n3_ := Aside0.mk (blk_kept (by (with_reducible repeat (first | refine blk_drewN ?_ _ | refine blk_drew ?_ | refine blk_alloc ?_ _)); exact BK246.out) hkp (fun hs_ => (fun e_ => (Kd.R_ne HO_273000.out BK246.out (by decide)) e_) hs_)); have n4_ := Aside0.mk (blk_kept (by (with_reducible repeat (first | refine blk_drewN ?_ _ | refine blk_drew ?_ | refine blk_alloc ?_ _)); exact BK259.out) hkp (fun hs_ => (fun e_ => (Kd.R_ne HO_273000.out BK259.out (by decide)) e_) hs_)); have n5_ := Aside0.mk (blk_kept (by (with_reducible repeat (first | refine blk_drewN ?_ _ | refine blk_drew ?_ | refine blk_alloc ?_ _)); exact BK265.out) hkp (fun hs_ => (fun e_ => (Kd.R_ne HO_273000.out BK265.out (by decide)) e_) hs_)); have n6_ := Aside0.mk (blk_kept (by (with_reducible repeat (first | refine blk_drewN ?_ _ | refine blk_drew ?_ | refine blk_alloc ?_ _)); exact BK272.out) hkp (fun hs_ => (fun e_ => (Kd.R_ne HO_273000.out BK272.out (by decide)) e_) hs_)); have n7_ := Aside0.mk (hb); clear HO_260000; clear HO_266000; clear HO_273000; clear BK246; clear BK259; clear BK265; clear BK272; clear HB; have HO_260000 := n0_; have HO_266000 := n1_; have HO_273000 := n2_; have BK246 := n3_; have BK259 := n4_; have BK265 := n5_; have BK272 := n6_; have HB := n7_; clear n0_ n1_ n2_ n3_ n4_ n5_ n6_ n7_; (try clear hb); (try clear hkp); (try clear hy0); have hcz174_0 : w173.cell? ⟨gb272, 0, none⟩ = some (.slice Ao33 t266.length co33) := (blk_cell BK272.out 0).trans rfl; have hcz174_1 : w173.cell? ⟨gb272, 1, none⟩ = some (.string t269) := (blk_cell BK272.out 1).trans rfl; have hcz174_2 : w173.cell? ⟨gb272, 2, none⟩ = some (.string t270) := (blk_cell BK272.out 2).trans rfl; have hfz174_0 := blk_frozen BK272.out 0; have hfz174_1 := blk_frozen BK272.out 1; have hfz174_2 := blk_frozen BK272.out 2) | ((with_reducible refine gate_callee (f := 26) rfl ?_); refine goesL_ (some 71) rfl rfl Try.func26 (by kernel_rfl) rfl #[.agg #[.slice Ao33 t284.length co33, .string t269, .string t270], .int .i64 1] rfl (by (try simp only [List.map_toArray, List.map_cons, List.map_nil]); first | done | (rw [show t284.length = t266.length from (Kd.R_reads' HO_273000.out).1.symm] <;> rfl) | rfl | (simp only [List.length_drop, List.length_take]; rfl)) ?_; (with_reducible refine (laws_heldStripe.calls kj60 _ _ t284 t269 t270 1 t285 _ ?side1 ?side2 A92.out).mono ?_); (case side1 => repeat (first | exact (Kd.R_reads' HO_273000.out).2.2 | (with_reducible refine Kd.C_alloc ?_ _) | (with_reducible refine Kd.C_drewN ?_ _) | (with_reducible refine Kd.C_drew ?_))); (case side2 => rw [show t284.length = t266.length from (Kd.R_reads' HO_273000.out).1.symm]; exact (Kd.R_reads' HO_273000.out).2.1); rintro e w175 ⟨rfl, hb⟩; refine ⟨_, rfl, ?_⟩; have n0_ := Aside0.mk (Kd.R_below (by (with_reducible repeat (first | apply Kd.R_alloc | apply Kd.R_drewN | apply Kd.R_drew)); exact HO_260000.out) hb); have n1_ := Aside0.mk (Kd.R_below (by (with_reducible repeat (first | apply Kd.R_alloc | apply Kd.R_drewN | apply Kd.R_drew)); exact HO_266000.out) hb); have n2_ := Aside0.mk (Kd.R_below (by (with_reducible repeat (first | apply Kd.R_alloc | apply Kd.R_drewN | apply Kd.R_drew)); exact HO_273000.out) hb); have n3_ := Aside0.mk (blk_below (g := gb246) (o := .cells #[.slice A0_0 l0_0.length c0_0, .string a0_1, .string a0_2] 24 (0, 0)) (by (with_reducible repeat (first | refine blk_drewN ?_ _ | refine blk_drew ?_ | refine blk_alloc ?_ _)); exact BK246.out) hb); have n4_ := Aside0.mk (blk_below (g := gb259) (o := .cells #[.slice Ao21 t253.length co21, .string t256, .string t257] 27 (0, 0)) (by (with_reducible repeat (first | refine blk_drewN ?_ _ | refine blk_drew ?_ | refine blk_alloc ?_ _)); exact BK259.out) hb); have n5_ := Aside0.mk (blk_below (g := gb265) (o := .cells #[.slice Ao27 t281.length co27, .string t263, .string t264] 27 (0, 0)) (by (with_reducible repeat (first | refine blk_drewN ?_ _ | refine blk_drew ?_ | refine blk_alloc ?_ _)); exact BK265.out) hb); have n6_ := Aside0.mk (blk_below (g := gb272) (o := .cells #[.slice Ao33 t266.length co33, .string t269, .string t270] 27 (0, 0)) (by (with_reducible repeat (first | refine blk_drewN ?_ _ | refine blk_drew ?_ | refine blk_alloc ?_ _)); exact BK272.out) hb); have n7_ := Aside0.mk (below_step (by repeat (first | (with_reducible first | exact HB.out | apply below_alloc | apply pw_below_drewN | apply below_drew1 | refine below_set ?_ GE246.out | refine below_set ?_ GE259.out | refine below_set ?_ GE265.out | refine below_set ?_ GE272.out) | exact HB.out)) hb); clear HO_260000; clear HO_266000; clear HO_273000; clear BK246; clear BK259; clear BK265; clear BK272; clear HB; have HO_260000 := n0_; have HO_266000 := n1_; have HO_273000 := n2_; have BK246 := n3_; have BK259 := n4_; have BK265 := n5_; have BK272 := n6_; have HB := n7_; clear n0_ n1_ n2_ n3_ n4_ n5_ n6_ n7_; (try clear hb); (try clear hb2); (try clear hk); (try clear hi)))
                      go_ret
                      exact ⟨by first | rfl | (simp [errW_none, errW_some] <;> rfl) | (simp [*, errW_none, errW_some] <;> rfl), by repeat (first | (with_reducible first | exact HB.out | apply below_alloc | apply pw_below_drewN | apply below_drew1 | refine below_set ?_ GE246.out | refine below_set ?_ GE259.out | refine below_set ?_ GE265.out | refine below_set ?_ GE272.out) | exact HB.out)⟩
          · replace c59 := Bool.eq_false_iff.mpr c59
            subst c59
            have H1 : (some false) = some r := by rw [if_neg (show ¬ (false = true) by decide)] at H; exact H
            clear H
            have H := H1
            clear H1
            obtain rfl := Option.some.inj H
            try go_wp2
            have n0_ := Aside0.mk (Kd.R_drew HO_260000.out)
            have n1_ := Aside0.mk (Kd.R_drew HO_266000.out)
            have n2_ := Aside0.mk (Kd.R_drew HO_273000.out)
            have n3_ := Aside0.mk (blk_drew BK246.out)
            have n4_ := Aside0.mk (blk_drew BK259.out)
            have n5_ := Aside0.mk (blk_drew BK265.out)
            have n6_ := Aside0.mk (blk_drew BK272.out)
            have n7_ := Aside0.mk (below_drew1 HB.out)
            clear HO_260000
            clear HO_266000
            clear HO_273000
            clear BK246
            clear BK259
            clear BK265
            clear BK272
            clear HB
            have HO_260000 := n0_
            have HO_266000 := n1_
            have HO_273000 := n2_
            have BK246 := n3_
            have BK259 := n4_
            have BK265 := n5_
            have BK272 := n6_
            have HB := n7_
            clear n0_ n1_ n2_ n3_ n4_ n5_ n6_ n7_
            refine start_ (n := 5) (S := fun w' => w'.cell? ⟨gb265, 0, none⟩ = some (.slice Ao27 t260.length co27) ∧ w'.cell? ⟨gb265, 1, none⟩ = some (.string t263) ∧ w'.cell? ⟨gb265, 2, none⟩ = some (.string t264) ∧ w'.cell? ⟨gb246, 0, none⟩ = some (.slice A0_0 l0_0.length c0_0) ∧ w'.cell? ⟨gb246, 1, none⟩ = some (.string a0_1) ∧ w'.cell? ⟨gb246, 2, none⟩ = some (.string a0_2)) (ds := []) #[false, false, false, false, false] (by kernel_rfl) rfl rfl ⟨(blk_cell BK265.out 0).trans rfl, (blk_cell BK265.out 1).trans rfl, (blk_cell BK265.out 2).trans rfl, (blk_cell BK246.out 0).trans rfl, (blk_cell BK246.out 1).trans rfl, (blk_cell BK246.out 2).trans rfl⟩ (fun hHeld => ?_)
            generalize wc.drew = w176 at HO_260000 HO_266000 HO_273000 BK246 BK259 BK265 BK272 HB hHeld ⊢
            refine take_ (i := 0) (N := some 45) (v := ?_) (a' := ?_) #[true, false, false, false, false] rfl rfl (by kernel_rfl) (fun _ _ _ h => h) (Or.inl ⟨by rfl, ?_⟩) hHeld ?_ ?_
            rotate_left
            · rintro w' ⟨s0, s1, s2, s3, s4, s5⟩
              go_simp
              with_reducible rfl
            rotate_left
            · simp only [Act.put, List.setIfInBounds_toArray, List.set_cons_zero, List.set_cons_succ, i64_w, i32_w]
              rfl
            refine take_ (i := 1) (N := some 46) (v := ?_) (a' := ?_) #[true, true, false, false, false] rfl rfl (by kernel_rfl) (fun _ _ _ h => h) (Or.inl ⟨by rfl, ?_⟩) hHeld ?_ ?_
            rotate_left
            · rintro w' ⟨s0, s1, s2, s3, s4, s5⟩
              go_simp
              with_reducible rfl
            rotate_left
            · simp only [Act.put, List.setIfInBounds_toArray, List.set_cons_zero, List.set_cons_succ, i64_w, i32_w]
              rfl
            refine one_ (i := 2) (N := some 47) #[true, true, true, false, false] rfl rfl (by kernel_rfl) (by decide) (fun K hK => ?_)
            refine goes_ Try.func14 (by kernel_rfl) rfl #[.agg #[.slice A0_0 l0_0.length c0_0, .string a0_1, .string a0_2]] (by rfl) rfl rfl (by (try simp only [List.map_toArray, List.map_cons, List.map_nil]); first | done | rfl | (simp only [List.length_drop, List.length_take]; rfl)) ?_
            with_reducible refine (laws_toStripe.calls kj11 _ _ l0_0 a0_1 a0_2 t274 t277 t278 _ ?side1 ?side2 A57.out).mono ?_
            (case side1 => repeat (first | exact (Kd.C_below HR0_0.out HB.out) | (with_reducible refine Kd.C_alloc ?_ _) | (with_reducible refine Kd.C_drewN ?_ _) | (with_reducible refine Kd.C_drew ?_)))
            (case side2 => exact HC0_0.out)
            rintro e w177 ⟨v275, rfl, ho0, hb⟩
            refine ⟨_, rfl, ?_⟩
            have n0_ := Aside0.mk (Kd.R_elder' (by (with_reducible repeat (first | apply Kd.R_alloc | apply Kd.R_drewN | apply Kd.R_drew)); exact HO_260000.out) (Kd.R_base ho0) hb)
            have n1_ := Aside0.mk (Kd.R_elder' (by (with_reducible repeat (first | apply Kd.R_alloc | apply Kd.R_drewN | apply Kd.R_drew)); exact HO_266000.out) (Kd.R_base ho0) hb)
            have n2_ := Aside0.mk (Kd.R_elder' (by (with_reducible repeat (first | apply Kd.R_alloc | apply Kd.R_drewN | apply Kd.R_drew)); exact HO_273000.out) (Kd.R_base ho0) hb)
            have n3_ := Aside0.mk (Kd.R_lower (Kd.R_new' (Kd.R_new' (Kd.R_new' ho0 (Kd.R_lt (by (with_reducible repeat (first | apply Kd.R_alloc | apply Kd.R_drewN | apply Kd.R_drew)); exact HO_260000.out))) (Kd.R_lt (by (with_reducible repeat (first | apply Kd.R_alloc | apply Kd.R_drewN | apply Kd.R_drew)); exact HO_266000.out))) (Kd.R_lt (by (with_reducible repeat (first | apply Kd.R_alloc | apply Kd.R_drewN | apply Kd.R_drew)); exact HO_273000.out))) (below_size (by repeat (first | (with_reducible first | exact HB.out | apply below_alloc | apply pw_below_drewN | apply below_drew1 | refine below_set ?_ GE246.out | refine below_set ?_ GE259.out | refine below_set ?_ GE265.out | refine below_set ?_ GE272.out) | exact HB.out))))
            have n4_ := Aside0.mk (blk_below (g := gb246) (o := .cells #[.slice A0_0 l0_0.length c0_0, .string a0_1, .string a0_2] 24 (0, 0)) (by (with_reducible repeat (first | refine blk_drewN ?_ _ | refine blk_drew ?_ | refine blk_alloc ?_ _)); exact BK246.out) hb)
            have n5_ := Aside0.mk (blk_below (g := gb259) (o := .cells #[.slice Ao21 t253.length co21, .string t256, .string t257] 27 (0, 0)) (by (with_reducible repeat (first | refine blk_drewN ?_ _ | refine blk_drew ?_ | refine blk_alloc ?_ _)); exact BK259.out) hb)
            have n6_ := Aside0.mk (blk_below (g := gb265) (o := .cells #[.slice Ao27 t260.length co27, .string t263, .string t264] 27 (0, 0)) (by (with_reducible repeat (first | refine blk_drewN ?_ _ | refine blk_drew ?_ | refine blk_alloc ?_ _)); exact BK265.out) hb)
            have n7_ := Aside0.mk (blk_below (g := gb272) (o := .cells #[.slice Ao33 t266.length co33, .string t269, .string t270] 27 (0, 0)) (by (with_reducible repeat (first | refine blk_drewN ?_ _ | refine blk_drew ?_ | refine blk_alloc ?_ _)); exact BK272.out) hb)
            have n8_ := Aside0.mk (below_step (by repeat (first | (with_reducible first | exact HB.out | apply below_alloc | apply pw_below_drewN | apply below_drew1 | refine below_set ?_ GE246.out | refine below_set ?_ GE259.out | refine below_set ?_ GE265.out | refine below_set ?_ GE272.out) | exact HB.out)) hb)
            clear HO_260000
            clear HO_266000
            clear HO_273000
            clear BK246
            clear BK259
            clear BK265
            clear BK272
            clear HB
            have HO_260000 := n0_
            have HO_266000 := n1_
            have HO_273000 := n2_
            have HO276 := n3_
            have BK246 := n4_
            have BK259 := n5_
            have BK265 := n6_
            have BK272 := n7_
            have HB := n8_
            clear n0_ n1_ n2_ n3_ n4_ n5_ n6_ n7_ n8_
            (try clear hb)
            (try clear hb2)
            (try clear hk)
            (try clear hi)
            (try clear ho0)
            obtain ⟨Ao178, co178, eo178⟩ := Kd.R_slice HO276.out
            (first | subst eo178 | (injection eo178 with f1_ f2_ f3_; have f4_ := f1_.symm; have f5_ := f3_.symm; clear f1_ f2_ f3_; subst f4_; subst f5_))
            refine hK.out _ _ ⟨(blk_cell BK265.out 0).trans rfl, (blk_cell BK265.out 1).trans rfl, (blk_cell BK265.out 2).trans rfl, (blk_cell BK246.out 0).trans rfl, (blk_cell BK246.out 1).trans rfl, (blk_cell BK246.out 2).trans rfl⟩ (fun hHeld => ?_)
            clear hK K
            refine norm_ (a' := ?_) ?_ ?_
            rotate_left
            · show Act.put _ (some 47) _ = _
              simp only [Act.put, List.setIfInBounds_toArray, List.set_cons_zero, List.set_cons_succ, i64_w, i32_w]
              rfl
            refine one_ (i := 3) (N := some 48) #[true, true, true, true, false] rfl rfl (by kernel_rfl) (by decide) (fun K hK => ?_)
            refine goes_ Try.func16 (by kernel_rfl) rfl #[.agg #[.slice Ao27 t260.length co27, .string t263, .string t264], .agg #[.slice Ao178 t274.length co178, .string t277, .string t278]] (by rfl) rfl rfl (by (try simp only [List.map_toArray, List.map_cons, List.map_nil]); first | done | rfl | (simp only [List.length_drop, List.length_take]; rfl)) ?_
            with_reducible refine (laws_eqStripe.calls kj11 _ _ t260 t263 t264 _ _ t274 t277 t278 false _ ?side1 ?side2 ?side3 ?side4 A58.out).mono ?_
            (case side1 => repeat (first | exact (Kd.R_reads' HO_266000.out).2.2 | (with_reducible refine Kd.C_alloc ?_ _) | (with_reducible refine Kd.C_drewN ?_ _) | (with_reducible refine Kd.C_drew ?_)))
            (case side2 => exact (Kd.R_reads' HO_266000.out).2.1)
            (case side3 => repeat (first | exact (Kd.R_reads' HO276.out).2.2 | (with_reducible refine Kd.C_alloc ?_ _) | (with_reducible refine Kd.C_drewN ?_ _) | (with_reducible refine Kd.C_drew ?_)))
            (case side4 => exact (Kd.R_reads' HO276.out).2.1)
            rintro e w179 ⟨rfl, hb⟩
            refine ⟨_, rfl, ?_⟩
            have n0_ := Aside0.mk (Kd.R_below (by (with_reducible repeat (first | apply Kd.R_alloc | apply Kd.R_drewN | apply Kd.R_drew)); exact HO_260000.out) hb)
            have n1_ := Aside0.mk (Kd.R_below (by (with_reducible repeat (first | apply Kd.R_alloc | apply Kd.R_drewN | apply Kd.R_drew)); exact HO_266000.out) hb)
            have n2_ := Aside0.mk (Kd.R_below (by (with_reducible repeat (first | apply Kd.R_alloc | apply Kd.R_drewN | apply Kd.R_drew)); exact HO_273000.out) hb)
            have n3_ := Aside0.mk (Kd.R_below (by (with_reducible repeat (first | apply Kd.R_alloc | apply Kd.R_drewN | apply Kd.R_drew)); exact HO276.out) hb)
            have n4_ := Aside0.mk (blk_below (g := gb246) (o := .cells #[.slice A0_0 l0_0.length c0_0, .string a0_1, .string a0_2] 24 (0, 0)) (by (with_reducible repeat (first | refine blk_drewN ?_ _ | refine blk_drew ?_ | refine blk_alloc ?_ _)); exact BK246.out) hb)
            have n5_ := Aside0.mk (blk_below (g := gb259) (o := .cells #[.slice Ao21 t253.length co21, .string t256, .string t257] 27 (0, 0)) (by (with_reducible repeat (first | refine blk_drewN ?_ _ | refine blk_drew ?_ | refine blk_alloc ?_ _)); exact BK259.out) hb)
            have n6_ := Aside0.mk (blk_below (g := gb265) (o := .cells #[.slice Ao27 t260.length co27, .string t263, .string t264] 27 (0, 0)) (by (with_reducible repeat (first | refine blk_drewN ?_ _ | refine blk_drew ?_ | refine blk_alloc ?_ _)); exact BK265.out) hb)
            have n7_ := Aside0.mk (blk_below (g := gb272) (o := .cells #[.slice Ao33 t266.length co33, .string t269, .string t270] 27 (0, 0)) (by (with_reducible repeat (first | refine blk_drewN ?_ _ | refine blk_drew ?_ | refine blk_alloc ?_ _)); exact BK272.out) hb)
            have n8_ := Aside0.mk (below_step (by repeat (first | (with_reducible first | exact HB.out | apply below_alloc | apply pw_below_drewN | apply below_drew1 | refine below_set ?_ GE246.out | refine below_set ?_ GE259.out | refine below_set ?_ GE265.out | refine below_set ?_ GE272.out) | exact HB.out)) hb)
            clear HO_260000
            clear HO_266000
            clear HO_273000
            clear HO276
            clear BK246
            clear BK259
            clear BK265
            clear BK272
            clear HB
            have HO_260000 := n0_
            have HO_266000 := n1_
            have HO_273000 := n2_
            have HO276 := n3_
            have BK246 := n4_
            have BK259 := n5_
            have BK265 := n6_
            have BK272 := n7_
            have HB := n8_
            clear n0_ n1_ n2_ n3_ n4_ n5_ n6_ n7_ n8_
            (try clear hb)
            (try clear hb2)
            (try clear hk)
            (try clear hi)
            refine hK.out _ _ ⟨(blk_cell BK265.out 0).trans rfl, (blk_cell BK265.out 1).trans rfl, (blk_cell BK265.out 2).trans rfl, (blk_cell BK246.out 0).trans rfl, (blk_cell BK246.out 1).trans rfl, (blk_cell BK246.out 2).trans rfl⟩ (fun hHeld => ?_)
            clear hK K
            refine norm_ (a' := ?_) ?_ ?_
            rotate_left
            · show Act.put _ (some 48) _ = _
              simp only [Act.put, List.setIfInBounds_toArray, List.set_cons_zero, List.set_cons_succ, i64_w, i32_w]
              rfl
            refine pure_ (i := 4) (N := some 49) (v := ?_) (a' := ?_) #[true, true, true, true, true] rfl rfl (by kernel_rfl) (fun _ _ _ h => h) (Or.inl ⟨by rfl, ?_⟩) ?_ ?_
            rotate_left
            · intro w'
              go_simp
              with_reducible rfl
            rotate_left
            · simp only [Act.put, List.setIfInBounds_toArray, List.set_cons_zero, List.set_cons_succ, i64_w, i32_w]
              rfl
            refine done_ (by kernel_rfl) ?_
            try go_wp2
            go_ret
            exact ⟨by first | rfl | (simp [errW_none, errW_some] <;> rfl) | (simp [*, errW_none, errW_some] <;> rfl), by repeat (first | (with_reducible first | exact HB.out | apply below_alloc | apply pw_below_drewN | apply below_drew1 | refine below_set ?_ GE246.out | refine below_set ?_ GE259.out | refine below_set ?_ GE265.out | refine below_set ?_ GE272.out) | exact HB.out)⟩

/-- The one pure statement of laws_FnExactRecoverOne. -/
def laws_FnExactRecoverOne.PureG : Prop := ∀ (l0_0 : List ByteArray) (a0_1 : ByteArray) (a0_2 : ByteArray) (a1 : Int), (l0_0.length ≤ maxLen ∧ ∀ x_ ∈ l0_0, x_.size ≤ maxLen) → a0_1.size ≤ maxLen → a0_2.size ≤ maxLen → (Lit.int .i64 a1).wf = true → ∃ k, laws_FnExactRecoverOne.f k l0_0 a0_1 a0_2 a1 = some true

end Go.Proofs.Ytfijnlhklfmoeaa.PFnExactRecoverOne
