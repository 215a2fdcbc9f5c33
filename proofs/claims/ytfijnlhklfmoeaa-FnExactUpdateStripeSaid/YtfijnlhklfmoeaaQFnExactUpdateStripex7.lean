/- The walks of FnExactUpdateStripe: Go's calls come to what the Lean functions beside them say; no condition. -/
import Derived.Test.YtfijnlhklfmoeaaQFnExactUpdateStripex0
import Derived.Test.YtfijnlhklfmoeaaQFnExactUpdateStripex1
import Derived.Test.YtfijnlhklfmoeaaQFnExactUpdateStripex2
import Derived.Test.YtfijnlhklfmoeaaQFnExactUpdateStripex3
import Derived.Test.YtfijnlhklfmoeaaQFnExactUpdateStripex6
namespace Go.Proofs.Ytfijnlhklfmoeaa.PFnExactUpdateStripe
open Go.RowKit Go.Proofs.YtfijnlhklfmoeaaW.PrintWords Go.Proofs.YtfijnlhklfmoeaaW.PrintLast Go.Proofs.YtfijnlhklfmoeaaW.PrintMore
attribute [local go_sem] max2_int min2_int max_two min_two max_three min_three max_four min_four   -- for this text's walks alone
set_option linter.unusedVariables false
set_option linter.unusedSimpArgs false
set_option maxRecDepth 100000

/-! ### laws_FnExactUpdateStripe: function 6 -/
mutual
def laws_FnExactUpdateStripe.j0 : Nat → Int → ByteArray → Bool → Bool → Bool → List ByteArray → ByteArray → ByteArray → List ByteArray → ByteArray → ByteArray → List ByteArray → ByteArray → ByteArray → List ByteArray → ByteArray → ByteArray → Option (Bool)
  | 0, _, _, _, _, _, _, _, _, _, _, _, _, _, _, _, _, _ => none
  | k + 1, x1, x2, x9, x12, x51, x199000, x199001, x199002, x212000, x212001, x212002, x218000, x218001, x218002, x225000, x225001, x225002 => if x51 = true then (some false) else ((laws_toStripe.f k x199000 x199001 x199002).bind fun bt226 => ((laws_eqStripe.f k x218000 x218001 x218002 bt226.1 bt226.2.1 bt226.2.2).bind fun t231 => (if t231 = true then ((laws_markStripe.f k x218000 x218001 x218002 1).bind fun bt232 => (if bt232.1 < 0 then (laws_FnExactUpdateStripe.j1 k x1 x2 x9 true x199000 x199001 x199002 x212000 x212001 x212002 x225000 x225001 x225002) else ((laws_eqStripe.f k x225000 x225001 x225002 x212000 x212001 x212002).bind fun t234 => (if t234 = true then (laws_FnExactUpdateStripe.j1 k x1 x2 x9 (x12 != x9) x199000 x199001 x199002 x212000 x212001 x212002 x225000 x225001 x225002) else (laws_FnExactUpdateStripe.j1 k x1 x2 x9 true x199000 x199001 x199002 x212000 x212001 x212002 x225000 x225001 x225002))))) else (some false))))
def laws_FnExactUpdateStripe.j1 : Nat → Int → ByteArray → Bool → Bool → List ByteArray → ByteArray → ByteArray → List ByteArray → ByteArray → ByteArray → List ByteArray → ByteArray → ByteArray → Option (Bool)
  | 0, _, _, _, _, _, _, _, _, _, _, _, _, _ => none
  | k + 1, x1, x2, x9, x72, x199000, x199001, x199002, x212000, x212001, x212002, x225000, x225001, x225002 => if x72 = true then (some false) else ((laws_markStripe.f k x225000 x225001 x225002 1).bind fun bt235 => ((laws_heldStripe.f k bt235.2 x225001 x225002 1).bind fun t237 => (if t237 < 0 then (some false) else (if t237 = bt235.1 then ((laws_toStripe.f k x199000 x199001 x199002).bind fun bt238 => ((impl_UpdateStripe.f k bt238.1 bt238.2.1 bt238.2.2 x1 x2).bind fun bt243 => ((laws_eqStripe.f k bt243.1 bt243.2.1 bt243.2.2.1 x212000 x212001 x212002).bind fun t250 => (if t250 = true then (laws_FnExactUpdateStripe.j2 k bt235.1 (bt243.2.2.2 != x9) bt235.2 x225001 x225002) else (laws_FnExactUpdateStripe.j2 k bt235.1 true bt235.2 x225001 x225002))))) else (some false)))))
def laws_FnExactUpdateStripe.j2 : Nat → Int → Bool → List ByteArray → ByteArray → ByteArray → Option (Bool)
  | 0, _, _, _, _, _ => none
  | k + 1, x14, x100, x225000, x225001, x225002 => if x100 = true then (some false) else ((laws_heldStripe.f k x225000 x225001 x225002 1).bind fun t251 => (if t251 < 0 then (some false) else (if t251 = x14 then (some true) else (some false))))
end
def laws_FnExactUpdateStripe.f (k : Nat) (l0_0 : List ByteArray) (a0_1 : ByteArray) (a0_2 : ByteArray) (a1 : Int) (a2 : ByteArray) : Option (Bool) := if (a2.size : Int) > 1048576 then (some true) else ((laws_szStripe.f k l0_0 a0_1 a0_2 1048576).bind fun t199 => (if t199 < 0 then (some true) else ((laws_toStripe.f k l0_0 a0_1 a0_2).bind fun bt200 => ((spec_UpdateStripe.f k bt200.1 bt200.2.1 bt200.2.2 a1 a2).bind fun bt205 => ((laws_toStripe.f k l0_0 a0_1 a0_2).bind fun bt212 => ((impl_UpdateStripe.f k bt212.1 bt212.2.1 bt212.2.2 a1 a2).bind fun bt218 => ((laws_eqStripe.f k bt218.1 bt218.2.1 bt218.2.2.1 bt205.1 bt205.2.1 bt205.2.2.1).bind fun t225 => (if t225 = true then (laws_FnExactUpdateStripe.j0 k a1 a2 bt205.2.2.2 bt218.2.2.2 (bt218.2.2.2 != bt205.2.2.2) l0_0 a0_1 a0_2 bt205.1 bt205.2.1 bt205.2.2.1 bt212.1 bt212.2.1 bt212.2.2 bt218.1 bt218.2.1 bt218.2.2.1) else (laws_FnExactUpdateStripe.j0 k a1 a2 bt205.2.2.2 bt218.2.2.2 true l0_0 a0_1 a0_2 bt205.1 bt205.2.1 bt205.2.2.1 bt212.1 bt212.2.1 bt212.2.2 bt218.1 bt218.2.1 bt218.2.2.1)))))))))
theorem laws_FnExactUpdateStripe.mono_l : ∀ k, (∀ y0 y1 y2 y3 y4 y5 y6 y7 y8 y9 y10 y11 y12 y13 y14 y15 y16, LeO (laws_FnExactUpdateStripe.j0 k y0 y1 y2 y3 y4 y5 y6 y7 y8 y9 y10 y11 y12 y13 y14 y15 y16) (laws_FnExactUpdateStripe.j0 (k + 1) y0 y1 y2 y3 y4 y5 y6 y7 y8 y9 y10 y11 y12 y13 y14 y15 y16)) ∧ (∀ y0 y1 y2 y3 y4 y5 y6 y7 y8 y9 y10 y11 y12, LeO (laws_FnExactUpdateStripe.j1 k y0 y1 y2 y3 y4 y5 y6 y7 y8 y9 y10 y11 y12) (laws_FnExactUpdateStripe.j1 (k + 1) y0 y1 y2 y3 y4 y5 y6 y7 y8 y9 y10 y11 y12)) ∧ (∀ y0 y1 y2 y3 y4, LeO (laws_FnExactUpdateStripe.j2 k y0 y1 y2 y3 y4) (laws_FnExactUpdateStripe.j2 (k + 1) y0 y1 y2 y3 y4))
  | 0 => ⟨fun _ _ _ _ _ _ _ _ _ _ _ _ _ _ _ _ _ r h => by simp [laws_FnExactUpdateStripe.j0] at h, fun _ _ _ _ _ _ _ _ _ _ _ _ _ r h => by simp [laws_FnExactUpdateStripe.j1] at h, fun _ _ _ _ _ r h => by simp [laws_FnExactUpdateStripe.j2] at h⟩
  | k + 1 => by
    obtain ⟨ih0, ih1, ih2⟩ := laws_FnExactUpdateStripe.mono_l k
    refine ⟨?_, ?_, ?_⟩
    · intro y0 y1 y2 y3 y4 y5 y6 y7 y8 y9 y10 y11 y12 y13 y14 y15 y16
      unfold laws_FnExactUpdateStripe.j0
      repeat' first
      | (with_reducible exact ih0 _ _ _ _ _ _ _ _ _ _ _ _ _ _ _ _ _)
      | (with_reducible exact ih1 _ _ _ _ _ _ _ _ _ _ _ _ _)
      | (with_reducible exact ih2 _ _ _ _ _)
      | (with_reducible exact impl_UpdateStripe.mono _ _ _ _ _ _)
      | (with_reducible exact laws_eqStripe.mono _ _ _ _ _ _ _)
      | (with_reducible exact laws_heldStripe.mono _ _ _ _ _)
      | (with_reducible exact laws_markStripe.mono _ _ _ _ _)
      | (with_reducible exact laws_szStripe.mono _ _ _ _ _)
      | (with_reducible exact laws_toStripe.mono _ _ _ _)
      | (with_reducible exact spec_UpdateStripe.mono _ _ _ _ _ _)
      | (with_reducible exact LeO.refl _)
      | (with_reducible exact LeO.none _)
      | (with_reducible refine LeO.ite ?_ ?_)
      | (with_reducible refine LeO.bind ?_ (fun _ => ?_))
      | exact ih0 _ _ _ _ _ _ _ _ _ _ _ _ _ _ _ _ _
      | exact ih1 _ _ _ _ _ _ _ _ _ _ _ _ _
      | exact ih2 _ _ _ _ _
      | exact impl_UpdateStripe.mono _ _ _ _ _ _
      | exact laws_eqStripe.mono _ _ _ _ _ _ _
      | exact laws_heldStripe.mono _ _ _ _ _
      | exact laws_markStripe.mono _ _ _ _ _
      | exact laws_szStripe.mono _ _ _ _ _
      | exact laws_toStripe.mono _ _ _ _
      | exact spec_UpdateStripe.mono _ _ _ _ _ _
      | exact LeO.none _
      | refine LeO.ite ?_ ?_
      | refine LeO.bind ?_ (fun _ => ?_)
    · intro y0 y1 y2 y3 y4 y5 y6 y7 y8 y9 y10 y11 y12
      unfold laws_FnExactUpdateStripe.j1
      repeat' first
      | (with_reducible exact ih0 _ _ _ _ _ _ _ _ _ _ _ _ _ _ _ _ _)
      | (with_reducible exact ih1 _ _ _ _ _ _ _ _ _ _ _ _ _)
      | (with_reducible exact ih2 _ _ _ _ _)
      | (with_reducible exact impl_UpdateStripe.mono _ _ _ _ _ _)
      | (with_reducible exact laws_eqStripe.mono _ _ _ _ _ _ _)
      | (with_reducible exact laws_heldStripe.mono _ _ _ _ _)
      | (with_reducible exact laws_markStripe.mono _ _ _ _ _)
      | (with_reducible exact laws_szStripe.mono _ _ _ _ _)
      | (with_reducible exact laws_toStripe.mono _ _ _ _)
      | (with_reducible exact spec_UpdateStripe.mono _ _ _ _ _ _)
      | (with_reducible exact LeO.refl _)
      | (with_reducible exact LeO.none _)
      | (with_reducible refine LeO.ite ?_ ?_)
      | (with_reducible refine LeO.bind ?_ (fun _ => ?_))
      | exact ih0 _ _ _ _ _ _ _ _ _ _ _ _ _ _ _ _ _
      | exact ih1 _ _ _ _ _ _ _ _ _ _ _ _ _
      | exact ih2 _ _ _ _ _
      | exact impl_UpdateStripe.mono _ _ _ _ _ _
      | exact laws_eqStripe.mono _ _ _ _ _ _ _
      | exact laws_heldStripe.mono _ _ _ _ _
      | exact laws_markStripe.mono _ _ _ _ _
      | exact laws_szStripe.mono _ _ _ _ _
      | exact laws_toStripe.mono _ _ _ _
      | exact spec_UpdateStripe.mono _ _ _ _ _ _
      | exact LeO.none _
      | refine LeO.ite ?_ ?_
      | refine LeO.bind ?_ (fun _ => ?_)
    · intro y0 y1 y2 y3 y4
      unfold laws_FnExactUpdateStripe.j2
      repeat' first
      | (with_reducible exact ih0 _ _ _ _ _ _ _ _ _ _ _ _ _ _ _ _ _)
      | (with_reducible exact ih1 _ _ _ _ _ _ _ _ _ _ _ _ _)
      | (with_reducible exact ih2 _ _ _ _ _)
      | (with_reducible exact impl_UpdateStripe.mono _ _ _ _ _ _)
      | (with_reducible exact laws_eqStripe.mono _ _ _ _ _ _ _)
      | (with_reducible exact laws_heldStripe.mono _ _ _ _ _)
      | (with_reducible exact laws_markStripe.mono _ _ _ _ _)
      | (with_reducible exact laws_szStripe.mono _ _ _ _ _)
      | (with_reducible exact laws_toStripe.mono _ _ _ _)
      | (with_reducible exact spec_UpdateStripe.mono _ _ _ _ _ _)
      | (with_reducible exact LeO.refl _)
      | (with_reducible exact LeO.none _)
      | (with_reducible refine LeO.ite ?_ ?_)
      | (with_reducible refine LeO.bind ?_ (fun _ => ?_))
      | exact ih0 _ _ _ _ _ _ _ _ _ _ _ _ _ _ _ _ _
      | exact ih1 _ _ _ _ _ _ _ _ _ _ _ _ _
      | exact ih2 _ _ _ _ _
      | exact impl_UpdateStripe.mono _ _ _ _ _ _
      | exact laws_eqStripe.mono _ _ _ _ _ _ _
      | exact laws_heldStripe.mono _ _ _ _ _
      | exact laws_markStripe.mono _ _ _ _ _
      | exact laws_szStripe.mono _ _ _ _ _
      | exact laws_toStripe.mono _ _ _ _
      | exact spec_UpdateStripe.mono _ _ _ _ _ _
      | exact LeO.none _
      | refine LeO.ite ?_ ?_
      | refine LeO.bind ?_ (fun _ => ?_)
theorem laws_FnExactUpdateStripe.mono : ∀ a0 a1 a2 a3 a4 k, LeO (laws_FnExactUpdateStripe.f k a0 a1 a2 a3 a4) (laws_FnExactUpdateStripe.f (k + 1) a0 a1 a2 a3 a4) := by
  intro a0 a1 a2 a3 a4 k
  obtain ⟨ih0, ih1, ih2⟩ := laws_FnExactUpdateStripe.mono_l k
  unfold laws_FnExactUpdateStripe.f
  repeat' first
      | (with_reducible exact ih0 _ _ _ _ _ _ _ _ _ _ _ _ _ _ _ _ _)
      | (with_reducible exact ih1 _ _ _ _ _ _ _ _ _ _ _ _ _)
      | (with_reducible exact ih2 _ _ _ _ _)
      | (with_reducible exact impl_UpdateStripe.mono _ _ _ _ _ _)
      | (with_reducible exact laws_eqStripe.mono _ _ _ _ _ _ _)
      | (with_reducible exact laws_heldStripe.mono _ _ _ _ _)
      | (with_reducible exact laws_markStripe.mono _ _ _ _ _)
      | (with_reducible exact laws_szStripe.mono _ _ _ _ _)
      | (with_reducible exact laws_toStripe.mono _ _ _ _)
      | (with_reducible exact spec_UpdateStripe.mono _ _ _ _ _ _)
      | (with_reducible exact LeO.refl _)
      | (with_reducible exact LeO.none _)
      | (with_reducible refine LeO.ite ?_ ?_)
      | (with_reducible refine LeO.bind ?_ (fun _ => ?_))
      | exact ih0 _ _ _ _ _ _ _ _ _ _ _ _ _ _ _ _ _
      | exact ih1 _ _ _ _ _ _ _ _ _ _ _ _ _
      | exact ih2 _ _ _ _ _
      | exact impl_UpdateStripe.mono _ _ _ _ _ _
      | exact laws_eqStripe.mono _ _ _ _ _ _ _
      | exact laws_heldStripe.mono _ _ _ _ _
      | exact laws_markStripe.mono _ _ _ _ _
      | exact laws_szStripe.mono _ _ _ _ _
      | exact laws_toStripe.mono _ _ _ _
      | exact spec_UpdateStripe.mono _ _ _ _ _ _
      | exact LeO.none _
      | refine LeO.ite ?_ ?_
      | refine LeO.bind ?_ (fun _ => ?_)
set_option maxHeartbeats 8000000 in
set_option maxRecDepth 100000 in
theorem laws_FnExactUpdateStripe.calls (k : Nat) (A0_0 : Option Addr) (c0_0 : Nat) (l0_0 : List ByteArray) (a0_1 : ByteArray) (a0_2 : ByteArray) (a1 : Int) (a2 : ByteArray) (r : Bool) (w : World) (hr0_0 : Kd.C Kd.string w A0_0 l0_0.length l0_0) (hc0_0 : l0_0.length ≤ c0_0) (h : laws_FnExactUpdateStripe.f k l0_0 a0_1 a0_2 a1 a2 = some r) :
    Calls Try.prog 6 #[.agg #[.slice A0_0 l0_0.length c0_0, .string a0_1, .string a0_2], .int .i64 a1, .string a2] w fun e w' => e = .returned (.bool r) ∧ Below w.heap.size w w' := by
  have hu24 := Try.underlying24
  have hu27 := Try.underlying27
  have HR0_0 := Aside0.mk hr0_0
  have HC0_0 := Aside0.mk hc0_0
  clear hr0_0 hc0_0
  have HB := Aside0.mk (Below.refl w.heap.size w)
  have H : (if (a2.size : Int) > 1048576 then (some true) else ((laws_szStripe.f k l0_0 a0_1 a0_2 1048576).bind fun t199 => (if t199 < 0 then (some true) else ((laws_toStripe.f k l0_0 a0_1 a0_2).bind fun bt200 => ((spec_UpdateStripe.f k bt200.1 bt200.2.1 bt200.2.2 a1 a2).bind fun bt205 => ((laws_toStripe.f k l0_0 a0_1 a0_2).bind fun bt212 => ((impl_UpdateStripe.f k bt212.1 bt212.2.1 bt212.2.2 a1 a2).bind fun bt218 => ((laws_eqStripe.f k bt218.1 bt218.2.1 bt218.2.2.1 bt205.1 bt205.2.1 bt205.2.2.1).bind fun t225 => (if t225 = true then (laws_FnExactUpdateStripe.j0 k a1 a2 bt205.2.2.2 bt218.2.2.2 (bt218.2.2.2 != bt205.2.2.2) l0_0 a0_1 a0_2 bt205.1 bt205.2.1 bt205.2.2.1 bt212.1 bt212.2.1 bt212.2.2 bt218.1 bt218.2.1 bt218.2.2.1) else (laws_FnExactUpdateStripe.j0 k a1 a2 bt205.2.2.2 bt218.2.2.2 true l0_0 a0_1 a0_2 bt205.1 bt205.2.1 bt205.2.2.1 bt212.1 bt212.2.1 bt212.2.2 bt218.1 bt218.2.1 bt218.2.2.1)))))))))) = some r := h
  clear h
  by_cases c4 : (a2.size : Int) > 1048576
  · rw [if_pos c4] at H
    have c4b0 : decide (1048576 < (a2.size : Int)) = true := decide_eq_true c4
    have c4b1 : decide (1048576 < a2.size) = true := decide_eq_true (by omega)
    clear c4
    obtain rfl := Option.some.inj H
    go_enter Try.func6, Try.ntmps6
    go_wp2_with (first | ((with_reducible refine gate_dst (N := 3) rfl ?_); refine box_event ?hg (N := 3) ?hd (cs := #[.slice A0_0 l0_0.length c0_0, .string a0_1, .string a0_2]) (t := 24) ?hr ?_; (case hd => rfl); (case hg => rfl); (case hr => first | (go_simp; done) | (go_simp; rfl)); intro gb198 hg w5 hbox hb; have n0_ := Aside0.mk (below_step (by repeat (first | (with_reducible first | exact HB.out | apply below_alloc | apply pw_below_drewN | apply below_drew1) | exact HB.out)) hb); have n1_ := Aside0.mk (hbox); have n2_ := Aside0.mk ((by rw [hg]; exact (below_size (by repeat (first | (with_reducible first | exact HB.out | apply below_alloc | apply pw_below_drewN | apply below_drew1) | exact HB.out))) : w.heap.size ≤ gb198)); have n3_ := Aside0.mk ((by rw [hg]; exact (below_size (by repeat (first | (with_reducible first | exact HB.out | apply below_alloc | apply pw_below_drewN | apply below_drew1) | exact HB.out))) : w.heap.size ≤ gb198)); clear HB; have HB := n0_; have BK198 := n1_; have GW198 := n2_; have GE198 := n3_; clear n0_ n1_ n2_ n3_; clear hb hbox hg))
    go_ret
    exact ⟨by first | rfl | (simp [errW_none, errW_some] <;> rfl) | (simp [*, errW_none, errW_some] <;> rfl), by repeat (first | (with_reducible first | exact HB.out | apply below_alloc | apply pw_below_drewN | apply below_drew1 | refine below_set ?_ GE198.out) | exact HB.out)⟩
  · rw [if_neg c4] at H
    have c4b0 : decide (1048576 < (a2.size : Int)) = false := decide_eq_false c4
    have c4b1 : decide (1048576 < a2.size) = false := decide_eq_false (by omega)
    clear c4
    replace H := Option.bind_eq_some_iff.mp H
    obtain ⟨t199, A60, H⟩ := H
    replace H : (if t199 < 0 then (some true) else ((laws_toStripe.f k l0_0 a0_1 a0_2).bind fun bt200 => ((spec_UpdateStripe.f k bt200.1 bt200.2.1 bt200.2.2 a1 a2).bind fun bt205 => ((laws_toStripe.f k l0_0 a0_1 a0_2).bind fun bt212 => ((impl_UpdateStripe.f k bt212.1 bt212.2.1 bt212.2.2 a1 a2).bind fun bt218 => ((laws_eqStripe.f k bt218.1 bt218.2.1 bt218.2.2.1 bt205.1 bt205.2.1 bt205.2.2.1).bind fun t225 => (if t225 = true then (laws_FnExactUpdateStripe.j0 k a1 a2 bt205.2.2.2 bt218.2.2.2 (bt218.2.2.2 != bt205.2.2.2) l0_0 a0_1 a0_2 bt205.1 bt205.2.1 bt205.2.2.1 bt212.1 bt212.2.1 bt212.2.2 bt218.1 bt218.2.1 bt218.2.2.1) else (laws_FnExactUpdateStripe.j0 k a1 a2 bt205.2.2.2 bt218.2.2.2 true l0_0 a0_1 a0_2 bt205.1 bt205.2.1 bt205.2.2.1 bt212.1 bt212.2.1 bt212.2.2 bt218.1 bt218.2.1 bt218.2.2.1)))))))) = some r := H
    have A6 := Aside0.mk A60
    clear A60
    by_cases c7 : t199 < 0
    · rw [if_pos c7] at H
      have c7b0 : decide (t199 < 0) = true := decide_eq_true c7
      clear c7
      obtain rfl := Option.some.inj H
      go_enter Try.func6, Try.ntmps6
      go_wp2_with (first | ((with_reducible refine gate_dst (N := 3) rfl ?_); refine box_event ?hg (N := 3) ?hd (cs := #[.slice A0_0 l0_0.length c0_0, .string a0_1, .string a0_2]) (t := 24) ?hr ?_; (case hd => rfl); (case hg => rfl); (case hr => first | (go_simp; done) | (go_simp; rfl)); intro gb198 hg w8 hbox hb; have n0_ := Aside0.mk (below_step (by repeat (first | (with_reducible first | exact HB.out | apply below_alloc | apply pw_below_drewN | apply below_drew1) | exact HB.out)) hb); have n1_ := Aside0.mk (hbox); have n2_ := Aside0.mk ((by rw [hg]; exact (below_size (by repeat (first | (with_reducible first | exact HB.out | apply below_alloc | apply pw_below_drewN | apply below_drew1) | exact HB.out))) : w.heap.size ≤ gb198)); have n3_ := Aside0.mk ((by rw [hg]; exact (below_size (by repeat (first | (with_reducible first | exact HB.out | apply below_alloc | apply pw_below_drewN | apply below_drew1) | exact HB.out))) : w.heap.size ≤ gb198)); clear HB; have HB := n0_; have BK198 := n1_; have GW198 := n2_; have GE198 := n3_; clear n0_ n1_ n2_ n3_; clear hb hbox hg; have hcz9_0 : w8.cell? ⟨gb198, 0, none⟩ = some (.slice A0_0 l0_0.length c0_0) := (blk_cell BK198.out 0).trans rfl; have hcz9_1 : w8.cell? ⟨gb198, 1, none⟩ = some (.string a0_1) := (blk_cell BK198.out 1).trans rfl; have hcz9_2 : w8.cell? ⟨gb198, 2, none⟩ = some (.string a0_2) := (blk_cell BK198.out 2).trans rfl; have hfz9_0 := blk_frozen BK198.out 0; have hfz9_1 := blk_frozen BK198.out 1; have hfz9_2 := blk_frozen BK198.out 2) | ((with_reducible refine gate_callee (f := 12) rfl ?_); refine goesL_ (some 23) rfl rfl Try.func12 (by kernel_rfl) rfl #[.agg #[.slice A0_0 l0_0.length c0_0, .string a0_1, .string a0_2], .int .i64 1048576] rfl (by (try simp only [List.map_toArray, List.map_cons, List.map_nil]); first | done | rfl | (simp only [List.length_drop, List.length_take]; rfl)) ?_; (with_reducible refine (laws_szStripe.calls k _ _ l0_0 a0_1 a0_2 1048576 t199 _ ?side1 ?side2 A6.out).mono ?_); (case side1 => repeat (first | exact (Kd.C_below HR0_0.out HB.out) | (with_reducible refine Kd.C_alloc ?_ _) | (with_reducible refine Kd.C_drewN ?_ _) | (with_reducible refine Kd.C_drew ?_))); (case side2 => exact HC0_0.out); rintro e w10 ⟨rfl, hb⟩; refine ⟨_, rfl, ?_⟩; have n0_ := Aside0.mk (blk_below (g := gb198) (o := .cells #[.slice A0_0 l0_0.length c0_0, .string a0_1, .string a0_2] 24 (0, 0)) (by (with_reducible repeat (first | refine blk_drewN ?_ _ | refine blk_drew ?_ | refine blk_alloc ?_ _)); exact BK198.out) hb); have n1_ := Aside0.mk (below_step (by repeat (first | (with_reducible first | exact HB.out | apply below_alloc | apply pw_below_drewN | apply below_drew1 | refine below_set ?_ GE198.out) | exact HB.out)) hb); clear BK198; clear HB; have BK198 := n0_; have HB := n1_; clear n0_ n1_; (try clear hb); (try clear hb2); (try clear hk); (try clear hi)))
      go_ret
      exact ⟨by first | rfl | (simp [errW_none, errW_some] <;> rfl) | (simp [*, errW_none, errW_some] <;> rfl), by repeat (first | (with_reducible first | exact HB.out | apply below_alloc | apply pw_below_drewN | apply below_drew1 | refine below_set ?_ GE198.out) | exact HB.out)⟩
    · rw [if_neg c7] at H
      have c7b0 : decide (t199 < 0) = false := decide_eq_false c7
      clear c7
      replace H := Option.bind_eq_some_iff.mp H
      obtain ⟨⟨t200, t203, t204⟩, A110, H⟩ := H
      replace H : ((spec_UpdateStripe.f k t200 t203 t204 a1 a2).bind fun bt205 => ((laws_toStripe.f k l0_0 a0_1 a0_2).bind fun bt212 => ((impl_UpdateStripe.f k bt212.1 bt212.2.1 bt212.2.2 a1 a2).bind fun bt218 => ((laws_eqStripe.f k bt218.1 bt218.2.1 bt218.2.2.1 bt205.1 bt205.2.1 bt205.2.2.1).bind fun t225 => (if t225 = true then (laws_FnExactUpdateStripe.j0 k a1 a2 bt205.2.2.2 bt218.2.2.2 (bt218.2.2.2 != bt205.2.2.2) l0_0 a0_1 a0_2 bt205.1 bt205.2.1 bt205.2.2.1 bt212.1 bt212.2.1 bt212.2.2 bt218.1 bt218.2.1 bt218.2.2.1) else (laws_FnExactUpdateStripe.j0 k a1 a2 bt205.2.2.2 bt218.2.2.2 true l0_0 a0_1 a0_2 bt205.1 bt205.2.1 bt205.2.2.1 bt212.1 bt212.2.1 bt212.2.2 bt218.1 bt218.2.1 bt218.2.2.1)))))) = some r := H
      have A11 := Aside0.mk A110
      clear A110
      replace H := Option.bind_eq_some_iff.mp H
      obtain ⟨⟨t205, t208, t209, t210⟩, A120, H⟩ := H
      replace H : ((laws_toStripe.f k l0_0 a0_1 a0_2).bind fun bt212 => ((impl_UpdateStripe.f k bt212.1 bt212.2.1 bt212.2.2 a1 a2).bind fun bt218 => ((laws_eqStripe.f k bt218.1 bt218.2.1 bt218.2.2.1 t205 t208 t209).bind fun t225 => (if t225 = true then (laws_FnExactUpdateStripe.j0 k a1 a2 t210 bt218.2.2.2 (bt218.2.2.2 != t210) l0_0 a0_1 a0_2 t205 t208 t209 bt212.1 bt212.2.1 bt212.2.2 bt218.1 bt218.2.1 bt218.2.2.1) else (laws_FnExactUpdateStripe.j0 k a1 a2 t210 bt218.2.2.2 true l0_0 a0_1 a0_2 t205 t208 t209 bt212.1 bt212.2.1 bt212.2.2 bt218.1 bt218.2.1 bt218.2.2.1))))) = some r := H
      have A12 := Aside0.mk A120
      clear A120
      replace H := Option.bind_eq_some_iff.mp H
      obtain ⟨⟨t212, t215, t216⟩, A130, H⟩ := H
      replace H : ((impl_UpdateStripe.f k t212 t215 t216 a1 a2).bind fun bt218 => ((laws_eqStripe.f k bt218.1 bt218.2.1 bt218.2.2.1 t205 t208 t209).bind fun t225 => (if t225 = true then (laws_FnExactUpdateStripe.j0 k a1 a2 t210 bt218.2.2.2 (bt218.2.2.2 != t210) l0_0 a0_1 a0_2 t205 t208 t209 t212 t215 t216 bt218.1 bt218.2.1 bt218.2.2.1) else (laws_FnExactUpdateStripe.j0 k a1 a2 t210 bt218.2.2.2 true l0_0 a0_1 a0_2 t205 t208 t209 t212 t215 t216 bt218.1 bt218.2.1 bt218.2.2.1)))) = some r := H
      have A13 := Aside0.mk A130
      clear A130
      replace H := Option.bind_eq_some_iff.mp H
      obtain ⟨⟨t218, t221, t222, t223⟩, A140, H⟩ := H
      replace H : ((laws_eqStripe.f k t218 t221 t222 t205 t208 t209).bind fun t225 => (if t225 = true then (laws_FnExactUpdateStripe.j0 k a1 a2 t210 t223 (t223 != t210) l0_0 a0_1 a0_2 t205 t208 t209 t212 t215 t216 t218 t221 t222) else (laws_FnExactUpdateStripe.j0 k a1 a2 t210 t223 true l0_0 a0_1 a0_2 t205 t208 t209 t212 t215 t216 t218 t221 t222))) = some r := H
      have A14 := Aside0.mk A140
      clear A140
      have HC15 := Aside0.mk H
      clear H
      go_enter Try.func6, Try.ntmps6
      go_upto_region 10 with (first | ((with_reducible refine gate_dst (N := 3) rfl ?_); refine box_event ?hg (N := 3) ?hd (cs := #[.slice A0_0 l0_0.length c0_0, .string a0_1, .string a0_2]) (t := 24) ?hr ?_; (case hd => rfl); (case hg => rfl); (case hr => first | (go_simp; done) | (go_simp; rfl)); intro gb198 hg w16 hbox hb; have n0_ := Aside0.mk (below_step (by repeat (first | (with_reducible first | exact HB.out | apply below_alloc | apply pw_below_drewN | apply below_drew1) | exact HB.out)) hb); have n1_ := Aside0.mk (hbox); have n2_ := Aside0.mk ((by rw [hg]; exact (below_size (by repeat (first | (with_reducible first | exact HB.out | apply below_alloc | apply pw_below_drewN | apply below_drew1) | exact HB.out))) : w.heap.size ≤ gb198)); have n3_ := Aside0.mk ((by rw [hg]; exact (below_size (by repeat (first | (with_reducible first | exact HB.out | apply below_alloc | apply pw_below_drewN | apply below_drew1) | exact HB.out))) : w.heap.size ≤ gb198)); clear HB; have HB := n0_; have BK198 := n1_; have GW198 := n2_; have GE198 := n3_; clear n0_ n1_ n2_ n3_; clear hb hbox hg; have hcz17_0 : w16.cell? ⟨gb198, 0, none⟩ = some (.slice A0_0 l0_0.length c0_0) := (blk_cell BK198.out 0).trans rfl; have hcz17_1 : w16.cell? ⟨gb198, 1, none⟩ = some (.string a0_1) := (blk_cell BK198.out 1).trans rfl; have hcz17_2 : w16.cell? ⟨gb198, 2, none⟩ = some (.string a0_2) := (blk_cell BK198.out 2).trans rfl; have hfz17_0 := blk_frozen BK198.out 0; have hfz17_1 := blk_frozen BK198.out 1; have hfz17_2 := blk_frozen BK198.out 2) | ((with_reducible refine gate_callee (f := 12) rfl ?_); refine goesL_ (some 23) rfl rfl Try.func12 (by kernel_rfl) rfl #[.agg #[.slice A0_0 l0_0.length c0_0, .string a0_1, .string a0_2], .int .i64 1048576] rfl (by (try simp only [List.map_toArray, List.map_cons, List.map_nil]); first | done | rfl | (simp only [List.length_drop, List.length_take]; rfl)) ?_; (with_reducible refine (laws_szStripe.calls k _ _ l0_0 a0_1 a0_2 1048576 t199 _ ?side1 ?side2 A6.out).mono ?_); (case side1 => repeat (first | exact (Kd.C_below HR0_0.out HB.out) | (with_reducible refine Kd.C_alloc ?_ _) | (with_reducible refine Kd.C_drewN ?_ _) | (with_reducible refine Kd.C_drew ?_))); (case side2 => exact HC0_0.out); rintro e w18 ⟨rfl, hb⟩; refine ⟨_, rfl, ?_⟩; have n0_ := Aside0.mk (blk_below (g := gb198) (o := .cells #[.slice A0_0 l0_0.length c0_0, .string a0_1, .string a0_2] 24 (0, 0)) (by (with_reducible repeat (first | refine blk_drewN ?_ _ | refine blk_drew ?_ | refine blk_alloc ?_ _)); exact BK198.out) hb); have n1_ := Aside0.mk (below_step (by repeat (first | (with_reducible first | exact HB.out | apply below_alloc | apply pw_below_drewN | apply below_drew1 | refine below_set ?_ GE198.out) | exact HB.out)) hb); clear BK198; clear HB; have BK198 := n0_; have HB := n1_; clear n0_ n1_; (try clear hb); (try clear hb2); (try clear hk); (try clear hi); have hcz19_0 : w18.cell? ⟨gb198, 0, none⟩ = some (.slice A0_0 l0_0.length c0_0) := (blk_cell BK198.out 0).trans rfl; have hcz19_1 : w18.cell? ⟨gb198, 1, none⟩ = some (.string a0_1) := (blk_cell BK198.out 1).trans rfl; have hcz19_2 : w18.cell? ⟨gb198, 2, none⟩ = some (.string a0_2) := (blk_cell BK198.out 2).trans rfl; have hfz19_0 := blk_frozen BK198.out 0; have hfz19_1 := blk_frozen BK198.out 1; have hfz19_2 := blk_frozen BK198.out 2) | ((with_reducible refine gate_callee (f := 14) rfl ?_); refine goesL_ (some 28) rfl rfl Try.func14 (by kernel_rfl) rfl #[.agg #[.slice A0_0 l0_0.length c0_0, .string a0_1, .string a0_2]] rfl (by (try simp only [List.map_toArray, List.map_cons, List.map_nil]); first | done | rfl | (simp only [List.length_drop, List.length_take]; rfl)) ?_; (with_reducible refine (laws_toStripe.calls k _ _ l0_0 a0_1 a0_2 t200 t203 t204 _ ?side1 ?side2 A11.out).mono ?_); (case side1 => repeat (first | exact (Kd.C_below HR0_0.out HB.out) | (with_reducible refine Kd.C_alloc ?_ _) | (with_reducible refine Kd.C_drewN ?_ _) | (with_reducible refine Kd.C_drew ?_))); (case side2 => exact HC0_0.out); rintro e w20 ⟨v201, rfl, ho0, hb⟩; refine ⟨_, rfl, ?_⟩; have n0_ := Aside0.mk (Kd.R_lower ho0 (below_size (by repeat (first | (with_reducible first | exact HB.out | apply below_alloc | apply pw_below_drewN | apply below_drew1 | refine below_set ?_ GE198.out) | exact HB.out)))); have n1_ := Aside0.mk (blk_below (g := gb198) (o := .cells #[.slice A0_0 l0_0.length c0_0, .string a0_1, .string a0_2] 24 (0, 0)) (by (with_reducible repeat (first | refine blk_drewN ?_ _ | refine blk_drew ?_ | refine blk_alloc ?_ _)); exact BK198.out) hb); have n2_ := Aside0.mk (below_step (by repeat (first | (with_reducible first | exact HB.out | apply below_alloc | apply pw_below_drewN | apply below_drew1 | refine below_set ?_ GE198.out) | exact HB.out)) hb); clear BK198; clear HB; have HO202 := n0_; have BK198 := n1_; have HB := n2_; clear n0_ n1_ n2_; (try clear hb); (try clear hb2); (try clear hk); (try clear hi); (try clear ho0); obtain ⟨Ao21, co21, eo21⟩ := Kd.R_slice HO202.out; subst eo21) | ((with_reducible refine gate_callee (f := 27) rfl ?_); refine goesL_ (some 31) rfl rfl Try.func27 (by kernel_rfl) rfl #[.agg #[.slice Ao21 t200.length co21, .string t203, .string t204], .int .i64 a1, .string a2] rfl (by (try simp only [List.map_toArray, List.map_cons, List.map_nil]); first | done | rfl | (simp only [List.length_drop, List.length_take]; rfl)) ?_; (with_reducible refine (spec_UpdateStripe.calls k _ _ t200 t203 t204 a1 a2 t205 t208 t209 t210 _ ?side1 ?side2 A12.out).mono ?_); (case side1 => repeat (first | exact (Kd.R_reads' HO202.out).2.2 | (with_reducible refine Kd.C_alloc ?_ _) | (with_reducible refine Kd.C_drewN ?_ _) | (with_reducible refine Kd.C_drew ?_))); (case side2 => exact (Kd.R_reads' HO202.out).2.1); rintro e w22 ⟨v206, rfl, ho0, hb⟩; refine ⟨_, rfl, ?_⟩; have n0_ := Aside0.mk (Kd.R_elder' (by (with_reducible repeat (first | apply Kd.R_alloc | apply Kd.R_drewN | apply Kd.R_drew)); exact HO202.out) (Kd.R_base ho0) hb); have n1_ := Aside0.mk (Kd.R_lower (Kd.R_new' ho0 (Kd.R_lt (by (with_reducible repeat (first | apply Kd.R_alloc | apply Kd.R_drewN | apply Kd.R_drew)); exact HO202.out))) (below_size (by repeat (first | (with_reducible first | exact HB.out | apply below_alloc | apply pw_below_drewN | apply below_drew1 | refine below_set ?_ GE198.out) | exact HB.out)))); have n2_ := Aside0.mk (blk_below (g := gb198) (o := .cells #[.slice A0_0 l0_0.length c0_0, .string a0_1, .string a0_2] 24 (0, 0)) (by (with_reducible repeat (first | refine blk_drewN ?_ _ | refine blk_drew ?_ | refine blk_alloc ?_ _)); exact BK198.out) hb); have n3_ := Aside0.mk (below_step (by repeat (first | (with_reducible first | exact HB.out | apply below_alloc | apply pw_below_drewN | apply below_drew1 | refine below_set ?_ GE198.out) | exact HB.out)) hb); clear HO202; clear BK198; clear HB; have HO202 := n0_; have HO207 := n1_; have BK198 := n2_; have HB := n3_; clear n0_ n1_ n2_ n3_; (try clear hb); (try clear hb2); (try clear hk); (try clear hi); (try clear ho0)) | ((with_reducible refine gate_dst (N := 8) rfl ?_); refine box_event ?hg (N := 8) ?hd (cs := #[.slice none 0 0, .string (⟨#[]⟩ : ByteArray), .string (⟨#[]⟩ : ByteArray)]) (t := 27) ?hr ?_; (case hd => rfl); (case hg => rfl); (case hr => first | (go_simp; done) | (go_simp; rfl)); intro gb211 hg w23 hbox hb; have n0_ := Aside0.mk (Kd.R_below (by (with_reducible repeat (first | apply Kd.R_alloc | apply Kd.R_drewN | apply Kd.R_drew)); exact HO202.out) hb); have n1_ := Aside0.mk (Kd.R_below (by (with_reducible repeat (first | apply Kd.R_alloc | apply Kd.R_drewN | apply Kd.R_drew)); exact HO207.out) hb); have n2_ := Aside0.mk (blk_below (g := gb198) (o := .cells #[.slice A0_0 l0_0.length c0_0, .string a0_1, .string a0_2] 24 (0, 0)) (by (with_reducible repeat (first | refine blk_drewN ?_ _ | refine blk_drew ?_ | refine blk_alloc ?_ _)); exact BK198.out) hb); have n3_ := Aside0.mk (below_step (by repeat (first | (with_reducible first | exact HB.out | apply below_alloc | apply pw_below_drewN | apply below_drew1 | refine below_set ?_ GE198.out) | exact HB.out)) hb); have n4_ := Aside0.mk (hbox); have n5_ := Aside0.mk ((by rw [hg]; exact (below_size (by repeat (first | (with_reducible first | exact HB.out | apply below_alloc | apply pw_below_drewN | apply below_drew1 | refine below_set ?_ GE198.out) | exact HB.out))) : w.heap.size ≤ gb211)); have n6_ := Aside0.mk ((by rw [hg]; exact (below_size (by repeat (first | (with_reducible first | exact HB.out | apply below_alloc | apply pw_below_drewN | apply below_drew1 | refine below_set ?_ GE198.out) | exact HB.out))) : w.heap.size ≤ gb211)); have n7_ := Aside0.mk ((by rw [hg]; exact Nat.ne_of_lt (blk_lt (g := gb198) (o := .cells #[.slice A0_0 l0_0.length c0_0, .string a0_1, .string a0_2] 24 (0, 0)) (by (with_reducible repeat (first | refine blk_drewN ?_ _ | refine blk_drew ?_ | refine blk_alloc ?_ _)); exact BK198.out)) : gb198 ≠ gb211)); have n8_ := Aside0.mk ((by rw [hg]; exact Nat.ne_of_gt (blk_lt (g := gb198) (o := .cells #[.slice A0_0 l0_0.length c0_0, .string a0_1, .string a0_2] 24 (0, 0)) (by (with_reducible repeat (first | refine blk_drewN ?_ _ | refine blk_drew ?_ | refine blk_alloc ?_ _)); exact BK198.out)) : gb211 ≠ gb198)); clear HO202; clear HO207; clear BK198; clear HB; have HO202 := n0_; have HO207 := n1_; have BK198 := n2_; have HB := n3_; have BK211 := n4_; have GW211 := n5_; have GE211 := n6_; have NB198_211 := n7_; have NB211_198 := n8_; clear n0_ n1_ n2_ n3_ n4_ n5_ n6_ n7_ n8_; clear hb hbox hg; obtain ⟨Ao24, co24, eo24⟩ := Kd.R_slice HO207.out; subst eo24; have hnb25 := NB211_198.out; have hnc25 := NB198_211.out; have hcz26_0 : w23.cell? ⟨gb211, 0, none⟩ = some (.slice none 0 0) := (blk_cell BK211.out 0).trans rfl; have hcz26_1 : w23.cell? ⟨gb211, 1, none⟩ = some (.string (⟨#[]⟩ : ByteArray)) := (blk_cell BK211.out 1).trans rfl; have hcz26_2 : w23.cell? ⟨gb211, 2, none⟩ = some (.string (⟨#[]⟩ : ByteArray)) := (blk_cell BK211.out 2).trans rfl; have hfz26_0 := blk_frozen BK211.out 0; have hfz26_1 := blk_frozen BK211.out 1; have hfz26_2 := blk_frozen BK211.out 2; have hcz27_0 : w23.cell? ⟨gb198, 0, none⟩ = some (.slice A0_0 l0_0.length c0_0) := (blk_cell BK198.out 0).trans rfl; have hcz27_1 : w23.cell? ⟨gb198, 1, none⟩ = some (.string a0_1) := (blk_cell BK198.out 1).trans rfl; have hcz27_2 : w23.cell? ⟨gb198, 2, none⟩ = some (.string a0_2) := (blk_cell BK198.out 2).trans rfl; have hfz27_0 := blk_frozen BK198.out 0; have hfz27_1 := blk_frozen BK198.out 1; have hfz27_2 := blk_frozen BK198.out 2) | ((with_reducible refine gate_callee (f := 14) rfl ?_); refine goesL_ (some 35) rfl rfl Try.func14 (by kernel_rfl) rfl #[.agg #[.slice A0_0 l0_0.length c0_0, .string a0_1, .string a0_2]] rfl (by (try simp only [List.map_toArray, List.map_cons, List.map_nil]); first | done | rfl | (simp only [List.length_drop, List.length_take]; rfl)) ?_; (with_reducible refine (laws_toStripe.calls k _ _ l0_0 a0_1 a0_2 t212 t215 t216 _ ?side1 ?side2 A13.out).mono ?_); (case side1 => exact Kd.C_below HR0_0.out (by repeat (first | (with_reducible first | exact HB.out | apply below_alloc | apply pw_below_drewN | apply below_drew1 | refine below_set ?_ GE198.out | refine below_set ?_ GE211.out) | exact HB.out))); (case side2 => exact HC0_0.out); rintro e w28 ⟨v213, rfl, ho0, hb⟩; refine ⟨_, rfl, ?_⟩; have n0_ := Aside0.mk (Kd.R_elder' (by (with_reducible repeat (first | apply Kd.R_alloc | apply Kd.R_drewN | apply Kd.R_drew)); exact (Kd.R_mono (Kd.R_far (p := ⟨gb211, 2, none⟩) (Kd.R_far (p := ⟨gb211, 1, none⟩) (Kd.R_far (p := ⟨gb211, 0, none⟩) (Kd.R_types HO202.out BK211.out (by decide)) (fun _ hk => hk.2) (.slice Ao24 t205.length co24)) (fun _ hk => hk.2) (.string t208)) (fun _ hk => hk.2) (.string t209)) (fun _ h_ => h_.1))) (Kd.R_base ho0) hb); have n1_ := Aside0.mk (Kd.R_elder' (by (with_reducible repeat (first | apply Kd.R_alloc | apply Kd.R_drewN | apply Kd.R_drew)); exact (Kd.R_mono (Kd.R_far (p := ⟨gb211, 2, none⟩) (Kd.R_far (p := ⟨gb211, 1, none⟩) (Kd.R_far (p := ⟨gb211, 0, none⟩) (Kd.R_types HO207.out BK211.out (by decide)) (fun _ hk => hk.2) (.slice Ao24 t205.length co24)) (fun _ hk => hk.2) (.string t208)) (fun _ hk => hk.2) (.string t209)) (fun _ h_ => h_.1))) (Kd.R_base ho0) hb); have n2_ := Aside0.mk (Kd.R_lower (Kd.R_new' (Kd.R_new' ho0 (Kd.R_lt (by (with_reducible repeat (first | apply Kd.R_alloc | apply Kd.R_drewN | apply Kd.R_drew)); exact (Kd.R_mono (Kd.R_far (p := ⟨gb211, 2, none⟩) (Kd.R_far (p := ⟨gb211, 1, none⟩) (Kd.R_far (p := ⟨gb211, 0, none⟩) (Kd.R_types HO202.out BK211.out (by decide)) (fun _ hk => hk.2) (.slice Ao24 t205.length co24)) (fun _ hk => hk.2) (.string t208)) (fun _ hk => hk.2) (.string t209)) (fun _ h_ => h_.1))))) (Kd.R_lt (by (with_reducible repeat (first | apply Kd.R_alloc | apply Kd.R_drewN | apply Kd.R_drew)); exact (Kd.R_mono (Kd.R_far (p := ⟨gb211, 2, none⟩) (Kd.R_far (p := ⟨gb211, 1, none⟩) (Kd.R_far (p := ⟨gb211, 0, none⟩) (Kd.R_types HO207.out BK211.out (by decide)) (fun _ hk => hk.2) (.slice Ao24 t205.length co24)) (fun _ hk => hk.2) (.string t208)) (fun _ hk => hk.2) (.string t209)) (fun _ h_ => h_.1))))) (below_size (by repeat (first | (with_reducible first | exact HB.out | apply below_alloc | apply pw_below_drewN | apply below_drew1 | refine below_set ?_ GE198.out | refine below_set ?_ GE211.out) | exact HB.out)))); have n3_ := Aside0.mk (blk_below (g := gb198) (o := .cells #[.slice A0_0 l0_0.length c0_0, .string a0_1, .string a0_2] 24 (0, 0)) (by (with_reducible repeat (first | refine blk_drewN ?_ _ | refine blk_drew ?_ | refine blk_alloc ?_ _)); refine blk_far ?_ NB198_211.out _; (with_reducible repeat (first | refine blk_drewN ?_ _ | refine blk_drew ?_ | refine blk_alloc ?_ _)); refine blk_far ?_ NB198_211.out _; (with_reducible repeat (first | refine blk_drewN ?_ _ | refine blk_drew ?_ | refine blk_alloc ?_ _)); refine blk_far ?_ NB198_211.out _; (with_reducible repeat (first | refine blk_drewN ?_ _ | refine blk_drew ?_ | refine blk_alloc ?_ _)); exact BK198.out) hb); have n4_ := Aside0.mk (blk_below (g := gb211) (o := .cells #[.slice Ao24 t205.length co24, .string t208, .string t209] 27 (0, 0)) (by (with_reducible repeat (first | refine blk_drewN ?_ _ | refine blk_drew ?_ | refine blk_alloc ?_ _)); refine blk_put (cs := #[.slice Ao24 t205.length co24, .string t208, .string (⟨#[]⟩ : ByteArray)]) ?_ 2 _ rfl; (with_reducible repeat (first | refine blk_drewN ?_ _ | refine blk_drew ?_ | refine blk_alloc ?_ _)); refine blk_put (cs := #[.slice Ao24 t205.length co24, .string (⟨#[]⟩ : ByteArray), .string (⟨#[]⟩ : ByteArray)]) ?_ 1 _ rfl; (with_reducible repeat (first | refine blk_drewN ?_ _ | refine blk_drew ?_ | refine blk_alloc ?_ _)); refine blk_put (cs := #[.slice none 0 0, .string (⟨#[]⟩ : ByteArray), .string (⟨#[]⟩ : ByteArray)]) ?_ 0 _ rfl; (with_reducible repeat (first | refine blk_drewN ?_ _ | refine blk_drew ?_ | refine blk_alloc ?_ _)); exact BK211.out) hb); have n5_ := Aside0.mk (below_step (by repeat (first | (with_reducible first | exact HB.out | apply below_alloc | apply pw_below_drewN | apply below_drew1 | refine below_set ?_ GE198.out | refine below_set ?_ GE211.out) | exact HB.out)) hb); clear HO202; clear HO207; clear BK198; clear BK211; clear HB; have HO202 := n0_; have HO207 := n1_; have HO214 := n2_; have BK198 := n3_; have BK211 := n4_; have HB := n5_; clear n0_ n1_ n2_ n3_ n4_ n5_; (try clear hb); (try clear hb2); (try clear hk); (try clear hi); (try clear ho0)) | ((with_reducible refine gate_dst (N := 10) rfl ?_); refine box_event ?hg (N := 10) ?hd (cs := #[.slice none 0 0, .string (⟨#[]⟩ : ByteArray), .string (⟨#[]⟩ : ByteArray)]) (t := 27) ?hr ?_; (case hd => rfl); (case hg => rfl); (case hr => first | (go_simp; done) | (go_simp; rfl)); intro gb217 hg w29 hbox hb; have n0_ := Aside0.mk (Kd.R_below (by (with_reducible repeat (first | apply Kd.R_alloc | apply Kd.R_drewN | apply Kd.R_drew)); exact HO202.out) hb); have n1_ := Aside0.mk (Kd.R_below (by (with_reducible repeat (first | apply Kd.R_alloc | apply Kd.R_drewN | apply Kd.R_drew)); exact HO207.out) hb); have n2_ := Aside0.mk (Kd.R_below (by (with_reducible repeat (first | apply Kd.R_alloc | apply Kd.R_drewN | apply Kd.R_drew)); exact HO214.out) hb); have n3_ := Aside0.mk (blk_below (g := gb198) (o := .cells #[.slice A0_0 l0_0.length c0_0, .string a0_1, .string a0_2] 24 (0, 0)) (by (with_reducible repeat (first | refine blk_drewN ?_ _ | refine blk_drew ?_ | refine blk_alloc ?_ _)); exact BK198.out) hb); have n4_ := Aside0.mk (blk_below (g := gb211) (o := .cells #[.slice Ao24 t205.length co24, .string t208, .string t209] 27 (0, 0)) (by (with_reducible repeat (first | refine blk_drewN ?_ _ | refine blk_drew ?_ | refine blk_alloc ?_ _)); exact BK211.out) hb); have n5_ := Aside0.mk (below_step (by repeat (first | (with_reducible first | exact HB.out | apply below_alloc | apply pw_below_drewN | apply below_drew1 | refine below_set ?_ GE198.out | refine below_set ?_ GE211.out) | exact HB.out)) hb); have n6_ := Aside0.mk (hbox); have n7_ := Aside0.mk ((by rw [hg]; exact (below_size (by repeat (first | (with_reducible first | exact HB.out | apply below_alloc | apply pw_below_drewN | apply below_drew1 | refine below_set ?_ GE198.out | refine below_set ?_ GE211.out) | exact HB.out))) : w.heap.size ≤ gb217)); have n8_ := Aside0.mk ((by rw [hg]; exact (below_size (by repeat (first | (with_reducible first | exact HB.out | apply below_alloc | apply pw_below_drewN | apply below_drew1 | refine below_set ?_ GE198.out | refine below_set ?_ GE211.out) | exact HB.out))) : w.heap.size ≤ gb217)); have n9_ := Aside0.mk ((by rw [hg]; exact Nat.ne_of_lt (blk_lt (g := gb198) (o := .cells #[.slice A0_0 l0_0.length c0_0, .string a0_1, .string a0_2] 24 (0, 0)) (by (with_reducible repeat (first | refine blk_drewN ?_ _ | refine blk_drew ?_ | refine blk_alloc ?_ _)); exact BK198.out)) : gb198 ≠ gb217)); have n10_ := Aside0.mk ((by rw [hg]; exact Nat.ne_of_gt (blk_lt (g := gb198) (o := .cells #[.slice A0_0 l0_0.length c0_0, .string a0_1, .string a0_2] 24 (0, 0)) (by (with_reducible repeat (first | refine blk_drewN ?_ _ | refine blk_drew ?_ | refine blk_alloc ?_ _)); exact BK198.out)) : gb217 ≠ gb198)); have n11_ := Aside0.mk ((by rw [hg]; exact Nat.ne_of_lt (blk_lt (g := gb211) (o := .cells #[.slice Ao24 t205.length co24, .string t208, .string t209] 27 (0, 0)) (by (with_reducible repeat (first | refine blk_drewN ?_ _ | refine blk_drew ?_ | refine blk_alloc ?_ _)); exact BK211.out)) : gb211 ≠ gb217)); have n12_ := Aside0.mk ((by rw [hg]; exact Nat.ne_of_gt (blk_lt (g := gb211) (o := .cells #[.slice Ao24 t205.length co24, .string t208, .string t209] 27 (0, 0)) (by (with_reducible repeat (first | refine blk_drewN ?_ _ | refine blk_drew ?_ | refine blk_alloc ?_ _)); exact BK211.out)) : gb217 ≠ gb211)); clear HO202; clear HO207; clear HO214; clear BK198; clear BK211; clear HB; have HO202 := n0_; have HO207 := n1_; have HO214 := n2_; have BK198 := n3_; have BK211 := n4_; have HB := n5_; have BK217 := n6_; have GW217 := n7_; have GE217 := n8_; have NB198_217 := n9_; have NB217_198 := n10_; have NB211_217 := n11_; have NB217_211 := n12_; clear n0_ n1_ n2_ n3_ n4_ n5_ n6_ n7_ n8_ n9_ n10_ n11_ n12_; clear hb hbox hg; obtain ⟨Ao30, co30, eo30⟩ := Kd.R_slice HO214.out; subst eo30; have hnb31 := NB217_198.out; have hnc31 := NB198_217.out; have hnb32 := NB217_211.out; have hnc32 := NB211_217.out; have hcz33_0 : w29.cell? ⟨gb217, 0, none⟩ = some (.slice none 0 0) := (blk_cell BK217.out 0).trans rfl; have hcz33_1 : w29.cell? ⟨gb217, 1, none⟩ = some (.string (⟨#[]⟩ : ByteArray)) := (blk_cell BK217.out 1).trans rfl; have hcz33_2 : w29.cell? ⟨gb217, 2, none⟩ = some (.string (⟨#[]⟩ : ByteArray)) := (blk_cell BK217.out 2).trans rfl; have hfz33_0 := blk_frozen BK217.out 0; have hfz33_1 := blk_frozen BK217.out 1; have hfz33_2 := blk_frozen BK217.out 2) | ((with_reducible refine gate_callee (f := 28) rfl ?_); refine goesL_ (some 40) rfl rfl Try.func28 (by kernel_rfl) rfl #[.agg #[.slice Ao30 t212.length co30, .string t215, .string t216], .int .i64 a1, .string a2] rfl (by (try simp only [List.map_toArray, List.map_cons, List.map_nil]); first | done | rfl | (simp only [List.length_drop, List.length_take]; rfl)) ?_; (with_reducible refine (impl_UpdateStripe.calls k _ _ t212 t215 t216 a1 a2 t218 t221 t222 t223 _ ?side1 ?side2 A14.out).mono ?_); (case side1 => refine (Kd.R_reads' (e := 9) (base := w.heap.size) (ok := fun k_ => ((True ∧ some k_ ≠ (.slice Ao21 t200.length co21 : Value).ownBlock) ∧ some k_ ≠ (.slice Ao24 t205.length co24 : Value).ownBlock)) (n := t212.length) (c := co30) ?_).2.2; exact (by (with_reducible repeat (first | apply Kd.R_alloc | apply Kd.R_drewN | apply Kd.R_drew)); exact (Kd.R_mono (Kd.R_far (p := ⟨gb217, 2, none⟩) (Kd.R_far (p := ⟨gb217, 1, none⟩) (Kd.R_far (p := ⟨gb217, 0, none⟩) (Kd.R_types HO214.out BK217.out (by decide)) (fun _ hk => hk.2) (.slice Ao30 t212.length co30)) (fun _ hk => hk.2) (.string t215)) (fun _ hk => hk.2) (.string t216)) (fun _ h_ => h_.1)))); (case side2 => exact (Kd.R_reads' HO214.out).2.1); rintro e w34 ⟨v219, rfl, ho0, hb⟩; refine ⟨_, rfl, ?_⟩; have n0_ := Aside0.mk (Kd.R_elder' (by (with_reducible repeat (first | apply Kd.R_alloc | apply Kd.R_drewN | apply Kd.R_drew)); exact (Kd.R_mono (Kd.R_far (p := ⟨gb217, 2, none⟩) (Kd.R_far (p := ⟨gb217, 1, none⟩) (Kd.R_far (p := ⟨gb217, 0, none⟩) (Kd.R_types HO202.out BK217.out (by decide)) (fun _ hk => hk.2) (.slice Ao30 t212.length co30)) (fun _ hk => hk.2) (.string t215)) (fun _ hk => hk.2) (.string t216)) (fun _ h_ => h_.1))) (Kd.R_base ho0) hb); have n1_ := Aside0.mk (Kd.R_elder' (by (with_reducible repeat (first | apply Kd.R_alloc | apply Kd.R_drewN | apply Kd.R_drew)); exact (Kd.R_mono (Kd.R_far (p := ⟨gb217, 2, none⟩) (Kd.R_far (p := ⟨gb217, 1, none⟩) (Kd.R_far (p := ⟨gb217, 0, none⟩) (Kd.R_types HO207.out BK217.out (by decide)) (fun _ hk => hk.2) (.slice Ao30 t212.length co30)) (fun _ hk => hk.2) (.string t215)) (fun _ hk => hk.2) (.string t216)) (fun _ h_ => h_.1))) (Kd.R_base ho0) hb); have n2_ := Aside0.mk (Kd.R_elder' (by (with_reducible repeat (first | apply Kd.R_alloc | apply Kd.R_drewN | apply Kd.R_drew)); exact (Kd.R_mono (Kd.R_far (p := ⟨gb217, 2, none⟩) (Kd.R_far (p := ⟨gb217, 1, none⟩) (Kd.R_far (p := ⟨gb217, 0, none⟩) (Kd.R_types HO214.out BK217.out (by decide)) (fun _ hk => hk.2) (.slice Ao30 t212.length co30)) (fun _ hk => hk.2) (.string t215)) (fun _ hk => hk.2) (.string t216)) (fun _ h_ => h_.1))) (Kd.R_base ho0) hb); have n3_ := Aside0.mk (Kd.R_lower (Kd.R_new' (Kd.R_new' (Kd.R_new' ho0 (Kd.R_lt (by (with_reducible repeat (first | apply Kd.R_alloc | apply Kd.R_drewN | apply Kd.R_drew)); exact (Kd.R_mono (Kd.R_far (p := ⟨gb217, 2, none⟩) (Kd.R_far (p := ⟨gb217, 1, none⟩) (Kd.R_far (p := ⟨gb217, 0, none⟩) (Kd.R_types HO202.out BK217.out (by decide)) (fun _ hk => hk.2) (.slice Ao30 t212.length co30)) (fun _ hk => hk.2) (.string t215)) (fun _ hk => hk.2) (.string t216)) (fun _ h_ => h_.1))))) (Kd.R_lt (by (with_reducible repeat (first | apply Kd.R_alloc | apply Kd.R_drewN | apply Kd.R_drew)); exact (Kd.R_mono (Kd.R_far (p := ⟨gb217, 2, none⟩) (Kd.R_far (p := ⟨gb217, 1, none⟩) (Kd.R_far (p := ⟨gb217, 0, none⟩) (Kd.R_types HO207.out BK217.out (by decide)) (fun _ hk => hk.2) (.slice Ao30 t212.length co30)) (fun _ hk => hk.2) (.string t215)) (fun _ hk => hk.2) (.string t216)) (fun _ h_ => h_.1))))) (Kd.R_lt (by (with_reducible repeat (first | apply Kd.R_alloc | apply Kd.R_drewN | apply Kd.R_drew)); exact (Kd.R_mono (Kd.R_far (p := ⟨gb217, 2, none⟩) (Kd.R_far (p := ⟨gb217, 1, none⟩) (Kd.R_far (p := ⟨gb217, 0, none⟩) (Kd.R_types HO214.out BK217.out (by decide)) (fun _ hk => hk.2) (.slice Ao30 t212.length co30)) (fun _ hk => hk.2) (.string t215)) (fun _ hk => hk.2) (.string t216)) (fun _ h_ => h_.1))))) (below_size (by repeat (first | (with_reducible first | exact HB.out | apply below_alloc | apply pw_below_drewN | apply below_drew1 | refine below_set ?_ GE198.out | refine below_set ?_ GE211.out | refine below_set ?_ GE217.out) | exact HB.out)))); have n4_ := Aside0.mk (blk_below (g := gb198) (o := .cells #[.slice A0_0 l0_0.length c0_0, .string a0_1, .string a0_2] 24 (0, 0)) (by (with_reducible repeat (first | refine blk_drewN ?_ _ | refine blk_drew ?_ | refine blk_alloc ?_ _)); refine blk_far ?_ NB198_217.out _; (with_reducible repeat (first | refine blk_drewN ?_ _ | refine blk_drew ?_ | refine blk_alloc ?_ _)); refine blk_far ?_ NB198_217.out _; (with_reducible repeat (first | refine blk_drewN ?_ _ | refine blk_drew ?_ | refine blk_alloc ?_ _)); refine blk_far ?_ NB198_217.out _; (with_reducible repeat (first | refine blk_drewN ?_ _ | refine blk_drew ?_ | refine blk_alloc ?_ _)); exact BK198.out) hb); have n5_ := Aside0.mk (blk_below (g := gb211) (o := .cells #[.slice Ao24 t205.length co24, .string t208, .string t209] 27 (0, 0)) (by (with_reducible repeat (first | refine blk_drewN ?_ _ | refine blk_drew ?_ | refine blk_alloc ?_ _)); refine blk_far ?_ NB211_217.out _; (with_reducible repeat (first | refine blk_drewN ?_ _ | refine blk_drew ?_ | refine blk_alloc ?_ _)); refine blk_far ?_ NB211_217.out _; (with_reducible repeat (first | refine blk_drewN ?_ _ | refine blk_drew ?_ | refine blk_alloc ?_ _)); refine blk_far ?_ NB211_217.out _; (with_reducible repeat (first | refine blk_drewN ?_ _ | refine blk_drew ?_ | refine blk_alloc ?_ _)); exact BK211.out) hb); have n6_ := Aside0.mk (blk_below (g := gb217) (o := .cells #[.slice Ao30 t212.length co30, .string t215, .string t216] 27 (0, 0)) (by (with_reducible repeat (first | refine blk_drewN ?_ _ | refine blk_drew ?_ | refine blk_alloc ?_ _)); refine blk_put (cs := #[.slice Ao30 t212.length co30, .string t215, .string (⟨#[]⟩ : ByteArray)]) ?_ 2 _ rfl; (with_reducible repeat (first | refine blk_drewN ?_ _ | refine blk_drew ?_ | refine blk_alloc ?_ _)); refine blk_put (cs := #[.slice Ao30 t212.length co30, .string (⟨#[]⟩ : ByteArray), .string (⟨#[]⟩ : ByteArray)]) ?_ 1 _ rfl; (with_reducible repeat (first | refine blk_drewN ?_ _ | refine blk_drew ?_ | refine blk_alloc ?_ _)); refine blk_put (cs := #[.slice none 0 0, .string (⟨#[]⟩ : ByteArray), .string (⟨#[]⟩ : ByteArray)]) ?_ 0 _ rfl; (with_reducible repeat (first | refine blk_drewN ?_ _ | refine blk_drew ?_ | refine blk_alloc ?_ _)); exact BK217.out) hb); have n7_ := Aside0.mk (below_step (by repeat (first | (with_reducible first | exact HB.out | apply below_alloc | apply pw_below_drewN | apply below_drew1 | refine below_set ?_ GE198.out | refine below_set ?_ GE211.out | refine below_set ?_ GE217.out) | exact HB.out)) hb); clear HO202; clear HO207; clear HO214; clear BK198; clear BK211; clear BK217; clear HB; have HO202 := n0_; have HO207 := n1_; have HO214 := n2_; have HO220 := n3_; have BK198 := n4_; have BK211 := n5_; have BK217 := n6_; have HB := n7_; clear n0_ n1_ n2_ n3_ n4_ n5_ n6_ n7_; (try clear hb); (try clear hb2); (try clear hk); (try clear hi); (try clear ho0)) | ((with_reducible refine gate_dst (N := 11) rfl ?_); refine box_event ?hg (N := 11) ?hd (cs := #[.slice none 0 0, .string (⟨#[]⟩ : ByteArray), .string (⟨#[]⟩ : ByteArray)]) (t := 27) ?hr ?_; (case hd => rfl); (case hg => rfl); (case hr => first | (go_simp; done) | (go_simp; rfl)); intro gb224 hg w35 hbox hb; have n0_ := Aside0.mk (Kd.R_below (by (with_reducible repeat (first | apply Kd.R_alloc | apply Kd.R_drewN | apply Kd.R_drew)); exact HO202.out) hb); have n1_ := Aside0.mk (Kd.R_below (by (with_reducible repeat (first | apply Kd.R_alloc | apply Kd.R_drewN | apply Kd.R_drew)); exact HO207.out) hb); have n2_ := Aside0.mk (Kd.R_below (by (with_reducible repeat (first | apply Kd.R_alloc | apply Kd.R_drewN | apply Kd.R_drew)); exact HO214.out) hb); have n3_ := Aside0.mk (Kd.R_below (by (with_reducible repeat (first | apply Kd.R_alloc | apply Kd.R_drewN | apply Kd.R_drew)); exact HO220.out) hb); have n4_ := Aside0.mk (blk_below (g := gb198) (o := .cells #[.slice A0_0 l0_0.length c0_0, .string a0_1, .string a0_2] 24 (0, 0)) (by (with_reducible repeat (first | refine blk_drewN ?_ _ | refine blk_drew ?_ | refine blk_alloc ?_ _)); exact BK198.out) hb); have n5_ := Aside0.mk (blk_below (g := gb211) (o := .cells #[.slice Ao24 t205.length co24, .string t208, .string t209] 27 (0, 0)) (by (with_reducible repeat (first | refine blk_drewN ?_ _ | refine blk_drew ?_ | refine blk_alloc ?_ _)); exact BK211.out) hb); have n6_ := Aside0.mk (blk_below (g := gb217) (o := .cells #[.slice Ao30 t212.length co30, .string t215, .string t216] 27 (0, 0)) (by (with_reducible repeat (first | refine blk_drewN ?_ _ | refine blk_drew ?_ | refine blk_alloc ?_ _)); exact BK217.out) hb); have n7_ := Aside0.mk (below_step (by repeat (first | (with_reducible first | exact HB.out | apply below_alloc | apply pw_below_drewN | apply below_drew1 | refine below_set ?_ GE198.out | refine below_set ?_ GE211.out | refine below_set ?_ GE217.out) | exact HB.out)) hb); have n8_ := Aside0.mk (hbox); have n9_ := Aside0.mk ((by rw [hg]; exact (below_size (by repeat (first | (with_reducible first | exact HB.out | apply below_alloc | apply pw_below_drewN | apply below_drew1 | refine below_set ?_ GE198.out | refine below_set ?_ GE211.out | refine below_set ?_ GE217.out) | exact HB.out))) : w.heap.size ≤ gb224)); have n10_ := Aside0.mk ((by rw [hg]; exact (below_size (by repeat (first | (with_reducible first | exact HB.out | apply below_alloc | apply pw_below_drewN | apply below_drew1 | refine below_set ?_ GE198.out | refine below_set ?_ GE211.out | refine below_set ?_ GE217.out) | exact HB.out))) : w.heap.size ≤ gb224)); have n11_ := Aside0.mk ((by rw [hg]; exact Nat.ne_of_lt (blk_lt (g := gb198) (o := .cells #[.slice A0_0 l0_0.length c0_0, .string a0_1, .string a0_2] 24 (0, 0)) (by (with_reducible repeat (first | refine blk_drewN ?_ _ | refine blk_drew ?_ | refine blk_alloc ?_ _)); exact BK198.out)) : gb198 ≠ gb224)); have n12_ := Aside0.mk ((by rw [hg]; exact Nat.ne_of_gt (blk_lt (g := gb198) (o := .cells #[.slice A0_0 l0_0.length c0_0, .string a0_1, .string a0_2] 24 (0, 0)) (by (with_reducible repeat (first | refine blk_drewN ?_ _ | refine blk_drew ?_ | refine blk_alloc ?_ _)); exact BK198.out)) : gb224 ≠ gb198)); have n13_ := Aside0.mk ((by rw [hg]; exact Nat.ne_of_lt (blk_lt (g := gb211) (o := .cells #[.slice Ao24 t205.length co24, .string t208, .string t209] 27 (0, 0)) (by (with_reducible repeat (first | refine blk_drewN ?_ _ | refine blk_drew ?_ | refine blk_alloc ?_ _)); exact BK211.out)) : gb211 ≠ gb224)); have n14_ := Aside0.mk ((by rw [hg]; exact Nat.ne_of_gt (blk_lt (g := gb211) (o := .cells #[.slice Ao24 t205.length co24, .string t208, .string t209] 27 (0, 0)) (by (with_reducible repeat (first | refine blk_drewN ?_ _ | refine blk_drew ?_ | refine blk_alloc ?_ _)); exact BK211.out)) : gb224 ≠ gb211)); have n15_ := Aside0.mk ((by rw [hg]; exact Nat.ne_of_lt (blk_lt (g := gb217) (o := .cells #[.slice Ao30 t212.length co30, .string t215, .string t216] 27 (0, 0)) (by (with_reducible repeat (first | refine blk_drewN ?_ _ | refine blk_drew ?_ | refine blk_alloc ?_ _)); exact BK217.out)) : gb217 ≠ gb224)); have n16_ := Aside0.mk ((by rw [hg]; exact Nat.ne_of_gt (blk_lt (g := gb217) (o := .cells #[.slice Ao30 t212.length co30, .string t215, .string t216] 27 (0, 0)) (by (with_reducible repeat (first | refine blk_drewN ?_ _ | refine blk_drew ?_ | refine blk_alloc ?_ _)); exact BK217.out)) : gb224 ≠ gb217)); clear HO202; clear HO207; clear HO214; clear HO220; clear BK198; clear BK211; clear BK217; clear HB; have HO202 := n0_; have HO207 := n1_; have HO214 := n2_; have HO220 := n3_; have BK198 := n4_; have BK211 := n5_; have BK217 := n6_; have HB := n7_; have BK224 := n8_; have GW224 := n9_; have GE224 := n10_; have NB198_224 := n11_; have NB224_198 := n12_; have NB211_224 := n13_; have NB224_211 := n14_; have NB217_224 := n15_; have NB224_217 := n16_; clear n0_ n1_ n2_ n3_ n4_ n5_ n6_ n7_ n8_ n9_ n10_ n11_ n12_ n13_ n14_ n15_ n16_; clear hb hbox hg; obtain ⟨Ao36, co36, eo36⟩ := Kd.R_slice HO220.out; subst eo36; have hnb37 := NB224_198.out; have hnc37 := NB198_224.out; have hnb38 := NB224_211.out; have hnc38 := NB211_224.out; have hnb39 := NB224_217.out; have hnc39 := NB217_224.out; have hcz40_0 : w35.cell? ⟨gb224, 0, none⟩ = some (.slice none 0 0) := (blk_cell BK224.out 0).trans rfl; have hcz40_1 : w35.cell? ⟨gb224, 1, none⟩ = some (.string (⟨#[]⟩ : ByteArray)) := (blk_cell BK224.out 1).trans rfl; have hcz40_2 : w35.cell? ⟨gb224, 2, none⟩ = some (.string (⟨#[]⟩ : ByteArray)) := (blk_cell BK224.out 2).trans rfl; have hfz40_0 := blk_frozen BK224.out 0; have hfz40_1 := blk_frozen BK224.out 1; have hfz40_2 := blk_frozen BK224.out 2))
      (try simp only [Act.put, List.setIfInBounds_toArray, List.set_cons_zero, List.set_cons_succ])
      go_cut [51] (fun v51 wc => ∃ (kq : Nat) (x51_14 : Bool), v51 = .bool x51_14 ∧ Aside0 (laws_FnExactUpdateStripe.j0 kq a1 a2 t210 t223 x51_14 l0_0 a0_1 a0_2 t205 t208 t209 t212 t215 t216 t218 t221 t222 = some r) ∧ Aside0 (kq ≤ k) ∧ Aside0 (Kd.R Kd.string 9 wc w.heap.size (fun k_ => some k_ ≠ ((.slice Ao30 t212.length co30) : Value).ownBlock ∧ some k_ ≠ ((.slice Ao36 t218.length co36) : Value).ownBlock) (.slice Ao24 t205.length co24) t205) ∧ Aside0 (Kd.R Kd.string 9 wc w.heap.size (fun k_ => some k_ ≠ ((.slice Ao24 t205.length co24) : Value).ownBlock ∧ some k_ ≠ ((.slice Ao36 t218.length co36) : Value).ownBlock) (.slice Ao30 t212.length co30) t212) ∧ Aside0 (Kd.R Kd.string 9 wc w.heap.size (fun k_ => some k_ ≠ ((.slice Ao24 t205.length co24) : Value).ownBlock ∧ some k_ ≠ ((.slice Ao30 t212.length co30) : Value).ownBlock) (.slice Ao36 t218.length co36) t218) ∧ Aside0 (wc.heap[gb198]? = some (.cells #[(.slice A0_0 l0_0.length c0_0), .string a0_1, .string a0_2] 24 (0, 0))) ∧ Aside0 (wc.heap[gb211]? = some (.cells #[(.slice Ao24 t205.length co24), .string t208, .string t209] 27 (0, 0))) ∧ Aside0 (wc.heap[gb217]? = some (.cells #[(.slice Ao30 t212.length co30), .string t215, .string t216] 27 (0, 0))) ∧ Aside0 (wc.heap[gb224]? = some (.cells #[(.slice Ao36 t218.length co36), .string t221, .string t222] 27 (0, 0))) ∧ Aside0 (Below w.heap.size w wc))
      case first =>
        have H := HC15.out
        clear HC15
        replace H := Option.bind_eq_some_iff.mp H
        obtain ⟨t225, A410, H⟩ := H
        replace H : (if t225 = true then (laws_FnExactUpdateStripe.j0 k a1 a2 t210 t223 (t223 != t210) l0_0 a0_1 a0_2 t205 t208 t209 t212 t215 t216 t218 t221 t222) else (laws_FnExactUpdateStripe.j0 k a1 a2 t210 t223 true l0_0 a0_1 a0_2 t205 t208 t209 t212 t215 t216 t218 t221 t222)) = some r := H
        have A41 := Aside0.mk A410
        clear A410
        by_cases c42 : t225 = true
        · subst c42
          have H1 : (laws_FnExactUpdateStripe.j0 k a1 a2 t210 t223 (t223 != t210) l0_0 a0_1 a0_2 t205 t208 t209 t212 t215 t216 t218 t221 t222) = some r := by rw [if_pos rfl] at H; exact H
          clear H
          have H := H1
          clear H1
          have H' := Aside0.mk H
          clear H
          have hnb43 := NB224_198.out
          have hnc43 := NB198_224.out
          have hnb44 := NB224_211.out
          have hnc44 := NB211_224.out
          have hnb45 := NB224_217.out
          have hnc45 := NB217_224.out
          have hcz46_0 : w35.cell? ⟨gb224, 0, none⟩ = some (.slice none 0 0) := (blk_cell BK224.out 0).trans rfl
          have hcz46_1 : w35.cell? ⟨gb224, 1, none⟩ = some (.string (⟨#[]⟩ : ByteArray)) := (blk_cell BK224.out 1).trans rfl
          have hcz46_2 : w35.cell? ⟨gb224, 2, none⟩ = some (.string (⟨#[]⟩ : ByteArray)) := (blk_cell BK224.out 2).trans rfl
          have hfz46_0 := blk_frozen BK224.out 0
          have hfz46_1 := blk_frozen BK224.out 1
          have hfz46_2 := blk_frozen BK224.out 2
          have hnb47 := NB211_198.out
          have hnc47 := NB198_211.out
          have hnb48 := NB211_217.out
          have hnc48 := NB217_211.out
          have hcz49_0 : w35.cell? ⟨gb211, 0, none⟩ = some (.slice Ao24 t205.length co24) := (blk_cell BK211.out 0).trans rfl
          have hcz49_1 : w35.cell? ⟨gb211, 1, none⟩ = some (.string t208) := (blk_cell BK211.out 1).trans rfl
          have hcz49_2 : w35.cell? ⟨gb211, 2, none⟩ = some (.string t209) := (blk_cell BK211.out 2).trans rfl
          have hfz49_0 := blk_frozen BK211.out 0
          have hfz49_1 := blk_frozen BK211.out 1
          have hfz49_2 := blk_frozen BK211.out 2
          go_wp2_with (first | ((with_reducible refine gate_callee (f := 16) rfl ?_); refine goesL_ (some 45) rfl rfl Try.func16 (by kernel_rfl) rfl #[.agg #[.slice Ao36 t218.length co36, .string t221, .string t222], .agg #[.slice Ao24 t205.length co24, .string t208, .string t209]] rfl (by (try simp only [List.map_toArray, List.map_cons, List.map_nil]); first | done | rfl | (simp only [List.length_drop, List.length_take]; rfl)) ?_; (with_reducible refine (laws_eqStripe.calls k _ _ t218 t221 t222 _ _ t205 t208 t209 true _ ?side1 ?side2 ?side3 ?side4 A41.out).mono ?_); (case side1 => refine (Kd.R_reads' (e := 9) (base := w.heap.size) (ok := fun k_ => (((True ∧ some k_ ≠ (.slice Ao21 t200.length co21 : Value).ownBlock) ∧ some k_ ≠ (.slice Ao24 t205.length co24 : Value).ownBlock) ∧ some k_ ≠ (.slice Ao30 t212.length co30 : Value).ownBlock)) (n := t218.length) (c := co36) ?_).2.2; exact (by (with_reducible repeat (first | apply Kd.R_alloc | apply Kd.R_drewN | apply Kd.R_drew)); exact (Kd.R_mono (Kd.R_far (p := ⟨gb224, 2, none⟩) (Kd.R_far (p := ⟨gb224, 1, none⟩) (Kd.R_far (p := ⟨gb224, 0, none⟩) (Kd.R_types HO220.out BK224.out (by decide)) (fun _ hk => hk.2) (.slice Ao36 t218.length co36)) (fun _ hk => hk.2) (.string t221)) (fun _ hk => hk.2) (.string t222)) (fun _ h_ => h_.1)))); (case side2 => exact (Kd.R_reads' HO220.out).2.1); (case side3 => refine (Kd.R_reads' (e := 9) (base := w.heap.size) (ok := fun k_ => (((True ∧ some k_ ≠ (.slice Ao21 t200.length co21 : Value).ownBlock) ∧ some k_ ≠ (.slice Ao30 t212.length co30 : Value).ownBlock) ∧ some k_ ≠ (.slice Ao36 t218.length co36 : Value).ownBlock)) (n := t205.length) (c := co24) ?_).2.2; exact (by (with_reducible repeat (first | apply Kd.R_alloc | apply Kd.R_drewN | apply Kd.R_drew)); exact (Kd.R_mono (Kd.R_far (p := ⟨gb224, 2, none⟩) (Kd.R_far (p := ⟨gb224, 1, none⟩) (Kd.R_far (p := ⟨gb224, 0, none⟩) (Kd.R_types HO207.out BK224.out (by decide)) (fun _ hk => hk.2) (.slice Ao36 t218.length co36)) (fun _ hk => hk.2) (.string t221)) (fun _ hk => hk.2) (.string t222)) (fun _ h_ => h_.1)))); (case side4 => exact (Kd.R_reads' HO207.out).2.1); rintro e w50 ⟨rfl, hb⟩; refine ⟨_, rfl, ?_⟩; have n0_ := Aside0.mk (Kd.R_below (by (with_reducible repeat (first | apply Kd.R_alloc | apply Kd.R_drewN | apply Kd.R_drew)); exact (Kd.R_mono (Kd.R_far (p := ⟨gb224, 2, none⟩) (Kd.R_far (p := ⟨gb224, 1, none⟩) (Kd.R_far (p := ⟨gb224, 0, none⟩) (Kd.R_types HO202.out BK224.out (by decide)) (fun _ hk => hk.2) (.slice Ao36 t218.length co36)) (fun _ hk => hk.2) (.string t221)) (fun _ hk => hk.2) (.string t222)) (fun _ h_ => h_.1))) hb); have n1_ := Aside0.mk (Kd.R_below (by (with_reducible repeat (first | apply Kd.R_alloc | apply Kd.R_drewN | apply Kd.R_drew)); exact (Kd.R_mono (Kd.R_far (p := ⟨gb224, 2, none⟩) (Kd.R_far (p := ⟨gb224, 1, none⟩) (Kd.R_far (p := ⟨gb224, 0, none⟩) (Kd.R_types HO207.out BK224.out (by decide)) (fun _ hk => hk.2) (.slice Ao36 t218.length co36)) (fun _ hk => hk.2) (.string t221)) (fun _ hk => hk.2) (.string t222)) (fun _ h_ => h_.1))) hb); have n2_ := Aside0.mk (Kd.R_below (by (with_reducible repeat (first | apply Kd.R_alloc | apply Kd.R_drewN | apply Kd.R_drew)); exact (Kd.R_mono (Kd.R_far (p := ⟨gb224, 2, none⟩) (Kd.R_far (p := ⟨gb224, 1, none⟩) (Kd.R_far (p := ⟨gb224, 0, none⟩) (Kd.R_types HO214.out BK224.out (by decide)) (fun _ hk => hk.2) (.slice Ao36 t218.length co36)) (fun _ hk => hk.2) (.string t221)) (fun _ hk => hk.2) (.string t222)) (fun _ h_ => h_.1))) hb); have n3_ := Aside0.mk (Kd.R_below (by (with_reducible repeat (first | apply Kd.R_alloc | apply Kd.R_drewN | apply Kd.R_drew)); exact (Kd.R_mono (Kd.R_far (p := ⟨gb224, 2, none⟩) (Kd.R_far (p := ⟨gb224, 1, none⟩) (Kd.R_far (p := ⟨gb224, 0, none⟩) (Kd.R_types HO220.out BK224.out (by decide)) (fun _ hk => hk.2) (.slice Ao36 t218.length co36)) (fun _ hk => hk.2) (.string t221)) (fun _ hk => hk.2) (.string t222)) (fun _ h_ => h_.1))) hb); have n4_ := Aside0.mk (blk_below (g := gb198) (o := .cells #[.slice A0_0 l0_0.length c0_0, .string a0_1, .string a0_2] 24 (0, 0)) (by (with_reducible repeat (first | refine blk_drewN ?_ _ | refine blk_drew ?_ | refine blk_alloc ?_ _)); refine blk_far ?_ NB198_224.out _; (with_reducible repeat (first | refine blk_drewN ?_ _ | refine blk_drew ?_ | refine blk_alloc ?_ _)); refine blk_far ?_ NB198_224.out _; (with_reducible repeat (first | refine blk_drewN ?_ _ | refine blk_drew ?_ | refine blk_alloc ?_ _)); refine blk_far ?_ NB198_224.out _; (with_reducible repeat (first | refine blk_drewN ?_ _ | refine blk_drew ?_ | refine blk_alloc ?_ _)); exact BK198.out) hb); have n5_ := Aside0.mk (blk_below (g := gb211) (o := .cells #[.slice Ao24 t205.length co24, .string t208, .string t209] 27 (0, 0)) (by (with_reducible repeat (first | refine blk_drewN ?_ _ | refine blk_drew ?_ | refine blk_alloc ?_ _)); refine blk_far ?_ NB211_224.out _; (with_reducible repeat (first | refine blk_drewN ?_ _ | refine blk_drew ?_ | refine blk_alloc ?_ _)); refine blk_far ?_ NB211_224.out _; (with_reducible repeat (first | refine blk_drewN ?_ _ | refine blk_drew ?_ | refine blk_alloc ?_ _)); refine blk_far ?_ NB211_224.out _; (with_reducible repeat (first | refine blk_drewN ?_ _ | refine blk_drew ?_ | refine blk_alloc ?_ _)); exact BK211.out) hb); have n6_ := Aside0.mk (blk_below (g := gb217) (o := .cells #[.slice Ao30 t212.length co30, .string t215, .string t216] 27 (0, 0)) (by (with_reducible repeat (first | refine blk_drewN ?_ _ | refine blk_drew ?_ | refine blk_alloc ?_ _)); refine blk_far ?_ NB217_224.out _; (with_reducible repeat (first | refine blk_drewN ?_ _ | refine blk_drew ?_ | refine blk_alloc ?_ _)); refine blk_far ?_ NB217_224.out _; (with_reducible repeat (first | refine blk_drewN ?_ _ | refine blk_drew ?_ | refine blk_alloc ?_ _)); refine blk_far ?_ NB217_224.out _; (with_reducible repeat (first | refine blk_drewN ?_ _ | refine blk_drew ?_ | refine blk_alloc ?_ _)); exact BK217.out) hb); have n7_ := Aside0.mk (blk_below (g := gb224) (o := .cells #[.slice Ao36 t218.length co36, .string t221, .string t222] 27 (0, 0)) (by (with_reducible repeat (first | refine blk_drewN ?_ _ | refine blk_drew ?_ | refine blk_alloc ?_ _)); refine blk_put (cs := #[.slice Ao36 t218.length co36, .string t221, .string (⟨#[]⟩ : ByteArray)]) ?_ 2 _ rfl; (with_reducible repeat (first | refine blk_drewN ?_ _ | refine blk_drew ?_ | refine blk_alloc ?_ _)); refine blk_put (cs := #[.slice Ao36 t218.length co36, .string (⟨#[]⟩ : ByteArray), .string (⟨#[]⟩ : ByteArray)]) ?_ 1 _ rfl; (with_reducible repeat (first | refine blk_drewN ?_ _ | refine blk_drew ?_ | refine blk_alloc ?_ _)); refine blk_put (cs := #[.slice none 0 0, .string (⟨#[]⟩ : ByteArray), .string (⟨#[]⟩ : ByteArray)]) ?_ 0 _ rfl; (with_reducible repeat (first | refine blk_drewN ?_ _ | refine blk_drew ?_ | refine blk_alloc ?_ _)); exact BK224.out) hb); have n8_ := Aside0.mk (below_step (by repeat (first | (with_reducible first | exact HB.out | apply below_alloc | apply pw_below_drewN | apply below_drew1 | refine below_set ?_ GE198.out | refine below_set ?_ GE211.out | refine below_set ?_ GE217.out | refine below_set ?_ GE224.out) | exact HB.out)) hb); clear HO202; clear HO207; clear HO214; clear HO220; clear BK198; clear BK211; clear BK217; clear BK224; clear HB; have HO202 := n0_; have HO207 := n1_; have HO214 := n2_; have HO220 := n3_; have BK198 := n4_; have BK211 := n5_; have BK217 := n6_; have BK224 := n7_; have HB := n8_; clear n0_ n1_ n2_ n3_ n4_ n5_ n6_ n7_ n8_; (try clear hb); (try clear hb2); (try clear hk); (try clear hi)))
          go_meet
          case rel => exact ⟨_, ((t223 != t210)), (by first | rfl | (simp; done) | (simp [*]; done)), H', ⟨by first | omega | exact Nat.le_refl _⟩, ⟨by (with_reducible repeat (first | apply Kd.R_alloc | apply Kd.R_drewN | apply Kd.R_drew)); exact Kd.R_mono HO207.out (fun _ hk => ⟨hk.1.2, hk.2⟩)⟩, ⟨by (with_reducible repeat (first | apply Kd.R_alloc | apply Kd.R_drewN | apply Kd.R_drew)); exact Kd.R_mono HO214.out (fun _ hk => ⟨hk.1.2, hk.2⟩)⟩, ⟨by (with_reducible repeat (first | apply Kd.R_alloc | apply Kd.R_drewN | apply Kd.R_drew)); exact Kd.R_mono HO220.out (fun _ hk => ⟨hk.1.2, hk.2⟩)⟩, ⟨by (with_reducible repeat (first | refine blk_drewN ?_ _ | refine blk_drew ?_ | refine blk_alloc ?_ _)); exact BK198.out⟩, ⟨by (with_reducible repeat (first | refine blk_drewN ?_ _ | refine blk_drew ?_ | refine blk_alloc ?_ _)); exact BK211.out⟩, ⟨by (with_reducible repeat (first | refine blk_drewN ?_ _ | refine blk_drew ?_ | refine blk_alloc ?_ _)); exact BK217.out⟩, ⟨by (with_reducible repeat (first | refine blk_drewN ?_ _ | refine blk_drew ?_ | refine blk_alloc ?_ _)); exact BK224.out⟩, ⟨by repeat (first | (with_reducible first | exact HB.out | apply below_alloc | apply pw_below_drewN | apply below_drew1 | refine below_set ?_ GE198.out | refine below_set ?_ GE211.out | refine below_set ?_ GE217.out | refine below_set ?_ GE224.out) | exact HB.out)⟩⟩
        · replace c42 := Bool.eq_false_iff.mpr c42
          subst c42
          have H1 : (laws_FnExactUpdateStripe.j0 k a1 a2 t210 t223 true l0_0 a0_1 a0_2 t205 t208 t209 t212 t215 t216 t218 t221 t222) = some r := by rw [if_neg (show ¬ (false = true) by decide)] at H; exact H
          clear H
          have H := H1
          clear H1
          have H' := Aside0.mk H
          clear H
          have hnb51 := NB224_198.out
          have hnc51 := NB198_224.out
          have hnb52 := NB224_211.out
          have hnc52 := NB211_224.out
          have hnb53 := NB224_217.out
          have hnc53 := NB217_224.out
          have hcz54_0 : w35.cell? ⟨gb224, 0, none⟩ = some (.slice none 0 0) := (blk_cell BK224.out 0).trans rfl
          have hcz54_1 : w35.cell? ⟨gb224, 1, none⟩ = some (.string (⟨#[]⟩ : ByteArray)) := (blk_cell BK224.out 1).trans rfl
          have hcz54_2 : w35.cell? ⟨gb224, 2, none⟩ = some (.string (⟨#[]⟩ : ByteArray)) := (blk_cell BK224.out 2).trans rfl
          have hfz54_0 := blk_frozen BK224.out 0
          have hfz54_1 := blk_frozen BK224.out 1
          have hfz54_2 := blk_frozen BK224.out 2
          have hnb55 := NB211_198.out
          have hnc55 := NB198_211.out
          have hnb56 := NB211_217.out
          have hnc56 := NB217_211.out
          have hcz57_0 : w35.cell? ⟨gb211, 0, none⟩ = some (.slice Ao24 t205.length co24) := (blk_cell BK211.out 0).trans rfl
          have hcz57_1 : w35.cell? ⟨gb211, 1, none⟩ = some (.string t208) := (blk_cell BK211.out 1).trans rfl
          have hcz57_2 : w35.cell? ⟨gb211, 2, none⟩ = some (.string t209) := (blk_cell BK211.out 2).trans rfl
          have hfz57_0 := blk_frozen BK211.out 0
          have hfz57_1 := blk_frozen BK211.out 1
          have hfz57_2 := blk_frozen BK211.out 2
          go_wp2_with (first | ((with_reducible refine gate_callee (f := 16) rfl ?_); refine goesL_ (some 45) rfl rfl Try.func16 (by kernel_rfl) rfl #[.agg #[.slice Ao36 t218.length co36, .string t221, .string t222], .agg #[.slice Ao24 t205.length co24, .string t208, .string t209]] rfl (by (try simp only [List.map_toArray, List.map_cons, List.map_nil]); first | done | rfl | (simp only [List.length_drop, List.length_take]; rfl)) ?_; (with_reducible refine (laws_eqStripe.calls k _ _ t218 t221 t222 _ _ t205 t208 t209 false _ ?side1 ?side2 ?side3 ?side4 A41.out).mono ?_); (case side1 => refine (Kd.R_reads' (e := 9) (base := w.heap.size) (ok := fun k_ => (((True ∧ some k_ ≠ (.slice Ao21 t200.length co21 : Value).ownBlock) ∧ some k_ ≠ (.slice Ao24 t205.length co24 : Value).ownBlock) ∧ some k_ ≠ (.slice Ao30 t212.length co30 : Value).ownBlock)) (n := t218.length) (c := co36) ?_).2.2; exact (by (with_reducible repeat (first | apply Kd.R_alloc | apply Kd.R_drewN | apply Kd.R_drew)); exact (Kd.R_mono (Kd.R_far (p := ⟨gb224, 2, none⟩) (Kd.R_far (p := ⟨gb224, 1, none⟩) (Kd.R_far (p := ⟨gb224, 0, none⟩) (Kd.R_types HO220.out BK224.out (by decide)) (fun _ hk => hk.2) (.slice Ao36 t218.length co36)) (fun _ hk => hk.2) (.string t221)) (fun _ hk => hk.2) (.string t222)) (fun _ h_ => h_.1)))); (case side2 => exact (Kd.R_reads' HO220.out).2.1); (case side3 => refine (Kd.R_reads' (e := 9) (base := w.heap.size) (ok := fun k_ => (((True ∧ some k_ ≠ (.slice Ao21 t200.length co21 : Value).ownBlock) ∧ some k_ ≠ (.slice Ao30 t212.length co30 : Value).ownBlock) ∧ some k_ ≠ (.slice Ao36 t218.length co36 : Value).ownBlock)) (n := t205.length) (c := co24) ?_).2.2; exact (by (with_reducible repeat (first | apply Kd.R_alloc | apply Kd.R_drewN | apply Kd.R_drew)); exact (Kd.R_mono (Kd.R_far (p := ⟨gb224, 2, none⟩) (Kd.R_far (p := ⟨gb224, 1, none⟩) (Kd.R_far (p := ⟨gb224, 0, none⟩) (Kd.R_types HO207.out BK224.out (by decide)) (fun _ hk => hk.2) (.slice Ao36 t218.length co36)) (fun _ hk => hk.2) (.string t221)) (fun _ hk => hk.2) (.string t222)) (fun _ h_ => h_.1)))); (case side4 => exact (Kd.R_reads' HO207.out).2.1); rintro e w58 ⟨rfl, hb⟩; refine ⟨_, rfl, ?_⟩; have n0_ := Aside0.mk (Kd.R_below (by (with_reducible repeat (first | apply Kd.R_alloc | apply Kd.R_drewN | apply Kd.R_drew)); exact (Kd.R_mono (Kd.R_far (p := ⟨gb224, 2, none⟩) (Kd.R_far (p := ⟨gb224, 1, none⟩) (Kd.R_far (p := ⟨gb224, 0, none⟩) (Kd.R_types HO202.out BK224.out (by decide)) (fun _ hk => hk.2) (.slice Ao36 t218.length co36)) (fun _ hk => hk.2) (.string t221)) (fun _ hk => hk.2) (.string t222)) (fun _ h_ => h_.1))) hb); have n1_ := Aside0.mk (Kd.R_below (by (with_reducible repeat (first | apply Kd.R_alloc | apply Kd.R_drewN | apply Kd.R_drew)); exact (Kd.R_mono (Kd.R_far (p := ⟨gb224, 2, none⟩) (Kd.R_far (p := ⟨gb224, 1, none⟩) (Kd.R_far (p := ⟨gb224, 0, none⟩) (Kd.R_types HO207.out BK224.out (by decide)) (fun _ hk => hk.2) (.slice Ao36 t218.length co36)) (fun _ hk => hk.2) (.string t221)) (fun _ hk => hk.2) (.string t222)) (fun _ h_ => h_.1))) hb); have n2_ := Aside0.mk (Kd.R_below (by (with_reducible repeat (first | apply Kd.R_alloc | apply Kd.R_drewN | apply Kd.R_drew)); exact (Kd.R_mono (Kd.R_far (p := ⟨gb224, 2, none⟩) (Kd.R_far (p := ⟨gb224, 1, none⟩) (Kd.R_far (p := ⟨gb224, 0, none⟩) (Kd.R_types HO214.out BK224.out (by decide)) (fun _ hk => hk.2) (.slice Ao36 t218.length co36)) (fun _ hk => hk.2) (.string t221)) (fun _ hk => hk.2) (.string t222)) (fun _ h_ => h_.1))) hb); have n3_ := Aside0.mk (Kd.R_below (by (with_reducible repeat (first | apply Kd.R_alloc | apply Kd.R_drewN | apply Kd.R_drew)); exact (Kd.R_mono (Kd.R_far (p := ⟨gb224, 2, none⟩) (Kd.R_far (p := ⟨gb224, 1, none⟩) (Kd.R_far (p := ⟨gb224, 0, none⟩) (Kd.R_types HO220.out BK224.out (by decide)) (fun _ hk => hk.2) (.slice Ao36 t218.length co36)) (fun _ hk => hk.2) (.string t221)) (fun _ hk => hk.2) (.string t222)) (fun _ h_ => h_.1))) hb); have n4_ := Aside0.mk (blk_below (g := gb198) (o := .cells #[.slice A0_0 l0_0.length c0_0, .string a0_1, .string a0_2] 24 (0, 0)) (by (with_reducible repeat (first | refine blk_drewN ?_ _ | refine blk_drew ?_ | refine blk_alloc ?_ _)); refine blk_far ?_ NB198_224.out _; (with_reducible repeat (first | refine blk_drewN ?_ _ | refine blk_drew ?_ | refine blk_alloc ?_ _)); refine blk_far ?_ NB198_224.out _; (with_reducible repeat (first | refine blk_drewN ?_ _ | refine blk_drew ?_ | refine blk_alloc ?_ _)); refine blk_far ?_ NB198_224.out _; (with_reducible repeat (first | refine blk_drewN ?_ _ | refine blk_drew ?_ | refine blk_alloc ?_ _)); exact BK198.out) hb); have n5_ := Aside0.mk (blk_below (g := gb211) (o := .cells #[.slice Ao24 t205.length co24, .string t208, .string t209] 27 (0, 0)) (by (with_reducible repeat (first | refine blk_drewN ?_ _ | refine blk_drew ?_ | refine blk_alloc ?_ _)); refine blk_far ?_ NB211_224.out _; (with_reducible repeat (first | refine blk_drewN ?_ _ | refine blk_drew ?_ | refine blk_alloc ?_ _)); refine blk_far ?_ NB211_224.out _; (with_reducible repeat (first | refine blk_drewN ?_ _ | refine blk_drew ?_ | refine blk_alloc ?_ _)); refine blk_far ?_ NB211_224.out _; (with_reducible repeat (first | refine blk_drewN ?_ _ | refine blk_drew ?_ | refine blk_alloc ?_ _)); exact BK211.out) hb); have n6_ := Aside0.mk (blk_below (g := gb217) (o := .cells #[.slice Ao30 t212.length co30, .string t215, .string t216] 27 (0, 0)) (by (with_reducible repeat (first | refine blk_drewN ?_ _ | refine blk_drew ?_ | refine blk_alloc ?_ _)); refine blk_far ?_ NB217_224.out _; (with_reducible repeat (first | refine blk_drewN ?_ _ | refine blk_drew ?_ | refine blk_alloc ?_ _)); refine blk_far ?_ NB217_224.out _; (with_reducible repeat (first | refine blk_drewN ?_ _ | refine blk_drew ?_ | refine blk_alloc ?_ _)); refine blk_far ?_ NB217_224.out _; (with_reducible repeat (first | refine blk_drewN ?_ _ | refine blk_drew ?_ | refine blk_alloc ?_ _)); exact BK217.out) hb); have n7_ := Aside0.mk (blk_below (g := gb224) (o := .cells #[.slice Ao36 t218.length co36, .string t221, .string t222] 27 (0, 0)) (by (with_reducible repeat (first | refine blk_drewN ?_ _ | refine blk_drew ?_ | refine blk_alloc ?_ _)); refine blk_put (cs := #[.slice Ao36 t218.length co36, .string t221, .string (⟨#[]⟩ : ByteArray)]) ?_ 2 _ rfl; (with_reducible repeat (first | refine blk_drewN ?_ _ | refine blk_drew ?_ | refine blk_alloc ?_ _)); refine blk_put (cs := #[.slice Ao36 t218.length co36, .string (⟨#[]⟩ : ByteArray), .string (⟨#[]⟩ : ByteArray)]) ?_ 1 _ rfl; (with_reducible repeat (first | refine blk_drewN ?_ _ | refine blk_drew ?_ | refine blk_alloc ?_ _)); refine blk_put (cs := #[.slice none 0 0, .string (⟨#[]⟩ : ByteArray), .string (⟨#[]⟩ : ByteArray)]) ?_ 0 _ rfl; (with_reducible repeat (first | refine blk_drewN ?_ _ | refine blk_drew ?_ | refine blk_alloc ?_ _)); exact BK224.out) hb); have n8_ := Aside0.mk (below_step (by repeat (first | (with_reducible first | exact HB.out | apply below_alloc | apply pw_below_drewN | apply below_drew1 | refine below_set ?_ GE198.out | refine below_set ?_ GE211.out | refine below_set ?_ GE217.out | refine below_set ?_ GE224.out) | exact HB.out)) hb); clear HO202; clear HO207; clear HO214; clear HO220; clear BK198; clear BK211; clear BK217; clear BK224; clear HB; have HO202 := n0_; have HO207 := n1_; have HO214 := n2_; have HO220 := n3_; have BK198 := n4_; have BK211 := n5_; have BK217 := n6_; have BK224 := n7_; have HB := n8_; clear n0_ n1_ n2_ n3_ n4_ n5_ n6_ n7_ n8_; (try clear hb); (try clear hb2); (try clear hk); (try clear hi)))
          go_meet
          case rel => exact ⟨_, (true), (by first | rfl | (simp; done) | (simp [*]; done)), H', ⟨by first | omega | exact Nat.le_refl _⟩, ⟨by (with_reducible repeat (first | apply Kd.R_alloc | apply Kd.R_drewN | apply Kd.R_drew)); exact Kd.R_mono HO207.out (fun _ hk => ⟨hk.1.2, hk.2⟩)⟩, ⟨by (with_reducible repeat (first | apply Kd.R_alloc | apply Kd.R_drewN | apply Kd.R_drew)); exact Kd.R_mono HO214.out (fun _ hk => ⟨hk.1.2, hk.2⟩)⟩, ⟨by (with_reducible repeat (first | apply Kd.R_alloc | apply Kd.R_drewN | apply Kd.R_drew)); exact Kd.R_mono HO220.out (fun _ hk => ⟨hk.1.2, hk.2⟩)⟩, ⟨by (with_reducible repeat (first | refine blk_drewN ?_ _ | refine blk_drew ?_ | refine blk_alloc ?_ _)); exact BK198.out⟩, ⟨by (with_reducible repeat (first | refine blk_drewN ?_ _ | refine blk_drew ?_ | refine blk_alloc ?_ _)); exact BK211.out⟩, ⟨by (with_reducible repeat (first | refine blk_drewN ?_ _ | refine blk_drew ?_ | refine blk_alloc ?_ _)); exact BK217.out⟩, ⟨by (with_reducible repeat (first | refine blk_drewN ?_ _ | refine blk_drew ?_ | refine blk_alloc ?_ _)); exact BK224.out⟩, ⟨by repeat (first | (with_reducible first | exact HB.out | apply below_alloc | apply pw_below_drewN | apply below_drew1 | refine below_set ?_ GE198.out | refine below_set ?_ GE211.out | refine below_set ?_ GE217.out | refine below_set ?_ GE224.out) | exact HB.out)⟩⟩
      case rest =>
        clear HC15
        try clear c1
        try clear c2
        try clear p2
        try clear c3
        try clear c4
        try clear c4b0
        try clear c4b1
        try clear c5
        try clear c6
        try clear c7
        try clear c7b0
        try clear c12
        try clear c14
        try clear c16
        try clear c25
        try clear c27
        try clear c28
        try clear c31
        try clear c32
        try clear c37
        try clear c38
        try clear c39
        try clear c42
        try clear c43
        try clear c44
        try clear c45
        try clear c47
        try clear c48
        try clear c51
        try clear c52
        try clear c53
        try clear c55
        try clear c56
        try clear hcz17_0
        try clear hcz17_1
        try clear hcz17_2
        try clear hcz19_0
        try clear hcz19_1
        try clear hcz19_2
        try clear hcz26_0
        try clear hcz26_1
        try clear hcz26_2
        try clear hcz27_0
        try clear hcz27_1
        try clear hcz27_2
        try clear hcz33_0
        try clear hcz33_1
        try clear hcz33_2
        try clear hcz40_0
        try clear hcz40_1
        try clear hcz40_2
        try clear hcz46_0
        try clear hcz46_1
        try clear hcz46_2
        try clear hcz49_0
        try clear hcz49_1
        try clear hcz49_2
        try clear hcz54_0
        try clear hcz54_1
        try clear hcz54_2
        try clear hcz57_0
        try clear hcz57_1
        try clear hcz57_2
        try clear hcz9_0
        try clear hcz9_1
        try clear hcz9_2
        try clear hfz17_0
        try clear hfz17_1
        try clear hfz17_2
        try clear hfz19_0
        try clear hfz19_1
        try clear hfz19_2
        try clear hfz26_0
        try clear hfz26_1
        try clear hfz26_2
        try clear hfz27_0
        try clear hfz27_1
        try clear hfz27_2
        try clear hfz33_0
        try clear hfz33_1
        try clear hfz33_2
        try clear hfz40_0
        try clear hfz40_1
        try clear hfz40_2
        try clear hfz46_0
        try clear hfz46_1
        try clear hfz46_2
        try clear hfz49_0
        try clear hfz49_1
        try clear hfz49_2
        try clear hfz54_0
        try clear hfz54_1
        try clear hfz54_2
        try clear hfz57_0
        try clear hfz57_1
        try clear hfz57_2
        try clear hfz9_0
        try clear hfz9_1
        try clear hfz9_2
        obtain ⟨kq, x51_14, rfl, HA, HJ14, HO_212000, HO_218000, HO_225000, BK198, BK211, BK217, BK224, HB⟩ := hcut
        cases kq with
        | zero => exact absurd HA.out (fun h_ => by change none = some _ at h_; cases h_)
        | succ kj14 =>
          have H := HA.out
          clear HA
          simp only [laws_FnExactUpdateStripe.j0] at H
          by_cases c59 : x51_14 = true
          · subst c59
            have H1 : (some false) = some r := by rw [if_pos rfl] at H; exact H
            clear H
            have H := H1
            clear H1
            obtain rfl := Option.some.inj H
            go_wp2
            go_ret
            exact ⟨by first | rfl | (simp [errW_none, errW_some] <;> rfl) | (simp [*, errW_none, errW_some] <;> rfl), by repeat (first | (with_reducible first | exact HB.out | apply below_alloc | apply pw_below_drewN | apply below_drew1 | refine below_set ?_ GE198.out | refine below_set ?_ GE211.out | refine below_set ?_ GE217.out | refine below_set ?_ GE224.out) | exact HB.out)⟩
          · replace c59 := Bool.eq_false_iff.mpr c59
            subst c59
            have H1 : ((laws_toStripe.f kj14 l0_0 a0_1 a0_2).bind fun bt226 => ((laws_eqStripe.f kj14 t212 t215 t216 bt226.1 bt226.2.1 bt226.2.2).bind fun t231 => (if t231 = true then ((laws_markStripe.f kj14 t212 t215 t216 1).bind fun bt232 => (if bt232.1 < 0 then (laws_FnExactUpdateStripe.j1 kj14 a1 a2 t210 true l0_0 a0_1 a0_2 t205 t208 t209 t218 t221 t222) else ((laws_eqStripe.f kj14 t218 t221 t222 t205 t208 t209).bind fun t234 => (if t234 = true then (laws_FnExactUpdateStripe.j1 kj14 a1 a2 t210 (t223 != t210) l0_0 a0_1 a0_2 t205 t208 t209 t218 t221 t222) else (laws_FnExactUpdateStripe.j1 kj14 a1 a2 t210 true l0_0 a0_1 a0_2 t205 t208 t209 t218 t221 t222))))) else (some false)))) = some r := by rw [if_neg (show ¬ (false = true) by decide)] at H; exact H
            clear H
            have H := H1
            clear H1
            replace H := Option.bind_eq_some_iff.mp H
            obtain ⟨⟨t226, t229, t230⟩, A600, H⟩ := H
            replace H : ((laws_eqStripe.f kj14 t212 t215 t216 t226 t229 t230).bind fun t231 => (if t231 = true then ((laws_markStripe.f kj14 t212 t215 t216 1).bind fun bt232 => (if bt232.1 < 0 then (laws_FnExactUpdateStripe.j1 kj14 a1 a2 t210 true l0_0 a0_1 a0_2 t205 t208 t209 t218 t221 t222) else ((laws_eqStripe.f kj14 t218 t221 t222 t205 t208 t209).bind fun t234 => (if t234 = true then (laws_FnExactUpdateStripe.j1 kj14 a1 a2 t210 (t223 != t210) l0_0 a0_1 a0_2 t205 t208 t209 t218 t221 t222) else (laws_FnExactUpdateStripe.j1 kj14 a1 a2 t210 true l0_0 a0_1 a0_2 t205 t208 t209 t218 t221 t222))))) else (some false))) = some r := H
            have A60 := Aside0.mk A600
            clear A600
            replace H := Option.bind_eq_some_iff.mp H
            obtain ⟨t231, A610, H⟩ := H
            replace H : (if t231 = true then ((laws_markStripe.f kj14 t212 t215 t216 1).bind fun bt232 => (if bt232.1 < 0 then (laws_FnExactUpdateStripe.j1 kj14 a1 a2 t210 true l0_0 a0_1 a0_2 t205 t208 t209 t218 t221 t222) else ((laws_eqStripe.f kj14 t218 t221 t222 t205 t208 t209).bind fun t234 => (if t234 = true then (laws_FnExactUpdateStripe.j1 kj14 a1 a2 t210 (t223 != t210) l0_0 a0_1 a0_2 t205 t208 t209 t218 t221 t222) else (laws_FnExactUpdateStripe.j1 kj14 a1 a2 t210 true l0_0 a0_1 a0_2 t205 t208 t209 t218 t221 t222))))) else (some false)) = some r := H
            have A61 := Aside0.mk A610
            clear A610
            by_cases c62 : t231 = true
            · subst c62
              have H1 : ((laws_markStripe.f kj14 t212 t215 t216 1).bind fun bt232 => (if bt232.1 < 0 then (laws_FnExactUpdateStripe.j1 kj14 a1 a2 t210 true l0_0 a0_1 a0_2 t205 t208 t209 t218 t221 t222) else ((laws_eqStripe.f kj14 t218 t221 t222 t205 t208 t209).bind fun t234 => (if t234 = true then (laws_FnExactUpdateStripe.j1 kj14 a1 a2 t210 (t223 != t210) l0_0 a0_1 a0_2 t205 t208 t209 t218 t221 t222) else (laws_FnExactUpdateStripe.j1 kj14 a1 a2 t210 true l0_0 a0_1 a0_2 t205 t208 t209 t218 t221 t222))))) = some r := by rw [if_pos rfl] at H; exact H
              clear H
              have H := H1
              clear H1
              replace H := Option.bind_eq_some_iff.mp H
              obtain ⟨⟨t232, t233⟩, A630, H⟩ := H
              replace H : (if t232 < 0 then (laws_FnExactUpdateStripe.j1 kj14 a1 a2 t210 true l0_0 a0_1 a0_2 t205 t208 t209 t218 t221 t222) else ((laws_eqStripe.f kj14 t218 t221 t222 t205 t208 t209).bind fun t234 => (if t234 = true then (laws_FnExactUpdateStripe.j1 kj14 a1 a2 t210 (t223 != t210) l0_0 a0_1 a0_2 t205 t208 t209 t218 t221 t222) else (laws_FnExactUpdateStripe.j1 kj14 a1 a2 t210 true l0_0 a0_1 a0_2 t205 t208 t209 t218 t221 t222)))) = some r := H
              have A63 := Aside0.mk A630
              clear A630
              have HC64 := Aside0.mk H
              clear H
              try go_wp2
              have n0_ := Aside0.mk (Kd.R_drew HO_212000.out)
              have n1_ := Aside0.mk (Kd.R_drew HO_218000.out)
              have n2_ := Aside0.mk (Kd.R_drew HO_225000.out)
              have n3_ := Aside0.mk (blk_drew BK198.out)
              have n4_ := Aside0.mk (blk_drew BK211.out)
              have n5_ := Aside0.mk (blk_drew BK217.out)
              have n6_ := Aside0.mk (blk_drew BK224.out)
              have n7_ := Aside0.mk (below_drew1 HB.out)
              clear HO_212000
              clear HO_218000
              clear HO_225000
              clear BK198
              clear BK211
              clear BK217
              clear BK224
              clear HB
              have HO_212000 := n0_
              have HO_218000 := n1_
              have HO_225000 := n2_
              have BK198 := n3_
              have BK211 := n4_
              have BK217 := n5_
              have BK224 := n6_
              have HB := n7_
              clear n0_ n1_ n2_ n3_ n4_ n5_ n6_ n7_
              refine start_ (n := 5) (S := fun w' => w'.cell? ⟨gb217, 0, none⟩ = some (.slice Ao30 t212.length co30) ∧ w'.cell? ⟨gb217, 1, none⟩ = some (.string t215) ∧ w'.cell? ⟨gb217, 2, none⟩ = some (.string t216) ∧ w'.cell? ⟨gb198, 0, none⟩ = some (.slice A0_0 l0_0.length c0_0) ∧ w'.cell? ⟨gb198, 1, none⟩ = some (.string a0_1) ∧ w'.cell? ⟨gb198, 2, none⟩ = some (.string a0_2)) (ds := []) #[false, false, false, false, false] (by kernel_rfl) rfl rfl ⟨(blk_cell BK217.out 0).trans rfl, (blk_cell BK217.out 1).trans rfl, (blk_cell BK217.out 2).trans rfl, (blk_cell BK198.out 0).trans rfl, (blk_cell BK198.out 1).trans rfl, (blk_cell BK198.out 2).trans rfl⟩ (fun hHeld => ?_)
              generalize wc.drew = w65 at HO_212000 HO_218000 HO_225000 BK198 BK211 BK217 BK224 HB hHeld ⊢
              refine take_ (i := 0) (N := some 52) (v := ?_) (a' := ?_) #[true, false, false, false, false] rfl rfl (by kernel_rfl) (fun _ _ _ h => h) (Or.inl ⟨by rfl, ?_⟩) hHeld ?_ ?_
              rotate_left
              · rintro w' ⟨s0, s1, s2, s3, s4, s5⟩
                go_simp
                with_reducible rfl
              rotate_left
              · simp only [Act.put, List.setIfInBounds_toArray, List.set_cons_zero, List.set_cons_succ, i64_w, i32_w]
                rfl
              refine take_ (i := 1) (N := some 53) (v := ?_) (a' := ?_) #[true, true, false, false, false] rfl rfl (by kernel_rfl) (fun _ _ _ h => h) (Or.inl ⟨by rfl, ?_⟩) hHeld ?_ ?_
              rotate_left
              · rintro w' ⟨s0, s1, s2, s3, s4, s5⟩
                go_simp
                with_reducible rfl
              rotate_left
              · simp only [Act.put, List.setIfInBounds_toArray, List.set_cons_zero, List.set_cons_succ, i64_w, i32_w]
                rfl
              refine one_ (i := 2) (N := some 54) #[true, true, true, false, false] rfl rfl (by kernel_rfl) (by decide) (fun K hK => ?_)
              refine goes_ Try.func14 (by kernel_rfl) rfl #[.agg #[.slice A0_0 l0_0.length c0_0, .string a0_1, .string a0_2]] (by rfl) rfl rfl (by (try simp only [List.map_toArray, List.map_cons, List.map_nil]); first | done | rfl | (simp only [List.length_drop, List.length_take]; rfl)) ?_
              with_reducible refine (laws_toStripe.calls kj14 _ _ l0_0 a0_1 a0_2 t226 t229 t230 _ ?side1 ?side2 A60.out).mono ?_
              (case side1 => repeat (first | exact (Kd.C_below HR0_0.out HB.out) | (with_reducible refine Kd.C_alloc ?_ _) | (with_reducible refine Kd.C_drewN ?_ _) | (with_reducible refine Kd.C_drew ?_)))
              (case side2 => exact HC0_0.out)
              rintro e w66 ⟨v227, rfl, ho0, hb⟩
              refine ⟨_, rfl, ?_⟩
              have n0_ := Aside0.mk (Kd.R_elder' (by (with_reducible repeat (first | apply Kd.R_alloc | apply Kd.R_drewN | apply Kd.R_drew)); exact HO_212000.out) (Kd.R_base ho0) hb)
              have n1_ := Aside0.mk (Kd.R_elder' (by (with_reducible repeat (first | apply Kd.R_alloc | apply Kd.R_drewN | apply Kd.R_drew)); exact HO_218000.out) (Kd.R_base ho0) hb)
              have n2_ := Aside0.mk (Kd.R_elder' (by (with_reducible repeat (first | apply Kd.R_alloc | apply Kd.R_drewN | apply Kd.R_drew)); exact HO_225000.out) (Kd.R_base ho0) hb)
              have n3_ := Aside0.mk (Kd.R_lower (Kd.R_new' (Kd.R_new' (Kd.R_new' ho0 (Kd.R_lt (by (with_reducible repeat (first | apply Kd.R_alloc | apply Kd.R_drewN | apply Kd.R_drew)); exact HO_212000.out))) (Kd.R_lt (by (with_reducible repeat (first | apply Kd.R_alloc | apply Kd.R_drewN | apply Kd.R_drew)); exact HO_218000.out))) (Kd.R_lt (by (with_reducible repeat (first | apply Kd.R_alloc | apply Kd.R_drewN | apply Kd.R_drew)); exact HO_225000.out))) (below_size (by repeat (first | (with_reducible first | exact HB.out | apply below_alloc | apply pw_below_drewN | apply below_drew1 | refine below_set ?_ GE198.out | refine below_set ?_ GE211.out | refine below_set ?_ GE217.out | refine below_set ?_ GE224.out) | exact HB.out))))
              have n4_ := Aside0.mk (blk_below (g := gb198) (o := .cells #[.slice A0_0 l0_0.length c0_0, .string a0_1, .string a0_2] 24 (0, 0)) (by (with_reducible repeat (first | refine blk_drewN ?_ _ | refine blk_drew ?_ | refine blk_alloc ?_ _)); exact BK198.out) hb)
              have n5_ := Aside0.mk (blk_below (g := gb211) (o := .cells #[.slice Ao24 t205.length co24, .string t208, .string t209] 27 (0, 0)) (by (with_reducible repeat (first | refine blk_drewN ?_ _ | refine blk_drew ?_ | refine blk_alloc ?_ _)); exact BK211.out) hb)
              have n6_ := Aside0.mk (blk_below (g := gb217) (o := .cells #[.slice Ao30 t212.length co30, .string t215, .string t216] 27 (0, 0)) (by (with_reducible repeat (first | refine blk_drewN ?_ _ | refine blk_drew ?_ | refine blk_alloc ?_ _)); exact BK217.out) hb)
              have n7_ := Aside0.mk (blk_below (g := gb224) (o := .cells #[.slice Ao36 t218.length co36, .string t221, .string t222] 27 (0, 0)) (by (with_reducible repeat (first | refine blk_drewN ?_ _ | refine blk_drew ?_ | refine blk_alloc ?_ _)); exact BK224.out) hb)
              have n8_ := Aside0.mk (below_step (by repeat (first | (with_reducible first | exact HB.out | apply below_alloc | apply pw_below_drewN | apply below_drew1 | refine below_set ?_ GE198.out | refine below_set ?_ GE211.out | refine below_set ?_ GE217.out | refine below_set ?_ GE224.out) | exact HB.out)) hb)
              clear HO_212000
              clear HO_218000
              clear HO_225000
              clear BK198
              clear BK211
              clear BK217
              clear BK224
              clear HB
              have HO_212000 := n0_
              have HO_218000 := n1_
              have HO_225000 := n2_
              have HO228 := n3_
              have BK198 := n4_
              have BK211 := n5_
              have BK217 := n6_
              have BK224 := n7_
              have HB := n8_
              clear n0_ n1_ n2_ n3_ n4_ n5_ n6_ n7_ n8_
              (try clear hb)
              (try clear hb2)
              (try clear hk)
              (try clear hi)
              (try clear ho0)
              obtain ⟨Ao67, co67, eo67⟩ := Kd.R_slice HO228.out
              (first | subst eo67 | (injection eo67 with f1_ f2_ f3_; have f4_ := f1_.symm; have f5_ := f3_.symm; clear f1_ f2_ f3_; subst f4_; subst f5_))
              refine hK.out _ _ ⟨(blk_cell BK217.out 0).trans rfl, (blk_cell BK217.out 1).trans rfl, (blk_cell BK217.out 2).trans rfl, (blk_cell BK198.out 0).trans rfl, (blk_cell BK198.out 1).trans rfl, (blk_cell BK198.out 2).trans rfl⟩ (fun hHeld => ?_)
              clear hK K
              refine norm_ (a' := ?_) ?_ ?_
              rotate_left
              · show Act.put _ (some 54) _ = _
                simp only [Act.put, List.setIfInBounds_toArray, List.set_cons_zero, List.set_cons_succ, i64_w, i32_w]
                rfl
              refine one_ (i := 3) (N := some 55) #[true, true, true, true, false] rfl rfl (by kernel_rfl) (by decide) (fun K hK => ?_)
              refine goes_ Try.func16 (by kernel_rfl) rfl #[.agg #[.slice Ao30 t212.length co30, .string t215, .string t216], .agg #[.slice Ao67 t226.length co67, .string t229, .string t230]] (by rfl) rfl rfl (by (try simp only [List.map_toArray, List.map_cons, List.map_nil]); first | done | rfl | (simp only [List.length_drop, List.length_take]; rfl)) ?_
              with_reducible refine (laws_eqStripe.calls kj14 _ _ t212 t215 t216 _ _ t226 t229 t230 true _ ?side1 ?side2 ?side3 ?side4 A61.out).mono ?_
              (case side1 => repeat (first | exact (Kd.R_reads' HO_218000.out).2.2 | (with_reducible refine Kd.C_alloc ?_ _) | (with_reducible refine Kd.C_drewN ?_ _) | (with_reducible refine Kd.C_drew ?_)))
              (case side2 => exact (Kd.R_reads' HO_218000.out).2.1)
              (case side3 => repeat (first | exact (Kd.R_reads' HO228.out).2.2 | (with_reducible refine Kd.C_alloc ?_ _) | (with_reducible refine Kd.C_drewN ?_ _) | (with_reducible refine Kd.C_drew ?_)))
              (case side4 => exact (Kd.R_reads' HO228.out).2.1)
              rintro e w68 ⟨rfl, hb⟩
              refine ⟨_, rfl, ?_⟩
              have n0_ := Aside0.mk (Kd.R_below (by (with_reducible repeat (first | apply Kd.R_alloc | apply Kd.R_drewN | apply Kd.R_drew)); exact HO_212000.out) hb)
              have n1_ := Aside0.mk (Kd.R_below (by (with_reducible repeat (first | apply Kd.R_alloc | apply Kd.R_drewN | apply Kd.R_drew)); exact HO_218000.out) hb)
              have n2_ := Aside0.mk (Kd.R_below (by (with_reducible repeat (first | apply Kd.R_alloc | apply Kd.R_drewN | apply Kd.R_drew)); exact HO_225000.out) hb)
              have n3_ := Aside0.mk (Kd.R_below (by (with_reducible repeat (first | apply Kd.R_alloc | apply Kd.R_drewN | apply Kd.R_drew)); exact HO228.out) hb)
              have n4_ := Aside0.mk (blk_below (g := gb198) (o := .cells #[.slice A0_0 l0_0.length c0_0, .string a0_1, .string a0_2] 24 (0, 0)) (by (with_reducible repeat (first | refine blk_drewN ?_ _ | refine blk_drew ?_ | refine blk_alloc ?_ _)); exact BK198.out) hb)
              have n5_ := Aside0.mk (blk_below (g := gb211) (o := .cells #[.slice Ao24 t205.length co24, .string t208, .string t209] 27 (0, 0)) (by (with_reducible repeat (first | refine blk_drewN ?_ _ | refine blk_drew ?_ | refine blk_alloc ?_ _)); exact BK211.out) hb)
              have n6_ := Aside0.mk (blk_below (g := gb217) (o := .cells #[.slice Ao30 t212.length co30, .string t215, .string t216] 27 (0, 0)) (by (with_reducible repeat (first | refine blk_drewN ?_ _ | refine blk_drew ?_ | refine blk_alloc ?_ _)); exact BK217.out) hb)
              have n7_ := Aside0.mk (blk_below (g := gb224) (o := .cells #[.slice Ao36 t218.length co36, .string t221, .string t222] 27 (0, 0)) (by (with_reducible repeat (first | refine blk_drewN ?_ _ | refine blk_drew ?_ | refine blk_alloc ?_ _)); exact BK224.out) hb)
              have n8_ := Aside0.mk (below_step (by repeat (first | (with_reducible first | exact HB.out | apply below_alloc | apply pw_below_drewN | apply below_drew1 | refine below_set ?_ GE198.out | refine below_set ?_ GE211.out | refine below_set ?_ GE217.out | refine below_set ?_ GE224.out) | exact HB.out)) hb)
              clear HO_212000
              clear HO_218000
              clear HO_225000
              clear HO228
              clear BK198
              clear BK211
              clear BK217
              clear BK224
              clear HB
              have HO_212000 := n0_
              have HO_218000 := n1_
              have HO_225000 := n2_
              have HO228 := n3_
              have BK198 := n4_
              have BK211 := n5_
              have BK217 := n6_
              have BK224 := n7_
              have HB := n8_
              clear n0_ n1_ n2_ n3_ n4_ n5_ n6_ n7_ n8_
              (try clear hb)
              (try clear hb2)
              (try clear hk)
              (try clear hi)
              refine hK.out _ _ ⟨(blk_cell BK217.out 0).trans rfl, (blk_cell BK217.out 1).trans rfl, (blk_cell BK217.out 2).trans rfl, (blk_cell BK198.out 0).trans rfl, (blk_cell BK198.out 1).trans rfl, (blk_cell BK198.out 2).trans rfl⟩ (fun hHeld => ?_)
              clear hK K
              refine norm_ (a' := ?_) ?_ ?_
              rotate_left
              · show Act.put _ (some 55) _ = _
                simp only [Act.put, List.setIfInBounds_toArray, List.set_cons_zero, List.set_cons_succ, i64_w, i32_w]
                rfl
              refine pure_ (i := 4) (N := some 56) (v := ?_) (a' := ?_) #[true, true, true, true, true] rfl rfl (by kernel_rfl) (fun _ _ _ h => h) (Or.inl ⟨by rfl, ?_⟩) ?_ ?_
              rotate_left
              · intro w'
                go_simp
                with_reducible rfl
              rotate_left
              · simp only [Act.put, List.setIfInBounds_toArray, List.set_cons_zero, List.set_cons_succ, i64_w, i32_w]
                rfl
              refine done_ (by kernel_rfl) ?_
              have hnb69 := NB217_198.out
              have hnc69 := NB198_217.out
              have hnb70 := NB217_211.out
              have hnc70 := NB211_217.out
              have hnb71 := NB217_224.out
              have hnc71 := NB224_217.out
              have hcz72_0 : w68.cell? ⟨gb217, 0, none⟩ = some (.slice Ao30 t212.length co30) := (blk_cell BK217.out 0).trans rfl
              have hcz72_1 : w68.cell? ⟨gb217, 1, none⟩ = some (.string t215) := (blk_cell BK217.out 1).trans rfl
              have hcz72_2 : w68.cell? ⟨gb217, 2, none⟩ = some (.string t216) := (blk_cell BK217.out 2).trans rfl
              have hfz72_0 := blk_frozen BK217.out 0
              have hfz72_1 := blk_frozen BK217.out 1
              have hfz72_2 := blk_frozen BK217.out 2
              go_upto_region 16 with (first | ((with_reducible refine gate_callee (f := 25) rfl ?_); refine goesL_ (some 59) rfl rfl Try.func25 (by kernel_rfl) rfl #[.agg #[.slice Ao30 t212.length co30, .string t215, .string t216], .int .i64 1] rfl (by (try simp only [List.map_toArray, List.map_cons, List.map_nil]); first | done | rfl | (simp only [List.length_drop, List.length_take]; rfl)) ?_; (with_reducible refine (laws_markStripe.calls kj14 (fun k_ => some k_ = (.slice Ao30 t212.length co30 : Value).ownBlock) (.slice Ao30 t212.length co30) t212 t215 t216 1 t232 t233 w _ ?side1 ?side2 A63.out).mono ?_); (case side1 => repeat (first | (with_reducible first | exact HB.out | apply below_alloc | apply pw_below_drewN | apply below_drew1 | refine below_set ?_ GE198.out | refine below_set ?_ GE211.out | refine below_set ?_ GE217.out | refine below_set ?_ GE224.out) | exact HB.out)); (case side2 => exact Kd.R_tight rfl HO_218000.out); rintro e w73 ⟨rfl, hy0, hb, hkp⟩; refine ⟨_, rfl, ?_⟩; have n0_ := Aside0.mk (Kd.R_mono (ok' := fun k_ => some k_ ≠ (.slice Ao30 t212.length co30 : Value).ownBlock ∧ some k_ ≠ (.slice Ao36 t218.length co36 : Value).ownBlock ∧ some k_ ≠ (.slice Ao67 t226.length co67 : Value).ownBlock) (Kd.R_keptB (HO_212000.out) hkp (fun k_ hk_ hs_ => (hk_.1.1) hs_)) (fun k_ hk_ => ⟨hk_.1.1.1, hk_.1.1.2, hk_.1.2⟩)); have n1_ := Aside0.mk (Kd.R_reok rfl hy0 (fun k_ e_ => HO_218000.out.1 k_ e_)); have n2_ := Aside0.mk (Kd.R_mono (ok' := fun k_ => some k_ ≠ (.slice Ao24 t205.length co24 : Value).ownBlock ∧ some k_ ≠ (.slice Ao30 t212.length co30 : Value).ownBlock ∧ some k_ ≠ (.slice Ao67 t226.length co67 : Value).ownBlock) (Kd.R_keptB (HO_225000.out) hkp (fun k_ hk_ hs_ => (hk_.1.2) hs_)) (fun k_ hk_ => ⟨hk_.1.1.1, hk_.1.1.2, hk_.1.2⟩)); have n3_ := Aside0.mk (blk_kept (by (with_reducible repeat (first | refine blk_drewN ?_ _ | refine blk_drew ?_ | refine blk_alloc ?_ _)); exact BK198.out) hkp (fun hs_ => (fun e_ => (Kd.R_ne HO_218000.out BK198.out (by decide)) e_) hs_)); have n4_ := Aside0.mk (blk_kept (by (with_reducible repeat (first | refine blk_drewN ?_ _ | refine blk_drew ?_ | refine blk_alloc ?_ _)); exact BK211.out) hkp (fun hs_ => (fun e_ => (Kd.R_ne HO_218000.out BK211.out (by decide)) e_) hs_)); have n5_ := Aside0.mk (blk_kept (by (with_reducible repeat (first | refine blk_drewN ?_ _ | refine blk_drew ?_ | refine blk_alloc ?_ _)); exact BK217.out) hkp (fun hs_ => (fun e_ => (Kd.R_ne HO_218000.out BK217.out (by decide)) e_) hs_)); have n6_ := Aside0.mk (blk_kept (by (with_reducible repeat (first | refine blk_drewN ?_ _ | refine blk_drew ?_ | refine blk_alloc ?_ _)); exact BK224.out) hkp (fun hs_ => (fun e_ => (Kd.R_ne HO_218000.out BK224.out (by decide)) e_) hs_)); have n7_ := Aside0.mk (Kd.R_mono (ok' := fun k_ => some k_ ≠ (.slice Ao24 t205.length co24 : Value).ownBlock ∧ some k_ ≠ (.slice Ao30 t212.length co30 : Value).ownBlock ∧ some k_ ≠ (.slice Ao36 t218.length co36 : Value).ownBlock) (Kd.R_keptB (HO228.out) hkp (fun k_ hk_ hs_ => (hk_.1.2) hs_)) (fun k_ hk_ => ⟨hk_.1.1.1.2, hk_.1.1.2, hk_.1.2⟩)); have n8_ := Aside0.mk (hb); clear HO_212000; clear HO_218000; clear HO_225000; clear BK198; clear BK211; clear BK217; clear BK224; clear HO228; clear HB; have HO_212000 := n0_; have HO_218000 := n1_; have HO_225000 := n2_; have BK198 := n3_; have BK211 := n4_; have BK217 := n5_; have BK224 := n6_; have HO228 := n7_; have HB := n8_; clear n0_ n1_ n2_ n3_ n4_ n5_ n6_ n7_ n8_; (try clear hb); (try clear hkp); (try clear hy0)))
              (try simp only [Act.put, List.setIfInBounds_toArray, List.set_cons_zero, List.set_cons_succ])
              go_cut [72] (fun v72 wc => ∃ (kq : Nat) (x72_63 : Bool), v72 = .bool x72_63 ∧ Aside0 (laws_FnExactUpdateStripe.j1 kq a1 a2 t210 x72_63 l0_0 a0_1 a0_2 t205 t208 t209 t218 t221 t222 = some r) ∧ Aside0 (kq ≤ kj14) ∧ Aside0 (Kd.R Kd.string 9 wc w.heap.size (fun k_ => some k_ ≠ ((.slice Ao30 t212.length co30) : Value).ownBlock ∧ some k_ ≠ ((.slice Ao36 t218.length co36) : Value).ownBlock) (.slice Ao24 t205.length co24) t205) ∧ Aside0 (Kd.R Kd.string 9 wc w.heap.size (fun k_ => some k_ ≠ ((.slice Ao24 t205.length co24) : Value).ownBlock ∧ some k_ ≠ ((.slice Ao36 t218.length co36) : Value).ownBlock) (.slice Ao30 t212.length co30) t233) ∧ Aside0 (Kd.R Kd.string 9 wc w.heap.size (fun k_ => some k_ ≠ ((.slice Ao24 t205.length co24) : Value).ownBlock ∧ some k_ ≠ ((.slice Ao30 t212.length co30) : Value).ownBlock) (.slice Ao36 t218.length co36) t218) ∧ Aside0 (wc.heap[gb198]? = some (.cells #[(.slice A0_0 l0_0.length c0_0), .string a0_1, .string a0_2] 24 (0, 0))) ∧ Aside0 (wc.heap[gb211]? = some (.cells #[(.slice Ao24 t205.length co24), .string t208, .string t209] 27 (0, 0))) ∧ Aside0 (wc.heap[gb217]? = some (.cells #[(.slice Ao30 t212.length co30), .string t215, .string t216] 27 (0, 0))) ∧ Aside0 (wc.heap[gb224]? = some (.cells #[(.slice Ao36 t218.length co36), .string t221, .string t222] 27 (0, 0))) ∧ Aside0 (Below w.heap.size w wc))
              case first =>
                have H := HC64.out
                clear HC64
                by_cases c74 : t232 < 0
                · rw [if_pos c74] at H
                  have c74b0 : decide (t232 < 0) = true := decide_eq_true c74
                  clear c74
                  (first | rw [c74b0] | (simp only [i64_w, i32_w]; rw [c74b0]) | skip)
                  have H' := Aside0.mk H
                  clear H
                  go_wp2
                  go_meet
                  case rel => exact ⟨_, (true), (by first | rfl | (simp; done) | (simp [*]; done)), H', ⟨by have := HJ14.out; first | omega | exact Nat.le_refl _⟩, ⟨by (with_reducible repeat (first | apply Kd.R_alloc | apply Kd.R_drewN | apply Kd.R_drew)); exact Kd.R_mono HO_212000.out (fun _ hk => ⟨hk.1, hk.2.1⟩)⟩, ⟨by (with_reducible repeat (first | apply Kd.R_alloc | apply Kd.R_drewN | apply Kd.R_drew)); exact Kd.R_mono HO_218000.out (fun _ hk => ⟨hk.1.1, hk.1.2⟩)⟩, ⟨by (with_reducible repeat (first | apply Kd.R_alloc | apply Kd.R_drewN | apply Kd.R_drew)); exact Kd.R_mono HO_225000.out (fun _ hk => ⟨hk.1, hk.2.1⟩)⟩, ⟨by (with_reducible repeat (first | refine blk_drewN ?_ _ | refine blk_drew ?_ | refine blk_alloc ?_ _)); exact BK198.out⟩, ⟨by (with_reducible repeat (first | refine blk_drewN ?_ _ | refine blk_drew ?_ | refine blk_alloc ?_ _)); exact BK211.out⟩, ⟨by (with_reducible repeat (first | refine blk_drewN ?_ _ | refine blk_drew ?_ | refine blk_alloc ?_ _)); exact BK217.out⟩, ⟨by (with_reducible repeat (first | refine blk_drewN ?_ _ | refine blk_drew ?_ | refine blk_alloc ?_ _)); exact BK224.out⟩, ⟨by repeat (first | (with_reducible first | exact HB.out | apply below_alloc | apply pw_below_drewN | apply below_drew1 | refine below_set ?_ GE198.out | refine below_set ?_ GE211.out | refine below_set ?_ GE217.out | refine below_set ?_ GE224.out) | exact HB.out)⟩⟩
                · rw [if_neg c74] at H
                  have c74b0 : decide (t232 < 0) = false := decide_eq_false c74
                  clear c74
                  (first | rw [c74b0] | (simp only [i64_w, i32_w]; rw [c74b0]) | skip)
                  replace H := Option.bind_eq_some_iff.mp H
                  obtain ⟨t234, A750, H⟩ := H
                  replace H : (if t234 = true then (laws_FnExactUpdateStripe.j1 kj14 a1 a2 t210 (t223 != t210) l0_0 a0_1 a0_2 t205 t208 t209 t218 t221 t222) else (laws_FnExactUpdateStripe.j1 kj14 a1 a2 t210 true l0_0 a0_1 a0_2 t205 t208 t209 t218 t221 t222)) = some r := H
                  have A75 := Aside0.mk A750
                  clear A750
                  by_cases c76 : t234 = true
                  · subst c76
                    have H1 : (laws_FnExactUpdateStripe.j1 kj14 a1 a2 t210 (t223 != t210) l0_0 a0_1 a0_2 t205 t208 t209 t218 t221 t222) = some r := by rw [if_pos rfl] at H; exact H
                    clear H
                    have H := H1
                    clear H1
                    have H' := Aside0.mk H
                    clear H
                    have hnb77 := NB224_198.out
                    have hnc77 := NB198_224.out
                    have hnb78 := NB224_211.out
                    have hnc78 := NB211_224.out
                    have hnb79 := NB224_217.out
                    have hnc79 := NB217_224.out
                    have hcz80_0 : w73.cell? ⟨gb224, 0, none⟩ = some (.slice Ao36 t218.length co36) := (blk_cell BK224.out 0).trans rfl
                    have hcz80_1 : w73.cell? ⟨gb224, 1, none⟩ = some (.string t221) := (blk_cell BK224.out 1).trans rfl
                    have hcz80_2 : w73.cell? ⟨gb224, 2, none⟩ = some (.string t222) := (blk_cell BK224.out 2).trans rfl
                    have hfz80_0 := blk_frozen BK224.out 0
                    have hfz80_1 := blk_frozen BK224.out 1
                    have hfz80_2 := blk_frozen BK224.out 2
                    have hnb81 := NB211_198.out
                    have hnc81 := NB198_211.out
                    have hnb82 := NB211_217.out
                    have hnc82 := NB217_211.out
                    have hcz83_0 : w73.cell? ⟨gb211, 0, none⟩ = some (.slice Ao24 t205.length co24) := (blk_cell BK211.out 0).trans rfl
                    have hcz83_1 : w73.cell? ⟨gb211, 1, none⟩ = some (.string t208) := (blk_cell BK211.out 1).trans rfl
                    have hcz83_2 : w73.cell? ⟨gb211, 2, none⟩ = some (.string t209) := (blk_cell BK211.out 2).trans rfl
                    have hfz83_0 := blk_frozen BK211.out 0
                    have hfz83_1 := blk_frozen BK211.out 1
                    have hfz83_2 := blk_frozen BK211.out 2
                    go_wp2_with (first | (go_at_call 16; (with_reducible refine (laws_eqStripe.calls kj14 _ _ t218 t221 t222 _ _ t205 t208 t209 true _ ?side1 ?side2 ?side3 ?side4 A75.out).mono ?_); (case side1 => repeat (first | exact (Kd.R_reads' HO_225000.out).2.2 | (with_reducible refine Kd.C_alloc ?_ _) | (with_reducible refine Kd.C_drewN ?_ _) | (with_reducible refine Kd.C_drew ?_))); (case side2 => exact (Kd.R_reads' HO_225000.out).2.1); (case side3 => repeat (first | exact (Kd.R_reads' HO_212000.out).2.2 | (with_reducible refine Kd.C_alloc ?_ _) | (with_reducible refine Kd.C_drewN ?_ _) | (with_reducible refine Kd.C_drew ?_))); (case side4 => exact (Kd.R_reads' HO_212000.out).2.1); rintro e w84 ⟨rfl, hb⟩; have n0_ := Aside0.mk (Kd.R_below (by (with_reducible repeat (first | apply Kd.R_alloc | apply Kd.R_drewN | apply Kd.R_drew)); exact HO_212000.out) hb); have n1_ := Aside0.mk (Kd.R_below (by (with_reducible repeat (first | apply Kd.R_alloc | apply Kd.R_drewN | apply Kd.R_drew)); exact HO_218000.out) hb); have n2_ := Aside0.mk (Kd.R_below (by (with_reducible repeat (first | apply Kd.R_alloc | apply Kd.R_drewN | apply Kd.R_drew)); exact HO_225000.out) hb); have n3_ := Aside0.mk (Kd.R_below (by (with_reducible repeat (first | apply Kd.R_alloc | apply Kd.R_drewN | apply Kd.R_drew)); exact HO228.out) hb); have n4_ := Aside0.mk (blk_below (g := gb198) (o := .cells #[.slice A0_0 l0_0.length c0_0, .string a0_1, .string a0_2] 24 (0, 0)) (by (with_reducible repeat (first | refine blk_drewN ?_ _ | refine blk_drew ?_ | refine blk_alloc ?_ _)); exact BK198.out) hb); have n5_ := Aside0.mk (blk_below (g := gb211) (o := .cells #[.slice Ao24 t205.length co24, .string t208, .string t209] 27 (0, 0)) (by (with_reducible repeat (first | refine blk_drewN ?_ _ | refine blk_drew ?_ | refine blk_alloc ?_ _)); exact BK211.out) hb); have n6_ := Aside0.mk (blk_below (g := gb217) (o := .cells #[.slice Ao30 t212.length co30, .string t215, .string t216] 27 (0, 0)) (by (with_reducible repeat (first | refine blk_drewN ?_ _ | refine blk_drew ?_ | refine blk_alloc ?_ _)); exact BK217.out) hb); have n7_ := Aside0.mk (blk_below (g := gb224) (o := .cells #[.slice Ao36 t218.length co36, .string t221, .string t222] 27 (0, 0)) (by (with_reducible repeat (first | refine blk_drewN ?_ _ | refine blk_drew ?_ | refine blk_alloc ?_ _)); exact BK224.out) hb); have n8_ := Aside0.mk (below_step (by repeat (first | (with_reducible first | exact HB.out | apply below_alloc | apply pw_below_drewN | apply below_drew1 | refine below_set ?_ GE198.out | refine below_set ?_ GE211.out | refine below_set ?_ GE217.out | refine below_set ?_ GE224.out) | exact HB.out)) hb); clear HO_212000; clear HO_218000; clear HO_225000; clear HO228; clear BK198; clear BK211; clear BK217; clear BK224; clear HB; have HO_212000 := n0_; have HO_218000 := n1_; have HO_225000 := n2_; have HO228 := n3_; have BK198 := n4_; have BK211 := n5_; have BK217 := n6_; have BK224 := n7_; have HB := n8_; clear n0_ n1_ n2_ n3_ n4_ n5_ n6_ n7_ n8_; (try clear hb); (try clear hb2); (try clear hk); (try clear hi)))
                    go_meet
                    case rel => exact ⟨_, ((t223 != t210)), (by first | rfl | (simp; done) | (simp [*]; done)), H', ⟨by have := HJ14.out; first | omega | exact Nat.le_refl _⟩, ⟨by (with_reducible repeat (first | apply Kd.R_alloc | apply Kd.R_drewN | apply Kd.R_drew)); exact Kd.R_mono HO_212000.out (fun _ hk => ⟨hk.1, hk.2.1⟩)⟩, ⟨by (with_reducible repeat (first | apply Kd.R_alloc | apply Kd.R_drewN | apply Kd.R_drew)); exact Kd.R_mono HO_218000.out (fun _ hk => ⟨hk.1.1, hk.1.2⟩)⟩, ⟨by (with_reducible repeat (first | apply Kd.R_alloc | apply Kd.R_drewN | apply Kd.R_drew)); exact Kd.R_mono HO_225000.out (fun _ hk => ⟨hk.1, hk.2.1⟩)⟩, ⟨by (with_reducible repeat (first | refine blk_drewN ?_ _ | refine blk_drew ?_ | refine blk_alloc ?_ _)); exact BK198.out⟩, ⟨by (with_reducible repeat (first | refine blk_drewN ?_ _ | refine blk_drew ?_ | refine blk_alloc ?_ _)); exact BK211.out⟩, ⟨by (with_reducible repeat (first | refine blk_drewN ?_ _ | refine blk_drew ?_ | refine blk_alloc ?_ _)); exact BK217.out⟩, ⟨by (with_reducible repeat (first | refine blk_drewN ?_ _ | refine blk_drew ?_ | refine blk_alloc ?_ _)); exact BK224.out⟩, ⟨by repeat (first | (with_reducible first | exact HB.out | apply below_alloc | apply pw_below_drewN | apply below_drew1 | refine below_set ?_ GE198.out | refine below_set ?_ GE211.out | refine below_set ?_ GE217.out | refine below_set ?_ GE224.out) | exact HB.out)⟩⟩
                  · replace c76 := Bool.eq_false_iff.mpr c76
                    subst c76
                    have H1 : (laws_FnExactUpdateStripe.j1 kj14 a1 a2 t210 true l0_0 a0_1 a0_2 t205 t208 t209 t218 t221 t222) = some r := by rw [if_neg (show ¬ (false = true) by decide)] at H; exact H
                    clear H
                    have H := H1
                    clear H1
                    have H' := Aside0.mk H
                    clear H
                    have hnb85 := NB224_198.out
                    have hnc85 := NB198_224.out
                    have hnb86 := NB224_211.out
                    have hnc86 := NB211_224.out
                    have hnb87 := NB224_217.out
                    have hnc87 := NB217_224.out
                    have hcz88_0 : w73.cell? ⟨gb224, 0, none⟩ = some (.slice Ao36 t218.length co36) := (blk_cell BK224.out 0).trans rfl
                    have hcz88_1 : w73.cell? ⟨gb224, 1, none⟩ = some (.string t221) := (blk_cell BK224.out 1).trans rfl
                    have hcz88_2 : w73.cell? ⟨gb224, 2, none⟩ = some (.string t222) := (blk_cell BK224.out 2).trans rfl
                    have hfz88_0 := blk_frozen BK224.out 0
                    have hfz88_1 := blk_frozen BK224.out 1
                    have hfz88_2 := blk_frozen BK224.out 2
                    have hnb89 := NB211_198.out
                    have hnc89 := NB198_211.out
                    have hnb90 := NB211_217.out
                    have hnc90 := NB217_211.out
                    have hcz91_0 : w73.cell? ⟨gb211, 0, none⟩ = some (.slice Ao24 t205.length co24) := (blk_cell BK211.out 0).trans rfl
                    have hcz91_1 : w73.cell? ⟨gb211, 1, none⟩ = some (.string t208) := (blk_cell BK211.out 1).trans rfl
                    have hcz91_2 : w73.cell? ⟨gb211, 2, none⟩ = some (.string t209) := (blk_cell BK211.out 2).trans rfl
                    have hfz91_0 := blk_frozen BK211.out 0
                    have hfz91_1 := blk_frozen BK211.out 1
                    have hfz91_2 := blk_frozen BK211.out 2
                    go_wp2_with (first | (go_at_call 16; (with_reducible refine (laws_eqStripe.calls kj14 _ _ t218 t221 t222 _ _ t205 t208 t209 false _ ?side1 ?side2 ?side3 ?side4 A75.out).mono ?_); (case side1 => repeat (first | exact (Kd.R_reads' HO_225000.out).2.2 | (with_reducible refine Kd.C_alloc ?_ _) | (with_reducible refine Kd.C_drewN ?_ _) | (with_reducible refine Kd.C_drew ?_))); (case side2 => exact (Kd.R_reads' HO_225000.out).2.1); (case side3 => repeat (first | exact (Kd.R_reads' HO_212000.out).2.2 | (with_reducible refine Kd.C_alloc ?_ _) | (with_reducible refine Kd.C_drewN ?_ _) | (with_reducible refine Kd.C_drew ?_))); (case side4 => exact (Kd.R_reads' HO_212000.out).2.1); rintro e w92 ⟨rfl, hb⟩; have n0_ := Aside0.mk (Kd.R_below (by (with_reducible repeat (first | apply Kd.R_alloc | apply Kd.R_drewN | apply Kd.R_drew)); exact HO_212000.out) hb); have n1_ := Aside0.mk (Kd.R_below (by (with_reducible repeat (first | apply Kd.R_alloc | apply Kd.R_drewN | apply Kd.R_drew)); exact HO_218000.out) hb); have n2_ := Aside0.mk (Kd.R_below (by (with_reducible repeat (first | apply Kd.R_alloc | apply Kd.R_drewN | apply Kd.R_drew)); exact HO_225000.out) hb); have n3_ := Aside0.mk (Kd.R_below (by (with_reducible repeat (first | apply Kd.R_alloc | apply Kd.R_drewN | apply Kd.R_drew)); exact HO228.out) hb); have n4_ := Aside0.mk (blk_below (g := gb198) (o := .cells #[.slice A0_0 l0_0.length c0_0, .string a0_1, .string a0_2] 24 (0, 0)) (by (with_reducible repeat (first | refine blk_drewN ?_ _ | refine blk_drew ?_ | refine blk_alloc ?_ _)); exact BK198.out) hb); have n5_ := Aside0.mk (blk_below (g := gb211) (o := .cells #[.slice Ao24 t205.length co24, .string t208, .string t209] 27 (0, 0)) (by (with_reducible repeat (first | refine blk_drewN ?_ _ | refine blk_drew ?_ | refine blk_alloc ?_ _)); exact BK211.out) hb); have n6_ := Aside0.mk (blk_below (g := gb217) (o := .cells #[.slice Ao30 t212.length co30, .string t215, .string t216] 27 (0, 0)) (by (with_reducible repeat (first | refine blk_drewN ?_ _ | refine blk_drew ?_ | refine blk_alloc ?_ _)); exact BK217.out) hb); have n7_ := Aside0.mk (blk_below (g := gb224) (o := .cells #[.slice Ao36 t218.length co36, .string t221, .string t222] 27 (0, 0)) (by (with_reducible repeat (first | refine blk_drewN ?_ _ | refine blk_drew ?_ | refine blk_alloc ?_ _)); exact BK224.out) hb); have n8_ := Aside0.mk (below_step (by repeat (first | (with_reducible first | exact HB.out | apply below_alloc | apply pw_below_drewN | apply below_drew1 | refine below_set ?_ GE198.out | refine below_set ?_ GE211.out | refine below_set ?_ GE217.out | refine below_set ?_ GE224.out) | exact HB.out)) hb); clear HO_212000; clear HO_218000; clear HO_225000; clear HO228; clear BK198; clear BK211; clear BK217; clear BK224; clear HB; have HO_212000 := n0_; have HO_218000 := n1_; have HO_225000 := n2_; have HO228 := n3_; have BK198 := n4_; have BK211 := n5_; have BK217 := n6_; have BK224 := n7_; have HB := n8_; clear n0_ n1_ n2_ n3_ n4_ n5_ n6_ n7_ n8_; (try clear hb); (try clear hb2); (try clear hk); (try clear hi)))
                    go_meet
                    case rel => exact ⟨_, (true), (by first | rfl | (simp; done) | (simp [*]; done)), H', ⟨by have := HJ14.out; first | omega | exact Nat.le_refl _⟩, ⟨by (with_reducible repeat (first | apply Kd.R_alloc | apply Kd.R_drewN | apply Kd.R_drew)); exact Kd.R_mono HO_212000.out (fun _ hk => ⟨hk.1, hk.2.1⟩)⟩, ⟨by (with_reducible repeat (first | apply Kd.R_alloc | apply Kd.R_drewN | apply Kd.R_drew)); exact Kd.R_mono HO_218000.out (fun _ hk => ⟨hk.1.1, hk.1.2⟩)⟩, ⟨by (with_reducible repeat (first | apply Kd.R_alloc | apply Kd.R_drewN | apply Kd.R_drew)); exact Kd.R_mono HO_225000.out (fun _ hk => ⟨hk.1, hk.2.1⟩)⟩, ⟨by (with_reducible repeat (first | refine blk_drewN ?_ _ | refine blk_drew ?_ | refine blk_alloc ?_ _)); exact BK198.out⟩, ⟨by (with_reducible repeat (first | refine blk_drewN ?_ _ | refine blk_drew ?_ | refine blk_alloc ?_ _)); exact BK211.out⟩, ⟨by (with_reducible repeat (first | refine blk_drewN ?_ _ | refine blk_drew ?_ | refine blk_alloc ?_ _)); exact BK217.out⟩, ⟨by (with_reducible repeat (first | refine blk_drewN ?_ _ | refine blk_drew ?_ | refine blk_alloc ?_ _)); exact BK224.out⟩, ⟨by repeat (first | (with_reducible first | exact HB.out | apply below_alloc | apply pw_below_drewN | apply below_drew1 | refine below_set ?_ GE198.out | refine below_set ?_ GE211.out | refine below_set ?_ GE217.out | refine below_set ?_ GE224.out) | exact HB.out)⟩⟩
              case rest =>
                clear HC64
                try clear c1
                try clear c2
                try clear p2
                try clear c3
                try clear c4
                try clear c4b0
                try clear c4b1
                try clear c5
                try clear c6
                try clear c7
                try clear c7b0
                try clear c8
                try clear c9
                try clear c12
                try clear c14
                try clear c16
                try clear c25
                try clear c27
                try clear c28
                try clear c31
                try clear c32
                try clear c37
                try clear c38
                try clear c39
                try clear c42
                try clear c43
                try clear c44
                try clear c45
                try clear c47
                try clear c48
                try clear c51
                try clear c52
                try clear c53
                try clear c55
                try clear c56
                try clear c59
                try clear c62
                try clear c69
                try clear c70
                try clear c71
                try clear c74
                try clear c74b0
                try clear c76
                try clear c77
                try clear c78
                try clear c79
                try clear c81
                try clear c82
                try clear c85
                try clear c86
                try clear c87
                try clear c89
                try clear c90
                try clear hcz17_0
                try clear hcz17_1
                try clear hcz17_2
                try clear hcz19_0
                try clear hcz19_1
                try clear hcz19_2
                try clear hcz26_0
                try clear hcz26_1
                try clear hcz26_2
                try clear hcz27_0
                try clear hcz27_1
                try clear hcz27_2
                try clear hcz33_0
                try clear hcz33_1
                try clear hcz33_2
                try clear hcz40_0
                try clear hcz40_1
                try clear hcz40_2
                try clear hcz46_0
                try clear hcz46_1
                try clear hcz46_2
                try clear hcz49_0
                try clear hcz49_1
                try clear hcz49_2
                try clear hcz54_0
                try clear hcz54_1
                try clear hcz54_2
                try clear hcz57_0
                try clear hcz57_1
                try clear hcz57_2
                try clear hcz72_0
                try clear hcz72_1
                try clear hcz72_2
                try clear hcz80_0
                try clear hcz80_1
                try clear hcz80_2
                try clear hcz83_0
                try clear hcz83_1
                try clear hcz83_2
                try clear hcz88_0
                try clear hcz88_1
                try clear hcz88_2
                try clear hcz91_0
                try clear hcz91_1
                try clear hcz91_2
                try clear hcz9_0
                try clear hcz9_1
                try clear hcz9_2
                try clear hfz17_0
                try clear hfz17_1
                try clear hfz17_2
                try clear hfz19_0
                try clear hfz19_1
                try clear hfz19_2
                try clear hfz26_0
                try clear hfz26_1
                try clear hfz26_2
                try clear hfz27_0
                try clear hfz27_1
                try clear hfz27_2
                try clear hfz33_0
                try clear hfz33_1
                try clear hfz33_2
                try clear hfz40_0
                try clear hfz40_1
                try clear hfz40_2
                try clear hfz46_0
                try clear hfz46_1
                try clear hfz46_2
                try clear hfz49_0
                try clear hfz49_1
                try clear hfz49_2
                try clear hfz54_0
                try clear hfz54_1
                try clear hfz54_2
                try clear hfz57_0
                try clear hfz57_1
                try clear hfz57_2
                try clear hfz72_0
                try clear hfz72_1
                try clear hfz72_2
                try clear hfz80_0
                try clear hfz80_1
                try clear hfz80_2
                try clear hfz83_0
                try clear hfz83_1
                try clear hfz83_2
                try clear hfz88_0
                try clear hfz88_1
                try clear hfz88_2
                try clear hfz91_0
                try clear hfz91_1
                try clear hfz91_2
                try clear hfz9_0
                try clear hfz9_1
                try clear hfz9_2
                try clear p2
                obtain ⟨kq, x72_63, rfl, HA, HJ63, HO_212000, HO_218000, HO_225000, BK198, BK211, BK217, BK224, HB⟩ := hcut
                have hl218000_63 := (Kd.R_reads' HO_218000.out).1
                rw [hl218000_63] at HO_218000
                (try simp only [hl218000_63])
                (try simp only [hl218000_63] at BK198)
                (try simp only [hl218000_63] at BK211)
                (try simp only [hl218000_63] at BK217)
                (try simp only [hl218000_63] at BK224)
                (try simp only [hl218000_63] at HO_212000)
                (try simp only [hl218000_63] at HO_225000)
                cases kq with
                | zero => exact absurd HA.out (fun h_ => by change none = some _ at h_; cases h_)
                | succ kj63 =>
                  have H := HA.out
                  clear HA
                  simp only [laws_FnExactUpdateStripe.j1] at H
                  by_cases c93 : x72_63 = true
                  · subst c93
                    have H1 : (some false) = some r := by rw [if_pos rfl] at H; exact H
                    clear H
                    have H := H1
                    clear H1
                    obtain rfl := Option.some.inj H
                    go_wp2
                    go_ret
                    exact ⟨by first | rfl | (simp [errW_none, errW_some] <;> rfl) | (simp [*, errW_none, errW_some] <;> rfl), by repeat (first | (with_reducible first | exact HB.out | apply below_alloc | apply pw_below_drewN | apply below_drew1 | refine below_set ?_ GE198.out | refine below_set ?_ GE211.out | refine below_set ?_ GE217.out | refine below_set ?_ GE224.out) | exact HB.out)⟩
                  · replace c93 := Bool.eq_false_iff.mpr c93
                    subst c93
                    have H1 : ((laws_markStripe.f kj63 t218 t221 t222 1).bind fun bt235 => ((laws_heldStripe.f kj63 bt235.2 t221 t222 1).bind fun t237 => (if t237 < 0 then (some false) else (if t237 = bt235.1 then ((laws_toStripe.f kj63 l0_0 a0_1 a0_2).bind fun bt238 => ((impl_UpdateStripe.f kj63 bt238.1 bt238.2.1 bt238.2.2 a1 a2).bind fun bt243 => ((laws_eqStripe.f kj63 bt243.1 bt243.2.1 bt243.2.2.1 t205 t208 t209).bind fun t250 => (if t250 = true then (laws_FnExactUpdateStripe.j2 kj63 bt235.1 (bt243.2.2.2 != t210) bt235.2 t221 t222) else (laws_FnExactUpdateStripe.j2 kj63 bt235.1 true bt235.2 t221 t222))))) else (some false))))) = some r := by rw [if_neg (show ¬ (false = true) by decide)] at H; exact H
                    clear H
                    have H := H1
                    clear H1
                    replace H := Option.bind_eq_some_iff.mp H
                    obtain ⟨⟨t235, t236⟩, A940, H⟩ := H
                    replace H : ((laws_heldStripe.f kj63 t236 t221 t222 1).bind fun t237 => (if t237 < 0 then (some false) else (if t237 = t235 then ((laws_toStripe.f kj63 l0_0 a0_1 a0_2).bind fun bt238 => ((impl_UpdateStripe.f kj63 bt238.1 bt238.2.1 bt238.2.2 a1 a2).bind fun bt243 => ((laws_eqStripe.f kj63 bt243.1 bt243.2.1 bt243.2.2.1 t205 t208 t209).bind fun t250 => (if t250 = true then (laws_FnExactUpdateStripe.j2 kj63 t235 (bt243.2.2.2 != t210) t236 t221 t222) else (laws_FnExactUpdateStripe.j2 kj63 t235 true t236 t221 t222))))) else (some false)))) = some r := H
                    have A94 := Aside0.mk A940
                    clear A940
                    replace H := Option.bind_eq_some_iff.mp H
                    obtain ⟨t237, A950, H⟩ := H
                    replace H : (if t237 < 0 then (some false) else (if t237 = t235 then ((laws_toStripe.f kj63 l0_0 a0_1 a0_2).bind fun bt238 => ((impl_UpdateStripe.f kj63 bt238.1 bt238.2.1 bt238.2.2 a1 a2).bind fun bt243 => ((laws_eqStripe.f kj63 bt243.1 bt243.2.1 bt243.2.2.1 t205 t208 t209).bind fun t250 => (if t250 = true then (laws_FnExactUpdateStripe.j2 kj63 t235 (bt243.2.2.2 != t210) t236 t221 t222) else (laws_FnExactUpdateStripe.j2 kj63 t235 true t236 t221 t222))))) else (some false))) = some r := H
                    have A95 := Aside0.mk A950
                    clear A950
                    by_cases c96 : t237 < 0
                    · rw [if_pos c96] at H
                      have c96b0 : decide (t237 < 0) = true := decide_eq_true c96
                      clear c96
                      obtain rfl := Option.some.inj H
                      have hnb97 := NB224_198.out
                      have hnc97 := NB198_224.out
                      have hnb98 := NB224_211.out
                      have hnc98 := NB211_224.out
                      have hnb99 := NB224_217.out
                      have hnc99 := NB217_224.out
                      have hcz100_0 : wc.cell? ⟨gb224, 0, none⟩ = some (.slice Ao36 t218.length co36) := (blk_cell BK224.out 0).trans rfl
                      have hcz100_1 : wc.cell? ⟨gb224, 1, none⟩ = some (.string t221) := (blk_cell BK224.out 1).trans rfl
                      have hcz100_2 : wc.cell? ⟨gb224, 2, none⟩ = some (.string t222) := (blk_cell BK224.out 2).trans rfl
                      have hfz100_0 := blk_frozen BK224.out 0
                      have hfz100_1 := blk_frozen BK224.out 1
                      have hfz100_2 := blk_frozen BK224.out 2
                      go_wp2_with (first | ((with_reducible refine gate_callee (f := 25) rfl ?_); refine goesL_ (some 75) rfl rfl Try.func25 (by kernel_rfl) rfl #[.agg #[.slice Ao36 t218.length co36, .string t221, .string t222], .int .i64 1] rfl (by (try simp only [List.map_toArray, List.map_cons, List.map_nil]); first | done | rfl | (simp only [List.length_drop, List.length_take]; rfl)) ?_; (with_reducible refine (laws_markStripe.calls kj63 (fun k_ => some k_ = (.slice Ao36 t218.length co36 : Value).ownBlock) (.slice Ao36 t218.length co36) t218 t221 t222 1 t235 t236 w _ ?side1 ?side2 A94.out).mono ?_); (case side1 => repeat (first | (with_reducible first | exact HB.out | apply below_alloc | apply pw_below_drewN | apply below_drew1 | refine below_set ?_ GE198.out | refine below_set ?_ GE211.out | refine below_set ?_ GE217.out | refine below_set ?_ GE224.out) | exact HB.out)); (case side2 => exact Kd.R_tight rfl HO_225000.out); rintro e w101 ⟨rfl, hy0, hb, hkp⟩; refine ⟨_, rfl, ?_⟩; have n0_ := Aside0.mk (Kd.R_mono (ok' := fun k_ => some k_ ≠ (.slice Ao30 t233.length co30 : Value).ownBlock ∧ some k_ ≠ (.slice Ao36 t218.length co36 : Value).ownBlock) (Kd.R_keptB (HO_212000.out) hkp (fun k_ hk_ hs_ => (hk_.2) hs_)) (fun k_ hk_ => ⟨hk_.1.1, hk_.1.2⟩)); have n1_ := Aside0.mk (Kd.R_mono (ok' := fun k_ => some k_ ≠ (.slice Ao24 t205.length co24 : Value).ownBlock ∧ some k_ ≠ (.slice Ao36 t218.length co36 : Value).ownBlock) (Kd.R_keptB (HO_218000.out) hkp (fun k_ hk_ hs_ => (hk_.2) hs_)) (fun k_ hk_ => ⟨hk_.1.1, hk_.1.2⟩)); have n2_ := Aside0.mk (Kd.R_reok rfl hy0 (fun k_ e_ => HO_225000.out.1 k_ e_)); have n3_ := Aside0.mk (blk_kept (by (with_reducible repeat (first | refine blk_drewN ?_ _ | refine blk_drew ?_ | refine blk_alloc ?_ _)); exact BK198.out) hkp (fun hs_ => (fun e_ => (Kd.R_ne HO_225000.out BK198.out (by decide)) e_) hs_)); have n4_ := Aside0.mk (blk_kept (by (with_reducible repeat (first | refine blk_drewN ?_ _ | refine blk_drew ?_ | refine blk_alloc ?_ _)); exact BK211.out) hkp (fun hs_ => (fun e_ => (Kd.R_ne HO_225000.out BK211.out (by decide)) e_) hs_)); have n5_ := Aside0.mk (blk_kept (by (with_reducible repeat (first | refine blk_drewN ?_ _ | refine blk_drew ?_ | refine blk_alloc ?_ _)); exact BK217.out) hkp (fun hs_ => (fun e_ => (Kd.R_ne HO_225000.out BK217.out (by decide)) e_) hs_)); have n6_ := Aside0.mk (blk_kept (by (with_reducible repeat (first | refine blk_drewN ?_ _ | refine blk_drew ?_ | refine blk_alloc ?_ _)); exact BK224.out) hkp (fun hs_ => (fun e_ => (Kd.R_ne HO_225000.out BK224.out (by decide)) e_) hs_)); have n7_ := Aside0.mk (hb); clear HO_212000; clear HO_218000; clear HO_225000; clear BK198; clear BK211; clear BK217; clear BK224; clear HB; have HO_212000 := n0_; have HO_218000 := n1_; have HO_225000 := n2_; have BK198 := n3_; have BK211 := n4_; have BK217 := n5_; have BK224 := n6_; have HB := n7_; clear n0_ n1_ n2_ n3_ n4_ n5_ n6_ n7_; (try clear hb); (try clear hkp); (try clear hy0); have hcz102_0 : w101.cell? ⟨gb224, 0, none⟩ = some (.slice Ao36 t218.length co36) := (blk_cell BK224.out 0).trans rfl; have hcz102_1 : w101.cell? ⟨gb224, 1, none⟩ = some (.string t221) := (blk_cell BK224.out 1).trans rfl; have hcz102_2 : w101.cell? ⟨gb224, 2, none⟩ = some (.string t222) := (blk_cell BK224.out 2).trans rfl; have hfz102_0 := blk_frozen BK224.out 0; have hfz102_1 := blk_frozen BK224.out 1; have hfz102_2 := blk_frozen BK224.out 2) | ((with_reducible refine gate_callee (f := 26) rfl ?_); refine goesL_ (some 78) rfl rfl Try.func26 (by kernel_rfl) rfl #[.agg #[.slice Ao36 t236.length co36, .string t221, .string t222], .int .i64 1] rfl (by (try simp only [List.map_toArray, List.map_cons, List.map_nil]); first | done | (rw [show t236.length = t218.length from (Kd.R_reads' HO_225000.out).1.symm] <;> rfl) | rfl | (simp only [List.length_drop, List.length_take]; rfl)) ?_; (with_reducible refine (laws_heldStripe.calls kj63 _ _ t236 t221 t222 1 t237 _ ?side1 ?side2 A95.out).mono ?_); (case side1 => repeat (first | exact (Kd.R_reads' HO_225000.out).2.2 | (with_reducible refine Kd.C_alloc ?_ _) | (with_reducible refine Kd.C_drewN ?_ _) | (with_reducible refine Kd.C_drew ?_))); (case side2 => rw [show t236.length = t218.length from (Kd.R_reads' HO_225000.out).1.symm]; exact (Kd.R_reads' HO_225000.out).2.1); rintro e w103 ⟨rfl, hb⟩; refine ⟨_, rfl, ?_⟩; have n0_ := Aside0.mk (Kd.R_below (by (with_reducible repeat (first | apply Kd.R_alloc | apply Kd.R_drewN | apply Kd.R_drew)); exact HO_212000.out) hb); have n1_ := Aside0.mk (Kd.R_below (by (with_reducible repeat (first | apply Kd.R_alloc | apply Kd.R_drewN | apply Kd.R_drew)); exact HO_218000.out) hb); have n2_ := Aside0.mk (Kd.R_below (by (with_reducible repeat (first | apply Kd.R_alloc | apply Kd.R_drewN | apply Kd.R_drew)); exact HO_225000.out) hb); have n3_ := Aside0.mk (blk_below (g := gb198) (o := .cells #[.slice A0_0 l0_0.length c0_0, .string a0_1, .string a0_2] 24 (0, 0)) (by (with_reducible repeat (first | refine blk_drewN ?_ _ | refine blk_drew ?_ | refine blk_alloc ?_ _)); exact BK198.out) hb); have n4_ := Aside0.mk (blk_below (g := gb211) (o := .cells #[.slice Ao24 t205.length co24, .string t208, .string t209] 27 (0, 0)) (by (with_reducible repeat (first | refine blk_drewN ?_ _ | refine blk_drew ?_ | refine blk_alloc ?_ _)); exact BK211.out) hb); have n5_ := Aside0.mk (blk_below (g := gb217) (o := .cells #[.slice Ao30 t233.length co30, .string t215, .string t216] 27 (0, 0)) (by (with_reducible repeat (first | refine blk_drewN ?_ _ | refine blk_drew ?_ | refine blk_alloc ?_ _)); exact BK217.out) hb); have n6_ := Aside0.mk (blk_below (g := gb224) (o := .cells #[.slice Ao36 t218.length co36, .string t221, .string t222] 27 (0, 0)) (by (with_reducible repeat (first | refine blk_drewN ?_ _ | refine blk_drew ?_ | refine blk_alloc ?_ _)); exact BK224.out) hb); have n7_ := Aside0.mk (below_step (by repeat (first | (with_reducible first | exact HB.out | apply below_alloc | apply pw_below_drewN | apply below_drew1 | refine below_set ?_ GE198.out | refine below_set ?_ GE211.out | refine below_set ?_ GE217.out | refine below_set ?_ GE224.out) | exact HB.out)) hb); clear HO_212000; clear HO_218000; clear HO_225000; clear BK198; clear BK211; clear BK217; clear BK224; clear HB; have HO_212000 := n0_; have HO_218000 := n1_; have HO_225000 := n2_; have BK198 := n3_; have BK211 := n4_; have BK217 := n5_; have BK224 := n6_; have HB := n7_; clear n0_ n1_ n2_ n3_ n4_ n5_ n6_ n7_; (try clear hb); (try clear hb2); (try clear hk); (try clear hi)))
                      go_ret
                      exact ⟨by first | rfl | (simp [errW_none, errW_some] <;> rfl) | (simp [*, errW_none, errW_some] <;> rfl), by repeat (first | (with_reducible first | exact HB.out | apply below_alloc | apply pw_below_drewN | apply below_drew1 | refine below_set ?_ GE198.out | refine below_set ?_ GE211.out | refine below_set ?_ GE217.out | refine below_set ?_ GE224.out) | exact HB.out)⟩
                    · rw [if_neg c96] at H
                      have c96b0 : decide (t237 < 0) = false := decide_eq_false c96
                      clear c96
                      by_cases c104 : t237 = t235
                      · rw [if_pos c104] at H
                        have c104b0 : (t237 == t235) = true := beq_iff_eq.mpr c104
                        have c104b1 : (t237 != t235) = false := bne_eq_false_iff_eq.mpr c104
                        clear c104
                        replace H := Option.bind_eq_some_iff.mp H
                        obtain ⟨⟨t238, t241, t242⟩, A1050, H⟩ := H
                        replace H : ((impl_UpdateStripe.f kj63 t238 t241 t242 a1 a2).bind fun bt243 => ((laws_eqStripe.f kj63 bt243.1 bt243.2.1 bt243.2.2.1 t205 t208 t209).bind fun t250 => (if t250 = true then (laws_FnExactUpdateStripe.j2 kj63 t235 (bt243.2.2.2 != t210) t236 t221 t222) else (laws_FnExactUpdateStripe.j2 kj63 t235 true t236 t221 t222)))) = some r := H
                        have A105 := Aside0.mk A1050
                        clear A1050
                        replace H := Option.bind_eq_some_iff.mp H
                        obtain ⟨⟨t243, t246, t247, t248⟩, A1060, H⟩ := H
                        replace H : ((laws_eqStripe.f kj63 t243 t246 t247 t205 t208 t209).bind fun t250 => (if t250 = true then (laws_FnExactUpdateStripe.j2 kj63 t235 (t248 != t210) t236 t221 t222) else (laws_FnExactUpdateStripe.j2 kj63 t235 true t236 t221 t222))) = some r := H
                        have A106 := Aside0.mk A1060
                        clear A1060
                        have HC107 := Aside0.mk H
                        clear H
                        have hnb108 := NB224_198.out
                        have hnc108 := NB198_224.out
                        have hnb109 := NB224_211.out
                        have hnc109 := NB211_224.out
                        have hnb110 := NB224_217.out
                        have hnc110 := NB217_224.out
                        have hcz111_0 : wc.cell? ⟨gb224, 0, none⟩ = some (.slice Ao36 t218.length co36) := (blk_cell BK224.out 0).trans rfl
                        have hcz111_1 : wc.cell? ⟨gb224, 1, none⟩ = some (.string t221) := (blk_cell BK224.out 1).trans rfl
                        have hcz111_2 : wc.cell? ⟨gb224, 2, none⟩ = some (.string t222) := (blk_cell BK224.out 2).trans rfl
                        have hfz111_0 := blk_frozen BK224.out 0
                        have hfz111_1 := blk_frozen BK224.out 1
                        have hfz111_2 := blk_frozen BK224.out 2
                        go_upto_region 27 with (first | ((with_reducible refine gate_callee (f := 25) rfl ?_); refine goesL_ (some 75) rfl rfl Try.func25 (by kernel_rfl) rfl #[.agg #[.slice Ao36 t218.length co36, .string t221, .string t222], .int .i64 1] rfl (by (try simp only [List.map_toArray, List.map_cons, List.map_nil]); first | done | rfl | (simp only [List.length_drop, List.length_take]; rfl)) ?_; (with_reducible refine (laws_markStripe.calls kj63 (fun k_ => some k_ = (.slice Ao36 t218.length co36 : Value).ownBlock) (.slice Ao36 t218.length co36) t218 t221 t222 1 t235 t236 w _ ?side1 ?side2 A94.out).mono ?_); (case side1 => repeat (first | (with_reducible first | exact HB.out | apply below_alloc | apply pw_below_drewN | apply below_drew1 | refine below_set ?_ GE198.out | refine below_set ?_ GE211.out | refine below_set ?_ GE217.out | refine below_set ?_ GE224.out) | exact HB.out)); (case side2 => exact Kd.R_tight rfl HO_225000.out); rintro e w112 ⟨rfl, hy0, hb, hkp⟩; refine ⟨_, rfl, ?_⟩; have n0_ := Aside0.mk (Kd.R_mono (ok' := fun k_ => some k_ ≠ (.slice Ao30 t233.length co30 : Value).ownBlock ∧ some k_ ≠ (.slice Ao36 t218.length co36 : Value).ownBlock) (Kd.R_keptB (HO_212000.out) hkp (fun k_ hk_ hs_ => (hk_.2) hs_)) (fun k_ hk_ => ⟨hk_.1.1, hk_.1.2⟩)); have n1_ := Aside0.mk (Kd.R_mono (ok' := fun k_ => some k_ ≠ (.slice Ao24 t205.length co24 : Value).ownBlock ∧ some k_ ≠ (.slice Ao36 t218.length co36 : Value).ownBlock) (Kd.R_keptB (HO_218000.out) hkp (fun k_ hk_ hs_ => (hk_.2) hs_)) (fun k_ hk_ => ⟨hk_.1.1, hk_.1.2⟩)); have n2_ := Aside0.mk (Kd.R_reok rfl hy0 (fun k_ e_ => HO_225000.out.1 k_ e_)); have n3_ := Aside0.mk (blk_kept (by (with_reducible repeat (first | refine blk_drewN ?_ _ | refine blk_drew ?_ | refine blk_alloc ?_ _)); exact BK198.out) hkp (fun hs_ => (fun e_ => (Kd.R_ne HO_225000.out BK198.out (by decide)) e_) hs_)); have n4_ := Aside0.mk (blk_kept (by (with_reducible repeat (first | refine blk_drewN ?_ _ | refine blk_drew ?_ | refine blk_alloc ?_ _)); exact BK211.out) hkp (fun hs_ => (fun e_ => (Kd.R_ne HO_225000.out BK211.out (by decide)) e_) hs_)); have n5_ := Aside0.mk (blk_kept (by (with_reducible repeat (first | refine blk_drewN ?_ _ | refine blk_drew ?_ | refine blk_alloc ?_ _)); exact BK217.out) hkp (fun hs_ => (fun e_ => (Kd.R_ne HO_225000.out BK217.out (by decide)) e_) hs_)); have n6_ := Aside0.mk (blk_kept (by (with_reducible repeat (first | refine blk_drewN ?_ _ | refine blk_drew ?_ | refine blk_alloc ?_ _)); exact BK224.out) hkp (fun hs_ => (fun e_ => (Kd.R_ne HO_225000.out BK224.out (by decide)) e_) hs_)); have n7_ := Aside0.mk (hb); clear HO_212000; clear HO_218000; clear HO_225000; clear BK198; clear BK211; clear BK217; clear BK224; clear HB; have HO_212000 := n0_; have HO_218000 := n1_; have HO_225000 := n2_; have BK198 := n3_; have BK211 := n4_; have BK217 := n5_; have BK224 := n6_; have HB := n7_; clear n0_ n1_ n2_ n3_ n4_ n5_ n6_ n7_; (try clear hb); (try clear hkp); (try clear hy0); have hcz113_0 : w112.cell? ⟨gb224, 0, none⟩ = some (.slice Ao36 t218.length co36) := (blk_cell BK224.out 0).trans rfl; have hcz113_1 : w112.cell? ⟨gb224, 1, none⟩ = some (.string t221) := (blk_cell BK224.out 1).trans rfl; have hcz113_2 : w112.cell? ⟨gb224, 2, none⟩ = some (.string t222) := (blk_cell BK224.out 2).trans rfl; have hfz113_0 := blk_frozen BK224.out 0; have hfz113_1 := blk_frozen BK224.out 1; have hfz113_2 := blk_frozen BK224.out 2) | ((with_reducible refine gate_callee (f := 26) rfl ?_); refine goesL_ (some 78) rfl rfl Try.func26 (by kernel_rfl) rfl #[.agg #[.slice Ao36 t236.length co36, .string t221, .string t222], .int .i64 1] rfl (by (try simp only [List.map_toArray, List.map_cons, List.map_nil]); first | done | (rw [show t236.length = t218.length from (Kd.R_reads' HO_225000.out).1.symm] <;> rfl) | rfl | (simp only [List.length_drop, List.length_take]; rfl)) ?_; (with_reducible refine (laws_heldStripe.calls kj63 _ _ t236 t221 t222 1 t237 _ ?side1 ?side2 A95.out).mono ?_); (case side1 => repeat (first | exact (Kd.R_reads' HO_225000.out).2.2 | (with_reducible refine Kd.C_alloc ?_ _) | (with_reducible refine Kd.C_drewN ?_ _) | (with_reducible refine Kd.C_drew ?_))); (case side2 => rw [show t236.length = t218.length from (Kd.R_reads' HO_225000.out).1.symm]; exact (Kd.R_reads' HO_225000.out).2.1); rintro e w114 ⟨rfl, hb⟩; refine ⟨_, rfl, ?_⟩; have n0_ := Aside0.mk (Kd.R_below (by (with_reducible repeat (first | apply Kd.R_alloc | apply Kd.R_drewN | apply Kd.R_drew)); exact HO_212000.out) hb); have n1_ := Aside0.mk (Kd.R_below (by (with_reducible repeat (first | apply Kd.R_alloc | apply Kd.R_drewN | apply Kd.R_drew)); exact HO_218000.out) hb); have n2_ := Aside0.mk (Kd.R_below (by (with_reducible repeat (first | apply Kd.R_alloc | apply Kd.R_drewN | apply Kd.R_drew)); exact HO_225000.out) hb); have n3_ := Aside0.mk (blk_below (g := gb198) (o := .cells #[.slice A0_0 l0_0.length c0_0, .string a0_1, .string a0_2] 24 (0, 0)) (by (with_reducible repeat (first | refine blk_drewN ?_ _ | refine blk_drew ?_ | refine blk_alloc ?_ _)); exact BK198.out) hb); have n4_ := Aside0.mk (blk_below (g := gb211) (o := .cells #[.slice Ao24 t205.length co24, .string t208, .string t209] 27 (0, 0)) (by (with_reducible repeat (first | refine blk_drewN ?_ _ | refine blk_drew ?_ | refine blk_alloc ?_ _)); exact BK211.out) hb); have n5_ := Aside0.mk (blk_below (g := gb217) (o := .cells #[.slice Ao30 t233.length co30, .string t215, .string t216] 27 (0, 0)) (by (with_reducible repeat (first | refine blk_drewN ?_ _ | refine blk_drew ?_ | refine blk_alloc ?_ _)); exact BK217.out) hb); have n6_ := Aside0.mk (blk_below (g := gb224) (o := .cells #[.slice Ao36 t218.length co36, .string t221, .string t222] 27 (0, 0)) (by (with_reducible repeat (first | refine blk_drewN ?_ _ | refine blk_drew ?_ | refine blk_alloc ?_ _)); exact BK224.out) hb); have n7_ := Aside0.mk (below_step (by repeat (first | (with_reducible first | exact HB.out | apply below_alloc | apply pw_below_drewN | apply below_drew1 | refine below_set ?_ GE198.out | refine below_set ?_ GE211.out | refine below_set ?_ GE217.out | refine below_set ?_ GE224.out) | exact HB.out)) hb); clear HO_212000; clear HO_218000; clear HO_225000; clear BK198; clear BK211; clear BK217; clear BK224; clear HB; have HO_212000 := n0_; have HO_218000 := n1_; have HO_225000 := n2_; have BK198 := n3_; have BK211 := n4_; have BK217 := n5_; have BK224 := n6_; have HB := n7_; clear n0_ n1_ n2_ n3_ n4_ n5_ n6_ n7_; (try clear hb); (try clear hb2); (try clear hk); (try clear hi); have hnb115 := NB198_211.out; have hnc115 := NB211_198.out; have hnb116 := NB198_217.out; have hnc116 := NB217_198.out; have hcz117_0 : w114.cell? ⟨gb198, 0, none⟩ = some (.slice A0_0 l0_0.length c0_0) := (blk_cell BK198.out 0).trans rfl; have hcz117_1 : w114.cell? ⟨gb198, 1, none⟩ = some (.string a0_1) := (blk_cell BK198.out 1).trans rfl; have hcz117_2 : w114.cell? ⟨gb198, 2, none⟩ = some (.string a0_2) := (blk_cell BK198.out 2).trans rfl; have hfz117_0 := blk_frozen BK198.out 0; have hfz117_1 := blk_frozen BK198.out 1; have hfz117_2 := blk_frozen BK198.out 2) | ((with_reducible refine gate_callee (f := 14) rfl ?_); refine goesL_ (some 86) rfl rfl Try.func14 (by kernel_rfl) rfl #[.agg #[.slice A0_0 l0_0.length c0_0, .string a0_1, .string a0_2]] rfl (by (try simp only [List.map_toArray, List.map_cons, List.map_nil]); first | done | rfl | (simp only [List.length_drop, List.length_take]; rfl)) ?_; (with_reducible refine (laws_toStripe.calls kj63 _ _ l0_0 a0_1 a0_2 t238 t241 t242 _ ?side1 ?side2 A105.out).mono ?_); (case side1 => repeat (first | exact (Kd.C_below HR0_0.out HB.out) | (with_reducible refine Kd.C_alloc ?_ _) | (with_reducible refine Kd.C_drewN ?_ _) | (with_reducible refine Kd.C_drew ?_))); (case side2 => exact HC0_0.out); rintro e w118 ⟨v239, rfl, ho0, hb⟩; refine ⟨_, rfl, ?_⟩; have n0_ := Aside0.mk (Kd.R_elder' (by (with_reducible repeat (first | apply Kd.R_alloc | apply Kd.R_drewN | apply Kd.R_drew)); exact HO_212000.out) (Kd.R_base ho0) hb); have n1_ := Aside0.mk (Kd.R_elder' (by (with_reducible repeat (first | apply Kd.R_alloc | apply Kd.R_drewN | apply Kd.R_drew)); exact HO_218000.out) (Kd.R_base ho0) hb); have n2_ := Aside0.mk (Kd.R_elder' (by (with_reducible repeat (first | apply Kd.R_alloc | apply Kd.R_drewN | apply Kd.R_drew)); exact HO_225000.out) (Kd.R_base ho0) hb); have n3_ := Aside0.mk (Kd.R_lower (Kd.R_new' (Kd.R_new' (Kd.R_new' ho0 (Kd.R_lt (by (with_reducible repeat (first | apply Kd.R_alloc | apply Kd.R_drewN | apply Kd.R_drew)); exact HO_212000.out))) (Kd.R_lt (by (with_reducible repeat (first | apply Kd.R_alloc | apply Kd.R_drewN | apply Kd.R_drew)); exact HO_218000.out))) (Kd.R_lt (by (with_reducible repeat (first | apply Kd.R_alloc | apply Kd.R_drewN | apply Kd.R_drew)); exact HO_225000.out))) (below_size (by repeat (first | (with_reducible first | exact HB.out | apply below_alloc | apply pw_below_drewN | apply below_drew1 | refine below_set ?_ GE198.out | refine below_set ?_ GE211.out | refine below_set ?_ GE217.out | refine below_set ?_ GE224.out) | exact HB.out)))); have n4_ := Aside0.mk (blk_below (g := gb198) (o := .cells #[.slice A0_0 l0_0.length c0_0, .string a0_1, .string a0_2] 24 (0, 0)) (by (with_reducible repeat (first | refine blk_drewN ?_ _ | refine blk_drew ?_ | refine blk_alloc ?_ _)); exact BK198.out) hb); have n5_ := Aside0.mk (blk_below (g := gb211) (o := .cells #[.slice Ao24 t205.length co24, .string t208, .string t209] 27 (0, 0)) (by (with_reducible repeat (first | refine blk_drewN ?_ _ | refine blk_drew ?_ | refine blk_alloc ?_ _)); exact BK211.out) hb); have n6_ := Aside0.mk (blk_below (g := gb217) (o := .cells #[.slice Ao30 t233.length co30, .string t215, .string t216] 27 (0, 0)) (by (with_reducible repeat (first | refine blk_drewN ?_ _ | refine blk_drew ?_ | refine blk_alloc ?_ _)); exact BK217.out) hb); have n7_ := Aside0.mk (blk_below (g := gb224) (o := .cells #[.slice Ao36 t218.length co36, .string t221, .string t222] 27 (0, 0)) (by (with_reducible repeat (first | refine blk_drewN ?_ _ | refine blk_drew ?_ | refine blk_alloc ?_ _)); exact BK224.out) hb); have n8_ := Aside0.mk (below_step (by repeat (first | (with_reducible first | exact HB.out | apply below_alloc | apply pw_below_drewN | apply below_drew1 | refine below_set ?_ GE198.out | refine below_set ?_ GE211.out | refine below_set ?_ GE217.out | refine below_set ?_ GE224.out) | exact HB.out)) hb); clear HO_212000; clear HO_218000; clear HO_225000; clear BK198; clear BK211; clear BK217; clear BK224; clear HB; have HO_212000 := n0_; have HO_218000 := n1_; have HO_225000 := n2_; have HO240 := n3_; have BK198 := n4_; have BK211 := n5_; have BK217 := n6_; have BK224 := n7_; have HB := n8_; clear n0_ n1_ n2_ n3_ n4_ n5_ n6_ n7_ n8_; (try clear hb); (try clear hb2); (try clear hk); (try clear hi); (try clear ho0); obtain ⟨Ao119, co119, eo119⟩ := Kd.R_slice HO240.out; subst eo119) | ((with_reducible refine gate_callee (f := 28) rfl ?_); refine goesL_ (some 89) rfl rfl Try.func28 (by kernel_rfl) rfl #[.agg #[.slice Ao119 t238.length co119, .string t241, .string t242], .int .i64 a1, .string a2] rfl (by (try simp only [List.map_toArray, List.map_cons, List.map_nil]); first | done | rfl | (simp only [List.length_drop, List.length_take]; rfl)) ?_; (with_reducible refine (impl_UpdateStripe.calls kj63 _ _ t238 t241 t242 a1 a2 t243 t246 t247 t248 _ ?side1 ?side2 A106.out).mono ?_); (case side1 => repeat (first | exact (Kd.R_reads' HO240.out).2.2 | (with_reducible refine Kd.C_alloc ?_ _) | (with_reducible refine Kd.C_drewN ?_ _) | (with_reducible refine Kd.C_drew ?_))); (case side2 => exact (Kd.R_reads' HO240.out).2.1); rintro e w120 ⟨v244, rfl, ho0, hb⟩; refine ⟨_, rfl, ?_⟩; have n0_ := Aside0.mk (Kd.R_elder' (by (with_reducible repeat (first | apply Kd.R_alloc | apply Kd.R_drewN | apply Kd.R_drew)); exact HO_212000.out) (Kd.R_base ho0) hb); have n1_ := Aside0.mk (Kd.R_elder' (by (with_reducible repeat (first | apply Kd.R_alloc | apply Kd.R_drewN | apply Kd.R_drew)); exact HO_218000.out) (Kd.R_base ho0) hb); have n2_ := Aside0.mk (Kd.R_elder' (by (with_reducible repeat (first | apply Kd.R_alloc | apply Kd.R_drewN | apply Kd.R_drew)); exact HO_225000.out) (Kd.R_base ho0) hb); have n3_ := Aside0.mk (Kd.R_elder' (by (with_reducible repeat (first | apply Kd.R_alloc | apply Kd.R_drewN | apply Kd.R_drew)); exact HO240.out) (Kd.R_base ho0) hb); have n4_ := Aside0.mk (Kd.R_lower (Kd.R_new' (Kd.R_new' (Kd.R_new' (Kd.R_new' ho0 (Kd.R_lt (by (with_reducible repeat (first | apply Kd.R_alloc | apply Kd.R_drewN | apply Kd.R_drew)); exact HO_212000.out))) (Kd.R_lt (by (with_reducible repeat (first | apply Kd.R_alloc | apply Kd.R_drewN | apply Kd.R_drew)); exact HO_218000.out))) (Kd.R_lt (by (with_reducible repeat (first | apply Kd.R_alloc | apply Kd.R_drewN | apply Kd.R_drew)); exact HO_225000.out))) (Kd.R_lt (by (with_reducible repeat (first | apply Kd.R_alloc | apply Kd.R_drewN | apply Kd.R_drew)); exact HO240.out))) (below_size (by repeat (first | (with_reducible first | exact HB.out | apply below_alloc | apply pw_below_drewN | apply below_drew1 | refine below_set ?_ GE198.out | refine below_set ?_ GE211.out | refine below_set ?_ GE217.out | refine below_set ?_ GE224.out) | exact HB.out)))); have n5_ := Aside0.mk (blk_below (g := gb198) (o := .cells #[.slice A0_0 l0_0.length c0_0, .string a0_1, .string a0_2] 24 (0, 0)) (by (with_reducible repeat (first | refine blk_drewN ?_ _ | refine blk_drew ?_ | refine blk_alloc ?_ _)); exact BK198.out) hb); have n6_ := Aside0.mk (blk_below (g := gb211) (o := .cells #[.slice Ao24 t205.length co24, .string t208, .string t209] 27 (0, 0)) (by (with_reducible repeat (first | refine blk_drewN ?_ _ | refine blk_drew ?_ | refine blk_alloc ?_ _)); exact BK211.out) hb); have n7_ := Aside0.mk (blk_below (g := gb217) (o := .cells #[.slice Ao30 t233.length co30, .string t215, .string t216] 27 (0, 0)) (by (with_reducible repeat (first | refine blk_drewN ?_ _ | refine blk_drew ?_ | refine blk_alloc ?_ _)); exact BK217.out) hb); have n8_ := Aside0.mk (blk_below (g := gb224) (o := .cells #[.slice Ao36 t218.length co36, .string t221, .string t222] 27 (0, 0)) (by (with_reducible repeat (first | refine blk_drewN ?_ _ | refine blk_drew ?_ | refine blk_alloc ?_ _)); exact BK224.out) hb); have n9_ := Aside0.mk (below_step (by repeat (first | (with_reducible first | exact HB.out | apply below_alloc | apply pw_below_drewN | apply below_drew1 | refine below_set ?_ GE198.out | refine below_set ?_ GE211.out | refine below_set ?_ GE217.out | refine below_set ?_ GE224.out) | exact HB.out)) hb); clear HO_212000; clear HO_218000; clear HO_225000; clear HO240; clear BK198; clear BK211; clear BK217; clear BK224; clear HB; have HO_212000 := n0_; have HO_218000 := n1_; have HO_225000 := n2_; have HO240 := n3_; have HO245 := n4_; have BK198 := n5_; have BK211 := n6_; have BK217 := n7_; have BK224 := n8_; have HB := n9_; clear n0_ n1_ n2_ n3_ n4_ n5_ n6_ n7_ n8_ n9_; (try clear hb); (try clear hb2); (try clear hk); (try clear hi); (try clear ho0)) | ((with_reducible refine gate_dst (N := 16) rfl ?_); refine box_event ?hg (N := 16) ?hd (cs := #[.slice none 0 0, .string (⟨#[]⟩ : ByteArray), .string (⟨#[]⟩ : ByteArray)]) (t := 27) ?hr ?_; (case hd => rfl); (case hg => rfl); (case hr => first | (go_simp; done) | (go_simp; rfl)); intro gb249 hg w121 hbox hb; have n0_ := Aside0.mk (Kd.R_below (by (with_reducible repeat (first | apply Kd.R_alloc | apply Kd.R_drewN | apply Kd.R_drew)); exact HO_212000.out) hb); have n1_ := Aside0.mk (Kd.R_below (by (with_reducible repeat (first | apply Kd.R_alloc | apply Kd.R_drewN | apply Kd.R_drew)); exact HO_218000.out) hb); have n2_ := Aside0.mk (Kd.R_below (by (with_reducible repeat (first | apply Kd.R_alloc | apply Kd.R_drewN | apply Kd.R_drew)); exact HO_225000.out) hb); have n3_ := Aside0.mk (Kd.R_below (by (with_reducible repeat (first | apply Kd.R_alloc | apply Kd.R_drewN | apply Kd.R_drew)); exact HO240.out) hb); have n4_ := Aside0.mk (Kd.R_below (by (with_reducible repeat (first | apply Kd.R_alloc | apply Kd.R_drewN | apply Kd.R_drew)); exact HO245.out) hb); have n5_ := Aside0.mk (blk_below (g := gb198) (o := .cells #[.slice A0_0 l0_0.length c0_0, .string a0_1, .string a0_2] 24 (0, 0)) (by (with_reducible repeat (first | refine blk_drewN ?_ _ | refine blk_drew ?_ | refine blk_alloc ?_ _)); exact BK198.out) hb); have n6_ := Aside0.mk (blk_below (g := gb211) (o := .cells #[.slice Ao24 t205.length co24, .string t208, .string t209] 27 (0, 0)) (by (with_reducible repeat (first | refine blk_drewN ?_ _ | refine blk_drew ?_ | refine blk_alloc ?_ _)); exact BK211.out) hb); have n7_ := Aside0.mk (blk_below (g := gb217) (o := .cells #[.slice Ao30 t233.length co30, .string t215, .string t216] 27 (0, 0)) (by (with_reducible repeat (first | refine blk_drewN ?_ _ | refine blk_drew ?_ | refine blk_alloc ?_ _)); exact BK217.out) hb); have n8_ := Aside0.mk (blk_below (g := gb224) (o := .cells #[.slice Ao36 t218.length co36, .string t221, .string t222] 27 (0, 0)) (by (with_reducible repeat (first | refine blk_drewN ?_ _ | refine blk_drew ?_ | refine blk_alloc ?_ _)); exact BK224.out) hb); have n9_ := Aside0.mk (below_step (by repeat (first | (with_reducible first | exact HB.out | apply below_alloc | apply pw_below_drewN | apply below_drew1 | refine below_set ?_ GE198.out | refine below_set ?_ GE211.out | refine below_set ?_ GE217.out | refine below_set ?_ GE224.out) | exact HB.out)) hb); have n10_ := Aside0.mk (hbox); have n11_ := Aside0.mk ((by rw [hg]; exact (below_size (by repeat (first | (with_reducible first | exact HB.out | apply below_alloc | apply pw_below_drewN | apply below_drew1 | refine below_set ?_ GE198.out | refine below_set ?_ GE211.out | refine below_set ?_ GE217.out | refine below_set ?_ GE224.out) | exact HB.out))) : w.heap.size ≤ gb249)); have n12_ := Aside0.mk ((by rw [hg]; exact (below_size (by repeat (first | (with_reducible first | exact HB.out | apply below_alloc | apply pw_below_drewN | apply below_drew1 | refine below_set ?_ GE198.out | refine below_set ?_ GE211.out | refine below_set ?_ GE217.out | refine below_set ?_ GE224.out) | exact HB.out))) : w.heap.size ≤ gb249)); have n13_ := Aside0.mk ((by rw [hg]; exact Nat.ne_of_lt (blk_lt (g := gb198) (o := .cells #[.slice A0_0 l0_0.length c0_0, .string a0_1, .string a0_2] 24 (0, 0)) (by (with_reducible repeat (first | refine blk_drewN ?_ _ | refine blk_drew ?_ | refine blk_alloc ?_ _)); exact BK198.out)) : gb198 ≠ gb249)); have n14_ := Aside0.mk ((by rw [hg]; exact Nat.ne_of_gt (blk_lt (g := gb198) (o := .cells #[.slice A0_0 l0_0.length c0_0, .string a0_1, .string a0_2] 24 (0, 0)) (by (with_reducible repeat (first | refine blk_drewN ?_ _ | refine blk_drew ?_ | refine blk_alloc ?_ _)); exact BK198.out)) : gb249 ≠ gb198)); have n15_ := Aside0.mk ((by rw [hg]; exact Nat.ne_of_lt (blk_lt (g := gb211) (o := .cells #[.slice Ao24 t205.length co24, .string t208, .string t209] 27 (0, 0)) (by (with_reducible repeat (first | refine blk_drewN ?_ _ | refine blk_drew ?_ | refine blk_alloc ?_ _)); exact BK211.out)) : gb211 ≠ gb249)); have n16_ := Aside0.mk ((by rw [hg]; exact Nat.ne_of_gt (blk_lt (g := gb211) (o := .cells #[.slice Ao24 t205.length co24, .string t208, .string t209] 27 (0, 0)) (by (with_reducible repeat (first | refine blk_drewN ?_ _ | refine blk_drew ?_ | refine blk_alloc ?_ _)); exact BK211.out)) : gb249 ≠ gb211)); have n17_ := Aside0.mk ((by rw [hg]; exact Nat.ne_of_lt (blk_lt (g := gb217) (o := .cells #[.slice Ao30 t233.length co30, .string t215, .string t216] 27 (0, 0)) (by (with_reducible repeat (first | refine blk_drewN ?_ _ | refine blk_drew ?_ | refine blk_alloc ?_ _)); exact BK217.out)) : gb217 ≠ gb249)); have n18_ := Aside0.mk ((by rw [hg]; exact Nat.ne_of_gt (blk_lt (g := gb217) (o := .cells #[.slice Ao30 t233.length co30, .string t215, .string t216] 27 (0, 0)) (by (with_reducible repeat (first | refine blk_drewN ?_ _ | refine blk_drew ?_ | refine blk_alloc ?_ _)); exact BK217.out)) : gb249 ≠ gb217)); have n19_ := Aside0.mk ((by rw [hg]; exact Nat.ne_of_lt (blk_lt (g := gb224) (o := .cells #[.slice Ao36 t218.length co36, .string t221, .string t222] 27 (0, 0)) (by (with_reducible repeat (first | refine blk_drewN ?_ _ | refine blk_drew ?_ | refine blk_alloc ?_ _)); exact BK224.out)) : gb224 ≠ gb249)); have n20_ := Aside0.mk ((by rw [hg]; exact Nat.ne_of_gt (blk_lt (g := gb224) (o := .cells #[.slice Ao36 t218.length co36, .string t221, .string t222] 27 (0, 0)) (by (with_reducible repeat (first | refine blk_drewN ?_ _ | refine blk_drew ?_ | refine blk_alloc ?_ _)); exact BK224.out)) : gb249 ≠ gb224)); clear HO_212000; clear HO_218000; clear HO_225000; clear HO240; clear HO245; clear BK198; clear BK211; clear BK217; clear BK224; clear HB; have HO_212000 := n0_; have HO_218000 := n1_; have HO_225000 := n2_; have HO240 := n3_; have HO245 := n4_; have BK198 := n5_; have BK211 := n6_; have BK217 := n7_; have BK224 := n8_; have HB := n9_; have BK249 := n10_; have GW249 := n11_; have GE249 := n12_; have NB198_249 := n13_; have NB249_198 := n14_; have NB211_249 := n15_; have NB249_211 := n16_; have NB217_249 := n17_; have NB249_217 := n18_; have NB224_249 := n19_; have NB249_224 := n20_; clear n0_ n1_ n2_ n3_ n4_ n5_ n6_ n7_ n8_ n9_ n10_ n11_ n12_ n13_ n14_ n15_ n16_ n17_ n18_ n19_ n20_; clear hb hbox hg; obtain ⟨Ao122, co122, eo122⟩ := Kd.R_slice HO245.out; subst eo122; have hnb123 := NB249_198.out; have hnc123 := NB198_249.out; have hnb124 := NB249_211.out; have hnc124 := NB211_249.out; have hnb125 := NB249_217.out; have hnc125 := NB217_249.out; have hnb126 := NB249_224.out; have hnc126 := NB224_249.out; have hcz127_0 : w121.cell? ⟨gb249, 0, none⟩ = some (.slice none 0 0) := (blk_cell BK249.out 0).trans rfl; have hcz127_1 : w121.cell? ⟨gb249, 1, none⟩ = some (.string (⟨#[]⟩ : ByteArray)) := (blk_cell BK249.out 1).trans rfl; have hcz127_2 : w121.cell? ⟨gb249, 2, none⟩ = some (.string (⟨#[]⟩ : ByteArray)) := (blk_cell BK249.out 2).trans rfl; have hfz127_0 := blk_frozen BK249.out 0; have hfz127_1 := blk_frozen BK249.out 1; have hfz127_2 := blk_frozen BK249.out 2))
                        (try simp only [Act.put, List.setIfInBounds_toArray, List.set_cons_zero, List.set_cons_succ])
                        go_cut [100] (fun v100 wc => ∃ (kq : Nat) (x100_106 : Bool), v100 = .bool x100_106 ∧ Aside0 (laws_FnExactUpdateStripe.j2 kq t235 x100_106 t236 t221 t222 = some r) ∧ Aside0 (kq ≤ kj63) ∧ Aside0 (Kd.R Kd.string 9 wc w.heap.size (fun k_ => some k_ ≠ ((.slice Ao30 t233.length co30) : Value).ownBlock ∧ some k_ ≠ ((.slice Ao36 t218.length co36) : Value).ownBlock ∧ some k_ ≠ ((.slice Ao122 t243.length co122) : Value).ownBlock) (.slice Ao24 t205.length co24) t205) ∧ Aside0 (Kd.R Kd.string 9 wc w.heap.size (fun k_ => some k_ ≠ ((.slice Ao24 t205.length co24) : Value).ownBlock ∧ some k_ ≠ ((.slice Ao36 t218.length co36) : Value).ownBlock ∧ some k_ ≠ ((.slice Ao122 t243.length co122) : Value).ownBlock) (.slice Ao30 t233.length co30) t233) ∧ Aside0 (Kd.R Kd.string 9 wc w.heap.size (fun k_ => some k_ ≠ ((.slice Ao24 t205.length co24) : Value).ownBlock ∧ some k_ ≠ ((.slice Ao30 t233.length co30) : Value).ownBlock ∧ some k_ ≠ ((.slice Ao122 t243.length co122) : Value).ownBlock) (.slice Ao36 t218.length co36) t236) ∧ Aside0 (Kd.R Kd.string 9 wc w.heap.size (fun k_ => some k_ ≠ ((.slice Ao24 t205.length co24) : Value).ownBlock ∧ some k_ ≠ ((.slice Ao30 t233.length co30) : Value).ownBlock ∧ some k_ ≠ ((.slice Ao36 t218.length co36) : Value).ownBlock) (.slice Ao122 t243.length co122) t243) ∧ Aside0 (wc.heap[gb198]? = some (.cells #[(.slice A0_0 l0_0.length c0_0), .string a0_1, .string a0_2] 24 (0, 0))) ∧ Aside0 (wc.heap[gb211]? = some (.cells #[(.slice Ao24 t205.length co24), .string t208, .string t209] 27 (0, 0))) ∧ Aside0 (wc.heap[gb217]? = some (.cells #[(.slice Ao30 t233.length co30), .string t215, .string t216] 27 (0, 0))) ∧ Aside0 (wc.heap[gb224]? = some (.cells #[(.slice Ao36 t218.length co36), .string t221, .string t222] 27 (0, 0))) ∧ Aside0 (wc.heap[gb249]? = some (.cells #[(.slice Ao122 t243.length co122), .string t246, .string t247] 27 (0, 0))) ∧ Aside0 (Below w.heap.size w wc))
                        case first =>
                          have H := HC107.out
                          clear HC107
                          replace H := Option.bind_eq_some_iff.mp H
                          obtain ⟨t250, A1280, H⟩ := H
                          replace H : (if t250 = true then (laws_FnExactUpdateStripe.j2 kj63 t235 (t248 != t210) t236 t221 t222) else (laws_FnExactUpdateStripe.j2 kj63 t235 true t236 t221 t222)) = some r := H
                          have A128 := Aside0.mk A1280
                          clear A1280
                          by_cases c129 : t250 = true
                          · subst c129
                            have H1 : (laws_FnExactUpdateStripe.j2 kj63 t235 (t248 != t210) t236 t221 t222) = some r := by rw [if_pos rfl] at H; exact H
                            clear H
                            have H := H1
                            clear H1
                            have H' := Aside0.mk H
                            clear H
                            have hnb130 := NB249_198.out
                            have hnc130 := NB198_249.out
                            have hnb131 := NB249_211.out
                            have hnc131 := NB211_249.out
                            have hnb132 := NB249_217.out
                            have hnc132 := NB217_249.out
                            have hnb133 := NB249_224.out
                            have hnc133 := NB224_249.out
                            have hcz134_0 : w121.cell? ⟨gb249, 0, none⟩ = some (.slice none 0 0) := (blk_cell BK249.out 0).trans rfl
                            have hcz134_1 : w121.cell? ⟨gb249, 1, none⟩ = some (.string (⟨#[]⟩ : ByteArray)) := (blk_cell BK249.out 1).trans rfl
                            have hcz134_2 : w121.cell? ⟨gb249, 2, none⟩ = some (.string (⟨#[]⟩ : ByteArray)) := (blk_cell BK249.out 2).trans rfl
                            have hfz134_0 := blk_frozen BK249.out 0
                            have hfz134_1 := blk_frozen BK249.out 1
                            have hfz134_2 := blk_frozen BK249.out 2
                            have hnb135 := NB211_198.out
                            have hnc135 := NB198_211.out
                            have hnb136 := NB211_217.out
                            have hnc136 := NB217_211.out
                            have hnb137 := NB211_224.out
                            have hnc137 := NB224_211.out
                            have hcz138_0 : w121.cell? ⟨gb211, 0, none⟩ = some (.slice Ao24 t205.length co24) := (blk_cell BK211.out 0).trans rfl
                            have hcz138_1 : w121.cell? ⟨gb211, 1, none⟩ = some (.string t208) := (blk_cell BK211.out 1).trans rfl
                            have hcz138_2 : w121.cell? ⟨gb211, 2, none⟩ = some (.string t209) := (blk_cell BK211.out 2).trans rfl
                            have hfz138_0 := blk_frozen BK211.out 0
                            have hfz138_1 := blk_frozen BK211.out 1
                            have hfz138_2 := blk_frozen BK211.out 2
                            go_wp2_with (first | ((with_reducible refine gate_callee (f := 16) rfl ?_); refine goesL_ (some 94) rfl rfl Try.func16 (by kernel_rfl) rfl #[.agg #[.slice Ao122 t243.length co122, .string t246, .string t247], .agg #[.slice Ao24 t205.length co24, .string t208, .string t209]] rfl (by (try simp only [List.map_toArray, List.map_cons, List.map_nil]); first | done | rfl | (simp only [List.length_drop, List.length_take]; rfl)) ?_; (with_reducible refine (laws_eqStripe.calls kj63 _ _ t243 t246 t247 _ _ t205 t208 t209 true _ ?side1 ?side2 ?side3 ?side4 A128.out).mono ?_); (case side1 => refine (Kd.R_reads' (e := 9) (base := w.heap.size) (ok := fun k_ => ((((True ∧ some k_ ≠ (.slice Ao24 t205.length co24 : Value).ownBlock) ∧ some k_ ≠ (.slice Ao30 t233.length co30 : Value).ownBlock) ∧ some k_ ≠ (.slice Ao36 t218.length co36 : Value).ownBlock) ∧ some k_ ≠ (.slice Ao119 t238.length co119 : Value).ownBlock)) (n := t243.length) (c := co122) ?_).2.2; exact (by (with_reducible repeat (first | apply Kd.R_alloc | apply Kd.R_drewN | apply Kd.R_drew)); exact (Kd.R_mono (Kd.R_far (p := ⟨gb249, 2, none⟩) (Kd.R_far (p := ⟨gb249, 1, none⟩) (Kd.R_far (p := ⟨gb249, 0, none⟩) (Kd.R_types HO245.out BK249.out (by decide)) (fun _ hk => hk.2) (.slice Ao122 t243.length co122)) (fun _ hk => hk.2) (.string t246)) (fun _ hk => hk.2) (.string t247)) (fun _ h_ => h_.1)))); (case side2 => exact (Kd.R_reads' HO245.out).2.1); (case side3 => refine (Kd.R_reads' (e := 9) (base := w.heap.size) (ok := fun k_ => (((some k_ ≠ (.slice Ao30 t233.length co30 : Value).ownBlock ∧ some k_ ≠ (.slice Ao36 t218.length co36 : Value).ownBlock) ∧ some k_ ≠ (.slice Ao119 t238.length co119 : Value).ownBlock) ∧ some k_ ≠ (.slice Ao122 t243.length co122 : Value).ownBlock)) (n := t205.length) (c := co24) ?_).2.2; exact (by (with_reducible repeat (first | apply Kd.R_alloc | apply Kd.R_drewN | apply Kd.R_drew)); exact (Kd.R_mono (Kd.R_far (p := ⟨gb249, 2, none⟩) (Kd.R_far (p := ⟨gb249, 1, none⟩) (Kd.R_far (p := ⟨gb249, 0, none⟩) (Kd.R_types HO_212000.out BK249.out (by decide)) (fun _ hk => hk.2) (.slice Ao122 t243.length co122)) (fun _ hk => hk.2) (.string t246)) (fun _ hk => hk.2) (.string t247)) (fun _ h_ => h_.1)))); (case side4 => exact (Kd.R_reads' HO_212000.out).2.1); rintro e w139 ⟨rfl, hb⟩; refine ⟨_, rfl, ?_⟩; have n0_ := Aside0.mk (Kd.R_below (by (with_reducible repeat (first | apply Kd.R_alloc | apply Kd.R_drewN | apply Kd.R_drew)); exact (Kd.R_mono (Kd.R_far (p := ⟨gb249, 2, none⟩) (Kd.R_far (p := ⟨gb249, 1, none⟩) (Kd.R_far (p := ⟨gb249, 0, none⟩) (Kd.R_types HO_212000.out BK249.out (by decide)) (fun _ hk => hk.2) (.slice Ao122 t243.length co122)) (fun _ hk => hk.2) (.string t246)) (fun _ hk => hk.2) (.string t247)) (fun _ h_ => h_.1))) hb); have n1_ := Aside0.mk (Kd.R_below (by (with_reducible repeat (first | apply Kd.R_alloc | apply Kd.R_drewN | apply Kd.R_drew)); exact (Kd.R_mono (Kd.R_far (p := ⟨gb249, 2, none⟩) (Kd.R_far (p := ⟨gb249, 1, none⟩) (Kd.R_far (p := ⟨gb249, 0, none⟩) (Kd.R_types HO_218000.out BK249.out (by decide)) (fun _ hk => hk.2) (.slice Ao122 t243.length co122)) (fun _ hk => hk.2) (.string t246)) (fun _ hk => hk.2) (.string t247)) (fun _ h_ => h_.1))) hb); have n2_ := Aside0.mk (Kd.R_below (by (with_reducible repeat (first | apply Kd.R_alloc | apply Kd.R_drewN | apply Kd.R_drew)); exact (Kd.R_mono (Kd.R_far (p := ⟨gb249, 2, none⟩) (Kd.R_far (p := ⟨gb249, 1, none⟩) (Kd.R_far (p := ⟨gb249, 0, none⟩) (Kd.R_types HO_225000.out BK249.out (by decide)) (fun _ hk => hk.2) (.slice Ao122 t243.length co122)) (fun _ hk => hk.2) (.string t246)) (fun _ hk => hk.2) (.string t247)) (fun _ h_ => h_.1))) hb); have n3_ := Aside0.mk (Kd.R_below (by (with_reducible repeat (first | apply Kd.R_alloc | apply Kd.R_drewN | apply Kd.R_drew)); exact (Kd.R_mono (Kd.R_far (p := ⟨gb249, 2, none⟩) (Kd.R_far (p := ⟨gb249, 1, none⟩) (Kd.R_far (p := ⟨gb249, 0, none⟩) (Kd.R_types HO240.out BK249.out (by decide)) (fun _ hk => hk.2) (.slice Ao122 t243.length co122)) (fun _ hk => hk.2) (.string t246)) (fun _ hk => hk.2) (.string t247)) (fun _ h_ => h_.1))) hb); have n4_ := Aside0.mk (Kd.R_below (by (with_reducible repeat (first | apply Kd.R_alloc | apply Kd.R_drewN | apply Kd.R_drew)); exact (Kd.R_mono (Kd.R_far (p := ⟨gb249, 2, none⟩) (Kd.R_far (p := ⟨gb249, 1, none⟩) (Kd.R_far (p := ⟨gb249, 0, none⟩) (Kd.R_types HO245.out BK249.out (by decide)) (fun _ hk => hk.2) (.slice Ao122 t243.length co122)) (fun _ hk => hk.2) (.string t246)) (fun _ hk => hk.2) (.string t247)) (fun _ h_ => h_.1))) hb); have n5_ := Aside0.mk (blk_below (g := gb198) (o := .cells #[.slice A0_0 l0_0.length c0_0, .string a0_1, .string a0_2] 24 (0, 0)) (by (with_reducible repeat (first | refine blk_drewN ?_ _ | refine blk_drew ?_ | refine blk_alloc ?_ _)); refine blk_far ?_ NB198_249.out _; (with_reducible repeat (first | refine blk_drewN ?_ _ | refine blk_drew ?_ | refine blk_alloc ?_ _)); refine blk_far ?_ NB198_249.out _; (with_reducible repeat (first | refine blk_drewN ?_ _ | refine blk_drew ?_ | refine blk_alloc ?_ _)); refine blk_far ?_ NB198_249.out _; (with_reducible repeat (first | refine blk_drewN ?_ _ | refine blk_drew ?_ | refine blk_alloc ?_ _)); exact BK198.out) hb); have n6_ := Aside0.mk (blk_below (g := gb211) (o := .cells #[.slice Ao24 t205.length co24, .string t208, .string t209] 27 (0, 0)) (by (with_reducible repeat (first | refine blk_drewN ?_ _ | refine blk_drew ?_ | refine blk_alloc ?_ _)); refine blk_far ?_ NB211_249.out _; (with_reducible repeat (first | refine blk_drewN ?_ _ | refine blk_drew ?_ | refine blk_alloc ?_ _)); refine blk_far ?_ NB211_249.out _; (with_reducible repeat (first | refine blk_drewN ?_ _ | refine blk_drew ?_ | refine blk_alloc ?_ _)); refine blk_far ?_ NB211_249.out _; (with_reducible repeat (first | refine blk_drewN ?_ _ | refine blk_drew ?_ | refine blk_alloc ?_ _)); exact BK211.out) hb); have n7_ := Aside0.mk (blk_below (g := gb217) (o := .cells #[.slice Ao30 t233.length co30, .string t215, .string t216] 27 (0, 0)) (by (with_reducible repeat (first | refine blk_drewN ?_ _ | refine blk_drew ?_ | refine blk_alloc ?_ _)); refine blk_far ?_ NB217_249.out _; (with_reducible repeat (first | refine blk_drewN ?_ _ | refine blk_drew ?_ | refine blk_alloc ?_ _)); refine blk_far ?_ NB217_249.out _; (with_reducible repeat (first | refine blk_drewN ?_ _ | refine blk_drew ?_ | refine blk_alloc ?_ _)); refine blk_far ?_ NB217_249.out _; (with_reducible repeat (first | refine blk_drewN ?_ _ | refine blk_drew ?_ | refine blk_alloc ?_ _)); exact BK217.out) hb); have n8_ := Aside0.mk (blk_below (g := gb224) (o := .cells #[.slice Ao36 t218.length co36, .string t221, .string t222] 27 (0, 0)) (by (with_reducible repeat (first | refine blk_drewN ?_ _ | refine blk_drew ?_ | refine blk_alloc ?_ _)); refine blk_far ?_ NB224_249.out _; (with_reducible repeat (first | refine blk_drewN ?_ _ | refine blk_drew ?_ | refine blk_alloc ?_ _)); refine blk_far ?_ NB224_249.out _; (with_reducible repeat (first | refine blk_drewN ?_ _ | refine blk_drew ?_ | refine blk_alloc ?_ _)); refine blk_far ?_ NB224_249.out _; (with_reducible repeat (first | refine blk_drewN ?_ _ | refine blk_drew ?_ | refine blk_alloc ?_ _)); exact BK224.out) hb); have n9_ := Aside0.mk (blk_below (g := gb249) (o := .cells #[.slice Ao122 t243.length co122, .string t246, .string t247] 27 (0, 0)) (by (with_reducible repeat (first | refine blk_drewN ?_ _ | refine blk_drew ?_ | refine blk_alloc ?_ _)); refine blk_put (cs := #[.slice Ao122 t243.length co122, .string t246, .string (⟨#[]⟩ : ByteArray)]) ?_ 2 _ rfl; (with_reducible repeat (first | refine blk_drewN ?_ _ | refine blk_drew ?_ | refine blk_alloc ?_ _)); refine blk_put (cs := #[.slice Ao122 t243.length co122, .string (⟨#[]⟩ : ByteArray), .string (⟨#[]⟩ : ByteArray)]) ?_ 1 _ rfl; (with_reducible repeat (first | refine blk_drewN ?_ _ | refine blk_drew ?_ | refine blk_alloc ?_ _)); refine blk_put (cs := #[.slice none 0 0, .string (⟨#[]⟩ : ByteArray), .string (⟨#[]⟩ : ByteArray)]) ?_ 0 _ rfl; (with_reducible repeat (first | refine blk_drewN ?_ _ | refine blk_drew ?_ | refine blk_alloc ?_ _)); exact BK249.out) hb); have n10_ := Aside0.mk (below_step (by repeat (first | (with_reducible first | exact HB.out | apply below_alloc | apply pw_below_drewN | apply below_drew1 | refine below_set ?_ GE198.out | refine below_set ?_ GE211.out | refine below_set ?_ GE217.out | refine below_set ?_ GE224.out | refine below_set ?_ GE249.out) | exact HB.out)) hb); clear HO_212000; clear HO_218000; clear HO_225000; clear HO240; clear HO245; clear BK198; clear BK211; clear BK217; clear BK224; clear BK249; clear HB; have HO_212000 := n0_; have HO_218000 := n1_; have HO_225000 := n2_; have HO240 := n3_; have HO245 := n4_; have BK198 := n5_; have BK211 := n6_; have BK217 := n7_; have BK224 := n8_; have BK249 := n9_; have HB := n10_; clear n0_ n1_ n2_ n3_ n4_ n5_ n6_ n7_ n8_ n9_ n10_; (try clear hb); (try clear hb2); (try clear hk); (try clear hi)))
                            go_meet
                            case rel => exact ⟨_, ((t248 != t210)), (by first | rfl | (simp; done) | (simp [*]; done)), H', ⟨by have := HJ14.out; have := HJ63.out; first | omega | exact Nat.le_refl _⟩, ⟨by (try simp only [hl218000_63]); (with_reducible repeat (first | apply Kd.R_alloc | apply Kd.R_drewN | apply Kd.R_drew)); exact Kd.R_mono HO_212000.out (fun _ hk => ⟨hk.1.1.1, ⟨hk.1.1.2, hk.2⟩⟩)⟩, ⟨by (try simp only [hl218000_63]); (with_reducible repeat (first | apply Kd.R_alloc | apply Kd.R_drewN | apply Kd.R_drew)); exact Kd.R_mono HO_218000.out (fun _ hk => ⟨hk.1.1.1, ⟨hk.1.1.2, hk.2⟩⟩)⟩, ⟨by (try simp only [hl218000_63]); (with_reducible repeat (first | apply Kd.R_alloc | apply Kd.R_drewN | apply Kd.R_drew)); exact Kd.R_mono HO_225000.out (fun _ hk => ⟨hk.1.1.1, ⟨hk.1.1.2, hk.2⟩⟩)⟩, ⟨by (try simp only [hl218000_63]); (with_reducible repeat (first | apply Kd.R_alloc | apply Kd.R_drewN | apply Kd.R_drew)); exact Kd.R_mono HO245.out (fun _ hk => ⟨hk.1.1.1.2, ⟨hk.1.1.2, hk.1.2⟩⟩)⟩, ⟨by (try simp only [hl218000_63]); (with_reducible repeat (first | refine blk_drewN ?_ _ | refine blk_drew ?_ | refine blk_alloc ?_ _)); exact BK198.out⟩, ⟨by (try simp only [hl218000_63]); (with_reducible repeat (first | refine blk_drewN ?_ _ | refine blk_drew ?_ | refine blk_alloc ?_ _)); exact BK211.out⟩, ⟨by (try simp only [hl218000_63]); (with_reducible repeat (first | refine blk_drewN ?_ _ | refine blk_drew ?_ | refine blk_alloc ?_ _)); exact BK217.out⟩, ⟨by (try simp only [hl218000_63]); (with_reducible repeat (first | refine blk_drewN ?_ _ | refine blk_drew ?_ | refine blk_alloc ?_ _)); exact BK224.out⟩, ⟨by (try simp only [hl218000_63]); (with_reducible repeat (first | refine blk_drewN ?_ _ | refine blk_drew ?_ | refine blk_alloc ?_ _)); exact BK249.out⟩, ⟨by repeat (first | (with_reducible first | exact HB.out | apply below_alloc | apply pw_below_drewN | apply below_drew1 | refine below_set ?_ GE198.out | refine below_set ?_ GE211.out | refine below_set ?_ GE217.out | refine below_set ?_ GE224.out | refine below_set ?_ GE249.out) | exact HB.out)⟩⟩
                          · replace c129 := Bool.eq_false_iff.mpr c129
                            subst c129
                            have H1 : (laws_FnExactUpdateStripe.j2 kj63 t235 true t236 t221 t222) = some r := by rw [if_neg (show ¬ (false = true) by decide)] at H; exact H
                            clear H
                            have H := H1
                            clear H1
                            have H' := Aside0.mk H
                            clear H
                            have hnb140 := NB249_198.out
                            have hnc140 := NB198_249.out
                            have hnb141 := NB249_211.out
                            have hnc141 := NB211_249.out
                            have hnb142 := NB249_217.out
                            have hnc142 := NB217_249.out
                            have hnb143 := NB249_224.out
                            have hnc143 := NB224_249.out
                            have hcz144_0 : w121.cell? ⟨gb249, 0, none⟩ = some (.slice none 0 0) := (blk_cell BK249.out 0).trans rfl
                            have hcz144_1 : w121.cell? ⟨gb249, 1, none⟩ = some (.string (⟨#[]⟩ : ByteArray)) := (blk_cell BK249.out 1).trans rfl
                            have hcz144_2 : w121.cell? ⟨gb249, 2, none⟩ = some (.string (⟨#[]⟩ : ByteArray)) := (blk_cell BK249.out 2).trans rfl
                            have hfz144_0 := blk_frozen BK249.out 0
                            have hfz144_1 := blk_frozen BK249.out 1
                            have hfz144_2 := blk_frozen BK249.out 2
                            have hnb145 := NB211_198.out
                            have hnc145 := NB198_211.out
                            have hnb146 := NB211_217.out
                            have hnc146 := NB217_211.out
                            have hnb147 := NB211_224.out
                            have hnc147 := NB224_211.out
                            have hcz148_0 : w121.cell? ⟨gb211, 0, none⟩ = some (.slice Ao24 t205.length co24) := (blk_cell BK211.out 0).trans rfl
                            have hcz148_1 : w121.cell? ⟨gb211, 1, none⟩ = some (.string t208) := (blk_cell BK211.out 1).trans rfl
                            have hcz148_2 : w121.cell? ⟨gb211, 2, none⟩ = some (.string t209) := (blk_cell BK211.out 2).trans rfl
                            have hfz148_0 := blk_frozen BK211.out 0
                            have hfz148_1 := blk_frozen BK211.out 1
                            have hfz148_2 := blk_frozen BK211.out 2
                            go_wp2_with (first | ((with_reducible refine gate_callee (f := 16) rfl ?_); refine goesL_ (some 94) rfl rfl Try.func16 (by kernel_rfl) rfl #[.agg #[.slice Ao122 t243.length co122, .string t246, .string t247], .agg #[.slice Ao24 t205.length co24, .string t208, .string t209]] rfl (by (try simp only [List.map_toArray, List.map_cons, List.map_nil]); first | done | rfl | (simp only [List.length_drop, List.length_take]; rfl)) ?_; (with_reducible refine (laws_eqStripe.calls kj63 _ _ t243 t246 t247 _ _ t205 t208 t209 false _ ?side1 ?side2 ?side3 ?side4 A128.out).mono ?_); (case side1 => refine (Kd.R_reads' (e := 9) (base := w.heap.size) (ok := fun k_ => ((((True ∧ some k_ ≠ (.slice Ao24 t205.length co24 : Value).ownBlock) ∧ some k_ ≠ (.slice Ao30 t233.length co30 : Value).ownBlock) ∧ some k_ ≠ (.slice Ao36 t218.length co36 : Value).ownBlock) ∧ some k_ ≠ (.slice Ao119 t238.length co119 : Value).ownBlock)) (n := t243.length) (c := co122) ?_).2.2; exact (by (with_reducible repeat (first | apply Kd.R_alloc | apply Kd.R_drewN | apply Kd.R_drew)); exact (Kd.R_mono (Kd.R_far (p := ⟨gb249, 2, none⟩) (Kd.R_far (p := ⟨gb249, 1, none⟩) (Kd.R_far (p := ⟨gb249, 0, none⟩) (Kd.R_types HO245.out BK249.out (by decide)) (fun _ hk => hk.2) (.slice Ao122 t243.length co122)) (fun _ hk => hk.2) (.string t246)) (fun _ hk => hk.2) (.string t247)) (fun _ h_ => h_.1)))); (case side2 => exact (Kd.R_reads' HO245.out).2.1); (case side3 => refine (Kd.R_reads' (e := 9) (base := w.heap.size) (ok := fun k_ => (((some k_ ≠ (.slice Ao30 t233.length co30 : Value).ownBlock ∧ some k_ ≠ (.slice Ao36 t218.length co36 : Value).ownBlock) ∧ some k_ ≠ (.slice Ao119 t238.length co119 : Value).ownBlock) ∧ some k_ ≠ (.slice Ao122 t243.length co122 : Value).ownBlock)) (n := t205.length) (c := co24) ?_).2.2; exact (by (with_reducible repeat (first | apply Kd.R_alloc | apply Kd.R_drewN | apply Kd.R_drew)); exact (Kd.R_mono (Kd.R_far (p := ⟨gb249, 2, none⟩) (Kd.R_far (p := ⟨gb249, 1, none⟩) (Kd.R_far (p := ⟨gb249, 0, none⟩) (Kd.R_types HO_212000.out BK249.out (by decide)) (fun _ hk => hk.2) (.slice Ao122 t243.length co122)) (fun _ hk => hk.2) (.string t246)) (fun _ hk => hk.2) (.string t247)) (fun _ h_ => h_.1)))); (case side4 => exact (Kd.R_reads' HO_212000.out).2.1); rintro e w149 ⟨rfl, hb⟩; refine ⟨_, rfl, ?_⟩; have n0_ := Aside0.mk (Kd.R_below (by (with_reducible repeat (first | apply Kd.R_alloc | apply Kd.R_drewN | apply Kd.R_drew)); exact (Kd.R_mono (Kd.R_far (p := ⟨gb249, 2, none⟩) (Kd.R_far (p := ⟨gb249, 1, none⟩) (Kd.R_far (p := ⟨gb249, 0, none⟩) (Kd.R_types HO_212000.out BK249.out (by decide)) (fun _ hk => hk.2) (.slice Ao122 t243.length co122)) (fun _ hk => hk.2) (.string t246)) (fun _ hk => hk.2) (.string t247)) (fun _ h_ => h_.1))) hb); have n1_ := Aside0.mk (Kd.R_below (by (with_reducible repeat (first | apply Kd.R_alloc | apply Kd.R_drewN | apply Kd.R_drew)); exact (Kd.R_mono (Kd.R_far (p := ⟨gb249, 2, none⟩) (Kd.R_far (p := ⟨gb249, 1, none⟩) (Kd.R_far (p := ⟨gb249, 0, none⟩) (Kd.R_types HO_218000.out BK249.out (by decide)) (fun _ hk => hk.2) (.slice Ao122 t243.length co122)) (fun _ hk => hk.2) (.string t246)) (fun _ hk => hk.2) (.string t247)) (fun _ h_ => h_.1))) hb); have n2_ := Aside0.mk (Kd.R_below (by (with_reducible repeat (first | apply Kd.R_alloc | apply Kd.R_drewN | apply Kd.R_drew)); exact (Kd.R_mono (Kd.R_far (p := ⟨gb249, 2, none⟩) (Kd.R_far (p := ⟨gb249, 1, none⟩) (Kd.R_far (p := ⟨gb249, 0, none⟩) (Kd.R_types HO_225000.out BK249.out (by decide)) (fun _ hk => hk.2) (.slice Ao122 t243.length co122)) (fun _ hk => hk.2) (.string t246)) (fun _ hk => hk.2) (.string t247)) (fun _ h_ => h_.1))) hb); have n3_ := Aside0.mk (Kd.R_below (by (with_reducible repeat (first | apply Kd.R_alloc | apply Kd.R_drewN | apply Kd.R_drew)); exact (Kd.R_mono (Kd.R_far (p := ⟨gb249, 2, none⟩) (Kd.R_far (p := ⟨gb249, 1, none⟩) (Kd.R_far (p := ⟨gb249, 0, none⟩) (Kd.R_types HO240.out BK249.out (by decide)) (fun _ hk => hk.2) (.slice Ao122 t243.length co122)) (fun _ hk => hk.2) (.string t246)) (fun _ hk => hk.2) (.string t247)) (fun _ h_ => h_.1))) hb); have n4_ := Aside0.mk (Kd.R_below (by (with_reducible repeat (first | apply Kd.R_alloc | apply Kd.R_drewN | apply Kd.R_drew)); exact (Kd.R_mono (Kd.R_far (p := ⟨gb249, 2, none⟩) (Kd.R_far (p := ⟨gb249, 1, none⟩) (Kd.R_far (p := ⟨gb249, 0, none⟩) (Kd.R_types HO245.out BK249.out (by decide)) (fun _ hk => hk.2) (.slice Ao122 t243.length co122)) (fun _ hk => hk.2) (.string t246)) (fun _ hk => hk.2) (.string t247)) (fun _ h_ => h_.1))) hb); have n5_ := Aside0.mk (blk_below (g := gb198) (o := .cells #[.slice A0_0 l0_0.length c0_0, .string a0_1, .string a0_2] 24 (0, 0)) (by (with_reducible repeat (first | refine blk_drewN ?_ _ | refine blk_drew ?_ | refine blk_alloc ?_ _)); refine blk_far ?_ NB198_249.out _; (with_reducible repeat (first | refine blk_drewN ?_ _ | refine blk_drew ?_ | refine blk_alloc ?_ _)); refine blk_far ?_ NB198_249.out _; (with_reducible repeat (first | refine blk_drewN ?_ _ | refine blk_drew ?_ | refine blk_alloc ?_ _)); refine blk_far ?_ NB198_249.out _; (with_reducible repeat (first | refine blk_drewN ?_ _ | refine blk_drew ?_ | refine blk_alloc ?_ _)); exact BK198.out) hb); have n6_ := Aside0.mk (blk_below (g := gb211) (o := .cells #[.slice Ao24 t205.length co24, .string t208, .string t209] 27 (0, 0)) (by (with_reducible repeat (first | refine blk_drewN ?_ _ | refine blk_drew ?_ | refine blk_alloc ?_ _)); refine blk_far ?_ NB211_249.out _; (with_reducible repeat (first | refine blk_drewN ?_ _ | refine blk_drew ?_ | refine blk_alloc ?_ _)); refine blk_far ?_ NB211_249.out _; (with_reducible repeat (first | refine blk_drewN ?_ _ | refine blk_drew ?_ | refine blk_alloc ?_ _)); refine blk_far ?_ NB211_249.out _; (with_reducible repeat (first | refine blk_drewN ?_ _ | refine blk_drew ?_ | refine blk_alloc ?_ _)); exact BK211.out) hb); have n7_ := Aside0.mk (blk_below (g := gb217) (o := .cells #[.slice Ao30 t233.length co30, .string t215, .string t216] 27 (0, 0)) (by (with_reducible repeat (first | refine blk_drewN ?_ _ | refine blk_drew ?_ | refine blk_alloc ?_ _)); refine blk_far ?_ NB217_249.out _; (with_reducible repeat (first | refine blk_drewN ?_ _ | refine blk_drew ?_ | refine blk_alloc ?_ _)); refine blk_far ?_ NB217_249.out _; (with_reducible repeat (first | refine blk_drewN ?_ _ | refine blk_drew ?_ | refine blk_alloc ?_ _)); refine blk_far ?_ NB217_249.out _; (with_reducible repeat (first | refine blk_drewN ?_ _ | refine blk_drew ?_ | refine blk_alloc ?_ _)); exact BK217.out) hb); have n8_ := Aside0.mk (blk_below (g := gb224) (o := .cells #[.slice Ao36 t218.length co36, .string t221, .string t222] 27 (0, 0)) (by (with_reducible repeat (first | refine blk_drewN ?_ _ | refine blk_drew ?_ | refine blk_alloc ?_ _)); refine blk_far ?_ NB224_249.out _; (with_reducible repeat (first | refine blk_drewN ?_ _ | refine blk_drew ?_ | refine blk_alloc ?_ _)); refine blk_far ?_ NB224_249.out _; (with_reducible repeat (first | refine blk_drewN ?_ _ | refine blk_drew ?_ | refine blk_alloc ?_ _)); refine blk_far ?_ NB224_249.out _; (with_reducible repeat (first | refine blk_drewN ?_ _ | refine blk_drew ?_ | refine blk_alloc ?_ _)); exact BK224.out) hb); have n9_ := Aside0.mk (blk_below (g := gb249) (o := .cells #[.slice Ao122 t243.length co122, .string t246, .string t247] 27 (0, 0)) (by (with_reducible repeat (first | refine blk_drewN ?_ _ | refine blk_drew ?_ | refine blk_alloc ?_ _)); refine blk_put (cs := #[.slice Ao122 t243.length co122, .string t246, .string (⟨#[]⟩ : ByteArray)]) ?_ 2 _ rfl; (with_reducible repeat (first | refine blk_drewN ?_ _ | refine blk_drew ?_ | refine blk_alloc ?_ _)); refine blk_put (cs := #[.slice Ao122 t243.length co122, .string (⟨#[]⟩ : ByteArray), .string (⟨#[]⟩ : ByteArray)]) ?_ 1 _ rfl; (with_reducible repeat (first | refine blk_drewN ?_ _ | refine blk_drew ?_ | refine blk_alloc ?_ _)); refine blk_put (cs := #[.slice none 0 0, .string (⟨#[]⟩ : ByteArray), .string (⟨#[]⟩ : ByteArray)]) ?_ 0 _ rfl; (with_reducible repeat (first | refine blk_drewN ?_ _ | refine blk_drew ?_ | refine blk_alloc ?_ _)); exact BK249.out) hb); have n10_ := Aside0.mk (below_step (by repeat (first | (with_reducible first | exact HB.out | apply below_alloc | apply pw_below_drewN | apply below_drew1 | refine below_set ?_ GE198.out | refine below_set ?_ GE211.out | refine below_set ?_ GE217.out | refine below_set ?_ GE224.out | refine below_set ?_ GE249.out) | exact HB.out)) hb); clear HO_212000; clear HO_218000; clear HO_225000; clear HO240; clear HO245; clear BK198; clear BK211; clear BK217; clear BK224; clear BK249; clear HB; have HO_212000 := n0_; have HO_218000 := n1_; have HO_225000 := n2_; have HO240 := n3_; have HO245 := n4_; have BK198 := n5_; have BK211 := n6_; have BK217 := n7_; have BK224 := n8_; have BK249 := n9_; have HB := n10_; clear n0_ n1_ n2_ n3_ n4_ n5_ n6_ n7_ n8_ n9_ n10_; (try clear hb); (try clear hb2); (try clear hk); (try clear hi)))
                            go_meet
                            case rel => exact ⟨_, (true), (by first | rfl | (simp; done) | (simp [*]; done)), H', ⟨by have := HJ14.out; have := HJ63.out; first | omega | exact Nat.le_refl _⟩, ⟨by (try simp only [hl218000_63]); (with_reducible repeat (first | apply Kd.R_alloc | apply Kd.R_drewN | apply Kd.R_drew)); exact Kd.R_mono HO_212000.out (fun _ hk => ⟨hk.1.1.1, ⟨hk.1.1.2, hk.2⟩⟩)⟩, ⟨by (try simp only [hl218000_63]); (with_reducible repeat (first | apply Kd.R_alloc | apply Kd.R_drewN | apply Kd.R_drew)); exact Kd.R_mono HO_218000.out (fun _ hk => ⟨hk.1.1.1, ⟨hk.1.1.2, hk.2⟩⟩)⟩, ⟨by (try simp only [hl218000_63]); (with_reducible repeat (first | apply Kd.R_alloc | apply Kd.R_drewN | apply Kd.R_drew)); exact Kd.R_mono HO_225000.out (fun _ hk => ⟨hk.1.1.1, ⟨hk.1.1.2, hk.2⟩⟩)⟩, ⟨by (try simp only [hl218000_63]); (with_reducible repeat (first | apply Kd.R_alloc | apply Kd.R_drewN | apply Kd.R_drew)); exact Kd.R_mono HO245.out (fun _ hk => ⟨hk.1.1.1.2, ⟨hk.1.1.2, hk.1.2⟩⟩)⟩, ⟨by (try simp only [hl218000_63]); (with_reducible repeat (first | refine blk_drewN ?_ _ | refine blk_drew ?_ | refine blk_alloc ?_ _)); exact BK198.out⟩, ⟨by (try simp only [hl218000_63]); (with_reducible repeat (first | refine blk_drewN ?_ _ | refine blk_drew ?_ | refine blk_alloc ?_ _)); exact BK211.out⟩, ⟨by (try simp only [hl218000_63]); (with_reducible repeat (first | refine blk_drewN ?_ _ | refine blk_drew ?_ | refine blk_alloc ?_ _)); exact BK217.out⟩, ⟨by (try simp only [hl218000_63]); (with_reducible repeat (first | refine blk_drewN ?_ _ | refine blk_drew ?_ | refine blk_alloc ?_ _)); exact BK224.out⟩, ⟨by (try simp only [hl218000_63]); (with_reducible repeat (first | refine blk_drewN ?_ _ | refine blk_drew ?_ | refine blk_alloc ?_ _)); exact BK249.out⟩, ⟨by repeat (first | (with_reducible first | exact HB.out | apply below_alloc | apply pw_below_drewN | apply below_drew1 | refine below_set ?_ GE198.out | refine below_set ?_ GE211.out | refine below_set ?_ GE217.out | refine below_set ?_ GE224.out | refine below_set ?_ GE249.out) | exact HB.out)⟩⟩
                        case rest =>
                          clear HC107
                          try clear c1
                          try clear c2
                          try clear p2
                          try clear c3
                          try clear c4
                          try clear c4b0
                          try clear c4b1
                          try clear c5
                          try clear c6
                          try clear c7
                          try clear c7b0
                          try clear c8
                          try clear c9
                          try clear c10
                          try clear c11
                          try clear c12
                          try clear c13
                          try clear c14
                          try clear c16
                          try clear c25
                          try clear c26
                          try clear c27
                          try clear c28
                          try clear c31
                          try clear c32
                          try clear c37
                          try clear c38
                          try clear c39
                          try clear c42
                          try clear c43
                          try clear c44
                          try clear c45
                          try clear c47
                          try clear c48
                          try clear c51
                          try clear c52
                          try clear c53
                          try clear c55
                          try clear c56
                          try clear c59
                          try clear c62
                          try clear c69
                          try clear c70
                          try clear c71
                          try clear c74
                          try clear c74b0
                          try clear c76
                          try clear c77
                          try clear c78
                          try clear c79
                          try clear c81
                          try clear c82
                          try clear c85
                          try clear c86
                          try clear c87
                          try clear c89
                          try clear c90
                          try clear c93
                          try clear c96
                          try clear c96b0
                          try clear c97
                          try clear c98
                          try clear c99
                          try clear c104
                          try clear c104b0
                          try clear c104b1
                          try clear c108
                          try clear c109
                          try clear c110
                          try clear c115
                          try clear c116
                          try clear c123
                          try clear c124
                          try clear c125
                          try clear c126
                          try clear c129
                          try clear c130
                          try clear c131
                          try clear c132
                          try clear c133
                          try clear c135
                          try clear c136
                          try clear c137
                          try clear c140
                          try clear c141
                          try clear c142
                          try clear c143
                          try clear c145
                          try clear c146
                          try clear c147
                          try clear hcz100_0
                          try clear hcz100_1
                          try clear hcz100_2
                          try clear hcz102_0
                          try clear hcz102_1
                          try clear hcz102_2
                          try clear hcz111_0
                          try clear hcz111_1
                          try clear hcz111_2
                          try clear hcz113_0
                          try clear hcz113_1
                          try clear hcz113_2
                          try clear hcz117_0
                          try clear hcz117_1
                          try clear hcz117_2
                          try clear hcz127_0
                          try clear hcz127_1
                          try clear hcz127_2
                          try clear hcz134_0
                          try clear hcz134_1
                          try clear hcz134_2
                          try clear hcz138_0
                          try clear hcz138_1
                          try clear hcz138_2
                          try clear hcz144_0
                          try clear hcz144_1
                          try clear hcz144_2
                          try clear hcz148_0
                          try clear hcz148_1
                          try clear hcz148_2
                          try clear hcz17_0
                          try clear hcz17_1
                          try clear hcz17_2
                          try clear hcz19_0
                          try clear hcz19_1
                          try clear hcz19_2
                          try clear hcz26_0
                          try clear hcz26_1
                          try clear hcz26_2
                          try clear hcz27_0
                          try clear hcz27_1
                          try clear hcz27_2
                          try clear hcz33_0
                          try clear hcz33_1
                          try clear hcz33_2
                          try clear hcz40_0
                          try clear hcz40_1
                          try clear hcz40_2
                          try clear hcz46_0
                          try clear hcz46_1
                          try clear hcz46_2
                          try clear hcz49_0
                          try clear hcz49_1
                          try clear hcz49_2
                          try clear hcz54_0
                          try clear hcz54_1
                          try clear hcz54_2
                          try clear hcz57_0
                          try clear hcz57_1
                          try clear hcz57_2
                          try clear hcz72_0
                          try clear hcz72_1
                          try clear hcz72_2
                          try clear hcz80_0
                          try clear hcz80_1
                          try clear hcz80_2
                          try clear hcz83_0
                          try clear hcz83_1
                          try clear hcz83_2
                          try clear hcz88_0
                          try clear hcz88_1
                          try clear hcz88_2
                          try clear hcz91_0
                          try clear hcz91_1
                          try clear hcz91_2
                          try clear hcz9_0
                          try clear hcz9_1
                          try clear hcz9_2
                          try clear hfz100_0
                          try clear hfz100_1
                          try clear hfz100_2
                          try clear hfz102_0
                          try clear hfz102_1
                          try clear hfz102_2
                          try clear hfz111_0
                          try clear hfz111_1
                          try clear hfz111_2
                          try clear hfz113_0
                          try clear hfz113_1
                          try clear hfz113_2
                          try clear hfz117_0
                          try clear hfz117_1
                          try clear hfz117_2
                          try clear hfz127_0
                          try clear hfz127_1
                          try clear hfz127_2
                          try clear hfz134_0
                          try clear hfz134_1
                          try clear hfz134_2
                          try clear hfz138_0
                          try clear hfz138_1
                          try clear hfz138_2
                          try clear hfz144_0
                          try clear hfz144_1
                          try clear hfz144_2
                          try clear hfz148_0
                          try clear hfz148_1
                          try clear hfz148_2
                          try clear hfz17_0
                          try clear hfz17_1
                          try clear hfz17_2
                          try clear hfz19_0
                          try clear hfz19_1
                          try clear hfz19_2
                          try clear hfz26_0
                          try clear hfz26_1
                          try clear hfz26_2
                          try clear hfz27_0
                          try clear hfz27_1
                          try clear hfz27_2
                          try clear hfz33_0
                          try clear hfz33_1
                          try clear hfz33_2
                          try clear hfz40_0
                          try clear hfz40_1
                          try clear hfz40_2
                          try clear hfz46_0
                          try clear hfz46_1
                          try clear hfz46_2
                          try clear hfz49_0
                          try clear hfz49_1
                          try clear hfz49_2
                          try clear hfz54_0
                          try clear hfz54_1
                          try clear hfz54_2
                          try clear hfz57_0
                          try clear hfz57_1
                          try clear hfz57_2
                          try clear hfz72_0
                          try clear hfz72_1
                          try clear hfz72_2
                          try clear hfz80_0
                          try clear hfz80_1
                          try clear hfz80_2
                          try clear hfz83_0
                          try clear hfz83_1
                          try clear hfz83_2
                          try clear hfz88_0
                          try clear hfz88_1
                          try clear hfz88_2
                          try clear hfz91_0
                          try clear hfz91_1
                          try clear hfz91_2
                          try clear hfz9_0
                          try clear hfz9_1
                          try clear hfz9_2
                          try clear p2
                          obtain ⟨kq, x100_106, rfl, HA, HJ106, HO_212000, HO_218000, HO_225000, HO_250000, BK198, BK211, BK217, BK224, BK249, HB⟩ := hcut
                          have hl225000_106 := (Kd.R_reads' HO_225000.out).1
                          rw [hl225000_106] at HO_225000
                          (try simp only [hl225000_106])
                          (try simp only [hl225000_106] at BK198)
                          (try simp only [hl225000_106] at BK211)
                          (try simp only [hl225000_106] at BK217)
                          (try simp only [hl225000_106] at BK224)
                          (try simp only [hl225000_106] at BK249)
                          (try simp only [hl225000_106] at HO_212000)
                          (try simp only [hl225000_106] at HO_218000)
                          (try simp only [hl225000_106] at HO_250000)
                          cases kq with
                          | zero => exact absurd HA.out (fun h_ => by change none = some _ at h_; cases h_)
                          | succ kj106 =>
                            have H := HA.out
                            clear HA
                            simp only [laws_FnExactUpdateStripe.j2] at H
                            by_cases c150 : x100_106 = true
                            · subst c150
                              have H1 : (some false) = some r := by rw [if_pos rfl] at H; exact H
                              clear H
                              have H := H1
                              clear H1
                              obtain rfl := Option.some.inj H
                              go_wp2
                              go_ret
                              exact ⟨by first | rfl | (simp [errW_none, errW_some] <;> rfl) | (simp [*, errW_none, errW_some] <;> rfl), by repeat (first | (with_reducible first | exact HB.out | apply below_alloc | apply pw_below_drewN | apply below_drew1 | refine below_set ?_ GE198.out | refine below_set ?_ GE211.out | refine below_set ?_ GE217.out | refine below_set ?_ GE224.out | refine below_set ?_ GE249.out) | exact HB.out)⟩
                            · replace c150 := Bool.eq_false_iff.mpr c150
                              subst c150
                              have H1 : ((laws_heldStripe.f kj106 t236 t221 t222 1).bind fun t251 => (if t251 < 0 then (some false) else (if t251 = t235 then (some true) else (some false)))) = some r := by rw [if_neg (show ¬ (false = true) by decide)] at H; exact H
                              clear H
                              have H := H1
                              clear H1
                              replace H := Option.bind_eq_some_iff.mp H
                              obtain ⟨t251, A1510, H⟩ := H
                              replace H : (if t251 < 0 then (some false) else (if t251 = t235 then (some true) else (some false))) = some r := H
                              have A151 := Aside0.mk A1510
                              clear A1510
                              by_cases c152 : t251 < 0
                              · rw [if_pos c152] at H
                                have c152b0 : decide (t251 < 0) = true := decide_eq_true c152
                                clear c152
                                obtain rfl := Option.some.inj H
                                have hnb153 := NB224_198.out
                                have hnc153 := NB198_224.out
                                have hnb154 := NB224_211.out
                                have hnc154 := NB211_224.out
                                have hnb155 := NB224_217.out
                                have hnc155 := NB217_224.out
                                have hnb156 := NB224_249.out
                                have hnc156 := NB249_224.out
                                have hcz157_0 : wc.cell? ⟨gb224, 0, none⟩ = some (.slice Ao36 t236.length co36) := (blk_cell BK224.out 0).trans rfl
                                have hcz157_1 : wc.cell? ⟨gb224, 1, none⟩ = some (.string t221) := (blk_cell BK224.out 1).trans rfl
                                have hcz157_2 : wc.cell? ⟨gb224, 2, none⟩ = some (.string t222) := (blk_cell BK224.out 2).trans rfl
                                have hfz157_0 := blk_frozen BK224.out 0
                                have hfz157_1 := blk_frozen BK224.out 1
                                have hfz157_2 := blk_frozen BK224.out 2
                                go_wp2_with (first | ((with_reducible refine gate_callee (f := 26) rfl ?_); refine goesL_ (some 103) rfl rfl Try.func26 (by kernel_rfl) rfl #[.agg #[.slice Ao36 t236.length co36, .string t221, .string t222], .int .i64 1] rfl (by (try simp only [List.map_toArray, List.map_cons, List.map_nil]); first | done | rfl | (simp only [List.length_drop, List.length_take]; rfl)) ?_; (with_reducible refine (laws_heldStripe.calls kj106 _ _ t236 t221 t222 1 t251 _ ?side1 ?side2 A151.out).mono ?_); (case side1 => repeat (first | exact (Kd.R_reads' HO_225000.out).2.2 | (with_reducible refine Kd.C_alloc ?_ _) | (with_reducible refine Kd.C_drewN ?_ _) | (with_reducible refine Kd.C_drew ?_))); (case side2 => exact (Kd.R_reads' HO_225000.out).2.1); rintro e w158 ⟨rfl, hb⟩; refine ⟨_, rfl, ?_⟩; have n0_ := Aside0.mk (Kd.R_below (by (with_reducible repeat (first | apply Kd.R_alloc | apply Kd.R_drewN | apply Kd.R_drew)); exact HO_212000.out) hb); have n1_ := Aside0.mk (Kd.R_below (by (with_reducible repeat (first | apply Kd.R_alloc | apply Kd.R_drewN | apply Kd.R_drew)); exact HO_218000.out) hb); have n2_ := Aside0.mk (Kd.R_below (by (with_reducible repeat (first | apply Kd.R_alloc | apply Kd.R_drewN | apply Kd.R_drew)); exact HO_225000.out) hb); have n3_ := Aside0.mk (Kd.R_below (by (with_reducible repeat (first | apply Kd.R_alloc | apply Kd.R_drewN | apply Kd.R_drew)); exact HO_250000.out) hb); have n4_ := Aside0.mk (blk_below (g := gb198) (o := .cells #[.slice A0_0 l0_0.length c0_0, .string a0_1, .string a0_2] 24 (0, 0)) (by (with_reducible repeat (first | refine blk_drewN ?_ _ | refine blk_drew ?_ | refine blk_alloc ?_ _)); exact BK198.out) hb); have n5_ := Aside0.mk (blk_below (g := gb211) (o := .cells #[.slice Ao24 t205.length co24, .string t208, .string t209] 27 (0, 0)) (by (with_reducible repeat (first | refine blk_drewN ?_ _ | refine blk_drew ?_ | refine blk_alloc ?_ _)); exact BK211.out) hb); have n6_ := Aside0.mk (blk_below (g := gb217) (o := .cells #[.slice Ao30 t233.length co30, .string t215, .string t216] 27 (0, 0)) (by (with_reducible repeat (first | refine blk_drewN ?_ _ | refine blk_drew ?_ | refine blk_alloc ?_ _)); exact BK217.out) hb); have n7_ := Aside0.mk (blk_below (g := gb224) (o := .cells #[.slice Ao36 t236.length co36, .string t221, .string t222] 27 (0, 0)) (by (with_reducible repeat (first | refine blk_drewN ?_ _ | refine blk_drew ?_ | refine blk_alloc ?_ _)); exact BK224.out) hb); have n8_ := Aside0.mk (blk_below (g := gb249) (o := .cells #[.slice Ao122 t243.length co122, .string t246, .string t247] 27 (0, 0)) (by (with_reducible repeat (first | refine blk_drewN ?_ _ | refine blk_drew ?_ | refine blk_alloc ?_ _)); exact BK249.out) hb); have n9_ := Aside0.mk (below_step (by repeat (first | (with_reducible first | exact HB.out | apply below_alloc | apply pw_below_drewN | apply below_drew1 | refine below_set ?_ GE198.out | refine below_set ?_ GE211.out | refine below_set ?_ GE217.out | refine below_set ?_ GE224.out | refine below_set ?_ GE249.out) | exact HB.out)) hb); clear HO_212000; clear HO_218000; clear HO_225000; clear HO_250000; clear BK198; clear BK211; clear BK217; clear BK224; clear BK249; clear HB; have HO_212000 := n0_; have HO_218000 := n1_; have HO_225000 := n2_; have HO_250000 := n3_; have BK198 := n4_; have BK211 := n5_; have BK217 := n6_; have BK224 := n7_; have BK249 := n8_; have HB := n9_; clear n0_ n1_ n2_ n3_ n4_ n5_ n6_ n7_ n8_ n9_; (try clear hb); (try clear hb2); (try clear hk); (try clear hi)))
                                go_ret
                                exact ⟨by first | rfl | (simp [errW_none, errW_some] <;> rfl) | (simp [*, errW_none, errW_some] <;> rfl), by repeat (first | (with_reducible first | exact HB.out | apply below_alloc | apply pw_below_drewN | apply below_drew1 | refine below_set ?_ GE198.out | refine below_set ?_ GE211.out | refine below_set ?_ GE217.out | refine below_set ?_ GE224.out | refine below_set ?_ GE249.out) | exact HB.out)⟩
                              · rw [if_neg c152] at H
                                have c152b0 : decide (t251 < 0) = false := decide_eq_false c152
                                clear c152
                                by_cases c159 : t251 = t235
                                · rw [if_pos c159] at H
                                  have c159b0 : (t251 == t235) = true := beq_iff_eq.mpr c159
                                  have c159b1 : (t251 != t235) = false := bne_eq_false_iff_eq.mpr c159
                                  clear c159
                                  obtain rfl := Option.some.inj H
                                  have hnb160 := NB224_198.out
                                  have hnc160 := NB198_224.out
                                  have hnb161 := NB224_211.out
                                  have hnc161 := NB211_224.out
                                  have hnb162 := NB224_217.out
                                  have hnc162 := NB217_224.out
                                  have hnb163 := NB224_249.out
                                  have hnc163 := NB249_224.out
                                  have hcz164_0 : wc.cell? ⟨gb224, 0, none⟩ = some (.slice Ao36 t236.length co36) := (blk_cell BK224.out 0).trans rfl
                                  have hcz164_1 : wc.cell? ⟨gb224, 1, none⟩ = some (.string t221) := (blk_cell BK224.out 1).trans rfl
                                  have hcz164_2 : wc.cell? ⟨gb224, 2, none⟩ = some (.string t222) := (blk_cell BK224.out 2).trans rfl
                                  have hfz164_0 := blk_frozen BK224.out 0
                                  have hfz164_1 := blk_frozen BK224.out 1
                                  have hfz164_2 := blk_frozen BK224.out 2
                                  go_wp2_with (first | ((with_reducible refine gate_callee (f := 26) rfl ?_); refine goesL_ (some 103) rfl rfl Try.func26 (by kernel_rfl) rfl #[.agg #[.slice Ao36 t236.length co36, .string t221, .string t222], .int .i64 1] rfl (by (try simp only [List.map_toArray, List.map_cons, List.map_nil]); first | done | rfl | (simp only [List.length_drop, List.length_take]; rfl)) ?_; (with_reducible refine (laws_heldStripe.calls kj106 _ _ t236 t221 t222 1 t251 _ ?side1 ?side2 A151.out).mono ?_); (case side1 => repeat (first | exact (Kd.R_reads' HO_225000.out).2.2 | (with_reducible refine Kd.C_alloc ?_ _) | (with_reducible refine Kd.C_drewN ?_ _) | (with_reducible refine Kd.C_drew ?_))); (case side2 => exact (Kd.R_reads' HO_225000.out).2.1); rintro e w165 ⟨rfl, hb⟩; refine ⟨_, rfl, ?_⟩; have n0_ := Aside0.mk (Kd.R_below (by (with_reducible repeat (first | apply Kd.R_alloc | apply Kd.R_drewN | apply Kd.R_drew)); exact HO_212000.out) hb); have n1_ := Aside0.mk (Kd.R_below (by (with_reducible repeat (first | apply Kd.R_alloc | apply Kd.R_drewN | apply Kd.R_drew)); exact HO_218000.out) hb); have n2_ := Aside0.mk (Kd.R_below (by (with_reducible repeat (first | apply Kd.R_alloc | apply Kd.R_drewN | apply Kd.R_drew)); exact HO_225000.out) hb); have n3_ := Aside0.mk (Kd.R_below (by (with_reducible repeat (first | apply Kd.R_alloc | apply Kd.R_drewN | apply Kd.R_drew)); exact HO_250000.out) hb); have n4_ := Aside0.mk (blk_below (g := gb198) (o := .cells #[.slice A0_0 l0_0.length c0_0, .string a0_1, .string a0_2] 24 (0, 0)) (by (with_reducible repeat (first | refine blk_drewN ?_ _ | refine blk_drew ?_ | refine blk_alloc ?_ _)); exact BK198.out) hb); have n5_ := Aside0.mk (blk_below (g := gb211) (o := .cells #[.slice Ao24 t205.length co24, .string t208, .string t209] 27 (0, 0)) (by (with_reducible repeat (first | refine blk_drewN ?_ _ | refine blk_drew ?_ | refine blk_alloc ?_ _)); exact BK211.out) hb); have n6_ := Aside0.mk (blk_below (g := gb217) (o := .cells #[.slice Ao30 t233.length co30, .string t215, .string t216] 27 (0, 0)) (by (with_reducible repeat (first | refine blk_drewN ?_ _ | refine blk_drew ?_ | refine blk_alloc ?_ _)); exact BK217.out) hb); have n7_ := Aside0.mk (blk_below (g := gb224) (o := .cells #[.slice Ao36 t236.length co36, .string t221, .string t222] 27 (0, 0)) (by (with_reducible repeat (first | refine blk_drewN ?_ _ | refine blk_drew ?_ | refine blk_alloc ?_ _)); exact BK224.out) hb); have n8_ := Aside0.mk (blk_below (g := gb249) (o := .cells #[.slice Ao122 t243.length co122, .string t246, .string t247] 27 (0, 0)) (by (with_reducible repeat (first | refine blk_drewN ?_ _ | refine blk_drew ?_ | refine blk_alloc ?_ _)); exact BK249.out) hb); have n9_ := Aside0.mk (below_step (by repeat (first | (with_reducible first | exact HB.out | apply below_alloc | apply pw_below_drewN | apply below_drew1 | refine below_set ?_ GE198.out | refine below_set ?_ GE211.out | refine below_set ?_ GE217.out | refine below_set ?_ GE224.out | refine below_set ?_ GE249.out) | exact HB.out)) hb); clear HO_212000; clear HO_218000; clear HO_225000; clear HO_250000; clear BK198; clear BK211; clear BK217; clear BK224; clear BK249; clear HB; have HO_212000 := n0_; have HO_218000 := n1_; have HO_225000 := n2_; have HO_250000 := n3_; have BK198 := n4_; have BK211 := n5_; have BK217 := n6_; have BK224 := n7_; have BK249 := n8_; have HB := n9_; clear n0_ n1_ n2_ n3_ n4_ n5_ n6_ n7_ n8_ n9_; (try clear hb); (try clear hb2); (try clear hk); (try clear hi)))
                                  go_ret
                                  exact ⟨by first | rfl | (simp [errW_none, errW_some] <;> rfl) | (simp [*, errW_none, errW_some] <;> rfl), by repeat (first | (with_reducible first | exact HB.out | apply below_alloc | apply pw_below_drewN | apply below_drew1 | refine below_set ?_ GE198.out | refine below_set ?_ GE211.out | refine below_set ?_ GE217.out | refine below_set ?_ GE224.out | refine below_set ?_ GE249.out) | exact HB.out)⟩
                                · rw [if_neg c159] at H
                                  have c159b0 : (t251 == t235) = false := beq_eq_false_iff_ne.mpr c159
                                  have c159b1 : (t251 != t235) = true := bne_iff_ne.mpr c159
                                  obtain rfl := Option.some.inj H
                                  have hnb166 := NB224_198.out
                                  have hnc166 := NB198_224.out
                                  have hnb167 := NB224_211.out
                                  have hnc167 := NB211_224.out
                                  have hnb168 := NB224_217.out
                                  have hnc168 := NB217_224.out
                                  have hnb169 := NB224_249.out
                                  have hnc169 := NB249_224.out
                                  have hcz170_0 : wc.cell? ⟨gb224, 0, none⟩ = some (.slice Ao36 t236.length co36) := (blk_cell BK224.out 0).trans rfl
                                  have hcz170_1 : wc.cell? ⟨gb224, 1, none⟩ = some (.string t221) := (blk_cell BK224.out 1).trans rfl
                                  have hcz170_2 : wc.cell? ⟨gb224, 2, none⟩ = some (.string t222) := (blk_cell BK224.out 2).trans rfl
                                  have hfz170_0 := blk_frozen BK224.out 0
                                  have hfz170_1 := blk_frozen BK224.out 1
                                  have hfz170_2 := blk_frozen BK224.out 2
                                  go_wp2_with (first | ((with_reducible refine gate_callee (f := 26) rfl ?_); refine goesL_ (some 103) rfl rfl Try.func26 (by kernel_rfl) rfl #[.agg #[.slice Ao36 t236.length co36, .string t221, .string t222], .int .i64 1] rfl (by (try simp only [List.map_toArray, List.map_cons, List.map_nil]); first | done | rfl | (simp only [List.length_drop, List.length_take]; rfl)) ?_; (with_reducible refine (laws_heldStripe.calls kj106 _ _ t236 t221 t222 1 t251 _ ?side1 ?side2 A151.out).mono ?_); (case side1 => repeat (first | exact (Kd.R_reads' HO_225000.out).2.2 | (with_reducible refine Kd.C_alloc ?_ _) | (with_reducible refine Kd.C_drewN ?_ _) | (with_reducible refine Kd.C_drew ?_))); (case side2 => exact (Kd.R_reads' HO_225000.out).2.1); rintro e w171 ⟨rfl, hb⟩; refine ⟨_, rfl, ?_⟩; have n0_ := Aside0.mk (Kd.R_below (by (with_reducible repeat (first | apply Kd.R_alloc | apply Kd.R_drewN | apply Kd.R_drew)); exact HO_212000.out) hb); have n1_ := Aside0.mk (Kd.R_below (by (with_reducible repeat (first | apply Kd.R_alloc | apply Kd.R_drewN | apply Kd.R_drew)); exact HO_218000.out) hb); have n2_ := Aside0.mk (Kd.R_below (by (with_reducible repeat (first | apply Kd.R_alloc | apply Kd.R_drewN | apply Kd.R_drew)); exact HO_225000.out) hb); have n3_ := Aside0.mk (Kd.R_below (by (with_reducible repeat (first | apply Kd.R_alloc | apply Kd.R_drewN | apply Kd.R_drew)); exact HO_250000.out) hb); have n4_ := Aside0.mk (blk_below (g := gb198) (o := .cells #[.slice A0_0 l0_0.length c0_0, .string a0_1, .string a0_2] 24 (0, 0)) (by (with_reducible repeat (first | refine blk_drewN ?_ _ | refine blk_drew ?_ | refine blk_alloc ?_ _)); exact BK198.out) hb); have n5_ := Aside0.mk (blk_below (g := gb211) (o := .cells #[.slice Ao24 t205.length co24, .string t208, .string t209] 27 (0, 0)) (by (with_reducible repeat (first | refine blk_drewN ?_ _ | refine blk_drew ?_ | refine blk_alloc ?_ _)); exact BK211.out) hb); have n6_ := Aside0.mk (blk_below (g := gb217) (o := .cells #[.slice Ao30 t233.length co30, .string t215, .string t216] 27 (0, 0)) (by (with_reducible repeat (first | refine blk_drewN ?_ _ | refine blk_drew ?_ | refine blk_alloc ?_ _)); exact BK217.out) hb); have n7_ := Aside0.mk (blk_below (g := gb224) (o := .cells #[.slice Ao36 t236.length co36, .string t221, .string t222] 27 (0, 0)) (by (with_reducible repeat (first | refine blk_drewN ?_ _ | refine blk_drew ?_ | refine blk_alloc ?_ _)); exact BK224.out) hb); have n8_ := Aside0.mk (blk_below (g := gb249) (o := .cells #[.slice Ao122 t243.length co122, .string t246, .string t247] 27 (0, 0)) (by (with_reducible repeat (first | refine blk_drewN ?_ _ | refine blk_drew ?_ | refine blk_alloc ?_ _)); exact BK249.out) hb); have n9_ := Aside0.mk (below_step (by repeat (first | (with_reducible first | exact HB.out | apply below_alloc | apply pw_below_drewN | apply below_drew1 | refine below_set ?_ GE198.out | refine below_set ?_ GE211.out | refine below_set ?_ GE217.out | refine below_set ?_ GE224.out | refine below_set ?_ GE249.out) | exact HB.out)) hb); clear HO_212000; clear HO_218000; clear HO_225000; clear HO_250000; clear BK198; clear BK211; clear BK217; clear BK224; clear BK249; clear HB; have HO_212000 := n0_; have HO_218000 := n1_; have HO_225000 := n2_; have HO_250000 := n3_; have BK198 := n4_; have BK211 := n5_; have BK217 := n6_; have BK224 := n7_; have BK249 := n8_; have HB := n9_; clear n0_ n1_ n2_ n3_ n4_ n5_ n6_ n7_ n8_ n9_; (try clear hb); (try clear hb2); (try clear hk); (try clear hi)))
                                  go_ret
                                  exact ⟨by first | rfl | (simp [errW_none, errW_some] <;> rfl) | (simp [*, errW_none, errW_some] <;> rfl), by repeat (first | (with_reducible first | exact HB.out | apply below_alloc | apply pw_below_drewN | apply below_drew1 | refine below_set ?_ GE198.out | refine below_set ?_ GE211.out | refine below_set ?_ GE217.out | refine below_set ?_ GE224.out | refine below_set ?_ GE249.out) | exact HB.out)⟩
                      · rw [if_neg c104] at H
                        have c104b0 : (t237 == t235) = false := beq_eq_false_iff_ne.mpr c104
                        have c104b1 : (t237 != t235) = true := bne_iff_ne.mpr c104
                        obtain rfl := Option.some.inj H
                        have hnb172 := NB224_198.out
                        have hnc172 := NB198_224.out
                        have hnb173 := NB224_211.out
                        have hnc173 := NB211_224.out
                        have hnb174 := NB224_217.out
                        have hnc174 := NB217_224.out
                        have hcz175_0 : wc.cell? ⟨gb224, 0, none⟩ = some (.slice Ao36 t218.length co36) := (blk_cell BK224.out 0).trans rfl
                        have hcz175_1 : wc.cell? ⟨gb224, 1, none⟩ = some (.string t221) := (blk_cell BK224.out 1).trans rfl
                        have hcz175_2 : wc.cell? ⟨gb224, 2, none⟩ = some (.string t222) := (blk_cell BK224.out 2).trans rfl
                        have hfz175_0 := blk_frozen BK224.out 0
                        have hfz175_1 := blk_frozen BK224.out 1
                        have hfz175_2 := blk_frozen BK224.out 2
                        go_wp2_with (first | ((with_reducible refine gate_callee (f := 25) rfl ?_); refine goesL_ (some 75) rfl rfl Try.func25 (by kernel_rfl) rfl #[.agg #[.slice Ao36 t218.length co36, .string t221, .string t222], .int .i64 1] rfl (by (try simp only [List.map_toArray, List.map_cons, List.map_nil]); first | done | rfl | (simp only [List.length_drop, List.length_take]; rfl)) ?_; (with_reducible refine (laws_markStripe.calls kj63 (fun k_ => some k_ = (.slice Ao36 t218.length co36 : Value).ownBlock) (.slice Ao36 t218.length co36) t218 t221 t222 1 t235 t236 w _ ?side1 ?side2 A94.out).mono ?_); (case side1 => repeat (first | (with_reducible first | exact HB.out | apply below_alloc | apply pw_below_drewN | apply below_drew1 | refine below_set ?_ GE198.out | refine below_set ?_ GE211.out | refine below_set ?_ GE217.out | refine below_set ?_ GE224.out) | exact HB.out)); (case side2 => exact Kd.R_tight rfl HO_225000.out); rintro e w176 ⟨rfl, hy0, hb, hkp⟩; refine ⟨_, rfl, ?_⟩; have n0_ := Aside0.mk (Kd.R_mono (ok' := fun k_ => some k_ ≠ (.slice Ao30 t233.length co30 : Value).ownBlock ∧ some k_ ≠ (.slice Ao36 t218.length co36 : Value).ownBlock) (Kd.R_keptB (HO_212000.out) hkp (fun k_ hk_ hs_ => (hk_.2) hs_)) (fun k_ hk_ => ⟨hk_.1.1, hk_.1.2⟩)); have n1_ := Aside0.mk (Kd.R_mono (ok' := fun k_ => some k_ ≠ (.slice Ao24 t205.length co24 : Value).ownBlock ∧ some k_ ≠ (.slice Ao36 t218.length co36 : Value).ownBlock) (Kd.R_keptB (HO_218000.out) hkp (fun k_ hk_ hs_ => (hk_.2) hs_)) (fun k_ hk_ => ⟨hk_.1.1, hk_.1.2⟩)); have n2_ := Aside0.mk (Kd.R_reok rfl hy0 (fun k_ e_ => HO_225000.out.1 k_ e_)); have n3_ := Aside0.mk (blk_kept (by (with_reducible repeat (first | refine blk_drewN ?_ _ | refine blk_drew ?_ | refine blk_alloc ?_ _)); exact BK198.out) hkp (fun hs_ => (fun e_ => (Kd.R_ne HO_225000.out BK198.out (by decide)) e_) hs_)); have n4_ := Aside0.mk (blk_kept (by (with_reducible repeat (first | refine blk_drewN ?_ _ | refine blk_drew ?_ | refine blk_alloc ?_ _)); exact BK211.out) hkp (fun hs_ => (fun e_ => (Kd.R_ne HO_225000.out BK211.out (by decide)) e_) hs_)); have n5_ := Aside0.mk (blk_kept (by (with_reducible repeat (first | refine blk_drewN ?_ _ | refine blk_drew ?_ | refine blk_alloc ?_ _)); exact BK217.out) hkp (fun hs_ => (fun e_ => (Kd.R_ne HO_225000.out BK217.out (by decide)) e_) hs_)); have n6_ := Aside0.mk (blk_kept (by (with_reducible repeat (first | refine blk_drewN ?_ _ | refine blk_drew ?_ | refine blk_alloc ?_ _)); exact BK224.out) hkp (fun hs_ => (fun e_ => (Kd.R_ne HO_225000.out BK224.out (by decide)) e_) hs_)); have n7_ := Aside0.mk (hb); clear HO_212000; clear HO_218000; clear HO_225000; clear BK198; clear BK211; clear BK217; clear BK224; clear HB; have HO_212000 := n0_; have HO_218000 := n1_; have HO_225000 := n2_; have BK198 := n3_; have BK211 := n4_; have BK217 := n5_; have BK224 := n6_; have HB := n7_; clear n0_ n1_ n2_ n3_ n4_ n5_ n6_ n7_; (try clear hb); (try clear hkp); (try clear hy0); have hcz177_0 : w176.cell? ⟨gb224, 0, none⟩ = some (.slice Ao36 t218.length co36) := (blk_cell BK224.out 0).trans rfl; have hcz177_1 : w176.cell? ⟨gb224, 1, none⟩ = some (.string t221) := (blk_cell BK224.out 1).trans rfl; have hcz177_2 : w176.cell? ⟨gb224, 2, none⟩ = some (.string t222) := (blk_cell BK224.out 2).trans rfl; have hfz177_0 := blk_frozen BK224.out 0; have hfz177_1 := blk_frozen BK224.out 1; have hfz177_2 := blk_frozen BK224.out 2) | ((with_reducible refine gate_callee (f := 26) rfl ?_); refine goesL_ (some 78) rfl rfl Try.func26 (by kernel_rfl) rfl #[.agg #[.slice Ao36 t236.length co36, .string t221, .string t222], .int .i64 1] rfl (by (try simp only [List.map_toArray, List.map_cons, List.map_nil]); first | done | (rw [show t236.length = t218.length from (Kd.R_reads' HO_225000.out).1.symm] <;> rfl) | rfl | (simp only [List.length_drop, List.length_take]; rfl)) ?_; (with_reducible refine (laws_heldStripe.calls kj63 _ _ t236 t221 t222 1 t237 _ ?side1 ?side2 A95.out).mono ?_); (case side1 => repeat (first | exact (Kd.R_reads' HO_225000.out).2.2 | (with_reducible refine Kd.C_alloc ?_ _) | (with_reducible refine Kd.C_drewN ?_ _) | (with_reducible refine Kd.C_drew ?_))); (case side2 => rw [show t236.length = t218.length from (Kd.R_reads' HO_225000.out).1.symm]; exact (Kd.R_reads' HO_225000.out).2.1); rintro e w178 ⟨rfl, hb⟩; refine ⟨_, rfl, ?_⟩; have n0_ := Aside0.mk (Kd.R_below (by (with_reducible repeat (first | apply Kd.R_alloc | apply Kd.R_drewN | apply Kd.R_drew)); exact HO_212000.out) hb); have n1_ := Aside0.mk (Kd.R_below (by (with_reducible repeat (first | apply Kd.R_alloc | apply Kd.R_drewN | apply Kd.R_drew)); exact HO_218000.out) hb); have n2_ := Aside0.mk (Kd.R_below (by (with_reducible repeat (first | apply Kd.R_alloc | apply Kd.R_drewN | apply Kd.R_drew)); exact HO_225000.out) hb); have n3_ := Aside0.mk (blk_below (g := gb198) (o := .cells #[.slice A0_0 l0_0.length c0_0, .string a0_1, .string a0_2] 24 (0, 0)) (by (with_reducible repeat (first | refine blk_drewN ?_ _ | refine blk_drew ?_ | refine blk_alloc ?_ _)); exact BK198.out) hb); have n4_ := Aside0.mk (blk_below (g := gb211) (o := .cells #[.slice Ao24 t205.length co24, .string t208, .string t209] 27 (0, 0)) (by (with_reducible repeat (first | refine blk_drewN ?_ _ | refine blk_drew ?_ | refine blk_alloc ?_ _)); exact BK211.out) hb); have n5_ := Aside0.mk (blk_below (g := gb217) (o := .cells #[.slice Ao30 t233.length co30, .string t215, .string t216] 27 (0, 0)) (by (with_reducible repeat (first | refine blk_drewN ?_ _ | refine blk_drew ?_ | refine blk_alloc ?_ _)); exact BK217.out) hb); have n6_ := Aside0.mk (blk_below (g := gb224) (o := .cells #[.slice Ao36 t218.length co36, .string t221, .string t222] 27 (0, 0)) (by (with_reducible repeat (first | refine blk_drewN ?_ _ | refine blk_drew ?_ | refine blk_alloc ?_ _)); exact BK224.out) hb); have n7_ := Aside0.mk (below_step (by repeat (first | (with_reducible first | exact HB.out | apply below_alloc | apply pw_below_drewN | apply below_drew1 | refine below_set ?_ GE198.out | refine below_set ?_ GE211.out | refine below_set ?_ GE217.out | refine below_set ?_ GE224.out) | exact HB.out)) hb); clear HO_212000; clear HO_218000; clear HO_225000; clear BK198; clear BK211; clear BK217; clear BK224; clear HB; have HO_212000 := n0_; have HO_218000 := n1_; have HO_225000 := n2_; have BK198 := n3_; have BK211 := n4_; have BK217 := n5_; have BK224 := n6_; have HB := n7_; clear n0_ n1_ n2_ n3_ n4_ n5_ n6_ n7_; (try clear hb); (try clear hb2); (try clear hk); (try clear hi)))
                        go_ret
                        exact ⟨by first | rfl | (simp [errW_none, errW_some] <;> rfl) | (simp [*, errW_none, errW_some] <;> rfl), by repeat (first | (with_reducible first | exact HB.out | apply below_alloc | apply pw_below_drewN | apply below_drew1 | refine below_set ?_ GE198.out | refine below_set ?_ GE211.out | refine below_set ?_ GE217.out | refine below_set ?_ GE224.out) | exact HB.out)⟩
            · replace c62 := Bool.eq_false_iff.mpr c62
              subst c62
              have H1 : (some false) = some r := by rw [if_neg (show ¬ (false = true) by decide)] at H; exact H
              clear H
              have H := H1
              clear H1
              obtain rfl := Option.some.inj H
              try go_wp2
              have n0_ := Aside0.mk (Kd.R_drew HO_212000.out)
              have n1_ := Aside0.mk (Kd.R_drew HO_218000.out)
              have n2_ := Aside0.mk (Kd.R_drew HO_225000.out)
              have n3_ := Aside0.mk (blk_drew BK198.out)
              have n4_ := Aside0.mk (blk_drew BK211.out)
              have n5_ := Aside0.mk (blk_drew BK217.out)
              have n6_ := Aside0.mk (blk_drew BK224.out)
              have n7_ := Aside0.mk (below_drew1 HB.out)
              clear HO_212000
              clear HO_218000
              clear HO_225000
              clear BK198
              clear BK211
              clear BK217
              clear BK224
              clear HB
              have HO_212000 := n0_
              have HO_218000 := n1_
              have HO_225000 := n2_
              have BK198 := n3_
              have BK211 := n4_
              have BK217 := n5_
              have BK224 := n6_
              have HB := n7_
              clear n0_ n1_ n2_ n3_ n4_ n5_ n6_ n7_
              refine start_ (n := 5) (S := fun w' => w'.cell? ⟨gb217, 0, none⟩ = some (.slice Ao30 t212.length co30) ∧ w'.cell? ⟨gb217, 1, none⟩ = some (.string t215) ∧ w'.cell? ⟨gb217, 2, none⟩ = some (.string t216) ∧ w'.cell? ⟨gb198, 0, none⟩ = some (.slice A0_0 l0_0.length c0_0) ∧ w'.cell? ⟨gb198, 1, none⟩ = some (.string a0_1) ∧ w'.cell? ⟨gb198, 2, none⟩ = some (.string a0_2)) (ds := []) #[false, false, false, false, false] (by kernel_rfl) rfl rfl ⟨(blk_cell BK217.out 0).trans rfl, (blk_cell BK217.out 1).trans rfl, (blk_cell BK217.out 2).trans rfl, (blk_cell BK198.out 0).trans rfl, (blk_cell BK198.out 1).trans rfl, (blk_cell BK198.out 2).trans rfl⟩ (fun hHeld => ?_)
              generalize wc.drew = w179 at HO_212000 HO_218000 HO_225000 BK198 BK211 BK217 BK224 HB hHeld ⊢
              refine take_ (i := 0) (N := some 52) (v := ?_) (a' := ?_) #[true, false, false, false, false] rfl rfl (by kernel_rfl) (fun _ _ _ h => h) (Or.inl ⟨by rfl, ?_⟩) hHeld ?_ ?_
              rotate_left
              · rintro w' ⟨s0, s1, s2, s3, s4, s5⟩
                go_simp
                with_reducible rfl
              rotate_left
              · simp only [Act.put, List.setIfInBounds_toArray, List.set_cons_zero, List.set_cons_succ, i64_w, i32_w]
                rfl
              refine take_ (i := 1) (N := some 53) (v := ?_) (a' := ?_) #[true, true, false, false, false] rfl rfl (by kernel_rfl) (fun _ _ _ h => h) (Or.inl ⟨by rfl, ?_⟩) hHeld ?_ ?_
              rotate_left
              · rintro w' ⟨s0, s1, s2, s3, s4, s5⟩
                go_simp
                with_reducible rfl
              rotate_left
              · simp only [Act.put, List.setIfInBounds_toArray, List.set_cons_zero, List.set_cons_succ, i64_w, i32_w]
                rfl
              refine one_ (i := 2) (N := some 54) #[true, true, true, false, false] rfl rfl (by kernel_rfl) (by decide) (fun K hK => ?_)
              refine goes_ Try.func14 (by kernel_rfl) rfl #[.agg #[.slice A0_0 l0_0.length c0_0, .string a0_1, .string a0_2]] (by rfl) rfl rfl (by (try simp only [List.map_toArray, List.map_cons, List.map_nil]); first | done | rfl | (simp only [List.length_drop, List.length_take]; rfl)) ?_
              with_reducible refine (laws_toStripe.calls kj14 _ _ l0_0 a0_1 a0_2 t226 t229 t230 _ ?side1 ?side2 A60.out).mono ?_
              (case side1 => repeat (first | exact (Kd.C_below HR0_0.out HB.out) | (with_reducible refine Kd.C_alloc ?_ _) | (with_reducible refine Kd.C_drewN ?_ _) | (with_reducible refine Kd.C_drew ?_)))
              (case side2 => exact HC0_0.out)
              rintro e w180 ⟨v227, rfl, ho0, hb⟩
              refine ⟨_, rfl, ?_⟩
              have n0_ := Aside0.mk (Kd.R_elder' (by (with_reducible repeat (first | apply Kd.R_alloc | apply Kd.R_drewN | apply Kd.R_drew)); exact HO_212000.out) (Kd.R_base ho0) hb)
              have n1_ := Aside0.mk (Kd.R_elder' (by (with_reducible repeat (first | apply Kd.R_alloc | apply Kd.R_drewN | apply Kd.R_drew)); exact HO_218000.out) (Kd.R_base ho0) hb)
              have n2_ := Aside0.mk (Kd.R_elder' (by (with_reducible repeat (first | apply Kd.R_alloc | apply Kd.R_drewN | apply Kd.R_drew)); exact HO_225000.out) (Kd.R_base ho0) hb)
              have n3_ := Aside0.mk (Kd.R_lower (Kd.R_new' (Kd.R_new' (Kd.R_new' ho0 (Kd.R_lt (by (with_reducible repeat (first | apply Kd.R_alloc | apply Kd.R_drewN | apply Kd.R_drew)); exact HO_212000.out))) (Kd.R_lt (by (with_reducible repeat (first | apply Kd.R_alloc | apply Kd.R_drewN | apply Kd.R_drew)); exact HO_218000.out))) (Kd.R_lt (by (with_reducible repeat (first | apply Kd.R_alloc | apply Kd.R_drewN | apply Kd.R_drew)); exact HO_225000.out))) (below_size (by repeat (first | (with_reducible first | exact HB.out | apply below_alloc | apply pw_below_drewN | apply below_drew1 | refine below_set ?_ GE198.out | refine below_set ?_ GE211.out | refine below_set ?_ GE217.out | refine below_set ?_ GE224.out) | exact HB.out))))
              have n4_ := Aside0.mk (blk_below (g := gb198) (o := .cells #[.slice A0_0 l0_0.length c0_0, .string a0_1, .string a0_2] 24 (0, 0)) (by (with_reducible repeat (first | refine blk_drewN ?_ _ | refine blk_drew ?_ | refine blk_alloc ?_ _)); exact BK198.out) hb)
              have n5_ := Aside0.mk (blk_below (g := gb211) (o := .cells #[.slice Ao24 t205.length co24, .string t208, .string t209] 27 (0, 0)) (by (with_reducible repeat (first | refine blk_drewN ?_ _ | refine blk_drew ?_ | refine blk_alloc ?_ _)); exact BK211.out) hb)
              have n6_ := Aside0.mk (blk_below (g := gb217) (o := .cells #[.slice Ao30 t212.length co30, .string t215, .string t216] 27 (0, 0)) (by (with_reducible repeat (first | refine blk_drewN ?_ _ | refine blk_drew ?_ | refine blk_alloc ?_ _)); exact BK217.out) hb)
              have n7_ := Aside0.mk (blk_below (g := gb224) (o := .cells #[.slice Ao36 t218.length co36, .string t221, .string t222] 27 (0, 0)) (by (with_reducible repeat (first | refine blk_drewN ?_ _ | refine blk_drew ?_ | refine blk_alloc ?_ _)); exact BK224.out) hb)
              have n8_ := Aside0.mk (below_step (by repeat (first | (with_reducible first | exact HB.out | apply below_alloc | apply pw_below_drewN | apply below_drew1 | refine below_set ?_ GE198.out | refine below_set ?_ GE211.out | refine below_set ?_ GE217.out | refine below_set ?_ GE224.out) | exact HB.out)) hb)
              clear HO_212000
              clear HO_218000
              clear HO_225000
              clear BK198
              clear BK211
              clear BK217
              clear BK224
              clear HB
              have HO_212000 := n0_
              have HO_218000 := n1_
              have HO_225000 := n2_
              have HO228 := n3_
              have BK198 := n4_
              have BK211 := n5_
              have BK217 := n6_
              have BK224 := n7_
              have HB := n8_
              clear n0_ n1_ n2_ n3_ n4_ n5_ n6_ n7_ n8_
              (try clear hb)
              (try clear hb2)
              (try clear hk)
              (try clear hi)
              (try clear ho0)
              obtain ⟨Ao181, co181, eo181⟩ := Kd.R_slice HO228.out
              (first | subst eo181 | (injection eo181 with f1_ f2_ f3_; have f4_ := f1_.symm; have f5_ := f3_.symm; clear f1_ f2_ f3_; subst f4_; subst f5_))
              refine hK.out _ _ ⟨(blk_cell BK217.out 0).trans rfl, (blk_cell BK217.out 1).trans rfl, (blk_cell BK217.out 2).trans rfl, (blk_cell BK198.out 0).trans rfl, (blk_cell BK198.out 1).trans rfl, (blk_cell BK198.out 2).trans rfl⟩ (fun hHeld => ?_)
              clear hK K
              refine norm_ (a' := ?_) ?_ ?_
              rotate_left
              · show Act.put _ (some 54) _ = _
                simp only [Act.put, List.setIfInBounds_toArray, List.set_cons_zero, List.set_cons_succ, i64_w, i32_w]
                rfl
              refine one_ (i := 3) (N := some 55) #[true, true, true, true, false] rfl rfl (by kernel_rfl) (by decide) (fun K hK => ?_)
              refine goes_ Try.func16 (by kernel_rfl) rfl #[.agg #[.slice Ao30 t212.length co30, .string t215, .string t216], .agg #[.slice Ao181 t226.length co181, .string t229, .string t230]] (by rfl) rfl rfl (by (try simp only [List.map_toArray, List.map_cons, List.map_nil]); first | done | rfl | (simp only [List.length_drop, List.length_take]; rfl)) ?_
              with_reducible refine (laws_eqStripe.calls kj14 _ _ t212 t215 t216 _ _ t226 t229 t230 false _ ?side1 ?side2 ?side3 ?side4 A61.out).mono ?_
              (case side1 => repeat (first | exact (Kd.R_reads' HO_218000.out).2.2 | (with_reducible refine Kd.C_alloc ?_ _) | (with_reducible refine Kd.C_drewN ?_ _) | (with_reducible refine Kd.C_drew ?_)))
              (case side2 => exact (Kd.R_reads' HO_218000.out).2.1)
              (case side3 => repeat (first | exact (Kd.R_reads' HO228.out).2.2 | (with_reducible refine Kd.C_alloc ?_ _) | (with_reducible refine Kd.C_drewN ?_ _) | (with_reducible refine Kd.C_drew ?_)))
              (case side4 => exact (Kd.R_reads' HO228.out).2.1)
              rintro e w182 ⟨rfl, hb⟩
              refine ⟨_, rfl, ?_⟩
              have n0_ := Aside0.mk (Kd.R_below (by (with_reducible repeat (first | apply Kd.R_alloc | apply Kd.R_drewN | apply Kd.R_drew)); exact HO_212000.out) hb)
              have n1_ := Aside0.mk (Kd.R_below (by (with_reducible repeat (first | apply Kd.R_alloc | apply Kd.R_drewN | apply Kd.R_drew)); exact HO_218000.out) hb)
              have n2_ := Aside0.mk (Kd.R_below (by (with_reducible repeat (first | apply Kd.R_alloc | apply Kd.R_drewN | apply Kd.R_drew)); exact HO_225000.out) hb)
              have n3_ := Aside0.mk (Kd.R_below (by (with_reducible repeat (first | apply Kd.R_alloc | apply Kd.R_drewN | apply Kd.R_drew)); exact HO228.out) hb)
              have n4_ := Aside0.mk (blk_below (g := gb198) (o := .cells #[.slice A0_0 l0_0.length c0_0, .string a0_1, .string a0_2] 24 (0, 0)) (by (with_reducible repeat (first | refine blk_drewN ?_ _ | refine blk_drew ?_ | refine blk_alloc ?_ _)); exact BK198.out) hb)
              have n5_ := Aside0.mk (blk_below (g := gb211) (o := .cells #[.slice Ao24 t205.length co24, .string t208, .string t209] 27 (0, 0)) (by (with_reducible repeat (first | refine blk_drewN ?_ _ | refine blk_drew ?_ | refine blk_alloc ?_ _)); exact BK211.out) hb)
              have n6_ := Aside0.mk (blk_below (g := gb217) (o := .cells #[.slice Ao30 t212.length co30, .string t215, .string t216] 27 (0, 0)) (by (with_reducible repeat (first | refine blk_drewN ?_ _ | refine blk_drew ?_ | refine blk_alloc ?_ _)); exact BK217.out) hb)
              have n7_ := Aside0.mk (blk_below (g := gb224) (o := .cells #[.slice Ao36 t218.length co36, .string t221, .string t222] 27 (0, 0)) (by (with_reducible repeat (first | refine blk_drewN ?_ _ | refine blk_drew ?_ | refine blk_alloc ?_ _)); exact BK224.out) hb)
              have n8_ := Aside0.mk (below_step (by repeat (first | (with_reducible first | exact HB.out | apply below_alloc | apply pw_below_drewN | apply below_drew1 | refine below_set ?_ GE198.out | refine below_set ?_ GE211.out | refine below_set ?_ GE217.out | refine below_set ?_ GE224.out) | exact HB.out)) hb)
              clear HO_212000
              clear HO_218000
              clear HO_225000
              clear HO228
              clear BK198
              clear BK211
              clear BK217
              clear BK224
              clear HB
              have HO_212000 := n0_
              have HO_218000 := n1_
              have HO_225000 := n2_
              have HO228 := n3_
              have BK198 := n4_
              have BK211 := n5_
              have BK217 := n6_
              have BK224 := n7_
              have HB := n8_
              clear n0_ n1_ n2_ n3_ n4_ n5_ n6_ n7_ n8_
              (try clear hb)
              (try clear hb2)
              (try clear hk)
              (try clear hi)
              refine hK.out _ _ ⟨(blk_cell BK217.out 0).trans rfl, (blk_cell BK217.out 1).trans rfl, (blk_cell BK217.out 2).trans rfl, (blk_cell BK198.out 0).trans rfl, (blk_cell BK198.out 1).trans rfl, (blk_cell BK198.out 2).trans rfl⟩ (fun hHeld => ?_)
              clear hK K
              refine norm_ (a' := ?_) ?_ ?_
              rotate_left
              · show Act.put _ (some 55) _ = _
                simp only [Act.put, List.setIfInBounds_toArray, List.set_cons_zero, List.set_cons_succ, i64_w, i32_w]
                rfl
              refine pure_ (i := 4) (N := some 56) (v := ?_) (a' := ?_) #[true, true, true, true, true] rfl rfl (by kernel_rfl) (fun _ _ _ h => h) (Or.inl ⟨by rfl, ?_⟩) ?_ ?_
              rotate_left
              · intro w'
                go_simp
                with_reducible rfl
              rotate_left
              · simp only [Act.put, List.setIfInBounds_toArray, List.set_cons_zero, List.set_cons_succ, i64_w, i32_w]
                rfl
              refine done_ (by kernel_rfl) ?_
              try go_wp2
              go_ret
              exact ⟨by first | rfl | (simp [errW_none, errW_some] <;> rfl) | (simp [*, errW_none, errW_some] <;> rfl), by repeat (first | (with_reducible first | exact HB.out | apply below_alloc | apply pw_below_drewN | apply below_drew1 | refine below_set ?_ GE198.out | refine below_set ?_ GE211.out | refine below_set ?_ GE217.out | refine below_set ?_ GE224.out) | exact HB.out)⟩

/-- The one pure statement of laws_FnExactUpdateStripe. -/
def laws_FnExactUpdateStripe.PureG : Prop := ∀ (l0_0 : List ByteArray) (a0_1 : ByteArray) (a0_2 : ByteArray) (a1 : Int) (a2 : ByteArray), (l0_0.length ≤ maxLen ∧ ∀ x_ ∈ l0_0, x_.size ≤ maxLen) → a0_1.size ≤ maxLen → a0_2.size ≤ maxLen → (Lit.int .i64 a1).wf = true → a2.size ≤ maxLen → ∃ k, laws_FnExactUpdateStripe.f k l0_0 a0_1 a0_2 a1 a2 = some true

end Go.Proofs.Ytfijnlhklfmoeaa.PFnExactUpdateStripe
