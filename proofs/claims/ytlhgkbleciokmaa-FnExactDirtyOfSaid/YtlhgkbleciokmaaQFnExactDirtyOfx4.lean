/- The walks of FnExactDirtyOf: Go's calls come to what the Lean functions beside them say; no condition. -/
import Derived.Test.YtlhgkbleciokmaaQFnExactDirtyOfx0
import Derived.Test.YtlhgkbleciokmaaQFnExactDirtyOfx3
namespace Go.Proofs.Ytlhgkbleciokmaa.PFnExactDirtyOf
open Go.RowKit Go.Proofs.YtlhgkbleciokmaaW.PrintWords Go.Proofs.YtlhgkbleciokmaaW.PrintLast Go.Proofs.YtlhgkbleciokmaaW.PrintMore
attribute [local go_sem] max2_int min2_int max_two min_two max_three min_three max_four min_four   -- for this text's walks alone
set_option linter.unusedVariables false
set_option linter.unusedSimpArgs false
set_option maxRecDepth 100000

/-! ### spec_DirtyOf: function 43 -/
def spec_DirtyOf.l0 : Nat → List Int → List (S42) → Int → Int → Option (List Int × Bool)
  | 0, _, _, _, _ => none
  | k + 1, x4, x11, x12, x13 => if x13 < x12 then (if 0 ≤ x13 then (if x13 < (x11.length : Int) then ((spec_l1Put.f k x4 ((rd_T42 x11 x13).f0)).bind fun t204 => (spec_DirtyOf.l0 k t204 x11 x12 (wrap64 (x13 + 1)))) else (none)) else (none)) else (some (x4, true))
def spec_DirtyOf.f (k : Nat) (l0_0 : List ByteArray) (l0_1 : List (S42)) : Option (List Int × Bool) := (spec_GoodDevice.f k l0_0 l0_1).bind fun t201 => (if t201 = true then (spec_DirtyOf.l0 k ([] : List Int) l0_1 (l0_1.length : Int) 0) else (some (([] : List Int), false)))
theorem spec_DirtyOf.mono_l : ∀ k, (∀ y0 y1 y2 y3, LeO (spec_DirtyOf.l0 k y0 y1 y2 y3) (spec_DirtyOf.l0 (k + 1) y0 y1 y2 y3))
  | 0 => fun _ _ _ _ r h => by change none = some r at h; cases h
  | k + 1 => by
    have ih0 := spec_DirtyOf.mono_l k
    · intro y0 y1 y2 y3
      unfold spec_DirtyOf.l0
      repeat' first
      | (with_reducible exact ih0 _ _ _ _)
      | (with_reducible exact spec_GoodDevice.mono _ _ _)
      | (with_reducible exact spec_l1Put.mono _ _ _)
      | (with_reducible exact LeO.refl _)
      | (with_reducible exact LeO.none _)
      | (with_reducible refine LeO.ite ?_ ?_)
      | (with_reducible refine LeO.bind ?_ (fun _ => ?_))
      | exact ih0 _ _ _ _
      | exact spec_GoodDevice.mono _ _ _
      | exact spec_l1Put.mono _ _ _
      | exact LeO.none _
      | refine LeO.ite ?_ ?_
      | refine LeO.bind ?_ (fun _ => ?_)
theorem spec_DirtyOf.mono : ∀ a0 a1 k, LeO (spec_DirtyOf.f k a0 a1) (spec_DirtyOf.f (k + 1) a0 a1) := by
  intro a0 a1 k
  have ih0 := spec_DirtyOf.mono_l k
  unfold spec_DirtyOf.f
  repeat' first
      | (with_reducible exact ih0 _ _ _ _)
      | (with_reducible exact spec_GoodDevice.mono _ _ _)
      | (with_reducible exact spec_l1Put.mono _ _ _)
      | (with_reducible exact LeO.refl _)
      | (with_reducible exact LeO.none _)
      | (with_reducible refine LeO.ite ?_ ?_)
      | (with_reducible refine LeO.bind ?_ (fun _ => ?_))
      | exact ih0 _ _ _ _
      | exact spec_GoodDevice.mono _ _ _
      | exact spec_l1Put.mono _ _ _
      | exact LeO.none _
      | refine LeO.ite ?_ ?_
      | refine LeO.bind ?_ (fun _ => ?_)
set_option maxHeartbeats 8000000 in
set_option maxRecDepth 100000 in
theorem spec_DirtyOf.calls (k : Nat) (A0_0 : Option Addr) (c0_0 : Nat) (l0_0 : List ByteArray) (A0_1 : Option Addr) (c0_1 : Nat) (l0_1 : List (S42)) (r1 : List Int) (r2 : Bool) (w : World) (hr0_0 : Kd.C Kd.string w A0_0 l0_0.length l0_0) (hc0_0 : l0_0.length ≤ c0_0) (hr0_1 : Kd.C k42 w A0_1 l0_1.length l0_1) (hc0_1 : l0_1.length ≤ c0_1) (h : spec_DirtyOf.f k l0_0 l0_1 = some (r1, r2)) :
    Calls Try.prog 43 #[.agg #[.slice A0_0 l0_0.length c0_0, .slice A0_1 l0_1.length c0_1]] w fun e w' => ∃ v0_ : Value, e = .returned (.tuple #[v0_, .bool r2]) ∧ Kd.R (Kd.int .i64) 3 w' w.heap.size (fun _ => True) v0_ r1 ∧ Below w.heap.size w w' := by
  have hu30 := Try.underlying30
  have hu42 := Try.underlying42
  have HR0_0 := Aside0.mk hr0_0
  have HC0_0 := Aside0.mk hc0_0
  clear hr0_0 hc0_0
  have HR0_1 := Aside0.mk hr0_1
  have HC0_1 := Aside0.mk hc0_1
  clear hr0_1 hc0_1
  have HB := Aside0.mk (Below.refl w.heap.size w)
  have H : ((spec_GoodDevice.f k l0_0 l0_1).bind fun t201 => (if t201 = true then (spec_DirtyOf.l0 k ([] : List Int) l0_1 (l0_1.length : Int) 0) else (some (([] : List Int), false)))) = some (r1, r2) := h
  clear h
  replace H := Option.bind_eq_some_iff.mp H
  obtain ⟨t201, A20, H⟩ := H
  replace H : (if t201 = true then (spec_DirtyOf.l0 k ([] : List Int) l0_1 (l0_1.length : Int) 0) else (some (([] : List Int), false))) = some (r1, r2) := H
  have A2 := Aside0.mk A20
  clear A20
  by_cases c3 : t201 = true
  · subst c3
    have H1 : (spec_DirtyOf.l0 k ([] : List Int) l0_1 (l0_1.length : Int) 0) = some (r1, r2) := by rw [if_pos rfl] at H; exact H
    clear H
    have H := H1
    clear H1
    have H' := Aside0.mk H
    clear H
    go_enter Try.func43, Try.ntmps43
    go_wp2_with (first | ((with_reducible refine gate_dst (N := 1) rfl ?_); refine box_event ?hg (N := 1) ?hd (cs := #[.slice A0_0 l0_0.length c0_0, .slice A0_1 l0_1.length c0_1]) (t := 30) ?hr ?_; (case hd => rfl); (case hg => rfl); (case hr => first | (go_simp; done) | (go_simp; rfl)); intro gb200 hg w4 hbox hb; have n0_ := Aside0.mk (below_step (by repeat (first | (with_reducible first | exact HB.out | apply below_alloc | apply pw_below_drewN | apply below_drew1) | exact HB.out)) hb); have n1_ := Aside0.mk (hbox); have n2_ := Aside0.mk ((by rw [hg]; exact (below_size (by repeat (first | (with_reducible first | exact HB.out | apply below_alloc | apply pw_below_drewN | apply below_drew1) | exact HB.out))) : w.heap.size ≤ gb200)); have n3_ := Aside0.mk ((by rw [hg]; exact (below_size (by repeat (first | (with_reducible first | exact HB.out | apply below_alloc | apply pw_below_drewN | apply below_drew1) | exact HB.out))) : w.heap.size ≤ gb200)); clear HB; have HB := n0_; have BK200 := n1_; have GW200 := n2_; have GE200 := n3_; clear n0_ n1_ n2_ n3_; clear hb hbox hg; have hcz5_0 : w4.cell? ⟨gb200, 0, none⟩ = some (.slice A0_0 l0_0.length c0_0) := (blk_cell BK200.out 0).trans rfl; have hcz5_1 : w4.cell? ⟨gb200, 1, none⟩ = some (.slice A0_1 l0_1.length c0_1) := (blk_cell BK200.out 1).trans rfl; have hfz5_0 := blk_frozen BK200.out 0; have hfz5_1 := blk_frozen BK200.out 1) | ((with_reducible refine gate_callee (f := 14) rfl ?_); refine goesL_ (some 8) rfl rfl Try.func14 (by kernel_rfl) rfl #[.agg #[.slice A0_0 l0_0.length c0_0, .slice A0_1 l0_1.length c0_1]] rfl (by (try simp only [List.map_toArray, List.map_cons, List.map_nil]); first | done | rfl | (simp only [List.length_drop, List.length_take]; rfl)) ?_; (with_reducible refine (spec_GoodDevice.calls k _ _ l0_0 _ _ l0_1 true _ ?side1 ?side2 ?side3 ?side4 A2.out).mono ?_); (case side1 => repeat (first | exact (Kd.C_below HR0_0.out HB.out) | (with_reducible refine Kd.C_alloc ?_ _) | (with_reducible refine Kd.C_drewN ?_ _) | (with_reducible refine Kd.C_drew ?_))); (case side2 => exact HC0_0.out); (case side3 => repeat (first | exact (Kd.C_below HR0_1.out HB.out) | (with_reducible refine Kd.C_alloc ?_ _) | (with_reducible refine Kd.C_drewN ?_ _) | (with_reducible refine Kd.C_drew ?_))); (case side4 => exact HC0_1.out); rintro e w6 ⟨rfl, hb⟩; refine ⟨_, rfl, ?_⟩; have n0_ := Aside0.mk (blk_below (g := gb200) (o := .cells #[.slice A0_0 l0_0.length c0_0, .slice A0_1 l0_1.length c0_1] 30 (0, 0)) (by (with_reducible repeat (first | refine blk_drewN ?_ _ | refine blk_drew ?_ | refine blk_alloc ?_ _)); exact BK200.out) hb); have n1_ := Aside0.mk (below_step (by repeat (first | (with_reducible first | exact HB.out | apply below_alloc | apply pw_below_drewN | apply below_drew1 | refine below_set ?_ GE200.out) | exact HB.out)) hb); clear BK200; clear HB; have BK200 := n0_; have HB := n1_; clear n0_ n1_; (try clear hb); (try clear hb2); (try clear hk); (try clear hi); have hcz7_0 : w6.cell? ⟨gb200, 0, none⟩ = some (.slice A0_0 l0_0.length c0_0) := (blk_cell BK200.out 0).trans rfl; have hcz7_1 : w6.cell? ⟨gb200, 1, none⟩ = some (.slice A0_1 l0_1.length c0_1) := (blk_cell BK200.out 1).trans rfl; have hfz7_0 := blk_frozen BK200.out 0; have hfz7_1 := blk_frozen BK200.out 1))
    go_loopg [4, 13] k (fun kq v4 v13 w' => ∃ (x4_1 : List Int) (x13_1 : Int), v13 = .int .i64 x13_1 ∧ Aside0 (spec_DirtyOf.l0 kq x4_1 l0_1 (l0_1.length : Int) x13_1 = some (r1, r2)) ∧ Aside0 (kq ≤ k) ∧ Aside0 (Kd.R (Kd.int .i64) 3 w' w.heap.size (fun _ => True) v4 x4_1) ∧ Aside0 (w'.heap[gb200]? = some (.cells #[(.slice A0_0 l0_0.length c0_0), (.slice A0_1 l0_1.length c0_1)] 30 (0, 0))) ∧ Aside0 (Below w.heap.size w w'))
    case atStart => exact ⟨(([] : List Int)), (0), (by first | rfl | (simp; done) | (simp [*]; done)), H', ⟨Nat.le_refl _⟩, ⟨by first | exact Kd.R_nil _ _ _ _ _ | exact Kd.N_nil _ _ _ _ _ | exact Kd.V_nil _ _ _ _ _ | exact Kd.Q_nil _ _ _ _ _ | exact Kd.S_nil _ _ _ _ _⟩, ⟨by (with_reducible repeat (first | refine blk_drewN ?_ _ | refine blk_drew ?_ | refine blk_alloc ?_ _)); exact BK200.out⟩, ⟨by repeat (first | (with_reducible first | exact HB.out | apply below_alloc | apply pw_below_drewN | apply below_drew1 | refine below_set ?_ GE200.out) | exact HB.out)⟩⟩
    case round =>
      clear H'
      try clear c1
      try clear p2
      try clear c3
      try clear c4
      try clear hcz5_0
      try clear hcz5_1
      try clear hcz7_0
      try clear hcz7_1
      try clear hfz5_0
      try clear hfz5_1
      try clear hfz7_0
      try clear hfz7_1
      obtain ⟨x4_1, x13_1, rfl, HA, HK1, HO_4, BK200, HB⟩ := hrel
      cases gk with
      | zero => exact absurd HA.out (fun h_ => by change none = some _ at h_; cases h_)
      | succ k1 =>
        have H := HA.out
        clear HA
        simp only [spec_DirtyOf.l0] at H
        by_cases c8 : x13_1 < (l0_1.length : Int)
        · rw [if_pos c8] at H
          have c8b0 : decide (x13_1 < (l0_1.length : Int)) = true := decide_eq_true c8
          clear c8
          by_cases c9 : 0 ≤ x13_1
          · rw [if_pos c9] at H
            have c9b0 : decide (0 ≤ x13_1) = true := decide_eq_true c9
            clear c9
            by_cases c10 : x13_1 < (l0_1.length : Int)
            · rw [if_pos c10] at H
              have c10b0 : decide (x13_1 < (l0_1.length : Int)) = true := decide_eq_true c10
              clear c10
              replace H := Option.bind_eq_some_iff.mp H
              obtain ⟨t204, A110, H⟩ := H
              replace H : (spec_DirtyOf.l0 k1 t204 l0_1 (l0_1.length : Int) (wrap64 (x13_1 + 1))) = some (r1, r2) := H
              have A11 := Aside0.mk A110
              clear A110
              have H' := Aside0.mk H
              clear H
              have p202 : 0 ≤ (x13_1 : Int) := of_decide_eq_true (by first | (with_reducible assumption) | assumption)
              have q202 : x13_1 < (l0_1.length : Int) := of_decide_eq_true (by first | (with_reducible assumption) | assumption)
              obtain ⟨ad202, e202, hx202_0, hx202_1⟩ := at_T42 HR0_1.out x13_1 p202 q202
              cases e202
              replace hx202_0 := (HB.out.cell (World.block_lt_of_cell? w _ hx202_0)).trans hx202_0
              replace hx202_1 := (HB.out.cell (World.block_lt_of_cell? w _ hx202_1)).trans hx202_1
              replace p202 := eq_true p202
              replace q202 := eq_true q202
              go_wp2_with (first | ((with_reducible refine gate_dst (N := 6) rfl ?_); refine box_event ?hg (N := 6) ?hd (cs := #[.int .i64 0, .string (⟨#[]⟩ : ByteArray)]) (t := 42) ?hr ?_; (case hd => rfl); (case hg => rfl); (case hr => first | (go_simp; done) | (go_simp; rfl)); intro gb203 hg w12 hbox hb; have n0_ := Aside0.mk (Kd.R_below (by (with_reducible repeat (first | apply Kd.R_alloc | apply Kd.R_drewN | apply Kd.R_drew)); exact HO_4.out) hb); have n1_ := Aside0.mk (blk_below (g := gb200) (o := .cells #[.slice A0_0 l0_0.length c0_0, .slice (some ad202) l0_1.length c0_1] 30 (0, 0)) (by (with_reducible repeat (first | refine blk_drewN ?_ _ | refine blk_drew ?_ | refine blk_alloc ?_ _)); exact BK200.out) hb); have n2_ := Aside0.mk (below_step (by repeat (first | (with_reducible first | exact HB.out | apply below_alloc | apply pw_below_drewN | apply below_drew1 | refine below_set ?_ GE200.out) | exact HB.out)) hb); have n3_ := Aside0.mk (hbox); have n4_ := Aside0.mk ((by rw [hg]; exact (below_size (by repeat (first | (with_reducible first | exact HB.out | apply below_alloc | apply pw_below_drewN | apply below_drew1 | refine below_set ?_ GE200.out) | exact HB.out))) : w.heap.size ≤ gb203)); have n5_ := Aside0.mk ((by rw [hg]; exact (below_size (by repeat (first | (with_reducible first | exact HB.out | apply below_alloc | apply pw_below_drewN | apply below_drew1 | refine below_set ?_ GE200.out) | exact HB.out))) : w.heap.size ≤ gb203)); have n6_ := Aside0.mk ((by rw [hg]; exact Nat.ne_of_lt (blk_lt (g := gb200) (o := .cells #[.slice A0_0 l0_0.length c0_0, .slice (some ad202) l0_1.length c0_1] 30 (0, 0)) (by (with_reducible repeat (first | refine blk_drewN ?_ _ | refine blk_drew ?_ | refine blk_alloc ?_ _)); exact BK200.out)) : gb200 ≠ gb203)); have n7_ := Aside0.mk ((by rw [hg]; exact Nat.ne_of_gt (blk_lt (g := gb200) (o := .cells #[.slice A0_0 l0_0.length c0_0, .slice (some ad202) l0_1.length c0_1] 30 (0, 0)) (by (with_reducible repeat (first | refine blk_drewN ?_ _ | refine blk_drew ?_ | refine blk_alloc ?_ _)); exact BK200.out)) : gb203 ≠ gb200)); clear HO_4; clear BK200; clear HB; have HO_4 := n0_; have BK200 := n1_; have HB := n2_; have BK203 := n3_; have GW203 := n4_; have GE203 := n5_; have NB200_203 := n6_; have NB203_200 := n7_; clear n0_ n1_ n2_ n3_ n4_ n5_ n6_ n7_; clear hb hbox hg; have hnb13 := NB203_200.out; have hnc13 := NB200_203.out; have hcz14_0 : w12.cell? ⟨gb203, 0, none⟩ = some (.int .i64 0) := (blk_cell BK203.out 0).trans rfl; have hcz14_1 : w12.cell? ⟨gb203, 1, none⟩ = some (.string (⟨#[]⟩ : ByteArray)) := (blk_cell BK203.out 1).trans rfl; have hfz14_0 := blk_frozen BK203.out 0; have hfz14_1 := blk_frozen BK203.out 1) | ((with_reducible refine gate_store (t := 42) (p := 6) rfl ?_); refine store_event (t := 42) (p := 6) (v := ?vo_w15) (w1 := ((w12.setCell ⟨gb203, 0, none⟩ (.int .i64 ((rd_T42 l0_1 x13_1).f0))).setCell ⟨gb203, 1, none⟩ (.string ((rd_T42 l0_1 x13_1).f1)))) ?hg ?ho ?hn ?hr ?_; (case ho => rfl); (case hg => rfl); (case hn => rfl); (case hr => first | (go_simp; done) | (go_simp; rfl)); intro w15 hw; have n0_ : Aside0 (Kd.R (Kd.int .i64) 3 w15 w.heap.size (fun _ => True) u4 x4_1) := ⟨(by rw [hw]; exact (by (with_reducible repeat (first | apply Kd.R_alloc | apply Kd.R_drewN | apply Kd.R_drew)); exact Kd.R_mono (Kd.R_far (p := ⟨gb203, 1, none⟩) (Kd.R_far (p := ⟨gb203, 0, none⟩) (Kd.R_types HO_4.out BK203.out (by decide)) (fun _ hk => hk.2) (.int .i64 ((rd_T42 l0_1 x13_1).f0))) (fun _ hk => hk.2) (.string ((rd_T42 l0_1 x13_1).f1))) (fun _ hk => trivial)))⟩; have n1_ : Aside0 (w15.heap[gb200]? = some (.cells #[.slice A0_0 l0_0.length c0_0, .slice (some ad202) l0_1.length c0_1] 30 (0, 0))) := ⟨(by rw [hw]; exact (by (with_reducible repeat (first | refine blk_drewN ?_ _ | refine blk_drew ?_ | refine blk_alloc ?_ _)); refine blk_far ?_ NB200_203.out _; (with_reducible repeat (first | refine blk_drewN ?_ _ | refine blk_drew ?_ | refine blk_alloc ?_ _)); refine blk_far ?_ NB200_203.out _; (with_reducible repeat (first | refine blk_drewN ?_ _ | refine blk_drew ?_ | refine blk_alloc ?_ _)); exact BK200.out))⟩; have n2_ : Aside0 (w15.heap[gb203]? = some (.cells #[.int .i64 ((rd_T42 l0_1 x13_1).f0), .string ((rd_T42 l0_1 x13_1).f1)] 42 (0, 0))) := ⟨(by rw [hw]; exact (by (with_reducible repeat (first | refine blk_drewN ?_ _ | refine blk_drew ?_ | refine blk_alloc ?_ _)); refine blk_put (cs := #[.int .i64 ((rd_T42 l0_1 x13_1).f0), .string (⟨#[]⟩ : ByteArray)]) ?_ 1 _ rfl; (with_reducible repeat (first | refine blk_drewN ?_ _ | refine blk_drew ?_ | refine blk_alloc ?_ _)); refine blk_put (cs := #[.int .i64 0, .string (⟨#[]⟩ : ByteArray)]) ?_ 0 _ rfl; (with_reducible repeat (first | refine blk_drewN ?_ _ | refine blk_drew ?_ | refine blk_alloc ?_ _)); exact BK203.out))⟩; have n3_ : Aside0 (Below w.heap.size w w15) := ⟨(by rw [hw]; exact (by repeat (first | (with_reducible first | exact HB.out | apply below_alloc | apply pw_below_drewN | apply below_drew1 | refine below_set ?_ GE200.out | refine below_set ?_ GE203.out) | exact HB.out)))⟩; clear hw; clear HO_4; clear BK200; clear BK203; clear HB; have HO_4 := n0_; have BK200 := n1_; have BK203 := n2_; have HB := n3_; clear n0_ n1_ n2_ n3_; have hcz16_0 : w15.cell? ⟨gb203, 0, none⟩ = some (.int .i64 ((rd_T42 l0_1 x13_1).f0)) := (blk_cell BK203.out 0).trans rfl; have hcz16_1 : w15.cell? ⟨gb203, 1, none⟩ = some (.string ((rd_T42 l0_1 x13_1).f1)) := (blk_cell BK203.out 1).trans rfl; have hfz16_0 := blk_frozen BK203.out 0; have hfz16_1 := blk_frozen BK203.out 1; obtain ⟨Ao17, co17, eo17⟩ := Kd.R_slice HO_4.out; subst eo17) | ((with_reducible refine gate_callee (f := 78) rfl ?_); refine goesL_ (some 20) rfl rfl Try.func78 (by kernel_rfl) rfl #[.slice Ao17 x4_1.length co17, .int .i64 ((rd_T42 l0_1 x13_1).f0)] rfl (by (try simp only [List.map_toArray, List.map_cons, List.map_nil]); first | done | rfl | (simp only [List.length_drop, List.length_take]; rfl)) ?_; (with_reducible refine (spec_l1Put.calls k1 (fun k_ => some k_ = (.slice Ao17 x4_1.length co17 : Value).ownBlock) (.slice Ao17 x4_1.length co17) x4_1 ((rd_T42 l0_1 x13_1).f0) t204 w _ ?side1 ?side2 A11.out).mono ?_); (case side1 => repeat (first | (with_reducible first | exact HB.out | apply below_alloc | apply pw_below_drewN | apply below_drew1 | refine below_set ?_ GE200.out | refine below_set ?_ GE203.out) | exact HB.out)); (case side2 => exact Kd.R_tight rfl HO_4.out); rintro e w18 ⟨v205, rfl, ho0, hb, hkp⟩; refine ⟨_, rfl, ?_⟩; have n0_ := Aside0.mk (blk_kept (by (with_reducible repeat (first | refine blk_drewN ?_ _ | refine blk_drew ?_ | refine blk_alloc ?_ _)); exact BK200.out) hkp (fun hs_ => (fun e_ => (Kd.R_ne HO_4.out BK200.out (by decide)) e_) hs_)); have n1_ := Aside0.mk (blk_kept (by (with_reducible repeat (first | refine blk_drewN ?_ _ | refine blk_drew ?_ | refine blk_alloc ?_ _)); exact BK203.out) hkp (fun hs_ => (fun e_ => (Kd.R_ne HO_4.out BK203.out (by decide)) e_) hs_)); have n2_ := Aside0.mk (Kd.R_mono (ok' := fun k_ => True) ho0 (fun k_ hk_ => trivial)); have n3_ := Aside0.mk (hb); clear BK200; clear BK203; clear HB; clear HO_4; have BK200 := n0_; have BK203 := n1_; have HO206 := n2_; have HB := n3_; clear n0_ n1_ n2_ n3_; (try clear hb); (try clear hkp); (try clear ho0)))
              go_roundg k1
              case measure => have := HK1.out; omega
              case rel => exact ⟨(t204), (wrap64 (x13_1 + 1)), (by first | rfl | (simp; done) | (simp [*]; done)), H', ⟨by have := HK1.out; omega⟩, ⟨by (with_reducible repeat (first | apply Kd.R_alloc | apply Kd.R_drewN | apply Kd.R_drew)); exact HO206.out⟩, ⟨by (with_reducible repeat (first | refine blk_drewN ?_ _ | refine blk_drew ?_ | refine blk_alloc ?_ _)); exact BK200.out⟩, ⟨by repeat (first | (with_reducible first | exact HB.out | apply below_alloc | apply pw_below_drewN | apply below_drew1 | refine below_set ?_ GE200.out | refine below_set ?_ GE203.out) | exact HB.out)⟩⟩
            · rw [if_neg c10] at H
              exact absurd H (by simp)
          · rw [if_neg c9] at H
            exact absurd H (by simp)
        · rw [if_neg c8] at H
          have c8b0 : decide (x13_1 < (l0_1.length : Int)) = false := decide_eq_false c8
          clear c8
          simp only [Option.some.injEq, Prod.mk.injEq] at H
          obtain ⟨rfl, rfl⟩ := H
          go_wp2
          go_ret2
          exact ⟨_, by first | rfl | (simp [errW_none, errW_some] <;> rfl) | (simp [*, errW_none, errW_some] <;> rfl), by (with_reducible repeat (first | apply Kd.R_alloc | apply Kd.R_drewN | apply Kd.R_drew)); exact HO_4.out, by repeat (first | (with_reducible first | exact HB.out | apply below_alloc | apply pw_below_drewN | apply below_drew1 | refine below_set ?_ GE200.out) | exact HB.out)⟩
  · replace c3 := Bool.eq_false_iff.mpr c3
    subst c3
    have H1 : (some (([] : List Int), false)) = some (r1, r2) := by rw [if_neg (show ¬ (false = true) by decide)] at H; exact H
    clear H
    have H := H1
    clear H1
    simp only [Option.some.injEq, Prod.mk.injEq] at H
    obtain ⟨rfl, rfl⟩ := H
    go_enter Try.func43, Try.ntmps43
    go_wp2_with (first | ((with_reducible refine gate_dst (N := 1) rfl ?_); refine box_event ?hg (N := 1) ?hd (cs := #[.slice A0_0 l0_0.length c0_0, .slice A0_1 l0_1.length c0_1]) (t := 30) ?hr ?_; (case hd => rfl); (case hg => rfl); (case hr => first | (go_simp; done) | (go_simp; rfl)); intro gb200 hg w19 hbox hb; have n0_ := Aside0.mk (below_step (by repeat (first | (with_reducible first | exact HB.out | apply below_alloc | apply pw_below_drewN | apply below_drew1) | exact HB.out)) hb); have n1_ := Aside0.mk (hbox); have n2_ := Aside0.mk ((by rw [hg]; exact (below_size (by repeat (first | (with_reducible first | exact HB.out | apply below_alloc | apply pw_below_drewN | apply below_drew1) | exact HB.out))) : w.heap.size ≤ gb200)); have n3_ := Aside0.mk ((by rw [hg]; exact (below_size (by repeat (first | (with_reducible first | exact HB.out | apply below_alloc | apply pw_below_drewN | apply below_drew1) | exact HB.out))) : w.heap.size ≤ gb200)); clear HB; have HB := n0_; have BK200 := n1_; have GW200 := n2_; have GE200 := n3_; clear n0_ n1_ n2_ n3_; clear hb hbox hg; have hcz20_0 : w19.cell? ⟨gb200, 0, none⟩ = some (.slice A0_0 l0_0.length c0_0) := (blk_cell BK200.out 0).trans rfl; have hcz20_1 : w19.cell? ⟨gb200, 1, none⟩ = some (.slice A0_1 l0_1.length c0_1) := (blk_cell BK200.out 1).trans rfl; have hfz20_0 := blk_frozen BK200.out 0; have hfz20_1 := blk_frozen BK200.out 1) | ((with_reducible refine gate_callee (f := 14) rfl ?_); refine goesL_ (some 8) rfl rfl Try.func14 (by kernel_rfl) rfl #[.agg #[.slice A0_0 l0_0.length c0_0, .slice A0_1 l0_1.length c0_1]] rfl (by (try simp only [List.map_toArray, List.map_cons, List.map_nil]); first | done | rfl | (simp only [List.length_drop, List.length_take]; rfl)) ?_; (with_reducible refine (spec_GoodDevice.calls k _ _ l0_0 _ _ l0_1 false _ ?side1 ?side2 ?side3 ?side4 A2.out).mono ?_); (case side1 => repeat (first | exact (Kd.C_below HR0_0.out HB.out) | (with_reducible refine Kd.C_alloc ?_ _) | (with_reducible refine Kd.C_drewN ?_ _) | (with_reducible refine Kd.C_drew ?_))); (case side2 => exact HC0_0.out); (case side3 => repeat (first | exact (Kd.C_below HR0_1.out HB.out) | (with_reducible refine Kd.C_alloc ?_ _) | (with_reducible refine Kd.C_drewN ?_ _) | (with_reducible refine Kd.C_drew ?_))); (case side4 => exact HC0_1.out); rintro e w21 ⟨rfl, hb⟩; refine ⟨_, rfl, ?_⟩; have n0_ := Aside0.mk (blk_below (g := gb200) (o := .cells #[.slice A0_0 l0_0.length c0_0, .slice A0_1 l0_1.length c0_1] 30 (0, 0)) (by (with_reducible repeat (first | refine blk_drewN ?_ _ | refine blk_drew ?_ | refine blk_alloc ?_ _)); exact BK200.out) hb); have n1_ := Aside0.mk (below_step (by repeat (first | (with_reducible first | exact HB.out | apply below_alloc | apply pw_below_drewN | apply below_drew1 | refine below_set ?_ GE200.out) | exact HB.out)) hb); clear BK200; clear HB; have BK200 := n0_; have HB := n1_; clear n0_ n1_; (try clear hb); (try clear hb2); (try clear hk); (try clear hi)))
    go_ret2
    exact ⟨_, by first | rfl | (simp [errW_none, errW_some] <;> rfl) | (simp [*, errW_none, errW_some] <;> rfl), by first | exact Kd.R_nil _ _ _ _ _ | exact Kd.N_nil _ _ _ _ _ | exact Kd.V_nil _ _ _ _ _ | exact Kd.Q_nil _ _ _ _ _ | exact Kd.S_nil _ _ _ _ _, by repeat (first | (with_reducible first | exact HB.out | apply below_alloc | apply pw_below_drewN | apply below_drew1 | refine below_set ?_ GE200.out) | exact HB.out)⟩

/-! ### impl_within: function 55 -/
def impl_within.f (a0 : Int) (a1 : Int) (a2 : Int) : Option (Bool) := if a0 ≥ a1 then (some (decide (a0 ≤ a2))) else (some false)
set_option maxHeartbeats 8000000 in
set_option maxRecDepth 100000 in
theorem impl_within.calls (a0 : Int) (a1 : Int) (a2 : Int) (r : Bool) (w : World) (h : impl_within.f a0 a1 a2 = some r) :
    Calls Try.prog 55 #[.int .i64 a0, .int .i64 a1, .int .i64 a2] w fun e w' => e = .returned (.bool r) ∧ Drawn0 w w' := by
  have H : (if a0 ≥ a1 then (some (decide (a0 ≤ a2))) else (some false)) = some r := h
  clear h
  by_cases c4 : a0 ≥ a1
  · rw [if_pos c4] at H
    have c4b0 : decide (a1 ≤ a0) = true := decide_eq_true c4
    clear c4
    obtain rfl := Option.some.inj H
    go_enter Try.func55, Try.ntmps55
    go_wp2
    go_ret
    exact ⟨by first | rfl | (simp; done) | (simp [*]; done), by repeat (first | exact Drawn0.refl _ | apply Drawn0.step)⟩
  · rw [if_neg c4] at H
    have c4b0 : decide (a1 ≤ a0) = false := decide_eq_false c4
    clear c4
    obtain rfl := Option.some.inj H
    go_enter Try.func55, Try.ntmps55
    go_wp2
    go_ret
    exact ⟨by first | rfl | (simp; done) | (simp [*]; done), by repeat (first | exact Drawn0.refl _ | apply Drawn0.step)⟩

/-! ### impl_GoodDevice: function 16 (by hand) -/

def impl_GoodDevice.firstS (p : ByteArray → Bool) : List ByteArray → Int → Int
  | [], _ => -1
  | x :: l, i => if p x = true then i else impl_GoodDevice.firstS p l (i + 1)
theorem impl_GoodDevice.first_anyS (p : ByteArray → Bool) : ∀ (l : List ByteArray) (i : Int), 0 ≤ i → (decide (impl_GoodDevice.firstS p l i ≥ 0)) = l.any p
  | [], i, _ => rfl
  | x :: l, i, h => by
    have ih := impl_GoodDevice.first_anyS p l (i + 1) (by omega)
    rw [List.any_cons, ← ih]
    have e : impl_GoodDevice.firstS p (x :: l) i = if p x = true then i else impl_GoodDevice.firstS p l (i + 1) := rfl
    generalize impl_GoodDevice.firstS p (x :: l) i = u at e ⊢
    generalize impl_GoodDevice.firstS p l (i + 1) = v at e ⊢
    subst e
    cases hp : p x with
    | true => rw [if_pos rfl, decide_eq_true h]; rfl
    | false => rw [if_neg (by decide)]; rfl
theorem impl_GoodDevice.first_atS (p : ByteArray → Bool) (l : List ByteArray) (i : Nat) (h : i < l.length) : impl_GoodDevice.firstS p (l.drop i) (i : Int) = if p (rdOf ByteArray.empty l (i : Int)) = true then (i : Int) else impl_GoodDevice.firstS p (l.drop (i + 1)) ((i + 1 : Nat) : Int) := by
  rw [List.drop_eq_getElem_cons h, impl_GoodDevice.firstS]
  have e : rdOf ByteArray.empty l (i : Int) = l[i] := by simp [rdOf, List.getD_eq_getElem?_getD, h]
  rw [e]; rfl
set_option maxHeartbeats 8000000 in
set_option maxRecDepth 100000 in
theorem impl_GoodDevice.indexS (p : ByteArray → Bool) (A0 : Option Addr) (c0 : Nat) (l0 : List ByteArray) (w : World) (hr0 : Kd.C Kd.string w A0 l0.length l0)
    (hclo : ∀ (s : ByteArray) (m : Nat), Calls Try.prog 57 #[.string s] (w.drewN m) fun e w' => e = .returned (.bool (p s)) ∧ Drawn0 (w.drewN m) w') :
    Calls Try.prog 85 #[.slice A0 l0.length c0, .func (.func 57) #[] #[]] w fun e w' => e = .returned (.int .i64 (impl_GoodDevice.firstS p l0 0)) ∧ Drawn0 w w' := by
  have HR0 := Aside0.mk hr0
  have HCL := Aside0.mk hclo
  have HL : l0.length ≤ 9223372036854775807 := hr0.2.1
  clear hr0 hclo
  go_enter Try.func85, Try.ntmps85
  go_wp2
  go_loopw [8] (fun v8 w' => ∃ i : Nat, i ≤ l0.length ∧ v8 = .int .i64 (i : Int) ∧ Aside0 (impl_GoodDevice.firstS p l0 0 = impl_GoodDevice.firstS p (l0.drop i) (i : Int)) ∧ Drawn0 w w') (fun v8 w' => l0.length - (intOf v8).toNat)
  case atStart => exact ⟨0, Nat.zero_le _, rfl, ⟨rfl⟩, Drawn0.refl _⟩
  case round =>
    obtain ⟨i, hi, rfl, HA, ⟨m1, rfl⟩⟩ := hrel
    by_cases hlt : i < l0.length
    · have hf := impl_GoodDevice.first_atS p l0 i hlt
      have p1 : 0 ≤ (i : Int) := by omega
      have q1 : (i : Int) < (l0.length : Int) := by omega
      obtain ⟨ad1, e1, hx1⟩ := Kd.at_string HR0.out (i : Int) p1 q1
      cases e1
      (try rw [Int.toNat_natCast] at hx1)
      have hw1 : wrap64 ((i : Int) + 1) = ((i + 1 : Nat) : Int) := by unfold wrap64; omega
      generalize hs : rdOf ByteArray.empty l0 (i : Int) = s at hx1 hf
      have cl := HCL.out s
      by_cases hp : p s = true
      · have HF := Aside0.mk (show impl_GoodDevice.firstS p l0 0 = (i : Int) by rw [HA.out, hf, if_pos hp])
        have HCS := Aside0.mk cl
        have HP := Aside0.mk hp
        clear hf cl hs hp HA hw1
        go_wp2_with (go_at_call 57; refine (HCS.out _).mono ?_; rintro e w2 ⟨rfl, ⟨m2, rfl⟩⟩; rw [HP.out])
        go_ret
        exact ⟨by rw [HF.out]; rfl, by repeat (first | exact Drawn0.refl _ | apply Drawn0.step)⟩
      · have hpf : p s = false := by simpa using hp
        have HF := Aside0.mk (show impl_GoodDevice.firstS p l0 0 = impl_GoodDevice.firstS p (l0.drop (i + 1)) ((i + 1 : Nat) : Int) by rw [HA.out, hf, if_neg hp])
        have HCS := Aside0.mk cl
        have HP := Aside0.mk hpf
        have HW1 := Aside0.mk hw1
        clear hf cl hs hp hpf HA hw1
        go_wp2_with (go_at_call 57; refine (HCS.out _).mono ?_; rintro e w2 ⟨rfl, ⟨m2, rfl⟩⟩; rw [HP.out])
        go_roundw
        case rel => exact ⟨i + 1, by omega, by go_num, HF, by repeat (first | exact Drawn0.refl _ | apply Drawn0.step)⟩
        case measure => simp [intOf]; omega
    · have hlen : i = l0.length := by omega
      have HF := Aside0.mk (show impl_GoodDevice.firstS p l0 0 = -1 by rw [HA.out, hlen, List.drop_length]; rfl)
      clear HA hlen
      go_wp2
      go_ret
      exact ⟨by rw [HF.out]; rfl, by repeat (first | exact Drawn0.refl _ | apply Drawn0.step)⟩
set_option maxHeartbeats 8000000 in
theorem impl_GoodDevice.containsS (p : ByteArray → Bool) (A0 : Option Addr) (c0 : Nat) (l0 : List ByteArray) (w : World) (hr0 : Kd.C Kd.string w A0 l0.length l0)
    (hclo : ∀ (s : ByteArray) (m : Nat), Calls Try.prog 57 #[.string s] (w.drewN m) fun e w' => e = .returned (.bool (p s)) ∧ Drawn0 (w.drewN m) w') :
    Calls Try.prog 56 #[.slice A0 l0.length c0, .func (.func 57) #[] #[]] w fun e w' => e = .returned (.bool (l0.any p)) ∧ Drawn0 w w' := by
  have HI := Aside0.mk (impl_GoodDevice.indexS p A0 c0 l0 w hr0 hclo)
  have HE := Aside0.mk (impl_GoodDevice.first_anyS p l0 0 (by omega))
  clear hr0 hclo
  go_enter Try.func56, Try.ntmps56
  go_wp2_with (go_at_call 85; refine HI.out.mono ?_; rintro e w2 ⟨rfl, ⟨m2, rfl⟩⟩)
  go_ret
  exact ⟨by rw [← HE.out]; rfl, by repeat (first | exact Drawn0.refl _ | apply Drawn0.step)⟩

def impl_GoodDevice.firstW (p : S42 → Bool) : List S42 → Int → Int
  | [], _ => -1
  | x :: l, i => if p x = true then i else impl_GoodDevice.firstW p l (i + 1)
theorem impl_GoodDevice.first_anyW (p : S42 → Bool) : ∀ (l : List S42) (i : Int), 0 ≤ i → (decide (impl_GoodDevice.firstW p l i ≥ 0)) = l.any p
  | [], i, _ => rfl
  | x :: l, i, h => by
    have ih := impl_GoodDevice.first_anyW p l (i + 1) (by omega)
    rw [List.any_cons, ← ih]
    have e : impl_GoodDevice.firstW p (x :: l) i = if p x = true then i else impl_GoodDevice.firstW p l (i + 1) := rfl
    generalize impl_GoodDevice.firstW p (x :: l) i = u at e ⊢
    generalize impl_GoodDevice.firstW p l (i + 1) = v at e ⊢
    subst e
    cases hp : p x with
    | true => rw [if_pos rfl, decide_eq_true h]; rfl
    | false => rw [if_neg (by decide)]; rfl
theorem impl_GoodDevice.first_atW (p : S42 → Bool) (l : List S42) (i : Nat) (h : i < l.length) : impl_GoodDevice.firstW p (l.drop i) (i : Int) = if p (rd_T42 l (i : Int)) = true then (i : Int) else impl_GoodDevice.firstW p (l.drop (i + 1)) ((i + 1 : Nat) : Int) := by
  rw [List.drop_eq_getElem_cons h, impl_GoodDevice.firstW]
  have e : rd_T42 l (i : Int) = l[i] := by simp [rd_T42, List.getD_eq_getElem?_getD, h]
  rw [e]; rfl
set_option maxHeartbeats 8000000 in
set_option maxRecDepth 100000 in
theorem impl_GoodDevice.indexW (p : S42 → Bool) (A0 : Option Addr) (c0 : Nat) (l0 : List S42) (g : Nat) (w : World) (hr0 : Kd.C k42 w A0 l0.length l0)
    (hclo : ∀ (s : S42) (w1 : World), Below w.heap.size w w1 → Calls Try.prog 59 #[.agg #[.int .i64 s.f0, .string s.f1], .pointer (some ⟨g, 0, none⟩)] w1 fun e w' => e = .returned (.bool (p s)) ∧ Below w1.heap.size w1 w') :
    Calls Try.prog 86 #[.slice A0 l0.length c0, .func (.func 59) #[] #[.pointer (some ⟨g, 0, none⟩)]] w fun e w' => e = .returned (.int .i64 (impl_GoodDevice.firstW p l0 0)) ∧ Below w.heap.size w w' := by
  have HR0 := Aside0.mk hr0
  have HCL := Aside0.mk hclo
  have HL : l0.length ≤ 9223372036854775807 := hr0.2.1
  clear hr0 hclo
  go_enter Try.func86, Try.ntmps86
  go_wp2
  go_loopw [8] (fun v8 w' => ∃ i : Nat, i ≤ l0.length ∧ v8 = .int .i64 (i : Int) ∧ Aside0 (impl_GoodDevice.firstW p l0 0 = impl_GoodDevice.firstW p (l0.drop i) (i : Int)) ∧ Aside0 (Below w.heap.size w w')) (fun v8 w' => l0.length - (intOf v8).toNat)
  case atStart => exact ⟨0, Nat.zero_le _, rfl, ⟨rfl⟩, ⟨by repeat (first | exact Below.refl _ _ | apply below_drew1 | apply pw_below_drewN)⟩⟩
  case round =>
    obtain ⟨i, hi, rfl, HA, HB⟩ := hrel
    by_cases hlt : i < l0.length
    · have hf := impl_GoodDevice.first_atW p l0 i hlt
      have p1 : 0 ≤ (i : Int) := by omega
      have q1 : (i : Int) < (l0.length : Int) := by omega
      obtain ⟨ad1, e1, hx1_0, hx1_1⟩ := at_T42 (Kd.C_below HR0.out HB.out) (i : Int) p1 q1
      cases e1
      (try rw [Int.toNat_natCast] at hx1_0 hx1_1)
      have hw1 : wrap64 ((i : Int) + 1) = ((i + 1 : Nat) : Int) := by unfold wrap64; omega
      generalize hs : rd_T42 l0 (i : Int) = s at hx1_0 hx1_1 hf
      have cl := HCL.out s
      by_cases hp : p s = true
      · have HF := Aside0.mk (show impl_GoodDevice.firstW p l0 0 = (i : Int) by rw [HA.out, hf, if_pos hp])
        have HCS := Aside0.mk cl
        have HP := Aside0.mk hp
        clear hf cl hs hp HA hw1
        go_wp2_with (go_at_call 59; go_loud (refine (HCS.out _ (by repeat (first | exact HB.out | apply below_drew1 | apply pw_below_drewN))).mono ?_); rintro e w2 ⟨rfl, hb2⟩; have HB2 := Aside0.mk (below_step (by repeat (first | exact HB.out | apply below_drew1 | apply pw_below_drewN)) hb2); clear hb2; rw [HP.out])
        go_ret
        exact ⟨by rw [HF.out]; rfl, by repeat (first | exact HB2.out | exact HB.out | apply below_drew1 | apply pw_below_drewN)⟩
      · have hpf : p s = false := by simpa using hp
        have HF := Aside0.mk (show impl_GoodDevice.firstW p l0 0 = impl_GoodDevice.firstW p (l0.drop (i + 1)) ((i + 1 : Nat) : Int) by rw [HA.out, hf, if_neg hp])
        have HCS := Aside0.mk cl
        have HP := Aside0.mk hpf
        have HW1 := Aside0.mk hw1
        clear hf cl hs hp hpf HA hw1
        go_wp2_with (go_at_call 59; go_loud (refine (HCS.out _ (by repeat (first | exact HB.out | apply below_drew1 | apply pw_below_drewN))).mono ?_); rintro e w2 ⟨rfl, hb2⟩; have HB2 := Aside0.mk (below_step (by repeat (first | exact HB.out | apply below_drew1 | apply pw_below_drewN)) hb2); clear hb2; rw [HP.out])
        go_roundw
        case rel => exact ⟨i + 1, by omega, by go_num, HF, ⟨by repeat (first | exact HB2.out | apply below_drew1 | apply pw_below_drewN)⟩⟩
        case measure => simp [intOf]; omega
    · have hlen : i = l0.length := by omega
      have HF := Aside0.mk (show impl_GoodDevice.firstW p l0 0 = -1 by rw [HA.out, hlen, List.drop_length]; rfl)
      clear HA hlen
      go_wp2
      go_ret
      exact ⟨by rw [HF.out]; rfl, by repeat (first | exact HB.out | apply below_drew1 | apply pw_below_drewN)⟩
set_option maxHeartbeats 8000000 in
theorem impl_GoodDevice.containsW (p : S42 → Bool) (A0 : Option Addr) (c0 : Nat) (l0 : List S42) (g : Nat) (w : World) (hr0 : Kd.C k42 w A0 l0.length l0)
    (hclo : ∀ (s : S42) (w1 : World), Below w.heap.size w w1 → Calls Try.prog 59 #[.agg #[.int .i64 s.f0, .string s.f1], .pointer (some ⟨g, 0, none⟩)] w1 fun e w' => e = .returned (.bool (p s)) ∧ Below w1.heap.size w1 w') :
    Calls Try.prog 58 #[.slice A0 l0.length c0, .func (.func 59) #[] #[.pointer (some ⟨g, 0, none⟩)]] w fun e w' => e = .returned (.bool (l0.any p)) ∧ Below w.heap.size w w' := by
  have HI := Aside0.mk (impl_GoodDevice.indexW p A0 c0 l0 g w hr0 hclo)
  have HE := Aside0.mk (impl_GoodDevice.first_anyW p l0 0 (by omega))
  clear hr0 hclo
  go_enter Try.func58, Try.ntmps58
  go_wp2_with (go_at_call 86; refine HI.out.mono ?_; rintro e w2 ⟨rfl, hb2⟩; have HB2 := Aside0.mk hb2; clear hb2)
  go_ret
  exact ⟨by rw [← HE.out]; rfl, by repeat (first | exact HB2.out | apply below_drew1 | apply pw_below_drewN)⟩

set_option maxHeartbeats 8000000 in
theorem impl_GoodDevice.cloS (s : ByteArray) (w : World) : Calls Try.prog 57 #[.string s] w fun e w' => e = .returned (.bool ((s.size : Int) != 8)) ∧ Drawn0 w w' := by
  go_enter Try.func57, Try.ntmps57
  go_wp2
  go_ret
  exact ⟨by first | rfl | (simp; done) | (simp [*]; done), by repeat (first | exact Drawn0.refl _ | apply Drawn0.step)⟩
set_option maxHeartbeats 400000 in
theorem impl_GoodDevice.cloW0 (s : S42) (A0 : Option Addr) (c0 : Nat) (l0 : List ByteArray) (v1 : Value) (g : Nat) (w : World) (b : Bool) (hg : w.heap[g]? = some (.cells #[.slice A0 l0.length c0, v1] 30 (0, 0))) (hb : impl_within.f s.f0 0 (wrap64 ((l0.length : Int) - 1)) = some b) :
    Calls Try.prog 59 #[.agg #[.int .i64 s.f0, .string s.f1], .pointer (some ⟨g, 0, none⟩)] w fun e w' => e = .returned (.bool (!b || (s.f1.size : Int) != 8)) ∧ Below w.heap.size w w' := by
  have hlt := blk_lt hg
  have HG := Aside0.mk hg
  have HW := Aside0.mk hb
  clear hg hb
  cases b
  all_goals
    go_enter Try.func59, Try.ntmps59
    go_wp2_with (first | ((with_reducible refine gate_dst (N := 2) rfl ?_); refine box_event ?hg (N := 2) ?hd (cs := #[.int .i64 s.f0, .string s.f1]) (t := 42) ?hr ?_; (case hd => rfl); (case hg => rfl); (case hr => first | (go_simp; done) | (go_simp; rfl)); intro g2 hg2 w2 hb2 hbel; have HBL := Aside0.mk hbel; have hcz0 : w2.cell? ⟨g2, 0, none⟩ = some (.int .i64 s.f0) := (blk_cell hb2 0).trans rfl; have hcz1 : w2.cell? ⟨g2, 1, none⟩ = some (.string s.f1) := (blk_cell hb2 1).trans rfl; have hcg : w2.cell? ⟨g, 0, none⟩ = some (.slice A0 l0.length c0) := (blk_cell (blk_below HG.out hbel) 0).trans rfl; clear hb2 hbel hg2) | (go_at_call 55; refine (impl_within.calls _ _ _ _ _ HW.out).mono ?_; rintro e w3 ⟨rfl, ⟨m3, rfl⟩⟩))
    go_ret
    exact ⟨by first | rfl | (simp; done) | (simp [*]; done), by repeat (first | exact HBL.out | apply below_alloc | apply pw_below_drewN | apply below_drew1)⟩
/-- a write that does not fit n sectors -/
def badWrite (n : Nat) (s : S42) : Bool := !(decide (s.f0 ≥ 0 ∧ s.f0 ≤ (n : Int) - 1)) || (s.f1.size : Int) != 8
theorem impl_GoodDevice.within_w (x : Int) (n : Nat) (hl : n ≤ 9223372036854775807) : impl_within.f x 0 (wrap64 ((n : Int) - 1)) = some (decide (x ≥ 0 ∧ x ≤ (n : Int) - 1)) := by
  have w1 : wrap64 ((n : Int) - 1) = (n : Int) - 1 := by unfold wrap64; omega
  rw [w1]
  unfold impl_within.f
  by_cases h : x ≥ 0
  · rw [if_pos h]; congr 1; rw [decide_eq_decide]; omega
  · rw [if_neg h]; congr 1; exact (decide_eq_false (by omega)).symm
theorem impl_GoodDevice.cloW (s : S42) (A0 : Option Addr) (c0 : Nat) (l0 : List ByteArray) (v1 : Value) (g : Nat) (w : World) (hg : w.heap[g]? = some (.cells #[.slice A0 l0.length c0, v1] 30 (0, 0))) (hl : l0.length ≤ 9223372036854775807) :
    Calls Try.prog 59 #[.agg #[.int .i64 s.f0, .string s.f1], .pointer (some ⟨g, 0, none⟩)] w fun e w' => e = .returned (.bool (badWrite l0.length s)) ∧ Below w.heap.size w w' :=
  impl_GoodDevice.cloW0 s A0 c0 l0 v1 g w _ hg (impl_GoodDevice.within_w s.f0 l0.length hl)
theorem impl_GoodDevice.cont1 (A0 : Option Addr) (c0 : Nat) (l0 : List ByteArray) (w : World) (hr0 : Kd.C Kd.string w A0 l0.length l0) (b : Bool) (hb : (l0.any fun s => (s.size : Int) != 8) = b) :
    Calls Try.prog 56 #[.slice A0 l0.length c0, .func (.func 57) #[] #[]] w fun e w' => e = .returned (.bool b) ∧ Drawn0 w w' := by
  subst hb
  exact impl_GoodDevice.containsS _ A0 c0 l0 w hr0 (fun s m => impl_GoodDevice.cloS s _)
theorem impl_GoodDevice.cont2 (A0 A1 : Option Addr) (c0 c1 : Nat) (l0 : List ByteArray) (l1 : List S42) (v1 : Value) (g : Nat) (w : World) (hg : w.heap[g]? = some (.cells #[.slice A0 l0.length c0, v1] 30 (0, 0))) (hl : l0.length ≤ 9223372036854775807) (hr1 : Kd.C k42 w A1 l1.length l1) (b : Bool) (hb : l1.any (badWrite l0.length) = b) :
    Calls Try.prog 58 #[.slice A1 l1.length c1, .func (.func 59) #[] #[.pointer (some ⟨g, 0, none⟩)]] w fun e w' => e = .returned (.bool b) ∧ Below w.heap.size w w' := by
  subst hb
  exact impl_GoodDevice.containsW _ A1 c1 l1 g w hr1 (fun s w1 hw1 => impl_GoodDevice.cloW s A0 c0 l0 v1 g w1 (blk_below hg hw1) hl)
/-- what a device's form asks -/
def goodD (xs : List ByteArray) (ws : List S42) : Bool :=
  decide (1 ≤ xs.length ∧ xs.length ≤ 32) && (decide (ws.length ≤ 60) && (!(xs.any fun s => (s.size : Int) != 8) && !(ws.any (badWrite xs.length))))
def impl_GoodDevice.f (l0_0 : List ByteArray) (l0_1 : List (S42)) : Option (Bool) :=
  some (goodD l0_0 l0_1)
set_option maxHeartbeats 800000 in
set_option maxRecDepth 100000 in
theorem impl_GoodDevice.calls (A0_0 : Option Addr) (c0_0 : Nat) (l0_0 : List ByteArray) (A0_1 : Option Addr) (c0_1 : Nat) (l0_1 : List (S42)) (r : Bool) (w : World) (hr0_0 : Kd.C Kd.string w A0_0 l0_0.length l0_0) (hc0_0 : l0_0.length ≤ c0_0) (hr0_1 : Kd.C k42 w A0_1 l0_1.length l0_1) (hc0_1 : l0_1.length ≤ c0_1) (h : impl_GoodDevice.f l0_0 l0_1 = some r) :
    Calls Try.prog 16 #[.agg #[.slice A0_0 l0_0.length c0_0, .slice A0_1 l0_1.length c0_1]] w fun e w' => e = .returned (.bool r) ∧ Below w.heap.size w w' := by
  obtain rfl := Option.some.inj h
  clear h
  have hl0 := hr0_0.2.1
  have hl1 := hr0_1.2.1
  have HR0 := Aside0.mk hr0_0
  have HR1 := Aside0.mk hr0_1
  have HL0 := Aside0.mk hl0
  obtain ⟨b1, e1⟩ : ∃ b, (l0_0.any fun s => (s.size : Int) != 8) = b := ⟨_, rfl⟩
  obtain ⟨b2, e2⟩ : ∃ b, l0_1.any (badWrite l0_0.length) = b := ⟨_, rfl⟩
  have HE1 := Aside0.mk e1
  have HE2 := Aside0.mk e2
  obtain ⟨b0, e0⟩ : ∃ b, decide (1 ≤ l0_0.length ∧ l0_0.length ≤ 32) = b := ⟨_, rfl⟩
  have HW := Aside0.mk (show impl_within.f (l0_0.length : Int) 1 32 = some b0 by
    subst e0
    unfold impl_within.f
    by_cases h2 : (l0_0.length : Int) ≥ 1
    · rw [if_pos h2]; congr 1; rw [decide_eq_decide]; omega
    · rw [if_neg h2]; congr 1; exact (decide_eq_false (by omega)).symm)
  have HG : Aside0 (goodD l0_0 l0_1 = (b0 && (decide (l0_1.length ≤ 60) && (!b1 && !b2)))) := ⟨by unfold goodD; rw [e0, e1, e2]⟩
  rw [HG.out]
  clear e1 e2 e0 hr0_0 hr0_1 hc0_0 hc0_1 HG hl0
  by_cases h60 : l0_1.length ≤ 60
  all_goals
    first
    | (have d60 : decide ((l0_1.length : Int) > 60) = false := decide_eq_false (by omega))
    | (have d60 : decide ((l0_1.length : Int) > 60) = true := decide_eq_true (by omega))
    first | rw [decide_eq_true h60] | rw [decide_eq_false h60]
    clear h60
    cases b0
    all_goals
      cases b1
      all_goals
        go_enter Try.func16, Try.ntmps16
        go_wp2_with (first | ((with_reducible refine gate_dst (N := 1) rfl ?_); refine box_event ?hg (N := 1) ?hd (cs := #[.slice A0_0 l0_0.length c0_0, .slice A0_1 l0_1.length c0_1]) (t := 30) ?hr ?_; (case hd => rfl); (case hg => rfl); (case hr => first | (go_simp; done) | (go_simp; rfl)); intro g2 hg2 w2 hb2 hbel; have HBL := Aside0.mk hbel; have HB2 := Aside0.mk hb2; have hcz0 : w2.cell? ⟨g2, 0, none⟩ = some (.slice A0_0 l0_0.length c0_0) := (blk_cell hb2 0).trans rfl; have hcz1 : w2.cell? ⟨g2, 1, none⟩ = some (.slice A0_1 l0_1.length c0_1) := (blk_cell hb2 1).trans rfl; clear hb2 hbel hg2) | (go_at_call 55; refine (impl_within.calls _ _ _ _ _ HW.out).mono ?_; rintro e w3 ⟨rfl, ⟨m3, rfl⟩⟩) | (go_at_call 56; go_loud (refine (impl_GoodDevice.cont1 _ c0_0 l0_0 _ (Kd.C_below HR0.out (by repeat (first | exact HBL.out | apply below_alloc | apply pw_below_drewN | apply below_drew1))) _ HE1.out).mono ?_); rintro e w4 ⟨rfl, ⟨m4, rfl⟩⟩) | (go_at_call 58; go_loud (refine (impl_GoodDevice.cont2 A0_0 _ c0_0 c0_1 l0_0 l0_1 _ g2 _ (by repeat (first | exact HB2.out | apply blk_drewN)) HL0.out (Kd.C_below HR1.out (by repeat (first | exact HBL.out | apply below_alloc | apply pw_below_drewN | apply below_drew1))) _ HE2.out).mono ?_); rintro e w5 ⟨rfl, hbf⟩; have HBL := Aside0.mk (below_step (by repeat (first | exact HBL.out | apply below_drew1 | apply pw_below_drewN)) hbf); clear hbf))
        go_ret
        exact ⟨by first | rfl | (simp; done) | (simp [*]; done), by repeat (first | exact HBL.out | apply below_alloc | apply pw_below_drewN | apply below_drew1)⟩


/-! ### slices_Sort_int_int: function 79 (by hand) -/


/-! ### slices_Compact_int_int: function 80 (by hand) -/
section
open Go.Shelf Go.Sort
def sortLay_ren : Go.Shelf.Ren := ⟨fun | 189 => 79 | 125 => 94 | 257 => 93 | 128 => 112 | 129 => 113 | 294 => 103 | 295 => 104 | 296 => 105 | 297 => 106 | 298 => 107 | 299 => 108 | 216 => 109 | 300 => 110 | 301 => 111 | 328 => 117 | 329 => 118 | 330 => 119 | 331 => 120 | 332 => 121 | 215 => 122 | 343 => 123 | n => n, fun | 28 => 61 | 3 => 3 | 46 => 103 | 0 => 0 | 51 => 121 | 53 => 95 | 4 => 4 | 183 => 129 | 182 => 128 | 131 => 134 | 5 => 5 | 9 => 9 | 218 => 141 | 222 => 145 | 228 => 147 | 229 => 148 | n => n, fun | n => n⟩
theorem sortLay : Go.Proofs.Lays.n189 Try.prog sortLay_ren := {
  mixed := by kernel_rfl,
  f125 := Try.func94.trans (congrArg some (by kernel_rfl)),
  f128 := Try.func112.trans (congrArg some (by kernel_rfl)),
  f129 := Try.func113.trans (congrArg some (by kernel_rfl)),
  f189 := Try.func79.trans (congrArg some (by kernel_rfl)),
  f215 := Try.func122.trans (congrArg some (by kernel_rfl)),
  f216 := Try.func109.trans (congrArg some (by kernel_rfl)),
  f257 := Try.func93.trans (congrArg some (by kernel_rfl)),
  f294 := Try.func103.trans (congrArg some (by kernel_rfl)),
  f295 := Try.func104.trans (congrArg some (by kernel_rfl)),
  f296 := Try.func105.trans (congrArg some (by kernel_rfl)),
  f297 := Try.func106.trans (congrArg some (by kernel_rfl)),
  f298 := Try.func107.trans (congrArg some (by kernel_rfl)),
  f299 := Try.func108.trans (congrArg some (by kernel_rfl)),
  f300 := Try.func110.trans (congrArg some (by kernel_rfl)),
  f301 := Try.func111.trans (congrArg some (by kernel_rfl)),
  f328 := Try.func117.trans (congrArg some (by kernel_rfl)),
  f329 := Try.func118.trans (congrArg some (by kernel_rfl)),
  f330 := Try.func119.trans (congrArg some (by kernel_rfl)),
  f331 := Try.func120.trans (congrArg some (by kernel_rfl)),
  f332 := Try.func121.trans (congrArg some (by kernel_rfl)),
  f343 := Try.func123.trans (congrArg some (by kernel_rfl)),
  t0 := Try.underlying0,
  a0 := Try.isAgg0,
  z0 := Try.sizeOf0,
  v0 := Try.zeroValue0,
  t3 := Try.underlying3,
  a3 := Try.isAgg3,
  z3 := Try.sizeOf3,
  v3 := Try.zeroValue3,
  t4 := Try.underlying4,
  a4 := Try.isAgg4,
  z4 := Try.sizeOf4,
  v4 := Try.zeroValue4,
  t5 := Try.underlying5,
  a5 := Try.isAgg5,
  z5 := Try.sizeOf5,
  v5 := Try.zeroValue5,
  t9 := Try.underlying9,
  a9 := Try.isAgg9,
  z9 := Try.sizeOf9,
  v9 := Try.zeroValue9,
  t28 := Try.underlying61,
  a28 := Try.isAgg61,
  z28 := Try.sizeOf61,
  v28 := Try.zeroValue61,
  t46 := Try.underlying103,
  a46 := Try.isAgg103,
  z46 := Try.sizeOf103,
  v46 := Try.zeroValue103,
  t51 := Try.underlying121,
  a51 := Try.isAgg121,
  z51 := Try.sizeOf121,
  v51 := Try.zeroValue121,
  t53 := Try.underlying95,
  a53 := Try.isAgg95,
  z53 := Try.sizeOf95,
  v53 := Try.zeroValue95,
  t131 := Try.underlying134,
  a131 := Try.isAgg134,
  z131 := Try.sizeOf134,
  v131 := Try.zeroValue134,
  t182 := Try.underlying128,
  a182 := Try.isAgg128,
  z182 := Try.sizeOf128,
  v182 := Try.zeroValue128,
  t183 := Try.underlying129,
  a183 := Try.isAgg129,
  z183 := Try.sizeOf129,
  v183 := Try.zeroValue129,
  t218 := Try.underlying141,
  a218 := Try.isAgg141,
  z218 := Try.sizeOf141,
  v218 := Try.zeroValue141,
  t222 := Try.underlying145,
  a222 := Try.isAgg145,
  z222 := Try.sizeOf145,
  v222 := Try.zeroValue145,
  t228 := Try.underlying147,
  a228 := Try.isAgg147,
  z228 := Try.sizeOf147,
  v228 := Try.zeroValue147,
  t229 := Try.underlying148,
  a229 := Try.isAgg148,
  z229 := Try.sizeOf148,
  v229 := Try.zeroValue148 }
def compLay_ren : Go.Shelf.Ren := ⟨fun | 20 => 80 | n => n, fun | 22 => 61 | 3 => 3 | 4 => 4 | 0 => 0 | n => n, fun | n => n⟩
theorem compLay : Go.Proofs.Lays2.n20 Try.prog compLay_ren := {
  mixed := by kernel_rfl,
  f20 := Try.func80.trans (congrArg some (by kernel_rfl)),
  t0 := Try.underlying0,
  a0 := Try.isAgg0,
  z0 := Try.sizeOf0,
  v0 := Try.zeroValue0,
  t3 := Try.underlying3,
  a3 := Try.isAgg3,
  z3 := Try.sizeOf3,
  v3 := Try.zeroValue3,
  t4 := Try.underlying4,
  a4 := Try.isAgg4,
  z4 := Try.sizeOf4,
  v4 := Try.zeroValue4,
  t22 := Try.underlying61,
  a22 := Try.isAgg61,
  z22 := Try.sizeOf61,
  v22 := Try.zeroValue61,
  i3 := by kernel_rfl }
theorem below_gr {B : Nat} {w0 w : World} (h : Below B w0 w) (hB : B ≤ w.heap.size) (os : Array Obj) : Below B w0 (grow w os) :=
  ⟨h.os, h.tape, h.output, by have := h.size; simp [grow]; omega, fun k hk => by rw [heap_grow_old _ _ (by omega)]; exact h.block k hk⟩
theorem own_gr {w : World} {base : Nat} {e : TypeId} {v : Value} {n : Nat} {xs : List Value} (h : w.ownsRow base e 1 v n xs) (os : Array Obj) : (grow w os).ownsRow base e 1 v n xs := by
  refine ⟨h.1, ?_⟩
  rcases h.2 with h' | ⟨g, cap, cur, e1, e2, e3, e4, e5, e6, e7⟩
  · exact .inl h'
  · exact .inr ⟨g, cap, cur, e1, e2, by rw [heap_grow_old _ _ (Array.getElem?_eq_some_iff.1 e3).1]; exact e3, e4, e5, e6, e7⟩
theorem sortI {w0 W : World} {base : Nat} {ok : Nat → Prop} {v : Value} {xs : List Int} (h : Kd.R (Kd.int .i64) 3 W base ok v xs) (hb : Below base w0 W) (hB : base ≤ W.heap.size) (hl : xs.length < 4611686018427387904) :
    Calls Try.prog 79 #[v] W fun e w' => e = .returned (.tuple #[]) ∧ Kd.R (Kd.int .i64) 3 w' base ok v (xs.mergeSort fun x y => decide (x ≤ y)) ∧ Below base w0 w' ∧ base ≤ w'.heap.size := by
  have ho : W.ownsRow base 3 1 v xs.length (xs.map (Value.int .i64)) := Kd.own_of_R h
  by_cases hv : v = .slice none 0 0
  · subst hv
    have hx : xs = [] := by
      rcases ho.2 with ⟨_, e⟩ | ⟨_, _, _, e, _⟩
      · exact List.length_eq_zero_iff.mp e
      · cases e
    subst hx
    refine (Any.slices_Sort_int_none sortLay none 0 W).mono ?_
    rintro e w' ⟨rfl, rfl⟩
    exact ⟨rfl, by simpa using h, hb, hB⟩
  · obtain ⟨g, cap, rfl, hg, hlt, hn, hm, _, hH⟩ := Lib.holds_of_ownsRow ho hv
    refine (Any.slices_Sort_int sortLay g 0 cap xs W hH hlt hl).mono ?_
    rintro e w' ⟨rfl, n, os, rfl⟩
    have hs : (xs.mergeSort fun x y => decide (x ≤ y)).length = xs.length := List.length_mergeSort _
    have o2 := Lib.ownsRow_putRow (q := n) (ys := xs.mergeSort fun x y => decide (x ≤ y)) ho hs (Nat.le_refl _)
    rw [← hs, List.take_length] at o2
    refine ⟨rfl, Kd.R_of_own ?_ h.1, below_gr (Lib.below_putRow hb hg) (by simpa [putRow, mapBlock, Sort.ahead] using hB) os, by simp [grow, putRow, mapBlock, Sort.ahead]; omega⟩
    rw [← hs] 
    exact own_gr o2 os
theorem compI {w0 W : World} {base : Nat} {ok : Nat → Prop} {v : Value} {xs : List Int} (h : Kd.R (Kd.int .i64) 3 W base ok v xs) (hb : Below base w0 W) (hl : xs.length < 4611686018427387904) :
    Calls Try.prog 80 #[v] W fun e w' => ∃ v' : Value, e = .returned v' ∧ Kd.R (Kd.int .i64) 3 w' base ok v' (Lib.compact xs) ∧ Below base w0 w' := by
  have ho : W.ownsRow base 3 1 v xs.length (xs.map (Value.int .i64)) := Kd.own_of_R h
  by_cases hv : v = .slice none 0 0
  · subst hv
    have hx : xs = [] := by
      rcases ho.2 with ⟨_, e⟩ | ⟨_, _, _, e, _⟩
      · exact List.length_eq_zero_iff.mp e
      · cases e
    subst hx
    refine (Any.slices_Compact_int_empty compLay none 0 W).mono ?_
    rintro e w' ⟨rfl, rfl⟩
    exact ⟨_, rfl, by rw [show Lib.compact ([] : List Int) = [] from rfl]; exact h, hb⟩
  · obtain ⟨g, cap, rfl, hg, hlt, hn, hm, _, hH⟩ := Lib.holds_of_ownsRow ho hv
    refine (Any.slices_Compact_int compLay g 0 cap xs W hH (by omega) hn).mono ?_
    rintro e w' ⟨rfl, n, rfl⟩
    have hle := Lib.compact_length_le xs
    have o2 := Lib.ownsRow_putRow (q := n) (k := (Lib.compact xs).length) (ys := Lib.compact xs ++ List.replicate (xs.length - (Lib.compact xs).length) 0) ho (by simp; omega) hle
    rw [List.take_left] at o2
    exact ⟨_, rfl, Kd.R_of_own o2 h.1, Lib.below_putRow hb hg⟩
end
def slices_Compact_int_int.f (l0 : List Int) : Option (List Int) :=
  if l0.length < 4611686018427387904 then some (Lib.compact (l0.mergeSort fun x y => decide (x ≤ y))) else none


/-! ### impl_DirtyOf: function 44 -/
def impl_DirtyOf.l0 : Nat → List Int → List (S42) → Int → Int → Option (List Int × Bool)
  | 0, _, _, _, _ => none
  | k + 1, x4, x12, x13, x14 => if x14 < x13 then (if 0 ≤ x14 then (if x14 < (x12.length : Int) then (if x4.length < 17592186044416 then (impl_DirtyOf.l0 k (x4 ++ [(rd_T42 x12 x14).f0]) x12 x13 (wrap64 (x14 + 1))) else (none)) else (none)) else (none)) else ((slices_Compact_int_int.f x4).bind fun t217 => (some (t217, true)))
def impl_DirtyOf.f (k : Nat) (l0_0 : List ByteArray) (l0_1 : List (S42)) : Option (List Int × Bool) := (impl_GoodDevice.f l0_0 l0_1).bind fun t208 => (if t208 = true then (impl_DirtyOf.l0 k (([] : List Int)) l0_1 (l0_1.length : Int) 0) else (some (([] : List Int), false)))
theorem impl_DirtyOf.mono_l : ∀ k, (∀ y0 y1 y2 y3, LeO (impl_DirtyOf.l0 k y0 y1 y2 y3) (impl_DirtyOf.l0 (k + 1) y0 y1 y2 y3))
  | 0 => fun _ _ _ _ r h => by change none = some r at h; cases h
  | k + 1 => by
    have ih0 := impl_DirtyOf.mono_l k
    · intro y0 y1 y2 y3
      unfold impl_DirtyOf.l0
      repeat' first
      | (with_reducible exact ih0 _ _ _ _)
      | (with_reducible exact LeO.refl _)
      | (with_reducible exact LeO.none _)
      | (with_reducible refine LeO.ite ?_ ?_)
      | (with_reducible refine LeO.bind ?_ (fun _ => ?_))
      | exact ih0 _ _ _ _
      | exact LeO.none _
      | refine LeO.ite ?_ ?_
      | refine LeO.bind ?_ (fun _ => ?_)
theorem impl_DirtyOf.mono : ∀ a0 a1 k, LeO (impl_DirtyOf.f k a0 a1) (impl_DirtyOf.f (k + 1) a0 a1) := by
  intro a0 a1 k
  have ih0 := impl_DirtyOf.mono_l k
  unfold impl_DirtyOf.f
  repeat' first
      | (with_reducible exact ih0 _ _ _ _)
      | (with_reducible exact LeO.refl _)
      | (with_reducible exact LeO.none _)
      | (with_reducible refine LeO.ite ?_ ?_)
      | (with_reducible refine LeO.bind ?_ (fun _ => ?_))
      | exact ih0 _ _ _ _
      | exact LeO.none _
      | refine LeO.ite ?_ ?_
      | refine LeO.bind ?_ (fun _ => ?_)
set_option maxHeartbeats 8000000 in
set_option maxRecDepth 100000 in
theorem impl_DirtyOf.calls (k : Nat) (A0_0 : Option Addr) (c0_0 : Nat) (l0_0 : List ByteArray) (A0_1 : Option Addr) (c0_1 : Nat) (l0_1 : List (S42)) (r1 : List Int) (r2 : Bool) (w : World) (hr0_0 : Kd.C Kd.string w A0_0 l0_0.length l0_0) (hc0_0 : l0_0.length ≤ c0_0) (hr0_1 : Kd.C k42 w A0_1 l0_1.length l0_1) (hc0_1 : l0_1.length ≤ c0_1) (h : impl_DirtyOf.f k l0_0 l0_1 = some (r1, r2)) :
    Calls Try.prog 44 #[.agg #[.slice A0_0 l0_0.length c0_0, .slice A0_1 l0_1.length c0_1]] w fun e w' => ∃ v0_ : Value, e = .returned (.tuple #[v0_, .bool r2]) ∧ Kd.R (Kd.int .i64) 3 w' w.heap.size (fun _ => True) v0_ r1 ∧ Below w.heap.size w w' := by
  have hu30 := Try.underlying30
  have hu42 := Try.underlying42
  have HR0_0 := Aside0.mk hr0_0
  have HC0_0 := Aside0.mk hc0_0
  clear hr0_0 hc0_0
  have HR0_1 := Aside0.mk hr0_1
  have HC0_1 := Aside0.mk hc0_1
  clear hr0_1 hc0_1
  have HB := Aside0.mk (Below.refl w.heap.size w)
  have H : ((impl_GoodDevice.f l0_0 l0_1).bind fun t208 => (if t208 = true then (impl_DirtyOf.l0 k (([] : List Int)) l0_1 (l0_1.length : Int) 0) else (some (([] : List Int), false)))) = some (r1, r2) := h
  clear h
  replace H := Option.bind_eq_some_iff.mp H
  obtain ⟨t208, A20, H⟩ := H
  replace H : (if t208 = true then (impl_DirtyOf.l0 k (([] : List Int)) l0_1 (l0_1.length : Int) 0) else (some (([] : List Int), false))) = some (r1, r2) := H
  have A2 := Aside0.mk A20
  clear A20
  by_cases c3 : t208 = true
  · subst c3
    have H1 : (impl_DirtyOf.l0 k (([] : List Int)) l0_1 (l0_1.length : Int) 0) = some (r1, r2) := by rw [if_pos rfl] at H; exact H
    clear H
    have H := H1
    clear H1
    obtain ⟨y209, hy209⟩ : ∃ y_ : List Int, y_ = (([] : List Int)) := ⟨_, rfl⟩
    replace H : (impl_DirtyOf.l0 k y209 l0_1 (l0_1.length : Int) 0) = some (r1, r2) := by first | (rw [hy209]; with_reducible exact H) | (have H2_ := (Option.bind_some _ _).symm.trans H; rw [hy209]; with_reducible exact H2_) | (have H2_ := (Option.bind_some _ _).symm.trans H; with_reducible exact H2_) | with_reducible exact H | (rw [hy209]; exact H) | exact H
    have Ny209 := Aside0.mk hy209
    clear hy209
    have H' := Aside0.mk H
    clear H
    go_enter Try.func44, Try.ntmps44
    go_wp2_with (first | ((with_reducible refine gate_dst (N := 1) rfl ?_); refine box_event ?hg (N := 1) ?hd (cs := #[.slice A0_0 l0_0.length c0_0, .slice A0_1 l0_1.length c0_1]) (t := 30) ?hr ?_; (case hd => rfl); (case hg => rfl); (case hr => first | (go_simp; done) | (go_simp; rfl)); intro gb207 hg w4 hbox hb; have n0_ := Aside0.mk (below_step (by repeat (first | (with_reducible first | exact HB.out | apply below_alloc | apply pw_below_drewN | apply below_drew1) | exact HB.out)) hb); have n1_ := Aside0.mk (hbox); have n2_ := Aside0.mk ((by rw [hg]; exact (below_size (by repeat (first | (with_reducible first | exact HB.out | apply below_alloc | apply pw_below_drewN | apply below_drew1) | exact HB.out))) : w.heap.size ≤ gb207)); have n3_ := Aside0.mk ((by rw [hg]; exact (below_size (by repeat (first | (with_reducible first | exact HB.out | apply below_alloc | apply pw_below_drewN | apply below_drew1) | exact HB.out))) : w.heap.size ≤ gb207)); clear HB; have HB := n0_; have BK207 := n1_; have GW207 := n2_; have GE207 := n3_; clear n0_ n1_ n2_ n3_; clear hb hbox hg; have hcz5_0 : w4.cell? ⟨gb207, 0, none⟩ = some (.slice A0_0 l0_0.length c0_0) := (blk_cell BK207.out 0).trans rfl; have hcz5_1 : w4.cell? ⟨gb207, 1, none⟩ = some (.slice A0_1 l0_1.length c0_1) := (blk_cell BK207.out 1).trans rfl; have hfz5_0 := blk_frozen BK207.out 0; have hfz5_1 := blk_frozen BK207.out 1) | ((with_reducible refine gate_callee (f := 16) rfl ?_); refine goesL_ (some 8) rfl rfl Try.func16 (by kernel_rfl) rfl #[.agg #[.slice A0_0 l0_0.length c0_0, .slice A0_1 l0_1.length c0_1]] rfl (by (try simp only [List.map_toArray, List.map_cons, List.map_nil]); first | done | rfl | (simp only [List.length_drop, List.length_take]; rfl)) ?_; (with_reducible refine (impl_GoodDevice.calls _ _ l0_0 _ _ l0_1 true _ ?side1 ?side2 ?side3 ?side4 A2.out).mono ?_); (case side1 => repeat (first | exact (Kd.C_below HR0_0.out HB.out) | (with_reducible refine Kd.C_alloc ?_ _) | (with_reducible refine Kd.C_drewN ?_ _) | (with_reducible refine Kd.C_drew ?_))); (case side2 => exact HC0_0.out); (case side3 => repeat (first | exact (Kd.C_below HR0_1.out HB.out) | (with_reducible refine Kd.C_alloc ?_ _) | (with_reducible refine Kd.C_drewN ?_ _) | (with_reducible refine Kd.C_drew ?_))); (case side4 => exact HC0_1.out); rintro e w6 ⟨rfl, hb⟩; refine ⟨_, rfl, ?_⟩; have n0_ := Aside0.mk (blk_below (g := gb207) (o := .cells #[.slice A0_0 l0_0.length c0_0, .slice A0_1 l0_1.length c0_1] 30 (0, 0)) (by (with_reducible repeat (first | refine blk_drewN ?_ _ | refine blk_drew ?_ | refine blk_alloc ?_ _)); exact BK207.out) hb); have n1_ := Aside0.mk (below_step (by repeat (first | (with_reducible first | exact HB.out | apply below_alloc | apply pw_below_drewN | apply below_drew1 | refine below_set ?_ GE207.out) | exact HB.out)) hb); clear BK207; clear HB; have BK207 := n0_; have HB := n1_; clear n0_ n1_; (try clear hb); (try clear hb2); (try clear hk); (try clear hi)) | ((with_reducible refine gate_dst (N := 10) rfl ?_); refine Kd.R_lit (Kd.int .i64) _ 3 ?hg (N := 10) ?hd (xs := ([] : List Int)) (inner := []) (ok := fun _ => True) (okp := fun _ => True) ?hr ?hp (fun _ hk => hk) trivial (Below.refl _ _) (Nat.le_refl _) (by simp) ?_; (case hd => rfl); (case hg => rfl); (case hr => first | (go_simp; done) | (go_simp; rfl)); (case hp => exact (Reps.none _ _)); intro v210 w7 ho8 hb hg_ hnew_; clear hg_ hnew_; (first | rw [← Ny209.out] at ho8 | (simp only [Int.reduceToNat] at ho8; rw [← Ny209.out] at ho8)); have n0_ := Aside0.mk (Kd.R_lower ho8 (below_size (by repeat (first | (with_reducible first | exact HB.out | apply below_alloc | apply pw_below_drewN | apply below_drew1 | refine below_set ?_ GE207.out) | exact HB.out)))); have n1_ := Aside0.mk (blk_below (g := gb207) (o := .cells #[.slice A0_0 l0_0.length c0_0, .slice A0_1 l0_1.length c0_1] 30 (0, 0)) (by (with_reducible repeat (first | refine blk_drewN ?_ _ | refine blk_drew ?_ | refine blk_alloc ?_ _)); exact BK207.out) hb); have n2_ := Aside0.mk (below_step (by repeat (first | (with_reducible first | exact HB.out | apply below_alloc | apply pw_below_drewN | apply below_drew1 | refine below_set ?_ GE207.out) | exact HB.out)) hb); clear BK207; clear HB; have HO211 := n0_; have BK207 := n1_; have HB := n2_; clear n0_ n1_ n2_; clear hb ho8; have hcz9_0 : w7.cell? ⟨gb207, 0, none⟩ = some (.slice A0_0 l0_0.length c0_0) := (blk_cell BK207.out 0).trans rfl; have hcz9_1 : w7.cell? ⟨gb207, 1, none⟩ = some (.slice A0_1 l0_1.length c0_1) := (blk_cell BK207.out 1).trans rfl; have hfz9_0 := blk_frozen BK207.out 0; have hfz9_1 := blk_frozen BK207.out 1))
    go_loopg [4, 14] k (fun kq v4 v14 w' => ∃ (x4_1 : List Int) (x14_1 : Int), v14 = .int .i64 x14_1 ∧ Aside0 (impl_DirtyOf.l0 kq x4_1 l0_1 (l0_1.length : Int) x14_1 = some (r1, r2)) ∧ Aside0 (kq ≤ k) ∧ Aside0 (Kd.R (Kd.int .i64) 3 w' w.heap.size (fun _ => True) v4 x4_1) ∧ Aside0 (w'.heap[gb207]? = some (.cells #[(.slice A0_0 l0_0.length c0_0), (.slice A0_1 l0_1.length c0_1)] 30 (0, 0))) ∧ Aside0 (Below w.heap.size w w'))
    case atStart => exact ⟨(y209), (0), (by first | rfl | (simp; done) | (simp [*]; done)), H', ⟨Nat.le_refl _⟩, ⟨by (with_reducible repeat (first | apply Kd.R_alloc | apply Kd.R_drewN | apply Kd.R_drew)); exact HO211.out⟩, ⟨by (with_reducible repeat (first | refine blk_drewN ?_ _ | refine blk_drew ?_ | refine blk_alloc ?_ _)); exact BK207.out⟩, ⟨by repeat (first | (with_reducible first | exact HB.out | apply below_alloc | apply pw_below_drewN | apply below_drew1 | refine below_set ?_ GE207.out) | exact HB.out)⟩⟩
    case round =>
      clear H'
      try clear c1
      try clear p2
      try clear c3
      try clear c4
      try clear hcz5_0
      try clear hcz5_1
      try clear hcz9_0
      try clear hcz9_1
      try clear hfz5_0
      try clear hfz5_1
      try clear hfz9_0
      try clear hfz9_1
      obtain ⟨x4_1, x14_1, rfl, HA, HK1, HO_4, BK207, HB⟩ := hrel
      cases gk with
      | zero => exact absurd HA.out (fun h_ => by change none = some _ at h_; cases h_)
      | succ k1 =>
        have H := HA.out
        clear HA
        simp only [impl_DirtyOf.l0] at H
        by_cases c10 : x14_1 < (l0_1.length : Int)
        · rw [if_pos c10] at H
          have c10b0 : decide (x14_1 < (l0_1.length : Int)) = true := decide_eq_true c10
          clear c10
          by_cases c11 : 0 ≤ x14_1
          · rw [if_pos c11] at H
            have c11b0 : decide (0 ≤ x14_1) = true := decide_eq_true c11
            clear c11
            by_cases c12 : x14_1 < (l0_1.length : Int)
            · rw [if_pos c12] at H
              have c12b0 : decide (x14_1 < (l0_1.length : Int)) = true := decide_eq_true c12
              clear c12
              by_cases c13 : x4_1.length < 17592186044416
              · rw [if_pos c13] at H
                have LMc13 := Aside0.mk c13
                clear c13
                obtain ⟨y214, hy214⟩ : ∃ y_ : List Int, y_ = (x4_1 ++ [(rd_T42 l0_1 x14_1).f0]) := ⟨_, rfl⟩
                replace H : (impl_DirtyOf.l0 k1 y214 l0_1 (l0_1.length : Int) (wrap64 (x14_1 + 1))) = some (r1, r2) := by first | (rw [hy214]; with_reducible exact H) | (have H2_ := (Option.bind_some _ _).symm.trans H; rw [hy214]; with_reducible exact H2_) | (have H2_ := (Option.bind_some _ _).symm.trans H; with_reducible exact H2_) | with_reducible exact H | (rw [hy214]; exact H) | exact H
                have Ny214 := Aside0.mk hy214
                clear hy214
                have H' := Aside0.mk H
                clear H
                have p212 : 0 ≤ (x14_1 : Int) := of_decide_eq_true (by first | (with_reducible assumption) | assumption)
                have q212 : x14_1 < (l0_1.length : Int) := of_decide_eq_true (by first | (with_reducible assumption) | assumption)
                obtain ⟨ad212, e212, hx212_0, hx212_1⟩ := at_T42 HR0_1.out x14_1 p212 q212
                cases e212
                replace hx212_0 := (HB.out.cell (World.block_lt_of_cell? w _ hx212_0)).trans hx212_0
                replace hx212_1 := (HB.out.cell (World.block_lt_of_cell? w _ hx212_1)).trans hx212_1
                replace p212 := eq_true p212
                replace q212 := eq_true q212
                go_wp2_with (first | ((with_reducible refine gate_dst (N := 6) rfl ?_); refine box_event ?hg (N := 6) ?hd (cs := #[.int .i64 0, .string (⟨#[]⟩ : ByteArray)]) (t := 42) ?hr ?_; (case hd => rfl); (case hg => rfl); (case hr => first | (go_simp; done) | (go_simp; rfl)); intro gb213 hg w14 hbox hb; have n0_ := Aside0.mk (Kd.R_below (by (with_reducible repeat (first | apply Kd.R_alloc | apply Kd.R_drewN | apply Kd.R_drew)); exact HO_4.out) hb); have n1_ := Aside0.mk (blk_below (g := gb207) (o := .cells #[.slice A0_0 l0_0.length c0_0, .slice (some ad212) l0_1.length c0_1] 30 (0, 0)) (by (with_reducible repeat (first | refine blk_drewN ?_ _ | refine blk_drew ?_ | refine blk_alloc ?_ _)); exact BK207.out) hb); have n2_ := Aside0.mk (below_step (by repeat (first | (with_reducible first | exact HB.out | apply below_alloc | apply pw_below_drewN | apply below_drew1 | refine below_set ?_ GE207.out) | exact HB.out)) hb); have n3_ := Aside0.mk (hbox); have n4_ := Aside0.mk ((by rw [hg]; exact (below_size (by repeat (first | (with_reducible first | exact HB.out | apply below_alloc | apply pw_below_drewN | apply below_drew1 | refine below_set ?_ GE207.out) | exact HB.out))) : w.heap.size ≤ gb213)); have n5_ := Aside0.mk ((by rw [hg]; exact (below_size (by repeat (first | (with_reducible first | exact HB.out | apply below_alloc | apply pw_below_drewN | apply below_drew1 | refine below_set ?_ GE207.out) | exact HB.out))) : w.heap.size ≤ gb213)); have n6_ := Aside0.mk ((by rw [hg]; exact Nat.ne_of_lt (blk_lt (g := gb207) (o := .cells #[.slice A0_0 l0_0.length c0_0, .slice (some ad212) l0_1.length c0_1] 30 (0, 0)) (by (with_reducible repeat (first | refine blk_drewN ?_ _ | refine blk_drew ?_ | refine blk_alloc ?_ _)); exact BK207.out)) : gb207 ≠ gb213)); have n7_ := Aside0.mk ((by rw [hg]; exact Nat.ne_of_gt (blk_lt (g := gb207) (o := .cells #[.slice A0_0 l0_0.length c0_0, .slice (some ad212) l0_1.length c0_1] 30 (0, 0)) (by (with_reducible repeat (first | refine blk_drewN ?_ _ | refine blk_drew ?_ | refine blk_alloc ?_ _)); exact BK207.out)) : gb213 ≠ gb207)); clear HO_4; clear BK207; clear HB; have HO_4 := n0_; have BK207 := n1_; have HB := n2_; have BK213 := n3_; have GW213 := n4_; have GE213 := n5_; have NB207_213 := n6_; have NB213_207 := n7_; clear n0_ n1_ n2_ n3_ n4_ n5_ n6_ n7_; clear hb hbox hg; have hnb15 := NB213_207.out; have hnc15 := NB207_213.out; have hcz16_0 : w14.cell? ⟨gb213, 0, none⟩ = some (.int .i64 0) := (blk_cell BK213.out 0).trans rfl; have hcz16_1 : w14.cell? ⟨gb213, 1, none⟩ = some (.string (⟨#[]⟩ : ByteArray)) := (blk_cell BK213.out 1).trans rfl; have hfz16_0 := blk_frozen BK213.out 0; have hfz16_1 := blk_frozen BK213.out 1) | ((with_reducible refine gate_builtin (b := .append) (xs := #[.tmp 18, .tmp 21]) rfl ?_); at_builtin; refine Kd.R_append (Kd.int .i64) (w0 := w) w.heap.size rfl (.tmp 18) (.tmp 21) 61 3 (.int .i64 0) 8 rfl Try.underlying61 info3 rfl (by decide) (by omega) u4 x4_1 ((rd_T42 l0_1 x14_1).f0) [.int .i64 ((rd_T42 l0_1 x14_1).f0)] (fun _ => True) (fun _ => False) rfl (by first | (go_simp; done) | (go_simp; rfl)) ?aP (fun _ hk => hk.elim) ?aF ?aO ?aB ?aS ?aL ?_; (case aP => exact rfl); (case aB => exact (by repeat (first | (with_reducible first | exact HB.out | apply below_alloc | apply pw_below_drewN | apply below_drew1 | refine below_set ?_ GE207.out | refine below_set ?_ GE213.out) | exact HB.out))); (case aF => exact (fun _ _ => trivial)); (case aO => exact (by (with_reducible repeat (first | apply Kd.R_alloc | apply Kd.R_drewN | apply Kd.R_drew)); exact Kd.R_mono (Kd.R_far (p := ⟨gb213, 1, none⟩) (Kd.R_far (p := ⟨gb213, 0, none⟩) (Kd.R_types HO_4.out BK213.out (by decide)) (fun _ hk => hk.2) (.int .i64 ((rd_T42 l0_1 x14_1).f0))) (fun _ hk => hk.2) (.string ((rd_T42 l0_1 x14_1).f1))) (fun _ hk => trivial))); (case aS => exact (below_size (by repeat (first | (with_reducible first | exact HB.out | apply below_alloc | apply pw_below_drewN | apply below_drew1 | refine below_set ?_ GE207.out | refine below_set ?_ GE213.out) | exact HB.out)))); (case aL => have := LMc13.out; omega); intro v215 w17 ho hb hg hat; rw [← Ny214.out] at ho; have n0_ := Aside0.mk (blk_grown (g := gb207) (o := .cells #[.slice A0_0 l0_0.length c0_0, .slice (some ad212) l0_1.length c0_1] 30 (0, 0)) (by (with_reducible repeat (first | refine blk_drewN ?_ _ | refine blk_drew ?_ | refine blk_alloc ?_ _)); refine blk_far ?_ NB207_213.out _; (with_reducible repeat (first | refine blk_drewN ?_ _ | refine blk_drew ?_ | refine blk_alloc ?_ _)); refine blk_far ?_ NB207_213.out _; (with_reducible repeat (first | refine blk_drewN ?_ _ | refine blk_drew ?_ | refine blk_alloc ?_ _)); exact BK207.out) hg (Kd.R_ne HO_4.out BK207.out (by decide))); have n1_ := Aside0.mk (blk_grown (g := gb213) (o := .cells #[.int .i64 ((rd_T42 l0_1 x14_1).f0), .string ((rd_T42 l0_1 x14_1).f1)] 42 (0, 0)) (by (with_reducible repeat (first | refine blk_drewN ?_ _ | refine blk_drew ?_ | refine blk_alloc ?_ _)); refine blk_put (cs := #[.int .i64 ((rd_T42 l0_1 x14_1).f0), .string (⟨#[]⟩ : ByteArray)]) ?_ 1 _ rfl; (with_reducible repeat (first | refine blk_drewN ?_ _ | refine blk_drew ?_ | refine blk_alloc ?_ _)); refine blk_put (cs := #[.int .i64 0, .string (⟨#[]⟩ : ByteArray)]) ?_ 0 _ rfl; (with_reducible repeat (first | refine blk_drewN ?_ _ | refine blk_drew ?_ | refine blk_alloc ?_ _)); exact BK213.out) hg (Kd.R_ne HO_4.out BK213.out (by decide))); have n2_ := Aside0.mk (hb); have n3_ := Aside0.mk (ho); clear BK207; clear BK213; clear HB; clear HO_4; have BK207 := n0_; have BK213 := n1_; have HB := n2_; have HO216 := n3_; clear n0_ n1_ n2_ n3_; clear ho hb hg hat))
                go_roundg k1
                case measure => have := HK1.out; omega
                case rel => exact ⟨(y214), (wrap64 (x14_1 + 1)), (by first | rfl | (simp; done) | (simp [*]; done)), H', ⟨by have := HK1.out; omega⟩, ⟨by (with_reducible repeat (first | apply Kd.R_alloc | apply Kd.R_drewN | apply Kd.R_drew)); exact HO216.out⟩, ⟨by (with_reducible repeat (first | refine blk_drewN ?_ _ | refine blk_drew ?_ | refine blk_alloc ?_ _)); exact BK207.out⟩, ⟨by repeat (first | (with_reducible first | exact HB.out | apply below_alloc | apply pw_below_drewN | apply below_drew1 | refine below_set ?_ GE207.out | refine below_set ?_ GE213.out) | exact HB.out)⟩⟩
              · rw [if_neg c13] at H
                exact absurd H (by simp)
            · rw [if_neg c12] at H
              exact absurd H (by simp)
          · rw [if_neg c11] at H
            exact absurd H (by simp)
        · rw [if_neg c10] at H
          have c10b0 : decide (x14_1 < (l0_1.length : Int)) = false := decide_eq_false c10
          clear c10
          replace H := Option.bind_eq_some_iff.mp H
          obtain ⟨t217, A180, H⟩ := H
          replace H : (some (t217, true)) = some (r1, r2) := H
          have A18 := Aside0.mk A180
          clear A180
          simp only [Option.some.injEq, Prod.mk.injEq] at H
          obtain ⟨rfl, rfl⟩ := H
          obtain ⟨Ao19, co19, eo19⟩ := Kd.R_slice HO_4.out
          subst eo19
          have LA_ : x4_1.length < 4611686018427387904 ∧ t217 = Lib.compact (x4_1.mergeSort fun x y => decide (x ≤ y)) := by
            have h_ := A18.out
            unfold slices_Compact_int_int.f at h_
            split at h_
            · rename_i hl_; exact ⟨hl_, (Option.some.inj h_).symm⟩
            · cases h_
          have HL_ := Aside0.mk LA_.1
          obtain rfl := LA_.2
          clear LA_ A18
          go_wp2_with (first | ((with_reducible refine gate_callee (f := 79) rfl ?_); refine goesL_ (some 25) rfl rfl Try.func79 (by kernel_rfl) rfl #[.slice Ao19 x4_1.length co19] rfl (by (try simp only [List.map_toArray, List.map_cons, List.map_nil]); first | done | rfl) ?_; (with_reducible refine (sortI (w0 := w) (by (with_reducible repeat (first | apply Kd.R_alloc | apply Kd.R_drewN | apply Kd.R_drew)); exact HO_4.out) (by repeat (first | (with_reducible first | exact HB.out | apply below_alloc | apply pw_below_drewN | apply below_drew1) | exact HB.out)) (below_size (by repeat (first | (with_reducible first | exact HB.out | apply below_alloc | apply pw_below_drewN | apply below_drew1) | exact HB.out))) HL_.out).mono ?_); rintro e w_s ⟨rfl, hs1, hs2, hs3⟩; refine ⟨_, rfl, ?_⟩; have n0_ := Aside0.mk hs1; have n1_ := Aside0.mk hs2; clear hs1 hs2 hs3; clear HO_4; clear HB; have HO_4 := n0_; have HB := n1_; clear n0_ n1_) | ((with_reducible refine gate_callee (f := 80) rfl ?_); refine goesL_ (some 27) rfl rfl Try.func80 (by kernel_rfl) rfl #[.slice Ao19 x4_1.length co19] rfl (by (try simp only [List.map_toArray, List.map_cons, List.map_nil]); first | done | rfl) ?_; (with_reducible refine (compI (w0 := w) (by (with_reducible repeat (first | apply Kd.R_alloc | apply Kd.R_drewN | apply Kd.R_drew)); exact HO_4.out) (by repeat (first | (with_reducible first | exact HB.out | apply below_alloc | apply pw_below_drewN | apply below_drew1) | exact HB.out)) (by rw [List.length_mergeSort]; exact HL_.out)).mono ?_); rintro e w_c ⟨v_c, rfl, hs1, hs2⟩; refine ⟨_, rfl, ?_⟩; have HO219 := Aside0.mk hs1; have n1_ := Aside0.mk hs2; clear hs1 hs2; clear HB; have HB := n1_; clear n1_))
          go_ret2
          exact ⟨_, by first | rfl | (simp [errW_none, errW_some] <;> rfl) | (simp [*, errW_none, errW_some] <;> rfl), by (with_reducible repeat (first | apply Kd.R_alloc | apply Kd.R_drewN | apply Kd.R_drew)); exact Kd.R_mono HO219.out (fun _ hk => trivial), by repeat (first | (with_reducible first | exact HB.out | apply below_alloc | apply pw_below_drewN | apply below_drew1 | refine below_set ?_ GE207.out) | exact HB.out)⟩
  · replace c3 := Bool.eq_false_iff.mpr c3
    subst c3
    have H1 : (some (([] : List Int), false)) = some (r1, r2) := by rw [if_neg (show ¬ (false = true) by decide)] at H; exact H
    clear H
    have H := H1
    clear H1
    simp only [Option.some.injEq, Prod.mk.injEq] at H
    obtain ⟨rfl, rfl⟩ := H
    go_enter Try.func44, Try.ntmps44
    go_wp2_with (first | ((with_reducible refine gate_dst (N := 1) rfl ?_); refine box_event ?hg (N := 1) ?hd (cs := #[.slice A0_0 l0_0.length c0_0, .slice A0_1 l0_1.length c0_1]) (t := 30) ?hr ?_; (case hd => rfl); (case hg => rfl); (case hr => first | (go_simp; done) | (go_simp; rfl)); intro gb207 hg w21 hbox hb; have n0_ := Aside0.mk (below_step (by repeat (first | (with_reducible first | exact HB.out | apply below_alloc | apply pw_below_drewN | apply below_drew1) | exact HB.out)) hb); have n1_ := Aside0.mk (hbox); have n2_ := Aside0.mk ((by rw [hg]; exact (below_size (by repeat (first | (with_reducible first | exact HB.out | apply below_alloc | apply pw_below_drewN | apply below_drew1) | exact HB.out))) : w.heap.size ≤ gb207)); have n3_ := Aside0.mk ((by rw [hg]; exact (below_size (by repeat (first | (with_reducible first | exact HB.out | apply below_alloc | apply pw_below_drewN | apply below_drew1) | exact HB.out))) : w.heap.size ≤ gb207)); clear HB; have HB := n0_; have BK207 := n1_; have GW207 := n2_; have GE207 := n3_; clear n0_ n1_ n2_ n3_; clear hb hbox hg; have hcz22_0 : w21.cell? ⟨gb207, 0, none⟩ = some (.slice A0_0 l0_0.length c0_0) := (blk_cell BK207.out 0).trans rfl; have hcz22_1 : w21.cell? ⟨gb207, 1, none⟩ = some (.slice A0_1 l0_1.length c0_1) := (blk_cell BK207.out 1).trans rfl; have hfz22_0 := blk_frozen BK207.out 0; have hfz22_1 := blk_frozen BK207.out 1) | ((with_reducible refine gate_callee (f := 16) rfl ?_); refine goesL_ (some 8) rfl rfl Try.func16 (by kernel_rfl) rfl #[.agg #[.slice A0_0 l0_0.length c0_0, .slice A0_1 l0_1.length c0_1]] rfl (by (try simp only [List.map_toArray, List.map_cons, List.map_nil]); first | done | rfl | (simp only [List.length_drop, List.length_take]; rfl)) ?_; (with_reducible refine (impl_GoodDevice.calls _ _ l0_0 _ _ l0_1 false _ ?side1 ?side2 ?side3 ?side4 A2.out).mono ?_); (case side1 => repeat (first | exact (Kd.C_below HR0_0.out HB.out) | (with_reducible refine Kd.C_alloc ?_ _) | (with_reducible refine Kd.C_drewN ?_ _) | (with_reducible refine Kd.C_drew ?_))); (case side2 => exact HC0_0.out); (case side3 => repeat (first | exact (Kd.C_below HR0_1.out HB.out) | (with_reducible refine Kd.C_alloc ?_ _) | (with_reducible refine Kd.C_drewN ?_ _) | (with_reducible refine Kd.C_drew ?_))); (case side4 => exact HC0_1.out); rintro e w23 ⟨rfl, hb⟩; refine ⟨_, rfl, ?_⟩; have n0_ := Aside0.mk (blk_below (g := gb207) (o := .cells #[.slice A0_0 l0_0.length c0_0, .slice A0_1 l0_1.length c0_1] 30 (0, 0)) (by (with_reducible repeat (first | refine blk_drewN ?_ _ | refine blk_drew ?_ | refine blk_alloc ?_ _)); exact BK207.out) hb); have n1_ := Aside0.mk (below_step (by repeat (first | (with_reducible first | exact HB.out | apply below_alloc | apply pw_below_drewN | apply below_drew1 | refine below_set ?_ GE207.out) | exact HB.out)) hb); clear BK207; clear HB; have BK207 := n0_; have HB := n1_; clear n0_ n1_; (try clear hb); (try clear hb2); (try clear hk); (try clear hi)))
    go_ret2
    exact ⟨_, by first | rfl | (simp [errW_none, errW_some] <;> rfl) | (simp [*, errW_none, errW_some] <;> rfl), by first | exact Kd.R_nil _ _ _ _ _ | exact Kd.N_nil _ _ _ _ _ | exact Kd.V_nil _ _ _ _ _ | exact Kd.Q_nil _ _ _ _ _ | exact Kd.S_nil _ _ _ _ _, by repeat (first | (with_reducible first | exact HB.out | apply below_alloc | apply pw_below_drewN | apply below_drew1 | refine below_set ?_ GE207.out) | exact HB.out)⟩

end Go.Proofs.Ytlhgkbleciokmaa.PFnExactDirtyOf
