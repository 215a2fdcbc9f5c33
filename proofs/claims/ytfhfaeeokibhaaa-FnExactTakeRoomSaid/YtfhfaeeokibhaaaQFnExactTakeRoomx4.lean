/- The walks of FnExactTakeRoom: Go's calls come to what the Lean functions beside them say; no condition. -/
import Derived.Test.YtfhfaeeokibhaaaQFnExactTakeRoomx0
import Derived.Test.YtfhfaeeokibhaaaQFnExactTakeRoomx3
namespace Go.Proofs.Ytfhfaeeokibhaaa.PFnExactTakeRoom
open Go.RowKit Go.Proofs.YtfhfaeeokibhaaaW.PrintWords Go.Proofs.YtfhfaeeokibhaaaW.PrintLast Go.Proofs.YtfhfaeeokibhaaaW.PrintMore
attribute [local go_sem] max2_int min2_int max_two min_two max_three min_three max_four min_four   -- for this text's walks alone
set_option linter.unusedVariables false
set_option linter.unusedSimpArgs false
set_option maxRecDepth 100000

/-! ### spec_l5BySize: function 43 -/
mutual
def spec_l5BySize.l0 : Nat → List (S49) → List (S49) → Int → Int → Option ((List (S49)))
 | 0, _, _, _, _ => none
 | k + 1, x3, x8, x9, x10 => if x10 < x9 then (if 0 ≤ x10 then (if x10 < (x8.length : Int) then (spec_l5BySize.l1 k x3 0 x8 x9 x10 ((rd_T49 x8 x10).f0) ((rd_T49 x8 x10).f1)) else (none)) else (none)) else (some x3)
def spec_l5BySize.l1 : Nat → List (S49) → Int → List (S49) → Int → Int → Int → Int → Option ((List (S49)))
 | 0, _, _, _, _, _, _, _ => none
 | k + 1, x3, x6, x8, x9, x10, x155000, x155001 => if x6 < (x3.length : Int) then (if 0 ≤ x6 then ((spec_l5Less.f ((rd_T49 x3 x6).f0) ((rd_T49 x3 x6).f1) x155000 x155001).bind fun t156 => (if t156 = true then (spec_l5BySize.l1 k x3 (wrap64 (x6 + 1)) x8 x9 x10 x155000 x155001) else (if x6 ≤ (x3.length : Int) then ((some (x3.take (x6 : Int).toNat : List (S49))).bind fun y157 => (if ([] : List (S49)).length + y157.length < 8796093022208 then ((some (([] : List (S49)) ++ y157 : List (S49))).bind fun y161 => (if y161.length < 8796093022208 then ((some (y161 ++ [(⟨x155000, x155001⟩ : S49)] : List (S49))).bind fun y164 => ((some (x3.drop (x6 : Int).toNat : List (S49))).bind fun y167 => (if y164.length + y167.length < 8796093022208 then (spec_l5BySize.l0 k (y164 ++ y167) x8 x9 (wrap64 (x10 + 1))) else (none)))) else (none))) else (none))) else (none)))) else (none)) else (if 0 ≤ x6 then (if x6 ≤ (x3.length : Int) then ((some (x3.take (x6 : Int).toNat : List (S49))).bind fun y174 => (if ([] : List (S49)).length + y174.length < 8796093022208 then ((some (([] : List (S49)) ++ y174 : List (S49))).bind fun y178 => (if y178.length < 8796093022208 then ((some (y178 ++ [(⟨x155000, x155001⟩ : S49)] : List (S49))).bind fun y181 => ((some (x3.drop (x6 : Int).toNat : List (S49))).bind fun y184 => (if y181.length + y184.length < 8796093022208 then (spec_l5BySize.l0 k (y181 ++ y184) x8 x9 (wrap64 (x10 + 1))) else (none)))) else (none))) else (none))) else (none)) else (none))
end
def spec_l5BySize.f (k : Nat) (l0 : List (S49)) : Option ((List (S49))) := spec_l5BySize.l0 k ([] : List (S49)) l0 (l0.length : Int) 0
theorem spec_l5BySize.mono_l : ∀ k, (∀ y0 y1 y2 y3, LeO (spec_l5BySize.l0 k y0 y1 y2 y3) (spec_l5BySize.l0 (k + 1) y0 y1 y2 y3)) ∧ (∀ y0 y1 y2 y3 y4 y5 y6, LeO (spec_l5BySize.l1 k y0 y1 y2 y3 y4 y5 y6) (spec_l5BySize.l1 (k + 1) y0 y1 y2 y3 y4 y5 y6))
 | 0 => ⟨fun _ _ _ _ r h => by simp [spec_l5BySize.l0] at h, fun _ _ _ _ _ _ _ r h => by simp [spec_l5BySize.l1] at h⟩
 | k + 1 => by
  obtain ⟨ih0, ih1⟩ := spec_l5BySize.mono_l k
  refine ⟨?_, ?_⟩
  ·intro y0 y1 y2 y3
   unfold spec_l5BySize.l0
   repeat' first
   | (with_reducible exact ih0 _ _ _ _)
   | (with_reducible exact ih1 _ _ _ _ _ _ _)
   | (with_reducible exact LeO.refl _)
   | (with_reducible exact LeO.none _)
   | (with_reducible refine LeO.ite ?_ ?_)
   | (with_reducible refine LeO.bind ?_ (fun _ => ?_))
   | exact ih0 _ _ _ _
   | exact ih1 _ _ _ _ _ _ _
   | exact LeO.none _
   | refine LeO.ite ?_ ?_
   | refine LeO.bind ?_ (fun _ => ?_)
  ·intro y0 y1 y2 y3 y4 y5 y6
   unfold spec_l5BySize.l1
   repeat' first
   | (with_reducible exact ih0 _ _ _ _)
   | (with_reducible exact ih1 _ _ _ _ _ _ _)
   | (with_reducible exact LeO.refl _)
   | (with_reducible exact LeO.none _)
   | (with_reducible refine LeO.ite ?_ ?_)
   | (with_reducible refine LeO.bind ?_ (fun _ => ?_))
   | exact ih0 _ _ _ _
   | exact ih1 _ _ _ _ _ _ _
   | exact LeO.none _
   | refine LeO.ite ?_ ?_
   | refine LeO.bind ?_ (fun _ => ?_)
theorem spec_l5BySize.mono : ∀ a0 k, LeO (spec_l5BySize.f k a0) (spec_l5BySize.f (k + 1) a0) := by
 intro a0 k
 obtain ⟨ih0, ih1⟩ := spec_l5BySize.mono_l k
 unfold spec_l5BySize.f
 repeat' first
   | (with_reducible exact ih0 _ _ _ _)
   | (with_reducible exact ih1 _ _ _ _ _ _ _)
   | (with_reducible exact LeO.refl _)
   | (with_reducible exact LeO.none _)
   | (with_reducible refine LeO.ite ?_ ?_)
   | (with_reducible refine LeO.bind ?_ (fun _ => ?_))
   | exact ih0 _ _ _ _
   | exact ih1 _ _ _ _ _ _ _
   | exact LeO.none _
   | refine LeO.ite ?_ ?_
   | refine LeO.bind ?_ (fun _ => ?_)
def spec_l5BySize.T6 : Bool × List (List Nat × List Nat) := (true, [([], []), ([], []), ([1], [1]), ([0, 2], [0, 2]), ([3], [3]), ([4], [4]), ([4], [4]), ([5, 6, 4], [4, 5, 6]), ([7, 4], [4, 7]), ([4], [4]), ([8, 9, 4, 4], [4, 8, 9]), ([4, 10], [4, 10])])
def spec_l5BySize.B6 : List Nat := [0, 0, 2, 7, 15, 31, 31, 127, 255, 31, 1023, 2047]
theorem spec_l5BySize.tab6 : rtab .any (opsOf Try.f43 6) = spec_l5BySize.T6 := by kernel_rfl
theorem spec_l5BySize.bits6 : waitsOk spec_l5BySize.T6.2 spec_l5BySize.B6 = true := by kernel_rfl
set_option maxHeartbeats 8000000 in
set_option maxRecDepth 100000 in
theorem spec_l5BySize.calls (k : Nat) (A0 : Option Addr) (c0 : Nat) (l0 : List (S49)) (r : List (S49)) (w : World) (hr0 : Kd.C k49 w A0 l0.length l0) (hc0 : l0.length ≤ c0) (h : spec_l5BySize.f k l0 = some r) :
  Calls Try.prog 43 #[.slice A0 l0.length c0] w fun e w' => ∃ v0_ : Value, e = .returned (v0_) ∧ Kd.R k49 49 w' w.heap.size (fun _ => True) v0_ r ∧ Below w.heap.size w w' := by
 have hu49 := Try.underlying49
 have HR0 := aM hr0
 have HC0 := aM hc0
 clear hr0 hc0
 have HB := aM (Below.refl w.heap.size w)
 have H : (spec_l5BySize.l0 k ([] : List (S49)) l0 (l0.length : Int) 0) = some r := h
 clear h
 have H' := aM H
 clear H
 go_enter Try.func43, Try.ntmps43
 go_wp2
 go_loopg [3, 10] k (fun kq v3 v10 w' => ∃ (x3_1 : List (S49)) (x10_1 : Int), v10 = .int .i64 x10_1 ∧ Aside0 (spec_l5BySize.l0 kq x3_1 l0 (l0.length : Int) x10_1 = some r) ∧ Aside0 (kq ≤ k) ∧ Aside0 (Kd.R k49 49 w' w.heap.size (fun _ => True) v3 x3_1) ∧ Aside0 (Below w.heap.size w w'))
 case atStart => exact ⟨(([] : List (S49))), (0), (by first | rfl | (simp; done) | (simp [*]; done)), H', ⟨Nat.le_refl _⟩, ⟨by first | exact Kd.R_nil _ _ _ _ _ | exact Kd.N_nil _ _ _ _ _ | exact Kd.V_nil _ _ _ _ _ | exact Kd.Q_nil _ _ _ _ _ | exact Kd.S_nil _ _ _ _ _⟩, ⟨zH HB.out⟩⟩
 case round =>
  clear H'
  obtain ⟨x3_1, x10_1, rfl, HA, HK1, p0', HB⟩ := hrel
  cases gk with
  | zero => exact absurd HA.out (fun h_ => by change none = some _ at h_; cases h_)
  | succ k1 =>
   have H := HA.out
   clear HA
   simp only [spec_l5BySize.l0] at H
   by_cases c2 : x10_1 < (l0.length : Int)
   ·rw [if_pos c2] at H
    have c2b0 : decide (x10_1 < (l0.length : Int)) = true := decide_eq_true c2
    clear c2
    by_cases c3 : 0 ≤ x10_1
    ·rw [if_pos c3] at H
     have c3b0 : decide (0 ≤ x10_1) = true := decide_eq_true c3
     clear c3
     by_cases c4 : x10_1 < (l0.length : Int)
     ·rw [if_pos c4] at H
      have c4b0 : decide (x10_1 < (l0.length : Int)) = true := decide_eq_true c4
      clear c4
      have H' := aM H
      clear H
      have p153 : 0 ≤ (x10_1 : Int) := of_decide_eq_true (by first | (with_reducible assumption) | assumption)
      have q153 : x10_1 < (l0.length : Int) := of_decide_eq_true (by first | (with_reducible assumption) | assumption)
      obtain ⟨ad153, e153, hx153_0, hx153_1⟩ := at_T49 HR0.out x10_1 p153 q153
      cases e153
      replace hx153_0 := (HB.out.cell (World.block_lt_of_cell? w _ hx153_0)).trans hx153_0
      replace hx153_1 := (HB.out.cell (World.block_lt_of_cell? w _ hx153_1)).trans hx153_1
      replace p153 := eq_true p153
      replace q153 := eq_true q153
      go_wp2_with (first | ((with_reducible refine gate_dst (N := 5) rfl ?_); refine box_event ?hg (N := 5) ?hd (cs := #[.int .i64 0, .int .i64 0]) (t := 49) ?hr ?_; (case hd => rfl); (case hg => rfl); (case hr => first | (go_simp; done) | (go_simp; rfl)); intro gb154 hg w5 hbox hb; replace p0' := aM (xB (Kd.R_elderB (xH p0'.out) gb154 (Nat.le_of_eq hg.symm)) hb); have BK154 := aM (hbox); have GW154 := aM ((by rw [hg]; exact (zZ (zH HB.out)) : w.heap.size ≤ gb154)); have GE154 := aM ((by rw [hg]; exact (zZ (zH HB.out)) : w.heap.size ≤ gb154)); replace HB := aM (zT (zH HB.out) hb); clear hb hbox hg; have hcz6_0 : w5.cell? ⟨gb154, 0, none⟩ = some (.int .i64 0) := yc BK154.out 0; have hcz6_1 : w5.cell? ⟨gb154, 1, none⟩ = some (.int .i64 0) := yc BK154.out 1; have hfz6_0 := yZ BK154.out 0; have hfz6_1 := yZ BK154.out 1))
      go_loopg [6] k1 (fun kq v6 w' => ∃ (x6_2 : Int), v6 = .int .i64 x6_2 ∧ Aside0 (spec_l5BySize.l1 kq x3_1 x6_2 l0 (l0.length : Int) x10_1 ((rd_T49 l0 x10_1).f0) ((rd_T49 l0 x10_1).f1) = some r) ∧ Aside0 (kq ≤ k1) ∧ Aside0 (Kd.R k49 49 w' w.heap.size (fun k_ => k_ ≠ gb154) u3 x3_1) ∧ Aside0 (w'.heap[gb154]? = some (.cells #[.int .i64 ((rd_T49 l0 x10_1).f0), .int .i64 ((rd_T49 l0 x10_1).f1)] 49 (0, 0))) ∧ Aside0 (Below w.heap.size w w'))
      case atStart => exact ⟨(0), (by first | rfl | (simp; done) | (simp [*]; done)), H', ⟨Nat.le_refl _⟩, ⟨xH (xM (xF (p := ⟨gb154, 1, none⟩) (xF (p := ⟨gb154, 0, none⟩) (xM p0'.out (fun k_ hk => (⟨hk, hk.2⟩ : _ ∧ k_ ≠ gb154))) (fun _ hk => hk.2) (.int .i64 ((rd_T49 l0 x10_1).f0))) (fun _ hk => hk.2) (.int .i64 ((rd_T49 l0 x10_1).f1))) (fun _ hk => hk.1.2))⟩, ⟨by (with_reducible repeat (first | refine yN ?_ _ | refine yD ?_ | refine yA ?_ _)); refine yP (cs := #[.int .i64 ((rd_T49 l0 x10_1).f0), .int .i64 0]) ?_ 1 _ rfl; (with_reducible repeat (first | refine yN ?_ _ | refine yD ?_ | refine yA ?_ _)); refine yP (cs := #[.int .i64 0, .int .i64 0]) ?_ 0 _ rfl; (with_reducible repeat (first | refine yN ?_ _ | refine yD ?_ | refine yA ?_ _)); exact BK154.out⟩, ⟨zH HB.out⟩⟩
      case round =>
       clear H'
       (try clear p1); (try clear q1); (try clear hx1); (try clear c2); (try clear c2b0); (try clear p2); (try clear c3); (try clear c3b0); (try clear c4); (try clear c4b0); (try clear hcz6_0); (try clear hcz6_1); (try clear hfz6_0); (try clear hfz6_1); (try clear hx153_0); (try clear hx153_1); (try clear p153); (try clear q153)
       obtain ⟨x6_2, rfl, HA, HK2, p0', BK154, HB⟩ := hrel
       cases gk with
       | zero => exact absurd HA.out (fun h_ => by change none = some _ at h_; cases h_)
       | succ k2 =>
        have H := HA.out
        clear HA
        simp only [spec_l5BySize.l1] at H
        by_cases c7 : x6_2 < (x3_1.length : Int)
        ·rw [if_pos c7] at H
         have c7b0 : decide (x6_2 < (x3_1.length : Int)) = true := decide_eq_true c7
         clear c7
         by_cases c8 : 0 ≤ x6_2
         ·rw [if_pos c8] at H
          have c8b0 : decide (0 ≤ x6_2) = true := decide_eq_true c8
          clear c8
          replace H := Option.bind_eq_some_iff.mp H
          obtain ⟨t156, A90, H⟩ := H
          replace H : (if t156 = true then (spec_l5BySize.l1 k2 x3_1 (wrap64 (x6_2 + 1)) l0 (l0.length : Int) x10_1 ((rd_T49 l0 x10_1).f0) ((rd_T49 l0 x10_1).f1)) else (if x6_2 ≤ (x3_1.length : Int) then ((some (x3_1.take (x6_2 : Int).toNat : List (S49))).bind fun y157 => (if ([] : List (S49)).length + y157.length < 8796093022208 then ((some (([] : List (S49)) ++ y157 : List (S49))).bind fun y161 => (if y161.length < 8796093022208 then ((some (y161 ++ [(⟨((rd_T49 l0 x10_1).f0), ((rd_T49 l0 x10_1).f1)⟩ : S49)] : List (S49))).bind fun y164 => ((some (x3_1.drop (x6_2 : Int).toNat : List (S49))).bind fun y167 => (if y164.length + y167.length < 8796093022208 then (spec_l5BySize.l0 k2 (y164 ++ y167) l0 (l0.length : Int) (wrap64 (x10_1 + 1))) else (none)))) else (none))) else (none))) else (none))) = some r := H
          have A9 := aM A90
          clear A90
          by_cases c10 : t156 = true
          ·subst c10
           have H1 : (spec_l5BySize.l1 k2 x3_1 (wrap64 (x6_2 + 1)) l0 (l0.length : Int) x10_1 ((rd_T49 l0 x10_1).f0) ((rd_T49 l0 x10_1).f1)) = some r := by rw [if_pos rfl] at H; exact H
           clear H
           have H := H1
           clear H1
           have H' := aM H
           clear H
           try go_wp2
           replace p0' := aM (xD p0'.out)
           replace BK154 := aM (yD BK154.out)
           replace HB := aM (zD HB.out)
           obtain ⟨Ao12, co12, eo12⟩ := Kd.R_slice p0'.out
           (first | subst eo12 | obtain ⟨rfl, rfl⟩ := eI eo12)
           have p155 : 0 ≤ (x6_2 : Int) := of_decide_eq_true (by first | (with_reducible assumption) | assumption)
           have q155 : x6_2 < (x3_1.length : Int) := of_decide_eq_true (by first | (with_reducible assumption) | assumption)
           obtain ⟨ad155, e155, hx155_0, hx155_1⟩ := at_T49 (Kd.R_reads' p0'.out).2.2 x6_2 p155 q155
           cases e155
           replace p155 := eq_true p155
           replace q155 := eq_true q155
           refine start_ (n := 12) (S := fun w' => w'.cell? ⟨gb154, 0, none⟩ = some (.int .i64 ((rd_T49 l0 x10_1).f0)) ∧ w'.cell? ⟨gb154, 1, none⟩ = some (.int .i64 ((rd_T49 l0 x10_1).f1)) ∧ w'.cell? (ad155.add ((x6_2).toNat * 2)) = some (.int .i64 ((rd_T49 x3_1 x6_2).f0)) ∧ w'.cell? ⟨(ad155.add ((x6_2).toNat * 2)).block, (ad155.add ((x6_2).toNat * 2)).off + 1, none⟩ = some (.int .i64 ((rd_T49 x3_1 x6_2).f1))) (ds := []) #[fF,fF,fF,fF,fF,fF,fF,fF,fF,fF,fF,fF] (by kernel_rfl) rfl rfl ⟨yc BK154.out 0, yc BK154.out 1, hx155_0, hx155_1⟩ (fun hHeld => ?_); refine with_tabW spec_l5BySize.tab6 spec_l5BySize.bits6 (fun HT_ HW_ => ?_)
           generalize wr.drew = w11 at p0' BK154 HB hx155_0 hx155_1 hHeld ⊢
           refine pure_ (i := 0) (N := some 14) (v := ?_) (a' := ?_) #[tT,fF,fF,fF,fF,fF,fF,fF,fF,fF,fF,fF] rfl rfl (any_of HT_.out (by kernel_rfl)) (fun _ _ _ h => h) (Or.inl ⟨by rfl, ?_⟩) ?_ ?_
           rotate_left
           ·intro w'
            go_simp
            with_reducible rfl
           rotate_left
           ·simp only [Act.put, qA, qB, qC, i64_w, i32_w]
            rfl
           refine pure_ (i := 1) (N := some 15) (v := ?_) (a' := ?_) #[tT,tT,fF,fF,fF,fF,fF,fF,fF,fF,fF,fF] rfl rfl (any_of HT_.out (by kernel_rfl)) (fun _ _ _ h => h) (Or.inl ⟨by rfl, ?_⟩) ?_ ?_
           rotate_left
           ·intro w'
            go_simp
            with_reducible rfl
           rotate_left
           ·simp only [Act.put, qA, qB, qC, i64_w, i32_w]
            rfl
           refine pure_ (i := 2) (N := some 16) (v := ?_) (a' := ?_) #[tT,tT,tT,fF,fF,fF,fF,fF,fF,fF,fF,fF] rfl rfl (any_of HT_.out (by kernel_rfl)) (fun _ _ _ h => h) (Or.inl ⟨by rfl, ?_⟩) ?_ ?_
           rotate_left
           ·intro w'
            go_simp
            with_reducible rfl
           rotate_left
           ·simp only [Act.put, qA, qB, qC, i64_w, i32_w]
            rfl
           refine pure_ (i := 3) (N := some 17) (v := ?_) (a' := ?_) #[tT,tT,tT,tT,fF,fF,fF,fF,fF,fF,fF,fF] rfl rfl (any_of HT_.out (by kernel_rfl)) (fun _ _ _ h => h) (Or.inl ⟨by rfl, ?_⟩) ?_ ?_
           rotate_left
           ·intro w'
            go_simp
            with_reducible rfl
           rotate_left
           ·simp only [Act.put, qA, qB, qC, i64_w, i32_w]
            rfl
           refine pure_ (i := 4) (N := some 18) (v := ?_) (a' := ?_) #[tT,tT,tT,tT,tT,fF,fF,fF,fF,fF,fF,fF] rfl rfl (any_of HT_.out (by kernel_rfl)) (fun _ _ _ h => h) (Or.inl ⟨by rfl, ?_⟩) ?_ ?_
           rotate_left
           ·intro w'
            go_simp
            with_reducible rfl
           rotate_left
           ·simp only [Act.put, qA, qB, qC, i64_w, i32_w]
            rfl
           refine pure_ (i := 5) (N := some 19) (v := ?_) (a' := ?_) #[tT,tT,tT,tT,tT,tT,fF,fF,fF,fF,fF,fF] rfl rfl (any_of HT_.out (by kernel_rfl)) (fun _ _ _ h => h) (Or.inl ⟨by rfl, ?_⟩) ?_ ?_
           rotate_left
           ·intro w'
            go_simp
            with_reducible rfl
           rotate_left
           ·simp only [Act.put, qA, qB, qC, i64_w, i32_w]
            rfl
           refine pure_ (i := 6) (N := some 20) (v := ?_) (a' := ?_) #[tT,tT,tT,tT,tT,tT,tT,fF,fF,fF,fF,fF] rfl rfl (any_of HT_.out (by kernel_rfl)) (fun _ _ _ h => h) (Or.inl ⟨by rfl, ?_⟩) ?_ ?_
           rotate_left
           ·intro w'
            go_simp
            with_reducible rfl
           rotate_left
           ·simp only [Act.put, qA, qB, qC, i64_w, i32_w]
            rfl
           refine pure_ (i := 7) (N := some 21) (v := ?_) (a' := ?_) #[tT,tT,tT,tT,tT,tT,tT,tT,fF,fF,fF,fF] rfl rfl (any_of HT_.out (by kernel_rfl)) (fun _ _ _ h => h) (Or.inl ⟨by rfl, ?_⟩) ?_ ?_
           rotate_left
           ·intro w'
            go_simp
            with_reducible rfl
           rotate_left
           ·simp only [Act.put, qA, qB, qC, i64_w, i32_w]
            rfl
           refine take_ (i := 8) (N := some 22) (v := ?_) (a' := ?_) #[tT,tT,tT,tT,tT,tT,tT,tT,tT,fF,fF,fF] rfl rfl (take_ofW HT_.out HW_.out (by kernel_rfl)) (fun _ _ _ h => h) (Or.inl ⟨by rfl, ?_⟩) hHeld ?_ ?_
           rotate_left
           ·rintro w' ⟨s0, s1, s2, s3⟩
            go_simp
            with_reducible rfl
           rotate_left
           ·simp only [Act.put, qA, qB, qC, i64_w, i32_w]
            rfl
           refine take_ (i := 9) (N := some 23) (v := ?_) (a' := ?_) #[tT,tT,tT,tT,tT,tT,tT,tT,tT,tT,fF,fF] rfl rfl (take_ofW HT_.out HW_.out (by kernel_rfl)) (fun _ _ _ h => h) (Or.inl ⟨by rfl, ?_⟩) hHeld ?_ ?_
           rotate_left
           ·rintro w' ⟨s0, s1, s2, s3⟩
            go_simp
            with_reducible rfl
           rotate_left
           ·simp only [Act.put, qA, qB, qC, i64_w, i32_w]
            rfl
           refine one_ (i := 10) (N := some 24) #[tT,tT,tT,tT,tT,tT,tT,tT,tT,tT,tT,fF] rfl rfl (one_of HT_.out (by kernel_rfl)) (by decide) (fun K hK => ?_)
           refine gS Try.func60 (by kernel_rfl) rfl #[.agg #[.int .i64 ((rd_T49 x3_1 x6_2).f0), .int .i64 ((rd_T49 x3_1 x6_2).f1)], .agg #[.int .i64 ((rd_T49 l0 x10_1).f0), .int .i64 ((rd_T49 l0 x10_1).f1)]] (by rfl) rfl rfl ?_
           with_reducible refine (spec_l5Less.calls ((rd_T49 x3_1 x6_2).f0) ((rd_T49 x3_1 x6_2).f1) ((rd_T49 l0 x10_1).f0) ((rd_T49 l0 x10_1).f1) true _ A9.out).mono ?_
           rintro e w13 ⟨rfl, hb⟩
           have HS2_ := (hb.cell (World.block_lt_of_cell? _ _ (hHeld.2.2.1))).trans (hHeld.2.2.1)
           have HS3_ := (hb.cell (World.block_lt_of_cell? _ _ (hHeld.2.2.2))).trans (hHeld.2.2.2)
           refine ⟨_, rfl, ?_⟩
           replace p0' := xK p0'.out hb
           replace BK154 := yK BK154.out hb
           replace HB := aM (zT (zH HB.out) hb)
           (try clear hb)
           refine hK.out _ _ ⟨yc BK154.out 0, yc BK154.out 1, HS2_, HS3_⟩ (fun hHeld => ?_)
           clear hK K
           refine norm_ (a' := ?_) ?_ ?_
           rotate_left
           ·show Act.put _ (some 24) _ = _
            simp only [Act.put, qA, qB, qC, i64_w, i32_w]
            rfl
           refine pure_ (i := 11) (N := some 25) (v := ?_) (a' := ?_) #[tT,tT,tT,tT,tT,tT,tT,tT,tT,tT,tT,tT] rfl rfl (any_of HT_.out (by kernel_rfl)) (fun _ _ _ h => h) (Or.inl ⟨by rfl, ?_⟩) ?_ ?_
           rotate_left
           ·intro w'
            go_simp
            with_reducible rfl
           rotate_left
           ·simp only [Act.put, qA, qB, qC, i64_w, i32_w]
            rfl
           refine done_ (done_of HT_.out (by kernel_rfl)) ?_
           try go_wp2
           go_roundg k2
           case measure => have := HK1.out; have := HK2.out; omega
           case rel => exact ⟨(wrap64 (x6_2 + 1)), (by first | rfl | (simp; done) | (simp [*]; done)), H', ⟨by have := HK1.out; have := HK2.out; omega⟩, ⟨xH p0'.out⟩, ⟨yH BK154.out⟩, ⟨zH HB.out⟩⟩
          ·replace c10 := Bool.eq_false_iff.mpr c10
           subst c10
           have H1 : (if x6_2 ≤ (x3_1.length : Int) then ((some (x3_1.take (x6_2 : Int).toNat : List (S49))).bind fun y157 => (if ([] : List (S49)).length + y157.length < 8796093022208 then ((some (([] : List (S49)) ++ y157 : List (S49))).bind fun y161 => (if y161.length < 8796093022208 then ((some (y161 ++ [(⟨((rd_T49 l0 x10_1).f0), ((rd_T49 l0 x10_1).f1)⟩ : S49)] : List (S49))).bind fun y164 => ((some (x3_1.drop (x6_2 : Int).toNat : List (S49))).bind fun y167 => (if y164.length + y167.length < 8796093022208 then (spec_l5BySize.l0 k2 (y164 ++ y167) l0 (l0.length : Int) (wrap64 (x10_1 + 1))) else (none)))) else (none))) else (none))) else (none)) = some r := by rw [if_neg (show ¬ (false = true) by decide)] at H; exact H
           clear H
           have H := H1
           clear H1
           have c14b0 := eq_true (of_decide_eq_true (by first | (with_reducible assumption) | assumption) : 0 ≤ x6_2)
           by_cases c15 : x6_2 ≤ (x3_1.length : Int)
           ·rw [if_pos c15] at H
            have c15b0 := eq_true c15
            have c15b1 : decide (x6_2 ≤ (x3_1.length : Int)) = true := decide_eq_true c15
            clear c15
            obtain ⟨y157, hy157⟩ : ∃ y_ : List (S49), y_ = (x3_1.take (x6_2 : Int).toNat) := ⟨_, rfl⟩
            replace H : (if ([] : List (S49)).length + y157.length < 8796093022208 then ((some (([] : List (S49)) ++ y157 : List (S49))).bind fun y161 => (if y161.length < 8796093022208 then ((some (y161 ++ [(⟨((rd_T49 l0 x10_1).f0), ((rd_T49 l0 x10_1).f1)⟩ : S49)] : List (S49))).bind fun y164 => ((some (x3_1.drop (x6_2 : Int).toNat : List (S49))).bind fun y167 => (if y164.length + y167.length < 8796093022208 then (spec_l5BySize.l0 k2 (y164 ++ y167) l0 (l0.length : Int) (wrap64 (x10_1 + 1))) else (none)))) else (none))) else (none)) = some r := by first | (rw [hy157]; with_reducible exact H) | (have H2_ := (Option.bind_some _ _).symm.trans H; rw [hy157]; with_reducible exact H2_) | (have H2_ := (Option.bind_some _ _).symm.trans H; with_reducible exact H2_) | with_reducible exact H | (rw [hy157]; exact H) | exact H
            have Ny157 := aM hy157
            clear hy157
            by_cases c16 : ([] : List (S49)).length + y157.length < 8796093022208
            ·rw [if_pos c16] at H
             have LMc16 := aM c16
             clear c16
             obtain ⟨y161, hy161⟩ : ∃ y_ : List (S49), y_ = (([] : List (S49)) ++ y157) := ⟨_, rfl⟩
             replace H : (if y161.length < 8796093022208 then ((some (y161 ++ [(⟨((rd_T49 l0 x10_1).f0), ((rd_T49 l0 x10_1).f1)⟩ : S49)] : List (S49))).bind fun y164 => ((some (x3_1.drop (x6_2 : Int).toNat : List (S49))).bind fun y167 => (if y164.length + y167.length < 8796093022208 then (spec_l5BySize.l0 k2 (y164 ++ y167) l0 (l0.length : Int) (wrap64 (x10_1 + 1))) else (none)))) else (none)) = some r := by first | (rw [hy161]; with_reducible exact H) | (have H2_ := (Option.bind_some _ _).symm.trans H; rw [hy161]; with_reducible exact H2_) | (have H2_ := (Option.bind_some _ _).symm.trans H; with_reducible exact H2_) | with_reducible exact H | (rw [hy161]; exact H) | exact H
             have Ny161 := aM hy161
             clear hy161
             by_cases c17 : y161.length < 8796093022208
             ·rw [if_pos c17] at H
              have LMc17 := aM c17
              clear c17
              obtain ⟨y164, hy164⟩ : ∃ y_ : List (S49), y_ = (y161 ++ [(⟨((rd_T49 l0 x10_1).f0), ((rd_T49 l0 x10_1).f1)⟩ : S49)]) := ⟨_, rfl⟩
              replace H : ((some (x3_1.drop (x6_2 : Int).toNat : List (S49))).bind fun y167 => (if y164.length + y167.length < 8796093022208 then (spec_l5BySize.l0 k2 (y164 ++ y167) l0 (l0.length : Int) (wrap64 (x10_1 + 1))) else (none))) = some r := by first | (rw [hy164]; with_reducible exact H) | (have H2_ := (Option.bind_some _ _).symm.trans H; rw [hy164]; with_reducible exact H2_) | (have H2_ := (Option.bind_some _ _).symm.trans H; with_reducible exact H2_) | with_reducible exact H | (rw [hy164]; exact H) | exact H
              have Ny164 := aM hy164
              clear hy164
              have c18b0 := eq_true (of_decide_eq_true (by first | (with_reducible assumption) | assumption) : 0 ≤ x6_2)
              have c19b0 := eq_true (of_decide_eq_true (by first | (with_reducible assumption) | assumption) : x6_2 ≤ (x3_1.length : Int))
              obtain ⟨y167, hy167⟩ : ∃ y_ : List (S49), y_ = (x3_1.drop (x6_2 : Int).toNat) := ⟨_, rfl⟩
              replace H : (if y164.length + y167.length < 8796093022208 then (spec_l5BySize.l0 k2 (y164 ++ y167) l0 (l0.length : Int) (wrap64 (x10_1 + 1))) else (none)) = some r := by first | (rw [hy167]; with_reducible exact H) | (have H2_ := (Option.bind_some _ _).symm.trans H; rw [hy167]; with_reducible exact H2_) | (have H2_ := (Option.bind_some _ _).symm.trans H; with_reducible exact H2_) | with_reducible exact H | (rw [hy167]; exact H) | exact H
              have Ny167 := aM hy167
              clear hy167
              by_cases c20 : y164.length + y167.length < 8796093022208
              ·rw [if_pos c20] at H
               have LMc20 := aM c20
               clear c20
               obtain ⟨y171, hy171⟩ : ∃ y_ : List (S49), y_ = (y164 ++ y167) := ⟨_, rfl⟩
               replace H : (spec_l5BySize.l0 k2 y171 l0 (l0.length : Int) (wrap64 (x10_1 + 1))) = some r := by first | (rw [hy171]; with_reducible exact H) | (have H2_ := (Option.bind_some _ _).symm.trans H; rw [hy171]; with_reducible exact H2_) | (have H2_ := (Option.bind_some _ _).symm.trans H; with_reducible exact H2_) | with_reducible exact H | (rw [hy171]; exact H) | exact H
               have Ny171 := aM hy171
               clear hy171
               have H' := aM H
               clear H
               try go_wp2
               replace p0' := aM (xD p0'.out)
               replace BK154 := aM (yD BK154.out)
               replace HB := aM (zD HB.out)
               obtain ⟨Ao22, co22, eo22⟩ := Kd.R_slice p0'.out
               (first | subst eo22 | obtain ⟨rfl, rfl⟩ := eI eo22)
               have p155 : 0 ≤ (x6_2 : Int) := of_decide_eq_true (by first | (with_reducible assumption) | assumption)
               have q155 : x6_2 < (x3_1.length : Int) := of_decide_eq_true (by first | (with_reducible assumption) | assumption)
               obtain ⟨ad155, e155, hx155_0, hx155_1⟩ := at_T49 (Kd.R_reads' p0'.out).2.2 x6_2 p155 q155
               cases e155
               replace p155 := eq_true p155
               replace q155 := eq_true q155
               refine start_ (n := 12) (S := fun w' => w'.cell? ⟨gb154, 0, none⟩ = some (.int .i64 ((rd_T49 l0 x10_1).f0)) ∧ w'.cell? ⟨gb154, 1, none⟩ = some (.int .i64 ((rd_T49 l0 x10_1).f1)) ∧ w'.cell? (ad155.add ((x6_2).toNat * 2)) = some (.int .i64 ((rd_T49 x3_1 x6_2).f0)) ∧ w'.cell? ⟨(ad155.add ((x6_2).toNat * 2)).block, (ad155.add ((x6_2).toNat * 2)).off + 1, none⟩ = some (.int .i64 ((rd_T49 x3_1 x6_2).f1))) (ds := []) #[fF,fF,fF,fF,fF,fF,fF,fF,fF,fF,fF,fF] (by kernel_rfl) rfl rfl ⟨yc BK154.out 0, yc BK154.out 1, hx155_0, hx155_1⟩ (fun hHeld => ?_); refine with_tabW spec_l5BySize.tab6 spec_l5BySize.bits6 (fun HT_ HW_ => ?_)
               generalize wr.drew = w21 at p0' BK154 HB hx155_0 hx155_1 hHeld ⊢
               refine pure_ (i := 0) (N := some 14) (v := ?_) (a' := ?_) #[tT,fF,fF,fF,fF,fF,fF,fF,fF,fF,fF,fF] rfl rfl (any_of HT_.out (by kernel_rfl)) (fun _ _ _ h => h) (Or.inl ⟨by rfl, ?_⟩) ?_ ?_
               rotate_left
               ·intro w'
                go_simp
                with_reducible rfl
               rotate_left
               ·simp only [Act.put, qA, qB, qC, i64_w, i32_w]
                rfl
               refine pure_ (i := 1) (N := some 15) (v := ?_) (a' := ?_) #[tT,tT,fF,fF,fF,fF,fF,fF,fF,fF,fF,fF] rfl rfl (any_of HT_.out (by kernel_rfl)) (fun _ _ _ h => h) (Or.inl ⟨by rfl, ?_⟩) ?_ ?_
               rotate_left
               ·intro w'
                go_simp
                with_reducible rfl
               rotate_left
               ·simp only [Act.put, qA, qB, qC, i64_w, i32_w]
                rfl
               refine pure_ (i := 2) (N := some 16) (v := ?_) (a' := ?_) #[tT,tT,tT,fF,fF,fF,fF,fF,fF,fF,fF,fF] rfl rfl (any_of HT_.out (by kernel_rfl)) (fun _ _ _ h => h) (Or.inl ⟨by rfl, ?_⟩) ?_ ?_
               rotate_left
               ·intro w'
                go_simp
                with_reducible rfl
               rotate_left
               ·simp only [Act.put, qA, qB, qC, i64_w, i32_w]
                rfl
               refine pure_ (i := 3) (N := some 17) (v := ?_) (a' := ?_) #[tT,tT,tT,tT,fF,fF,fF,fF,fF,fF,fF,fF] rfl rfl (any_of HT_.out (by kernel_rfl)) (fun _ _ _ h => h) (Or.inl ⟨by rfl, ?_⟩) ?_ ?_
               rotate_left
               ·intro w'
                go_simp
                with_reducible rfl
               rotate_left
               ·simp only [Act.put, qA, qB, qC, i64_w, i32_w]
                rfl
               refine pure_ (i := 4) (N := some 18) (v := ?_) (a' := ?_) #[tT,tT,tT,tT,tT,fF,fF,fF,fF,fF,fF,fF] rfl rfl (any_of HT_.out (by kernel_rfl)) (fun _ _ _ h => h) (Or.inl ⟨by rfl, ?_⟩) ?_ ?_
               rotate_left
               ·intro w'
                go_simp
                with_reducible rfl
               rotate_left
               ·simp only [Act.put, qA, qB, qC, i64_w, i32_w]
                rfl
               refine pure_ (i := 5) (N := some 19) (v := ?_) (a' := ?_) #[tT,tT,tT,tT,tT,tT,fF,fF,fF,fF,fF,fF] rfl rfl (any_of HT_.out (by kernel_rfl)) (fun _ _ _ h => h) (Or.inl ⟨by rfl, ?_⟩) ?_ ?_
               rotate_left
               ·intro w'
                go_simp
                with_reducible rfl
               rotate_left
               ·simp only [Act.put, qA, qB, qC, i64_w, i32_w]
                rfl
               refine pure_ (i := 6) (N := some 20) (v := ?_) (a' := ?_) #[tT,tT,tT,tT,tT,tT,tT,fF,fF,fF,fF,fF] rfl rfl (any_of HT_.out (by kernel_rfl)) (fun _ _ _ h => h) (Or.inl ⟨by rfl, ?_⟩) ?_ ?_
               rotate_left
               ·intro w'
                go_simp
                with_reducible rfl
               rotate_left
               ·simp only [Act.put, qA, qB, qC, i64_w, i32_w]
                rfl
               refine pure_ (i := 7) (N := some 21) (v := ?_) (a' := ?_) #[tT,tT,tT,tT,tT,tT,tT,tT,fF,fF,fF,fF] rfl rfl (any_of HT_.out (by kernel_rfl)) (fun _ _ _ h => h) (Or.inl ⟨by rfl, ?_⟩) ?_ ?_
               rotate_left
               ·intro w'
                go_simp
                with_reducible rfl
               rotate_left
               ·simp only [Act.put, qA, qB, qC, i64_w, i32_w]
                rfl
               refine take_ (i := 8) (N := some 22) (v := ?_) (a' := ?_) #[tT,tT,tT,tT,tT,tT,tT,tT,tT,fF,fF,fF] rfl rfl (take_ofW HT_.out HW_.out (by kernel_rfl)) (fun _ _ _ h => h) (Or.inl ⟨by rfl, ?_⟩) hHeld ?_ ?_
               rotate_left
               ·rintro w' ⟨s0, s1, s2, s3⟩
                go_simp
                with_reducible rfl
               rotate_left
               ·simp only [Act.put, qA, qB, qC, i64_w, i32_w]
                rfl
               refine take_ (i := 9) (N := some 23) (v := ?_) (a' := ?_) #[tT,tT,tT,tT,tT,tT,tT,tT,tT,tT,fF,fF] rfl rfl (take_ofW HT_.out HW_.out (by kernel_rfl)) (fun _ _ _ h => h) (Or.inl ⟨by rfl, ?_⟩) hHeld ?_ ?_
               rotate_left
               ·rintro w' ⟨s0, s1, s2, s3⟩
                go_simp
                with_reducible rfl
               rotate_left
               ·simp only [Act.put, qA, qB, qC, i64_w, i32_w]
                rfl
               refine one_ (i := 10) (N := some 24) #[tT,tT,tT,tT,tT,tT,tT,tT,tT,tT,tT,fF] rfl rfl (one_of HT_.out (by kernel_rfl)) (by decide) (fun K hK => ?_)
               refine gS Try.func60 (by kernel_rfl) rfl #[.agg #[.int .i64 ((rd_T49 x3_1 x6_2).f0), .int .i64 ((rd_T49 x3_1 x6_2).f1)], .agg #[.int .i64 ((rd_T49 l0 x10_1).f0), .int .i64 ((rd_T49 l0 x10_1).f1)]] (by rfl) rfl rfl ?_
               with_reducible refine (spec_l5Less.calls ((rd_T49 x3_1 x6_2).f0) ((rd_T49 x3_1 x6_2).f1) ((rd_T49 l0 x10_1).f0) ((rd_T49 l0 x10_1).f1) false _ A9.out).mono ?_
               rintro e w23 ⟨rfl, hb⟩
               have HS2_ := (hb.cell (World.block_lt_of_cell? _ _ (hHeld.2.2.1))).trans (hHeld.2.2.1)
               have HS3_ := (hb.cell (World.block_lt_of_cell? _ _ (hHeld.2.2.2))).trans (hHeld.2.2.2)
               refine ⟨_, rfl, ?_⟩
               replace p0' := xK p0'.out hb
               replace BK154 := yK BK154.out hb
               replace HB := aM (zT (zH HB.out) hb)
               (try clear hb)
               refine hK.out _ _ ⟨yc BK154.out 0, yc BK154.out 1, HS2_, HS3_⟩ (fun hHeld => ?_)
               clear hK K
               refine norm_ (a' := ?_) ?_ ?_
               rotate_left
               ·show Act.put _ (some 24) _ = _
                simp only [Act.put, qA, qB, qC, i64_w, i32_w]
                rfl
               refine pure_ (i := 11) (N := some 25) (v := ?_) (a' := ?_) #[tT,tT,tT,tT,tT,tT,tT,tT,tT,tT,tT,tT] rfl rfl (any_of HT_.out (by kernel_rfl)) (fun _ _ _ h => h) (Or.inl ⟨by rfl, ?_⟩) ?_ ?_
               rotate_left
               ·intro w'
                go_simp
                with_reducible rfl
               rotate_left
               ·simp only [Act.put, qA, qB, qC, i64_w, i32_w]
                rfl
               refine done_ (done_of HT_.out (by kernel_rfl)) ?_
               have q24 : (x6_2 : Int) ≤ ((x3_1.length : Int) : Int) := of_decide_eq_true (by first | (with_reducible assumption) | assumption)
               obtain ⟨i024, hi024, _, hsz24, _⟩ := info_parts info49
               have hroom24 : x3_1.length ≤ co22 := (Kd.R_reads' p0'.out).2.1
               have hC24 : Kd.C k49 _ (some ad155) x3_1.length x3_1 := (Kd.R_reads' p0'.out).2.2
               have hcut24 := cut_to (P := Try.prog) 22 49 .i64 Try.underlying22 hi024 (some ad155) x3_1.length co22 x6_2 (of_decide_eq_true (by first | (with_reducible assumption) | assumption)) q24 hroom24
               have hr24 := Kd.C_take (m := (x6_2 : Int).toNat) hC24 (by omega)
               have hy24 : y157.length = (x6_2 : Int).toNat := (by rw [Ny157.out, List.length_take]; omega)
               rw [← Ny157.out] at hr24
               rw [← hy24] at hcut24
               have HR160 := aM hr24
               have HC160 := aM (show y157.length ≤ co22 from by omega)
               clear hr24 hC24 hroom24 hi024 hsz24
               have KY24 := aM hy24
               clear hy24
               have KL24 := aM (show (x6_2 : Int).toNat ≤ x3_1.length from by omega)
               replace q24 := eq_true q24
               try go_wp2_with (first | ((with_reducible refine gate_builtin (b := .append) (xs := #[.tmp 28, .tmp 31]) rfl ?_); at_builtin; refine Kd.R_append_rows k49 (w0 := w) w.heap.size rfl (.tmp 28) (.tmp 31) 22 49 (.agg #[(.int .i64 0), (.int .i64 0)]) 16 rfl Try.underlying22 info49 rfl (by decide) (by omega) (.slice none 0 0) ([] : List (S49)) y157 _ _ _ (fun k_ => some k_ ≠ (.slice (some ad155) x3_1.length co22 : Value).ownBlock ∧ k_ ≠ gb154) (fun _ => False) rfl rfl ?aO ?aR (fun _ _ h => h) (fun _ h => h.elim) ?aF ?aB ?aS ?aL ?_; (case aR => repeat (first | exact (by repeat (first | (with_reducible exact HR160.out) | (with_reducible refine cA ?_ _) | (with_reducible refine cN ?_ _) | (with_reducible refine cD ?_) | exact HR160.out)) | (with_reducible refine cA ?_ _) | (with_reducible refine cN ?_ _) | (with_reducible refine cD ?_))); (case aB => exact (zH HB.out)); (case aF => exact (fun k_ hk => ⟨Kd.fresh' (Kd.R_lt (xH p0'.out)) k_ hk, Kd.freshB (g := gb154) (o := .cells #[.int .i64 ((rd_T49 l0 x10_1).f0), .int .i64 ((rd_T49 l0 x10_1).f1)] 49 (0, 0)) (yH BK154.out) k_ hk⟩)); (case aO => exact ((Kd.R_nil _ _ _ _ (fun k_ => some k_ ≠ (.slice (some ad155) x3_1.length co22 : Value).ownBlock ∧ k_ ≠ gb154)))); (case aS => exact (zZ (zH HB.out))); (case aL => have := LMc16.out; omega); intro v162 w25 ho hb hg hat; rw [← Ny161.out] at ho; replace BK154 := aM (blk_grown (g := gb154) (o := .cells #[.int .i64 ((rd_T49 l0 x10_1).f0), .int .i64 ((rd_T49 l0 x10_1).f1)] 49 (0, 0)) (yH BK154.out) hg (by simp [Value.ownBlock])); replace HB := aM (hb); replace HR160 := aM ((show Kd.C k49 w25 (some ad155) y157.length y157 from by rw [Ny157.out]; exact Kd.C_take (m := (x6_2 : Int).toNat) ((Kd.R_reads' (Kd.R_after (Kd.R_apart_nil (xH p0'.out)) hg hat)).2.2) KL24.out)); replace p0' := aM (Kd.R_after (Kd.R_apart_nil (xH p0'.out)) hg hat); have HO163 := aM (ho); clear ho hb hg hat; have hcz26_0 : w25.cell? ⟨gb154, 0, none⟩ = some (.int .i64 ((rd_T49 l0 x10_1).f0)) := yc BK154.out 0; have hcz26_1 : w25.cell? ⟨gb154, 1, none⟩ = some (.int .i64 ((rd_T49 l0 x10_1).f1)) := yc BK154.out 1; have hfz26_0 := yZ BK154.out 0; have hfz26_1 := yZ BK154.out 1) | ((with_reducible refine gate_builtin (b := .append) (xs := #[.tmp 33, .tmp 35]) rfl ?_); at_builtin; refine Kd.R_append k49 (w0 := w) w.heap.size rfl (.tmp 33) (.tmp 35) 22 49 (.agg #[(.int .i64 0), (.int .i64 0)]) 16 rfl Try.underlying22 info49 rfl (by decide) (by omega) v162 y161 (⟨((rd_T49 l0 x10_1).f0), ((rd_T49 l0 x10_1).f1)⟩ : S49) [.int .i64 ((rd_T49 l0 x10_1).f0), .int .i64 ((rd_T49 l0 x10_1).f1)] (fun k_ => some k_ ≠ (.slice (some ad155) x3_1.length co22 : Value).ownBlock ∧ k_ ≠ gb154) (fun _ => False) rfl rfl ?aP (fun _ hk => hk.elim) ?aF ?aO ?aB ?aS ?aL ?_; (case aP => exact k49_mkM _ _ _ (⟨((rd_T49 l0 x10_1).f0), ((rd_T49 l0 x10_1).f1)⟩ : S49)); (case aB => exact (zH HB.out)); (case aF => exact (fun k_ hk => ⟨Kd.fresh' (Kd.R_lt (xH p0'.out)) k_ hk, Kd.freshB (g := gb154) (o := .cells #[.int .i64 ((rd_T49 l0 x10_1).f0), .int .i64 ((rd_T49 l0 x10_1).f1)] 49 (0, 0)) (yH BK154.out) k_ hk⟩)); (case aO => exact (xH HO163.out)); (case aS => exact (zZ (zH HB.out))); (case aL => have := LMc17.out; omega); intro v165 w27 ho hb hg hat; rw [← Ny164.out] at ho; replace BK154 := aM (blk_grown (g := gb154) (o := .cells #[.int .i64 ((rd_T49 l0 x10_1).f0), .int .i64 ((rd_T49 l0 x10_1).f1)] 49 (0, 0)) (yH BK154.out) hg (Kd.R_away HO163.out (fun _ hk => hk.2))); replace HB := aM (hb); replace HR160 := aM ((show Kd.C k49 w27 (some ad155) y157.length y157 from by rw [Ny157.out]; exact Kd.C_take (m := (x6_2 : Int).toNat) ((Kd.R_reads' (Kd.R_after (ok := (fun k_ => k_ ≠ gb154)) (xH p0'.out) hg hat)).2.2) KL24.out)); replace p0' := aM (Kd.R_after (ok := (fun k_ => k_ ≠ gb154)) (xH p0'.out) hg hat); have HO166 := aM (ho); clear HO163; clear ho hb hg hat; have q28 : (x6_2 : Int) ≤ ((x3_1.length : Int) : Int) := of_decide_eq_true (by first | (with_reducible assumption) | assumption); obtain ⟨i028, hi028, _, hsz28, _⟩ := info_parts info49; have hroom28 : x3_1.length ≤ co22 := (Kd.R_reads' p0'.out).2.1; have hC28 : Kd.C k49 _ (some ad155) x3_1.length x3_1 := (Kd.R_reads' p0'.out).2.2; have q028 : (0 : Int) ≤ (x6_2 : Int) := of_decide_eq_true (by first | (with_reducible assumption) | assumption); have hcut28 := cut_from (P := Try.prog) 22 49 .i64 Try.underlying22 hi028 2 hsz28 (some ad155) x3_1.length co22 x6_2 q028 q28; have hr28 := Kd.C_drop (m := (x6_2 : Int).toNat) (c := co22) hC28 (by omega) hroom28; obtain ⟨A28, hA28⟩ : ∃ A1, A1 = (if co22 = (x6_2 : Int).toNat then (some ad155) else ((some ad155) : Option Addr).map (·.add ((x6_2 : Int).toNat * 2))) := ⟨_, rfl⟩; obtain ⟨c28, hc28⟩ : ∃ c1, c1 = co22 - (x6_2 : Int).toNat := ⟨_, rfl⟩; have hy28 : y167.length = x3_1.length - (x6_2 : Int).toNat := (by rw [Ny167.out, List.length_drop] <;> omega); rw [show (x3_1).drop (x6_2 : Int).toNat = y167 from Ny167.out.symm] at hr28; replace hr28 : Kd.C k49 _ A28 y167.length y167 := (by rw [hA28]; exact hr28); rw [← hy28, ← hA28, ← hc28] at hcut28; have HR170 := aM hr28; have HC170 := aM (show y167.length ≤ c28 from by rw [hy28, hc28]; exact Nat.sub_le_sub_right hroom28 _); clear hr28 hC28 hroom28 hi028 hsz28 hc28; have KY28 := aM hy28; have KA28 := aM hA28; clear hy28 hA28; have KL28 := aM (show (x6_2 : Int).toNat ≤ x3_1.length from by omega); replace q28 := eq_true q28) | ((with_reducible refine gate_builtin (b := .append) (xs := #[.tmp 37, .tmp 40]) rfl ?_); at_builtin; refine Kd.R_append_rows k49 (w0 := w) w.heap.size rfl (.tmp 37) (.tmp 40) 22 49 (.agg #[(.int .i64 0), (.int .i64 0)]) 16 rfl Try.underlying22 info49 rfl (by decide) (by omega) v165 y164 y167 _ _ _ (fun k_ => some k_ ≠ (.slice (some ad155) x3_1.length co22 : Value).ownBlock ∧ k_ ≠ gb154) (fun _ => False) rfl rfl ?aO ?aR (fun _ _ h => h) (fun _ h => h.elim) ?aF ?aB ?aS ?aL ?_; (case aR => repeat (first | exact (by repeat (first | (with_reducible exact HR170.out) | (with_reducible refine cA ?_ _) | (with_reducible refine cN ?_ _) | (with_reducible refine cD ?_) | exact HR170.out)) | (with_reducible refine cA ?_ _) | (with_reducible refine cN ?_ _) | (with_reducible refine cD ?_))); (case aB => exact (zH HB.out)); (case aF => exact (fun k_ hk => ⟨Kd.fresh' (Kd.R_lt (xH p0'.out)) k_ hk, Kd.freshB (g := gb154) (o := .cells #[.int .i64 ((rd_T49 l0 x10_1).f0), .int .i64 ((rd_T49 l0 x10_1).f1)] 49 (0, 0)) (yH BK154.out) k_ hk⟩)); (case aO => exact (xH HO166.out)); (case aS => exact (zZ (zH HB.out))); (case aL => have := LMc20.out; omega); intro v172 w29 ho hb hg hat; rw [← Ny171.out] at ho; replace BK154 := aM (blk_grown (g := gb154) (o := .cells #[.int .i64 ((rd_T49 l0 x10_1).f0), .int .i64 ((rd_T49 l0 x10_1).f1)] 49 (0, 0)) (yH BK154.out) hg (Kd.R_away HO166.out (fun _ hk => hk.2))); replace HB := aM (hb); replace HR160 := aM ((show Kd.C k49 w29 (some ad155) y157.length y157 from by rw [Ny157.out]; exact Kd.C_take (m := (x6_2 : Int).toNat) ((Kd.R_reads' (Kd.R_after (ok := (fun k_ => k_ ≠ gb154)) (xH p0'.out) hg hat)).2.2) KL24.out)); replace HR170 := aM ((show Kd.C k49 w29 A28 y167.length y167 from by rw [Ny167.out, KA28.out]; exact Kd.C_drop (m := (x6_2 : Int).toNat) (c := co22) ((Kd.R_reads' (Kd.R_after (ok := (fun k_ => k_ ≠ gb154)) (xH p0'.out) hg hat)).2.2) KL28.out ((Kd.R_reads' (Kd.R_after (ok := (fun k_ => k_ ≠ gb154)) (xH p0'.out) hg hat)).2.1))); replace p0' := aM (Kd.R_after (ok := (fun k_ => k_ ≠ gb154)) (xH p0'.out) hg hat); have HO173 := aM (ho); clear HO166; clear ho hb hg hat))
               go_roundg k2
               case measure => have := HK1.out; have := HK2.out; omega
               case rel => exact ⟨(y171), (wrap64 (x10_1 + 1)), (by first | rfl | (simp; done) | (simp [*]; done)), H', ⟨by have := HK1.out; have := HK2.out; omega⟩, ⟨xH (xM HO173.out (fun _ hk => trivial))⟩, ⟨zH HB.out⟩⟩
              ·rw [if_neg c20] at H
               exact absurd H (by simp)
             ·rw [if_neg c17] at H
              exact absurd H (by simp)
            ·rw [if_neg c16] at H
             exact absurd H (by simp)
           ·rw [if_neg c15] at H
            exact absurd H (by simp)
         ·rw [if_neg c8] at H
          exact absurd H (by simp)
        ·rw [if_neg c7] at H
         have c7b0 : decide (x6_2 < (x3_1.length : Int)) = false := decide_eq_false c7
         (try have c7b8 : decide (x6_2 < (x3_2.length : Int)) = false := by rw [← hl3_2]; exact c7b0)
         clear c7
         by_cases c30 : 0 ≤ x6_2
         ·rw [if_pos c30] at H
          have c30b0 := eq_true c30
          have c30b1 : decide (0 ≤ x6_2) = true := decide_eq_true c30
          clear c30
          by_cases c31 : x6_2 ≤ (x3_1.length : Int)
          ·rw [if_pos c31] at H
           have c31b0 := eq_true c31
           have c31b1 : decide (x6_2 ≤ (x3_1.length : Int)) = true := decide_eq_true c31
           clear c31
           obtain ⟨y174, hy174⟩ : ∃ y_ : List (S49), y_ = (x3_1.take (x6_2 : Int).toNat) := ⟨_, rfl⟩
           replace H : (if ([] : List (S49)).length + y174.length < 8796093022208 then ((some (([] : List (S49)) ++ y174 : List (S49))).bind fun y178 => (if y178.length < 8796093022208 then ((some (y178 ++ [(⟨((rd_T49 l0 x10_1).f0), ((rd_T49 l0 x10_1).f1)⟩ : S49)] : List (S49))).bind fun y181 => ((some (x3_1.drop (x6_2 : Int).toNat : List (S49))).bind fun y184 => (if y181.length + y184.length < 8796093022208 then (spec_l5BySize.l0 k2 (y181 ++ y184) l0 (l0.length : Int) (wrap64 (x10_1 + 1))) else (none)))) else (none))) else (none)) = some r := by first | (rw [hy174]; with_reducible exact H) | (have H2_ := (Option.bind_some _ _).symm.trans H; rw [hy174]; with_reducible exact H2_) | (have H2_ := (Option.bind_some _ _).symm.trans H; with_reducible exact H2_) | with_reducible exact H | (rw [hy174]; exact H) | exact H
           have Ny174 := aM hy174
           clear hy174
           by_cases c32 : ([] : List (S49)).length + y174.length < 8796093022208
           ·rw [if_pos c32] at H
            have LMc32 := aM c32
            clear c32
            obtain ⟨y178, hy178⟩ : ∃ y_ : List (S49), y_ = (([] : List (S49)) ++ y174) := ⟨_, rfl⟩
            replace H : (if y178.length < 8796093022208 then ((some (y178 ++ [(⟨((rd_T49 l0 x10_1).f0), ((rd_T49 l0 x10_1).f1)⟩ : S49)] : List (S49))).bind fun y181 => ((some (x3_1.drop (x6_2 : Int).toNat : List (S49))).bind fun y184 => (if y181.length + y184.length < 8796093022208 then (spec_l5BySize.l0 k2 (y181 ++ y184) l0 (l0.length : Int) (wrap64 (x10_1 + 1))) else (none)))) else (none)) = some r := by first | (rw [hy178]; with_reducible exact H) | (have H2_ := (Option.bind_some _ _).symm.trans H; rw [hy178]; with_reducible exact H2_) | (have H2_ := (Option.bind_some _ _).symm.trans H; with_reducible exact H2_) | with_reducible exact H | (rw [hy178]; exact H) | exact H
            have Ny178 := aM hy178
            clear hy178
            by_cases c33 : y178.length < 8796093022208
            ·rw [if_pos c33] at H
             have LMc33 := aM c33
             clear c33
             obtain ⟨y181, hy181⟩ : ∃ y_ : List (S49), y_ = (y178 ++ [(⟨((rd_T49 l0 x10_1).f0), ((rd_T49 l0 x10_1).f1)⟩ : S49)]) := ⟨_, rfl⟩
             replace H : ((some (x3_1.drop (x6_2 : Int).toNat : List (S49))).bind fun y184 => (if y181.length + y184.length < 8796093022208 then (spec_l5BySize.l0 k2 (y181 ++ y184) l0 (l0.length : Int) (wrap64 (x10_1 + 1))) else (none))) = some r := by first | (rw [hy181]; with_reducible exact H) | (have H2_ := (Option.bind_some _ _).symm.trans H; rw [hy181]; with_reducible exact H2_) | (have H2_ := (Option.bind_some _ _).symm.trans H; with_reducible exact H2_) | with_reducible exact H | (rw [hy181]; exact H) | exact H
             have Ny181 := aM hy181
             clear hy181
             have c34b0 := eq_true (of_decide_eq_true (by first | (with_reducible assumption) | assumption) : 0 ≤ x6_2)
             have c35b0 := eq_true (of_decide_eq_true (by first | (with_reducible assumption) | assumption) : x6_2 ≤ (x3_1.length : Int))
             obtain ⟨y184, hy184⟩ : ∃ y_ : List (S49), y_ = (x3_1.drop (x6_2 : Int).toNat) := ⟨_, rfl⟩
             replace H : (if y181.length + y184.length < 8796093022208 then (spec_l5BySize.l0 k2 (y181 ++ y184) l0 (l0.length : Int) (wrap64 (x10_1 + 1))) else (none)) = some r := by first | (rw [hy184]; with_reducible exact H) | (have H2_ := (Option.bind_some _ _).symm.trans H; rw [hy184]; with_reducible exact H2_) | (have H2_ := (Option.bind_some _ _).symm.trans H; with_reducible exact H2_) | with_reducible exact H | (rw [hy184]; exact H) | exact H
             have Ny184 := aM hy184
             clear hy184
             by_cases c36 : y181.length + y184.length < 8796093022208
             ·rw [if_pos c36] at H
              have LMc36 := aM c36
              clear c36
              obtain ⟨y188, hy188⟩ : ∃ y_ : List (S49), y_ = (y181 ++ y184) := ⟨_, rfl⟩
              replace H : (spec_l5BySize.l0 k2 y188 l0 (l0.length : Int) (wrap64 (x10_1 + 1))) = some r := by first | (rw [hy188]; with_reducible exact H) | (have H2_ := (Option.bind_some _ _).symm.trans H; rw [hy188]; with_reducible exact H2_) | (have H2_ := (Option.bind_some _ _).symm.trans H; with_reducible exact H2_) | with_reducible exact H | (rw [hy188]; exact H) | exact H
              have Ny188 := aM hy188
              clear hy188
              have H' := aM H
              clear H
              try go_wp2
              replace p0' := aM (xD p0'.out)
              replace BK154 := aM (yD BK154.out)
              replace HB := aM (zD HB.out)
              obtain ⟨Ao38, co38, eo38⟩ := Kd.R_slice p0'.out
              (first | subst eo38 | obtain ⟨rfl, rfl⟩ := eI eo38)
              refine start_ (n := 12) (S := fun w' => True) (ds := []) #[fF,fF,fF,fF,fF,fF,fF,fF,fF,fF,fF,fF] (by kernel_rfl) rfl rfl trivial (fun hHeld => ?_); refine with_tabW spec_l5BySize.tab6 spec_l5BySize.bits6 (fun HT_ HW_ => ?_)
              generalize wr.drew = w37 at p0' BK154 HB hHeld ⊢
              refine pure_ (i := 0) (N := some 14) (v := ?_) (a' := ?_) #[tT,fF,fF,fF,fF,fF,fF,fF,fF,fF,fF,fF] rfl rfl (any_of HT_.out (by kernel_rfl)) (fun _ _ _ h => h) (Or.inl ⟨by rfl, ?_⟩) ?_ ?_
              rotate_left
              ·intro w'
               go_simp
               with_reducible rfl
              rotate_left
              ·simp only [Act.put, qA, qB, qC, i64_w, i32_w]
               rfl
              refine pure_ (i := 1) (N := some 15) (v := ?_) (a' := ?_) #[tT,tT,fF,fF,fF,fF,fF,fF,fF,fF,fF,fF] rfl rfl (any_of HT_.out (by kernel_rfl)) (fun _ _ _ h => h) (Or.inl ⟨by rfl, ?_⟩) ?_ ?_
              rotate_left
              ·intro w'
               go_simp
               with_reducible rfl
              rotate_left
              ·simp only [Act.put, qA, qB, qC, i64_w, i32_w]
               rfl
              refine pure_ (i := 2) (N := some 16) (v := ?_) (a' := ?_) #[tT,tT,tT,fF,fF,fF,fF,fF,fF,fF,fF,fF] rfl rfl (any_of HT_.out (by kernel_rfl)) (fun _ _ _ h => h) (Or.inl ⟨by rfl, ?_⟩) ?_ ?_
              rotate_left
              ·intro w'
               go_simp
               with_reducible rfl
              rotate_left
              ·simp only [Act.put, qA, qB, qC, i64_w, i32_w]
               rfl
              refine pure_ (i := 3) (N := some 17) (v := ?_) (a' := ?_) #[tT,tT,tT,tT,fF,fF,fF,fF,fF,fF,fF,fF] rfl rfl (any_of HT_.out (by kernel_rfl)) (fun _ _ _ h => h) (Or.inl ⟨by rfl, ?_⟩) ?_ ?_
              rotate_left
              ·intro w'
               go_simp
               with_reducible rfl
              rotate_left
              ·simp only [Act.put, qA, qB, qC, i64_w, i32_w]
               rfl
              refine pure_ (i := 4) (N := some 18) (v := ?_) (a' := ?_) #[tT,tT,tT,tT,tT,fF,fF,fF,fF,fF,fF,fF] rfl rfl (any_of HT_.out (by kernel_rfl)) (fun _ _ _ h => h) (Or.inl ⟨by rfl, ?_⟩) ?_ ?_
              rotate_left
              ·intro w'
               go_simp
               with_reducible rfl
              rotate_left
              ·simp only [Act.put, qA, qB, qC, i64_w, i32_w]
               rfl
              refine pure_ (i := 5) (N := some 19) (v := undef) (a' := ?_) #[tT,tT,tT,tT,tT,tT,fF,fF,fF,fF,fF,fF] rfl rfl (any_of HT_.out (by kernel_rfl)) (fun _ _ _ h => h) (Or.inr ⟨by rfl, rfl⟩) ?_ ?_
              rotate_left
              ·simp only [Act.put, qA, qB, qC, i64_w, i32_w]
               rfl
              refine pure_ (i := 6) (N := some 20) (v := undef) (a' := ?_) #[tT,tT,tT,tT,tT,tT,tT,fF,fF,fF,fF,fF] rfl rfl (any_of HT_.out (by kernel_rfl)) (fun _ _ _ h => h) (Or.inr ⟨by rfl, rfl⟩) ?_ ?_
              rotate_left
              ·simp only [Act.put, qA, qB, qC, i64_w, i32_w]
               rfl
              refine pure_ (i := 7) (N := some 21) (v := undef) (a' := ?_) #[tT,tT,tT,tT,tT,tT,tT,tT,fF,fF,fF,fF] rfl rfl (any_of HT_.out (by kernel_rfl)) (fun _ _ _ h => h) (Or.inr ⟨by rfl, rfl⟩) ?_ ?_
              rotate_left
              ·simp only [Act.put, qA, qB, qC, i64_w, i32_w]
               rfl
              refine pure_ (i := 8) (N := some 22) (v := undef) (a' := ?_) #[tT,tT,tT,tT,tT,tT,tT,tT,tT,fF,fF,fF] rfl rfl (any_of HT_.out (by kernel_rfl)) (fun _ _ _ h => h) (Or.inr ⟨by rfl, rfl⟩) ?_ ?_
              rotate_left
              ·simp only [Act.put, qA, qB, qC, i64_w, i32_w]
               rfl
              refine pure_ (i := 9) (N := some 23) (v := undef) (a' := ?_) #[tT,tT,tT,tT,tT,tT,tT,tT,tT,tT,fF,fF] rfl rfl (any_of HT_.out (by kernel_rfl)) (fun _ _ _ h => h) (Or.inr ⟨by rfl, rfl⟩) ?_ ?_
              rotate_left
              ·simp only [Act.put, qA, qB, qC, i64_w, i32_w]
               rfl
              refine pure_ (i := 10) (N := some 24) (v := undef) (a' := ?_) #[tT,tT,tT,tT,tT,tT,tT,tT,tT,tT,tT,fF] rfl rfl (any_of HT_.out (by kernel_rfl)) (fun _ _ _ h => h) (Or.inr ⟨by rfl, rfl⟩) ?_ ?_
              rotate_left
              ·simp only [Act.put, qA, qB, qC, i64_w, i32_w]
               rfl
              refine pure_ (i := 11) (N := some 25) (v := ?_) (a' := ?_) #[tT,tT,tT,tT,tT,tT,tT,tT,tT,tT,tT,tT] rfl rfl (any_of HT_.out (by kernel_rfl)) (fun _ _ _ h => h) (Or.inl ⟨by rfl, ?_⟩) ?_ ?_
              rotate_left
              ·intro w'
               go_simp
               with_reducible rfl
              rotate_left
              ·simp only [Act.put, qA, qB, qC, i64_w, i32_w]
               rfl
              refine done_ (done_of HT_.out (by kernel_rfl)) ?_
              have q39 : (x6_2 : Int) ≤ ((x3_1.length : Int) : Int) := of_decide_eq_true (by first | (with_reducible assumption) | assumption)
              obtain ⟨i039, hi039, _, hsz39, _⟩ := info_parts info49
              have hroom39 : x3_1.length ≤ co38 := (Kd.R_reads' p0'.out).2.1
              have hC39 : Kd.C k49 _ Ao38 x3_1.length x3_1 := (Kd.R_reads' p0'.out).2.2
              have hcut39 := cut_to (P := Try.prog) 22 49 .i64 Try.underlying22 hi039 Ao38 x3_1.length co38 x6_2 (of_decide_eq_true (by first | (with_reducible assumption) | assumption)) q39 hroom39
              have hr39 := Kd.C_take (m := (x6_2 : Int).toNat) hC39 (by omega)
              have hy39 : y174.length = (x6_2 : Int).toNat := (by rw [Ny174.out, List.length_take]; omega)
              rw [← Ny174.out] at hr39
              rw [← hy39] at hcut39
              have HR177 := aM hr39
              have HC177 := aM (show y174.length ≤ co38 from by omega)
              clear hr39 hC39 hroom39 hi039 hsz39
              have KY39 := aM hy39
              clear hy39
              have KL39 := aM (show (x6_2 : Int).toNat ≤ x3_1.length from by omega)
              replace q39 := eq_true q39
              try go_wp2_with (first | ((with_reducible refine gate_builtin (b := .append) (xs := #[.tmp 28, .tmp 31]) rfl ?_); at_builtin; refine Kd.R_append_rows k49 (w0 := w) w.heap.size rfl (.tmp 28) (.tmp 31) 22 49 (.agg #[(.int .i64 0), (.int .i64 0)]) 16 rfl Try.underlying22 info49 rfl (by decide) (by omega) (.slice none 0 0) ([] : List (S49)) y174 _ _ _ (fun k_ => some k_ ≠ (.slice Ao38 x3_1.length co38 : Value).ownBlock ∧ k_ ≠ gb154) (fun _ => False) rfl rfl ?aO ?aR (fun _ _ h => h) (fun _ h => h.elim) ?aF ?aB ?aS ?aL ?_; (case aR => repeat (first | exact (by repeat (first | (with_reducible exact HR177.out) | (with_reducible refine cA ?_ _) | (with_reducible refine cN ?_ _) | (with_reducible refine cD ?_) | exact HR177.out)) | (with_reducible refine cA ?_ _) | (with_reducible refine cN ?_ _) | (with_reducible refine cD ?_))); (case aB => exact (zH HB.out)); (case aF => exact (fun k_ hk => ⟨Kd.fresh' (Kd.R_lt (xH p0'.out)) k_ hk, Kd.freshB (g := gb154) (o := .cells #[.int .i64 ((rd_T49 l0 x10_1).f0), .int .i64 ((rd_T49 l0 x10_1).f1)] 49 (0, 0)) (yH BK154.out) k_ hk⟩)); (case aO => exact ((Kd.R_nil _ _ _ _ (fun k_ => some k_ ≠ (.slice Ao38 x3_1.length co38 : Value).ownBlock ∧ k_ ≠ gb154)))); (case aS => exact (zZ (zH HB.out))); (case aL => have := LMc32.out; omega); intro v179 w40 ho hb hg hat; rw [← Ny178.out] at ho; replace BK154 := aM (blk_grown (g := gb154) (o := .cells #[.int .i64 ((rd_T49 l0 x10_1).f0), .int .i64 ((rd_T49 l0 x10_1).f1)] 49 (0, 0)) (yH BK154.out) hg (by simp [Value.ownBlock])); replace HB := aM (hb); replace HR177 := aM ((show Kd.C k49 w40 Ao38 y174.length y174 from by rw [Ny174.out]; exact Kd.C_take (m := (x6_2 : Int).toNat) ((Kd.R_reads' (Kd.R_after (Kd.R_apart_nil (xH p0'.out)) hg hat)).2.2) KL39.out)); replace p0' := aM (Kd.R_after (Kd.R_apart_nil (xH p0'.out)) hg hat); have HO180 := aM (ho); clear ho hb hg hat; have hcz41_0 : w40.cell? ⟨gb154, 0, none⟩ = some (.int .i64 ((rd_T49 l0 x10_1).f0)) := yc BK154.out 0; have hcz41_1 : w40.cell? ⟨gb154, 1, none⟩ = some (.int .i64 ((rd_T49 l0 x10_1).f1)) := yc BK154.out 1; have hfz41_0 := yZ BK154.out 0; have hfz41_1 := yZ BK154.out 1) | ((with_reducible refine gate_builtin (b := .append) (xs := #[.tmp 33, .tmp 35]) rfl ?_); at_builtin; refine Kd.R_append k49 (w0 := w) w.heap.size rfl (.tmp 33) (.tmp 35) 22 49 (.agg #[(.int .i64 0), (.int .i64 0)]) 16 rfl Try.underlying22 info49 rfl (by decide) (by omega) v179 y178 (⟨((rd_T49 l0 x10_1).f0), ((rd_T49 l0 x10_1).f1)⟩ : S49) [.int .i64 ((rd_T49 l0 x10_1).f0), .int .i64 ((rd_T49 l0 x10_1).f1)] (fun k_ => some k_ ≠ (.slice Ao38 x3_1.length co38 : Value).ownBlock ∧ k_ ≠ gb154) (fun _ => False) rfl rfl ?aP (fun _ hk => hk.elim) ?aF ?aO ?aB ?aS ?aL ?_; (case aP => exact k49_mkM _ _ _ (⟨((rd_T49 l0 x10_1).f0), ((rd_T49 l0 x10_1).f1)⟩ : S49)); (case aB => exact (zH HB.out)); (case aF => exact (fun k_ hk => ⟨Kd.fresh' (Kd.R_lt (xH p0'.out)) k_ hk, Kd.freshB (g := gb154) (o := .cells #[.int .i64 ((rd_T49 l0 x10_1).f0), .int .i64 ((rd_T49 l0 x10_1).f1)] 49 (0, 0)) (yH BK154.out) k_ hk⟩)); (case aO => exact (xH HO180.out)); (case aS => exact (zZ (zH HB.out))); (case aL => have := LMc33.out; omega); intro v182 w42 ho hb hg hat; rw [← Ny181.out] at ho; replace BK154 := aM (blk_grown (g := gb154) (o := .cells #[.int .i64 ((rd_T49 l0 x10_1).f0), .int .i64 ((rd_T49 l0 x10_1).f1)] 49 (0, 0)) (yH BK154.out) hg (Kd.R_away HO180.out (fun _ hk => hk.2))); replace HB := aM (hb); replace HR177 := aM ((show Kd.C k49 w42 Ao38 y174.length y174 from by rw [Ny174.out]; exact Kd.C_take (m := (x6_2 : Int).toNat) ((Kd.R_reads' (Kd.R_after (ok := (fun k_ => k_ ≠ gb154)) (xH p0'.out) hg hat)).2.2) KL39.out)); replace p0' := aM (Kd.R_after (ok := (fun k_ => k_ ≠ gb154)) (xH p0'.out) hg hat); have HO183 := aM (ho); clear HO180; clear ho hb hg hat; have q43 : (x6_2 : Int) ≤ ((x3_1.length : Int) : Int) := of_decide_eq_true (by first | (with_reducible assumption) | assumption); obtain ⟨i043, hi043, _, hsz43, _⟩ := info_parts info49; have hroom43 : x3_1.length ≤ co38 := (Kd.R_reads' p0'.out).2.1; have hC43 : Kd.C k49 _ Ao38 x3_1.length x3_1 := (Kd.R_reads' p0'.out).2.2; have q043 : (0 : Int) ≤ (x6_2 : Int) := of_decide_eq_true (by first | (with_reducible assumption) | assumption); have hcut43 := cut_from (P := Try.prog) 22 49 .i64 Try.underlying22 hi043 2 hsz43 Ao38 x3_1.length co38 x6_2 q043 q43; have hr43 := Kd.C_drop (m := (x6_2 : Int).toNat) (c := co38) hC43 (by omega) hroom43; obtain ⟨A43, hA43⟩ : ∃ A1, A1 = (if co38 = (x6_2 : Int).toNat then Ao38 else (Ao38 : Option Addr).map (·.add ((x6_2 : Int).toNat * 2))) := ⟨_, rfl⟩; obtain ⟨c43, hc43⟩ : ∃ c1, c1 = co38 - (x6_2 : Int).toNat := ⟨_, rfl⟩; have hy43 : y184.length = x3_1.length - (x6_2 : Int).toNat := (by rw [Ny184.out, List.length_drop] <;> omega); rw [show (x3_1).drop (x6_2 : Int).toNat = y184 from Ny184.out.symm] at hr43; replace hr43 : Kd.C k49 _ A43 y184.length y184 := (by rw [hA43]; exact hr43); rw [← hy43, ← hA43, ← hc43] at hcut43; have HR187 := aM hr43; have HC187 := aM (show y184.length ≤ c43 from by rw [hy43, hc43]; exact Nat.sub_le_sub_right hroom43 _); clear hr43 hC43 hroom43 hi043 hsz43 hc43; have KY43 := aM hy43; have KA43 := aM hA43; clear hy43 hA43; have KL43 := aM (show (x6_2 : Int).toNat ≤ x3_1.length from by omega); replace q43 := eq_true q43) | ((with_reducible refine gate_builtin (b := .append) (xs := #[.tmp 37, .tmp 40]) rfl ?_); at_builtin; refine Kd.R_append_rows k49 (w0 := w) w.heap.size rfl (.tmp 37) (.tmp 40) 22 49 (.agg #[(.int .i64 0), (.int .i64 0)]) 16 rfl Try.underlying22 info49 rfl (by decide) (by omega) v182 y181 y184 _ _ _ (fun k_ => some k_ ≠ (.slice Ao38 x3_1.length co38 : Value).ownBlock ∧ k_ ≠ gb154) (fun _ => False) rfl rfl ?aO ?aR (fun _ _ h => h) (fun _ h => h.elim) ?aF ?aB ?aS ?aL ?_; (case aR => repeat (first | exact (by repeat (first | (with_reducible exact HR187.out) | (with_reducible refine cA ?_ _) | (with_reducible refine cN ?_ _) | (with_reducible refine cD ?_) | exact HR187.out)) | (with_reducible refine cA ?_ _) | (with_reducible refine cN ?_ _) | (with_reducible refine cD ?_))); (case aB => exact (zH HB.out)); (case aF => exact (fun k_ hk => ⟨Kd.fresh' (Kd.R_lt (xH p0'.out)) k_ hk, Kd.freshB (g := gb154) (o := .cells #[.int .i64 ((rd_T49 l0 x10_1).f0), .int .i64 ((rd_T49 l0 x10_1).f1)] 49 (0, 0)) (yH BK154.out) k_ hk⟩)); (case aO => exact (xH HO183.out)); (case aS => exact (zZ (zH HB.out))); (case aL => have := LMc36.out; omega); intro v189 w44 ho hb hg hat; rw [← Ny188.out] at ho; replace BK154 := aM (blk_grown (g := gb154) (o := .cells #[.int .i64 ((rd_T49 l0 x10_1).f0), .int .i64 ((rd_T49 l0 x10_1).f1)] 49 (0, 0)) (yH BK154.out) hg (Kd.R_away HO183.out (fun _ hk => hk.2))); replace HB := aM (hb); replace HR177 := aM ((show Kd.C k49 w44 Ao38 y174.length y174 from by rw [Ny174.out]; exact Kd.C_take (m := (x6_2 : Int).toNat) ((Kd.R_reads' (Kd.R_after (ok := (fun k_ => k_ ≠ gb154)) (xH p0'.out) hg hat)).2.2) KL39.out)); replace HR187 := aM ((show Kd.C k49 w44 A43 y184.length y184 from by rw [Ny184.out, KA43.out]; exact Kd.C_drop (m := (x6_2 : Int).toNat) (c := co38) ((Kd.R_reads' (Kd.R_after (ok := (fun k_ => k_ ≠ gb154)) (xH p0'.out) hg hat)).2.2) KL43.out ((Kd.R_reads' (Kd.R_after (ok := (fun k_ => k_ ≠ gb154)) (xH p0'.out) hg hat)).2.1))); replace p0' := aM (Kd.R_after (ok := (fun k_ => k_ ≠ gb154)) (xH p0'.out) hg hat); have HO190 := aM (ho); clear HO183; clear ho hb hg hat))
              go_roundg k2
              case measure => have := HK1.out; have := HK2.out; omega
              case rel => exact ⟨(y188), (wrap64 (x10_1 + 1)), (by first | rfl | (simp; done) | (simp [*]; done)), H', ⟨by have := HK1.out; have := HK2.out; omega⟩, ⟨xH (xM HO190.out (fun _ hk => trivial))⟩, ⟨zH HB.out⟩⟩
             ·rw [if_neg c36] at H
              exact absurd H (by simp)
            ·rw [if_neg c33] at H
             exact absurd H (by simp)
           ·rw [if_neg c32] at H
            exact absurd H (by simp)
          ·rw [if_neg c31] at H
           exact absurd H (by simp)
         ·rw [if_neg c30] at H
          exact absurd H (by simp)
     ·rw [if_neg c4] at H
      exact absurd H (by simp)
    ·rw [if_neg c3] at H
     exact absurd H (by simp)
   ·rw [if_neg c2] at H
    have c2b0 : decide (x10_1 < (l0.length : Int)) = false := decide_eq_false c2
    clear c2
    obtain rfl := Option.some.inj H
    go_wp2
    go_ret
    exact ⟨_, by first | rfl | (simp [errW_none, errW_some] <;> rfl) | (simp [*, errW_none, errW_some] <;> rfl), xH p0'.out, zH HB.out⟩

end Go.Proofs.Ytfhfaeeokibhaaa.PFnExactTakeRoom
