/- The walks of FnExactGiveBlock: Go's calls come to what the Lean functions beside them say; no condition. -/
import Derived.Test.YtbjcioihomeikaaQFnExactGiveBlockx0
import Derived.Test.YtbjcioihomeikaaQFnExactGiveBlockx2
import Derived.Test.YtbjcioihomeikaaQFnExactGiveBlockx4
import Derived.Test.YtbjcioihomeikaaQFnExactGiveBlockx5
namespace Go.Proofs.Ytbjcioihomeikaa.PFnExactGiveBlock
open Go.RowKit Go.Proofs.YtbjcioihomeikaaW.PrintWords Go.Proofs.YtbjcioihomeikaaW.PrintLast Go.Proofs.YtbjcioihomeikaaW.PrintMore
attribute [local go_sem] max2_int min2_int max_two min_two max_three min_three max_four min_four   -- for this text's walks alone
set_option linter.unusedVariables false
set_option linter.unusedSimpArgs false
set_option maxRecDepth 100000

/-! ### spec_GiveBlock: function 9 -/
mutual
def spec_GiveBlock.l0 : Nat → Int → List (S45) → Int → Int → Int → List (S45) → List (S45) → Option (Int × (List (S45)) × (List (S45)) × Bool)
 | 0, _, _, _, _, _, _, _ => none
 | k + 1, x1, x15, x16, x17, x184000, x184001, x184002 => if x17 < x16 then (if 0 ≤ x17 then (if x17 < (x15.length : Int) then (if ((rd_T45 x15 x17).f0) = x1 then ((some (([] : List (S45)) : List (S45))).bind fun y188 => (if y188.length + x184001.length < 8796093022208 then (spec_GiveBlock.l1 k x17 (y188 ++ x184001) x184000 x184001 x184002 ((rd_T45 x15 x17).f0) ((rd_T45 x15 x17).f1)) else (none))) else (spec_GiveBlock.l0 k x1 x15 x16 (wrap64 (x17 + 1)) x184000 x184001 x184002)) else (none)) else (none)) else (some (0, ([] : List (S45)), ([] : List (S45)), false))
def spec_GiveBlock.l1 : Nat → Int → List (S45) → Int → List (S45) → List (S45) → Int → Int → Option (Int × (List (S45)) × (List (S45)) × Bool)
 | 0, _, _, _, _, _, _, _ => none
 | k + 1, x6, x8, x184000, x184001, x184002, x188000, x188001 => if x188001 < x184000 then ((spec_l6Buddy.f x188000 x188001).bind fun bt200 => ((spec_l6At.f k x8 bt200.1 bt200.2).bind fun t202 => (if t202 < 0 then ((spec_l6Put.f k x8 x188000 x188001).bind fun t203 => ((spec_l6Without.f x184002 x6).bind fun t206 => (some (x184000, t203, t206, true)))) else ((spec_l6Without.f x8 t202).bind fun t209 => (if 0 ≤ (IntKind.u64.wrap (x188001)) then (spec_GiveBlock.l1 k x6 t209 x184000 x184001 x184002 (Go.bits .andNot .i64 x188000 (shl .i64 1 (IntKind.u64.wrap (x188001)))) (wrap64 (x188001 + 1))) else (none)))))) else ((spec_l6Put.f k x8 x188000 x188001).bind fun t194 => ((spec_l6Without.f x184002 x6).bind fun t197 => (some (x184000, t194, t197, true))))
end
def spec_GiveBlock.f (k : Nat) (a0_0 : Int) (l0_1 : List (S45)) (l0_2 : List (S45)) (a1 : Int) : Option (Int × (List (S45)) × (List (S45)) × Bool) := (spec_GoodBuddy.f k a0_0 l0_1 l0_2).bind fun t185 => (if t185 = true then (spec_GiveBlock.l0 k a1 l0_2 (l0_2.length : Int) 0 a0_0 l0_1 l0_2) else (some (0, ([] : List (S45)), ([] : List (S45)), false)))
theorem spec_GiveBlock.mono_l : ∀ k, (∀ y0 y1 y2 y3 y4 y5 y6, LeO (spec_GiveBlock.l0 k y0 y1 y2 y3 y4 y5 y6) (spec_GiveBlock.l0 (k + 1) y0 y1 y2 y3 y4 y5 y6)) ∧ (∀ y0 y1 y2 y3 y4 y5 y6, LeO (spec_GiveBlock.l1 k y0 y1 y2 y3 y4 y5 y6) (spec_GiveBlock.l1 (k + 1) y0 y1 y2 y3 y4 y5 y6))
 | 0 => ⟨fun _ _ _ _ _ _ _ r h => by simp [spec_GiveBlock.l0] at h, fun _ _ _ _ _ _ _ r h => by simp [spec_GiveBlock.l1] at h⟩
 | k + 1 => by
  obtain ⟨ih0, ih1⟩ := spec_GiveBlock.mono_l k
  refine ⟨?_, ?_⟩
  ·intro y0 y1 y2 y3 y4 y5 y6
   unfold spec_GiveBlock.l0
   repeat' first
   | (with_reducible exact ih0 _ _ _ _ _ _ _)
   | (with_reducible exact ih1 _ _ _ _ _ _ _)
   | (with_reducible exact spec_GoodBuddy.mono _ _ _ _)
   | (with_reducible exact spec_l6At.mono _ _ _ _)
   | (with_reducible exact spec_l6Put.mono _ _ _ _)
   | (with_reducible exact LeO.refl _)
   | (with_reducible exact LeO.none _)
   | (with_reducible refine LeO.ite ?_ ?_)
   | (with_reducible refine LeO.bind ?_ (fun _ => ?_))
   | exact ih0 _ _ _ _ _ _ _
   | exact ih1 _ _ _ _ _ _ _
   | exact spec_GoodBuddy.mono _ _ _ _
   | exact spec_l6At.mono _ _ _ _
   | exact spec_l6Put.mono _ _ _ _
   | exact LeO.none _
   | refine LeO.ite ?_ ?_
   | refine LeO.bind ?_ (fun _ => ?_)
  ·intro y0 y1 y2 y3 y4 y5 y6
   unfold spec_GiveBlock.l1
   repeat' first
   | (with_reducible exact ih0 _ _ _ _ _ _ _)
   | (with_reducible exact ih1 _ _ _ _ _ _ _)
   | (with_reducible exact spec_GoodBuddy.mono _ _ _ _)
   | (with_reducible exact spec_l6At.mono _ _ _ _)
   | (with_reducible exact spec_l6Put.mono _ _ _ _)
   | (with_reducible exact LeO.refl _)
   | (with_reducible exact LeO.none _)
   | (with_reducible refine LeO.ite ?_ ?_)
   | (with_reducible refine LeO.bind ?_ (fun _ => ?_))
   | exact ih0 _ _ _ _ _ _ _
   | exact ih1 _ _ _ _ _ _ _
   | exact spec_GoodBuddy.mono _ _ _ _
   | exact spec_l6At.mono _ _ _ _
   | exact spec_l6Put.mono _ _ _ _
   | exact LeO.none _
   | refine LeO.ite ?_ ?_
   | refine LeO.bind ?_ (fun _ => ?_)
theorem spec_GiveBlock.mono : ∀ a0 a1 a2 a3 k, LeO (spec_GiveBlock.f k a0 a1 a2 a3) (spec_GiveBlock.f (k + 1) a0 a1 a2 a3) := by
 intro a0 a1 a2 a3 k
 obtain ⟨ih0, ih1⟩ := spec_GiveBlock.mono_l k
 unfold spec_GiveBlock.f
 repeat' first
   | (with_reducible exact ih0 _ _ _ _ _ _ _)
   | (with_reducible exact ih1 _ _ _ _ _ _ _)
   | (with_reducible exact spec_GoodBuddy.mono _ _ _ _)
   | (with_reducible exact spec_l6At.mono _ _ _ _)
   | (with_reducible exact spec_l6Put.mono _ _ _ _)
   | (with_reducible exact LeO.refl _)
   | (with_reducible exact LeO.none _)
   | (with_reducible refine LeO.ite ?_ ?_)
   | (with_reducible refine LeO.bind ?_ (fun _ => ?_))
   | exact ih0 _ _ _ _ _ _ _
   | exact ih1 _ _ _ _ _ _ _
   | exact spec_GoodBuddy.mono _ _ _ _
   | exact spec_l6At.mono _ _ _ _
   | exact spec_l6Put.mono _ _ _ _
   | exact LeO.none _
   | refine LeO.ite ?_ ?_
   | refine LeO.bind ?_ (fun _ => ?_)
def spec_GiveBlock.T13 : Bool × List (List Nat × List Nat) := (true, [([], []), ([0], [0]), ([], []), ([], []), ([2, 3], [2, 3]), ([], []), ([5], [5]), ([], []), ([6, 7, 4], [6, 7]), ([1, 4, 8], [1, 4, 8]), ([9, 8, 0, 1, 2, 3, 4, 5, 6, 7, 8, 9], [9]), ([10, 0, 1, 2, 3, 4, 5, 6, 7, 8, 9, 10], [])])
def spec_GiveBlock.B13 : List Nat := [0, 1, 0, 0, 12, 0, 32, 0, 252, 511, 1023, 2047]
theorem spec_GiveBlock.tab13 : rtab .any (opsOf Try.f9 13) = spec_GiveBlock.T13 := by kernel_rfl
theorem spec_GiveBlock.bits13 : waitsOk spec_GiveBlock.T13.2 spec_GiveBlock.B13 = true := by kernel_rfl
set_option maxHeartbeats 8000000 in
set_option maxRecDepth 100000 in
theorem spec_GiveBlock.calls (k : Nat) (a0_0 : Int) (A0_1 : Option Addr) (c0_1 : Nat) (l0_1 : List (S45)) (A0_2 : Option Addr) (c0_2 : Nat) (l0_2 : List (S45)) (a1 : Int) (r1 : Int) (r2 : List (S45)) (r3 : List (S45)) (r4 : Bool) (w : World) (hr0_1 : Kd.C k45 w A0_1 l0_1.length l0_1) (hc0_1 : l0_1.length ≤ c0_1) (hr0_2 : Kd.C k45 w A0_2 l0_2.length l0_2) (hc0_2 : l0_2.length ≤ c0_2) (h : spec_GiveBlock.f k a0_0 l0_1 l0_2 a1 = some (r1, r2, r3, r4)) :
  Calls Try.prog 9 #[.agg #[.int .i64 a0_0, .slice A0_1 l0_1.length c0_1, .slice A0_2 l0_2.length c0_2], .int .i64 a1] w fun e w' => ∃ v1_ v2_ : Value, e = .returned (.tuple #[.agg #[.int .i64 r1, v1_, v2_], .bool r4]) ∧ Kd.R k45 45 w' w.heap.size (fun k_ => some k_ ≠ (v2_ : Value).ownBlock) v1_ r2 ∧ Kd.R k45 45 w' w.heap.size (fun k_ => some k_ ≠ (v1_ : Value).ownBlock) v2_ r3 ∧ Below w.heap.size w w' := by
 have hu28 := Try.underlying28
 have hu45 := Try.underlying45
 have HR0_1 := aM hr0_1
 have HC0_1 := aM hc0_1
 clear hr0_1 hc0_1
 have HR0_2 := aM hr0_2
 have HC0_2 := aM hc0_2
 clear hr0_2 hc0_2
 have HB := aM (Below.refl w.heap.size w)
 have H : ((spec_GoodBuddy.f k a0_0 l0_1 l0_2).bind fun t185 => (if t185 = true then (spec_GiveBlock.l0 k a1 l0_2 (l0_2.length : Int) 0 a0_0 l0_1 l0_2) else (some (0, ([] : List (S45)), ([] : List (S45)), false)))) = some (r1, r2, r3, r4) := h
 clear h
 replace H := Option.bind_eq_some_iff.mp H
 obtain ⟨t185, A30, H⟩ := H
 replace H : (if t185 = true then (spec_GiveBlock.l0 k a1 l0_2 (l0_2.length : Int) 0 a0_0 l0_1 l0_2) else (some (0, ([] : List (S45)), ([] : List (S45)), false))) = some (r1, r2, r3, r4) := H
 have A3 := aM A30
 clear A30
 by_cases c4 : t185 = true
 ·subst c4
  have H1 : (spec_GiveBlock.l0 k a1 l0_2 (l0_2.length : Int) 0 a0_0 l0_1 l0_2) = some (r1, r2, r3, r4) := by rw [if_pos rfl] at H; exact H
  clear H
  have H := H1
  clear H1
  have H' := aM H
  clear H
  go_enter Try.func9, Try.ntmps9
  go_wp2_with (first | ((with_reducible refine gate_dst (N := 2) rfl ?_); refine box_event ?hg (N := 2) ?hd (cs := #[.int .i64 a0_0, .slice A0_1 l0_1.length c0_1, .slice A0_2 l0_2.length c0_2]) (t := 28) ?hr ?_; (case hd => rfl); (case hg => rfl); (case hr => first | (go_simp; done) | (go_simp; rfl)); intro gb183 hg w5 hbox hb; have BK183 := aM (hbox); have GW183 := aM ((by rw [hg]; exact (zZ (zH HB.out)) : w.heap.size ≤ gb183)); have GE183 := aM ((by rw [hg]; exact (zZ (zH HB.out)) : w.heap.size ≤ gb183)); replace HB := aM (zT (zH HB.out) hb); clear hb hbox hg) | ((with_reducible refine gate_dst (N := 4) rfl ?_); refine box_event ?hg (N := 4) ?hd (cs := #[.int .i64 0, .slice none 0 0, .slice none 0 0]) (t := 28) ?hr ?_; (case hd => rfl); (case hg => rfl); (case hr => first | (go_simp; done) | (go_simp; rfl)); intro gb184 hg w6 hbox hb; have BK184 := aM (hbox); have GW184 := aM ((by rw [hg]; exact (zZ (zH HB.out)) : w.heap.size ≤ gb184)); have GE184 := aM ((by rw [hg]; exact (zZ (zH HB.out)) : w.heap.size ≤ gb184)); replace HB := aM (zT (zH HB.out) hb); have NB183_184 := nL BK183.out hg; have NB184_183 := nR BK183.out hg; replace BK183 := yK BK183.out hb; clear hb hbox hg; have hnb7 := NB183_184.out; have hnc7 := NB184_183.out; have hcz8_0 : w6.cell? ⟨gb183, 0, none⟩ = some (.int .i64 a0_0) := yc BK183.out 0; have hcz8_1 : w6.cell? ⟨gb183, 1, none⟩ = some (.slice A0_1 l0_1.length c0_1) := yc BK183.out 1; have hcz8_2 : w6.cell? ⟨gb183, 2, none⟩ = some (.slice A0_2 l0_2.length c0_2) := yc BK183.out 2; have hfz8_0 := yZ BK183.out 0; have hfz8_1 := yZ BK183.out 1; have hfz8_2 := yZ BK183.out 2) | ((with_reducible refine gate_callee (f := 20) rfl ?_); refine goesL_ (some 11) rfl rfl Try.func20 (by kernel_rfl) rfl #[.agg #[.int .i64 a0_0, .slice A0_1 l0_1.length c0_1, .slice A0_2 l0_2.length c0_2]] rfl (by (try simp only [List.map_toArray, List.map_cons, List.map_nil]); first | done | rfl | (simp only [List.length_drop, List.length_take]; rfl)) ?_; (with_reducible refine (spec_GoodBuddy.calls k a0_0 _ _ l0_1 _ _ l0_2 true _ ?side1 ?side2 ?side3 ?side4 A3.out).mono ?_); (case side1 => exact cK HR0_1.out HB.out); (case side2 => exact HC0_1.out); (case side3 => exact cK HR0_2.out HB.out); (case side4 => exact HC0_2.out); rintro e w9 ⟨rfl, hb⟩; refine ⟨_, rfl, ?_⟩; replace BK183 := yK BK183.out hb; replace BK184 := yK BK184.out hb; replace HB := aM (zT (zH HB.out) hb); (try clear hb); have hcz10_0 : w9.cell? ⟨gb183, 0, none⟩ = some (.int .i64 a0_0) := yc BK183.out 0; have hcz10_1 : w9.cell? ⟨gb183, 1, none⟩ = some (.slice A0_1 l0_1.length c0_1) := yc BK183.out 1; have hcz10_2 : w9.cell? ⟨gb183, 2, none⟩ = some (.slice A0_2 l0_2.length c0_2) := yc BK183.out 2; have hfz10_0 := yZ BK183.out 0; have hfz10_1 := yZ BK183.out 1; have hfz10_2 := yZ BK183.out 2))
  go_loopg [17] k (fun kq v17 w' => ∃ (x17_1 : Int) (x185000_1 : Int), v17 = .int .i64 x17_1 ∧ Aside0 (spec_GiveBlock.l0 kq a1 l0_2 (l0_2.length : Int) x17_1 a0_0 l0_1 l0_2 = some (r1, r2, r3, r4)) ∧ Aside0 (kq ≤ k) ∧ Aside0 (w'.heap[gb183]? = some (.cells #[.int .i64 a0_0, (.slice A0_1 l0_1.length c0_1), (.slice A0_2 l0_2.length c0_2)] 28 (0, 0))) ∧ Aside0 (w'.heap[gb184]? = some (.cells #[.int .i64 x185000_1, (.slice none 0 0), (.slice none 0 0)] 28 (0, 0))) ∧ Aside0 (Below w.heap.size w w'))
  case atStart => exact ⟨(0), (0), (by first | rfl | (simp; done) | (simp [*]; done)), H', ⟨Nat.le_refl _⟩, ⟨yH BK183.out⟩, ⟨yH BK184.out⟩, ⟨zH HB.out⟩⟩
  case round =>
   clear H'
   (try clear c2); (try clear p2); (try clear c4); (try clear c7); (try clear c9); (try clear hcz10_0); (try clear hcz10_1); (try clear hcz10_2); (try clear hcz8_0); (try clear hcz8_1); (try clear hcz8_2); (try clear hfz10_0); (try clear hfz10_1); (try clear hfz10_2); (try clear hfz8_0); (try clear hfz8_1); (try clear hfz8_2)
   obtain ⟨x17_1, x185000_1, rfl, HA, HK1, BK183, BK184, HB⟩ := hrel
   cases gk with
   | zero => exact absurd HA.out (fun h_ => by change none = some _ at h_; cases h_)
   | succ k1 =>
    have H := HA.out
    clear HA
    simp only [spec_GiveBlock.l0] at H
    by_cases c11 : x17_1 < (l0_2.length : Int)
    ·rw [if_pos c11] at H
     have c11b0 : decide (x17_1 < (l0_2.length : Int)) = true := decide_eq_true c11
     clear c11
     by_cases c12 : 0 ≤ x17_1
     ·rw [if_pos c12] at H
      have c12b0 : decide (0 ≤ x17_1) = true := decide_eq_true c12
      clear c12
      by_cases c13 : x17_1 < (l0_2.length : Int)
      ·rw [if_pos c13] at H
       have c13b0 : decide (x17_1 < (l0_2.length : Int)) = true := decide_eq_true c13
       clear c13
       by_cases c14 : ((rd_T45 l0_2 x17_1).f0) = a1
       ·rw [if_pos c14] at H
        have c14b0 : (((rd_T45 l0_2 x17_1).f0) == a1) = true := beq_iff_eq.mpr c14
        have c14b1 : (((rd_T45 l0_2 x17_1).f0) != a1) = false := bne_eq_false_iff_eq.mpr c14
        clear c14
        obtain ⟨y188, hy188⟩ : ∃ y_ : List (S45), y_ = (([] : List (S45))) := ⟨_, rfl⟩
        replace H : (if y188.length + l0_1.length < 8796093022208 then (spec_GiveBlock.l1 k1 x17_1 (y188 ++ l0_1) a0_0 l0_1 l0_2 ((rd_T45 l0_2 x17_1).f0) ((rd_T45 l0_2 x17_1).f1)) else (none)) = some (r1, r2, r3, r4) := by first | (rw [hy188]; with_reducible exact H) | (have H2_ := (Option.bind_some _ _).symm.trans H; rw [hy188]; with_reducible exact H2_) | (have H2_ := (Option.bind_some _ _).symm.trans H; with_reducible exact H2_) | with_reducible exact H | (rw [hy188]; exact H) | exact H
        have Ny188 := aM hy188
        clear hy188
        by_cases c15 : y188.length + l0_1.length < 8796093022208
        ·rw [if_pos c15] at H
         have LMc15 := aM c15
         clear c15
         obtain ⟨y191, hy191⟩ : ∃ y_ : List (S45), y_ = (y188 ++ l0_1) := ⟨_, rfl⟩
         replace H : (spec_GiveBlock.l1 k1 x17_1 y191 a0_0 l0_1 l0_2 ((rd_T45 l0_2 x17_1).f0) ((rd_T45 l0_2 x17_1).f1)) = some (r1, r2, r3, r4) := by first | (rw [hy191]; with_reducible exact H) | (have H2_ := (Option.bind_some _ _).symm.trans H; rw [hy191]; with_reducible exact H2_) | (have H2_ := (Option.bind_some _ _).symm.trans H; with_reducible exact H2_) | with_reducible exact H | (rw [hy191]; exact H) | exact H
         have Ny191 := aM hy191
         clear hy191
         have H' := aM H
         clear H
         have p186 : 0 ≤ (x17_1 : Int) := of_decide_eq_true (by first | (with_reducible assumption) | assumption)
         have q186 : x17_1 < (l0_2.length : Int) := of_decide_eq_true (by first | (with_reducible assumption) | assumption)
         obtain ⟨ad186, e186, hx186_0, hx186_1⟩ := at_T45 HR0_2.out x17_1 p186 q186
         cases e186
         replace hx186_0 := (HB.out.cell (World.block_lt_of_cell? w _ hx186_0)).trans hx186_0
         replace hx186_1 := (HB.out.cell (World.block_lt_of_cell? w _ hx186_1)).trans hx186_1
         replace p186 := eq_true p186
         replace q186 := eq_true q186
         go_wp2_with (first | ((with_reducible refine gate_dst (N := 7) rfl ?_); refine box_event ?hg (N := 7) ?hd (cs := #[.int .i64 0, .int .i64 0]) (t := 45) ?hr ?_; (case hd => rfl); (case hg => rfl); (case hr => first | (go_simp; done) | (go_simp; rfl)); intro gb187 hg w16 hbox hb; have BK187 := aM (hbox); have GW187 := aM ((by rw [hg]; exact (zZ (zH HB.out)) : w.heap.size ≤ gb187)); have GE187 := aM ((by rw [hg]; exact (zZ (zH HB.out)) : w.heap.size ≤ gb187)); replace HB := aM (zT (zH HB.out) hb); have NB183_187 := nL BK183.out hg; have NB187_183 := nR BK183.out hg; replace BK183 := yK BK183.out hb; have NB184_187 := nL BK184.out hg; have NB187_184 := nR BK184.out hg; replace BK184 := yK BK184.out hb; clear hb hbox hg; have hnb17 := NB187_183.out; have hnc17 := NB183_187.out; have hnb18 := NB187_184.out; have hnc18 := NB184_187.out; have hcz19_0 : w16.cell? ⟨gb187, 0, none⟩ = some (.int .i64 0) := yc BK187.out 0; have hcz19_1 : w16.cell? ⟨gb187, 1, none⟩ = some (.int .i64 0) := yc BK187.out 1; have hfz19_0 := yZ BK187.out 0; have hfz19_1 := yZ BK187.out 1) | ((with_reducible refine gate_dst (N := 26) rfl ?_); refine Kd.R_lit k45 _ 45 ?hg (N := 26) ?hd (xs := ([] : List (S45))) (inner := []) (ok := fun _ => True) (okp := fun _ => True) ?hr ?hp (fun _ hk => hk) trivial (Below.refl _ _) (Nat.le_refl _) (by simp) ?_; (case hd => rfl); (case hg => rfl); (case hr => first | (go_simp; done) | (go_simp; rfl)); (case hp => exact (Reps.none _ _)); intro v189 w20 ho21 hb hg_ hnew_; clear hg_ hnew_; (first | rw [← Ny188.out] at ho21 | (simp only [Int.reduceToNat] at ho21; rw [← Ny188.out] at ho21)); have HO190 := aM (xL (Kd.R_newB ho21 (g := gb187) (o := .cells #[.int .i64 ((rd_T45 l0_2 x17_1).f0), .int .i64 ((rd_T45 l0_2 x17_1).f1)] 45 (0, 0)) (by (with_reducible repeat (first | refine yN ?_ _ | refine yD ?_ | refine yA ?_ _)); refine yP (cs := #[.int .i64 ((rd_T45 l0_2 x17_1).f0), .int .i64 0]) ?_ 1 _ rfl; (with_reducible repeat (first | refine yN ?_ _ | refine yD ?_ | refine yA ?_ _)); refine yP (cs := #[.int .i64 0, .int .i64 0]) ?_ 0 _ rfl; (with_reducible repeat (first | refine yN ?_ _ | refine yD ?_ | refine yA ?_ _)); exact BK187.out)) (zZ (zH HB.out))); replace BK183 := aM (yB (g := gb183) (o := .cells #[.int .i64 a0_0, .slice A0_1 l0_1.length c0_1, .slice (some ad186) l0_2.length c0_2] 28 (0, 0)) (by (with_reducible repeat (first | refine yN ?_ _ | refine yD ?_ | refine yA ?_ _)); refine yF ?_ NB183_187.out _; (with_reducible repeat (first | refine yN ?_ _ | refine yD ?_ | refine yA ?_ _)); refine yF ?_ NB183_187.out _; (with_reducible repeat (first | refine yN ?_ _ | refine yD ?_ | refine yA ?_ _)); exact BK183.out) hb); replace BK184 := aM (yB (g := gb184) (o := .cells #[.int .i64 x185000_1, .slice none 0 0, .slice none 0 0] 28 (0, 0)) (by (with_reducible repeat (first | refine yN ?_ _ | refine yD ?_ | refine yA ?_ _)); refine yF ?_ NB184_187.out _; (with_reducible repeat (first | refine yN ?_ _ | refine yD ?_ | refine yA ?_ _)); refine yF ?_ NB184_187.out _; (with_reducible repeat (first | refine yN ?_ _ | refine yD ?_ | refine yA ?_ _)); exact BK184.out) hb); replace BK187 := aM (yB (g := gb187) (o := .cells #[.int .i64 ((rd_T45 l0_2 x17_1).f0), .int .i64 ((rd_T45 l0_2 x17_1).f1)] 45 (0, 0)) (by (with_reducible repeat (first | refine yN ?_ _ | refine yD ?_ | refine yA ?_ _)); refine yP (cs := #[.int .i64 ((rd_T45 l0_2 x17_1).f0), .int .i64 0]) ?_ 1 _ rfl; (with_reducible repeat (first | refine yN ?_ _ | refine yD ?_ | refine yA ?_ _)); refine yP (cs := #[.int .i64 0, .int .i64 0]) ?_ 0 _ rfl; (with_reducible repeat (first | refine yN ?_ _ | refine yD ?_ | refine yA ?_ _)); exact BK187.out) hb); replace HB := aM (zT (zH HB.out) hb); clear hb ho21; have hnb22 := NB183_184.out; have hnc22 := NB184_183.out; have hcz23_0 : w20.cell? ⟨gb183, 0, none⟩ = some (.int .i64 a0_0) := yc BK183.out 0; have hcz23_1 : w20.cell? ⟨gb183, 1, none⟩ = some (.slice A0_1 l0_1.length c0_1) := yc BK183.out 1; have hcz23_2 : w20.cell? ⟨gb183, 2, none⟩ = some (.slice (some ad186) l0_2.length c0_2) := yc BK183.out 2; have hfz23_0 := yZ BK183.out 0; have hfz23_1 := yZ BK183.out 1; have hfz23_2 := yZ BK183.out 2) | ((with_reducible refine gate_builtin (b := .append) (xs := #[.tmp 26, .tmp 28]) rfl ?_); at_builtin; refine Kd.R_append_rows k45 (w0 := w) w.heap.size rfl (.tmp 26) (.tmp 28) 26 45 (.agg #[(.int .i64 0), (.int .i64 0)]) 16 rfl Try.underlying26 info45 rfl (by decide) (by omega) v189 y188 l0_1 _ _ _ (fun k_ => k_ ≠ gb187) (fun _ => False) rfl rfl ?aO ?aR (fun _ _ h => h) (fun _ h => h.elim) ?aF ?aB ?aS ?aL ?_; (case aR => exact cK HR0_1.out HB.out); (case aB => exact (zH HB.out)); (case aF => exact (fun k_ hk => Kd.freshB (g := gb187) (o := .cells #[.int .i64 ((rd_T45 l0_2 x17_1).f0), .int .i64 ((rd_T45 l0_2 x17_1).f1)] 45 (0, 0)) (yH BK187.out) k_ hk)); (case aO => exact (xH (xM HO190.out (fun _ hk => hk.2)))); (case aS => exact (zZ (zH HB.out))); (case aL => have := LMc15.out; omega); intro v192 w24 ho hb hg hat; rw [← Ny191.out] at ho; replace BK183 := aM (blk_grown (g := gb183) (o := .cells #[.int .i64 a0_0, .slice A0_1 l0_1.length c0_1, .slice (some ad186) l0_2.length c0_2] 28 (0, 0)) (yH BK183.out) hg (Kd.R_ne HO190.out BK183.out (by decide))); replace BK184 := aM (blk_grown (g := gb184) (o := .cells #[.int .i64 x185000_1, .slice none 0 0, .slice none 0 0] 28 (0, 0)) (yH BK184.out) hg (Kd.R_ne HO190.out BK184.out (by decide))); replace BK187 := aM (blk_grown (g := gb187) (o := .cells #[.int .i64 ((rd_T45 l0_2 x17_1).f0), .int .i64 ((rd_T45 l0_2 x17_1).f1)] 45 (0, 0)) (yH BK187.out) hg (Kd.R_away HO190.out (fun _ hk => hk.2))); replace HB := aM (hb); have HO193 := aM (ho); clear HO190; clear ho hb hg hat))
         go_loopg [8] k1 (fun kq v8 w' => ∃ (x8_2 : List (S45)) (x188000_2 : Int) (x188001_2 : Int), Aside0 (spec_GiveBlock.l1 kq x17_1 x8_2 a0_0 l0_1 l0_2 x188000_2 x188001_2 = some (r1, r2, r3, r4)) ∧ Aside0 (kq ≤ k1) ∧ Aside0 (Kd.R k45 45 w' w.heap.size (fun k_ => k_ ≠ gb187) v8 x8_2) ∧ Aside0 (w'.heap[gb183]? = some (.cells #[.int .i64 a0_0, (.slice A0_1 l0_1.length c0_1), (.slice (some ad186) l0_2.length c0_2)] 28 (0, 0))) ∧ Aside0 (w'.heap[gb184]? = some (.cells #[.int .i64 x185000_1, (.slice none 0 0), (.slice none 0 0)] 28 (0, 0))) ∧ Aside0 (w'.heap[gb187]? = some (.cells #[.int .i64 x188000_2, .int .i64 x188001_2] 45 (0, 0))) ∧ Aside0 (Below w.heap.size w w'))
         case atStart => exact ⟨(y191), ((rd_T45 l0_2 x17_1).f0), ((rd_T45 l0_2 x17_1).f1), H', ⟨Nat.le_refl _⟩, ⟨xH HO193.out⟩, ⟨yH BK183.out⟩, ⟨yH BK184.out⟩, ⟨yH BK187.out⟩, ⟨zH HB.out⟩⟩
         case round =>
          clear H'
          (try clear c1); (try clear p1); (try clear q1); (try clear hx1); (try clear c2); (try clear p2); (try clear c4); (try clear c7); (try clear c9); (try clear c11); (try clear c11b0); (try clear c12); (try clear c12b0); (try clear c13); (try clear c13b0); (try clear c14); (try clear c14b0); (try clear c14b1); (try clear c15); (try clear c17); (try clear c18); (try clear p18); (try clear q18); (try clear hx18); (try clear c20); (try clear c22); (try clear hcz10_0); (try clear hcz10_1); (try clear hcz10_2); (try clear hcz19_0); (try clear hcz19_1); (try clear hcz23_0); (try clear hcz23_1); (try clear hcz23_2); (try clear hcz8_0); (try clear hcz8_1); (try clear hcz8_2); (try clear hfz10_0); (try clear hfz10_1); (try clear hfz10_2); (try clear hfz19_0); (try clear hfz19_1); (try clear hfz23_0); (try clear hfz23_1); (try clear hfz23_2); (try clear hfz8_0); (try clear hfz8_1); (try clear hfz8_2); (try clear hx186_0); (try clear hx186_1); (try clear p186); (try clear p2); (try clear q186)
          obtain ⟨x8_2, x188000_2, x188001_2, HA, HK2, p0', BK183, BK184, BK187, HB⟩ := hrel
          cases gk with
          | zero => exact absurd HA.out (fun h_ => by change none = some _ at h_; cases h_)
          | succ k2 =>
           have H := HA.out
           clear HA
           simp only [spec_GiveBlock.l1] at H
           by_cases c25 : x188001_2 < a0_0
           ·rw [if_pos c25] at H
            have c25b0 : decide (x188001_2 < a0_0) = true := decide_eq_true c25
            clear c25
            replace H := Option.bind_eq_some_iff.mp H
            obtain ⟨⟨t200, t201⟩, A260, H⟩ := H
            replace H : ((spec_l6At.f k2 x8_2 t200 t201).bind fun t202 => (if t202 < 0 then ((spec_l6Put.f k2 x8_2 x188000_2 x188001_2).bind fun t203 => ((spec_l6Without.f l0_2 x17_1).bind fun t206 => (some (a0_0, t203, t206, true)))) else ((spec_l6Without.f x8_2 t202).bind fun t209 => (if 0 ≤ (IntKind.u64.wrap (x188001_2)) then (spec_GiveBlock.l1 k2 x17_1 t209 a0_0 l0_1 l0_2 (Go.bits .andNot .i64 x188000_2 (shl .i64 1 (IntKind.u64.wrap (x188001_2)))) (wrap64 (x188001_2 + 1))) else (none))))) = some (r1, r2, r3, r4) := H
            have A26 := aM A260
            clear A260
            replace H := Option.bind_eq_some_iff.mp H
            obtain ⟨t202, A270, H⟩ := H
            replace H : (if t202 < 0 then ((spec_l6Put.f k2 x8_2 x188000_2 x188001_2).bind fun t203 => ((spec_l6Without.f l0_2 x17_1).bind fun t206 => (some (a0_0, t203, t206, true)))) else ((spec_l6Without.f x8_2 t202).bind fun t209 => (if 0 ≤ (IntKind.u64.wrap (x188001_2)) then (spec_GiveBlock.l1 k2 x17_1 t209 a0_0 l0_1 l0_2 (Go.bits .andNot .i64 x188000_2 (shl .i64 1 (IntKind.u64.wrap (x188001_2)))) (wrap64 (x188001_2 + 1))) else (none)))) = some (r1, r2, r3, r4) := H
            have A27 := aM A270
            clear A270
            by_cases c28 : t202 < 0
            ·rw [if_pos c28] at H
             have c28b0 : decide (t202 < 0) = true := decide_eq_true c28
             clear c28
             replace H := Option.bind_eq_some_iff.mp H
             obtain ⟨t203, A290, H⟩ := H
             replace H : ((spec_l6Without.f l0_2 x17_1).bind fun t206 => (some (a0_0, t203, t206, true))) = some (r1, r2, r3, r4) := H
             have A29 := aM A290
             clear A290
             replace H := Option.bind_eq_some_iff.mp H
             obtain ⟨t206, A300, H⟩ := H
             replace H : (some (a0_0, t203, t206, true)) = some (r1, r2, r3, r4) := H
             have A30 := aM A300
             clear A300
             simp only [Option.some.injEq, Prod.mk.injEq] at H
             obtain ⟨rfl, rfl, rfl, rfl⟩ := H
             have hnb31 := NB187_183.out
             have hnc31 := NB183_187.out
             have hnb32 := NB187_184.out
             have hnc32 := NB184_187.out
             have hcz33_0 : wr.cell? ⟨gb187, 0, none⟩ = some (.int .i64 x188000_2) := yc BK187.out 0
             have hcz33_1 : wr.cell? ⟨gb187, 1, none⟩ = some (.int .i64 x188001_2) := yc BK187.out 1
             have hfz33_0 := yZ BK187.out 0
             have hfz33_1 := yZ BK187.out 1
             have hnb34 := NB183_184.out
             have hnc34 := NB184_183.out
             have hcz35_0 : wr.cell? ⟨gb183, 0, none⟩ = some (.int .i64 a0_0) := yc BK183.out 0
             have hcz35_1 : wr.cell? ⟨gb183, 1, none⟩ = some (.slice A0_1 l0_1.length c0_1) := yc BK183.out 1
             have hcz35_2 : wr.cell? ⟨gb183, 2, none⟩ = some (.slice (some ad186) l0_2.length c0_2) := yc BK183.out 2
             have hfz35_0 := yZ BK183.out 0
             have hfz35_1 := yZ BK183.out 1
             have hfz35_2 := yZ BK183.out 2
             try go_wp2_with (first | ((with_reducible refine gate_callee (f := 29) rfl ?_); refine goesL_ (some 37) rfl rfl Try.func29 (by kernel_rfl) rfl #[.agg #[.int .i64 x188000_2, .int .i64 x188001_2]] rfl (by (try simp only [List.map_toArray, List.map_cons, List.map_nil]); first | done | rfl | (simp only [List.length_drop, List.length_take]; rfl)) ?_; (with_reducible refine (spec_l6Buddy.calls x188000_2 x188001_2 t200 t201 _ A26.out).mono ?_); rintro e w36 ⟨rfl, hb⟩; refine ⟨_, rfl, ?_⟩; replace p0' := xK p0'.out hb; replace BK183 := yK BK183.out hb; replace BK184 := yK BK184.out hb; replace BK187 := yK BK187.out hb; replace HB := aM (zT (zH HB.out) hb); (try clear hb); obtain ⟨Ao37, co37, eo37⟩ := Kd.R_slice p0'.out; subst eo37) | ((with_reducible refine gate_callee (f := 28) rfl ?_); refine goesL_ (some 38) rfl rfl Try.func28 (by kernel_rfl) rfl #[.slice Ao37 x8_2.length co37, .agg #[.int .i64 t200, .int .i64 t201]] rfl (by (try simp only [List.map_toArray, List.map_cons, List.map_nil]); first | done | rfl | (simp only [List.length_drop, List.length_take]; rfl)) ?_; (with_reducible refine (spec_l6At.calls k2 _ _ x8_2 t200 t201 t202 _ ?side1 ?side2 A27.out).mono ?_); (case side1 => repeat (first | exact (Kd.R_reads' p0'.out).2.2 | (with_reducible refine cA ?_ _) | (with_reducible refine cN ?_ _) | (with_reducible refine cD ?_))); (case side2 => exact (Kd.R_reads' p0'.out).2.1); rintro e w38 ⟨rfl, hb⟩; refine ⟨_, rfl, ?_⟩; replace p0' := xK p0'.out hb; replace BK183 := yK BK183.out hb; replace BK184 := yK BK184.out hb; replace BK187 := yK BK187.out hb; replace HB := aM (zT (zH HB.out) hb); (try clear hb)))
             replace p0' := aM (xD p0'.out)
             replace BK183 := aM (yD BK183.out)
             replace BK184 := aM (yD BK184.out)
             replace BK187 := aM (yD BK187.out)
             replace HB := aM (zD HB.out)
             refine start_ (n := 12) (S := fun w' => w'.cell? ⟨gb183, 0, none⟩ = some (.int .i64 a0_0) ∧ w'.cell? ⟨gb183, 1, none⟩ = some (.slice A0_1 l0_1.length c0_1) ∧ w'.cell? ⟨gb183, 2, none⟩ = some (.slice (some ad186) l0_2.length c0_2) ∧ w'.cell? ⟨gb187, 0, none⟩ = some (.int .i64 x188000_2) ∧ w'.cell? ⟨gb187, 1, none⟩ = some (.int .i64 x188001_2)) (ds := []) #[fF,fF,fF,fF,fF,fF,fF,fF,fF,fF,fF,fF] (by kernel_rfl) rfl rfl ⟨yc BK183.out 0, yc BK183.out 1, yc BK183.out 2, yc BK187.out 0, yc BK187.out 1⟩ (fun hHeld => ?_); refine with_tabW spec_GiveBlock.tab13 spec_GiveBlock.bits13 (fun HT_ HW_ => ?_)
             generalize w38.drew = w39 at p0' BK183 BK184 BK187 HB hHeld ⊢
             refine pure_ (i := 0) (N := some 55) (v := ?_) (a' := ?_) #[tT,fF,fF,fF,fF,fF,fF,fF,fF,fF,fF,fF] rfl rfl (any_of HT_.out (by kernel_rfl)) (fun _ _ _ h => h) (Or.inl ⟨by rfl, ?_⟩) ?_ ?_
             rotate_left
             ·intro w'
              go_simp
              with_reducible rfl
             rotate_left
             ·simp only [Act.put, qA, qB, qC, i64_w, i32_w]
              rfl
             refine pure_ (i := 2) (N := some 57) (v := ?_) (a' := ?_) #[tT,fF,tT,fF,fF,fF,fF,fF,fF,fF,fF,fF] rfl rfl (any_of HT_.out (by kernel_rfl)) (fun _ _ _ h => h) (Or.inl ⟨by rfl, ?_⟩) ?_ ?_
             rotate_left
             ·intro w'
              go_simp
              with_reducible rfl
             rotate_left
             ·simp only [Act.put, qA, qB, qC, i64_w, i32_w]
              rfl
             refine pure_ (i := 5) (N := some 60) (v := ?_) (a' := ?_) #[tT,fF,tT,fF,fF,tT,fF,fF,fF,fF,fF,fF] rfl rfl (any_of HT_.out (by kernel_rfl)) (fun _ _ _ h => h) (Or.inl ⟨by rfl, ?_⟩) ?_ ?_
             rotate_left
             ·intro w'
              go_simp
              with_reducible rfl
             rotate_left
             ·simp only [Act.put, qA, qB, qC, i64_w, i32_w]
              rfl
             refine pure_ (i := 7) (N := some 62) (v := ?_) (a' := ?_) #[tT,fF,tT,fF,fF,tT,fF,tT,fF,fF,fF,fF] rfl rfl (any_of HT_.out (by kernel_rfl)) (fun _ _ _ h => h) (Or.inl ⟨by rfl, ?_⟩) ?_ ?_
             rotate_left
             ·intro w'
              go_simp
              with_reducible rfl
             rotate_left
             ·simp only [Act.put, qA, qB, qC, i64_w, i32_w]
              rfl
             refine take_ (i := 1) (N := some 56) (v := ?_) (a' := ?_) #[tT,tT,tT,fF,fF,tT,fF,tT,fF,fF,fF,fF] rfl rfl (take_ofW HT_.out HW_.out (by kernel_rfl)) (fun _ _ _ h => h) (Or.inl ⟨by rfl, ?_⟩) hHeld ?_ ?_
             rotate_left
             ·rintro w' ⟨s0, s1, s2, s3, s4⟩
              go_simp
              with_reducible rfl
             rotate_left
             ·simp only [Act.put, qA, qB, qC, i64_w, i32_w]
              rfl
             refine take_ (i := 3) (N := some 58) (v := ?_) (a' := ?_) #[tT,tT,tT,tT,fF,tT,fF,tT,fF,fF,fF,fF] rfl rfl (take_ofW HT_.out HW_.out (by kernel_rfl)) (fun _ _ _ h => h) (Or.inl ⟨by rfl, ?_⟩) hHeld ?_ ?_
             rotate_left
             ·rintro w' ⟨s0, s1, s2, s3, s4⟩
              go_simp
              with_reducible rfl
             rotate_left
             ·simp only [Act.put, qA, qB, qC, i64_w, i32_w]
              rfl
             refine take_ (i := 6) (N := some 61) (v := ?_) (a' := ?_) #[tT,tT,tT,tT,fF,tT,tT,tT,fF,fF,fF,fF] rfl rfl (take_ofW HT_.out HW_.out (by kernel_rfl)) (fun _ _ _ h => h) (Or.inl ⟨by rfl, ?_⟩) hHeld ?_ ?_
             rotate_left
             ·rintro w' ⟨s0, s1, s2, s3, s4⟩
              go_simp
              with_reducible rfl
             rotate_left
             ·simp only [Act.put, qA, qB, qC, i64_w, i32_w]
              rfl
             refine one_ (i := 4) (N := some 59) #[tT,tT,tT,tT,tT,tT,tT,tT,fF,fF,fF,fF] rfl rfl (one_of HT_.out (by kernel_rfl)) (by decide) (fun K hK => ?_)
             refine gS Try.func31 (by kernel_rfl) rfl #[.slice Ao37 x8_2.length co37, .agg #[.int .i64 x188000_2, .int .i64 x188001_2]] (by rfl) rfl rfl ?_
             with_reducible refine (spec_l6Put.calls k2 _ _ x8_2 x188000_2 x188001_2 t203 _ ?side1 ?side2 A29.out).mono ?_
             (case side1 => repeat (first | exact (Kd.R_reads' p0'.out).2.2 | (with_reducible refine cA ?_ _) | (with_reducible refine cN ?_ _) | (with_reducible refine cD ?_)))
             (case side2 => exact (Kd.R_reads' p0'.out).2.1)
             rintro e w40 ⟨v204, rfl, ho0, hb⟩
             refine ⟨_, rfl, ?_⟩
             have HO205 := aM (xL (Kd.R_newB (Kd.R_new' ho0 (Kd.R_lt (xH p0'.out))) (g := gb187) (o := .cells #[.int .i64 x188000_2, .int .i64 x188001_2] 45 (0, 0)) (yH BK187.out)) (zZ (zH HB.out)))
             replace p0' := aM (Kd.R_elder' (xH p0'.out) (Kd.R_base ho0) hb)
             replace BK183 := yK BK183.out hb
             replace BK184 := yK BK184.out hb
             replace BK187 := yK BK187.out hb
             replace HB := aM (zT (zH HB.out) hb)
             (try clear hb); (try clear ho0)
             refine hK.out _ _ ⟨yc BK183.out 0, yc BK183.out 1, yc BK183.out 2, yc BK187.out 0, yc BK187.out 1⟩ (fun hHeld => ?_)
             clear hK K
             refine norm_ (a' := ?_) ?_ ?_
             rotate_left
             ·show Act.put _ (some 59) _ = _
              simp only [Act.put, qA, qB, qC, i64_w, i32_w]
              rfl
             refine one_ (i := 8) (N := some 63) #[tT,tT,tT,tT,tT,tT,tT,tT,tT,fF,fF,fF] rfl rfl (one_of HT_.out (by kernel_rfl)) (by decide) (fun K hK => ?_)
             refine gS Try.func30 (by kernel_rfl) rfl #[.slice (some ad186) l0_2.length c0_2, .int .i64 x17_1] (by rfl) rfl rfl ?_
             with_reducible refine (spec_l6Without.calls _ _ l0_2 x17_1 t206 _ ?side1 ?side2 A30.out).mono ?_
             (case side1 => exact cK HR0_2.out HB.out)
             (case side2 => exact HC0_2.out)
             rintro e w41 ⟨v207, rfl, ho0, hb⟩
             refine ⟨_, rfl, ?_⟩
             have HO208 := aM (xL (Kd.R_newB (Kd.R_new' (Kd.R_new' ho0 (Kd.R_lt (xH p0'.out))) (Kd.R_lt (xH HO205.out))) (g := gb187) (o := .cells #[.int .i64 x188000_2, .int .i64 x188001_2] 45 (0, 0)) (yH BK187.out)) (zZ (zH HB.out)))
             replace p0' := aM (Kd.R_elder' (xH p0'.out) (Kd.R_base ho0) hb)
             replace HO205 := aM (Kd.R_elder' (xH HO205.out) (Kd.R_base ho0) hb)
             replace BK183 := yK BK183.out hb
             replace BK184 := yK BK184.out hb
             replace BK187 := yK BK187.out hb
             replace HB := aM (zT (zH HB.out) hb)
             (try clear hb); (try clear ho0)
             obtain ⟨Ao42, co42, eo42⟩ := Kd.R_slice HO208.out
             (first | subst eo42 | obtain ⟨rfl, rfl⟩ := eI eo42)
             obtain ⟨Ao43, co43, eo43⟩ := Kd.R_slice HO205.out
             (first | subst eo43 | obtain ⟨rfl, rfl⟩ := eI eo43)
             refine hK.out _ _ ⟨yc BK183.out 0, yc BK183.out 1, yc BK183.out 2, yc BK187.out 0, yc BK187.out 1⟩ (fun hHeld => ?_)
             clear hK K
             refine norm_ (a' := ?_) ?_ ?_
             rotate_left
             ·show Act.put _ (some 63) _ = _
              simp only [Act.put, qA, qB, qC, i64_w, i32_w]
              rfl
             refine pure_ (i := 9) (N := some 64) (v := ?_) (a' := ?_) #[tT,tT,tT,tT,tT,tT,tT,tT,tT,tT,fF,fF] rfl rfl (any_of HT_.out (by kernel_rfl)) (fun _ _ _ h => h) (Or.inl ⟨by rfl, ?_⟩) ?_ ?_
             rotate_left
             ·intro w'
              go_simp
              with_reducible rfl
             rotate_left
             ·simp only [Act.put, qA, qB, qC, i64_w, i32_w]
              rfl
             refine one_ (i := 10) (N := none) #[tT,tT,tT,tT,tT,tT,tT,tT,tT,tT,tT,fF] rfl rfl (one_of HT_.out (by kernel_rfl)) (by decide) (fun K hK => ?_)
             have hs44 : w41.cell? ⟨gb184, 0, none⟩ = some (.int .i64 x185000_1) := yc BK184.out 0
             have hfs44 := yZ BK184.out 0
             have hns44_0 := NB183_184.out
             have hns44_2 := NB187_184.out
             have hms44_0 := NB184_183.out
             have hms44_2 := NB184_187.out
             have hs45 : w41.cell? ⟨gb184, 1, none⟩ = some (.slice none 0 0) := yc BK184.out 1
             have hfs45 := yZ BK184.out 1
             have hns45_0 := NB183_184.out
             have hns45_2 := NB187_184.out
             have hms45_0 := NB184_183.out
             have hms45_2 := NB184_187.out
             have hs46 : w41.cell? ⟨gb184, 2, none⟩ = some (.slice none 0 0) := yc BK184.out 2
             have hfs46 := yZ BK184.out 2
             have hns46_0 := NB183_184.out
             have hns46_2 := NB187_184.out
             have hms46_0 := NB184_183.out
             have hms46_2 := NB184_187.out
             refine skip_ (w1 := ?_) (by rfl) rfl ?_ ?_
             rotate_left
             ·go_simp
              rfl
             refine hK.out _ _ ⟨((cell_far (p := ⟨gb184, _, none⟩) NB183_184.out _).trans (((cell_far (p := ⟨gb184, _, none⟩) NB183_184.out _).trans (((cell_far (p := ⟨gb184, _, none⟩) NB183_184.out _).trans (hHeld.1)))))), ((cell_far (p := ⟨gb184, _, none⟩) NB183_184.out _).trans (((cell_far (p := ⟨gb184, _, none⟩) NB183_184.out _).trans (((cell_far (p := ⟨gb184, _, none⟩) NB183_184.out _).trans (hHeld.2.1)))))), ((cell_far (p := ⟨gb184, _, none⟩) NB183_184.out _).trans (((cell_far (p := ⟨gb184, _, none⟩) NB183_184.out _).trans (((cell_far (p := ⟨gb184, _, none⟩) NB183_184.out _).trans (hHeld.2.2.1)))))), ((cell_far (p := ⟨gb184, _, none⟩) NB187_184.out _).trans (((cell_far (p := ⟨gb184, _, none⟩) NB187_184.out _).trans (((cell_far (p := ⟨gb184, _, none⟩) NB187_184.out _).trans (hHeld.2.2.2.1)))))), ((cell_far (p := ⟨gb184, _, none⟩) NB187_184.out _).trans (((cell_far (p := ⟨gb184, _, none⟩) NB187_184.out _).trans (((cell_far (p := ⟨gb184, _, none⟩) NB187_184.out _).trans (hHeld.2.2.2.2))))))⟩ (fun hHeld => ?_)
             clear hK K
             refine pure_ (i := 11) (N := some 5) (v := ?_) (a' := ?_) #[tT,tT,tT,tT,tT,tT,tT,tT,tT,tT,tT,tT] rfl rfl (any_of HT_.out (by kernel_rfl)) (fun _ _ _ h => h) (Or.inl ⟨by rfl, ?_⟩) ?_ ?_
             rotate_left
             ·intro w'
              go_simp
              with_reducible rfl
             rotate_left
             ·simp only [Act.put, qA, qB, qC, i64_w, i32_w]
              rfl
             refine done_ (done_of HT_.out (by kernel_rfl)) ?_
             try go_wp2
             refine bodyPost_ret (results_ct rfl _ _ gb184 28 #[.int .i64 a0_0, .slice Ao43 t203.length co43, .slice Ao42 t206.length co42] (0, 0) _ rfl (by (with_reducible repeat (first | refine yN ?_ _ | refine yD ?_ | refine yA ?_ _)); refine yP (cs := #[.int .i64 a0_0, .slice Ao43 t203.length co43, .slice none 0 0]) ?_ 2 _ rfl; (with_reducible repeat (first | refine yN ?_ _ | refine yD ?_ | refine yA ?_ _)); refine yP (cs := #[.int .i64 a0_0, .slice none 0 0, .slice none 0 0]) ?_ 1 _ rfl; (with_reducible repeat (first | refine yN ?_ _ | refine yD ?_ | refine yA ?_ _)); refine yP (cs := #[.int .i64 x185000_1, .slice none 0 0, .slice none 0 0]) ?_ 0 _ rfl; (with_reducible repeat (first | refine yN ?_ _ | refine yD ?_ | refine yA ?_ _)); exact BK184.out) Try.underlying28 rfl (by kernel_rfl)) rfl ?_
             exact ⟨_, _, by first | rfl | (simp [errW_none, errW_some] <;> rfl) | (simp [*, errW_none, errW_some] <;> rfl), xH (xM (xF (p := ⟨gb184, 2, none⟩) (xF (p := ⟨gb184, 1, none⟩) (xF (p := ⟨gb184, 0, none⟩) (xT HO205.out BK184.out (by decide)) (fun _ hk => hk.2) (.int .i64 a0_0)) (fun _ hk => hk.2) (.slice Ao43 t203.length co43)) (fun _ hk => hk.2) (.slice Ao42 t206.length co42)) (fun _ hk => hk.1.2)), xH (xM (xF (p := ⟨gb184, 2, none⟩) (xF (p := ⟨gb184, 1, none⟩) (xF (p := ⟨gb184, 0, none⟩) (xT HO208.out BK184.out (by decide)) (fun _ hk => hk.2) (.int .i64 a0_0)) (fun _ hk => hk.2) (.slice Ao43 t203.length co43)) (fun _ hk => hk.2) (.slice Ao42 t206.length co42)) (fun _ hk => hk.1.1.2)), zH HB.out⟩
            ·rw [if_neg c28] at H
             have c28b0 : decide (t202 < 0) = false := decide_eq_false c28
             clear c28
             replace H := Option.bind_eq_some_iff.mp H
             obtain ⟨t209, A470, H⟩ := H
             replace H : (if 0 ≤ (IntKind.u64.wrap (x188001_2)) then (spec_GiveBlock.l1 k2 x17_1 t209 a0_0 l0_1 l0_2 (Go.bits .andNot .i64 x188000_2 (shl .i64 1 (IntKind.u64.wrap (x188001_2)))) (wrap64 (x188001_2 + 1))) else (none)) = some (r1, r2, r3, r4) := H
             have A47 := aM A470
             clear A470
             obtain ⟨ji48, hji48⟩ : ∃ j_ : Int, (IntKind.u64.wrap (x188001_2)) = j_ := ⟨_, rfl⟩
             replace H : (if 0 ≤ (ji48) then (spec_GiveBlock.l1 k2 x17_1 t209 a0_0 l0_1 l0_2 (Go.bits .andNot .i64 x188000_2 (shl .i64 1 (ji48))) (wrap64 (x188001_2 + 1))) else (none)) = some (r1, r2, r3, r4) := by first | (rw [hji48] at H; exact H) | (simp only [hji48] at H ⊢; exact H)
             (try rw [hji48] at A26)
             (try rw [hji48] at A27)
             (try rw [hji48] at A47)
             by_cases c49 : 0 ≤ (ji48)
             ·rw [if_pos c49] at H
              have c49b0 := eq_true c49
              have c49b1 : decide (0 ≤ (ji48)) = true := decide_eq_true c49
              clear c49
              obtain ⟨ji50, hji50⟩ : ∃ j_ : Int, (shl .i64 1 (ji48)) = j_ := ⟨_, rfl⟩
              replace H : (spec_GiveBlock.l1 k2 x17_1 t209 a0_0 l0_1 l0_2 (Go.bits .andNot .i64 x188000_2 (ji50)) (wrap64 (x188001_2 + 1))) = some (r1, r2, r3, r4) := by first | (rw [hji50] at H; exact H) | (simp only [hji50] at H ⊢; exact H)
              (try rw [hji50] at A26)
              (try rw [hji50] at A27)
              (try rw [hji50] at A47)
              have hji50_ : (IntKind.i64.wrap (1 * 2 ^ min (ji48).toNat 64)) = ji50 := hji50
              have hji50z : (ji48) ≤ 64 → (IntKind.i64.wrap (1 * 2 ^ (ji48).toNat)) = ji50 := shl_small hji50
              have hji50u : (IntKind.i64.wrap (2 ^ min (ji48).toNat 64)) = ji50 := by have h_ := hji50_; rw [Int.one_mul] at h_; exact h_
              have hji50v : (ji48) ≤ 64 → (IntKind.i64.wrap (2 ^ (ji48).toNat)) = ji50 := fun hle_ => by have h_ := hji50z hle_; rw [Int.one_mul] at h_; exact h_
              have hji50y : (wrap64 (1 * 2 ^ min (ji48).toNat 64)) = ji50 := (i64_w _).symm.trans hji50_
              have hji50x : (ji48) ≤ 64 → (wrap64 (1 * 2 ^ (ji48).toNat)) = ji50 := fun h_ => (i64_w _).symm.trans (hji50z h_)
              have H' := aM H
              clear H
              have hnb51 := NB187_183.out
              have hnc51 := NB183_187.out
              have hnb52 := NB187_184.out
              have hnc52 := NB184_187.out
              have hcz53_0 : wr.cell? ⟨gb187, 0, none⟩ = some (.int .i64 x188000_2) := yc BK187.out 0
              have hcz53_1 : wr.cell? ⟨gb187, 1, none⟩ = some (.int .i64 x188001_2) := yc BK187.out 1
              have hfz53_0 := yZ BK187.out 0
              have hfz53_1 := yZ BK187.out 1
              have hnb54 := NB183_184.out
              have hnc54 := NB184_183.out
              have hcz55_0 : wr.cell? ⟨gb183, 0, none⟩ = some (.int .i64 a0_0) := yc BK183.out 0
              have hcz55_1 : wr.cell? ⟨gb183, 1, none⟩ = some (.slice A0_1 l0_1.length c0_1) := yc BK183.out 1
              have hcz55_2 : wr.cell? ⟨gb183, 2, none⟩ = some (.slice (some ad186) l0_2.length c0_2) := yc BK183.out 2
              have hfz55_0 := yZ BK183.out 0
              have hfz55_1 := yZ BK183.out 1
              have hfz55_2 := yZ BK183.out 2
              go_wp2_with (first | ((with_reducible refine gate_callee (f := 29) rfl ?_); refine goesL_ (some 37) rfl rfl Try.func29 (by kernel_rfl) rfl #[.agg #[.int .i64 x188000_2, .int .i64 x188001_2]] rfl (by (try simp only [List.map_toArray, List.map_cons, List.map_nil]); first | done | rfl | (simp only [List.length_drop, List.length_take]; rfl)) ?_; (with_reducible refine (spec_l6Buddy.calls x188000_2 x188001_2 t200 t201 _ A26.out).mono ?_); rintro e w56 ⟨rfl, hb⟩; refine ⟨_, rfl, ?_⟩; replace p0' := xK p0'.out hb; replace BK183 := yK BK183.out hb; replace BK184 := yK BK184.out hb; replace BK187 := yK BK187.out hb; replace HB := aM (zT (zH HB.out) hb); (try clear hb); obtain ⟨Ao57, co57, eo57⟩ := Kd.R_slice p0'.out; subst eo57) | ((with_reducible refine gate_callee (f := 28) rfl ?_); refine goesL_ (some 38) rfl rfl Try.func28 (by kernel_rfl) rfl #[.slice Ao57 x8_2.length co57, .agg #[.int .i64 t200, .int .i64 t201]] rfl (by (try simp only [List.map_toArray, List.map_cons, List.map_nil]); first | done | rfl | (simp only [List.length_drop, List.length_take]; rfl)) ?_; (with_reducible refine (spec_l6At.calls k2 _ _ x8_2 t200 t201 t202 _ ?side1 ?side2 A27.out).mono ?_); (case side1 => repeat (first | exact (Kd.R_reads' p0'.out).2.2 | (with_reducible refine cA ?_ _) | (with_reducible refine cN ?_ _) | (with_reducible refine cD ?_))); (case side2 => exact (Kd.R_reads' p0'.out).2.1); rintro e w58 ⟨rfl, hb⟩; refine ⟨_, rfl, ?_⟩; replace p0' := xK p0'.out hb; replace BK183 := yK BK183.out hb; replace BK184 := yK BK184.out hb; replace BK187 := yK BK187.out hb; replace HB := aM (zT (zH HB.out) hb); (try clear hb)) | ((with_reducible refine gate_callee (f := 30) rfl ?_); refine goesL_ (some 43) rfl rfl Try.func30 (by kernel_rfl) rfl #[.slice Ao57 x8_2.length co57, .int .i64 t202] rfl (by (try simp only [List.map_toArray, List.map_cons, List.map_nil]); first | done | rfl | (simp only [List.length_drop, List.length_take]; rfl)) ?_; (with_reducible refine (spec_l6Without.calls _ _ x8_2 t202 t209 _ ?side1 ?side2 A47.out).mono ?_); (case side1 => repeat (first | exact (Kd.R_reads' p0'.out).2.2 | (with_reducible refine cA ?_ _) | (with_reducible refine cN ?_ _) | (with_reducible refine cD ?_))); (case side2 => exact (Kd.R_reads' p0'.out).2.1); rintro e w59 ⟨v210, rfl, ho0, hb⟩; refine ⟨_, rfl, ?_⟩; have HO211 := aM (xL (Kd.R_newB (Kd.R_new' ho0 (Kd.R_lt (xH p0'.out))) (g := gb187) (o := .cells #[.int .i64 x188000_2, .int .i64 x188001_2] 45 (0, 0)) (yH BK187.out)) (zZ (zH HB.out))); replace p0' := aM (Kd.R_elder' (xH p0'.out) (Kd.R_base ho0) hb); replace BK183 := yK BK183.out hb; replace BK184 := yK BK184.out hb; replace BK187 := yK BK187.out hb; replace HB := aM (zT (zH HB.out) hb); (try clear hb); (try clear ho0); have hcz60_0 : w59.cell? ⟨gb187, 0, none⟩ = some (.int .i64 x188000_2) := yc BK187.out 0; have hcz60_1 : w59.cell? ⟨gb187, 1, none⟩ = some (.int .i64 x188001_2) := yc BK187.out 1; have hfz60_0 := yZ BK187.out 0; have hfz60_1 := yZ BK187.out 1))
              go_roundg k2
              case measure => have := HK1.out; have := HK2.out; omega
              case rel => exact ⟨(t209), (Go.bits .andNot .i64 x188000_2 (ji50)), (wrap64 (x188001_2 + 1)), H', ⟨by have := HK1.out; have := HK2.out; omega⟩, ⟨xH (xM (xF (p := ⟨gb187, 1, none⟩) (xF (p := ⟨gb187, 0, none⟩) (xM HO211.out (fun k_ hk => (⟨hk, hk.2⟩ : _ ∧ k_ ≠ gb187))) (fun _ hk => hk.2) (.int .i64 (Go.bits .andNot .i64 x188000_2 (ji50)))) (fun _ hk => hk.2) (.int .i64 (wrap64 (x188001_2 + 1)))) (fun _ hk => hk.1.2))⟩, ⟨by (with_reducible repeat (first | refine yN ?_ _ | refine yD ?_ | refine yA ?_ _)); refine yF ?_ NB183_187.out _; (with_reducible repeat (first | refine yN ?_ _ | refine yD ?_ | refine yA ?_ _)); refine yF ?_ NB183_187.out _; (with_reducible repeat (first | refine yN ?_ _ | refine yD ?_ | refine yA ?_ _)); exact BK183.out⟩, ⟨by (with_reducible repeat (first | refine yN ?_ _ | refine yD ?_ | refine yA ?_ _)); refine yF ?_ NB184_187.out _; (with_reducible repeat (first | refine yN ?_ _ | refine yD ?_ | refine yA ?_ _)); refine yF ?_ NB184_187.out _; (with_reducible repeat (first | refine yN ?_ _ | refine yD ?_ | refine yA ?_ _)); exact BK184.out⟩, ⟨by (with_reducible repeat (first | refine yN ?_ _ | refine yD ?_ | refine yA ?_ _)); refine yP (cs := #[.int .i64 (Go.bits .andNot .i64 x188000_2 (ji50)), .int .i64 x188001_2]) ?_ 1 _ rfl; (with_reducible repeat (first | refine yN ?_ _ | refine yD ?_ | refine yA ?_ _)); refine yP (cs := #[.int .i64 x188000_2, .int .i64 x188001_2]) ?_ 0 _ rfl; (with_reducible repeat (first | refine yN ?_ _ | refine yD ?_ | refine yA ?_ _)); exact BK187.out⟩, ⟨zH HB.out⟩⟩
             ·rw [if_neg c49] at H
              exact absurd H (by simp)
           ·rw [if_neg c25] at H
            have c25b0 : decide (x188001_2 < a0_0) = false := decide_eq_false c25
            clear c25
            replace H := Option.bind_eq_some_iff.mp H
            obtain ⟨t194, A610, H⟩ := H
            replace H : ((spec_l6Without.f l0_2 x17_1).bind fun t197 => (some (a0_0, t194, t197, true))) = some (r1, r2, r3, r4) := H
            have A61 := aM A610
            clear A610
            replace H := Option.bind_eq_some_iff.mp H
            obtain ⟨t197, A620, H⟩ := H
            replace H : (some (a0_0, t194, t197, true)) = some (r1, r2, r3, r4) := H
            have A62 := aM A620
            clear A620
            simp only [Option.some.injEq, Prod.mk.injEq] at H
            obtain ⟨rfl, rfl, rfl, rfl⟩ := H
            have hnb63 := NB187_183.out
            have hnc63 := NB183_187.out
            have hnb64 := NB187_184.out
            have hnc64 := NB184_187.out
            have hcz65_0 : wr.cell? ⟨gb187, 0, none⟩ = some (.int .i64 x188000_2) := yc BK187.out 0
            have hcz65_1 : wr.cell? ⟨gb187, 1, none⟩ = some (.int .i64 x188001_2) := yc BK187.out 1
            have hfz65_0 := yZ BK187.out 0
            have hfz65_1 := yZ BK187.out 1
            have hnb66 := NB183_184.out
            have hnc66 := NB184_183.out
            have hcz67_0 : wr.cell? ⟨gb183, 0, none⟩ = some (.int .i64 a0_0) := yc BK183.out 0
            have hcz67_1 : wr.cell? ⟨gb183, 1, none⟩ = some (.slice A0_1 l0_1.length c0_1) := yc BK183.out 1
            have hcz67_2 : wr.cell? ⟨gb183, 2, none⟩ = some (.slice (some ad186) l0_2.length c0_2) := yc BK183.out 2
            have hfz67_0 := yZ BK183.out 0
            have hfz67_1 := yZ BK183.out 1
            have hfz67_2 := yZ BK183.out 2
            try go_wp2
            replace p0' := aM (xD p0'.out)
            replace BK183 := aM (yD BK183.out)
            replace BK184 := aM (yD BK184.out)
            replace BK187 := aM (yD BK187.out)
            replace HB := aM (zD HB.out)
            obtain ⟨Ao69, co69, eo69⟩ := Kd.R_slice p0'.out
            (first | subst eo69 | obtain ⟨rfl, rfl⟩ := eI eo69)
            refine start_ (n := 12) (S := fun w' => w'.cell? ⟨gb183, 0, none⟩ = some (.int .i64 a0_0) ∧ w'.cell? ⟨gb183, 1, none⟩ = some (.slice A0_1 l0_1.length c0_1) ∧ w'.cell? ⟨gb183, 2, none⟩ = some (.slice (some ad186) l0_2.length c0_2) ∧ w'.cell? ⟨gb187, 0, none⟩ = some (.int .i64 x188000_2) ∧ w'.cell? ⟨gb187, 1, none⟩ = some (.int .i64 x188001_2)) (ds := []) #[fF,fF,fF,fF,fF,fF,fF,fF,fF,fF,fF,fF] (by kernel_rfl) rfl rfl ⟨yc BK183.out 0, yc BK183.out 1, yc BK183.out 2, yc BK187.out 0, yc BK187.out 1⟩ (fun hHeld => ?_); refine with_tabW spec_GiveBlock.tab13 spec_GiveBlock.bits13 (fun HT_ HW_ => ?_)
            generalize wr.drew = w68 at p0' BK183 BK184 BK187 HB hHeld ⊢
            refine pure_ (i := 0) (N := some 55) (v := ?_) (a' := ?_) #[tT,fF,fF,fF,fF,fF,fF,fF,fF,fF,fF,fF] rfl rfl (any_of HT_.out (by kernel_rfl)) (fun _ _ _ h => h) (Or.inl ⟨by rfl, ?_⟩) ?_ ?_
            rotate_left
            ·intro w'
             go_simp
             with_reducible rfl
            rotate_left
            ·simp only [Act.put, qA, qB, qC, i64_w, i32_w]
             rfl
            refine pure_ (i := 2) (N := some 57) (v := ?_) (a' := ?_) #[tT,fF,tT,fF,fF,fF,fF,fF,fF,fF,fF,fF] rfl rfl (any_of HT_.out (by kernel_rfl)) (fun _ _ _ h => h) (Or.inl ⟨by rfl, ?_⟩) ?_ ?_
            rotate_left
            ·intro w'
             go_simp
             with_reducible rfl
            rotate_left
            ·simp only [Act.put, qA, qB, qC, i64_w, i32_w]
             rfl
            refine pure_ (i := 5) (N := some 60) (v := ?_) (a' := ?_) #[tT,fF,tT,fF,fF,tT,fF,fF,fF,fF,fF,fF] rfl rfl (any_of HT_.out (by kernel_rfl)) (fun _ _ _ h => h) (Or.inl ⟨by rfl, ?_⟩) ?_ ?_
            rotate_left
            ·intro w'
             go_simp
             with_reducible rfl
            rotate_left
            ·simp only [Act.put, qA, qB, qC, i64_w, i32_w]
             rfl
            refine pure_ (i := 7) (N := some 62) (v := ?_) (a' := ?_) #[tT,fF,tT,fF,fF,tT,fF,tT,fF,fF,fF,fF] rfl rfl (any_of HT_.out (by kernel_rfl)) (fun _ _ _ h => h) (Or.inl ⟨by rfl, ?_⟩) ?_ ?_
            rotate_left
            ·intro w'
             go_simp
             with_reducible rfl
            rotate_left
            ·simp only [Act.put, qA, qB, qC, i64_w, i32_w]
             rfl
            refine take_ (i := 1) (N := some 56) (v := ?_) (a' := ?_) #[tT,tT,tT,fF,fF,tT,fF,tT,fF,fF,fF,fF] rfl rfl (take_ofW HT_.out HW_.out (by kernel_rfl)) (fun _ _ _ h => h) (Or.inl ⟨by rfl, ?_⟩) hHeld ?_ ?_
            rotate_left
            ·rintro w' ⟨s0, s1, s2, s3, s4⟩
             go_simp
             with_reducible rfl
            rotate_left
            ·simp only [Act.put, qA, qB, qC, i64_w, i32_w]
             rfl
            refine take_ (i := 3) (N := some 58) (v := ?_) (a' := ?_) #[tT,tT,tT,tT,fF,tT,fF,tT,fF,fF,fF,fF] rfl rfl (take_ofW HT_.out HW_.out (by kernel_rfl)) (fun _ _ _ h => h) (Or.inl ⟨by rfl, ?_⟩) hHeld ?_ ?_
            rotate_left
            ·rintro w' ⟨s0, s1, s2, s3, s4⟩
             go_simp
             with_reducible rfl
            rotate_left
            ·simp only [Act.put, qA, qB, qC, i64_w, i32_w]
             rfl
            refine take_ (i := 6) (N := some 61) (v := ?_) (a' := ?_) #[tT,tT,tT,tT,fF,tT,tT,tT,fF,fF,fF,fF] rfl rfl (take_ofW HT_.out HW_.out (by kernel_rfl)) (fun _ _ _ h => h) (Or.inl ⟨by rfl, ?_⟩) hHeld ?_ ?_
            rotate_left
            ·rintro w' ⟨s0, s1, s2, s3, s4⟩
             go_simp
             with_reducible rfl
            rotate_left
            ·simp only [Act.put, qA, qB, qC, i64_w, i32_w]
             rfl
            refine one_ (i := 4) (N := some 59) #[tT,tT,tT,tT,tT,tT,tT,tT,fF,fF,fF,fF] rfl rfl (one_of HT_.out (by kernel_rfl)) (by decide) (fun K hK => ?_)
            refine gS Try.func31 (by kernel_rfl) rfl #[.slice Ao69 x8_2.length co69, .agg #[.int .i64 x188000_2, .int .i64 x188001_2]] (by rfl) rfl rfl ?_
            with_reducible refine (spec_l6Put.calls k2 _ _ x8_2 x188000_2 x188001_2 t194 _ ?side1 ?side2 A61.out).mono ?_
            (case side1 => repeat (first | exact (Kd.R_reads' p0'.out).2.2 | (with_reducible refine cA ?_ _) | (with_reducible refine cN ?_ _) | (with_reducible refine cD ?_)))
            (case side2 => exact (Kd.R_reads' p0'.out).2.1)
            rintro e w70 ⟨v195, rfl, ho0, hb⟩
            refine ⟨_, rfl, ?_⟩
            have HO196 := aM (xL (Kd.R_newB (Kd.R_new' ho0 (Kd.R_lt (xH p0'.out))) (g := gb187) (o := .cells #[.int .i64 x188000_2, .int .i64 x188001_2] 45 (0, 0)) (yH BK187.out)) (zZ (zH HB.out)))
            replace p0' := aM (Kd.R_elder' (xH p0'.out) (Kd.R_base ho0) hb)
            replace BK183 := yK BK183.out hb
            replace BK184 := yK BK184.out hb
            replace BK187 := yK BK187.out hb
            replace HB := aM (zT (zH HB.out) hb)
            (try clear hb); (try clear ho0)
            refine hK.out _ _ ⟨yc BK183.out 0, yc BK183.out 1, yc BK183.out 2, yc BK187.out 0, yc BK187.out 1⟩ (fun hHeld => ?_)
            clear hK K
            refine norm_ (a' := ?_) ?_ ?_
            rotate_left
            ·show Act.put _ (some 59) _ = _
             simp only [Act.put, qA, qB, qC, i64_w, i32_w]
             rfl
            refine one_ (i := 8) (N := some 63) #[tT,tT,tT,tT,tT,tT,tT,tT,tT,fF,fF,fF] rfl rfl (one_of HT_.out (by kernel_rfl)) (by decide) (fun K hK => ?_)
            refine gS Try.func30 (by kernel_rfl) rfl #[.slice (some ad186) l0_2.length c0_2, .int .i64 x17_1] (by rfl) rfl rfl ?_
            with_reducible refine (spec_l6Without.calls _ _ l0_2 x17_1 t197 _ ?side1 ?side2 A62.out).mono ?_
            (case side1 => exact cK HR0_2.out HB.out)
            (case side2 => exact HC0_2.out)
            rintro e w71 ⟨v198, rfl, ho0, hb⟩
            refine ⟨_, rfl, ?_⟩
            have HO199 := aM (xL (Kd.R_newB (Kd.R_new' (Kd.R_new' ho0 (Kd.R_lt (xH p0'.out))) (Kd.R_lt (xH HO196.out))) (g := gb187) (o := .cells #[.int .i64 x188000_2, .int .i64 x188001_2] 45 (0, 0)) (yH BK187.out)) (zZ (zH HB.out)))
            replace p0' := aM (Kd.R_elder' (xH p0'.out) (Kd.R_base ho0) hb)
            replace HO196 := aM (Kd.R_elder' (xH HO196.out) (Kd.R_base ho0) hb)
            replace BK183 := yK BK183.out hb
            replace BK184 := yK BK184.out hb
            replace BK187 := yK BK187.out hb
            replace HB := aM (zT (zH HB.out) hb)
            (try clear hb); (try clear ho0)
            obtain ⟨Ao72, co72, eo72⟩ := Kd.R_slice HO199.out
            (first | subst eo72 | obtain ⟨rfl, rfl⟩ := eI eo72)
            obtain ⟨Ao73, co73, eo73⟩ := Kd.R_slice HO196.out
            (first | subst eo73 | obtain ⟨rfl, rfl⟩ := eI eo73)
            refine hK.out _ _ ⟨yc BK183.out 0, yc BK183.out 1, yc BK183.out 2, yc BK187.out 0, yc BK187.out 1⟩ (fun hHeld => ?_)
            clear hK K
            refine norm_ (a' := ?_) ?_ ?_
            rotate_left
            ·show Act.put _ (some 63) _ = _
             simp only [Act.put, qA, qB, qC, i64_w, i32_w]
             rfl
            refine pure_ (i := 9) (N := some 64) (v := ?_) (a' := ?_) #[tT,tT,tT,tT,tT,tT,tT,tT,tT,tT,fF,fF] rfl rfl (any_of HT_.out (by kernel_rfl)) (fun _ _ _ h => h) (Or.inl ⟨by rfl, ?_⟩) ?_ ?_
            rotate_left
            ·intro w'
             go_simp
             with_reducible rfl
            rotate_left
            ·simp only [Act.put, qA, qB, qC, i64_w, i32_w]
             rfl
            refine one_ (i := 10) (N := none) #[tT,tT,tT,tT,tT,tT,tT,tT,tT,tT,tT,fF] rfl rfl (one_of HT_.out (by kernel_rfl)) (by decide) (fun K hK => ?_)
            have hs74 : w71.cell? ⟨gb184, 0, none⟩ = some (.int .i64 x185000_1) := yc BK184.out 0
            have hfs74 := yZ BK184.out 0
            have hns74_0 := NB183_184.out
            have hns74_2 := NB187_184.out
            have hms74_0 := NB184_183.out
            have hms74_2 := NB184_187.out
            have hs75 : w71.cell? ⟨gb184, 1, none⟩ = some (.slice none 0 0) := yc BK184.out 1
            have hfs75 := yZ BK184.out 1
            have hns75_0 := NB183_184.out
            have hns75_2 := NB187_184.out
            have hms75_0 := NB184_183.out
            have hms75_2 := NB184_187.out
            have hs76 : w71.cell? ⟨gb184, 2, none⟩ = some (.slice none 0 0) := yc BK184.out 2
            have hfs76 := yZ BK184.out 2
            have hns76_0 := NB183_184.out
            have hns76_2 := NB187_184.out
            have hms76_0 := NB184_183.out
            have hms76_2 := NB184_187.out
            refine skip_ (w1 := ?_) (by rfl) rfl ?_ ?_
            rotate_left
            ·go_simp
             rfl
            refine hK.out _ _ ⟨((cell_far (p := ⟨gb184, _, none⟩) NB183_184.out _).trans (((cell_far (p := ⟨gb184, _, none⟩) NB183_184.out _).trans (((cell_far (p := ⟨gb184, _, none⟩) NB183_184.out _).trans (hHeld.1)))))), ((cell_far (p := ⟨gb184, _, none⟩) NB183_184.out _).trans (((cell_far (p := ⟨gb184, _, none⟩) NB183_184.out _).trans (((cell_far (p := ⟨gb184, _, none⟩) NB183_184.out _).trans (hHeld.2.1)))))), ((cell_far (p := ⟨gb184, _, none⟩) NB183_184.out _).trans (((cell_far (p := ⟨gb184, _, none⟩) NB183_184.out _).trans (((cell_far (p := ⟨gb184, _, none⟩) NB183_184.out _).trans (hHeld.2.2.1)))))), ((cell_far (p := ⟨gb184, _, none⟩) NB187_184.out _).trans (((cell_far (p := ⟨gb184, _, none⟩) NB187_184.out _).trans (((cell_far (p := ⟨gb184, _, none⟩) NB187_184.out _).trans (hHeld.2.2.2.1)))))), ((cell_far (p := ⟨gb184, _, none⟩) NB187_184.out _).trans (((cell_far (p := ⟨gb184, _, none⟩) NB187_184.out _).trans (((cell_far (p := ⟨gb184, _, none⟩) NB187_184.out _).trans (hHeld.2.2.2.2))))))⟩ (fun hHeld => ?_)
            clear hK K
            refine pure_ (i := 11) (N := some 5) (v := ?_) (a' := ?_) #[tT,tT,tT,tT,tT,tT,tT,tT,tT,tT,tT,tT] rfl rfl (any_of HT_.out (by kernel_rfl)) (fun _ _ _ h => h) (Or.inl ⟨by rfl, ?_⟩) ?_ ?_
            rotate_left
            ·intro w'
             go_simp
             with_reducible rfl
            rotate_left
            ·simp only [Act.put, qA, qB, qC, i64_w, i32_w]
             rfl
            refine done_ (done_of HT_.out (by kernel_rfl)) ?_
            try go_wp2
            refine bodyPost_ret (results_ct rfl _ _ gb184 28 #[.int .i64 a0_0, .slice Ao73 t194.length co73, .slice Ao72 t197.length co72] (0, 0) _ rfl (by (with_reducible repeat (first | refine yN ?_ _ | refine yD ?_ | refine yA ?_ _)); refine yP (cs := #[.int .i64 a0_0, .slice Ao73 t194.length co73, .slice none 0 0]) ?_ 2 _ rfl; (with_reducible repeat (first | refine yN ?_ _ | refine yD ?_ | refine yA ?_ _)); refine yP (cs := #[.int .i64 a0_0, .slice none 0 0, .slice none 0 0]) ?_ 1 _ rfl; (with_reducible repeat (first | refine yN ?_ _ | refine yD ?_ | refine yA ?_ _)); refine yP (cs := #[.int .i64 x185000_1, .slice none 0 0, .slice none 0 0]) ?_ 0 _ rfl; (with_reducible repeat (first | refine yN ?_ _ | refine yD ?_ | refine yA ?_ _)); exact BK184.out) Try.underlying28 rfl (by kernel_rfl)) rfl ?_
            exact ⟨_, _, by first | rfl | (simp [errW_none, errW_some] <;> rfl) | (simp [*, errW_none, errW_some] <;> rfl), xH (xM (xF (p := ⟨gb184, 2, none⟩) (xF (p := ⟨gb184, 1, none⟩) (xF (p := ⟨gb184, 0, none⟩) (xT HO196.out BK184.out (by decide)) (fun _ hk => hk.2) (.int .i64 a0_0)) (fun _ hk => hk.2) (.slice Ao73 t194.length co73)) (fun _ hk => hk.2) (.slice Ao72 t197.length co72)) (fun _ hk => hk.1.2)), xH (xM (xF (p := ⟨gb184, 2, none⟩) (xF (p := ⟨gb184, 1, none⟩) (xF (p := ⟨gb184, 0, none⟩) (xT HO199.out BK184.out (by decide)) (fun _ hk => hk.2) (.int .i64 a0_0)) (fun _ hk => hk.2) (.slice Ao73 t194.length co73)) (fun _ hk => hk.2) (.slice Ao72 t197.length co72)) (fun _ hk => hk.1.1.2)), zH HB.out⟩
        ·rw [if_neg c15] at H
         exact absurd H (by simp)
       ·rw [if_neg c14] at H
        have c14b0 : (((rd_T45 l0_2 x17_1).f0) == a1) = false := beq_eq_false_iff_ne.mpr c14
        have c14b1 : (((rd_T45 l0_2 x17_1).f0) != a1) = true := bne_iff_ne.mpr c14
        have H' := aM H
        clear H
        have p186 : 0 ≤ (x17_1 : Int) := of_decide_eq_true (by first | (with_reducible assumption) | assumption)
        have q186 : x17_1 < (l0_2.length : Int) := of_decide_eq_true (by first | (with_reducible assumption) | assumption)
        obtain ⟨ad186, e186, hx186_0, hx186_1⟩ := at_T45 HR0_2.out x17_1 p186 q186
        cases e186
        replace hx186_0 := (HB.out.cell (World.block_lt_of_cell? w _ hx186_0)).trans hx186_0
        replace hx186_1 := (HB.out.cell (World.block_lt_of_cell? w _ hx186_1)).trans hx186_1
        replace p186 := eq_true p186
        replace q186 := eq_true q186
        go_wp2_with (first | ((with_reducible refine gate_dst (N := 7) rfl ?_); refine box_event ?hg (N := 7) ?hd (cs := #[.int .i64 0, .int .i64 0]) (t := 45) ?hr ?_; (case hd => rfl); (case hg => rfl); (case hr => first | (go_simp; done) | (go_simp; rfl)); intro gb187 hg w77 hbox hb; have BK187 := aM (hbox); have GW187 := aM ((by rw [hg]; exact (zZ (zH HB.out)) : w.heap.size ≤ gb187)); have GE187 := aM ((by rw [hg]; exact (zZ (zH HB.out)) : w.heap.size ≤ gb187)); replace HB := aM (zT (zH HB.out) hb); have NB183_187 := nL BK183.out hg; have NB187_183 := nR BK183.out hg; replace BK183 := yK BK183.out hb; have NB184_187 := nL BK184.out hg; have NB187_184 := nR BK184.out hg; replace BK184 := yK BK184.out hb; clear hb hbox hg; have hnb78 := NB187_183.out; have hnc78 := NB183_187.out; have hnb79 := NB187_184.out; have hnc79 := NB184_187.out; have hcz80_0 : w77.cell? ⟨gb187, 0, none⟩ = some (.int .i64 0) := yc BK187.out 0; have hcz80_1 : w77.cell? ⟨gb187, 1, none⟩ = some (.int .i64 0) := yc BK187.out 1; have hfz80_0 := yZ BK187.out 0; have hfz80_1 := yZ BK187.out 1))
        go_roundg k1
        case measure => have := HK1.out; omega
        case rel => exact ⟨(wrap64 (x17_1 + 1)), (x185000_1), (by first | rfl | (simp; done) | (simp [*]; done)), H', ⟨by have := HK1.out; omega⟩, ⟨by (with_reducible repeat (first | refine yN ?_ _ | refine yD ?_ | refine yA ?_ _)); refine yF ?_ NB183_187.out _; (with_reducible repeat (first | refine yN ?_ _ | refine yD ?_ | refine yA ?_ _)); refine yF ?_ NB183_187.out _; (with_reducible repeat (first | refine yN ?_ _ | refine yD ?_ | refine yA ?_ _)); exact BK183.out⟩, ⟨by (with_reducible repeat (first | refine yN ?_ _ | refine yD ?_ | refine yA ?_ _)); refine yF ?_ NB184_187.out _; (with_reducible repeat (first | refine yN ?_ _ | refine yD ?_ | refine yA ?_ _)); refine yF ?_ NB184_187.out _; (with_reducible repeat (first | refine yN ?_ _ | refine yD ?_ | refine yA ?_ _)); exact BK184.out⟩, ⟨zH HB.out⟩⟩
      ·rw [if_neg c13] at H
       exact absurd H (by simp)
     ·rw [if_neg c12] at H
      exact absurd H (by simp)
    ·rw [if_neg c11] at H
     have c11b0 : decide (x17_1 < (l0_2.length : Int)) = false := decide_eq_false c11
     clear c11
     simp only [Option.some.injEq, Prod.mk.injEq] at H
     obtain ⟨rfl, rfl, rfl, rfl⟩ := H
     have hnb81 := NB184_183.out
     have hnc81 := NB183_184.out
     have hcz82_0 : wr.cell? ⟨gb184, 0, none⟩ = some (.int .i64 x185000_1) := yc BK184.out 0
     have hcz82_1 : wr.cell? ⟨gb184, 1, none⟩ = some (.slice none 0 0) := yc BK184.out 1
     have hcz82_2 : wr.cell? ⟨gb184, 2, none⟩ = some (.slice none 0 0) := yc BK184.out 2
     have hfz82_0 := yZ BK184.out 0
     have hfz82_1 := yZ BK184.out 1
     have hfz82_2 := yZ BK184.out 2
     go_wp2
     refine bodyPost_ret (results_ct rfl _ _ gb184 28 #[.int .i64 0, .slice none 0 0, .slice none 0 0] (0, 0) _ rfl (by (with_reducible repeat (first | refine yN ?_ _ | refine yD ?_ | refine yA ?_ _)); refine yP (cs := #[.int .i64 0, .slice none 0 0, .slice none 0 0]) ?_ 2 _ rfl; (with_reducible repeat (first | refine yN ?_ _ | refine yD ?_ | refine yA ?_ _)); refine yP (cs := #[.int .i64 0, .slice none 0 0, .slice none 0 0]) ?_ 1 _ rfl; (with_reducible repeat (first | refine yN ?_ _ | refine yD ?_ | refine yA ?_ _)); refine yP (cs := #[.int .i64 x185000_1, .slice none 0 0, .slice none 0 0]) ?_ 0 _ rfl; (with_reducible repeat (first | refine yN ?_ _ | refine yD ?_ | refine yA ?_ _)); exact BK184.out) Try.underlying28 rfl (by kernel_rfl)) rfl ?_
     exact ⟨_, _, by first | rfl | (simp [errW_none, errW_some] <;> rfl) | (simp [*, errW_none, errW_some] <;> rfl), by first | exact Kd.R_nil _ _ _ _ _ | exact Kd.N_nil _ _ _ _ _ | exact Kd.V_nil _ _ _ _ _ | exact Kd.Q_nil _ _ _ _ _ | exact Kd.S_nil _ _ _ _ _, by first | exact Kd.R_nil _ _ _ _ _ | exact Kd.N_nil _ _ _ _ _ | exact Kd.V_nil _ _ _ _ _ | exact Kd.Q_nil _ _ _ _ _ | exact Kd.S_nil _ _ _ _ _, zH HB.out⟩
 ·replace c4 := Bool.eq_false_iff.mpr c4
  subst c4
  have H1 : (some (0, ([] : List (S45)), ([] : List (S45)), false)) = some (r1, r2, r3, r4) := by rw [if_neg (show ¬ (false = true) by decide)] at H; exact H
  clear H
  have H := H1
  clear H1
  simp only [Option.some.injEq, Prod.mk.injEq] at H
  obtain ⟨rfl, rfl, rfl, rfl⟩ := H
  go_enter Try.func9, Try.ntmps9
  go_wp2_with (first | ((with_reducible refine gate_dst (N := 2) rfl ?_); refine box_event ?hg (N := 2) ?hd (cs := #[.int .i64 a0_0, .slice A0_1 l0_1.length c0_1, .slice A0_2 l0_2.length c0_2]) (t := 28) ?hr ?_; (case hd => rfl); (case hg => rfl); (case hr => first | (go_simp; done) | (go_simp; rfl)); intro gb183 hg w83 hbox hb; have BK183 := aM (hbox); have GW183 := aM ((by rw [hg]; exact (zZ (zH HB.out)) : w.heap.size ≤ gb183)); have GE183 := aM ((by rw [hg]; exact (zZ (zH HB.out)) : w.heap.size ≤ gb183)); replace HB := aM (zT (zH HB.out) hb); clear hb hbox hg) | ((with_reducible refine gate_dst (N := 4) rfl ?_); refine box_event ?hg (N := 4) ?hd (cs := #[.int .i64 0, .slice none 0 0, .slice none 0 0]) (t := 28) ?hr ?_; (case hd => rfl); (case hg => rfl); (case hr => first | (go_simp; done) | (go_simp; rfl)); intro gb184 hg w84 hbox hb; have BK184 := aM (hbox); have GW184 := aM ((by rw [hg]; exact (zZ (zH HB.out)) : w.heap.size ≤ gb184)); have GE184 := aM ((by rw [hg]; exact (zZ (zH HB.out)) : w.heap.size ≤ gb184)); replace HB := aM (zT (zH HB.out) hb); have NB183_184 := nL BK183.out hg; have NB184_183 := nR BK183.out hg; replace BK183 := yK BK183.out hb; clear hb hbox hg; have hnb85 := NB183_184.out; have hnc85 := NB184_183.out; have hcz86_0 : w84.cell? ⟨gb183, 0, none⟩ = some (.int .i64 a0_0) := yc BK183.out 0; have hcz86_1 : w84.cell? ⟨gb183, 1, none⟩ = some (.slice A0_1 l0_1.length c0_1) := yc BK183.out 1; have hcz86_2 : w84.cell? ⟨gb183, 2, none⟩ = some (.slice A0_2 l0_2.length c0_2) := yc BK183.out 2; have hfz86_0 := yZ BK183.out 0; have hfz86_1 := yZ BK183.out 1; have hfz86_2 := yZ BK183.out 2) | ((with_reducible refine gate_callee (f := 20) rfl ?_); refine goesL_ (some 11) rfl rfl Try.func20 (by kernel_rfl) rfl #[.agg #[.int .i64 a0_0, .slice A0_1 l0_1.length c0_1, .slice A0_2 l0_2.length c0_2]] rfl (by (try simp only [List.map_toArray, List.map_cons, List.map_nil]); first | done | rfl | (simp only [List.length_drop, List.length_take]; rfl)) ?_; (with_reducible refine (spec_GoodBuddy.calls k a0_0 _ _ l0_1 _ _ l0_2 false _ ?side1 ?side2 ?side3 ?side4 A3.out).mono ?_); (case side1 => exact cK HR0_1.out HB.out); (case side2 => exact HC0_1.out); (case side3 => exact cK HR0_2.out HB.out); (case side4 => exact HC0_2.out); rintro e w87 ⟨rfl, hb⟩; refine ⟨_, rfl, ?_⟩; replace BK183 := yK BK183.out hb; replace BK184 := yK BK184.out hb; replace HB := aM (zT (zH HB.out) hb); (try clear hb); have hcz88_0 : w87.cell? ⟨gb184, 0, none⟩ = some (.int .i64 0) := yc BK184.out 0; have hcz88_1 : w87.cell? ⟨gb184, 1, none⟩ = some (.slice none 0 0) := yc BK184.out 1; have hcz88_2 : w87.cell? ⟨gb184, 2, none⟩ = some (.slice none 0 0) := yc BK184.out 2; have hfz88_0 := yZ BK184.out 0; have hfz88_1 := yZ BK184.out 1; have hfz88_2 := yZ BK184.out 2))
  refine bodyPost_ret (results_ct rfl _ _ gb184 28 #[.int .i64 0, .slice none 0 0, .slice none 0 0] (0, 0) _ rfl (by (with_reducible repeat (first | refine yN ?_ _ | refine yD ?_ | refine yA ?_ _)); refine yP (cs := #[.int .i64 0, .slice none 0 0, .slice none 0 0]) ?_ 2 _ rfl; (with_reducible repeat (first | refine yN ?_ _ | refine yD ?_ | refine yA ?_ _)); refine yP (cs := #[.int .i64 0, .slice none 0 0, .slice none 0 0]) ?_ 1 _ rfl; (with_reducible repeat (first | refine yN ?_ _ | refine yD ?_ | refine yA ?_ _)); refine yP (cs := #[.int .i64 0, .slice none 0 0, .slice none 0 0]) ?_ 0 _ rfl; (with_reducible repeat (first | refine yN ?_ _ | refine yD ?_ | refine yA ?_ _)); exact BK184.out) Try.underlying28 rfl (by kernel_rfl)) rfl ?_
  exact ⟨_, _, by first | rfl | (simp [errW_none, errW_some] <;> rfl) | (simp [*, errW_none, errW_some] <;> rfl), by first | exact Kd.R_nil _ _ _ _ _ | exact Kd.N_nil _ _ _ _ _ | exact Kd.V_nil _ _ _ _ _ | exact Kd.Q_nil _ _ _ _ _ | exact Kd.S_nil _ _ _ _ _, by first | exact Kd.R_nil _ _ _ _ _ | exact Kd.N_nil _ _ _ _ _ | exact Kd.V_nil _ _ _ _ _ | exact Kd.Q_nil _ _ _ _ _ | exact Kd.S_nil _ _ _ _ _, zH HB.out⟩

/-! ### laws_toBlock: function 58 -/
def laws_toBlock.f (a0_0 : Int) (a0_1 : Int) : Option (Int × Int) := some (a0_0, a0_1)
set_option maxHeartbeats 8000000 in
set_option maxRecDepth 100000 in
theorem laws_toBlock.calls (a0_0 : Int) (a0_1 : Int) (r1 : Int) (r2 : Int) (w : World) (h : laws_toBlock.f a0_0 a0_1 = some (r1, r2)) :
  Calls Try.prog 58 #[.agg #[.int .i64 a0_0, .int .i64 a0_1]] w fun e w' => e = .returned (.agg #[.int .i64 r1, .int .i64 r2]) ∧ Below w.heap.size w w' := by
 have hu80 := Try.underlying80
 have hu45 := Try.underlying45
 have HB := aM (Below.refl w.heap.size w)
 have H : (some (a0_0, a0_1)) = some (r1, r2) := h
 clear h
 simp only [Option.some.injEq, Prod.mk.injEq] at H
 obtain ⟨rfl, rfl⟩ := H
 go_enter Try.func58, Try.ntmps58
 go_wp2_with (first | ((with_reducible refine gate_dst (N := 1) rfl ?_); refine box_event ?hg (N := 1) ?hd (cs := #[.int .i64 a0_0, .int .i64 a0_1]) (t := 80) ?hr ?_; (case hd => rfl); (case hg => rfl); (case hr => first | (go_simp; done) | (go_simp; rfl)); intro gb212 hg w2 hbox hb; have BK212 := aM (hbox); have GW212 := aM ((by rw [hg]; exact (zZ (zH HB.out)) : w.heap.size ≤ gb212)); have GE212 := aM ((by rw [hg]; exact (zZ (zH HB.out)) : w.heap.size ≤ gb212)); replace HB := aM (zT (zH HB.out) hb); clear hb hbox hg) | ((with_reducible refine gate_dst (N := 2) rfl ?_); refine box_event ?hg (N := 2) ?hd (cs := #[.int .i64 0, .int .i64 0]) (t := 45) ?hr ?_; (case hd => rfl); (case hg => rfl); (case hr => first | (go_simp; done) | (go_simp; rfl)); intro gb213 hg w3 hbox hb; have BK213 := aM (hbox); have GW213 := aM ((by rw [hg]; exact (zZ (zH HB.out)) : w.heap.size ≤ gb213)); have GE213 := aM ((by rw [hg]; exact (zZ (zH HB.out)) : w.heap.size ≤ gb213)); replace HB := aM (zT (zH HB.out) hb); have NB212_213 := nL BK212.out hg; have NB213_212 := nR BK212.out hg; replace BK212 := yK BK212.out hb; clear hb hbox hg) | ((with_reducible refine gate_dst (N := 3) rfl ?_); refine box_event ?hg (N := 3) ?hd (cs := #[.int .i64 0, .int .i64 0]) (t := 45) ?hr ?_; (case hd => rfl); (case hg => rfl); (case hr => first | (go_simp; done) | (go_simp; rfl)); intro gb214 hg w4 hbox hb; have BK214 := aM (hbox); have GW214 := aM ((by rw [hg]; exact (zZ (zH HB.out)) : w.heap.size ≤ gb214)); have GE214 := aM ((by rw [hg]; exact (zZ (zH HB.out)) : w.heap.size ≤ gb214)); replace HB := aM (zT (zH HB.out) hb); have NB212_214 := nL BK212.out hg; have NB214_212 := nR BK212.out hg; replace BK212 := yK BK212.out hb; have NB213_214 := nL BK213.out hg; have NB214_213 := nR BK213.out hg; replace BK213 := yK BK213.out hb; clear hb hbox hg; have hnb5 := NB212_213.out; have hnc5 := NB213_212.out; have hnb6 := NB212_214.out; have hnc6 := NB214_212.out; have hcz7_0 : w4.cell? ⟨gb212, 0, none⟩ = some (.int .i64 a0_0) := yc BK212.out 0; have hcz7_1 : w4.cell? ⟨gb212, 1, none⟩ = some (.int .i64 a0_1) := yc BK212.out 1; have hfz7_0 := yZ BK212.out 0; have hfz7_1 := yZ BK212.out 1; have hnb8 := NB214_213.out; have hnc8 := NB213_214.out; have hcz9_0 : w4.cell? ⟨gb214, 0, none⟩ = some (.int .i64 0) := yc BK214.out 0; have hcz9_1 : w4.cell? ⟨gb214, 1, none⟩ = some (.int .i64 0) := yc BK214.out 1; have hfz9_0 := yZ BK214.out 0; have hfz9_1 := yZ BK214.out 1; have hcz10_0 : w4.cell? ⟨gb213, 0, none⟩ = some (.int .i64 0) := yc BK213.out 0; have hcz10_1 : w4.cell? ⟨gb213, 1, none⟩ = some (.int .i64 0) := yc BK213.out 1; have hfz10_0 := yZ BK213.out 0; have hfz10_1 := yZ BK213.out 1))
 refine bodyPost_ret (results_cell_row rfl _ _ gb213 45 #[.int .i64 a0_0, .int .i64 a0_1] (0, 0) _ rfl (by (with_reducible repeat (first | refine yN ?_ _ | refine yD ?_ | refine yA ?_ _)); refine yP (cs := #[.int .i64 a0_0, .int .i64 0]) ?_ 1 _ rfl; (with_reducible repeat (first | refine yN ?_ _ | refine yD ?_ | refine yA ?_ _)); refine yP (cs := #[.int .i64 0, .int .i64 0]) ?_ 0 _ rfl; (with_reducible repeat (first | refine yN ?_ _ | refine yD ?_ | refine yA ?_ _)); refine yF ?_ NB213_214.out _; (with_reducible repeat (first | refine yN ?_ _ | refine yD ?_ | refine yA ?_ _)); refine yF ?_ NB213_214.out _; (with_reducible repeat (first | refine yN ?_ _ | refine yD ?_ | refine yA ?_ _)); exact BK213.out) Try.underlying45 rfl (by kernel_rfl)) rfl ?_
 exact ⟨by first | rfl | (simp [errW_none, errW_some] <;> rfl) | (simp [*, errW_none, errW_some] <;> rfl), zH HB.out⟩

end Go.Proofs.Ytbjcioihomeikaa.PFnExactGiveBlock
