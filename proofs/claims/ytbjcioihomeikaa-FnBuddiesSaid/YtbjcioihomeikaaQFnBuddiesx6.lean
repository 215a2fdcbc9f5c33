/- The walks of FnBuddies: Go's calls come to what the Lean functions beside them say; no condition. -/
import Derived.Test.YtbjcioihomeikaaQFnBuddiesx0
import Derived.Test.YtbjcioihomeikaaQFnBuddiesx2
import Derived.Test.YtbjcioihomeikaaQFnBuddiesx4
import Derived.Test.YtbjcioihomeikaaQFnBuddiesx5
namespace Go.Proofs.Ytbjcioihomeikaa.PFnBuddies
open Go.RowKit Go.Proofs.YtbjcioihomeikaaW.PrintWords Go.Proofs.YtbjcioihomeikaaW.PrintLast Go.Proofs.YtbjcioihomeikaaW.PrintMore
attribute [local go_sem] max2_int min2_int max_two min_two max_three min_three max_four min_four   -- for this text's walks alone
set_option linter.unusedVariables false
set_option linter.unusedSimpArgs false
set_option maxRecDepth 100000

/-! ### spec_GiveBlock: function 9 -/
mutual
def spec_GiveBlock.l0 : Nat → Int → List (S45) → Int → Int → Int → List (S45) → List (S45) → Option (Int × (List (S45)) × (List (S45)) × Bool)
 | 0, _, _, _, _, _, _, _ => none
 | k + 1, x1, x15, x16, x17, x181000, x181001, x181002 => if x17 < x16 then (if 0 ≤ x17 then (if x17 < (x15.length : Int) then (if ((rd_T45 x15 x17).f0) = x1 then ((some (([] : List (S45)) : List (S45))).bind fun y185 => (if y185.length + x181001.length < 8796093022208 then (spec_GiveBlock.l1 k x17 (y185 ++ x181001) x181000 x181001 x181002 ((rd_T45 x15 x17).f0) ((rd_T45 x15 x17).f1)) else (none))) else (spec_GiveBlock.l0 k x1 x15 x16 (wrap64 (x17 + 1)) x181000 x181001 x181002)) else (none)) else (none)) else (some (0, ([] : List (S45)), ([] : List (S45)), false))
def spec_GiveBlock.l1 : Nat → Int → List (S45) → Int → List (S45) → List (S45) → Int → Int → Option (Int × (List (S45)) × (List (S45)) × Bool)
 | 0, _, _, _, _, _, _, _ => none
 | k + 1, x6, x8, x181000, x181001, x181002, x185000, x185001 => if x185001 < x181000 then ((spec_l6Buddy.f x185000 x185001).bind fun bt197 => ((spec_l6At.f k x8 bt197.1 bt197.2).bind fun t199 => (if t199 < 0 then ((spec_l6Put.f k x8 x185000 x185001).bind fun t200 => ((spec_l6Without.f x181002 x6).bind fun t203 => (some (x181000, t200, t203, true)))) else ((spec_l6Without.f x8 t199).bind fun t206 => (if 0 ≤ (IntKind.u64.wrap (x185001)) then (spec_GiveBlock.l1 k x6 t206 x181000 x181001 x181002 (Go.bits .andNot .i64 x185000 (shl .i64 1 (IntKind.u64.wrap (x185001)))) (wrap64 (x185001 + 1))) else (none)))))) else ((spec_l6Put.f k x8 x185000 x185001).bind fun t191 => ((spec_l6Without.f x181002 x6).bind fun t194 => (some (x181000, t191, t194, true))))
end
def spec_GiveBlock.f (k : Nat) (a0_0 : Int) (l0_1 : List (S45)) (l0_2 : List (S45)) (a1 : Int) : Option (Int × (List (S45)) × (List (S45)) × Bool) := (spec_GoodBuddy.f k a0_0 l0_1 l0_2).bind fun t182 => (if t182 = true then (spec_GiveBlock.l0 k a1 l0_2 (l0_2.length : Int) 0 a0_0 l0_1 l0_2) else (some (0, ([] : List (S45)), ([] : List (S45)), false)))
theorem spec_GiveBlock.mono_l : ∀ k, (∀ y0 y1 y2 y3 y4 y5 y6, LeO (spec_GiveBlock.l0 k y0 y1 y2 y3 y4 y5 y6) (spec_GiveBlock.l0 (k + 1) y0 y1 y2 y3 y4 y5 y6)) ∧ (∀ y0 y1 y2 y3 y4 y5 y6, LeO (spec_GiveBlock.l1 k y0 y1 y2 y3 y4 y5 y6) (spec_GiveBlock.l1 (k + 1) y0 y1 y2 y3 y4 y5 y6))
 | 0 => ⟨fun _ _ _ _ _ _ _ r h => by simp [spec_GiveBlock.l0] at h, fun _ _ _ _ _ _ _ r h => by simp [spec_GiveBlock.l1] at h⟩
 | k + 1 => by
  obtain ⟨ih0, ih1⟩ := spec_GiveBlock.mono_l k
  refine ⟨?_, ?_⟩
  ·intro y0 y1 y2 y3 y4 y5 y6
   unfold spec_GiveBlock.l0
   repeat' first
   | (with_reducible exact ih0 _ _ _ _ _ _ _)
   | (with_reducible exact ih1 _ _ _ _ _ _ _)
   | (with_reducible exact spec_GoodBuddy.mono _ _ _ _)
   | (with_reducible exact spec_l6At.mono _ _ _ _)
   | (with_reducible exact spec_l6Put.mono _ _ _ _)
   | (with_reducible exact LeO.refl _)
   | (with_reducible exact LeO.none _)
   | (with_reducible refine LeO.ite ?_ ?_)
   | (with_reducible refine LeO.bind ?_ (fun _ => ?_))
   | exact ih0 _ _ _ _ _ _ _
   | exact ih1 _ _ _ _ _ _ _
   | exact spec_GoodBuddy.mono _ _ _ _
   | exact spec_l6At.mono _ _ _ _
   | exact spec_l6Put.mono _ _ _ _
   | exact LeO.none _
   | refine LeO.ite ?_ ?_
   | refine LeO.bind ?_ (fun _ => ?_)
  ·intro y0 y1 y2 y3 y4 y5 y6
   unfold spec_GiveBlock.l1
   repeat' first
   | (with_reducible exact ih0 _ _ _ _ _ _ _)
   | (with_reducible exact ih1 _ _ _ _ _ _ _)
   | (with_reducible exact spec_GoodBuddy.mono _ _ _ _)
   | (with_reducible exact spec_l6At.mono _ _ _ _)
   | (with_reducible exact spec_l6Put.mono _ _ _ _)
   | (with_reducible exact LeO.refl _)
   | (with_reducible exact LeO.none _)
   | (with_reducible refine LeO.ite ?_ ?_)
   | (with_reducible refine LeO.bind ?_ (fun _ => ?_))
   | exact ih0 _ _ _ _ _ _ _
   | exact ih1 _ _ _ _ _ _ _
   | exact spec_GoodBuddy.mono _ _ _ _
   | exact spec_l6At.mono _ _ _ _
   | exact spec_l6Put.mono _ _ _ _
   | exact LeO.none _
   | refine LeO.ite ?_ ?_
   | refine LeO.bind ?_ (fun _ => ?_)
theorem spec_GiveBlock.mono : ∀ a0 a1 a2 a3 k, LeO (spec_GiveBlock.f k a0 a1 a2 a3) (spec_GiveBlock.f (k + 1) a0 a1 a2 a3) := by
 intro a0 a1 a2 a3 k
 obtain ⟨ih0, ih1⟩ := spec_GiveBlock.mono_l k
 unfold spec_GiveBlock.f
 repeat' first
   | (with_reducible exact ih0 _ _ _ _ _ _ _)
   | (with_reducible exact ih1 _ _ _ _ _ _ _)
   | (with_reducible exact spec_GoodBuddy.mono _ _ _ _)
   | (with_reducible exact spec_l6At.mono _ _ _ _)
   | (with_reducible exact spec_l6Put.mono _ _ _ _)
   | (with_reducible exact LeO.refl _)
   | (with_reducible exact LeO.none _)
   | (with_reducible refine LeO.ite ?_ ?_)
   | (with_reducible refine LeO.bind ?_ (fun _ => ?_))
   | exact ih0 _ _ _ _ _ _ _
   | exact ih1 _ _ _ _ _ _ _
   | exact spec_GoodBuddy.mono _ _ _ _
   | exact spec_l6At.mono _ _ _ _
   | exact spec_l6Put.mono _ _ _ _
   | exact LeO.none _
   | refine LeO.ite ?_ ?_
   | refine LeO.bind ?_ (fun _ => ?_)
def spec_GiveBlock.T13 : Bool × List (List Nat × List Nat) := (true, [([], []), ([0], [0]), ([], []), ([], []), ([2, 3], [2, 3]), ([], []), ([5], [5]), ([], []), ([6, 7, 4], [6, 7]), ([1, 4, 8], [1, 4, 8]), ([9, 8, 0, 1, 2, 3, 4, 5, 6, 7, 8, 9], [9]), ([10, 0, 1, 2, 3, 4, 5, 6, 7, 8, 9, 10], [])])
def spec_GiveBlock.B13 : List Nat := [0, 1, 0, 0, 12, 0, 32, 0, 252, 511, 1023, 2047]
theorem spec_GiveBlock.tab13 : rtab .any (opsOf Try.f9 13) = spec_GiveBlock.T13 := by kernel_rfl
theorem spec_GiveBlock.bits13 : waitsOk spec_GiveBlock.T13.2 spec_GiveBlock.B13 = true := by kernel_rfl
set_option maxHeartbeats 8000000 in
set_option maxRecDepth 100000 in
theorem spec_GiveBlock.calls (k : Nat) (a0_0 : Int) (A0_1 : Option Addr) (c0_1 : Nat) (l0_1 : List (S45)) (A0_2 : Option Addr) (c0_2 : Nat) (l0_2 : List (S45)) (a1 : Int) (r1 : Int) (r2 : List (S45)) (r3 : List (S45)) (r4 : Bool) (w : World) (hr0_1 : Kd.C k45 w A0_1 l0_1.length l0_1) (hc0_1 : l0_1.length ≤ c0_1) (hr0_2 : Kd.C k45 w A0_2 l0_2.length l0_2) (hc0_2 : l0_2.length ≤ c0_2) (h : spec_GiveBlock.f k a0_0 l0_1 l0_2 a1 = some (r1, r2, r3, r4)) :
  Calls Try.prog 9 #[.agg #[.int .i64 a0_0, .slice A0_1 l0_1.length c0_1, .slice A0_2 l0_2.length c0_2], .int .i64 a1] w fun e w' => ∃ v1_ v2_ : Value, e = .returned (.tuple #[.agg #[.int .i64 r1, v1_, v2_], .bool r4]) ∧ Kd.R k45 45 w' w.heap.size (fun k_ => some k_ ≠ (v2_ : Value).ownBlock) v1_ r2 ∧ Kd.R k45 45 w' w.heap.size (fun k_ => some k_ ≠ (v1_ : Value).ownBlock) v2_ r3 ∧ Below w.heap.size w w' := by
 have hu28 := Try.underlying28; have hu45 := Try.underlying45; have HR0_1 := aM hr0_1; have HC0_1 := aM hc0_1; clear hr0_1 hc0_1; have HR0_2 := aM hr0_2; have HC0_2 := aM hc0_2; clear hr0_2 hc0_2; have HB := aM (Below.refl w.heap.size w)
 have H : ((spec_GoodBuddy.f k a0_0 l0_1 l0_2).bind fun t182 => (if t182 = true then (spec_GiveBlock.l0 k a1 l0_2 (l0_2.length : Int) 0 a0_0 l0_1 l0_2) else (some (0, ([] : List (S45)), ([] : List (S45)), false)))) = some (r1, r2, r3, r4) := h
 clear h; replace H := Option.bind_eq_some_iff.mp H; obtain ⟨t182, A30, H⟩ := H; replace H : (if t182 = true then (spec_GiveBlock.l0 k a1 l0_2 (l0_2.length : Int) 0 a0_0 l0_1 l0_2) else (some (0, ([] : List (S45)), ([] : List (S45)), false))) = some (r1, r2, r3, r4) := H; have A3 := aM A30; clear A30
 by_cases c4 : t182 = true
 ·subst c4
  have H1 : (spec_GiveBlock.l0 k a1 l0_2 (l0_2.length : Int) 0 a0_0 l0_1 l0_2) = some (r1, r2, r3, r4) := by rw [if_pos rfl] at H; exact H
  clear H; have H := H1; clear H1; have H' := aM H; clear H
  go_enter Try.func9, Try.ntmps9
  go_wp2_with (first | ((with_reducible refine gate_dst (N := 2) rfl ?_); refine bE 2 #[.int .i64 a0_0, .slice A0_1 l0_1.length c0_1, .slice A0_2 l0_2.length c0_2] 28 ?_; intro gb180 hg w5 hbox hb; have BK180 := aM (hbox); have GW180 := gW hg HB.out; have GE180 := GW180; replace HB := aM (zT (zH HB.out) hb); clear hb hbox hg) | ((with_reducible refine gate_dst (N := 4) rfl ?_); refine bE 4 #[.int .i64 0, .slice none 0 0, .slice none 0 0] 28 ?_; intro gb181 hg w6 hbox hb; have BK181 := aM (hbox); have GW181 := gW hg HB.out; have GE181 := GW181; replace HB := aM (zT (zH HB.out) hb); have NB180_181 := nL BK180.out hg; have NB181_180 := nR BK180.out hg; replace BK180 := yK BK180.out hb; clear hb hbox hg; have M7 := NB180_181.out; have L7 := NB181_180.out; obtain ⟨Z8_0, Z8_1, Z8_2, Y8_0, Y8_1, Y8_2⟩ := y3 BK180.out) | ((with_reducible refine gate_callee (f := 20) rfl ?_); refine goesL_ (some 11) rfl rfl Try.func20 (by kernel_rfl) rfl #[.agg #[.int .i64 a0_0, .slice A0_1 l0_1.length c0_1, .slice A0_2 l0_2.length c0_2]] rfl mA ?_; (with_reducible refine (spec_GoodBuddy.calls k a0_0 _ _ l0_1 _ _ l0_2 true _ ?side1 ?side2 ?side3 ?side4 A3.out).mono ?_); (case side1 => exact cK HR0_1.out HB.out); (case side2 => exact HC0_1.out); (case side3 => exact cK HR0_2.out HB.out); (case side4 => exact HC0_2.out); rintro e w9 ⟨rfl, hb⟩; refine ⟨_, rfl, ?_⟩; replace BK180 := yK BK180.out hb; replace BK181 := yK BK181.out hb; replace HB := aM (zT (zH HB.out) hb); (try clear hb); obtain ⟨Z10_0, Z10_1, Z10_2, Y10_0, Y10_1, Y10_2⟩ := y3 BK180.out))
  go_loopg [17] k (fun kq v17 w' => ∃ (x17_1 : Int) (x182000_1 : Int), v17 = .int .i64 x17_1 ∧ Aside0 (spec_GiveBlock.l0 kq a1 l0_2 (l0_2.length : Int) x17_1 a0_0 l0_1 l0_2 = some (r1, r2, r3, r4)) ∧ Aside0 (kq ≤ k) ∧ Aside0 (w'.heap[gb180]? = some (.cells #[.int .i64 a0_0, (.slice A0_1 l0_1.length c0_1), (.slice A0_2 l0_2.length c0_2)] 28 (0, 0))) ∧ Aside0 (w'.heap[gb181]? = some (.cells #[.int .i64 x182000_1, (.slice none 0 0), (.slice none 0 0)] 28 (0, 0))) ∧ Aside0 (Below w.heap.size w w'))
  case atStart => exact ⟨(0), (0), (by first | rfl | (simp; done) | (simp [*]; done)), H', ⟨Nat.le_refl _⟩, ⟨yH BK180.out⟩, ⟨yH BK181.out⟩, ⟨zH HB.out⟩⟩
  case round =>
   clear H'
   (try clear c4); (try clear Z10_0 Z10_1 Z10_2 Y10_0 Y10_1 Y10_2); (try clear Z8_0 Z8_1 Z8_2 Y8_0 Y8_1 Y8_2)
   obtain ⟨x17_1, x182000_1, rfl, HA, HK1, BK180, BK181, HB⟩ := hrel
   cases gk with
   | zero => exact absurd HA.out (fun h_ => by change none = some _ at h_; cases h_)
   | succ k1 =>
    have H := HA.out; clear HA
    simp only [spec_GiveBlock.l0] at H
    by_cases c11 : x17_1 < (l0_2.length : Int)
    ·rw [if_pos c11] at H
     have c11b0 : decide (x17_1 < (l0_2.length : Int)) = true := decide_eq_true c11; clear c11
     by_cases c12 : 0 ≤ x17_1
     ·rw [if_pos c12] at H
      have c12b0 : decide (0 ≤ x17_1) = true := decide_eq_true c12; clear c12
      by_cases c13 : x17_1 < (l0_2.length : Int)
      ·rw [if_pos c13] at H
       have c13b0 : decide (x17_1 < (l0_2.length : Int)) = true := decide_eq_true c13; clear c13
       by_cases c14 : ((rd_T45 l0_2 x17_1).f0) = a1
       ·rw [if_pos c14] at H
        have c14b0 : (((rd_T45 l0_2 x17_1).f0) == a1) = true := beq_iff_eq.mpr c14; have c14b1 : (((rd_T45 l0_2 x17_1).f0) != a1) = false := bne_eq_false_iff_eq.mpr c14; clear c14; obtain ⟨y185, hy185⟩ : ∃ y_ : List (S45), y_ = (([] : List (S45))) := ⟨_, rfl⟩
        replace H : (if y185.length + l0_1.length < 8796093022208 then (spec_GiveBlock.l1 k1 x17_1 (y185 ++ l0_1) a0_0 l0_1 l0_2 ((rd_T45 l0_2 x17_1).f0) ((rd_T45 l0_2 x17_1).f1)) else (none)) = some (r1, r2, r3, r4) := by first | (rw [hy185]; with_reducible exact H) | (have H2_ := (Option.bind_some _ _).symm.trans H; rw [hy185]; with_reducible exact H2_) | (have H2_ := (Option.bind_some _ _).symm.trans H; with_reducible exact H2_) | with_reducible exact H | (rw [hy185]; exact H) | exact H
        have Ny185 := aM hy185; clear hy185
        by_cases c15 : y185.length + l0_1.length < 8796093022208
        ·rw [if_pos c15] at H
         have LMc15 := aM c15; clear c15; obtain ⟨y188, hy188⟩ : ∃ y_ : List (S45), y_ = (y185 ++ l0_1) := ⟨_, rfl⟩
         replace H : (spec_GiveBlock.l1 k1 x17_1 y188 a0_0 l0_1 l0_2 ((rd_T45 l0_2 x17_1).f0) ((rd_T45 l0_2 x17_1).f1)) = some (r1, r2, r3, r4) := by first | (rw [hy188]; with_reducible exact H) | (have H2_ := (Option.bind_some _ _).symm.trans H; rw [hy188]; with_reducible exact H2_) | (have H2_ := (Option.bind_some _ _).symm.trans H; with_reducible exact H2_) | with_reducible exact H | (rw [hy188]; exact H) | exact H
         have Ny188 := aM hy188; clear hy188; have H' := aM H; clear H
         have p183 : 0 ≤ (x17_1 : Int) := of_decide_eq_true (by first | (with_reducible assumption) | assumption)
         have q183 : x17_1 < (l0_2.length : Int) := of_decide_eq_true (by first | (with_reducible assumption) | assumption)
         obtain ⟨ad183, e183, hx183_0, hx183_1⟩ := at_T45 HR0_2.out x17_1 p183 q183
         cases e183
         replace hx183_0 := (HB.out.cell (World.block_lt_of_cell? w _ hx183_0)).trans hx183_0; replace hx183_1 := (HB.out.cell (World.block_lt_of_cell? w _ hx183_1)).trans hx183_1; replace p183 := eq_true p183; replace q183 := eq_true q183
         go_wp2_with (first | ((with_reducible refine gate_dst (N := 7) rfl ?_); refine bE 7 #[.int .i64 0, .int .i64 0] 45 ?_; intro gb184 hg w16 hbox hb; have BK184 := aM (hbox); have GW184 := gW hg HB.out; have GE184 := GW184; replace HB := aM (zT (zH HB.out) hb); have NB180_184 := nL BK180.out hg; have NB184_180 := nR BK180.out hg; replace BK180 := yK BK180.out hb; have NB181_184 := nL BK181.out hg; have NB184_181 := nR BK181.out hg; replace BK181 := yK BK181.out hb; clear hb hbox hg; have M17 := NB184_180.out; have L17 := NB180_184.out; have M18 := NB184_181.out; have L18 := NB181_184.out; obtain ⟨Z19_0, Z19_1, Y19_0, Y19_1⟩ := y2 BK184.out) | ((with_reducible refine gate_dst (N := 26) rfl ?_); refine Kd.R_lit k45 _ 45 ?hg (N := 26) ?hd (xs := ([] : List (S45))) (inner := []) (ok := fun _ => True) (okp := fun _ => True) ?hr ?hp (fun _ hk => hk) trivial (Below.refl _ _) (Nat.le_refl _) (by simp) ?_; (case hd => rfl); (case hg => rfl); (case hr => first | (go_simp; done) | (go_simp; rfl)); (case hp => exact (Reps.none _ _)); intro v186 w20 ho21 hb hg_ hnew_; clear hg_ hnew_; (first | rw [← Ny185.out] at ho21 | (simp only [Int.reduceToNat] at ho21; rw [← Ny185.out] at ho21)); have HO187 := aM (xL (Kd.R_newB ho21 (g := gb184) (o := .cells #[.int .i64 ((rd_T45 l0_2 x17_1).f0), .int .i64 ((rd_T45 l0_2 x17_1).f1)] 45 (0, 0)) (by refine yW ?_; refine yP (cs := #[.int .i64 ((rd_T45 l0_2 x17_1).f0), .int .i64 0]) ?_ 1 _ rfl; refine yW ?_; refine yP (cs := #[.int .i64 0, .int .i64 0]) ?_ 0 _ rfl; refine yW ?_; exact BK184.out)) (zZ (zH HB.out))); replace BK180 := yQ BK180.out hb; replace BK181 := yQ BK181.out hb; replace BK184 := aM (yB (g := gb184) (o := .cells #[.int .i64 ((rd_T45 l0_2 x17_1).f0), .int .i64 ((rd_T45 l0_2 x17_1).f1)] 45 (0, 0)) (by refine yW ?_; refine yP (cs := #[.int .i64 ((rd_T45 l0_2 x17_1).f0), .int .i64 0]) ?_ 1 _ rfl; refine yW ?_; refine yP (cs := #[.int .i64 0, .int .i64 0]) ?_ 0 _ rfl; refine yW ?_; exact BK184.out) hb); replace HB := aM (zT (zH HB.out) hb); clear hb ho21; have M22 := NB180_181.out; have L22 := NB181_180.out; obtain ⟨Z23_0, Z23_1, Z23_2, Y23_0, Y23_1, Y23_2⟩ := y3 BK180.out) | ((with_reducible refine gate_builtin (b := .append) (xs := #[.tmp 26, .tmp 28]) rfl ?_); at_builtin; refine Kd.R_append_rows k45 (w0 := w) w.heap.size rfl (.tmp 26) (.tmp 28) 26 45 (.agg #[(.int .i64 0), (.int .i64 0)]) 16 rfl Try.underlying26 info45 rfl (by decide) (by omega) v186 y185 l0_1 _ _ _ (fun k_ => k_ ≠ gb184) (fun _ => False) rfl rfl ?aO ?aR (fun _ _ h => h) (fun _ h => h.elim) ?aF ?aB ?aS ?aL ?_; (case aR => exact cK HR0_1.out HB.out); (case aB => exact (zH HB.out)); (case aF => exact (fun k_ hk => Kd.freshB (g := gb184) (o := .cells #[.int .i64 ((rd_T45 l0_2 x17_1).f0), .int .i64 ((rd_T45 l0_2 x17_1).f1)] 45 (0, 0)) (yH BK184.out) k_ hk)); (case aO => exact (xH (xM HO187.out (fun _ hk => hk.2)))); (case aS => exact (zZ (zH HB.out))); (case aL => have := LMc15.out; omega); intro v189 w24 ho hb hg hat; rw [← Ny188.out] at ho; replace BK180 := aM (blk_grown (g := gb180) (o := .cells #[.int .i64 a0_0, .slice A0_1 l0_1.length c0_1, .slice (some ad183) l0_2.length c0_2] 28 (0, 0)) (yH BK180.out) hg (Kd.R_ne HO187.out BK180.out (by decide))); replace BK181 := aM (blk_grown (g := gb181) (o := .cells #[.int .i64 x182000_1, .slice none 0 0, .slice none 0 0] 28 (0, 0)) (yH BK181.out) hg (Kd.R_ne HO187.out BK181.out (by decide))); replace BK184 := aM (blk_grown (g := gb184) (o := .cells #[.int .i64 ((rd_T45 l0_2 x17_1).f0), .int .i64 ((rd_T45 l0_2 x17_1).f1)] 45 (0, 0)) (yH BK184.out) hg (Kd.R_away HO187.out (fun _ hk => hk.2))); replace HB := aM (hb); have HO190 := aM (ho); clear HO187; clear ho hb hg hat))
         go_loopg [8] k1 (fun kq v8 w' => ∃ (x8_2 : List (S45)) (x185000_2 : Int) (x185001_2 : Int), Aside0 (spec_GiveBlock.l1 kq x17_1 x8_2 a0_0 l0_1 l0_2 x185000_2 x185001_2 = some (r1, r2, r3, r4)) ∧ Aside0 (kq ≤ k1) ∧ Aside0 (Kd.R k45 45 w' w.heap.size (fun k_ => k_ ≠ gb184) v8 x8_2) ∧ Aside0 (w'.heap[gb180]? = some (.cells #[.int .i64 a0_0, (.slice A0_1 l0_1.length c0_1), (.slice (some ad183) l0_2.length c0_2)] 28 (0, 0))) ∧ Aside0 (w'.heap[gb181]? = some (.cells #[.int .i64 x182000_1, (.slice none 0 0), (.slice none 0 0)] 28 (0, 0))) ∧ Aside0 (w'.heap[gb184]? = some (.cells #[.int .i64 x185000_2, .int .i64 x185001_2] 45 (0, 0))) ∧ Aside0 (Below w.heap.size w w'))
         case atStart => exact ⟨(y188), ((rd_T45 l0_2 x17_1).f0), ((rd_T45 l0_2 x17_1).f1), H', ⟨Nat.le_refl _⟩, ⟨xH HO190.out⟩, ⟨yH BK180.out⟩, ⟨yH BK181.out⟩, ⟨yH BK184.out⟩, ⟨zH HB.out⟩⟩
         case round =>
          clear H'
          (try clear c4); (try clear c11); (try clear c11b0); (try clear c12); (try clear c12b0); (try clear c13); (try clear c13b0); (try clear c14); (try clear c14b0); (try clear c14b1); (try clear c15); (try clear Z10_0 Z10_1 Z10_2 Y10_0 Y10_1 Y10_2); (try clear Z19_0 Z19_1 Y19_0 Y19_1); (try clear Z23_0 Z23_1 Z23_2 Y23_0 Y23_1 Y23_2); (try clear Z8_0 Z8_1 Z8_2 Y8_0 Y8_1 Y8_2); (try clear hx183_0); (try clear hx183_1); (try clear p183); (try clear q183)
          obtain ⟨x8_2, x185000_2, x185001_2, HA, HK2, p0', BK180, BK181, BK184, HB⟩ := hrel
          cases gk with
          | zero => exact absurd HA.out (fun h_ => by change none = some _ at h_; cases h_)
          | succ k2 =>
           have H := HA.out; clear HA
           simp only [spec_GiveBlock.l1] at H
           by_cases c25 : x185001_2 < a0_0
           ·rw [if_pos c25] at H
            have c25b0 : decide (x185001_2 < a0_0) = true := decide_eq_true c25; clear c25; replace H := Option.bind_eq_some_iff.mp H; obtain ⟨⟨t197, t198⟩, A260, H⟩ := H
            replace H : ((spec_l6At.f k2 x8_2 t197 t198).bind fun t199 => (if t199 < 0 then ((spec_l6Put.f k2 x8_2 x185000_2 x185001_2).bind fun t200 => ((spec_l6Without.f l0_2 x17_1).bind fun t203 => (some (a0_0, t200, t203, true)))) else ((spec_l6Without.f x8_2 t199).bind fun t206 => (if 0 ≤ (IntKind.u64.wrap (x185001_2)) then (spec_GiveBlock.l1 k2 x17_1 t206 a0_0 l0_1 l0_2 (Go.bits .andNot .i64 x185000_2 (shl .i64 1 (IntKind.u64.wrap (x185001_2)))) (wrap64 (x185001_2 + 1))) else (none))))) = some (r1, r2, r3, r4) := H
            have A26 := aM A260; clear A260; replace H := Option.bind_eq_some_iff.mp H; obtain ⟨t199, A270, H⟩ := H
            replace H : (if t199 < 0 then ((spec_l6Put.f k2 x8_2 x185000_2 x185001_2).bind fun t200 => ((spec_l6Without.f l0_2 x17_1).bind fun t203 => (some (a0_0, t200, t203, true)))) else ((spec_l6Without.f x8_2 t199).bind fun t206 => (if 0 ≤ (IntKind.u64.wrap (x185001_2)) then (spec_GiveBlock.l1 k2 x17_1 t206 a0_0 l0_1 l0_2 (Go.bits .andNot .i64 x185000_2 (shl .i64 1 (IntKind.u64.wrap (x185001_2)))) (wrap64 (x185001_2 + 1))) else (none)))) = some (r1, r2, r3, r4) := H
            have A27 := aM A270; clear A270
            by_cases c28 : t199 < 0
            ·rw [if_pos c28] at H
             have c28b0 : decide (t199 < 0) = true := decide_eq_true c28; clear c28; replace H := Option.bind_eq_some_iff.mp H; obtain ⟨t200, A290, H⟩ := H
             replace H : ((spec_l6Without.f l0_2 x17_1).bind fun t203 => (some (a0_0, t200, t203, true))) = some (r1, r2, r3, r4) := H
             have A29 := aM A290; clear A290; replace H := Option.bind_eq_some_iff.mp H; obtain ⟨t203, A300, H⟩ := H; replace H : (some (a0_0, t200, t203, true)) = some (r1, r2, r3, r4) := H; have A30 := aM A300; clear A300
             simp only [Option.some.injEq, Prod.mk.injEq] at H
             obtain ⟨rfl, rfl, rfl, rfl⟩ := H; have M31 := NB184_180.out; have L31 := NB180_184.out; have M32 := NB184_181.out; have L32 := NB181_184.out; have Z33_0 : wr.cell? ⟨gb184, 0, none⟩ = some (.int .i64 x185000_2) := yc BK184.out 0; have Z33_1 : wr.cell? ⟨gb184, 1, none⟩ = some (.int .i64 x185001_2) := yc BK184.out 1; have Y33_0 := yZ BK184.out 0; have Y33_1 := yZ BK184.out 1; have M34 := NB180_181.out; have L34 := NB181_180.out; have Z35_0 : wr.cell? ⟨gb180, 0, none⟩ = some (.int .i64 a0_0) := yc BK180.out 0; have Z35_1 : wr.cell? ⟨gb180, 1, none⟩ = some (.slice A0_1 l0_1.length c0_1) := yc BK180.out 1; have Z35_2 : wr.cell? ⟨gb180, 2, none⟩ = some (.slice (some ad183) l0_2.length c0_2) := yc BK180.out 2; have Y35_0 := yZ BK180.out 0; have Y35_1 := yZ BK180.out 1; have Y35_2 := yZ BK180.out 2
             try go_wp2_with (first | ((with_reducible refine gate_callee (f := 29) rfl ?_); refine goesL_ (some 37) rfl rfl Try.func29 (by kernel_rfl) rfl #[.agg #[.int .i64 x185000_2, .int .i64 x185001_2]] rfl mA ?_; (with_reducible refine (spec_l6Buddy.calls x185000_2 x185001_2 t197 t198 _ A26.out).mono ?_); rintro e w36 ⟨rfl, hb⟩; refine ⟨_, rfl, ?_⟩; replace p0' := xK p0'.out hb; replace BK180 := yK BK180.out hb; replace BK181 := yK BK181.out hb; replace BK184 := yK BK184.out hb; replace HB := aM (zT (zH HB.out) hb); (try clear hb); obtain ⟨Ao37, co37, eo37⟩ := Kd.R_slice p0'.out; subst eo37) | ((with_reducible refine gate_callee (f := 28) rfl ?_); refine goesL_ (some 38) rfl rfl Try.func28 (by kernel_rfl) rfl #[.slice Ao37 x8_2.length co37, .agg #[.int .i64 t197, .int .i64 t198]] rfl mA ?_; (with_reducible refine (spec_l6At.calls k2 _ _ x8_2 t197 t198 t199 _ ?side1 ?side2 A27.out).mono ?_); (case side1 => exact cS (Kd.R_reads' p0'.out).2.2); (case side2 => exact (Kd.R_reads' p0'.out).2.1); rintro e w38 ⟨rfl, hb⟩; refine ⟨_, rfl, ?_⟩; replace p0' := xK p0'.out hb; replace BK180 := yK BK180.out hb; replace BK181 := yK BK181.out hb; replace BK184 := yK BK184.out hb; replace HB := aM (zT (zH HB.out) hb); (try clear hb)))
             replace p0' := aM (xD p0'.out); replace BK180 := aM (yD BK180.out); replace BK181 := aM (yD BK181.out); replace BK184 := aM (yD BK184.out); replace HB := aM (zD HB.out)
             refine start_ (n := 12) (S := fun w' => w'.cell? ⟨gb180, 0, none⟩ = some (.int .i64 a0_0) ∧ w'.cell? ⟨gb180, 1, none⟩ = some (.slice A0_1 l0_1.length c0_1) ∧ w'.cell? ⟨gb180, 2, none⟩ = some (.slice (some ad183) l0_2.length c0_2) ∧ w'.cell? ⟨gb184, 0, none⟩ = some (.int .i64 x185000_2) ∧ w'.cell? ⟨gb184, 1, none⟩ = some (.int .i64 x185001_2)) (ds := []) #[fF,fF,fF,fF,fF,fF,fF,fF,fF,fF,fF,fF] (by kernel_rfl) rfl rfl ⟨yc BK180.out 0, yc BK180.out 1, yc BK180.out 2, yc BK184.out 0, yc BK184.out 1⟩ (fun hHeld => ?_); refine with_tabW spec_GiveBlock.tab13 spec_GiveBlock.bits13 (fun HT_ HW_ => ?_)
             generalize w38.drew = w39 at p0' BK180 BK181 BK184 HB hHeld ⊢
             refine pP 0 55 HT_ ?_
             refine pP 2 57 HT_ ?_
             refine pP 5 60 HT_ ?_
             refine pP 7 62 HT_ ?_
             refine tK 1 56 HT_ HW_ hHeld ?_
             refine tK 3 58 HT_ HW_ hHeld ?_
             refine tK 6 61 HT_ HW_ hHeld ?_
             refine oN 4 (some 59) HT_ (fun K hK => ?_)
             refine gS Try.func31 (by kernel_rfl) rfl #[.slice Ao37 x8_2.length co37, .agg #[.int .i64 x185000_2, .int .i64 x185001_2]] (by rfl) rfl rfl ?_
             with_reducible refine (spec_l6Put.calls k2 _ _ x8_2 x185000_2 x185001_2 t200 _ ?side1 ?side2 A29.out).mono ?_
             (case side1 => exact cS (Kd.R_reads' p0'.out).2.2)
             (case side2 => exact (Kd.R_reads' p0'.out).2.1)
             rintro e w40 ⟨v201, rfl, ho0, hb⟩
             refine ⟨_, rfl, ?_⟩
             have HO202 := aM (xL (Kd.R_newB (Kd.R_new' ho0 (Kd.R_lt (xH p0'.out))) (g := gb184) (o := .cells #[.int .i64 x185000_2, .int .i64 x185001_2] 45 (0, 0)) (yH BK184.out)) (zZ (zH HB.out))); replace p0' := aM (Kd.R_elder' (xH p0'.out) (Kd.R_base ho0) hb); replace BK180 := yK BK180.out hb; replace BK181 := yK BK181.out hb; replace BK184 := yK BK184.out hb; replace HB := aM (zT (zH HB.out) hb)
             (try clear hb); (try clear ho0)
             refine hK.out _ _ ⟨yc BK180.out 0, yc BK180.out 1, yc BK180.out 2, yc BK184.out 0, yc BK184.out 1⟩ (fun hHeld => ?_)
             clear hK K; refine nN 59 ?_
             refine oN 8 (some 63) HT_ (fun K hK => ?_)
             refine gS Try.func30 (by kernel_rfl) rfl #[.slice (some ad183) l0_2.length c0_2, .int .i64 x17_1] (by rfl) rfl rfl ?_
             with_reducible refine (spec_l6Without.calls _ _ l0_2 x17_1 t203 _ ?side1 ?side2 A30.out).mono ?_
             (case side1 => exact cK HR0_2.out HB.out)
             (case side2 => exact HC0_2.out)
             rintro e w41 ⟨v204, rfl, ho0, hb⟩
             refine ⟨_, rfl, ?_⟩
             have HO205 := aM (xL (Kd.R_newB (Kd.R_new' (Kd.R_new' ho0 (Kd.R_lt (xH p0'.out))) (Kd.R_lt (xH HO202.out))) (g := gb184) (o := .cells #[.int .i64 x185000_2, .int .i64 x185001_2] 45 (0, 0)) (yH BK184.out)) (zZ (zH HB.out))); replace p0' := aM (Kd.R_elder' (xH p0'.out) (Kd.R_base ho0) hb); replace HO202 := aM (Kd.R_elder' (xH HO202.out) (Kd.R_base ho0) hb); replace BK180 := yK BK180.out hb; replace BK181 := yK BK181.out hb; replace BK184 := yK BK184.out hb; replace HB := aM (zT (zH HB.out) hb)
             (try clear hb); (try clear ho0)
             obtain ⟨Ao42, co42, eo42⟩ := Kd.R_slice HO205.out
             (first | subst eo42 | obtain ⟨rfl, rfl⟩ := eI eo42)
             obtain ⟨Ao43, co43, eo43⟩ := Kd.R_slice HO202.out
             (first | subst eo43 | obtain ⟨rfl, rfl⟩ := eI eo43)
             refine hK.out _ _ ⟨yc BK180.out 0, yc BK180.out 1, yc BK180.out 2, yc BK184.out 0, yc BK184.out 1⟩ (fun hHeld => ?_)
             clear hK K; refine nN 63 ?_
             refine pP 9 64 HT_ ?_
             refine oN 10 none HT_ (fun K hK => ?_)
             have hs44 : w41.cell? ⟨gb181, 0, none⟩ = some (.int .i64 x182000_1) := yc BK181.out 0; have hfs44 := yZ BK181.out 0; have hns44_0 := NB180_181.out; have hns44_2 := NB184_181.out; have hms44_0 := NB181_180.out; have hms44_2 := NB181_184.out; have hs45 : w41.cell? ⟨gb181, 1, none⟩ = some (.slice none 0 0) := yc BK181.out 1; have hfs45 := yZ BK181.out 1; have hns45_0 := NB180_181.out; have hns45_2 := NB184_181.out; have hms45_0 := NB181_180.out; have hms45_2 := NB181_184.out; have hs46 : w41.cell? ⟨gb181, 2, none⟩ = some (.slice none 0 0) := yc BK181.out 2; have hfs46 := yZ BK181.out 2; have hns46_0 := NB180_181.out; have hns46_2 := NB184_181.out; have hms46_0 := NB181_180.out; have hms46_2 := NB181_184.out
             refine skip_ (w1 := ?_) (by rfl) rfl ?_ ?_
             rotate_left
             ·go_simp
              rfl
             refine hK.out _ _ ⟨((cell_far (p := ⟨gb181, _, none⟩) NB180_181.out _).trans (((cell_far (p := ⟨gb181, _, none⟩) NB180_181.out _).trans (((cell_far (p := ⟨gb181, _, none⟩) NB180_181.out _).trans (hHeld.1)))))), ((cell_far (p := ⟨gb181, _, none⟩) NB180_181.out _).trans (((cell_far (p := ⟨gb181, _, none⟩) NB180_181.out _).trans (((cell_far (p := ⟨gb181, _, none⟩) NB180_181.out _).trans (hHeld.2.1)))))), ((cell_far (p := ⟨gb181, _, none⟩) NB180_181.out _).trans (((cell_far (p := ⟨gb181, _, none⟩) NB180_181.out _).trans (((cell_far (p := ⟨gb181, _, none⟩) NB180_181.out _).trans (hHeld.2.2.1)))))), ((cell_far (p := ⟨gb181, _, none⟩) NB184_181.out _).trans (((cell_far (p := ⟨gb181, _, none⟩) NB184_181.out _).trans (((cell_far (p := ⟨gb181, _, none⟩) NB184_181.out _).trans (hHeld.2.2.2.1)))))), ((cell_far (p := ⟨gb181, _, none⟩) NB184_181.out _).trans (((cell_far (p := ⟨gb181, _, none⟩) NB184_181.out _).trans (((cell_far (p := ⟨gb181, _, none⟩) NB184_181.out _).trans (hHeld.2.2.2.2))))))⟩ (fun hHeld => ?_)
             clear hK K
             refine pP 11 5 HT_ ?_
             refine done_ (done_of HT_.out (by kernel_rfl)) ?_
             try go_wp2
             refine bodyPost_ret (results_ct rfl _ _ gb181 28 #[.int .i64 a0_0, .slice Ao43 t200.length co43, .slice Ao42 t203.length co42] (0, 0) _ rfl (by refine yW ?_; refine yP (cs := #[.int .i64 a0_0, .slice Ao43 t200.length co43, .slice none 0 0]) ?_ 2 _ rfl; refine yW ?_; refine yP (cs := #[.int .i64 a0_0, .slice none 0 0, .slice none 0 0]) ?_ 1 _ rfl; refine yW ?_; refine yP (cs := #[.int .i64 x182000_1, .slice none 0 0, .slice none 0 0]) ?_ 0 _ rfl; refine yW ?_; exact BK181.out) Try.underlying28 rfl (by kernel_rfl)) rfl ?_
             exact ⟨_, _, eW, xH (xM (xF (p := ⟨gb181, 2, none⟩) (xF (p := ⟨gb181, 1, none⟩) (xF (p := ⟨gb181, 0, none⟩) (xT HO202.out BK181.out (by decide)) (fun _ hk => hk.2) (.int .i64 a0_0)) (fun _ hk => hk.2) (.slice Ao43 t200.length co43)) (fun _ hk => hk.2) (.slice Ao42 t203.length co42)) (fun _ hk => hk.1.2)), xH (xM (xF (p := ⟨gb181, 2, none⟩) (xF (p := ⟨gb181, 1, none⟩) (xF (p := ⟨gb181, 0, none⟩) (xT HO205.out BK181.out (by decide)) (fun _ hk => hk.2) (.int .i64 a0_0)) (fun _ hk => hk.2) (.slice Ao43 t200.length co43)) (fun _ hk => hk.2) (.slice Ao42 t203.length co42)) (fun _ hk => hk.1.1.2)), zH HB.out⟩
            ·rw [if_neg c28] at H
             have c28b0 : decide (t199 < 0) = false := decide_eq_false c28; clear c28; replace H := Option.bind_eq_some_iff.mp H; obtain ⟨t206, A470, H⟩ := H; replace H : (if 0 ≤ (IntKind.u64.wrap (x185001_2)) then (spec_GiveBlock.l1 k2 x17_1 t206 a0_0 l0_1 l0_2 (Go.bits .andNot .i64 x185000_2 (shl .i64 1 (IntKind.u64.wrap (x185001_2)))) (wrap64 (x185001_2 + 1))) else (none)) = some (r1, r2, r3, r4) := H; have A47 := aM A470; clear A470; obtain ⟨ji48, hji48⟩ : ∃ j_ : Int, (IntKind.u64.wrap (x185001_2)) = j_ := ⟨_, rfl⟩
             replace H : (if 0 ≤ (ji48) then (spec_GiveBlock.l1 k2 x17_1 t206 a0_0 l0_1 l0_2 (Go.bits .andNot .i64 x185000_2 (shl .i64 1 (ji48))) (wrap64 (x185001_2 + 1))) else (none)) = some (r1, r2, r3, r4) := by first | (rw [hji48] at H; exact H) | (simp only [hji48] at H ⊢; exact H)
             (try rw [hji48] at A26)
             (try rw [hji48] at A27)
             (try rw [hji48] at A47)
             by_cases c49 : 0 ≤ (ji48)
             ·rw [if_pos c49] at H
              have c49b0 := eq_true c49; have c49b1 : decide (0 ≤ (ji48)) = true := decide_eq_true c49; clear c49; obtain ⟨ji50, hji50⟩ : ∃ j_ : Int, (shl .i64 1 (ji48)) = j_ := ⟨_, rfl⟩
              replace H : (spec_GiveBlock.l1 k2 x17_1 t206 a0_0 l0_1 l0_2 (Go.bits .andNot .i64 x185000_2 (ji50)) (wrap64 (x185001_2 + 1))) = some (r1, r2, r3, r4) := by first | (rw [hji50] at H; exact H) | (simp only [hji50] at H ⊢; exact H)
              (try rw [hji50] at A26)
              (try rw [hji50] at A27)
              (try rw [hji50] at A47)
              have hji50_ : (IntKind.i64.wrap (1 * 2 ^ min (ji48).toNat 64)) = ji50 := hji50; have hji50z : (ji48) ≤ 64 → (IntKind.i64.wrap (1 * 2 ^ (ji48).toNat)) = ji50 := shl_small hji50
              have hji50u : (IntKind.i64.wrap (2 ^ min (ji48).toNat 64)) = ji50 := by have h_ := hji50_; rw [Int.one_mul] at h_; exact h_
              have hji50v : (ji48) ≤ 64 → (IntKind.i64.wrap (2 ^ (ji48).toNat)) = ji50 := fun hle_ => by have h_ := hji50z hle_; rw [Int.one_mul] at h_; exact h_
              have hji50y : (wrap64 (1 * 2 ^ min (ji48).toNat 64)) = ji50 := (i64_w _).symm.trans hji50_
              have hji50x : (ji48) ≤ 64 → (wrap64 (1 * 2 ^ (ji48).toNat)) = ji50 := fun h_ => (i64_w _).symm.trans (hji50z h_)
              have H' := aM H; clear H; have M51 := NB184_180.out; have L51 := NB180_184.out; have M52 := NB184_181.out; have L52 := NB181_184.out; have Z53_0 : wr.cell? ⟨gb184, 0, none⟩ = some (.int .i64 x185000_2) := yc BK184.out 0; have Z53_1 : wr.cell? ⟨gb184, 1, none⟩ = some (.int .i64 x185001_2) := yc BK184.out 1; have Y53_0 := yZ BK184.out 0; have Y53_1 := yZ BK184.out 1; have M54 := NB180_181.out; have L54 := NB181_180.out; have Z55_0 : wr.cell? ⟨gb180, 0, none⟩ = some (.int .i64 a0_0) := yc BK180.out 0; have Z55_1 : wr.cell? ⟨gb180, 1, none⟩ = some (.slice A0_1 l0_1.length c0_1) := yc BK180.out 1; have Z55_2 : wr.cell? ⟨gb180, 2, none⟩ = some (.slice (some ad183) l0_2.length c0_2) := yc BK180.out 2; have Y55_0 := yZ BK180.out 0; have Y55_1 := yZ BK180.out 1; have Y55_2 := yZ BK180.out 2
              go_wp2_with (first | ((with_reducible refine gate_callee (f := 29) rfl ?_); refine goesL_ (some 37) rfl rfl Try.func29 (by kernel_rfl) rfl #[.agg #[.int .i64 x185000_2, .int .i64 x185001_2]] rfl mA ?_; (with_reducible refine (spec_l6Buddy.calls x185000_2 x185001_2 t197 t198 _ A26.out).mono ?_); rintro e w56 ⟨rfl, hb⟩; refine ⟨_, rfl, ?_⟩; replace p0' := xK p0'.out hb; replace BK180 := yK BK180.out hb; replace BK181 := yK BK181.out hb; replace BK184 := yK BK184.out hb; replace HB := aM (zT (zH HB.out) hb); (try clear hb); obtain ⟨Ao57, co57, eo57⟩ := Kd.R_slice p0'.out; subst eo57) | ((with_reducible refine gate_callee (f := 28) rfl ?_); refine goesL_ (some 38) rfl rfl Try.func28 (by kernel_rfl) rfl #[.slice Ao57 x8_2.length co57, .agg #[.int .i64 t197, .int .i64 t198]] rfl mA ?_; (with_reducible refine (spec_l6At.calls k2 _ _ x8_2 t197 t198 t199 _ ?side1 ?side2 A27.out).mono ?_); (case side1 => exact cS (Kd.R_reads' p0'.out).2.2); (case side2 => exact (Kd.R_reads' p0'.out).2.1); rintro e w58 ⟨rfl, hb⟩; refine ⟨_, rfl, ?_⟩; replace p0' := xK p0'.out hb; replace BK180 := yK BK180.out hb; replace BK181 := yK BK181.out hb; replace BK184 := yK BK184.out hb; replace HB := aM (zT (zH HB.out) hb); (try clear hb)) | ((with_reducible refine gate_callee (f := 30) rfl ?_); refine goesL_ (some 43) rfl rfl Try.func30 (by kernel_rfl) rfl #[.slice Ao57 x8_2.length co57, .int .i64 t199] rfl mA ?_; (with_reducible refine (spec_l6Without.calls _ _ x8_2 t199 t206 _ ?side1 ?side2 A47.out).mono ?_); (case side1 => exact cS (Kd.R_reads' p0'.out).2.2); (case side2 => exact (Kd.R_reads' p0'.out).2.1); rintro e w59 ⟨v207, rfl, ho0, hb⟩; refine ⟨_, rfl, ?_⟩; have HO208 := aM (xL (Kd.R_newB (Kd.R_new' ho0 (Kd.R_lt (xH p0'.out))) (g := gb184) (o := .cells #[.int .i64 x185000_2, .int .i64 x185001_2] 45 (0, 0)) (yH BK184.out)) (zZ (zH HB.out))); replace p0' := aM (Kd.R_elder' (xH p0'.out) (Kd.R_base ho0) hb); replace BK180 := yK BK180.out hb; replace BK181 := yK BK181.out hb; replace BK184 := yK BK184.out hb; replace HB := aM (zT (zH HB.out) hb); (try clear hb); (try clear ho0); obtain ⟨Z60_0, Z60_1, Y60_0, Y60_1⟩ := y2 BK184.out))
              go_roundg k2
              case measure => have := HK1.out; have := HK2.out; omega
              case rel => exact ⟨(t206), (Go.bits .andNot .i64 x185000_2 (ji50)), (wrap64 (x185001_2 + 1)), H', ⟨by have := HK1.out; have := HK2.out; omega⟩, ⟨xH (xM (xF (p := ⟨gb184, 1, none⟩) (xF (p := ⟨gb184, 0, none⟩) (xM HO208.out (fun k_ hk => (⟨hk, hk.2⟩ : _ ∧ k_ ≠ gb184))) (fun _ hk => hk.2) (.int .i64 (Go.bits .andNot .i64 x185000_2 (ji50)))) (fun _ hk => hk.2) (.int .i64 (wrap64 (x185001_2 + 1)))) (fun _ hk => hk.1.2))⟩, yG BK180.out, yG BK181.out, ⟨by refine yW ?_; refine yP (cs := #[.int .i64 (Go.bits .andNot .i64 x185000_2 (ji50)), .int .i64 x185001_2]) ?_ 1 _ rfl; refine yW ?_; refine yP (cs := #[.int .i64 x185000_2, .int .i64 x185001_2]) ?_ 0 _ rfl; refine yW ?_; exact BK184.out⟩, ⟨zH HB.out⟩⟩
             ·rw [if_neg c49] at H
              exact absurd H (by simp)
           ·rw [if_neg c25] at H
            have c25b0 : decide (x185001_2 < a0_0) = false := decide_eq_false c25; clear c25; replace H := Option.bind_eq_some_iff.mp H; obtain ⟨t191, A610, H⟩ := H
            replace H : ((spec_l6Without.f l0_2 x17_1).bind fun t194 => (some (a0_0, t191, t194, true))) = some (r1, r2, r3, r4) := H
            have A61 := aM A610; clear A610; replace H := Option.bind_eq_some_iff.mp H; obtain ⟨t194, A620, H⟩ := H; replace H : (some (a0_0, t191, t194, true)) = some (r1, r2, r3, r4) := H; have A62 := aM A620; clear A620
            simp only [Option.some.injEq, Prod.mk.injEq] at H
            obtain ⟨rfl, rfl, rfl, rfl⟩ := H; have M63 := NB184_180.out; have L63 := NB180_184.out; have M64 := NB184_181.out; have L64 := NB181_184.out; have Z65_0 : wr.cell? ⟨gb184, 0, none⟩ = some (.int .i64 x185000_2) := yc BK184.out 0; have Z65_1 : wr.cell? ⟨gb184, 1, none⟩ = some (.int .i64 x185001_2) := yc BK184.out 1; have Y65_0 := yZ BK184.out 0; have Y65_1 := yZ BK184.out 1; have M66 := NB180_181.out; have L66 := NB181_180.out; have Z67_0 : wr.cell? ⟨gb180, 0, none⟩ = some (.int .i64 a0_0) := yc BK180.out 0; have Z67_1 : wr.cell? ⟨gb180, 1, none⟩ = some (.slice A0_1 l0_1.length c0_1) := yc BK180.out 1; have Z67_2 : wr.cell? ⟨gb180, 2, none⟩ = some (.slice (some ad183) l0_2.length c0_2) := yc BK180.out 2; have Y67_0 := yZ BK180.out 0; have Y67_1 := yZ BK180.out 1; have Y67_2 := yZ BK180.out 2
            try go_wp2
            replace p0' := aM (xD p0'.out); replace BK180 := aM (yD BK180.out); replace BK181 := aM (yD BK181.out); replace BK184 := aM (yD BK184.out); replace HB := aM (zD HB.out); obtain ⟨Ao69, co69, eo69⟩ := Kd.R_slice p0'.out
            (first | subst eo69 | obtain ⟨rfl, rfl⟩ := eI eo69)
            refine start_ (n := 12) (S := fun w' => w'.cell? ⟨gb180, 0, none⟩ = some (.int .i64 a0_0) ∧ w'.cell? ⟨gb180, 1, none⟩ = some (.slice A0_1 l0_1.length c0_1) ∧ w'.cell? ⟨gb180, 2, none⟩ = some (.slice (some ad183) l0_2.length c0_2) ∧ w'.cell? ⟨gb184, 0, none⟩ = some (.int .i64 x185000_2) ∧ w'.cell? ⟨gb184, 1, none⟩ = some (.int .i64 x185001_2)) (ds := []) #[fF,fF,fF,fF,fF,fF,fF,fF,fF,fF,fF,fF] (by kernel_rfl) rfl rfl ⟨yc BK180.out 0, yc BK180.out 1, yc BK180.out 2, yc BK184.out 0, yc BK184.out 1⟩ (fun hHeld => ?_); refine with_tabW spec_GiveBlock.tab13 spec_GiveBlock.bits13 (fun HT_ HW_ => ?_)
            generalize wr.drew = w68 at p0' BK180 BK181 BK184 HB hHeld ⊢
            refine pP 0 55 HT_ ?_
            refine pP 2 57 HT_ ?_
            refine pP 5 60 HT_ ?_
            refine pP 7 62 HT_ ?_
            refine tK 1 56 HT_ HW_ hHeld ?_
            refine tK 3 58 HT_ HW_ hHeld ?_
            refine tK 6 61 HT_ HW_ hHeld ?_
            refine oN 4 (some 59) HT_ (fun K hK => ?_)
            refine gS Try.func31 (by kernel_rfl) rfl #[.slice Ao69 x8_2.length co69, .agg #[.int .i64 x185000_2, .int .i64 x185001_2]] (by rfl) rfl rfl ?_
            with_reducible refine (spec_l6Put.calls k2 _ _ x8_2 x185000_2 x185001_2 t191 _ ?side1 ?side2 A61.out).mono ?_
            (case side1 => exact cS (Kd.R_reads' p0'.out).2.2)
            (case side2 => exact (Kd.R_reads' p0'.out).2.1)
            rintro e w70 ⟨v192, rfl, ho0, hb⟩
            refine ⟨_, rfl, ?_⟩
            have HO193 := aM (xL (Kd.R_newB (Kd.R_new' ho0 (Kd.R_lt (xH p0'.out))) (g := gb184) (o := .cells #[.int .i64 x185000_2, .int .i64 x185001_2] 45 (0, 0)) (yH BK184.out)) (zZ (zH HB.out))); replace p0' := aM (Kd.R_elder' (xH p0'.out) (Kd.R_base ho0) hb); replace BK180 := yK BK180.out hb; replace BK181 := yK BK181.out hb; replace BK184 := yK BK184.out hb; replace HB := aM (zT (zH HB.out) hb)
            (try clear hb); (try clear ho0)
            refine hK.out _ _ ⟨yc BK180.out 0, yc BK180.out 1, yc BK180.out 2, yc BK184.out 0, yc BK184.out 1⟩ (fun hHeld => ?_)
            clear hK K; refine nN 59 ?_
            refine oN 8 (some 63) HT_ (fun K hK => ?_)
            refine gS Try.func30 (by kernel_rfl) rfl #[.slice (some ad183) l0_2.length c0_2, .int .i64 x17_1] (by rfl) rfl rfl ?_
            with_reducible refine (spec_l6Without.calls _ _ l0_2 x17_1 t194 _ ?side1 ?side2 A62.out).mono ?_
            (case side1 => exact cK HR0_2.out HB.out)
            (case side2 => exact HC0_2.out)
            rintro e w71 ⟨v195, rfl, ho0, hb⟩
            refine ⟨_, rfl, ?_⟩
            have HO196 := aM (xL (Kd.R_newB (Kd.R_new' (Kd.R_new' ho0 (Kd.R_lt (xH p0'.out))) (Kd.R_lt (xH HO193.out))) (g := gb184) (o := .cells #[.int .i64 x185000_2, .int .i64 x185001_2] 45 (0, 0)) (yH BK184.out)) (zZ (zH HB.out))); replace p0' := aM (Kd.R_elder' (xH p0'.out) (Kd.R_base ho0) hb); replace HO193 := aM (Kd.R_elder' (xH HO193.out) (Kd.R_base ho0) hb); replace BK180 := yK BK180.out hb; replace BK181 := yK BK181.out hb; replace BK184 := yK BK184.out hb; replace HB := aM (zT (zH HB.out) hb)
            (try clear hb); (try clear ho0)
            obtain ⟨Ao72, co72, eo72⟩ := Kd.R_slice HO196.out
            (first | subst eo72 | obtain ⟨rfl, rfl⟩ := eI eo72)
            obtain ⟨Ao73, co73, eo73⟩ := Kd.R_slice HO193.out
            (first | subst eo73 | obtain ⟨rfl, rfl⟩ := eI eo73)
            refine hK.out _ _ ⟨yc BK180.out 0, yc BK180.out 1, yc BK180.out 2, yc BK184.out 0, yc BK184.out 1⟩ (fun hHeld => ?_)
            clear hK K; refine nN 63 ?_
            refine pP 9 64 HT_ ?_
            refine oN 10 none HT_ (fun K hK => ?_)
            have hs74 : w71.cell? ⟨gb181, 0, none⟩ = some (.int .i64 x182000_1) := yc BK181.out 0; have hfs74 := yZ BK181.out 0; have hns74_0 := NB180_181.out; have hns74_2 := NB184_181.out; have hms74_0 := NB181_180.out; have hms74_2 := NB181_184.out; have hs75 : w71.cell? ⟨gb181, 1, none⟩ = some (.slice none 0 0) := yc BK181.out 1; have hfs75 := yZ BK181.out 1; have hns75_0 := NB180_181.out; have hns75_2 := NB184_181.out; have hms75_0 := NB181_180.out; have hms75_2 := NB181_184.out; have hs76 : w71.cell? ⟨gb181, 2, none⟩ = some (.slice none 0 0) := yc BK181.out 2; have hfs76 := yZ BK181.out 2; have hns76_0 := NB180_181.out; have hns76_2 := NB184_181.out; have hms76_0 := NB181_180.out; have hms76_2 := NB181_184.out
            refine skip_ (w1 := ?_) (by rfl) rfl ?_ ?_
            rotate_left
            ·go_simp
             rfl
            refine hK.out _ _ ⟨((cell_far (p := ⟨gb181, _, none⟩) NB180_181.out _).trans (((cell_far (p := ⟨gb181, _, none⟩) NB180_181.out _).trans (((cell_far (p := ⟨gb181, _, none⟩) NB180_181.out _).trans (hHeld.1)))))), ((cell_far (p := ⟨gb181, _, none⟩) NB180_181.out _).trans (((cell_far (p := ⟨gb181, _, none⟩) NB180_181.out _).trans (((cell_far (p := ⟨gb181, _, none⟩) NB180_181.out _).trans (hHeld.2.1)))))), ((cell_far (p := ⟨gb181, _, none⟩) NB180_181.out _).trans (((cell_far (p := ⟨gb181, _, none⟩) NB180_181.out _).trans (((cell_far (p := ⟨gb181, _, none⟩) NB180_181.out _).trans (hHeld.2.2.1)))))), ((cell_far (p := ⟨gb181, _, none⟩) NB184_181.out _).trans (((cell_far (p := ⟨gb181, _, none⟩) NB184_181.out _).trans (((cell_far (p := ⟨gb181, _, none⟩) NB184_181.out _).trans (hHeld.2.2.2.1)))))), ((cell_far (p := ⟨gb181, _, none⟩) NB184_181.out _).trans (((cell_far (p := ⟨gb181, _, none⟩) NB184_181.out _).trans (((cell_far (p := ⟨gb181, _, none⟩) NB184_181.out _).trans (hHeld.2.2.2.2))))))⟩ (fun hHeld => ?_)
            clear hK K
            refine pP 11 5 HT_ ?_
            refine done_ (done_of HT_.out (by kernel_rfl)) ?_
            try go_wp2
            refine bodyPost_ret (results_ct rfl _ _ gb181 28 #[.int .i64 a0_0, .slice Ao73 t191.length co73, .slice Ao72 t194.length co72] (0, 0) _ rfl (by refine yW ?_; refine yP (cs := #[.int .i64 a0_0, .slice Ao73 t191.length co73, .slice none 0 0]) ?_ 2 _ rfl; refine yW ?_; refine yP (cs := #[.int .i64 a0_0, .slice none 0 0, .slice none 0 0]) ?_ 1 _ rfl; refine yW ?_; refine yP (cs := #[.int .i64 x182000_1, .slice none 0 0, .slice none 0 0]) ?_ 0 _ rfl; refine yW ?_; exact BK181.out) Try.underlying28 rfl (by kernel_rfl)) rfl ?_
            exact ⟨_, _, eW, xH (xM (xF (p := ⟨gb181, 2, none⟩) (xF (p := ⟨gb181, 1, none⟩) (xF (p := ⟨gb181, 0, none⟩) (xT HO193.out BK181.out (by decide)) (fun _ hk => hk.2) (.int .i64 a0_0)) (fun _ hk => hk.2) (.slice Ao73 t191.length co73)) (fun _ hk => hk.2) (.slice Ao72 t194.length co72)) (fun _ hk => hk.1.2)), xH (xM (xF (p := ⟨gb181, 2, none⟩) (xF (p := ⟨gb181, 1, none⟩) (xF (p := ⟨gb181, 0, none⟩) (xT HO196.out BK181.out (by decide)) (fun _ hk => hk.2) (.int .i64 a0_0)) (fun _ hk => hk.2) (.slice Ao73 t191.length co73)) (fun _ hk => hk.2) (.slice Ao72 t194.length co72)) (fun _ hk => hk.1.1.2)), zH HB.out⟩
        ·rw [if_neg c15] at H
         exact absurd H (by simp)
       ·rw [if_neg c14] at H
        have c14b0 : (((rd_T45 l0_2 x17_1).f0) == a1) = false := beq_eq_false_iff_ne.mpr c14; have c14b1 : (((rd_T45 l0_2 x17_1).f0) != a1) = true := bne_iff_ne.mpr c14; have H' := aM H; clear H
        have p183 : 0 ≤ (x17_1 : Int) := of_decide_eq_true (by first | (with_reducible assumption) | assumption)
        have q183 : x17_1 < (l0_2.length : Int) := of_decide_eq_true (by first | (with_reducible assumption) | assumption)
        obtain ⟨ad183, e183, hx183_0, hx183_1⟩ := at_T45 HR0_2.out x17_1 p183 q183
        cases e183
        replace hx183_0 := (HB.out.cell (World.block_lt_of_cell? w _ hx183_0)).trans hx183_0; replace hx183_1 := (HB.out.cell (World.block_lt_of_cell? w _ hx183_1)).trans hx183_1; replace p183 := eq_true p183; replace q183 := eq_true q183
        go_wp2_with (first | ((with_reducible refine gate_dst (N := 7) rfl ?_); refine bE 7 #[.int .i64 0, .int .i64 0] 45 ?_; intro gb184 hg w77 hbox hb; have BK184 := aM (hbox); have GW184 := gW hg HB.out; have GE184 := GW184; replace HB := aM (zT (zH HB.out) hb); have NB180_184 := nL BK180.out hg; have NB184_180 := nR BK180.out hg; replace BK180 := yK BK180.out hb; have NB181_184 := nL BK181.out hg; have NB184_181 := nR BK181.out hg; replace BK181 := yK BK181.out hb; clear hb hbox hg; have M78 := NB184_180.out; have L78 := NB180_184.out; have M79 := NB184_181.out; have L79 := NB181_184.out; obtain ⟨Z80_0, Z80_1, Y80_0, Y80_1⟩ := y2 BK184.out))
        go_roundg k1
        case measure => have := HK1.out; omega
        case rel => exact ⟨(wrap64 (x17_1 + 1)), (x182000_1), (by first | rfl | (simp; done) | (simp [*]; done)), H', ⟨by have := HK1.out; omega⟩, yG BK180.out, yG BK181.out, ⟨zH HB.out⟩⟩
      ·rw [if_neg c13] at H
       exact absurd H (by simp)
     ·rw [if_neg c12] at H
      exact absurd H (by simp)
    ·rw [if_neg c11] at H
     have c11b0 : decide (x17_1 < (l0_2.length : Int)) = false := decide_eq_false c11; clear c11
     simp only [Option.some.injEq, Prod.mk.injEq] at H
     obtain ⟨rfl, rfl, rfl, rfl⟩ := H; have M81 := NB181_180.out; have L81 := NB180_181.out; have Z82_0 : wr.cell? ⟨gb181, 0, none⟩ = some (.int .i64 x182000_1) := yc BK181.out 0; have Z82_1 : wr.cell? ⟨gb181, 1, none⟩ = some (.slice none 0 0) := yc BK181.out 1; have Z82_2 : wr.cell? ⟨gb181, 2, none⟩ = some (.slice none 0 0) := yc BK181.out 2; have Y82_0 := yZ BK181.out 0; have Y82_1 := yZ BK181.out 1; have Y82_2 := yZ BK181.out 2
     go_wp2
     refine bodyPost_ret (results_ct rfl _ _ gb181 28 #[.int .i64 0, .slice none 0 0, .slice none 0 0] (0, 0) _ rfl (by refine yW ?_; refine yP (cs := #[.int .i64 0, .slice none 0 0, .slice none 0 0]) ?_ 2 _ rfl; refine yW ?_; refine yP (cs := #[.int .i64 0, .slice none 0 0, .slice none 0 0]) ?_ 1 _ rfl; refine yW ?_; refine yP (cs := #[.int .i64 x182000_1, .slice none 0 0, .slice none 0 0]) ?_ 0 _ rfl; refine yW ?_; exact BK181.out) Try.underlying28 rfl (by kernel_rfl)) rfl ?_
     exact ⟨_, _, eW, by first | exact Kd.R_nil _ _ _ _ _ | exact Kd.N_nil _ _ _ _ _ | exact Kd.V_nil _ _ _ _ _ | exact Kd.Q_nil _ _ _ _ _ | exact Kd.S_nil _ _ _ _ _, by first | exact Kd.R_nil _ _ _ _ _ | exact Kd.N_nil _ _ _ _ _ | exact Kd.V_nil _ _ _ _ _ | exact Kd.Q_nil _ _ _ _ _ | exact Kd.S_nil _ _ _ _ _, zH HB.out⟩
 ·replace c4 := Bool.eq_false_iff.mpr c4
  subst c4
  have H1 : (some (0, ([] : List (S45)), ([] : List (S45)), false)) = some (r1, r2, r3, r4) := by rw [if_neg (show ¬ (false = true) by decide)] at H; exact H
  clear H; have H := H1; clear H1
  simp only [Option.some.injEq, Prod.mk.injEq] at H
  obtain ⟨rfl, rfl, rfl, rfl⟩ := H
  go_enter Try.func9, Try.ntmps9
  go_wp2_with (first | ((with_reducible refine gate_dst (N := 2) rfl ?_); refine bE 2 #[.int .i64 a0_0, .slice A0_1 l0_1.length c0_1, .slice A0_2 l0_2.length c0_2] 28 ?_; intro gb180 hg w83 hbox hb; have BK180 := aM (hbox); have GW180 := gW hg HB.out; have GE180 := GW180; replace HB := aM (zT (zH HB.out) hb); clear hb hbox hg) | ((with_reducible refine gate_dst (N := 4) rfl ?_); refine bE 4 #[.int .i64 0, .slice none 0 0, .slice none 0 0] 28 ?_; intro gb181 hg w84 hbox hb; have BK181 := aM (hbox); have GW181 := gW hg HB.out; have GE181 := GW181; replace HB := aM (zT (zH HB.out) hb); have NB180_181 := nL BK180.out hg; have NB181_180 := nR BK180.out hg; replace BK180 := yK BK180.out hb; clear hb hbox hg; have M85 := NB180_181.out; have L85 := NB181_180.out; obtain ⟨Z86_0, Z86_1, Z86_2, Y86_0, Y86_1, Y86_2⟩ := y3 BK180.out) | ((with_reducible refine gate_callee (f := 20) rfl ?_); refine goesL_ (some 11) rfl rfl Try.func20 (by kernel_rfl) rfl #[.agg #[.int .i64 a0_0, .slice A0_1 l0_1.length c0_1, .slice A0_2 l0_2.length c0_2]] rfl mA ?_; (with_reducible refine (spec_GoodBuddy.calls k a0_0 _ _ l0_1 _ _ l0_2 false _ ?side1 ?side2 ?side3 ?side4 A3.out).mono ?_); (case side1 => exact cK HR0_1.out HB.out); (case side2 => exact HC0_1.out); (case side3 => exact cK HR0_2.out HB.out); (case side4 => exact HC0_2.out); rintro e w87 ⟨rfl, hb⟩; refine ⟨_, rfl, ?_⟩; replace BK180 := yK BK180.out hb; replace BK181 := yK BK181.out hb; replace HB := aM (zT (zH HB.out) hb); (try clear hb); obtain ⟨Z88_0, Z88_1, Z88_2, Y88_0, Y88_1, Y88_2⟩ := y3 BK181.out))
  refine bodyPost_ret (results_ct rfl _ _ gb181 28 #[.int .i64 0, .slice none 0 0, .slice none 0 0] (0, 0) _ rfl (by refine yW ?_; refine yP (cs := #[.int .i64 0, .slice none 0 0, .slice none 0 0]) ?_ 2 _ rfl; refine yW ?_; refine yP (cs := #[.int .i64 0, .slice none 0 0, .slice none 0 0]) ?_ 1 _ rfl; refine yW ?_; refine yP (cs := #[.int .i64 0, .slice none 0 0, .slice none 0 0]) ?_ 0 _ rfl; refine yW ?_; exact BK181.out) Try.underlying28 rfl (by kernel_rfl)) rfl ?_
  exact ⟨_, _, eW, by first | exact Kd.R_nil _ _ _ _ _ | exact Kd.N_nil _ _ _ _ _ | exact Kd.V_nil _ _ _ _ _ | exact Kd.Q_nil _ _ _ _ _ | exact Kd.S_nil _ _ _ _ _, by first | exact Kd.R_nil _ _ _ _ _ | exact Kd.N_nil _ _ _ _ _ | exact Kd.V_nil _ _ _ _ _ | exact Kd.Q_nil _ _ _ _ _ | exact Kd.S_nil _ _ _ _ _, zH HB.out⟩

/-! ### impl_Block_35: function 35 (by hand) -/
/-- slices.Clone -/
def impl_Block_35.f (l0 : List (S45)) : Option ((List (S45))) :=
 if l0.length < 8796093022208 then some l0 else none
set_option maxHeartbeats 8000000 in
set_option maxRecDepth 100000 in
theorem impl_Block_35.calls (A0 : Option Addr) (c0 : Nat) (l0 : List (S45)) (r : List (S45)) (w : World) (hr0 : Kd.C k45 w A0 l0.length l0) (hc0 : l0.length ≤ c0) (h : impl_Block_35.f l0 = some r) :
  Calls Try.prog 35 #[.slice A0 l0.length c0] w fun e w' => ∃ v0_ : Value, e = .returned (v0_) ∧ Kd.R k45 45 w' w.heap.size (fun _ => True) v0_ r ∧ Below w.heap.size w w' := by
 unfold impl_Block_35.f at h
 by_cases hl : l0.length < 8796093022208
 case neg => rw [if_neg hl] at h; cases h
 rw [if_pos hl] at h
 obtain rfl := Option.some.inj h; clear h; have LM := aM hl; clear hl; have HR0 := aM hr0; have HC0 := aM hc0; clear hr0 hc0; have HB := aM (Below.refl w.heap.size w)
 cases A0 with
 | none =>
  obtain rfl : l0 = [] := by
   rcases Nat.eq_zero_or_pos l0.length with h0 | h0
   ·exact List.eq_nil_of_length_eq_zero h0
   ·obtain ⟨a, ha, _⟩ := HR0.out.2.2 h0; cases ha
  have he : ∀ w : World, (binOp .eql 26 (.slice none 0 c0) (.slice none 0 0)).run Try.prog w = .ok (.bool true) w := fun _ => rfl
  go_enter Try.func35, Try.ntmps35
  go_wp2
  go_ret
  exact ⟨_, rfl, Kd.R_nil _ _ _ _ _, by repeat (first | exact HB.out | apply zA | apply zN | apply zD)⟩
 | some a_ =>
  have he : ∀ w : World, (binOp .eql 26 (.slice (some a_) l0.length c0) (.slice none 0 0)).run Try.prog w = .ok (.bool false) w := fun _ => rfl
  go_enter Try.func35, Try.ntmps35
  go_wp2_with (first | ((with_reducible refine gate_dst (N := 5) rfl ?_); refine Kd.R_lit k45 _ 45 ?hg (N := 5) ?hd (xs := ([] : List S45)) (inner := []) (ok := fun _ => True) (okp := fun _ => True) ?hr ?hp (fun _ hk => hk) trivial (Below.refl _ _) (Nat.le_refl _) (by simp) ?_; (case hd => rfl); (case hg => rfl); (case hr => first | (go_simp; done) | (go_simp; rfl)); (case hp => exact (Reps.none _ _)); intro v158 w5 ho6 hb hg_ hnew_; clear hg_ hnew_; have HO159 := aM (xL ho6 (zZ (by repeat (first | exact HB.out | apply zA | apply zN | apply zD)))); replace HB := aM (zT (by repeat (first | exact HB.out | apply zA | apply zN | apply zD)) hb); clear hb ho6) | ((with_reducible refine gate_builtin (b := .append) (xs := #[.tmp 5, .tmp 6]) rfl ?_); at_builtin; refine Kd.R_append_rows k45 (w0 := w) w.heap.size rfl (.tmp 5) (.tmp 6) 26 45 ((.agg #[(.int .i64 0), (.int .i64 0)])) 16 rfl Try.underlying26 (by kernel_rfl) rfl (by decide) (by omega) v158 [] l0 _ _ _ (fun _ => True) (fun _ => False) rfl rfl ?aO ?aR (fun _ _ h => h) (fun _ h => h.elim) ?aF ?aB ?aS ?aL ?_; (case aR => exact cK HR0.out HB.out); (case aB => exact (by repeat (first | exact HB.out | apply zA | apply zN | apply zD))); (case aF => exact (fun _ _ => trivial)); (case aO => exact (xH HO159.out)); (case aS => exact (zZ (by repeat (first | exact HB.out | apply zA | apply zN | apply zD)))); (case aL => have := LM.out; simp only [List.length_nil]; omega); intro v161 w9 ho hb hg hat; replace HB := aM (hb); have HO162 := aM (ho); clear HO159; clear ho hb hg hat; obtain ⟨Ao10, co10, eo10⟩ := Kd.R_slice HO162.out; subst eo10))
  go_ret
  exact ⟨_, rfl, xH HO162.out, by repeat (first | exact HB.out | apply zA | apply zN | apply zD)⟩


/-! ### impl_within: function 44 -/
def impl_within.f (a0 : Int) (a1 : Int) (a2 : Int) : Option (Bool) := if a0 ≥ a1 then (some (decide (a0 ≤ a2))) else (some false)
set_option maxHeartbeats 8000000 in
set_option maxRecDepth 100000 in
theorem impl_within.calls (a0 : Int) (a1 : Int) (a2 : Int) (r : Bool) (w : World) (h : impl_within.f a0 a1 a2 = some r) :
  Calls Try.prog 44 #[.int .i64 a0, .int .i64 a1, .int .i64 a2] w fun e w' => e = .returned (.bool r) ∧ Drawn0 w w' := by
 have H : (if a0 ≥ a1 then (some (decide (a0 ≤ a2))) else (some false)) = some r := h; clear h
 by_cases c4 : a0 ≥ a1
 ·rw [if_pos c4] at H
  have c4b0 : decide (a1 ≤ a0) = true := decide_eq_true c4; clear c4; obtain rfl := Option.some.inj H
  go_enter Try.func44, Try.ntmps44
  go_wp2
  go_ret
  exact ⟨by first | rfl | (simp; done) | (simp [*]; done), by repeat (first | exact Drawn0.refl _ | apply Drawn0.step)⟩
 ·rw [if_neg c4] at H
  have c4b0 : decide (a1 ≤ a0) = false := decide_eq_false c4; clear c4; obtain rfl := Option.some.inj H
  go_enter Try.func44, Try.ntmps44
  go_wp2
  go_ret
  exact ⟨by first | rfl | (simp; done) | (simp [*]; done), by repeat (first | exact Drawn0.refl _ | apply Drawn0.step)⟩

end Go.Proofs.Ytbjcioihomeikaa.PFnBuddies
