/- The walks of FnBuddies: Go's calls come to what the Lean functions beside them say; no condition. -/
import Derived.Test.YtbjcioihomeikaaQFnBuddiesx0
import Derived.Test.YtbjcioihomeikaaQFnBuddiesx2
namespace Go.Proofs.Ytbjcioihomeikaa.PFnBuddies
open Go.RowKit Go.Proofs.YtbjcioihomeikaaW.PrintWords Go.Proofs.YtbjcioihomeikaaW.PrintLast Go.Proofs.YtbjcioihomeikaaW.PrintMore
attribute [local go_sem] max2_int min2_int max_two min_two max_three min_three max_four min_four   -- for this text's walks alone
set_option linter.unusedVariables false
set_option linter.unusedSimpArgs false
set_option maxRecDepth 100000

/-! ### spec_l6List: function 55 -/
def spec_l6List.l0 : Nat → List (S45) → Int → Int → List (S45) → Int → Int → Option (Int × Bool)
 | 0, _, _, _, _, _, _ => none
 | k + 1, x0, x1, x6, x9, x10, x11 => if x11 < x10 then (if 0 ≤ x11 then (if x11 < (x9.length : Int) then ((spec_l6Block.f ((rd_T45 x9 x11).f0) ((rd_T45 x9 x11).f1)).bind fun t111 => (if t111 = true then (if 0 ≤ (IntKind.u64.wrap ((rd_T45 x9 x11).f1)) then (if ((rd_T45 x9 x11).f0) > (wrap64 (x1 - (shl .i64 1 (IntKind.u64.wrap ((rd_T45 x9 x11).f1))))) then (some (0, false)) else (if x11 > 0 then (if 0 ≤ (wrap64 (x11 - 1)) then (if (wrap64 (x11 - 1)) < (x0.length : Int) then (if 0 ≤ (IntKind.u64.wrap ((rd_T45 x0 (wrap64 (x11 - 1))).f1)) then (if (wrap64 (((rd_T45 x0 (wrap64 (x11 - 1))).f0) + (shl .i64 1 (IntKind.u64.wrap ((rd_T45 x0 (wrap64 (x11 - 1))).f1))))) > ((rd_T45 x9 x11).f0) then (some (0, false)) else (spec_l6List.l0 k x0 x1 (wrap64 (x6 + (shl .i64 1 (IntKind.u64.wrap ((rd_T45 x9 x11).f1))))) x9 x10 (wrap64 (x11 + 1)))) else (none)) else (none)) else (none)) else (spec_l6List.l0 k x0 x1 (wrap64 (x6 + (shl .i64 1 (IntKind.u64.wrap ((rd_T45 x9 x11).f1))))) x9 x10 (wrap64 (x11 + 1))))) else (none)) else (some (0, false)))) else (none)) else (none)) else (some (x6, true))
def spec_l6List.f (k : Nat) (l0 : List (S45)) (a1 : Int) : Option (Int × Bool) := spec_l6List.l0 k l0 a1 0 l0 (l0.length : Int) 0
theorem spec_l6List.mono_l : ∀ k, (∀ y0 y1 y2 y3 y4 y5, LeO (spec_l6List.l0 k y0 y1 y2 y3 y4 y5) (spec_l6List.l0 (k + 1) y0 y1 y2 y3 y4 y5))
 | 0 => fun _ _ _ _ _ _ r h => by change none = some r at h; cases h
 | k + 1 => by
  have ih0 := spec_l6List.mono_l k
  ·intro y0 y1 y2 y3 y4 y5
   unfold spec_l6List.l0
   repeat' first
   | (with_reducible exact ih0 _ _ _ _ _ _)
   | (with_reducible exact LeO.refl _)
   | (with_reducible exact LeO.none _)
   | (with_reducible refine LeO.ite ?_ ?_)
   | (with_reducible refine LeO.bind ?_ (fun _ => ?_))
   | exact ih0 _ _ _ _ _ _
   | exact LeO.none _
   | refine LeO.ite ?_ ?_
   | refine LeO.bind ?_ (fun _ => ?_)
theorem spec_l6List.mono : ∀ a0 a1 k, LeO (spec_l6List.f k a0 a1) (spec_l6List.f (k + 1) a0 a1) := by
 intro a0 a1 k
 have ih0 := spec_l6List.mono_l k
 unfold spec_l6List.f
 repeat' first
   | (with_reducible exact ih0 _ _ _ _ _ _)
   | (with_reducible exact LeO.refl _)
   | (with_reducible exact LeO.none _)
   | (with_reducible refine LeO.ite ?_ ?_)
   | (with_reducible refine LeO.bind ?_ (fun _ => ?_))
   | exact ih0 _ _ _ _ _ _
   | exact LeO.none _
   | refine LeO.ite ?_ ?_
   | refine LeO.bind ?_ (fun _ => ?_)
def spec_l6List.T5 : Bool × List (List Nat × List Nat) := (true, [([], []), ([0], [0]), ([1], [1]), ([2, 1], [2]), ([3], [3]), ([4, 3], [3, 4]), ([3], [3]), ([3], [3]), ([7, 3], [3, 7]), ([8, 3], [3, 8]), ([9, 3], [3, 9]), ([6, 10, 3], [3, 6, 10]), ([5, 11, 3], [3, 5, 11]), ([3, 12], [3, 12]), ([13, 3], [13]), ([14], [14]), ([15, 14], [14, 15]), ([16, 14, 14], [14, 16]), ([17], [17]), ([17], [17]), ([19, 17], [17, 19]), ([18, 20, 17], [17, 18, 20]), ([21, 17], [17, 21]), ([22, 17], [17, 22]), ([17], [17]), ([17], [17]), ([25, 17], [17, 25]), ([24, 26, 17], [17, 24, 26]), ([27, 17], [17, 27]), ([28, 17], [17, 28]), ([29, 17], [17, 29]), ([30, 17], [17, 30]), ([23, 31, 17], [17, 23, 31]), ([17], [17]), ([33, 17], [17, 33]), ([32, 34, 17], [17, 32, 34]), ([17, 35, 14], [14, 17, 35]), ([14, 36], [14, 36])])
def spec_l6List.B5 : List Nat := [0, 1, 3, 7, 15, 31, 15, 15, 143, 399, 911, 1999, 4095, 8191, 16383, 32767, 65535, 131071, 262143, 262143, 786431, 2097151, 4194303, 8388607, 262143, 262143, 33816575, 117702655, 251920383, 520355839, 1057226751, 2130968575, 4294967295, 262143, 8590196735, 34359738367, 68719476735, 137438953471]
theorem spec_l6List.tab5 : rtab .any (opsOf Try.f55 5) = spec_l6List.T5 := by kernel_rfl
theorem spec_l6List.bits5 : waitsOk spec_l6List.T5.2 spec_l6List.B5 = true := by kernel_rfl
set_option maxHeartbeats 8000000 in
set_option maxRecDepth 100000 in
theorem spec_l6List.calls (k : Nat) (A0 : Option Addr) (c0 : Nat) (l0 : List (S45)) (a1 : Int) (r1 : Int) (r2 : Bool) (w : World) (hr0 : Kd.C k45 w A0 l0.length l0) (hc0 : l0.length ≤ c0) (h : spec_l6List.f k l0 a1 = some (r1, r2)) :
  Calls Try.prog 55 #[.slice A0 l0.length c0, .int .i64 a1] w fun e w' => e = .returned (.tuple #[.int .i64 r1, .bool r2]) ∧ Below w.heap.size w w' := by
 have hu45 := Try.underlying45; have HR0 := aM hr0; have HC0 := aM hc0; clear hr0 hc0; have HB := aM (Below.refl w.heap.size w); have H : (spec_l6List.l0 k l0 a1 0 l0 (l0.length : Int) 0) = some (r1, r2) := h; clear h; have H' := aM H; clear H
 go_enter Try.func55, Try.ntmps55
 go_wp2
 go_loopg [6, 11] k (fun kq v6 v11 w' => ∃ (x6_1 : Int) (x11_1 : Int), v6 = .int .i64 x6_1 ∧ v11 = .int .i64 x11_1 ∧ Aside0 (spec_l6List.l0 kq l0 a1 x6_1 l0 (l0.length : Int) x11_1 = some (r1, r2)) ∧ Aside0 (kq ≤ k) ∧ Aside0 (Below w.heap.size w w'))
 case atStart => exact ⟨(0), (0), (by first | rfl | (simp; done) | (simp [*]; done)), (by first | rfl | (simp; done) | (simp [*]; done)), H', ⟨Nat.le_refl _⟩, ⟨zH HB.out⟩⟩
 case round =>
  clear H'; obtain ⟨x6_1, x11_1, rfl, rfl, HA, HK1, HB⟩ := hrel
  cases gk with
  | zero => exact absurd HA.out (fun h_ => by change none = some _ at h_; cases h_)
  | succ k1 =>
   have H := HA.out; clear HA
   simp only [spec_l6List.l0] at H
   by_cases c3 : x11_1 < (l0.length : Int)
   ·rw [if_pos c3] at H
    have c3b0 : decide (x11_1 < (l0.length : Int)) = true := decide_eq_true c3; clear c3
    by_cases c4 : 0 ≤ x11_1
    ·rw [if_pos c4] at H
     have c4b0 : decide (0 ≤ x11_1) = true := decide_eq_true c4; clear c4
     by_cases c5 : x11_1 < (l0.length : Int)
     ·rw [if_pos c5] at H
      have c5b0 : decide (x11_1 < (l0.length : Int)) = true := decide_eq_true c5; clear c5; replace H := Option.bind_eq_some_iff.mp H; obtain ⟨t111, A60, H⟩ := H; replace H : (if t111 = true then (if 0 ≤ (IntKind.u64.wrap ((rd_T45 l0 x11_1).f1)) then (if ((rd_T45 l0 x11_1).f0) > (wrap64 (a1 - (shl .i64 1 (IntKind.u64.wrap ((rd_T45 l0 x11_1).f1))))) then (some (0, false)) else (if x11_1 > 0 then (if 0 ≤ (wrap64 (x11_1 - 1)) then (if (wrap64 (x11_1 - 1)) < (l0.length : Int) then (if 0 ≤ (IntKind.u64.wrap ((rd_T45 l0 (wrap64 (x11_1 - 1))).f1)) then (if (wrap64 (((rd_T45 l0 (wrap64 (x11_1 - 1))).f0) + (shl .i64 1 (IntKind.u64.wrap ((rd_T45 l0 (wrap64 (x11_1 - 1))).f1))))) > ((rd_T45 l0 x11_1).f0) then (some (0, false)) else (spec_l6List.l0 k1 l0 a1 (wrap64 (x6_1 + (shl .i64 1 (IntKind.u64.wrap ((rd_T45 l0 x11_1).f1))))) l0 (l0.length : Int) (wrap64 (x11_1 + 1)))) else (none)) else (none)) else (none)) else (spec_l6List.l0 k1 l0 a1 (wrap64 (x6_1 + (shl .i64 1 (IntKind.u64.wrap ((rd_T45 l0 x11_1).f1))))) l0 (l0.length : Int) (wrap64 (x11_1 + 1))))) else (none)) else (some (0, false))) = some (r1, r2) := H; have A6 := aM A60; clear A60
      by_cases c7 : t111 = true
      ·subst c7
       have H1 : (if 0 ≤ (IntKind.u64.wrap ((rd_T45 l0 x11_1).f1)) then (if ((rd_T45 l0 x11_1).f0) > (wrap64 (a1 - (shl .i64 1 (IntKind.u64.wrap ((rd_T45 l0 x11_1).f1))))) then (some (0, false)) else (if x11_1 > 0 then (if 0 ≤ (wrap64 (x11_1 - 1)) then (if (wrap64 (x11_1 - 1)) < (l0.length : Int) then (if 0 ≤ (IntKind.u64.wrap ((rd_T45 l0 (wrap64 (x11_1 - 1))).f1)) then (if (wrap64 (((rd_T45 l0 (wrap64 (x11_1 - 1))).f0) + (shl .i64 1 (IntKind.u64.wrap ((rd_T45 l0 (wrap64 (x11_1 - 1))).f1))))) > ((rd_T45 l0 x11_1).f0) then (some (0, false)) else (spec_l6List.l0 k1 l0 a1 (wrap64 (x6_1 + (shl .i64 1 (IntKind.u64.wrap ((rd_T45 l0 x11_1).f1))))) l0 (l0.length : Int) (wrap64 (x11_1 + 1)))) else (none)) else (none)) else (none)) else (spec_l6List.l0 k1 l0 a1 (wrap64 (x6_1 + (shl .i64 1 (IntKind.u64.wrap ((rd_T45 l0 x11_1).f1))))) l0 (l0.length : Int) (wrap64 (x11_1 + 1))))) else (none)) = some (r1, r2) := by rw [if_pos rfl] at H; exact H
       clear H; have H := H1; clear H1; obtain ⟨ji8, hji8⟩ : ∃ j_ : Int, (IntKind.u64.wrap ((rd_T45 l0 x11_1).f1)) = j_ := ⟨_, rfl⟩
       replace H : (if 0 ≤ (ji8) then (if ((rd_T45 l0 x11_1).f0) > (wrap64 (a1 - (shl .i64 1 (ji8)))) then (some (0, false)) else (if x11_1 > 0 then (if 0 ≤ (wrap64 (x11_1 - 1)) then (if (wrap64 (x11_1 - 1)) < (l0.length : Int) then (if 0 ≤ (IntKind.u64.wrap ((rd_T45 l0 (wrap64 (x11_1 - 1))).f1)) then (if (wrap64 (((rd_T45 l0 (wrap64 (x11_1 - 1))).f0) + (shl .i64 1 (IntKind.u64.wrap ((rd_T45 l0 (wrap64 (x11_1 - 1))).f1))))) > ((rd_T45 l0 x11_1).f0) then (some (0, false)) else (spec_l6List.l0 k1 l0 a1 (wrap64 (x6_1 + (shl .i64 1 (ji8)))) l0 (l0.length : Int) (wrap64 (x11_1 + 1)))) else (none)) else (none)) else (none)) else (spec_l6List.l0 k1 l0 a1 (wrap64 (x6_1 + (shl .i64 1 (ji8)))) l0 (l0.length : Int) (wrap64 (x11_1 + 1))))) else (none)) = some (r1, r2) := by first | (rw [hji8] at H; exact H) | (simp only [hji8] at H ⊢; exact H)
       (try rw [hji8] at A6)
       by_cases c9 : 0 ≤ (ji8)
       ·rw [if_pos c9] at H
        have c9b0 := eq_true c9; have c9b1 : decide (0 ≤ (ji8)) = true := decide_eq_true c9; clear c9; obtain ⟨ji10, hji10⟩ : ∃ j_ : Int, (shl .i64 1 (ji8)) = j_ := ⟨_, rfl⟩
        replace H : (if ((rd_T45 l0 x11_1).f0) > (wrap64 (a1 - (ji10))) then (some (0, false)) else (if x11_1 > 0 then (if 0 ≤ (wrap64 (x11_1 - 1)) then (if (wrap64 (x11_1 - 1)) < (l0.length : Int) then (if 0 ≤ (IntKind.u64.wrap ((rd_T45 l0 (wrap64 (x11_1 - 1))).f1)) then (if (wrap64 (((rd_T45 l0 (wrap64 (x11_1 - 1))).f0) + (shl .i64 1 (IntKind.u64.wrap ((rd_T45 l0 (wrap64 (x11_1 - 1))).f1))))) > ((rd_T45 l0 x11_1).f0) then (some (0, false)) else (spec_l6List.l0 k1 l0 a1 (wrap64 (x6_1 + (ji10))) l0 (l0.length : Int) (wrap64 (x11_1 + 1)))) else (none)) else (none)) else (none)) else (spec_l6List.l0 k1 l0 a1 (wrap64 (x6_1 + (ji10))) l0 (l0.length : Int) (wrap64 (x11_1 + 1))))) = some (r1, r2) := by first | (rw [hji10] at H; exact H) | (simp only [hji10] at H ⊢; exact H)
        (try rw [hji10] at A6)
        have hji10_ : (IntKind.i64.wrap (1 * 2 ^ min (ji8).toNat 64)) = ji10 := hji10; have hji10z : (ji8) ≤ 64 → (IntKind.i64.wrap (1 * 2 ^ (ji8).toNat)) = ji10 := shl_small hji10
        have hji10u : (IntKind.i64.wrap (2 ^ min (ji8).toNat 64)) = ji10 := by have h_ := hji10_; rw [Int.one_mul] at h_; exact h_
        have hji10v : (ji8) ≤ 64 → (IntKind.i64.wrap (2 ^ (ji8).toNat)) = ji10 := fun hle_ => by have h_ := hji10z hle_; rw [Int.one_mul] at h_; exact h_
        have hji10y : (wrap64 (1 * 2 ^ min (ji8).toNat 64)) = ji10 := (i64_w _).symm.trans hji10_
        have hji10x : (ji8) ≤ 64 → (wrap64 (1 * 2 ^ (ji8).toNat)) = ji10 := fun h_ => (i64_w _).symm.trans (hji10z h_)
        by_cases c11 : ((rd_T45 l0 x11_1).f0) > (wrap64 (a1 - (ji10)))
        ·rw [if_pos c11] at H
         have c11b0 : decide ((wrap64 (a1 - (ji10))) < ((rd_T45 l0 x11_1).f0)) = true := decide_eq_true c11; clear c11
         simp only [Option.some.injEq, Prod.mk.injEq] at H
         obtain ⟨rfl, rfl⟩ := H
         have p109 : 0 ≤ (x11_1 : Int) := of_decide_eq_true (by first | (with_reducible assumption) | assumption)
         have q109 : x11_1 < (l0.length : Int) := of_decide_eq_true (by first | (with_reducible assumption) | assumption)
         obtain ⟨ad109, e109, hx109_0, hx109_1⟩ := at_T45 HR0.out x11_1 p109 q109
         cases e109
         replace hx109_0 := (HB.out.cell (World.block_lt_of_cell? w _ hx109_0)).trans hx109_0; replace hx109_1 := (HB.out.cell (World.block_lt_of_cell? w _ hx109_1)).trans hx109_1; replace p109 := eq_true p109; replace q109 := eq_true q109
         try go_wp2_with (first | ((with_reducible refine gate_dst (N := 8) rfl ?_); refine bE 8 #[.int .i64 0, .int .i64 0] 45 ?_; intro gb110 hg w12 hbox hb; have BK110 := aM (hbox); have GW110 := gW hg HB.out; have GE110 := GW110; replace HB := aM (zT (zH HB.out) hb); clear hb hbox hg; obtain ⟨Z13_0, Z13_1, Y13_0, Y13_1⟩ := y2 BK110.out))
         have n0_ : Aside0 (((w12.setCell ⟨gb110, 0, none⟩ (.int .i64 ((rd_T45 l0 x11_1).f0))).setCell ⟨gb110, 1, none⟩ (.int .i64 ((rd_T45 l0 x11_1).f1))).heap[gb110]? = some (.cells #[.int .i64 ((rd_T45 l0 x11_1).f0), .int .i64 ((rd_T45 l0 x11_1).f1)] 45 (0, 0))) := ⟨by refine yW ?_; refine yP (cs := #[.int .i64 ((rd_T45 l0 x11_1).f0), .int .i64 0]) ?_ 1 _ rfl; refine yW ?_; refine yP (cs := #[.int .i64 0, .int .i64 0]) ?_ 0 _ rfl; refine yW ?_; exact BK110.out⟩
         have n1_ : Aside0 (Below w.heap.size w ((w12.setCell ⟨gb110, 0, none⟩ (.int .i64 ((rd_T45 l0 x11_1).f0))).setCell ⟨gb110, 1, none⟩ (.int .i64 ((rd_T45 l0 x11_1).f1)))) := ⟨zH HB.out⟩
         (try clear BK110); (try clear HB)
         generalize ((w12.setCell ⟨gb110, 0, none⟩ (.int .i64 ((rd_T45 l0 x11_1).f0))).setCell ⟨gb110, 1, none⟩ (.int .i64 ((rd_T45 l0 x11_1).f1))) = w14 at n0_ n1_ ⊢
         have BK110 := n0_; have HB := n1_; clear n0_ n1_; replace BK110 := aM (yD BK110.out); replace HB := aM (zD HB.out)
         refine start_ (n := 38) (S := fun w' => w'.cell? ⟨gb110, 0, none⟩ = some (.int .i64 ((rd_T45 l0 x11_1).f0)) ∧ w'.cell? ⟨gb110, 1, none⟩ = some (.int .i64 ((rd_T45 l0 x11_1).f1))) (ds := []) #[fF,fF,fF,fF,fF,fF,fF,fF,fF,fF,fF,fF,fF,fF,fF,fF,fF,fF,fF,fF,fF,fF,fF,fF,fF,fF,fF,fF,fF,fF,fF,fF,fF,fF,fF,fF,fF,fF] (by kernel_rfl) rfl rfl ⟨yc BK110.out 0, yc BK110.out 1⟩ (fun hHeld => ?_); refine with_tabW spec_l6List.tab5 spec_l6List.bits5 (fun HT_ HW_ => ?_)
         generalize w14.drew = w15 at BK110 HB hHeld ⊢
         refine tK 0 16 HT_ HW_ hHeld ?_
         refine oN 1 (some 17) HT_ (fun K hK => ?_)
         refine gS Try.func57 (by kernel_rfl) rfl #[.agg #[.int .i64 ((rd_T45 l0 x11_1).f0), .int .i64 ((rd_T45 l0 x11_1).f1)]] (by rfl) rfl rfl ?_
         with_reducible refine (spec_l6Block.calls ((rd_T45 l0 x11_1).f0) ((rd_T45 l0 x11_1).f1) true _ A6.out).mono ?_
         rintro e w16 ⟨rfl, hb⟩
         refine ⟨_, rfl, ?_⟩
         replace BK110 := yK BK110.out hb; replace HB := aM (zT (zH HB.out) hb)
         (try clear hb)
         refine hK.out _ _ ⟨yc BK110.out 0, yc BK110.out 1⟩ (fun hHeld => ?_)
         clear hK K; refine nN 17 ?_
         refine pP 2 18 HT_ ?_
         refine pP 3 19 HT_ ?_
         refine pP 4 20 HT_ ?_
         refine pP 6 22 HT_ ?_
         refine pP 7 23 HT_ ?_
         refine tK 5 21 HT_ HW_ hHeld ?_
         refine tK 8 24 HT_ HW_ hHeld ?_
         refine pP 9 25 HT_ ?_
         refine pP 10 26 HT_ ?_
         refine pP 11 27 HT_ ?_
         refine pP 12 28 HT_ ?_
         refine pP 13 29 HT_ ?_
         refine pP 14 30 HT_ ?_
         refine pU 15 31 HT_ ?_
         refine pU 16 32 HT_ ?_
         refine pU 17 33 HT_ ?_
         refine pU 18 34 HT_ ?_
         refine pU 19 35 HT_ ?_
         refine pU 20 36 HT_ ?_
         refine pU 21 37 HT_ ?_
         refine pU 22 38 HT_ ?_
         refine pU 23 39 HT_ ?_
         refine pU 24 40 HT_ ?_
         refine pU 25 41 HT_ ?_
         refine pU 26 42 HT_ ?_
         refine pU 27 43 HT_ ?_
         refine pU 28 44 HT_ ?_
         refine pU 29 45 HT_ ?_
         refine pU 30 46 HT_ ?_
         refine pU 31 47 HT_ ?_
         refine pU 32 48 HT_ ?_
         refine pU 33 49 HT_ ?_
         refine pU 34 50 HT_ ?_
         refine pU 35 51 HT_ ?_
         refine pU 36 52 HT_ ?_
         refine pP 37 53 HT_ ?_
         refine done_ (done_of HT_.out (by kernel_rfl)) ?_
         try go_wp2
         go_ret2
         exact ⟨by first | rfl | (simp [errW_none, errW_some] <;> rfl) | (simp only [← hji8, ← hji10]; first | rfl | (simp [errW_none, errW_some] <;> rfl)) | (simp [*, errW_none, errW_some] <;> rfl), zH HB.out⟩
        ·rw [if_neg c11] at H
         have c11b0 : decide ((wrap64 (a1 - (ji10))) < ((rd_T45 l0 x11_1).f0)) = false := decide_eq_false c11; clear c11
         by_cases c17 : x11_1 > 0
         ·rw [if_pos c17] at H
          have c17b0 : decide (0 < x11_1) = true := decide_eq_true c17; clear c17; obtain ⟨ji18, hji18⟩ : ∃ j_ : Int, (wrap64 (x11_1 - 1)) = j_ := ⟨_, rfl⟩
          replace H : (if 0 ≤ (ji18) then (if (ji18) < (l0.length : Int) then (if 0 ≤ (IntKind.u64.wrap ((rd_T45 l0 (ji18)).f1)) then (if (wrap64 (((rd_T45 l0 (ji18)).f0) + (shl .i64 1 (IntKind.u64.wrap ((rd_T45 l0 (ji18)).f1))))) > ((rd_T45 l0 x11_1).f0) then (some (0, false)) else (spec_l6List.l0 k1 l0 a1 (wrap64 (x6_1 + (ji10))) l0 (l0.length : Int) (wrap64 (x11_1 + 1)))) else (none)) else (none)) else (none)) = some (r1, r2) := by first | (rw [hji18] at H; exact H) | (simp only [hji18] at H ⊢; exact H)
          (try rw [hji18] at A6)
          have hji18w : (IntKind.i64.wrap (x11_1 - 1)) = ji18 := (i64_w _).trans hji18
          by_cases c19 : 0 ≤ (ji18)
          ·rw [if_pos c19] at H
           have c19b0 : decide (0 ≤ (ji18)) = true := decide_eq_true c19; clear c19
           by_cases c20 : (ji18) < (l0.length : Int)
           ·rw [if_pos c20] at H
            have c20b0 : decide ((ji18) < (l0.length : Int)) = true := decide_eq_true c20; clear c20; obtain ⟨ji21, hji21⟩ : ∃ j_ : Int, (IntKind.u64.wrap ((rd_T45 l0 (ji18)).f1)) = j_ := ⟨_, rfl⟩
            replace H : (if 0 ≤ (ji21) then (if (wrap64 (((rd_T45 l0 (ji18)).f0) + (shl .i64 1 (ji21)))) > ((rd_T45 l0 x11_1).f0) then (some (0, false)) else (spec_l6List.l0 k1 l0 a1 (wrap64 (x6_1 + (ji10))) l0 (l0.length : Int) (wrap64 (x11_1 + 1)))) else (none)) = some (r1, r2) := by first | (rw [hji21] at H; exact H) | (simp only [hji21] at H ⊢; exact H)
            (try rw [hji21] at A6)
            by_cases c22 : 0 ≤ (ji21)
            ·rw [if_pos c22] at H
             have c22b0 := eq_true c22; have c22b1 : decide (0 ≤ (ji21)) = true := decide_eq_true c22; clear c22; obtain ⟨ji23, hji23⟩ : ∃ j_ : Int, (shl .i64 1 (ji21)) = j_ := ⟨_, rfl⟩
             replace H : (if (wrap64 (((rd_T45 l0 (ji18)).f0) + (ji23))) > ((rd_T45 l0 x11_1).f0) then (some (0, false)) else (spec_l6List.l0 k1 l0 a1 (wrap64 (x6_1 + (ji10))) l0 (l0.length : Int) (wrap64 (x11_1 + 1)))) = some (r1, r2) := by first | (rw [hji23] at H; exact H) | (simp only [hji23] at H ⊢; exact H)
             (try rw [hji23] at A6)
             have hji23_ : (IntKind.i64.wrap (1 * 2 ^ min (ji21).toNat 64)) = ji23 := hji23; have hji23z : (ji21) ≤ 64 → (IntKind.i64.wrap (1 * 2 ^ (ji21).toNat)) = ji23 := shl_small hji23
             have hji23u : (IntKind.i64.wrap (2 ^ min (ji21).toNat 64)) = ji23 := by have h_ := hji23_; rw [Int.one_mul] at h_; exact h_
             have hji23v : (ji21) ≤ 64 → (IntKind.i64.wrap (2 ^ (ji21).toNat)) = ji23 := fun hle_ => by have h_ := hji23z hle_; rw [Int.one_mul] at h_; exact h_
             have hji23y : (wrap64 (1 * 2 ^ min (ji21).toNat 64)) = ji23 := (i64_w _).symm.trans hji23_
             have hji23x : (ji21) ≤ 64 → (wrap64 (1 * 2 ^ (ji21).toNat)) = ji23 := fun h_ => (i64_w _).symm.trans (hji23z h_)
             by_cases c24 : (wrap64 (((rd_T45 l0 (ji18)).f0) + (ji23))) > ((rd_T45 l0 x11_1).f0)
             ·rw [if_pos c24] at H
              have c24b0 : decide (((rd_T45 l0 x11_1).f0) < (wrap64 (((rd_T45 l0 (ji18)).f0) + (ji23)))) = true := decide_eq_true c24; clear c24
              simp only [Option.some.injEq, Prod.mk.injEq] at H
              obtain ⟨rfl, rfl⟩ := H
              have p109 : 0 ≤ (x11_1 : Int) := of_decide_eq_true (by first | (with_reducible assumption) | assumption)
              have q109 : x11_1 < (l0.length : Int) := of_decide_eq_true (by first | (with_reducible assumption) | assumption)
              obtain ⟨ad109, e109, hx109_0, hx109_1⟩ := at_T45 HR0.out x11_1 p109 q109
              cases e109
              replace hx109_0 := (HB.out.cell (World.block_lt_of_cell? w _ hx109_0)).trans hx109_0; replace hx109_1 := (HB.out.cell (World.block_lt_of_cell? w _ hx109_1)).trans hx109_1; replace p109 := eq_true p109; replace q109 := eq_true q109
              try go_wp2_with (first | ((with_reducible refine gate_dst (N := 8) rfl ?_); refine bE 8 #[.int .i64 0, .int .i64 0] 45 ?_; intro gb110 hg w25 hbox hb; have BK110 := aM (hbox); have GW110 := gW hg HB.out; have GE110 := GW110; replace HB := aM (zT (zH HB.out) hb); clear hb hbox hg; obtain ⟨Z26_0, Z26_1, Y26_0, Y26_1⟩ := y2 BK110.out))
              have n0_ : Aside0 (((w25.setCell ⟨gb110, 0, none⟩ (.int .i64 ((rd_T45 l0 x11_1).f0))).setCell ⟨gb110, 1, none⟩ (.int .i64 ((rd_T45 l0 x11_1).f1))).heap[gb110]? = some (.cells #[.int .i64 ((rd_T45 l0 x11_1).f0), .int .i64 ((rd_T45 l0 x11_1).f1)] 45 (0, 0))) := ⟨by refine yW ?_; refine yP (cs := #[.int .i64 ((rd_T45 l0 x11_1).f0), .int .i64 0]) ?_ 1 _ rfl; refine yW ?_; refine yP (cs := #[.int .i64 0, .int .i64 0]) ?_ 0 _ rfl; refine yW ?_; exact BK110.out⟩
              have n1_ : Aside0 (Below w.heap.size w ((w25.setCell ⟨gb110, 0, none⟩ (.int .i64 ((rd_T45 l0 x11_1).f0))).setCell ⟨gb110, 1, none⟩ (.int .i64 ((rd_T45 l0 x11_1).f1)))) := ⟨zH HB.out⟩
              (try clear BK110); (try clear HB)
              generalize ((w25.setCell ⟨gb110, 0, none⟩ (.int .i64 ((rd_T45 l0 x11_1).f0))).setCell ⟨gb110, 1, none⟩ (.int .i64 ((rd_T45 l0 x11_1).f1))) = w27 at n0_ n1_ ⊢
              have BK110 := n0_; have HB := n1_; clear n0_ n1_; replace BK110 := aM (yD BK110.out); replace HB := aM (zD HB.out)
              have p112 : 0 ≤ ((ji18) : Int) := of_decide_eq_true (by first | (with_reducible assumption) | assumption)
              have q112 : (ji18) < (l0.length : Int) := of_decide_eq_true (by first | (with_reducible assumption) | assumption)
              obtain ⟨ad112, e112, hx112_0, hx112_1⟩ := at_T45 HR0.out (ji18) p112 q112; have hw112_1 := hx112_1; have hw112_0 := hx112_0
              obtain rfl : ad109 = ad112 := (by injection e112)
              replace hx112_0 := (HB.out.cell (World.block_lt_of_cell? w _ hx112_0)).trans hx112_0; replace hx112_1 := (HB.out.cell (World.block_lt_of_cell? w _ hx112_1)).trans hx112_1; replace p112 := eq_true p112; replace q112 := eq_true q112
              have p113 : 0 ≤ ((ji18) : Int) := of_decide_eq_true (by first | (with_reducible assumption) | assumption)
              have q113 : (ji18) < (l0.length : Int) := of_decide_eq_true (by first | (with_reducible assumption) | assumption)
              obtain ⟨ad113, e113, hx113_0, hx113_1⟩ := at_T45 HR0.out (ji18) p113 q113; have hw113_1 := hx113_1; have hw113_0 := hx113_0
              obtain rfl : ad109 = ad113 := (by injection e113)
              replace hx113_0 := (HB.out.cell (World.block_lt_of_cell? w _ hx113_0)).trans hx113_0; replace hx113_1 := (HB.out.cell (World.block_lt_of_cell? w _ hx113_1)).trans hx113_1; replace p113 := eq_true p113; replace q113 := eq_true q113
              refine start_ (n := 38) (S := fun w' => w'.cell? ⟨gb110, 0, none⟩ = some (.int .i64 ((rd_T45 l0 x11_1).f0)) ∧ w'.cell? ⟨gb110, 1, none⟩ = some (.int .i64 ((rd_T45 l0 x11_1).f1)) ∧ w'.cell? (ad109.add (((ji18)).toNat * 2)) = some (.int .i64 ((rd_T45 l0 (ji18)).f0)) ∧ w'.cell? ⟨(ad109.add (((ji18)).toNat * 2)).block, (ad109.add (((ji18)).toNat * 2)).off + 1, none⟩ = some (.int .i64 ((rd_T45 l0 (ji18)).f1)) ∧ w'.cell? (ad109.add (((ji18)).toNat * 2)) = some (.int .i64 ((rd_T45 l0 (ji18)).f0)) ∧ w'.cell? ⟨(ad109.add (((ji18)).toNat * 2)).block, (ad109.add (((ji18)).toNat * 2)).off + 1, none⟩ = some (.int .i64 ((rd_T45 l0 (ji18)).f1))) (ds := []) #[fF,fF,fF,fF,fF,fF,fF,fF,fF,fF,fF,fF,fF,fF,fF,fF,fF,fF,fF,fF,fF,fF,fF,fF,fF,fF,fF,fF,fF,fF,fF,fF,fF,fF,fF,fF,fF,fF] (by kernel_rfl) rfl rfl ⟨yc BK110.out 0, yc BK110.out 1, ((HB.out.cell (World.block_lt_of_cell? w _ hw112_0)).trans hw112_0), ((HB.out.cell (World.block_lt_of_cell? w _ hw112_1)).trans hw112_1), ((HB.out.cell (World.block_lt_of_cell? w _ hw113_0)).trans hw113_0), ((HB.out.cell (World.block_lt_of_cell? w _ hw113_1)).trans hw113_1)⟩ (fun hHeld => ?_); refine with_tabW spec_l6List.tab5 spec_l6List.bits5 (fun HT_ HW_ => ?_)
              generalize w27.drew = w28 at BK110 HB hx112_0 hx112_1 hx113_0 hx113_1 hHeld ⊢
              refine tK 0 16 HT_ HW_ hHeld ?_
              refine oN 1 (some 17) HT_ (fun K hK => ?_)
              refine gS Try.func57 (by kernel_rfl) rfl #[.agg #[.int .i64 ((rd_T45 l0 x11_1).f0), .int .i64 ((rd_T45 l0 x11_1).f1)]] (by rfl) rfl rfl ?_
              with_reducible refine (spec_l6Block.calls ((rd_T45 l0 x11_1).f0) ((rd_T45 l0 x11_1).f1) true _ A6.out).mono ?_
              rintro e w29 ⟨rfl, hb⟩
              refine ⟨_, rfl, ?_⟩
              replace BK110 := yK BK110.out hb; replace HB := aM (zT (zH HB.out) hb)
              (try clear hb)
              refine hK.out _ _ ⟨yc BK110.out 0, yc BK110.out 1, ((HB.out.cell (World.block_lt_of_cell? w _ hw112_0)).trans hw112_0), ((HB.out.cell (World.block_lt_of_cell? w _ hw112_1)).trans hw112_1), ((HB.out.cell (World.block_lt_of_cell? w _ hw113_0)).trans hw113_0), ((HB.out.cell (World.block_lt_of_cell? w _ hw113_1)).trans hw113_1)⟩ (fun hHeld => ?_)
              clear hK K; refine nN 17 ?_
              refine pP 2 18 HT_ ?_
              refine pP 3 19 HT_ ?_
              refine pP 4 20 HT_ ?_
              refine pP 6 22 HT_ ?_
              refine pP 7 23 HT_ ?_
              refine tK 5 21 HT_ HW_ hHeld ?_
              refine tK 8 24 HT_ HW_ hHeld ?_
              refine pP 9 25 HT_ ?_
              refine pP 10 26 HT_ ?_
              refine pP 11 27 HT_ ?_
              refine pP 12 28 HT_ ?_
              refine pP 13 29 HT_ ?_
              refine pP 14 30 HT_ ?_
              refine pP 15 31 HT_ ?_
              refine pP 16 32 HT_ ?_
              refine pP 17 33 HT_ ?_
              refine pP 18 34 HT_ ?_
              refine pP 19 35 HT_ ?_
              refine pP 20 36 HT_ ?_
              refine pP 21 37 HT_ ?_
              refine pP 22 38 HT_ ?_
              refine pP 24 40 HT_ ?_
              refine pP 25 41 HT_ ?_
              refine pP 26 42 HT_ ?_
              refine pP 27 43 HT_ ?_
              refine pP 28 44 HT_ ?_
              refine pP 33 49 HT_ ?_
              refine tK 23 39 HT_ HW_ hHeld ?_
              refine tK 29 45 HT_ HW_ hHeld ?_
              refine pP 30 46 HT_ ?_
              refine pP 31 47 HT_ ?_
              refine pP 32 48 HT_ ?_
              refine tK 34 50 HT_ HW_ hHeld ?_
              refine pP 35 51 HT_ ?_
              refine pP 36 52 HT_ ?_
              refine pP 37 53 HT_ ?_
              refine done_ (done_of HT_.out (by kernel_rfl)) ?_
              try go_wp2
              go_ret2
              exact ⟨by first | rfl | (simp [errW_none, errW_some] <;> rfl) | (simp only [← hji8, ← hji10, ← hji18, ← hji21, ← hji23]; first | rfl | (simp [errW_none, errW_some] <;> rfl)) | (simp [*, errW_none, errW_some] <;> rfl), zH HB.out⟩
             ·rw [if_neg c24] at H
              have c24b0 : decide (((rd_T45 l0 x11_1).f0) < (wrap64 (((rd_T45 l0 (ji18)).f0) + (ji23)))) = false := decide_eq_false c24; clear c24
              have c30b0 := eq_true (of_decide_eq_true (by first | (with_reducible assumption) | assumption) : 0 ≤ (ji8))
              have H' := aM H; clear H
              have p109 : 0 ≤ (x11_1 : Int) := of_decide_eq_true (by first | (with_reducible assumption) | assumption)
              have q109 : x11_1 < (l0.length : Int) := of_decide_eq_true (by first | (with_reducible assumption) | assumption)
              obtain ⟨ad109, e109, hx109_0, hx109_1⟩ := at_T45 HR0.out x11_1 p109 q109
              cases e109
              replace hx109_0 := (HB.out.cell (World.block_lt_of_cell? w _ hx109_0)).trans hx109_0; replace hx109_1 := (HB.out.cell (World.block_lt_of_cell? w _ hx109_1)).trans hx109_1; replace p109 := eq_true p109; replace q109 := eq_true q109
              try go_wp2_with (first | ((with_reducible refine gate_dst (N := 8) rfl ?_); refine bE 8 #[.int .i64 0, .int .i64 0] 45 ?_; intro gb110 hg w32 hbox hb; have BK110 := aM (hbox); have GW110 := gW hg HB.out; have GE110 := GW110; replace HB := aM (zT (zH HB.out) hb); clear hb hbox hg; obtain ⟨Z33_0, Z33_1, Y33_0, Y33_1⟩ := y2 BK110.out))
              have n0_ : Aside0 (((w32.setCell ⟨gb110, 0, none⟩ (.int .i64 ((rd_T45 l0 x11_1).f0))).setCell ⟨gb110, 1, none⟩ (.int .i64 ((rd_T45 l0 x11_1).f1))).heap[gb110]? = some (.cells #[.int .i64 ((rd_T45 l0 x11_1).f0), .int .i64 ((rd_T45 l0 x11_1).f1)] 45 (0, 0))) := ⟨by refine yW ?_; refine yP (cs := #[.int .i64 ((rd_T45 l0 x11_1).f0), .int .i64 0]) ?_ 1 _ rfl; refine yW ?_; refine yP (cs := #[.int .i64 0, .int .i64 0]) ?_ 0 _ rfl; refine yW ?_; exact BK110.out⟩
              have n1_ : Aside0 (Below w.heap.size w ((w32.setCell ⟨gb110, 0, none⟩ (.int .i64 ((rd_T45 l0 x11_1).f0))).setCell ⟨gb110, 1, none⟩ (.int .i64 ((rd_T45 l0 x11_1).f1)))) := ⟨zH HB.out⟩
              (try clear BK110); (try clear HB)
              generalize ((w32.setCell ⟨gb110, 0, none⟩ (.int .i64 ((rd_T45 l0 x11_1).f0))).setCell ⟨gb110, 1, none⟩ (.int .i64 ((rd_T45 l0 x11_1).f1))) = w34 at n0_ n1_ ⊢
              have BK110 := n0_; have HB := n1_; clear n0_ n1_; replace BK110 := aM (yD BK110.out); replace HB := aM (zD HB.out)
              have p112 : 0 ≤ ((ji18) : Int) := of_decide_eq_true (by first | (with_reducible assumption) | assumption)
              have q112 : (ji18) < (l0.length : Int) := of_decide_eq_true (by first | (with_reducible assumption) | assumption)
              obtain ⟨ad112, e112, hx112_0, hx112_1⟩ := at_T45 HR0.out (ji18) p112 q112; have hw112_1 := hx112_1; have hw112_0 := hx112_0
              obtain rfl : ad109 = ad112 := (by injection e112)
              replace hx112_0 := (HB.out.cell (World.block_lt_of_cell? w _ hx112_0)).trans hx112_0; replace hx112_1 := (HB.out.cell (World.block_lt_of_cell? w _ hx112_1)).trans hx112_1; replace p112 := eq_true p112; replace q112 := eq_true q112
              have p113 : 0 ≤ ((ji18) : Int) := of_decide_eq_true (by first | (with_reducible assumption) | assumption)
              have q113 : (ji18) < (l0.length : Int) := of_decide_eq_true (by first | (with_reducible assumption) | assumption)
              obtain ⟨ad113, e113, hx113_0, hx113_1⟩ := at_T45 HR0.out (ji18) p113 q113; have hw113_1 := hx113_1; have hw113_0 := hx113_0
              obtain rfl : ad109 = ad113 := (by injection e113)
              replace hx113_0 := (HB.out.cell (World.block_lt_of_cell? w _ hx113_0)).trans hx113_0; replace hx113_1 := (HB.out.cell (World.block_lt_of_cell? w _ hx113_1)).trans hx113_1; replace p113 := eq_true p113; replace q113 := eq_true q113
              refine start_ (n := 38) (S := fun w' => w'.cell? ⟨gb110, 0, none⟩ = some (.int .i64 ((rd_T45 l0 x11_1).f0)) ∧ w'.cell? ⟨gb110, 1, none⟩ = some (.int .i64 ((rd_T45 l0 x11_1).f1)) ∧ w'.cell? (ad109.add (((ji18)).toNat * 2)) = some (.int .i64 ((rd_T45 l0 (ji18)).f0)) ∧ w'.cell? ⟨(ad109.add (((ji18)).toNat * 2)).block, (ad109.add (((ji18)).toNat * 2)).off + 1, none⟩ = some (.int .i64 ((rd_T45 l0 (ji18)).f1)) ∧ w'.cell? (ad109.add (((ji18)).toNat * 2)) = some (.int .i64 ((rd_T45 l0 (ji18)).f0)) ∧ w'.cell? ⟨(ad109.add (((ji18)).toNat * 2)).block, (ad109.add (((ji18)).toNat * 2)).off + 1, none⟩ = some (.int .i64 ((rd_T45 l0 (ji18)).f1))) (ds := []) #[fF,fF,fF,fF,fF,fF,fF,fF,fF,fF,fF,fF,fF,fF,fF,fF,fF,fF,fF,fF,fF,fF,fF,fF,fF,fF,fF,fF,fF,fF,fF,fF,fF,fF,fF,fF,fF,fF] (by kernel_rfl) rfl rfl ⟨yc BK110.out 0, yc BK110.out 1, ((HB.out.cell (World.block_lt_of_cell? w _ hw112_0)).trans hw112_0), ((HB.out.cell (World.block_lt_of_cell? w _ hw112_1)).trans hw112_1), ((HB.out.cell (World.block_lt_of_cell? w _ hw113_0)).trans hw113_0), ((HB.out.cell (World.block_lt_of_cell? w _ hw113_1)).trans hw113_1)⟩ (fun hHeld => ?_); refine with_tabW spec_l6List.tab5 spec_l6List.bits5 (fun HT_ HW_ => ?_)
              generalize w34.drew = w35 at BK110 HB hx112_0 hx112_1 hx113_0 hx113_1 hHeld ⊢
              refine tK 0 16 HT_ HW_ hHeld ?_
              refine oN 1 (some 17) HT_ (fun K hK => ?_)
              refine gS Try.func57 (by kernel_rfl) rfl #[.agg #[.int .i64 ((rd_T45 l0 x11_1).f0), .int .i64 ((rd_T45 l0 x11_1).f1)]] (by rfl) rfl rfl ?_
              with_reducible refine (spec_l6Block.calls ((rd_T45 l0 x11_1).f0) ((rd_T45 l0 x11_1).f1) true _ A6.out).mono ?_
              rintro e w36 ⟨rfl, hb⟩
              refine ⟨_, rfl, ?_⟩
              replace BK110 := yK BK110.out hb; replace HB := aM (zT (zH HB.out) hb)
              (try clear hb)
              refine hK.out _ _ ⟨yc BK110.out 0, yc BK110.out 1, ((HB.out.cell (World.block_lt_of_cell? w _ hw112_0)).trans hw112_0), ((HB.out.cell (World.block_lt_of_cell? w _ hw112_1)).trans hw112_1), ((HB.out.cell (World.block_lt_of_cell? w _ hw113_0)).trans hw113_0), ((HB.out.cell (World.block_lt_of_cell? w _ hw113_1)).trans hw113_1)⟩ (fun hHeld => ?_)
              clear hK K; refine nN 17 ?_
              refine pP 2 18 HT_ ?_
              refine pP 3 19 HT_ ?_
              refine pP 4 20 HT_ ?_
              refine pP 6 22 HT_ ?_
              refine pP 7 23 HT_ ?_
              refine tK 5 21 HT_ HW_ hHeld ?_
              refine tK 8 24 HT_ HW_ hHeld ?_
              refine pP 9 25 HT_ ?_
              refine pP 10 26 HT_ ?_
              refine pP 11 27 HT_ ?_
              refine pP 12 28 HT_ ?_
              refine pP 13 29 HT_ ?_
              refine pP 14 30 HT_ ?_
              refine pP 15 31 HT_ ?_
              refine pP 16 32 HT_ ?_
              refine pP 17 33 HT_ ?_
              refine pP 18 34 HT_ ?_
              refine pP 19 35 HT_ ?_
              refine pP 20 36 HT_ ?_
              refine pP 21 37 HT_ ?_
              refine pP 22 38 HT_ ?_
              refine pP 24 40 HT_ ?_
              refine pP 25 41 HT_ ?_
              refine pP 26 42 HT_ ?_
              refine pP 27 43 HT_ ?_
              refine pP 28 44 HT_ ?_
              refine pP 33 49 HT_ ?_
              refine tK 23 39 HT_ HW_ hHeld ?_
              refine tK 29 45 HT_ HW_ hHeld ?_
              refine pP 30 46 HT_ ?_
              refine pP 31 47 HT_ ?_
              refine pP 32 48 HT_ ?_
              refine tK 34 50 HT_ HW_ hHeld ?_
              refine pP 35 51 HT_ ?_
              refine pP 36 52 HT_ ?_
              refine pP 37 53 HT_ ?_
              refine done_ (done_of HT_.out (by kernel_rfl)) ?_
              obtain ⟨Z37_0, Z37_1, Y37_0, Y37_1⟩ := y2 BK110.out
              try go_wp2
              go_roundg k1
              case measure => have := HK1.out; omega
              case rel => exact ⟨(wrap64 (x6_1 + (ji10))), (wrap64 (x11_1 + 1)), (by first | rfl | (simp; done) | (simp only [← hji10] <;> (first | rfl | simp)) | (simp [*]; done)), (by first | rfl | (simp; done) | (simp [*]; done)), H', ⟨by have := HK1.out; omega⟩, ⟨zH HB.out⟩⟩
            ·rw [if_neg c22] at H
             exact absurd H (by simp)
           ·rw [if_neg c20] at H
            exact absurd H (by simp)
          ·rw [if_neg c19] at H
           exact absurd H (by simp)
         ·rw [if_neg c17] at H
          have c17b0 : decide (0 < x11_1) = false := decide_eq_false c17; clear c17
          have c38b0 := eq_true (of_decide_eq_true (by first | (with_reducible assumption) | assumption) : 0 ≤ (ji8))
          have H' := aM H; clear H
          have p109 : 0 ≤ (x11_1 : Int) := of_decide_eq_true (by first | (with_reducible assumption) | assumption)
          have q109 : x11_1 < (l0.length : Int) := of_decide_eq_true (by first | (with_reducible assumption) | assumption)
          obtain ⟨ad109, e109, hx109_0, hx109_1⟩ := at_T45 HR0.out x11_1 p109 q109
          cases e109
          replace hx109_0 := (HB.out.cell (World.block_lt_of_cell? w _ hx109_0)).trans hx109_0; replace hx109_1 := (HB.out.cell (World.block_lt_of_cell? w _ hx109_1)).trans hx109_1; replace p109 := eq_true p109; replace q109 := eq_true q109
          try go_wp2_with (first | ((with_reducible refine gate_dst (N := 8) rfl ?_); refine bE 8 #[.int .i64 0, .int .i64 0] 45 ?_; intro gb110 hg w40 hbox hb; have BK110 := aM (hbox); have GW110 := gW hg HB.out; have GE110 := GW110; replace HB := aM (zT (zH HB.out) hb); clear hb hbox hg; obtain ⟨Z41_0, Z41_1, Y41_0, Y41_1⟩ := y2 BK110.out))
          have n0_ : Aside0 (((w40.setCell ⟨gb110, 0, none⟩ (.int .i64 ((rd_T45 l0 x11_1).f0))).setCell ⟨gb110, 1, none⟩ (.int .i64 ((rd_T45 l0 x11_1).f1))).heap[gb110]? = some (.cells #[.int .i64 ((rd_T45 l0 x11_1).f0), .int .i64 ((rd_T45 l0 x11_1).f1)] 45 (0, 0))) := ⟨by refine yW ?_; refine yP (cs := #[.int .i64 ((rd_T45 l0 x11_1).f0), .int .i64 0]) ?_ 1 _ rfl; refine yW ?_; refine yP (cs := #[.int .i64 0, .int .i64 0]) ?_ 0 _ rfl; refine yW ?_; exact BK110.out⟩
          have n1_ : Aside0 (Below w.heap.size w ((w40.setCell ⟨gb110, 0, none⟩ (.int .i64 ((rd_T45 l0 x11_1).f0))).setCell ⟨gb110, 1, none⟩ (.int .i64 ((rd_T45 l0 x11_1).f1)))) := ⟨zH HB.out⟩
          (try clear BK110); (try clear HB)
          generalize ((w40.setCell ⟨gb110, 0, none⟩ (.int .i64 ((rd_T45 l0 x11_1).f0))).setCell ⟨gb110, 1, none⟩ (.int .i64 ((rd_T45 l0 x11_1).f1))) = w42 at n0_ n1_ ⊢
          have BK110 := n0_; have HB := n1_; clear n0_ n1_; replace BK110 := aM (yD BK110.out); replace HB := aM (zD HB.out)
          refine start_ (n := 38) (S := fun w' => w'.cell? ⟨gb110, 0, none⟩ = some (.int .i64 ((rd_T45 l0 x11_1).f0)) ∧ w'.cell? ⟨gb110, 1, none⟩ = some (.int .i64 ((rd_T45 l0 x11_1).f1))) (ds := []) #[fF,fF,fF,fF,fF,fF,fF,fF,fF,fF,fF,fF,fF,fF,fF,fF,fF,fF,fF,fF,fF,fF,fF,fF,fF,fF,fF,fF,fF,fF,fF,fF,fF,fF,fF,fF,fF,fF] (by kernel_rfl) rfl rfl ⟨yc BK110.out 0, yc BK110.out 1⟩ (fun hHeld => ?_); refine with_tabW spec_l6List.tab5 spec_l6List.bits5 (fun HT_ HW_ => ?_)
          generalize w42.drew = w43 at BK110 HB hHeld ⊢
          refine tK 0 16 HT_ HW_ hHeld ?_
          refine oN 1 (some 17) HT_ (fun K hK => ?_)
          refine gS Try.func57 (by kernel_rfl) rfl #[.agg #[.int .i64 ((rd_T45 l0 x11_1).f0), .int .i64 ((rd_T45 l0 x11_1).f1)]] (by rfl) rfl rfl ?_
          with_reducible refine (spec_l6Block.calls ((rd_T45 l0 x11_1).f0) ((rd_T45 l0 x11_1).f1) true _ A6.out).mono ?_
          rintro e w44 ⟨rfl, hb⟩
          refine ⟨_, rfl, ?_⟩
          replace BK110 := yK BK110.out hb; replace HB := aM (zT (zH HB.out) hb)
          (try clear hb)
          refine hK.out _ _ ⟨yc BK110.out 0, yc BK110.out 1⟩ (fun hHeld => ?_)
          clear hK K; refine nN 17 ?_
          refine pP 2 18 HT_ ?_
          refine pP 3 19 HT_ ?_
          refine pP 4 20 HT_ ?_
          refine pP 6 22 HT_ ?_
          refine pP 7 23 HT_ ?_
          refine tK 5 21 HT_ HW_ hHeld ?_
          refine tK 8 24 HT_ HW_ hHeld ?_
          refine pP 9 25 HT_ ?_
          refine pP 10 26 HT_ ?_
          refine pP 11 27 HT_ ?_
          refine pP 12 28 HT_ ?_
          refine pP 13 29 HT_ ?_
          refine pP 14 30 HT_ ?_
          refine pP 15 31 HT_ ?_
          refine pP 16 32 HT_ ?_
          refine pP 17 33 HT_ ?_
          refine pU 18 34 HT_ ?_
          refine pU 19 35 HT_ ?_
          refine pU 20 36 HT_ ?_
          refine pU 21 37 HT_ ?_
          refine pU 22 38 HT_ ?_
          refine pU 23 39 HT_ ?_
          refine pU 24 40 HT_ ?_
          refine pU 25 41 HT_ ?_
          refine pU 26 42 HT_ ?_
          refine pU 27 43 HT_ ?_
          refine pU 28 44 HT_ ?_
          refine pU 29 45 HT_ ?_
          refine pU 30 46 HT_ ?_
          refine pU 31 47 HT_ ?_
          refine pU 32 48 HT_ ?_
          refine pU 33 49 HT_ ?_
          refine pU 34 50 HT_ ?_
          refine pU 35 51 HT_ ?_
          refine pP 36 52 HT_ ?_
          refine pP 37 53 HT_ ?_
          refine done_ (done_of HT_.out (by kernel_rfl)) ?_
          obtain ⟨Z45_0, Z45_1, Y45_0, Y45_1⟩ := y2 BK110.out
          try go_wp2
          go_roundg k1
          case measure => have := HK1.out; omega
          case rel => exact ⟨(wrap64 (x6_1 + (ji10))), (wrap64 (x11_1 + 1)), (by first | rfl | (simp; done) | (simp only [← hji10] <;> (first | rfl | simp)) | (simp [*]; done)), (by first | rfl | (simp; done) | (simp [*]; done)), H', ⟨by have := HK1.out; omega⟩, ⟨zH HB.out⟩⟩
       ·rw [if_neg c9] at H
        exact absurd H (by simp)
      ·replace c7 := Bool.eq_false_iff.mpr c7
       subst c7
       have H1 : (some (0, false)) = some (r1, r2) := by rw [if_neg (show ¬ (false = true) by decide)] at H; exact H
       clear H; have H := H1; clear H1
       simp only [Option.some.injEq, Prod.mk.injEq] at H
       obtain ⟨rfl, rfl⟩ := H
       have p109 : 0 ≤ (x11_1 : Int) := of_decide_eq_true (by first | (with_reducible assumption) | assumption)
       have q109 : x11_1 < (l0.length : Int) := of_decide_eq_true (by first | (with_reducible assumption) | assumption)
       obtain ⟨ad109, e109, hx109_0, hx109_1⟩ := at_T45 HR0.out x11_1 p109 q109
       cases e109
       replace hx109_0 := (HB.out.cell (World.block_lt_of_cell? w _ hx109_0)).trans hx109_0; replace hx109_1 := (HB.out.cell (World.block_lt_of_cell? w _ hx109_1)).trans hx109_1; replace p109 := eq_true p109; replace q109 := eq_true q109
       try go_wp2_with (first | ((with_reducible refine gate_dst (N := 8) rfl ?_); refine bE 8 #[.int .i64 0, .int .i64 0] 45 ?_; intro gb110 hg w46 hbox hb; have BK110 := aM (hbox); have GW110 := gW hg HB.out; have GE110 := GW110; replace HB := aM (zT (zH HB.out) hb); clear hb hbox hg; obtain ⟨Z47_0, Z47_1, Y47_0, Y47_1⟩ := y2 BK110.out))
       have n0_ : Aside0 (((w46.setCell ⟨gb110, 0, none⟩ (.int .i64 ((rd_T45 l0 x11_1).f0))).setCell ⟨gb110, 1, none⟩ (.int .i64 ((rd_T45 l0 x11_1).f1))).heap[gb110]? = some (.cells #[.int .i64 ((rd_T45 l0 x11_1).f0), .int .i64 ((rd_T45 l0 x11_1).f1)] 45 (0, 0))) := ⟨by refine yW ?_; refine yP (cs := #[.int .i64 ((rd_T45 l0 x11_1).f0), .int .i64 0]) ?_ 1 _ rfl; refine yW ?_; refine yP (cs := #[.int .i64 0, .int .i64 0]) ?_ 0 _ rfl; refine yW ?_; exact BK110.out⟩
       have n1_ : Aside0 (Below w.heap.size w ((w46.setCell ⟨gb110, 0, none⟩ (.int .i64 ((rd_T45 l0 x11_1).f0))).setCell ⟨gb110, 1, none⟩ (.int .i64 ((rd_T45 l0 x11_1).f1)))) := ⟨zH HB.out⟩
       (try clear BK110); (try clear HB)
       generalize ((w46.setCell ⟨gb110, 0, none⟩ (.int .i64 ((rd_T45 l0 x11_1).f0))).setCell ⟨gb110, 1, none⟩ (.int .i64 ((rd_T45 l0 x11_1).f1))) = w48 at n0_ n1_ ⊢
       have BK110 := n0_; have HB := n1_; clear n0_ n1_; replace BK110 := aM (yD BK110.out); replace HB := aM (zD HB.out)
       refine start_ (n := 38) (S := fun w' => w'.cell? ⟨gb110, 0, none⟩ = some (.int .i64 ((rd_T45 l0 x11_1).f0)) ∧ w'.cell? ⟨gb110, 1, none⟩ = some (.int .i64 ((rd_T45 l0 x11_1).f1))) (ds := []) #[fF,fF,fF,fF,fF,fF,fF,fF,fF,fF,fF,fF,fF,fF,fF,fF,fF,fF,fF,fF,fF,fF,fF,fF,fF,fF,fF,fF,fF,fF,fF,fF,fF,fF,fF,fF,fF,fF] (by kernel_rfl) rfl rfl ⟨yc BK110.out 0, yc BK110.out 1⟩ (fun hHeld => ?_); refine with_tabW spec_l6List.tab5 spec_l6List.bits5 (fun HT_ HW_ => ?_)
       generalize w48.drew = w49 at BK110 HB hHeld ⊢
       refine tK 0 16 HT_ HW_ hHeld ?_
       refine oN 1 (some 17) HT_ (fun K hK => ?_)
       refine gS Try.func57 (by kernel_rfl) rfl #[.agg #[.int .i64 ((rd_T45 l0 x11_1).f0), .int .i64 ((rd_T45 l0 x11_1).f1)]] (by rfl) rfl rfl ?_
       with_reducible refine (spec_l6Block.calls ((rd_T45 l0 x11_1).f0) ((rd_T45 l0 x11_1).f1) false _ A6.out).mono ?_
       rintro e w50 ⟨rfl, hb⟩
       refine ⟨_, rfl, ?_⟩
       replace BK110 := yK BK110.out hb; replace HB := aM (zT (zH HB.out) hb)
       (try clear hb)
       refine hK.out _ _ ⟨yc BK110.out 0, yc BK110.out 1⟩ (fun hHeld => ?_)
       clear hK K; refine nN 17 ?_
       refine pP 2 18 HT_ ?_
       refine pP 3 19 HT_ ?_
       refine pU 4 20 HT_ ?_
       refine pU 5 21 HT_ ?_
       refine pU 6 22 HT_ ?_
       refine pU 7 23 HT_ ?_
       refine pU 8 24 HT_ ?_
       refine pU 9 25 HT_ ?_
       refine pU 10 26 HT_ ?_
       refine pU 11 27 HT_ ?_
       refine pU 12 28 HT_ ?_
       refine pP 13 29 HT_ ?_
       refine pP 14 30 HT_ ?_
       refine pU 15 31 HT_ ?_
       refine pU 16 32 HT_ ?_
       refine pU 17 33 HT_ ?_
       refine pU 18 34 HT_ ?_
       refine pU 19 35 HT_ ?_
       refine pU 20 36 HT_ ?_
       refine pU 21 37 HT_ ?_
       refine pU 22 38 HT_ ?_
       refine pU 23 39 HT_ ?_
       refine pU 24 40 HT_ ?_
       refine pU 25 41 HT_ ?_
       refine pU 26 42 HT_ ?_
       refine pU 27 43 HT_ ?_
       refine pU 28 44 HT_ ?_
       refine pU 29 45 HT_ ?_
       refine pU 30 46 HT_ ?_
       refine pU 31 47 HT_ ?_
       refine pU 32 48 HT_ ?_
       refine pU 33 49 HT_ ?_
       refine pU 34 50 HT_ ?_
       refine pU 35 51 HT_ ?_
       refine pU 36 52 HT_ ?_
       refine pP 37 53 HT_ ?_
       refine done_ (done_of HT_.out (by kernel_rfl)) ?_
       try go_wp2
       go_ret2
       exact ⟨eW, zH HB.out⟩
     ·rw [if_neg c5] at H
      exact absurd H (by simp)
    ·rw [if_neg c4] at H
     exact absurd H (by simp)
   ·rw [if_neg c3] at H
    have c3b0 : decide (x11_1 < (l0.length : Int)) = false := decide_eq_false c3; clear c3
    simp only [Option.some.injEq, Prod.mk.injEq] at H
    obtain ⟨rfl, rfl⟩ := H
    go_wp2
    go_ret2
    exact ⟨eW, zH HB.out⟩

end Go.Proofs.Ytbjcioihomeikaa.PFnBuddies
