/- The walks of FnBuddies: Go's calls come to what the Lean functions beside them say; no condition. -/
import Derived.Test.YtbjcioihomeikaaQFnBuddiesx0
namespace Go.Proofs.Ytbjcioihomeikaa.PFnBuddies
open Go.RowKit Go.Proofs.YtbjcioihomeikaaW.PrintWords Go.Proofs.YtbjcioihomeikaaW.PrintLast Go.Proofs.YtbjcioihomeikaaW.PrintMore
attribute [local go_sem] max2_int min2_int max_two min_two max_three min_three max_four min_four   -- for this text's walks alone
set_option linter.unusedVariables false
set_option linter.unusedSimpArgs false
set_option maxRecDepth 100000

/-! ### spec_l6Without: function 30 -/
def spec_l6Without.f (l0 : List (S45)) (a1 : Int) : Option ((List (S45))) := (some (([] : List (S45)) : List (S45))).bind fun y127 => (if 0 ≤ a1 then (if a1 ≤ (l0.length : Int) then ((some (l0.take (a1 : Int).toNat : List (S45))).bind fun y130 => (if y127.length + y130.length < 8796093022208 then ((some (y127 ++ y130 : List (S45))).bind fun y134 => (if 0 ≤ (wrap64 (a1 + 1)) then (if (wrap64 (a1 + 1)) ≤ (l0.length : Int) then ((some (l0.drop ((wrap64 (a1 + 1)) : Int).toNat : List (S45))).bind fun y137 => (if y134.length + y137.length < 8796093022208 then (some (y134 ++ y137)) else (none))) else (none)) else (none))) else (none))) else (none)) else (none))
def spec_l6Without.T1 : Bool × List (List Nat × List Nat) := (true, [([], []), ([], []), ([], []), ([1, 2], [1, 2]), ([0, 3], [0, 3]), ([], []), ([], []), ([6], [6]), ([5, 7], [5, 7]), ([4, 8, 4], [4, 8]), ([9, 9, 0, 1, 2, 3, 4, 5, 6, 7, 8, 9], [9])])
def spec_l6Without.B1 : List Nat := [0, 0, 0, 6, 15, 0, 0, 64, 224, 511, 1023]
theorem spec_l6Without.tab1 : rtab .any (opsOf Try.f30 1) = spec_l6Without.T1 := by kernel_rfl
theorem spec_l6Without.bits1 : waitsOk spec_l6Without.T1.2 spec_l6Without.B1 = true := by kernel_rfl
set_option maxHeartbeats 8000000 in
set_option maxRecDepth 100000 in
theorem spec_l6Without.calls (A0 : Option Addr) (c0 : Nat) (l0 : List (S45)) (a1 : Int) (r : List (S45)) (w : World) (hr0 : Kd.C k45 w A0 l0.length l0) (hc0 : l0.length ≤ c0) (h : spec_l6Without.f l0 a1 = some r) :
  Calls Try.prog 30 #[.slice A0 l0.length c0, .int .i64 a1] w fun e w' => ∃ v0_ : Value, e = .returned (v0_) ∧ Kd.R k45 45 w' w.heap.size (fun _ => True) v0_ r ∧ Below w.heap.size w w' := by
 have HR0 := aM hr0; have HC0 := aM hc0; clear hr0 hc0; have HB := aM (Below.refl w.heap.size w)
 have H : ((some (([] : List (S45)) : List (S45))).bind fun y127 => (if 0 ≤ a1 then (if a1 ≤ (l0.length : Int) then ((some (l0.take (a1 : Int).toNat : List (S45))).bind fun y130 => (if y127.length + y130.length < 8796093022208 then ((some (y127 ++ y130 : List (S45))).bind fun y134 => (if 0 ≤ (wrap64 (a1 + 1)) then (if (wrap64 (a1 + 1)) ≤ (l0.length : Int) then ((some (l0.drop ((wrap64 (a1 + 1)) : Int).toNat : List (S45))).bind fun y137 => (if y134.length + y137.length < 8796093022208 then (some (y134 ++ y137)) else (none))) else (none)) else (none))) else (none))) else (none)) else (none))) = some r := h
 clear h; obtain ⟨y127, hy127⟩ : ∃ y_ : List (S45), y_ = (([] : List (S45))) := ⟨_, rfl⟩
 replace H : (if 0 ≤ a1 then (if a1 ≤ (l0.length : Int) then ((some (l0.take (a1 : Int).toNat : List (S45))).bind fun y130 => (if y127.length + y130.length < 8796093022208 then ((some (y127 ++ y130 : List (S45))).bind fun y134 => (if 0 ≤ (wrap64 (a1 + 1)) then (if (wrap64 (a1 + 1)) ≤ (l0.length : Int) then ((some (l0.drop ((wrap64 (a1 + 1)) : Int).toNat : List (S45))).bind fun y137 => (if y134.length + y137.length < 8796093022208 then (some (y134 ++ y137)) else (none))) else (none)) else (none))) else (none))) else (none)) else (none)) = some r := by first | (rw [hy127]; with_reducible exact H) | (have H2_ := (Option.bind_some _ _).symm.trans H; rw [hy127]; with_reducible exact H2_) | (have H2_ := (Option.bind_some _ _).symm.trans H; with_reducible exact H2_) | with_reducible exact H | (rw [hy127]; exact H) | exact H
 have Ny127 := aM hy127; clear hy127
 by_cases c3 : 0 ≤ a1
 ·rw [if_pos c3] at H
  have c3b0 := eq_true c3; have c3b1 : decide (0 ≤ a1) = true := decide_eq_true c3; clear c3
  by_cases c4 : a1 ≤ (l0.length : Int)
  ·rw [if_pos c4] at H
   have c4b0 := eq_true c4; have c4b1 : decide (a1 ≤ (l0.length : Int)) = true := decide_eq_true c4; clear c4; obtain ⟨y130, hy130⟩ : ∃ y_ : List (S45), y_ = (l0.take (a1 : Int).toNat) := ⟨_, rfl⟩
   replace H : (if y127.length + y130.length < 8796093022208 then ((some (y127 ++ y130 : List (S45))).bind fun y134 => (if 0 ≤ (wrap64 (a1 + 1)) then (if (wrap64 (a1 + 1)) ≤ (l0.length : Int) then ((some (l0.drop ((wrap64 (a1 + 1)) : Int).toNat : List (S45))).bind fun y137 => (if y134.length + y137.length < 8796093022208 then (some (y134 ++ y137)) else (none))) else (none)) else (none))) else (none)) = some r := by first | (rw [hy130]; with_reducible exact H) | (have H2_ := (Option.bind_some _ _).symm.trans H; rw [hy130]; with_reducible exact H2_) | (have H2_ := (Option.bind_some _ _).symm.trans H; with_reducible exact H2_) | with_reducible exact H | (rw [hy130]; exact H) | exact H
   have Ny130 := aM hy130; clear hy130
   by_cases c5 : y127.length + y130.length < 8796093022208
   ·rw [if_pos c5] at H
    have LMc5 := aM c5; clear c5; obtain ⟨y134, hy134⟩ : ∃ y_ : List (S45), y_ = (y127 ++ y130) := ⟨_, rfl⟩
    replace H : (if 0 ≤ (wrap64 (a1 + 1)) then (if (wrap64 (a1 + 1)) ≤ (l0.length : Int) then ((some (l0.drop ((wrap64 (a1 + 1)) : Int).toNat : List (S45))).bind fun y137 => (if y134.length + y137.length < 8796093022208 then (some (y134 ++ y137)) else (none))) else (none)) else (none)) = some r := by first | (rw [hy134]; with_reducible exact H) | (have H2_ := (Option.bind_some _ _).symm.trans H; rw [hy134]; with_reducible exact H2_) | (have H2_ := (Option.bind_some _ _).symm.trans H; with_reducible exact H2_) | with_reducible exact H | (rw [hy134]; exact H) | exact H
    have Ny134 := aM hy134; clear hy134; obtain ⟨ji6, hji6⟩ : ∃ j_ : Int, (wrap64 (a1 + 1)) = j_ := ⟨_, rfl⟩
    replace H : (if 0 ≤ (ji6) then (if (ji6) ≤ (l0.length : Int) then ((some (l0.drop ((ji6) : Int).toNat : List (S45))).bind fun y137 => (if y134.length + y137.length < 8796093022208 then (some (y134 ++ y137)) else (none))) else (none)) else (none)) = some r := by first | (rw [hji6] at H; exact H) | (simp only [hji6] at H ⊢; exact H)
    have hji6w : (IntKind.i64.wrap (a1 + 1)) = ji6 := (i64_w _).trans hji6
    by_cases c7 : 0 ≤ (ji6)
    ·rw [if_pos c7] at H
     have c7b0 := eq_true c7; have c7b1 : decide (0 ≤ (ji6)) = true := decide_eq_true c7; clear c7
     by_cases c8 : (ji6) ≤ (l0.length : Int)
     ·rw [if_pos c8] at H
      have c8b0 := eq_true c8; have c8b1 : decide ((ji6) ≤ (l0.length : Int)) = true := decide_eq_true c8; clear c8; obtain ⟨y137, hy137⟩ : ∃ y_ : List (S45), y_ = (l0.drop ((ji6) : Int).toNat) := ⟨_, rfl⟩
      replace H : (if y134.length + y137.length < 8796093022208 then (some (y134 ++ y137)) else (none)) = some r := by first | (rw [hy137]; with_reducible exact H) | (have H2_ := (Option.bind_some _ _).symm.trans H; rw [hy137]; with_reducible exact H2_) | (have H2_ := (Option.bind_some _ _).symm.trans H; with_reducible exact H2_) | with_reducible exact H | (rw [hy137]; exact H) | exact H
      have Ny137 := aM hy137; clear hy137
      by_cases c9 : y134.length + y137.length < 8796093022208
      ·rw [if_pos c9] at H
       have LMc9 := aM c9; clear c9; obtain ⟨y141, hy141⟩ : ∃ y_ : List (S45), y_ = (y134 ++ y137) := ⟨_, rfl⟩
       replace H : (some y141) = some r := by first | (rw [hy141]; with_reducible exact H) | (have H2_ := (Option.bind_some _ _).symm.trans H; rw [hy141]; with_reducible exact H2_) | (have H2_ := (Option.bind_some _ _).symm.trans H; with_reducible exact H2_) | with_reducible exact H | (rw [hy141]; exact H) | exact H
       have Ny141 := aM hy141; clear hy141; obtain rfl := Option.some.inj H
       go_enter Try.func30, Try.ntmps30
       try go_wp2
       replace HB := aM (zD HB.out)
       have q11 : (a1 : Int) ≤ ((l0.length : Int) : Int) := of_decide_eq_true (by first | (with_reducible assumption) | assumption)
       obtain ⟨i011, hi011, _, hsz11, _⟩ := info_parts info45; have hroom11 : l0.length ≤ c0 := HC0.out; have hC11 : Kd.C k45 _ A0 l0.length l0 := HR0.out
       have hcut11 := cut_to (P := Try.prog) 26 45 .i64 Try.underlying26 hi011 A0 l0.length c0 a1 (of_decide_eq_true (by first | (with_reducible assumption) | assumption)) q11 hroom11
       have hr11 := Kd.C_take (m := (a1 : Int).toNat) hC11 (by omega)
       have hy11 : y130.length = (a1 : Int).toNat := (by rw [Ny130.out, List.length_take]; omega)
       rw [← Ny130.out] at hr11
       rw [← hy11] at hcut11
       have HR133 := aM hr11
       have HC133 := aM (show y130.length ≤ c0 from by omega)
       clear hr11 hC11 hroom11 hi011 hsz11; have KY11 := aM hy11; clear hy11; replace q11 := eq_true q11
       have q12 : ((ji6) : Int) ≤ ((l0.length : Int) : Int) := of_decide_eq_true (by first | (with_reducible assumption) | assumption)
       obtain ⟨i012, hi012, _, hsz12, _⟩ := info_parts info45; have hroom12 : l0.length ≤ c0 := HC0.out; have hC12 : Kd.C k45 _ A0 l0.length l0 := HR0.out
       have q012 : (0 : Int) ≤ ((ji6) : Int) := of_decide_eq_true (by first | (with_reducible assumption) | assumption)
       have hcut12 := cut_from (P := Try.prog) 26 45 .i64 Try.underlying26 hi012 2 hsz12 A0 l0.length c0 (ji6) q012 q12
       have hr12 := Kd.C_drop (m := ((ji6) : Int).toNat) (c := c0) hC12 (by omega) hroom12
       obtain ⟨A12, hA12⟩ : ∃ A1, A1 = (if c0 = ((ji6) : Int).toNat then A0 else (A0 : Option Addr).map (·.add (((ji6) : Int).toNat * 2))) := ⟨_, rfl⟩; obtain ⟨c12, hc12⟩ : ∃ c1, c1 = c0 - ((ji6) : Int).toNat := ⟨_, rfl⟩
       have hy12 : y137.length = l0.length - ((ji6) : Int).toNat := (by rw [Ny137.out, List.length_drop] <;> omega)
       rw [show (l0).drop ((ji6) : Int).toNat = y137 from Ny137.out.symm] at hr12
       replace hr12 : Kd.C k45 _ A12 y137.length y137 := (by rw [hA12]; exact hr12)
       rw [← hy12, ← hA12, ← hc12] at hcut12
       have HR140 := aM hr12
       have HC140 := aM (show y137.length ≤ c12 from by rw [hy12, hc12]; exact Nat.sub_le_sub_right hroom12 _)
       clear hr12 hC12 hroom12 hi012 hsz12 hc12; have KY12 := aM hy12; have KA12 := aM hA12; clear hy12 hA12; replace q12 := eq_true q12
       refine start_ (n := 11) (S := fun w' => True) (ds := []) #[fF,fF,fF,fF,fF,fF,fF,fF,fF,fF,fF] (by kernel_rfl) rfl rfl trivial (fun hHeld => ?_); refine with_tabW spec_l6Without.tab1 spec_l6Without.bits1 (fun HT_ HW_ => ?_)
       generalize w.drew = w10 at HB HR133 HR140 hHeld ⊢
       refine pP 1 6 HT_ ?_
       refine pP 2 7 HT_ ?_
       refine pP 3 8 HT_ ?_
       refine pP 5 10 HT_ ?_
       refine pP 6 11 HT_ ?_
       refine pP 7 12 HT_ ?_
       refine pP 8 13 HT_ ?_
       refine oN 0 (some 5) HT_ (fun K hK => ?_)
       refine Kd.R_lit_step k45 _ 45 ?hg (N := 5) ?hd (xs := ([] : List (S45))) (inner := []) (ok := fun _ => True) (okp := fun _ => True) ?hr ?hp (fun _ hk => hk) trivial (Below.refl _ _) (Nat.le_refl _) (by simp) ?_; (case hd => rfl); (case hg => rfl); (case hr => first | (go_simp; done) | (go_simp; rfl)); (case hp => exact (Reps.none _ _))
       intro v128 w13 ho14 hb hg_ hnew_
       clear hg_ hnew_
       (first | rw [← Ny127.out] at ho14 | (simp only [Int.reduceToNat] at ho14; rw [← Ny127.out] at ho14))
       have HO129 := aM (xL ho14 (zZ (zH HB.out))); replace HB := aM (zT (zH HB.out) hb); clear hb ho14
       refine hK.out _ _ trivial (fun hHeld => ?_)
       clear hK K; refine nN 5 ?_
       refine oN 4 (some 9) HT_ (fun K hK => ?_)
       refine Kd.R_append_rows_step k45 (w0 := w) w.heap.size (by rfl) (.tmp 5) (.tmp 8) 26 45 (.agg #[(.int .i64 0), (.int .i64 0)]) 16 rfl Try.underlying26 info45 rfl (by decide) (by omega) v128 y127 y130 _ _ _ (fun _ => True) (fun _ => False) rfl rfl ?aO ?aR (fun _ _ h => h) (fun _ h => h.elim) ?aF ?aB ?aS ?aL ?_
       (case aR => exact cK HR133.out HB.out)
       (case aB => exact (zH HB.out))
       (case aF => exact (fun _ _ => trivial))
       (case aO => exact (xH HO129.out))
       (case aS => exact (zZ (zH HB.out)))
       (case aL => have := LMc5.out; omega)
       intro v135 w15 ho hb hg hat
       rw [← Ny134.out] at ho
       replace HB := aM (hb); have HO136 := aM (ho); clear HO129 ho hb hg hat
       refine hK.out _ _ trivial (fun hHeld => ?_)
       clear hK K; refine nN 9 ?_
       refine oN 9 (some 14) HT_ (fun K hK => ?_)
       refine Kd.R_append_rows_step k45 (w0 := w) w.heap.size (by rfl) (.tmp 9) (.tmp 13) 26 45 (.agg #[(.int .i64 0), (.int .i64 0)]) 16 rfl Try.underlying26 info45 rfl (by decide) (by omega) v135 y134 y137 _ _ _ (fun _ => True) (fun _ => False) rfl rfl ?aO ?aR (fun _ _ h => h) (fun _ h => h.elim) ?aF ?aB ?aS ?aL ?_
       (case aR => exact cK HR140.out HB.out)
       (case aB => exact (zH HB.out))
       (case aF => exact (fun _ _ => trivial))
       (case aO => exact (xH HO136.out))
       (case aS => exact (zZ (zH HB.out)))
       (case aL => have := LMc9.out; omega)
       intro v142 w16 ho hb hg hat
       rw [← Ny141.out] at ho
       replace HB := aM (hb); have HO143 := aM (ho); clear HO136 ho hb hg hat
       refine hK.out _ _ trivial (fun hHeld => ?_)
       clear hK K; refine nN 14 ?_
       refine pP 10 4 HT_ ?_
       refine done_ (done_of HT_.out (by kernel_rfl)) ?_
       try go_wp2
       go_ret
       exact ⟨_, by first | rfl | (simp [errW_none, errW_some] <;> rfl) | (simp only [← hji6]; first | rfl | (simp [errW_none, errW_some] <;> rfl)) | (simp [*, errW_none, errW_some] <;> rfl), xH HO143.out, zH HB.out⟩
      ·rw [if_neg c9] at H
       exact absurd H (by simp)
     ·rw [if_neg c8] at H
      exact absurd H (by simp)
    ·rw [if_neg c7] at H
     exact absurd H (by simp)
   ·rw [if_neg c5] at H
    exact absurd H (by simp)
  ·rw [if_neg c4] at H
   exact absurd H (by simp)
 ·rw [if_neg c3] at H
  exact absurd H (by simp)

/-! ### spec_l6Put: function 31 -/
def spec_l6Put.l0 : Nat → List (S45) → Int → Int → Int → Option ((List (S45)))
 | 0, _, _, _, _ => none
 | k + 1, x0, x5, x145000, x145001 => if x5 < (x0.length : Int) then (if 0 ≤ x5 then (if ((rd_T45 x0 x5).f0) < x145000 then (spec_l6Put.l0 k x0 (wrap64 (x5 + 1)) x145000 x145001) else (if x5 ≤ (x0.length : Int) then ((some (x0.take (x5 : Int).toNat : List (S45))).bind fun y146 => (if ([] : List (S45)).length + y146.length < 8796093022208 then ((some (([] : List (S45)) ++ y146 : List (S45))).bind fun y150 => (if y150.length < 8796093022208 then ((some (y150 ++ [(⟨x145000, x145001⟩ : S45)] : List (S45))).bind fun y153 => ((some (x0.drop (x5 : Int).toNat : List (S45))).bind fun y156 => (if y153.length + y156.length < 8796093022208 then (some (y153 ++ y156)) else (none)))) else (none))) else (none))) else (none))) else (none)) else (if 0 ≤ x5 then (if x5 ≤ (x0.length : Int) then ((some (x0.take (x5 : Int).toNat : List (S45))).bind fun y163 => (if ([] : List (S45)).length + y163.length < 8796093022208 then ((some (([] : List (S45)) ++ y163 : List (S45))).bind fun y167 => (if y167.length < 8796093022208 then ((some (y167 ++ [(⟨x145000, x145001⟩ : S45)] : List (S45))).bind fun y170 => ((some (x0.drop (x5 : Int).toNat : List (S45))).bind fun y173 => (if y170.length + y173.length < 8796093022208 then (some (y170 ++ y173)) else (none)))) else (none))) else (none))) else (none)) else (none))
def spec_l6Put.f (k : Nat) (l0 : List (S45)) (a1_0 : Int) (a1_1 : Int) : Option ((List (S45))) := spec_l6Put.l0 k l0 0 a1_0 a1_1
theorem spec_l6Put.mono_l : ∀ k, (∀ y0 y1 y2 y3, LeO (spec_l6Put.l0 k y0 y1 y2 y3) (spec_l6Put.l0 (k + 1) y0 y1 y2 y3))
 | 0 => fun _ _ _ _ r h => by change none = some r at h; cases h
 | k + 1 => by
  have ih0 := spec_l6Put.mono_l k
  ·intro y0 y1 y2 y3
   unfold spec_l6Put.l0
   repeat' first
   | (with_reducible exact ih0 _ _ _ _)
   | (with_reducible exact LeO.refl _)
   | (with_reducible exact LeO.none _)
   | (with_reducible refine LeO.ite ?_ ?_)
   | (with_reducible refine LeO.bind ?_ (fun _ => ?_))
   | exact ih0 _ _ _ _
   | exact LeO.none _
   | refine LeO.ite ?_ ?_
   | refine LeO.bind ?_ (fun _ => ?_)
theorem spec_l6Put.mono : ∀ a0 a1 a2 k, LeO (spec_l6Put.f k a0 a1 a2) (spec_l6Put.f (k + 1) a0 a1 a2) := by
 intro a0 a1 a2 k
 have ih0 := spec_l6Put.mono_l k
 unfold spec_l6Put.f
 repeat' first
   | (with_reducible exact ih0 _ _ _ _)
   | (with_reducible exact LeO.refl _)
   | (with_reducible exact LeO.none _)
   | (with_reducible refine LeO.ite ?_ ?_)
   | (with_reducible refine LeO.bind ?_ (fun _ => ?_))
   | exact ih0 _ _ _ _
   | exact LeO.none _
   | refine LeO.ite ?_ ?_
   | refine LeO.bind ?_ (fun _ => ?_)
set_option maxHeartbeats 8000000 in
set_option maxRecDepth 100000 in
theorem spec_l6Put.calls (k : Nat) (A0 : Option Addr) (c0 : Nat) (l0 : List (S45)) (a1_0 : Int) (a1_1 : Int) (r : List (S45)) (w : World) (hr0 : Kd.C k45 w A0 l0.length l0) (hc0 : l0.length ≤ c0) (h : spec_l6Put.f k l0 a1_0 a1_1 = some r) :
  Calls Try.prog 31 #[.slice A0 l0.length c0, .agg #[.int .i64 a1_0, .int .i64 a1_1]] w fun e w' => ∃ v0_ : Value, e = .returned (v0_) ∧ Kd.R k45 45 w' w.heap.size (fun _ => True) v0_ r ∧ Below w.heap.size w w' := by
 have hu45 := Try.underlying45; have HR0 := aM hr0; have HC0 := aM hc0; clear hr0 hc0; have HB := aM (Below.refl w.heap.size w); have H : (spec_l6Put.l0 k l0 0 a1_0 a1_1) = some r := h; clear h; have H' := aM H; clear H
 go_enter Try.func31, Try.ntmps31
 go_wp2_with (first | ((with_reducible refine gate_dst (N := 3) rfl ?_); refine bE 3 #[.int .i64 a1_0, .int .i64 a1_1] 45 ?_; intro gb144 hg w3 hbox hb; have BK144 := aM (hbox); have GW144 := gW hg HB.out; have GE144 := GW144; replace HB := aM (zT (zH HB.out) hb); clear hb hbox hg))
 repeat (go_quiet (first | ((with_reducible refine gate_dst (N := 3) rfl ?_); refine bE 3 #[.int .i64 a1_0, .int .i64 a1_1] 45 ?_; intro gb144 hg w3 hbox hb; have n0_ := aM (zT (zH HB.out) hb); have n1_ := aM (hbox); have n2_ := aM ((by rw [hg]; exact (zZ (zH HB.out)) : w.heap.size ≤ gb144)); have n3_ := aM ((by rw [hg]; exact (zZ (zH HB.out)) : w.heap.size ≤ gb144)); clear HB; have HB := n0_; have BK144 := n1_; have GW144 := n2_; have GE144 := n3_; clear n0_ n1_ n2_ n3_; clear hb hbox hg)); try go_wp2_with (first | ((with_reducible refine gate_dst (N := 3) rfl ?_); refine bE 3 #[.int .i64 a1_0, .int .i64 a1_1] 45 ?_; intro gb144 hg w3 hbox hb; have n0_ := aM (zT (zH HB.out) hb); have n1_ := aM (hbox); have n2_ := aM ((by rw [hg]; exact (zZ (zH HB.out)) : w.heap.size ≤ gb144)); have n3_ := aM ((by rw [hg]; exact (zZ (zH HB.out)) : w.heap.size ≤ gb144)); clear HB; have HB := n0_; have BK144 := n1_; have GW144 := n2_; have GE144 := n3_; clear n0_ n1_ n2_ n3_; clear hb hbox hg)))
 go_loopg [5] k (fun kq v5 w' => ∃ (x5_1 : Int), v5 = .int .i64 x5_1 ∧ Aside0 (spec_l6Put.l0 kq l0 x5_1 a1_0 a1_1 = some r) ∧ Aside0 (kq ≤ k) ∧ Aside0 (w'.heap[gb144]? = some (.cells #[.int .i64 a1_0, .int .i64 a1_1] 45 (0, 0))) ∧ Aside0 (Below w.heap.size w w'))
 case atStart => exact ⟨(0), (by first | rfl | (simp; done) | (simp [*]; done)), H', ⟨Nat.le_refl _⟩, ⟨yH BK144.out⟩, ⟨zH HB.out⟩⟩
 case round =>
  clear H'; obtain ⟨x5_1, rfl, HA, HK1, BK144, HB⟩ := hrel
  cases gk with
  | zero => exact absurd HA.out (fun h_ => by change none = some _ at h_; cases h_)
  | succ k1 =>
   have H := HA.out; clear HA
   simp only [spec_l6Put.l0] at H
   by_cases c4 : x5_1 < (l0.length : Int)
   ·rw [if_pos c4] at H
    have c4b0 : decide (x5_1 < (l0.length : Int)) = true := decide_eq_true c4; clear c4
    by_cases c5 : 0 ≤ x5_1
    ·rw [if_pos c5] at H
     have c5b0 : decide (0 ≤ x5_1) = true := decide_eq_true c5; clear c5
     by_cases c6 : ((rd_T45 l0 x5_1).f0) < a1_0
     ·rw [if_pos c6] at H
      have c6b0 : decide (((rd_T45 l0 x5_1).f0) < a1_0) = true := decide_eq_true c6; clear c6; have H' := aM H; clear H
      have p145 : 0 ≤ (x5_1 : Int) := of_decide_eq_true (by first | (with_reducible assumption) | assumption)
      have q145 : x5_1 < (l0.length : Int) := of_decide_eq_true (by first | (with_reducible assumption) | assumption)
      obtain ⟨ad145, e145, hx145_0, hx145_1⟩ := at_T45 HR0.out x5_1 p145 q145
      cases e145
      replace hx145_0 := (HB.out.cell (World.block_lt_of_cell? w _ hx145_0)).trans hx145_0; replace hx145_1 := (HB.out.cell (World.block_lt_of_cell? w _ hx145_1)).trans hx145_1; replace p145 := eq_true p145; replace q145 := eq_true q145; have Z7_0 : wr.cell? ⟨gb144, 0, none⟩ = some (.int .i64 a1_0) := yc BK144.out 0; have Z7_1 : wr.cell? ⟨gb144, 1, none⟩ = some (.int .i64 a1_1) := yc BK144.out 1; have Y7_0 := yZ BK144.out 0; have Y7_1 := yZ BK144.out 1
      go_wp2
      repeat (go_quiet (fail); try go_wp2)
      go_roundg k1
      case measure => have := HK1.out; omega
      case rel => exact ⟨(wrap64 (x5_1 + 1)), (by first | rfl | (simp; done) | (simp [*]; done)), H', ⟨by have := HK1.out; omega⟩, ⟨yH BK144.out⟩, ⟨zH HB.out⟩⟩
     ·rw [if_neg c6] at H
      have c6b0 : decide (((rd_T45 l0 x5_1).f0) < a1_0) = false := decide_eq_false c6; clear c6
      have c8b0 := eq_true (of_decide_eq_true (by first | (with_reducible assumption) | assumption) : 0 ≤ x5_1)
      by_cases c9 : x5_1 ≤ (l0.length : Int)
      ·rw [if_pos c9] at H
       have c9b0 := eq_true c9; have c9b1 : decide (x5_1 ≤ (l0.length : Int)) = true := decide_eq_true c9; clear c9; obtain ⟨y146, hy146⟩ : ∃ y_ : List (S45), y_ = (l0.take (x5_1 : Int).toNat) := ⟨_, rfl⟩
       replace H : (if ([] : List (S45)).length + y146.length < 8796093022208 then ((some (([] : List (S45)) ++ y146 : List (S45))).bind fun y150 => (if y150.length < 8796093022208 then ((some (y150 ++ [(⟨a1_0, a1_1⟩ : S45)] : List (S45))).bind fun y153 => ((some (l0.drop (x5_1 : Int).toNat : List (S45))).bind fun y156 => (if y153.length + y156.length < 8796093022208 then (some (y153 ++ y156)) else (none)))) else (none))) else (none)) = some r := by first | (rw [hy146]; with_reducible exact H) | (have H2_ := (Option.bind_some _ _).symm.trans H; rw [hy146]; with_reducible exact H2_) | (have H2_ := (Option.bind_some _ _).symm.trans H; with_reducible exact H2_) | with_reducible exact H | (rw [hy146]; exact H) | exact H
       have Ny146 := aM hy146; clear hy146
       by_cases c10 : ([] : List (S45)).length + y146.length < 8796093022208
       ·rw [if_pos c10] at H
        have LMc10 := aM c10; clear c10; obtain ⟨y150, hy150⟩ : ∃ y_ : List (S45), y_ = (([] : List (S45)) ++ y146) := ⟨_, rfl⟩
        replace H : (if y150.length < 8796093022208 then ((some (y150 ++ [(⟨a1_0, a1_1⟩ : S45)] : List (S45))).bind fun y153 => ((some (l0.drop (x5_1 : Int).toNat : List (S45))).bind fun y156 => (if y153.length + y156.length < 8796093022208 then (some (y153 ++ y156)) else (none)))) else (none)) = some r := by first | (rw [hy150]; with_reducible exact H) | (have H2_ := (Option.bind_some _ _).symm.trans H; rw [hy150]; with_reducible exact H2_) | (have H2_ := (Option.bind_some _ _).symm.trans H; with_reducible exact H2_) | with_reducible exact H | (rw [hy150]; exact H) | exact H
        have Ny150 := aM hy150; clear hy150
        by_cases c11 : y150.length < 8796093022208
        ·rw [if_pos c11] at H
         have LMc11 := aM c11; clear c11; obtain ⟨y153, hy153⟩ : ∃ y_ : List (S45), y_ = (y150 ++ [(⟨a1_0, a1_1⟩ : S45)]) := ⟨_, rfl⟩
         replace H : ((some (l0.drop (x5_1 : Int).toNat : List (S45))).bind fun y156 => (if y153.length + y156.length < 8796093022208 then (some (y153 ++ y156)) else (none))) = some r := by first | (rw [hy153]; with_reducible exact H) | (have H2_ := (Option.bind_some _ _).symm.trans H; rw [hy153]; with_reducible exact H2_) | (have H2_ := (Option.bind_some _ _).symm.trans H; with_reducible exact H2_) | with_reducible exact H | (rw [hy153]; exact H) | exact H
         have Ny153 := aM hy153; clear hy153
         have c12b0 := eq_true (of_decide_eq_true (by first | (with_reducible assumption) | assumption) : 0 ≤ x5_1)
         have c13b0 := eq_true (of_decide_eq_true (by first | (with_reducible assumption) | assumption) : x5_1 ≤ (l0.length : Int))
         obtain ⟨y156, hy156⟩ : ∃ y_ : List (S45), y_ = (l0.drop (x5_1 : Int).toNat) := ⟨_, rfl⟩
         replace H : (if y153.length + y156.length < 8796093022208 then (some (y153 ++ y156)) else (none)) = some r := by first | (rw [hy156]; with_reducible exact H) | (have H2_ := (Option.bind_some _ _).symm.trans H; rw [hy156]; with_reducible exact H2_) | (have H2_ := (Option.bind_some _ _).symm.trans H; with_reducible exact H2_) | with_reducible exact H | (rw [hy156]; exact H) | exact H
         have Ny156 := aM hy156; clear hy156
         by_cases c14 : y153.length + y156.length < 8796093022208
         ·rw [if_pos c14] at H
          have LMc14 := aM c14; clear c14; obtain ⟨y160, hy160⟩ : ∃ y_ : List (S45), y_ = (y153 ++ y156) := ⟨_, rfl⟩
          replace H : (some y160) = some r := by first | (rw [hy160]; with_reducible exact H) | (have H2_ := (Option.bind_some _ _).symm.trans H; rw [hy160]; with_reducible exact H2_) | (have H2_ := (Option.bind_some _ _).symm.trans H; with_reducible exact H2_) | with_reducible exact H | (rw [hy160]; exact H) | exact H
          have Ny160 := aM hy160; clear hy160; obtain rfl := Option.some.inj H
          have p145 : 0 ≤ (x5_1 : Int) := of_decide_eq_true (by first | (with_reducible assumption) | assumption)
          have q145 : x5_1 < (l0.length : Int) := of_decide_eq_true (by first | (with_reducible assumption) | assumption)
          obtain ⟨ad145, e145, hx145_0, hx145_1⟩ := at_T45 HR0.out x5_1 p145 q145
          cases e145
          replace hx145_0 := (HB.out.cell (World.block_lt_of_cell? w _ hx145_0)).trans hx145_0; replace hx145_1 := (HB.out.cell (World.block_lt_of_cell? w _ hx145_1)).trans hx145_1; replace p145 := eq_true p145; replace q145 := eq_true q145; have Z15_0 : wr.cell? ⟨gb144, 0, none⟩ = some (.int .i64 a1_0) := yc BK144.out 0; have Z15_1 : wr.cell? ⟨gb144, 1, none⟩ = some (.int .i64 a1_1) := yc BK144.out 1; have Y15_0 := yZ BK144.out 0; have Y15_1 := yZ BK144.out 1
          have q16 : (x5_1 : Int) ≤ ((l0.length : Int) : Int) := of_decide_eq_true (by first | (with_reducible assumption) | assumption)
          obtain ⟨i016, hi016, _, hsz16, _⟩ := info_parts info45; have hroom16 : l0.length ≤ c0 := HC0.out; have hC16 : Kd.C k45 _ (some ad145) l0.length l0 := HR0.out
          have hcut16 := cut_to (P := Try.prog) 26 45 .i64 Try.underlying26 hi016 (some ad145) l0.length c0 x5_1 (of_decide_eq_true (by first | (with_reducible assumption) | assumption)) q16 hroom16
          have hr16 := Kd.C_take (m := (x5_1 : Int).toNat) hC16 (by omega)
          have hy16 : y146.length = (x5_1 : Int).toNat := (by rw [Ny146.out, List.length_take]; omega)
          rw [← Ny146.out] at hr16
          rw [← hy16] at hcut16
          have HR149 := aM hr16
          have HC149 := aM (show y146.length ≤ c0 from by omega)
          clear hr16 hC16 hroom16 hi016 hsz16; have KY16 := aM hy16; clear hy16; replace q16 := eq_true q16
          go_wp2_with (first | ((with_reducible refine gate_builtin (b := .append) (xs := #[.tmp 23, .tmp 26]) rfl ?_); at_builtin; refine Kd.R_append_rows k45 (w0 := w) w.heap.size rfl (.tmp 23) (.tmp 26) 26 45 (.agg #[(.int .i64 0), (.int .i64 0)]) 16 rfl Try.underlying26 info45 rfl (by decide) (by omega) (.slice none 0 0) ([] : List (S45)) y146 _ _ _ (fun k_ => k_ ≠ gb144) (fun _ => False) rfl rfl ?aO ?aR (fun _ _ h => h) (fun _ h => h.elim) ?aF ?aB ?aS ?aL ?_; (case aR => exact cK HR149.out HB.out); (case aB => exact (zH HB.out)); (case aF => exact (fun k_ hk => Kd.freshB (g := gb144) (o := .cells #[.int .i64 a1_0, .int .i64 a1_1] 45 (0, 0)) (yH BK144.out) k_ hk)); (case aO => exact ((Kd.R_nil _ _ _ _ (fun k_ => k_ ≠ gb144)))); (case aS => exact (zZ (zH HB.out))); (case aL => have := LMc10.out; omega); intro v151 w17 ho hb hg hat; rw [← Ny150.out] at ho; replace BK144 := aM (blk_grown (g := gb144) (o := .cells #[.int .i64 a1_0, .int .i64 a1_1] 45 (0, 0)) (yH BK144.out) hg (by simp [Value.ownBlock])); replace HB := aM (hb); have HO152 := aM (ho); clear ho hb hg hat; obtain ⟨Z18_0, Z18_1, Y18_0, Y18_1⟩ := y2 BK144.out) | ((with_reducible refine gate_builtin (b := .append) (xs := #[.tmp 28, .tmp 30]) rfl ?_); at_builtin; refine Kd.R_append k45 (w0 := w) w.heap.size rfl (.tmp 28) (.tmp 30) 26 45 (.agg #[(.int .i64 0), (.int .i64 0)]) 16 rfl Try.underlying26 info45 rfl (by decide) (by omega) v151 y150 (⟨a1_0, a1_1⟩ : S45) [.int .i64 a1_0, .int .i64 a1_1] (fun k_ => k_ ≠ gb144) (fun _ => False) rfl rfl ?aP (fun _ hk => hk.elim) ?aF ?aO ?aB ?aS ?aL ?_; (case aP => exact k45_mkM _ _ _ (⟨a1_0, a1_1⟩ : S45)); (case aB => exact (zH HB.out)); (case aF => exact (fun k_ hk => Kd.freshB (g := gb144) (o := .cells #[.int .i64 a1_0, .int .i64 a1_1] 45 (0, 0)) (yH BK144.out) k_ hk)); (case aO => exact (xH HO152.out)); (case aS => exact (zZ (zH HB.out))); (case aL => have := LMc11.out; omega); intro v154 w19 ho hb hg hat; rw [← Ny153.out] at ho; replace BK144 := aM (blk_grown (g := gb144) (o := .cells #[.int .i64 a1_0, .int .i64 a1_1] 45 (0, 0)) (yH BK144.out) hg (Kd.R_away HO152.out (fun _ hk => hk))); replace HB := aM (hb); have HO155 := aM (ho); clear HO152; clear ho hb hg hat; have q20 : (x5_1 : Int) ≤ ((l0.length : Int) : Int) := of_decide_eq_true (by first | (with_reducible assumption) | assumption); obtain ⟨i020, hi020, _, hsz20, _⟩ := info_parts info45; have hroom20 : l0.length ≤ c0 := HC0.out; have hC20 : Kd.C k45 _ (some ad145) l0.length l0 := HR0.out; have q020 : (0 : Int) ≤ (x5_1 : Int) := of_decide_eq_true (by first | (with_reducible assumption) | assumption); have hcut20 := cut_from (P := Try.prog) 26 45 .i64 Try.underlying26 hi020 2 hsz20 (some ad145) l0.length c0 x5_1 q020 q20; have hr20 := Kd.C_drop (m := (x5_1 : Int).toNat) (c := c0) hC20 (by omega) hroom20; obtain ⟨A20, hA20⟩ : ∃ A1, A1 = (if c0 = (x5_1 : Int).toNat then (some ad145) else ((some ad145) : Option Addr).map (·.add ((x5_1 : Int).toNat * 2))) := ⟨_, rfl⟩; obtain ⟨c20, hc20⟩ : ∃ c1, c1 = c0 - (x5_1 : Int).toNat := ⟨_, rfl⟩; have hy20 : y156.length = l0.length - (x5_1 : Int).toNat := (by rw [Ny156.out, List.length_drop] <;> omega); rw [show (l0).drop (x5_1 : Int).toNat = y156 from Ny156.out.symm] at hr20; replace hr20 : Kd.C k45 _ A20 y156.length y156 := (by rw [hA20]; exact hr20); rw [← hy20, ← hA20, ← hc20] at hcut20; have HR159 := aM hr20; have HC159 := aM (show y156.length ≤ c20 from by rw [hy20, hc20]; exact Nat.sub_le_sub_right hroom20 _); clear hr20 hC20 hroom20 hi020 hsz20 hc20; have KY20 := aM hy20; have KA20 := aM hA20; clear hy20 hA20; replace q20 := eq_true q20) | ((with_reducible refine gate_builtin (b := .append) (xs := #[.tmp 32, .tmp 35]) rfl ?_); at_builtin; refine Kd.R_append_rows k45 (w0 := w) w.heap.size rfl (.tmp 32) (.tmp 35) 26 45 (.agg #[(.int .i64 0), (.int .i64 0)]) 16 rfl Try.underlying26 info45 rfl (by decide) (by omega) v154 y153 y156 _ _ _ (fun k_ => k_ ≠ gb144) (fun _ => False) rfl rfl ?aO ?aR (fun _ _ h => h) (fun _ h => h.elim) ?aF ?aB ?aS ?aL ?_; (case aR => exact cK HR159.out HB.out); (case aB => exact (zH HB.out)); (case aF => exact (fun k_ hk => Kd.freshB (g := gb144) (o := .cells #[.int .i64 a1_0, .int .i64 a1_1] 45 (0, 0)) (yH BK144.out) k_ hk)); (case aO => exact (xH HO155.out)); (case aS => exact (zZ (zH HB.out))); (case aL => have := LMc14.out; omega); intro v161 w21 ho hb hg hat; rw [← Ny160.out] at ho; replace BK144 := aM (blk_grown (g := gb144) (o := .cells #[.int .i64 a1_0, .int .i64 a1_1] 45 (0, 0)) (yH BK144.out) hg (Kd.R_away HO155.out (fun _ hk => hk))); replace HB := aM (hb); have HO162 := aM (ho); clear HO155; clear ho hb hg hat))
          repeat (go_quiet (first | ((with_reducible refine gate_builtin (b := .append) (xs := #[.tmp 23, .tmp 26]) rfl ?_); at_builtin; refine Kd.R_append_rows k45 (w0 := w) w.heap.size rfl (.tmp 23) (.tmp 26) 26 45 (.agg #[(.int .i64 0), (.int .i64 0)]) 16 rfl Try.underlying26 info45 rfl (by decide) (by omega) (.slice none 0 0) ([] : List (S45)) y146 _ _ _ (fun k_ => k_ ≠ gb144) (fun _ => False) rfl rfl ?aO ?aR (fun _ _ h => h) (fun _ h => h.elim) ?aF ?aB ?aS ?aL ?_; (case aR => exact cK HR149.out HB.out); (case aB => exact (zH HB.out)); (case aF => exact (fun k_ hk => Kd.freshB (g := gb144) (o := .cells #[.int .i64 a1_0, .int .i64 a1_1] 45 (0, 0)) (yH BK144.out) k_ hk)); (case aO => exact ((Kd.R_nil _ _ _ _ (fun k_ => k_ ≠ gb144)))); (case aS => exact (zZ (zH HB.out))); (case aL => have := LMc10.out; omega); intro v151 w17 ho hb hg hat; rw [← Ny150.out] at ho; have n0_ := aM (blk_grown (g := gb144) (o := .cells #[.int .i64 a1_0, .int .i64 a1_1] 45 (0, 0)) (yH BK144.out) hg (by simp [Value.ownBlock])); have n1_ := aM (hb); have n2_ := aM (ho); clear BK144; clear HB; have BK144 := n0_; have HB := n1_; have HO152 := n2_; clear n0_ n1_ n2_; clear ho hb hg hat; obtain ⟨Z18_0, Z18_1, Y18_0, Y18_1⟩ := y2 BK144.out) | ((with_reducible refine gate_builtin (b := .append) (xs := #[.tmp 28, .tmp 30]) rfl ?_); at_builtin; refine Kd.R_append k45 (w0 := w) w.heap.size rfl (.tmp 28) (.tmp 30) 26 45 (.agg #[(.int .i64 0), (.int .i64 0)]) 16 rfl Try.underlying26 info45 rfl (by decide) (by omega) v151 y150 (⟨a1_0, a1_1⟩ : S45) [.int .i64 a1_0, .int .i64 a1_1] (fun k_ => k_ ≠ gb144) (fun _ => False) rfl rfl ?aP (fun _ hk => hk.elim) ?aF ?aO ?aB ?aS ?aL ?_; (case aP => exact k45_mkM _ _ _ (⟨a1_0, a1_1⟩ : S45)); (case aB => exact (zH HB.out)); (case aF => exact (fun k_ hk => Kd.freshB (g := gb144) (o := .cells #[.int .i64 a1_0, .int .i64 a1_1] 45 (0, 0)) (yH BK144.out) k_ hk)); (case aO => exact (xH HO152.out)); (case aS => exact (zZ (zH HB.out))); (case aL => have := LMc11.out; omega); intro v154 w19 ho hb hg hat; rw [← Ny153.out] at ho; have n0_ := aM (blk_grown (g := gb144) (o := .cells #[.int .i64 a1_0, .int .i64 a1_1] 45 (0, 0)) (yH BK144.out) hg (Kd.R_away HO152.out (fun _ hk => hk))); have n1_ := aM (hb); have n2_ := aM (ho); clear BK144; clear HB; clear HO152; have BK144 := n0_; have HB := n1_; have HO155 := n2_; clear n0_ n1_ n2_; clear ho hb hg hat; have q20 : (x5_1 : Int) ≤ ((l0.length : Int) : Int) := of_decide_eq_true (by first | (with_reducible assumption) | assumption); obtain ⟨i020, hi020, _, hsz20, _⟩ := info_parts info45; have hroom20 : l0.length ≤ c0 := HC0.out; have hC20 : Kd.C k45 _ (some ad145) l0.length l0 := HR0.out; have q020 : (0 : Int) ≤ (x5_1 : Int) := of_decide_eq_true (by first | (with_reducible assumption) | assumption); have hcut20 := cut_from (P := Try.prog) 26 45 .i64 Try.underlying26 hi020 2 hsz20 (some ad145) l0.length c0 x5_1 q020 q20; have hr20 := Kd.C_drop (m := (x5_1 : Int).toNat) (c := c0) hC20 (by omega) hroom20; obtain ⟨A20, hA20⟩ : ∃ A1, A1 = (if c0 = (x5_1 : Int).toNat then (some ad145) else ((some ad145) : Option Addr).map (·.add ((x5_1 : Int).toNat * 2))) := ⟨_, rfl⟩; obtain ⟨c20, hc20⟩ : ∃ c1, c1 = c0 - (x5_1 : Int).toNat := ⟨_, rfl⟩; have hy20 : y156.length = l0.length - (x5_1 : Int).toNat := (by rw [Ny156.out, List.length_drop] <;> omega); rw [show (l0).drop (x5_1 : Int).toNat = y156 from Ny156.out.symm] at hr20; replace hr20 : Kd.C k45 _ A20 y156.length y156 := (by rw [hA20]; exact hr20); rw [← hy20, ← hA20, ← hc20] at hcut20; have HR159 := aM hr20; have HC159 := aM (show y156.length ≤ c20 from by rw [hy20, hc20]; exact Nat.sub_le_sub_right hroom20 _); clear hr20 hC20 hroom20 hi020 hsz20 hc20; have KY20 := aM hy20; have KA20 := aM hA20; clear hy20 hA20; replace q20 := eq_true q20) | ((with_reducible refine gate_builtin (b := .append) (xs := #[.tmp 32, .tmp 35]) rfl ?_); at_builtin; refine Kd.R_append_rows k45 (w0 := w) w.heap.size rfl (.tmp 32) (.tmp 35) 26 45 (.agg #[(.int .i64 0), (.int .i64 0)]) 16 rfl Try.underlying26 info45 rfl (by decide) (by omega) v154 y153 y156 _ _ _ (fun k_ => k_ ≠ gb144) (fun _ => False) rfl rfl ?aO ?aR (fun _ _ h => h) (fun _ h => h.elim) ?aF ?aB ?aS ?aL ?_; (case aR => exact cK HR159.out HB.out); (case aB => exact (zH HB.out)); (case aF => exact (fun k_ hk => Kd.freshB (g := gb144) (o := .cells #[.int .i64 a1_0, .int .i64 a1_1] 45 (0, 0)) (yH BK144.out) k_ hk)); (case aO => exact (xH HO155.out)); (case aS => exact (zZ (zH HB.out))); (case aL => have := LMc14.out; omega); intro v161 w21 ho hb hg hat; rw [← Ny160.out] at ho; have n0_ := aM (blk_grown (g := gb144) (o := .cells #[.int .i64 a1_0, .int .i64 a1_1] 45 (0, 0)) (yH BK144.out) hg (Kd.R_away HO155.out (fun _ hk => hk))); have n1_ := aM (hb); have n2_ := aM (ho); clear BK144; clear HB; clear HO155; have BK144 := n0_; have HB := n1_; have HO162 := n2_; clear n0_ n1_ n2_; clear ho hb hg hat)); try go_wp2_with (first | ((with_reducible refine gate_builtin (b := .append) (xs := #[.tmp 23, .tmp 26]) rfl ?_); at_builtin; refine Kd.R_append_rows k45 (w0 := w) w.heap.size rfl (.tmp 23) (.tmp 26) 26 45 (.agg #[(.int .i64 0), (.int .i64 0)]) 16 rfl Try.underlying26 info45 rfl (by decide) (by omega) (.slice none 0 0) ([] : List (S45)) y146 _ _ _ (fun k_ => k_ ≠ gb144) (fun _ => False) rfl rfl ?aO ?aR (fun _ _ h => h) (fun _ h => h.elim) ?aF ?aB ?aS ?aL ?_; (case aR => exact cK HR149.out HB.out); (case aB => exact (zH HB.out)); (case aF => exact (fun k_ hk => Kd.freshB (g := gb144) (o := .cells #[.int .i64 a1_0, .int .i64 a1_1] 45 (0, 0)) (yH BK144.out) k_ hk)); (case aO => exact ((Kd.R_nil _ _ _ _ (fun k_ => k_ ≠ gb144)))); (case aS => exact (zZ (zH HB.out))); (case aL => have := LMc10.out; omega); intro v151 w17 ho hb hg hat; rw [← Ny150.out] at ho; have n0_ := aM (blk_grown (g := gb144) (o := .cells #[.int .i64 a1_0, .int .i64 a1_1] 45 (0, 0)) (yH BK144.out) hg (by simp [Value.ownBlock])); have n1_ := aM (hb); have n2_ := aM (ho); clear BK144; clear HB; have BK144 := n0_; have HB := n1_; have HO152 := n2_; clear n0_ n1_ n2_; clear ho hb hg hat; obtain ⟨Z18_0, Z18_1, Y18_0, Y18_1⟩ := y2 BK144.out) | ((with_reducible refine gate_builtin (b := .append) (xs := #[.tmp 28, .tmp 30]) rfl ?_); at_builtin; refine Kd.R_append k45 (w0 := w) w.heap.size rfl (.tmp 28) (.tmp 30) 26 45 (.agg #[(.int .i64 0), (.int .i64 0)]) 16 rfl Try.underlying26 info45 rfl (by decide) (by omega) v151 y150 (⟨a1_0, a1_1⟩ : S45) [.int .i64 a1_0, .int .i64 a1_1] (fun k_ => k_ ≠ gb144) (fun _ => False) rfl rfl ?aP (fun _ hk => hk.elim) ?aF ?aO ?aB ?aS ?aL ?_; (case aP => exact k45_mkM _ _ _ (⟨a1_0, a1_1⟩ : S45)); (case aB => exact (zH HB.out)); (case aF => exact (fun k_ hk => Kd.freshB (g := gb144) (o := .cells #[.int .i64 a1_0, .int .i64 a1_1] 45 (0, 0)) (yH BK144.out) k_ hk)); (case aO => exact (xH HO152.out)); (case aS => exact (zZ (zH HB.out))); (case aL => have := LMc11.out; omega); intro v154 w19 ho hb hg hat; rw [← Ny153.out] at ho; have n0_ := aM (blk_grown (g := gb144) (o := .cells #[.int .i64 a1_0, .int .i64 a1_1] 45 (0, 0)) (yH BK144.out) hg (Kd.R_away HO152.out (fun _ hk => hk))); have n1_ := aM (hb); have n2_ := aM (ho); clear BK144; clear HB; clear HO152; have BK144 := n0_; have HB := n1_; have HO155 := n2_; clear n0_ n1_ n2_; clear ho hb hg hat; have q20 : (x5_1 : Int) ≤ ((l0.length : Int) : Int) := of_decide_eq_true (by first | (with_reducible assumption) | assumption); obtain ⟨i020, hi020, _, hsz20, _⟩ := info_parts info45; have hroom20 : l0.length ≤ c0 := HC0.out; have hC20 : Kd.C k45 _ (some ad145) l0.length l0 := HR0.out; have q020 : (0 : Int) ≤ (x5_1 : Int) := of_decide_eq_true (by first | (with_reducible assumption) | assumption); have hcut20 := cut_from (P := Try.prog) 26 45 .i64 Try.underlying26 hi020 2 hsz20 (some ad145) l0.length c0 x5_1 q020 q20; have hr20 := Kd.C_drop (m := (x5_1 : Int).toNat) (c := c0) hC20 (by omega) hroom20; obtain ⟨A20, hA20⟩ : ∃ A1, A1 = (if c0 = (x5_1 : Int).toNat then (some ad145) else ((some ad145) : Option Addr).map (·.add ((x5_1 : Int).toNat * 2))) := ⟨_, rfl⟩; obtain ⟨c20, hc20⟩ : ∃ c1, c1 = c0 - (x5_1 : Int).toNat := ⟨_, rfl⟩; have hy20 : y156.length = l0.length - (x5_1 : Int).toNat := (by rw [Ny156.out, List.length_drop] <;> omega); rw [show (l0).drop (x5_1 : Int).toNat = y156 from Ny156.out.symm] at hr20; replace hr20 : Kd.C k45 _ A20 y156.length y156 := (by rw [hA20]; exact hr20); rw [← hy20, ← hA20, ← hc20] at hcut20; have HR159 := aM hr20; have HC159 := aM (show y156.length ≤ c20 from by rw [hy20, hc20]; exact Nat.sub_le_sub_right hroom20 _); clear hr20 hC20 hroom20 hi020 hsz20 hc20; have KY20 := aM hy20; have KA20 := aM hA20; clear hy20 hA20; replace q20 := eq_true q20) | ((with_reducible refine gate_builtin (b := .append) (xs := #[.tmp 32, .tmp 35]) rfl ?_); at_builtin; refine Kd.R_append_rows k45 (w0 := w) w.heap.size rfl (.tmp 32) (.tmp 35) 26 45 (.agg #[(.int .i64 0), (.int .i64 0)]) 16 rfl Try.underlying26 info45 rfl (by decide) (by omega) v154 y153 y156 _ _ _ (fun k_ => k_ ≠ gb144) (fun _ => False) rfl rfl ?aO ?aR (fun _ _ h => h) (fun _ h => h.elim) ?aF ?aB ?aS ?aL ?_; (case aR => exact cK HR159.out HB.out); (case aB => exact (zH HB.out)); (case aF => exact (fun k_ hk => Kd.freshB (g := gb144) (o := .cells #[.int .i64 a1_0, .int .i64 a1_1] 45 (0, 0)) (yH BK144.out) k_ hk)); (case aO => exact (xH HO155.out)); (case aS => exact (zZ (zH HB.out))); (case aL => have := LMc14.out; omega); intro v161 w21 ho hb hg hat; rw [← Ny160.out] at ho; have n0_ := aM (blk_grown (g := gb144) (o := .cells #[.int .i64 a1_0, .int .i64 a1_1] 45 (0, 0)) (yH BK144.out) hg (Kd.R_away HO155.out (fun _ hk => hk))); have n1_ := aM (hb); have n2_ := aM (ho); clear BK144; clear HB; clear HO155; have BK144 := n0_; have HB := n1_; have HO162 := n2_; clear n0_ n1_ n2_; clear ho hb hg hat)))
          go_ret
          exact ⟨_, eW, xH (xM HO162.out (fun _ hk => trivial)), zH HB.out⟩
         ·rw [if_neg c14] at H
          exact absurd H (by simp)
        ·rw [if_neg c11] at H
         exact absurd H (by simp)
       ·rw [if_neg c10] at H
        exact absurd H (by simp)
      ·rw [if_neg c9] at H
       exact absurd H (by simp)
    ·rw [if_neg c5] at H
     exact absurd H (by simp)
   ·rw [if_neg c4] at H
    have c4b0 : decide (x5_1 < (l0.length : Int)) = false := decide_eq_false c4; clear c4
    by_cases c22 : 0 ≤ x5_1
    ·rw [if_pos c22] at H
     have c22b0 := eq_true c22; have c22b1 : decide (0 ≤ x5_1) = true := decide_eq_true c22; clear c22
     by_cases c23 : x5_1 ≤ (l0.length : Int)
     ·rw [if_pos c23] at H
      have c23b0 := eq_true c23; have c23b1 : decide (x5_1 ≤ (l0.length : Int)) = true := decide_eq_true c23; clear c23; obtain ⟨y163, hy163⟩ : ∃ y_ : List (S45), y_ = (l0.take (x5_1 : Int).toNat) := ⟨_, rfl⟩
      replace H : (if ([] : List (S45)).length + y163.length < 8796093022208 then ((some (([] : List (S45)) ++ y163 : List (S45))).bind fun y167 => (if y167.length < 8796093022208 then ((some (y167 ++ [(⟨a1_0, a1_1⟩ : S45)] : List (S45))).bind fun y170 => ((some (l0.drop (x5_1 : Int).toNat : List (S45))).bind fun y173 => (if y170.length + y173.length < 8796093022208 then (some (y170 ++ y173)) else (none)))) else (none))) else (none)) = some r := by first | (rw [hy163]; with_reducible exact H) | (have H2_ := (Option.bind_some _ _).symm.trans H; rw [hy163]; with_reducible exact H2_) | (have H2_ := (Option.bind_some _ _).symm.trans H; with_reducible exact H2_) | with_reducible exact H | (rw [hy163]; exact H) | exact H
      have Ny163 := aM hy163; clear hy163
      by_cases c24 : ([] : List (S45)).length + y163.length < 8796093022208
      ·rw [if_pos c24] at H
       have LMc24 := aM c24; clear c24; obtain ⟨y167, hy167⟩ : ∃ y_ : List (S45), y_ = (([] : List (S45)) ++ y163) := ⟨_, rfl⟩
       replace H : (if y167.length < 8796093022208 then ((some (y167 ++ [(⟨a1_0, a1_1⟩ : S45)] : List (S45))).bind fun y170 => ((some (l0.drop (x5_1 : Int).toNat : List (S45))).bind fun y173 => (if y170.length + y173.length < 8796093022208 then (some (y170 ++ y173)) else (none)))) else (none)) = some r := by first | (rw [hy167]; with_reducible exact H) | (have H2_ := (Option.bind_some _ _).symm.trans H; rw [hy167]; with_reducible exact H2_) | (have H2_ := (Option.bind_some _ _).symm.trans H; with_reducible exact H2_) | with_reducible exact H | (rw [hy167]; exact H) | exact H
       have Ny167 := aM hy167; clear hy167
       by_cases c25 : y167.length < 8796093022208
       ·rw [if_pos c25] at H
        have LMc25 := aM c25; clear c25; obtain ⟨y170, hy170⟩ : ∃ y_ : List (S45), y_ = (y167 ++ [(⟨a1_0, a1_1⟩ : S45)]) := ⟨_, rfl⟩
        replace H : ((some (l0.drop (x5_1 : Int).toNat : List (S45))).bind fun y173 => (if y170.length + y173.length < 8796093022208 then (some (y170 ++ y173)) else (none))) = some r := by first | (rw [hy170]; with_reducible exact H) | (have H2_ := (Option.bind_some _ _).symm.trans H; rw [hy170]; with_reducible exact H2_) | (have H2_ := (Option.bind_some _ _).symm.trans H; with_reducible exact H2_) | with_reducible exact H | (rw [hy170]; exact H) | exact H
        have Ny170 := aM hy170; clear hy170
        have c26b0 := eq_true (of_decide_eq_true (by first | (with_reducible assumption) | assumption) : 0 ≤ x5_1)
        have c27b0 := eq_true (of_decide_eq_true (by first | (with_reducible assumption) | assumption) : x5_1 ≤ (l0.length : Int))
        obtain ⟨y173, hy173⟩ : ∃ y_ : List (S45), y_ = (l0.drop (x5_1 : Int).toNat) := ⟨_, rfl⟩
        replace H : (if y170.length + y173.length < 8796093022208 then (some (y170 ++ y173)) else (none)) = some r := by first | (rw [hy173]; with_reducible exact H) | (have H2_ := (Option.bind_some _ _).symm.trans H; rw [hy173]; with_reducible exact H2_) | (have H2_ := (Option.bind_some _ _).symm.trans H; with_reducible exact H2_) | with_reducible exact H | (rw [hy173]; exact H) | exact H
        have Ny173 := aM hy173; clear hy173
        by_cases c28 : y170.length + y173.length < 8796093022208
        ·rw [if_pos c28] at H
         have LMc28 := aM c28; clear c28; obtain ⟨y177, hy177⟩ : ∃ y_ : List (S45), y_ = (y170 ++ y173) := ⟨_, rfl⟩
         replace H : (some y177) = some r := by first | (rw [hy177]; with_reducible exact H) | (have H2_ := (Option.bind_some _ _).symm.trans H; rw [hy177]; with_reducible exact H2_) | (have H2_ := (Option.bind_some _ _).symm.trans H; with_reducible exact H2_) | with_reducible exact H | (rw [hy177]; exact H) | exact H
         have Ny177 := aM hy177; clear hy177; obtain rfl := Option.some.inj H
         have q29 : (x5_1 : Int) ≤ ((l0.length : Int) : Int) := of_decide_eq_true (by first | (with_reducible assumption) | assumption)
         obtain ⟨i029, hi029, _, hsz29, _⟩ := info_parts info45; have hroom29 : l0.length ≤ c0 := HC0.out; have hC29 : Kd.C k45 _ A0 l0.length l0 := HR0.out
         have hcut29 := cut_to (P := Try.prog) 26 45 .i64 Try.underlying26 hi029 A0 l0.length c0 x5_1 (of_decide_eq_true (by first | (with_reducible assumption) | assumption)) q29 hroom29
         have hr29 := Kd.C_take (m := (x5_1 : Int).toNat) hC29 (by omega)
         have hy29 : y163.length = (x5_1 : Int).toNat := (by rw [Ny163.out, List.length_take]; omega)
         rw [← Ny163.out] at hr29
         rw [← hy29] at hcut29
         have HR166 := aM hr29
         have HC166 := aM (show y163.length ≤ c0 from by omega)
         clear hr29 hC29 hroom29 hi029 hsz29; have KY29 := aM hy29; clear hy29; replace q29 := eq_true q29
         go_wp2_with (first | ((with_reducible refine gate_builtin (b := .append) (xs := #[.tmp 23, .tmp 26]) rfl ?_); at_builtin; refine Kd.R_append_rows k45 (w0 := w) w.heap.size rfl (.tmp 23) (.tmp 26) 26 45 (.agg #[(.int .i64 0), (.int .i64 0)]) 16 rfl Try.underlying26 info45 rfl (by decide) (by omega) (.slice none 0 0) ([] : List (S45)) y163 _ _ _ (fun k_ => k_ ≠ gb144) (fun _ => False) rfl rfl ?aO ?aR (fun _ _ h => h) (fun _ h => h.elim) ?aF ?aB ?aS ?aL ?_; (case aR => exact cK HR166.out HB.out); (case aB => exact (zH HB.out)); (case aF => exact (fun k_ hk => Kd.freshB (g := gb144) (o := .cells #[.int .i64 a1_0, .int .i64 a1_1] 45 (0, 0)) (yH BK144.out) k_ hk)); (case aO => exact ((Kd.R_nil _ _ _ _ (fun k_ => k_ ≠ gb144)))); (case aS => exact (zZ (zH HB.out))); (case aL => have := LMc24.out; omega); intro v168 w30 ho hb hg hat; rw [← Ny167.out] at ho; replace BK144 := aM (blk_grown (g := gb144) (o := .cells #[.int .i64 a1_0, .int .i64 a1_1] 45 (0, 0)) (yH BK144.out) hg (by simp [Value.ownBlock])); replace HB := aM (hb); have HO169 := aM (ho); clear ho hb hg hat; obtain ⟨Z31_0, Z31_1, Y31_0, Y31_1⟩ := y2 BK144.out) | ((with_reducible refine gate_builtin (b := .append) (xs := #[.tmp 28, .tmp 30]) rfl ?_); at_builtin; refine Kd.R_append k45 (w0 := w) w.heap.size rfl (.tmp 28) (.tmp 30) 26 45 (.agg #[(.int .i64 0), (.int .i64 0)]) 16 rfl Try.underlying26 info45 rfl (by decide) (by omega) v168 y167 (⟨a1_0, a1_1⟩ : S45) [.int .i64 a1_0, .int .i64 a1_1] (fun k_ => k_ ≠ gb144) (fun _ => False) rfl rfl ?aP (fun _ hk => hk.elim) ?aF ?aO ?aB ?aS ?aL ?_; (case aP => exact k45_mkM _ _ _ (⟨a1_0, a1_1⟩ : S45)); (case aB => exact (zH HB.out)); (case aF => exact (fun k_ hk => Kd.freshB (g := gb144) (o := .cells #[.int .i64 a1_0, .int .i64 a1_1] 45 (0, 0)) (yH BK144.out) k_ hk)); (case aO => exact (xH HO169.out)); (case aS => exact (zZ (zH HB.out))); (case aL => have := LMc25.out; omega); intro v171 w32 ho hb hg hat; rw [← Ny170.out] at ho; replace BK144 := aM (blk_grown (g := gb144) (o := .cells #[.int .i64 a1_0, .int .i64 a1_1] 45 (0, 0)) (yH BK144.out) hg (Kd.R_away HO169.out (fun _ hk => hk))); replace HB := aM (hb); have HO172 := aM (ho); clear HO169; clear ho hb hg hat; have q33 : (x5_1 : Int) ≤ ((l0.length : Int) : Int) := of_decide_eq_true (by first | (with_reducible assumption) | assumption); obtain ⟨i033, hi033, _, hsz33, _⟩ := info_parts info45; have hroom33 : l0.length ≤ c0 := HC0.out; have hC33 : Kd.C k45 _ A0 l0.length l0 := HR0.out; have q033 : (0 : Int) ≤ (x5_1 : Int) := of_decide_eq_true (by first | (with_reducible assumption) | assumption); have hcut33 := cut_from (P := Try.prog) 26 45 .i64 Try.underlying26 hi033 2 hsz33 A0 l0.length c0 x5_1 q033 q33; have hr33 := Kd.C_drop (m := (x5_1 : Int).toNat) (c := c0) hC33 (by omega) hroom33; obtain ⟨A33, hA33⟩ : ∃ A1, A1 = (if c0 = (x5_1 : Int).toNat then A0 else (A0 : Option Addr).map (·.add ((x5_1 : Int).toNat * 2))) := ⟨_, rfl⟩; obtain ⟨c33, hc33⟩ : ∃ c1, c1 = c0 - (x5_1 : Int).toNat := ⟨_, rfl⟩; have hy33 : y173.length = l0.length - (x5_1 : Int).toNat := (by rw [Ny173.out, List.length_drop] <;> omega); rw [show (l0).drop (x5_1 : Int).toNat = y173 from Ny173.out.symm] at hr33; replace hr33 : Kd.C k45 _ A33 y173.length y173 := (by rw [hA33]; exact hr33); rw [← hy33, ← hA33, ← hc33] at hcut33; have HR176 := aM hr33; have HC176 := aM (show y173.length ≤ c33 from by rw [hy33, hc33]; exact Nat.sub_le_sub_right hroom33 _); clear hr33 hC33 hroom33 hi033 hsz33 hc33; have KY33 := aM hy33; have KA33 := aM hA33; clear hy33 hA33; replace q33 := eq_true q33) | ((with_reducible refine gate_builtin (b := .append) (xs := #[.tmp 32, .tmp 35]) rfl ?_); at_builtin; refine Kd.R_append_rows k45 (w0 := w) w.heap.size rfl (.tmp 32) (.tmp 35) 26 45 (.agg #[(.int .i64 0), (.int .i64 0)]) 16 rfl Try.underlying26 info45 rfl (by decide) (by omega) v171 y170 y173 _ _ _ (fun k_ => k_ ≠ gb144) (fun _ => False) rfl rfl ?aO ?aR (fun _ _ h => h) (fun _ h => h.elim) ?aF ?aB ?aS ?aL ?_; (case aR => exact cK HR176.out HB.out); (case aB => exact (zH HB.out)); (case aF => exact (fun k_ hk => Kd.freshB (g := gb144) (o := .cells #[.int .i64 a1_0, .int .i64 a1_1] 45 (0, 0)) (yH BK144.out) k_ hk)); (case aO => exact (xH HO172.out)); (case aS => exact (zZ (zH HB.out))); (case aL => have := LMc28.out; omega); intro v178 w34 ho hb hg hat; rw [← Ny177.out] at ho; replace BK144 := aM (blk_grown (g := gb144) (o := .cells #[.int .i64 a1_0, .int .i64 a1_1] 45 (0, 0)) (yH BK144.out) hg (Kd.R_away HO172.out (fun _ hk => hk))); replace HB := aM (hb); have HO179 := aM (ho); clear HO172; clear ho hb hg hat))
         repeat (go_quiet (first | ((with_reducible refine gate_builtin (b := .append) (xs := #[.tmp 23, .tmp 26]) rfl ?_); at_builtin; refine Kd.R_append_rows k45 (w0 := w) w.heap.size rfl (.tmp 23) (.tmp 26) 26 45 (.agg #[(.int .i64 0), (.int .i64 0)]) 16 rfl Try.underlying26 info45 rfl (by decide) (by omega) (.slice none 0 0) ([] : List (S45)) y163 _ _ _ (fun k_ => k_ ≠ gb144) (fun _ => False) rfl rfl ?aO ?aR (fun _ _ h => h) (fun _ h => h.elim) ?aF ?aB ?aS ?aL ?_; (case aR => exact cK HR166.out HB.out); (case aB => exact (zH HB.out)); (case aF => exact (fun k_ hk => Kd.freshB (g := gb144) (o := .cells #[.int .i64 a1_0, .int .i64 a1_1] 45 (0, 0)) (yH BK144.out) k_ hk)); (case aO => exact ((Kd.R_nil _ _ _ _ (fun k_ => k_ ≠ gb144)))); (case aS => exact (zZ (zH HB.out))); (case aL => have := LMc24.out; omega); intro v168 w30 ho hb hg hat; rw [← Ny167.out] at ho; have n0_ := aM (blk_grown (g := gb144) (o := .cells #[.int .i64 a1_0, .int .i64 a1_1] 45 (0, 0)) (yH BK144.out) hg (by simp [Value.ownBlock])); have n1_ := aM (hb); have n2_ := aM (ho); clear BK144; clear HB; have BK144 := n0_; have HB := n1_; have HO169 := n2_; clear n0_ n1_ n2_; clear ho hb hg hat; obtain ⟨Z31_0, Z31_1, Y31_0, Y31_1⟩ := y2 BK144.out) | ((with_reducible refine gate_builtin (b := .append) (xs := #[.tmp 28, .tmp 30]) rfl ?_); at_builtin; refine Kd.R_append k45 (w0 := w) w.heap.size rfl (.tmp 28) (.tmp 30) 26 45 (.agg #[(.int .i64 0), (.int .i64 0)]) 16 rfl Try.underlying26 info45 rfl (by decide) (by omega) v168 y167 (⟨a1_0, a1_1⟩ : S45) [.int .i64 a1_0, .int .i64 a1_1] (fun k_ => k_ ≠ gb144) (fun _ => False) rfl rfl ?aP (fun _ hk => hk.elim) ?aF ?aO ?aB ?aS ?aL ?_; (case aP => exact k45_mkM _ _ _ (⟨a1_0, a1_1⟩ : S45)); (case aB => exact (zH HB.out)); (case aF => exact (fun k_ hk => Kd.freshB (g := gb144) (o := .cells #[.int .i64 a1_0, .int .i64 a1_1] 45 (0, 0)) (yH BK144.out) k_ hk)); (case aO => exact (xH HO169.out)); (case aS => exact (zZ (zH HB.out))); (case aL => have := LMc25.out; omega); intro v171 w32 ho hb hg hat; rw [← Ny170.out] at ho; have n0_ := aM (blk_grown (g := gb144) (o := .cells #[.int .i64 a1_0, .int .i64 a1_1] 45 (0, 0)) (yH BK144.out) hg (Kd.R_away HO169.out (fun _ hk => hk))); have n1_ := aM (hb); have n2_ := aM (ho); clear BK144; clear HB; clear HO169; have BK144 := n0_; have HB := n1_; have HO172 := n2_; clear n0_ n1_ n2_; clear ho hb hg hat; have q33 : (x5_1 : Int) ≤ ((l0.length : Int) : Int) := of_decide_eq_true (by first | (with_reducible assumption) | assumption); obtain ⟨i033, hi033, _, hsz33, _⟩ := info_parts info45; have hroom33 : l0.length ≤ c0 := HC0.out; have hC33 : Kd.C k45 _ A0 l0.length l0 := HR0.out; have q033 : (0 : Int) ≤ (x5_1 : Int) := of_decide_eq_true (by first | (with_reducible assumption) | assumption); have hcut33 := cut_from (P := Try.prog) 26 45 .i64 Try.underlying26 hi033 2 hsz33 A0 l0.length c0 x5_1 q033 q33; have hr33 := Kd.C_drop (m := (x5_1 : Int).toNat) (c := c0) hC33 (by omega) hroom33; obtain ⟨A33, hA33⟩ : ∃ A1, A1 = (if c0 = (x5_1 : Int).toNat then A0 else (A0 : Option Addr).map (·.add ((x5_1 : Int).toNat * 2))) := ⟨_, rfl⟩; obtain ⟨c33, hc33⟩ : ∃ c1, c1 = c0 - (x5_1 : Int).toNat := ⟨_, rfl⟩; have hy33 : y173.length = l0.length - (x5_1 : Int).toNat := (by rw [Ny173.out, List.length_drop] <;> omega); rw [show (l0).drop (x5_1 : Int).toNat = y173 from Ny173.out.symm] at hr33; replace hr33 : Kd.C k45 _ A33 y173.length y173 := (by rw [hA33]; exact hr33); rw [← hy33, ← hA33, ← hc33] at hcut33; have HR176 := aM hr33; have HC176 := aM (show y173.length ≤ c33 from by rw [hy33, hc33]; exact Nat.sub_le_sub_right hroom33 _); clear hr33 hC33 hroom33 hi033 hsz33 hc33; have KY33 := aM hy33; have KA33 := aM hA33; clear hy33 hA33; replace q33 := eq_true q33) | ((with_reducible refine gate_builtin (b := .append) (xs := #[.tmp 32, .tmp 35]) rfl ?_); at_builtin; refine Kd.R_append_rows k45 (w0 := w) w.heap.size rfl (.tmp 32) (.tmp 35) 26 45 (.agg #[(.int .i64 0), (.int .i64 0)]) 16 rfl Try.underlying26 info45 rfl (by decide) (by omega) v171 y170 y173 _ _ _ (fun k_ => k_ ≠ gb144) (fun _ => False) rfl rfl ?aO ?aR (fun _ _ h => h) (fun _ h => h.elim) ?aF ?aB ?aS ?aL ?_; (case aR => exact cK HR176.out HB.out); (case aB => exact (zH HB.out)); (case aF => exact (fun k_ hk => Kd.freshB (g := gb144) (o := .cells #[.int .i64 a1_0, .int .i64 a1_1] 45 (0, 0)) (yH BK144.out) k_ hk)); (case aO => exact (xH HO172.out)); (case aS => exact (zZ (zH HB.out))); (case aL => have := LMc28.out; omega); intro v178 w34 ho hb hg hat; rw [← Ny177.out] at ho; have n0_ := aM (blk_grown (g := gb144) (o := .cells #[.int .i64 a1_0, .int .i64 a1_1] 45 (0, 0)) (yH BK144.out) hg (Kd.R_away HO172.out (fun _ hk => hk))); have n1_ := aM (hb); have n2_ := aM (ho); clear BK144; clear HB; clear HO172; have BK144 := n0_; have HB := n1_; have HO179 := n2_; clear n0_ n1_ n2_; clear ho hb hg hat)); try go_wp2_with (first | ((with_reducible refine gate_builtin (b := .append) (xs := #[.tmp 23, .tmp 26]) rfl ?_); at_builtin; refine Kd.R_append_rows k45 (w0 := w) w.heap.size rfl (.tmp 23) (.tmp 26) 26 45 (.agg #[(.int .i64 0), (.int .i64 0)]) 16 rfl Try.underlying26 info45 rfl (by decide) (by omega) (.slice none 0 0) ([] : List (S45)) y163 _ _ _ (fun k_ => k_ ≠ gb144) (fun _ => False) rfl rfl ?aO ?aR (fun _ _ h => h) (fun _ h => h.elim) ?aF ?aB ?aS ?aL ?_; (case aR => exact cK HR166.out HB.out); (case aB => exact (zH HB.out)); (case aF => exact (fun k_ hk => Kd.freshB (g := gb144) (o := .cells #[.int .i64 a1_0, .int .i64 a1_1] 45 (0, 0)) (yH BK144.out) k_ hk)); (case aO => exact ((Kd.R_nil _ _ _ _ (fun k_ => k_ ≠ gb144)))); (case aS => exact (zZ (zH HB.out))); (case aL => have := LMc24.out; omega); intro v168 w30 ho hb hg hat; rw [← Ny167.out] at ho; have n0_ := aM (blk_grown (g := gb144) (o := .cells #[.int .i64 a1_0, .int .i64 a1_1] 45 (0, 0)) (yH BK144.out) hg (by simp [Value.ownBlock])); have n1_ := aM (hb); have n2_ := aM (ho); clear BK144; clear HB; have BK144 := n0_; have HB := n1_; have HO169 := n2_; clear n0_ n1_ n2_; clear ho hb hg hat; obtain ⟨Z31_0, Z31_1, Y31_0, Y31_1⟩ := y2 BK144.out) | ((with_reducible refine gate_builtin (b := .append) (xs := #[.tmp 28, .tmp 30]) rfl ?_); at_builtin; refine Kd.R_append k45 (w0 := w) w.heap.size rfl (.tmp 28) (.tmp 30) 26 45 (.agg #[(.int .i64 0), (.int .i64 0)]) 16 rfl Try.underlying26 info45 rfl (by decide) (by omega) v168 y167 (⟨a1_0, a1_1⟩ : S45) [.int .i64 a1_0, .int .i64 a1_1] (fun k_ => k_ ≠ gb144) (fun _ => False) rfl rfl ?aP (fun _ hk => hk.elim) ?aF ?aO ?aB ?aS ?aL ?_; (case aP => exact k45_mkM _ _ _ (⟨a1_0, a1_1⟩ : S45)); (case aB => exact (zH HB.out)); (case aF => exact (fun k_ hk => Kd.freshB (g := gb144) (o := .cells #[.int .i64 a1_0, .int .i64 a1_1] 45 (0, 0)) (yH BK144.out) k_ hk)); (case aO => exact (xH HO169.out)); (case aS => exact (zZ (zH HB.out))); (case aL => have := LMc25.out; omega); intro v171 w32 ho hb hg hat; rw [← Ny170.out] at ho; have n0_ := aM (blk_grown (g := gb144) (o := .cells #[.int .i64 a1_0, .int .i64 a1_1] 45 (0, 0)) (yH BK144.out) hg (Kd.R_away HO169.out (fun _ hk => hk))); have n1_ := aM (hb); have n2_ := aM (ho); clear BK144; clear HB; clear HO169; have BK144 := n0_; have HB := n1_; have HO172 := n2_; clear n0_ n1_ n2_; clear ho hb hg hat; have q33 : (x5_1 : Int) ≤ ((l0.length : Int) : Int) := of_decide_eq_true (by first | (with_reducible assumption) | assumption); obtain ⟨i033, hi033, _, hsz33, _⟩ := info_parts info45; have hroom33 : l0.length ≤ c0 := HC0.out; have hC33 : Kd.C k45 _ A0 l0.length l0 := HR0.out; have q033 : (0 : Int) ≤ (x5_1 : Int) := of_decide_eq_true (by first | (with_reducible assumption) | assumption); have hcut33 := cut_from (P := Try.prog) 26 45 .i64 Try.underlying26 hi033 2 hsz33 A0 l0.length c0 x5_1 q033 q33; have hr33 := Kd.C_drop (m := (x5_1 : Int).toNat) (c := c0) hC33 (by omega) hroom33; obtain ⟨A33, hA33⟩ : ∃ A1, A1 = (if c0 = (x5_1 : Int).toNat then A0 else (A0 : Option Addr).map (·.add ((x5_1 : Int).toNat * 2))) := ⟨_, rfl⟩; obtain ⟨c33, hc33⟩ : ∃ c1, c1 = c0 - (x5_1 : Int).toNat := ⟨_, rfl⟩; have hy33 : y173.length = l0.length - (x5_1 : Int).toNat := (by rw [Ny173.out, List.length_drop] <;> omega); rw [show (l0).drop (x5_1 : Int).toNat = y173 from Ny173.out.symm] at hr33; replace hr33 : Kd.C k45 _ A33 y173.length y173 := (by rw [hA33]; exact hr33); rw [← hy33, ← hA33, ← hc33] at hcut33; have HR176 := aM hr33; have HC176 := aM (show y173.length ≤ c33 from by rw [hy33, hc33]; exact Nat.sub_le_sub_right hroom33 _); clear hr33 hC33 hroom33 hi033 hsz33 hc33; have KY33 := aM hy33; have KA33 := aM hA33; clear hy33 hA33; replace q33 := eq_true q33) | ((with_reducible refine gate_builtin (b := .append) (xs := #[.tmp 32, .tmp 35]) rfl ?_); at_builtin; refine Kd.R_append_rows k45 (w0 := w) w.heap.size rfl (.tmp 32) (.tmp 35) 26 45 (.agg #[(.int .i64 0), (.int .i64 0)]) 16 rfl Try.underlying26 info45 rfl (by decide) (by omega) v171 y170 y173 _ _ _ (fun k_ => k_ ≠ gb144) (fun _ => False) rfl rfl ?aO ?aR (fun _ _ h => h) (fun _ h => h.elim) ?aF ?aB ?aS ?aL ?_; (case aR => exact cK HR176.out HB.out); (case aB => exact (zH HB.out)); (case aF => exact (fun k_ hk => Kd.freshB (g := gb144) (o := .cells #[.int .i64 a1_0, .int .i64 a1_1] 45 (0, 0)) (yH BK144.out) k_ hk)); (case aO => exact (xH HO172.out)); (case aS => exact (zZ (zH HB.out))); (case aL => have := LMc28.out; omega); intro v178 w34 ho hb hg hat; rw [← Ny177.out] at ho; have n0_ := aM (blk_grown (g := gb144) (o := .cells #[.int .i64 a1_0, .int .i64 a1_1] 45 (0, 0)) (yH BK144.out) hg (Kd.R_away HO172.out (fun _ hk => hk))); have n1_ := aM (hb); have n2_ := aM (ho); clear BK144; clear HB; clear HO172; have BK144 := n0_; have HB := n1_; have HO179 := n2_; clear n0_ n1_ n2_; clear ho hb hg hat)))
         go_ret
         exact ⟨_, eW, xH (xM HO179.out (fun _ hk => trivial)), zH HB.out⟩
        ·rw [if_neg c28] at H
         exact absurd H (by simp)
       ·rw [if_neg c25] at H
        exact absurd H (by simp)
      ·rw [if_neg c24] at H
       exact absurd H (by simp)
     ·rw [if_neg c23] at H
      exact absurd H (by simp)
    ·rw [if_neg c22] at H
     exact absurd H (by simp)

end Go.Proofs.Ytbjcioihomeikaa.PFnBuddies
