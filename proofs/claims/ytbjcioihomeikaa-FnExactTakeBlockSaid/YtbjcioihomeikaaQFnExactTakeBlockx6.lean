/- The walks of FnExactTakeBlock: Go's calls come to what the Lean functions beside them say; no condition. -/
import Derived.Test.YtbjcioihomeikaaQFnExactTakeBlockx0
namespace Go.Proofs.Ytbjcioihomeikaa.PFnExactTakeBlock
open Go.RowKit Go.Proofs.YtbjcioihomeikaaW.PrintWords Go.Proofs.YtbjcioihomeikaaW.PrintLast Go.Proofs.YtbjcioihomeikaaW.PrintMore
attribute [local go_sem] max2_int min2_int max_two min_two max_three min_three max_four min_four   -- for this text's walks alone
set_option linter.unusedVariables false
set_option linter.unusedSimpArgs false
set_option maxRecDepth 100000

/-! ### spec_l6Without: function 30 -/
def spec_l6Without.f (l0 : List (S45)) (a1 : Int) : Option ((List (S45))) := (some (([] : List (S45)) : List (S45))).bind fun y170 => (if 0 ≤ a1 then (if a1 ≤ (l0.length : Int) then ((some (l0.take (a1 : Int).toNat : List (S45))).bind fun y173 => (if y170.length + y173.length < 8796093022208 then ((some (y170 ++ y173 : List (S45))).bind fun y177 => (if 0 ≤ (wrap64 (a1 + 1)) then (if (wrap64 (a1 + 1)) ≤ (l0.length : Int) then ((some (l0.drop ((wrap64 (a1 + 1)) : Int).toNat : List (S45))).bind fun y180 => (if y177.length + y180.length < 8796093022208 then (some (y177 ++ y180)) else (none))) else (none)) else (none))) else (none))) else (none)) else (none))
def spec_l6Without.T1 : Bool × List (List Nat × List Nat) := (true, [([], []), ([], []), ([], []), ([1, 2], [1, 2]), ([0, 3], [0, 3]), ([], []), ([], []), ([6], [6]), ([5, 7], [5, 7]), ([4, 8, 4], [4, 8]), ([9, 9, 0, 1, 2, 3, 4, 5, 6, 7, 8, 9], [9])])
def spec_l6Without.B1 : List Nat := [0, 0, 0, 6, 15, 0, 0, 64, 224, 511, 1023]
theorem spec_l6Without.tab1 : rtab .any (opsOf Try.f30 1) = spec_l6Without.T1 := by kernel_rfl
theorem spec_l6Without.bits1 : waitsOk spec_l6Without.T1.2 spec_l6Without.B1 = true := by kernel_rfl
set_option maxHeartbeats 8000000 in
set_option maxRecDepth 100000 in
theorem spec_l6Without.calls (A0 : Option Addr) (c0 : Nat) (l0 : List (S45)) (a1 : Int) (r : List (S45)) (w : World) (hr0 : Kd.C k45 w A0 l0.length l0) (hc0 : l0.length ≤ c0) (h : spec_l6Without.f l0 a1 = some r) :
  Calls Try.prog 30 #[.slice A0 l0.length c0, .int .i64 a1] w fun e w' => ∃ v0_ : Value, e = .returned (v0_) ∧ Kd.R k45 45 w' w.heap.size (fun _ => True) v0_ r ∧ Below w.heap.size w w' := by
 have HR0 := aM hr0
 have HC0 := aM hc0
 clear hr0 hc0
 have HB := aM (Below.refl w.heap.size w)
 have H : ((some (([] : List (S45)) : List (S45))).bind fun y170 => (if 0 ≤ a1 then (if a1 ≤ (l0.length : Int) then ((some (l0.take (a1 : Int).toNat : List (S45))).bind fun y173 => (if y170.length + y173.length < 8796093022208 then ((some (y170 ++ y173 : List (S45))).bind fun y177 => (if 0 ≤ (wrap64 (a1 + 1)) then (if (wrap64 (a1 + 1)) ≤ (l0.length : Int) then ((some (l0.drop ((wrap64 (a1 + 1)) : Int).toNat : List (S45))).bind fun y180 => (if y177.length + y180.length < 8796093022208 then (some (y177 ++ y180)) else (none))) else (none)) else (none))) else (none))) else (none)) else (none))) = some r := h
 clear h
 obtain ⟨y170, hy170⟩ : ∃ y_ : List (S45), y_ = (([] : List (S45))) := ⟨_, rfl⟩
 replace H : (if 0 ≤ a1 then (if a1 ≤ (l0.length : Int) then ((some (l0.take (a1 : Int).toNat : List (S45))).bind fun y173 => (if y170.length + y173.length < 8796093022208 then ((some (y170 ++ y173 : List (S45))).bind fun y177 => (if 0 ≤ (wrap64 (a1 + 1)) then (if (wrap64 (a1 + 1)) ≤ (l0.length : Int) then ((some (l0.drop ((wrap64 (a1 + 1)) : Int).toNat : List (S45))).bind fun y180 => (if y177.length + y180.length < 8796093022208 then (some (y177 ++ y180)) else (none))) else (none)) else (none))) else (none))) else (none)) else (none)) = some r := by first | (rw [hy170]; with_reducible exact H) | (have H2_ := (Option.bind_some _ _).symm.trans H; rw [hy170]; with_reducible exact H2_) | (have H2_ := (Option.bind_some _ _).symm.trans H; with_reducible exact H2_) | with_reducible exact H | (rw [hy170]; exact H) | exact H
 have Ny170 := aM hy170
 clear hy170
 by_cases c3 : 0 ≤ a1
 ·rw [if_pos c3] at H
  have c3b0 := eq_true c3
  have c3b1 : decide (0 ≤ a1) = true := decide_eq_true c3
  clear c3
  by_cases c4 : a1 ≤ (l0.length : Int)
  ·rw [if_pos c4] at H
   have c4b0 := eq_true c4
   have c4b1 : decide (a1 ≤ (l0.length : Int)) = true := decide_eq_true c4
   clear c4
   obtain ⟨y173, hy173⟩ : ∃ y_ : List (S45), y_ = (l0.take (a1 : Int).toNat) := ⟨_, rfl⟩
   replace H : (if y170.length + y173.length < 8796093022208 then ((some (y170 ++ y173 : List (S45))).bind fun y177 => (if 0 ≤ (wrap64 (a1 + 1)) then (if (wrap64 (a1 + 1)) ≤ (l0.length : Int) then ((some (l0.drop ((wrap64 (a1 + 1)) : Int).toNat : List (S45))).bind fun y180 => (if y177.length + y180.length < 8796093022208 then (some (y177 ++ y180)) else (none))) else (none)) else (none))) else (none)) = some r := by first | (rw [hy173]; with_reducible exact H) | (have H2_ := (Option.bind_some _ _).symm.trans H; rw [hy173]; with_reducible exact H2_) | (have H2_ := (Option.bind_some _ _).symm.trans H; with_reducible exact H2_) | with_reducible exact H | (rw [hy173]; exact H) | exact H
   have Ny173 := aM hy173
   clear hy173
   by_cases c5 : y170.length + y173.length < 8796093022208
   ·rw [if_pos c5] at H
    have LMc5 := aM c5
    clear c5
    obtain ⟨y177, hy177⟩ : ∃ y_ : List (S45), y_ = (y170 ++ y173) := ⟨_, rfl⟩
    replace H : (if 0 ≤ (wrap64 (a1 + 1)) then (if (wrap64 (a1 + 1)) ≤ (l0.length : Int) then ((some (l0.drop ((wrap64 (a1 + 1)) : Int).toNat : List (S45))).bind fun y180 => (if y177.length + y180.length < 8796093022208 then (some (y177 ++ y180)) else (none))) else (none)) else (none)) = some r := by first | (rw [hy177]; with_reducible exact H) | (have H2_ := (Option.bind_some _ _).symm.trans H; rw [hy177]; with_reducible exact H2_) | (have H2_ := (Option.bind_some _ _).symm.trans H; with_reducible exact H2_) | with_reducible exact H | (rw [hy177]; exact H) | exact H
    have Ny177 := aM hy177
    clear hy177
    obtain ⟨ji6, hji6⟩ : ∃ j_ : Int, (wrap64 (a1 + 1)) = j_ := ⟨_, rfl⟩
    replace H : (if 0 ≤ (ji6) then (if (ji6) ≤ (l0.length : Int) then ((some (l0.drop ((ji6) : Int).toNat : List (S45))).bind fun y180 => (if y177.length + y180.length < 8796093022208 then (some (y177 ++ y180)) else (none))) else (none)) else (none)) = some r := by first | (rw [hji6] at H; exact H) | (simp only [hji6] at H ⊢; exact H)
    have hji6w : (IntKind.i64.wrap (a1 + 1)) = ji6 := (i64_w _).trans hji6
    by_cases c7 : 0 ≤ (ji6)
    ·rw [if_pos c7] at H
     have c7b0 := eq_true c7
     have c7b1 : decide (0 ≤ (ji6)) = true := decide_eq_true c7
     clear c7
     by_cases c8 : (ji6) ≤ (l0.length : Int)
     ·rw [if_pos c8] at H
      have c8b0 := eq_true c8
      have c8b1 : decide ((ji6) ≤ (l0.length : Int)) = true := decide_eq_true c8
      clear c8
      obtain ⟨y180, hy180⟩ : ∃ y_ : List (S45), y_ = (l0.drop ((ji6) : Int).toNat) := ⟨_, rfl⟩
      replace H : (if y177.length + y180.length < 8796093022208 then (some (y177 ++ y180)) else (none)) = some r := by first | (rw [hy180]; with_reducible exact H) | (have H2_ := (Option.bind_some _ _).symm.trans H; rw [hy180]; with_reducible exact H2_) | (have H2_ := (Option.bind_some _ _).symm.trans H; with_reducible exact H2_) | with_reducible exact H | (rw [hy180]; exact H) | exact H
      have Ny180 := aM hy180
      clear hy180
      by_cases c9 : y177.length + y180.length < 8796093022208
      ·rw [if_pos c9] at H
       have LMc9 := aM c9
       clear c9
       obtain ⟨y184, hy184⟩ : ∃ y_ : List (S45), y_ = (y177 ++ y180) := ⟨_, rfl⟩
       replace H : (some y184) = some r := by first | (rw [hy184]; with_reducible exact H) | (have H2_ := (Option.bind_some _ _).symm.trans H; rw [hy184]; with_reducible exact H2_) | (have H2_ := (Option.bind_some _ _).symm.trans H; with_reducible exact H2_) | with_reducible exact H | (rw [hy184]; exact H) | exact H
       have Ny184 := aM hy184
       clear hy184
       obtain rfl := Option.some.inj H
       go_enter Try.func30, Try.ntmps30
       try go_wp2
       replace HB := aM (zD HB.out)
       have q11 : (a1 : Int) ≤ ((l0.length : Int) : Int) := of_decide_eq_true (by first | (with_reducible assumption) | assumption)
       obtain ⟨i011, hi011, _, hsz11, _⟩ := info_parts info45
       have hroom11 : l0.length ≤ c0 := HC0.out
       have hC11 : Kd.C k45 _ A0 l0.length l0 := HR0.out
       have hcut11 := cut_to (P := Try.prog) 26 45 .i64 Try.underlying26 hi011 A0 l0.length c0 a1 (of_decide_eq_true (by first | (with_reducible assumption) | assumption)) q11 hroom11
       have hr11 := Kd.C_take (m := (a1 : Int).toNat) hC11 (by omega)
       have hy11 : y173.length = (a1 : Int).toNat := (by rw [Ny173.out, List.length_take]; omega)
       rw [← Ny173.out] at hr11
       rw [← hy11] at hcut11
       have HR176 := aM hr11
       have HC176 := aM (show y173.length ≤ c0 from by omega)
       clear hr11 hC11 hroom11 hi011 hsz11
       have KY11 := aM hy11
       clear hy11
       replace q11 := eq_true q11
       have q12 : ((ji6) : Int) ≤ ((l0.length : Int) : Int) := of_decide_eq_true (by first | (with_reducible assumption) | assumption)
       obtain ⟨i012, hi012, _, hsz12, _⟩ := info_parts info45
       have hroom12 : l0.length ≤ c0 := HC0.out
       have hC12 : Kd.C k45 _ A0 l0.length l0 := HR0.out
       have q012 : (0 : Int) ≤ ((ji6) : Int) := of_decide_eq_true (by first | (with_reducible assumption) | assumption)
       have hcut12 := cut_from (P := Try.prog) 26 45 .i64 Try.underlying26 hi012 2 hsz12 A0 l0.length c0 (ji6) q012 q12
       have hr12 := Kd.C_drop (m := ((ji6) : Int).toNat) (c := c0) hC12 (by omega) hroom12
       obtain ⟨A12, hA12⟩ : ∃ A1, A1 = (if c0 = ((ji6) : Int).toNat then A0 else (A0 : Option Addr).map (·.add (((ji6) : Int).toNat * 2))) := ⟨_, rfl⟩
       obtain ⟨c12, hc12⟩ : ∃ c1, c1 = c0 - ((ji6) : Int).toNat := ⟨_, rfl⟩
       have hy12 : y180.length = l0.length - ((ji6) : Int).toNat := (by rw [Ny180.out, List.length_drop] <;> omega)
       rw [show (l0).drop ((ji6) : Int).toNat = y180 from Ny180.out.symm] at hr12
       replace hr12 : Kd.C k45 _ A12 y180.length y180 := (by rw [hA12]; exact hr12)
       rw [← hy12, ← hA12, ← hc12] at hcut12
       have HR183 := aM hr12
       have HC183 := aM (show y180.length ≤ c12 from by rw [hy12, hc12]; exact Nat.sub_le_sub_right hroom12 _)
       clear hr12 hC12 hroom12 hi012 hsz12 hc12
       have KY12 := aM hy12
       have KA12 := aM hA12
       clear hy12 hA12
       replace q12 := eq_true q12
       refine start_ (n := 11) (S := fun w' => True) (ds := []) #[fF,fF,fF,fF,fF,fF,fF,fF,fF,fF,fF] (by kernel_rfl) rfl rfl trivial (fun hHeld => ?_); refine with_tabW spec_l6Without.tab1 spec_l6Without.bits1 (fun HT_ HW_ => ?_)
       generalize w.drew = w10 at HB HR176 HR183 hHeld ⊢
       refine pure_ (i := 1) (N := some 6) (v := ?_) (a' := ?_) #[fF,tT,fF,fF,fF,fF,fF,fF,fF,fF,fF] rfl rfl (any_of HT_.out (by kernel_rfl)) (fun _ _ _ h => h) (Or.inl ⟨by rfl, ?_⟩) ?_ ?_
       rotate_left
       ·intro w'
        go_simp
        with_reducible rfl
       rotate_left
       ·simp only [Act.put, qA, qB, qC, i64_w, i32_w]
        rfl
       refine pure_ (i := 2) (N := some 7) (v := ?_) (a' := ?_) #[fF,tT,tT,fF,fF,fF,fF,fF,fF,fF,fF] rfl rfl (any_of HT_.out (by kernel_rfl)) (fun _ _ _ h => h) (Or.inl ⟨by rfl, ?_⟩) ?_ ?_
       rotate_left
       ·intro w'
        go_simp
        with_reducible rfl
       rotate_left
       ·simp only [Act.put, qA, qB, qC, i64_w, i32_w]
        rfl
       refine pure_ (i := 3) (N := some 8) (v := ?_) (a' := ?_) #[fF,tT,tT,tT,fF,fF,fF,fF,fF,fF,fF] rfl rfl (any_of HT_.out (by kernel_rfl)) (fun _ _ _ h => h) (Or.inl ⟨by rfl, ?_⟩) ?_ ?_
       rotate_left
       ·intro w'
        go_simp
        with_reducible rfl
       rotate_left
       ·simp only [Act.put, qA, qB, qC, i64_w, i32_w]
        rfl
       refine pure_ (i := 5) (N := some 10) (v := ?_) (a' := ?_) #[fF,tT,tT,tT,fF,tT,fF,fF,fF,fF,fF] rfl rfl (any_of HT_.out (by kernel_rfl)) (fun _ _ _ h => h) (Or.inl ⟨by rfl, ?_⟩) ?_ ?_
       rotate_left
       ·intro w'
        go_simp
        with_reducible rfl
       rotate_left
       ·simp only [Act.put, qA, qB, qC, i64_w, i32_w]
        rfl
       refine pure_ (i := 6) (N := some 11) (v := ?_) (a' := ?_) #[fF,tT,tT,tT,fF,tT,tT,fF,fF,fF,fF] rfl rfl (any_of HT_.out (by kernel_rfl)) (fun _ _ _ h => h) (Or.inl ⟨by rfl, ?_⟩) ?_ ?_
       rotate_left
       ·intro w'
        go_simp
        with_reducible rfl
       rotate_left
       ·simp only [Act.put, qA, qB, qC, i64_w, i32_w]
        rfl
       refine pure_ (i := 7) (N := some 12) (v := ?_) (a' := ?_) #[fF,tT,tT,tT,fF,tT,tT,tT,fF,fF,fF] rfl rfl (any_of HT_.out (by kernel_rfl)) (fun _ _ _ h => h) (Or.inl ⟨by rfl, ?_⟩) ?_ ?_
       rotate_left
       ·intro w'
        go_simp
        with_reducible rfl
       rotate_left
       ·simp only [Act.put, qA, qB, qC, i64_w, i32_w]
        rfl
       refine pure_ (i := 8) (N := some 13) (v := ?_) (a' := ?_) #[fF,tT,tT,tT,fF,tT,tT,tT,tT,fF,fF] rfl rfl (any_of HT_.out (by kernel_rfl)) (fun _ _ _ h => h) (Or.inl ⟨by rfl, ?_⟩) ?_ ?_
       rotate_left
       ·intro w'
        go_simp
        with_reducible rfl
       rotate_left
       ·simp only [Act.put, qA, qB, qC, i64_w, i32_w]
        rfl
       refine one_ (i := 0) (N := some 5) #[tT,tT,tT,tT,fF,tT,tT,tT,tT,fF,fF] rfl rfl (one_of HT_.out (by kernel_rfl)) (by decide) (fun K hK => ?_)
       refine Kd.R_lit_step k45 _ 45 ?hg (N := 5) ?hd (xs := ([] : List (S45))) (inner := []) (ok := fun _ => True) (okp := fun _ => True) ?hr ?hp (fun _ hk => hk) trivial (Below.refl _ _) (Nat.le_refl _) (by simp) ?_; (case hd => rfl); (case hg => rfl); (case hr => first | (go_simp; done) | (go_simp; rfl)); (case hp => exact (Reps.none _ _))
       intro v171 w13 ho14 hb hg_ hnew_
       clear hg_ hnew_
       (first | rw [← Ny170.out] at ho14 | (simp only [Int.reduceToNat] at ho14; rw [← Ny170.out] at ho14))
       have HO172 := aM (xL ho14 (zZ (zH HB.out)))
       replace HB := aM (zT (zH HB.out) hb)
       clear hb ho14
       refine hK.out _ _ trivial (fun hHeld => ?_)
       clear hK K
       refine norm_ (a' := ?_) ?_ ?_
       rotate_left
       ·show Act.put _ (some 5) _ = _
        simp only [Act.put, qA, qB, qC, i64_w, i32_w]
        rfl
       refine one_ (i := 4) (N := some 9) #[tT,tT,tT,tT,tT,tT,tT,tT,tT,fF,fF] rfl rfl (one_of HT_.out (by kernel_rfl)) (by decide) (fun K hK => ?_)
       refine Kd.R_append_rows_step k45 (w0 := w) w.heap.size (by rfl) (.tmp 5) (.tmp 8) 26 45 (.agg #[(.int .i64 0), (.int .i64 0)]) 16 rfl Try.underlying26 info45 rfl (by decide) (by omega) v171 y170 y173 _ _ _ (fun _ => True) (fun _ => False) rfl rfl ?aO ?aR (fun _ _ h => h) (fun _ h => h.elim) ?aF ?aB ?aS ?aL ?_
       (case aR => exact cK HR176.out HB.out)
       (case aB => exact (zH HB.out))
       (case aF => exact (fun _ _ => trivial))
       (case aO => exact (xH HO172.out))
       (case aS => exact (zZ (zH HB.out)))
       (case aL => have := LMc5.out; omega)
       intro v178 w15 ho hb hg hat
       rw [← Ny177.out] at ho
       replace HB := aM (hb)
       have HO179 := aM (ho)
       clear HO172 ho hb hg hat
       refine hK.out _ _ trivial (fun hHeld => ?_)
       clear hK K
       refine norm_ (a' := ?_) ?_ ?_
       rotate_left
       ·show Act.put _ (some 9) _ = _
        simp only [Act.put, qA, qB, qC, i64_w, i32_w]
        rfl
       refine one_ (i := 9) (N := some 14) #[tT,tT,tT,tT,tT,tT,tT,tT,tT,tT,fF] rfl rfl (one_of HT_.out (by kernel_rfl)) (by decide) (fun K hK => ?_)
       refine Kd.R_append_rows_step k45 (w0 := w) w.heap.size (by rfl) (.tmp 9) (.tmp 13) 26 45 (.agg #[(.int .i64 0), (.int .i64 0)]) 16 rfl Try.underlying26 info45 rfl (by decide) (by omega) v178 y177 y180 _ _ _ (fun _ => True) (fun _ => False) rfl rfl ?aO ?aR (fun _ _ h => h) (fun _ h => h.elim) ?aF ?aB ?aS ?aL ?_
       (case aR => exact cK HR183.out HB.out)
       (case aB => exact (zH HB.out))
       (case aF => exact (fun _ _ => trivial))
       (case aO => exact (xH HO179.out))
       (case aS => exact (zZ (zH HB.out)))
       (case aL => have := LMc9.out; omega)
       intro v185 w16 ho hb hg hat
       rw [← Ny184.out] at ho
       replace HB := aM (hb)
       have HO186 := aM (ho)
       clear HO179 ho hb hg hat
       refine hK.out _ _ trivial (fun hHeld => ?_)
       clear hK K
       refine norm_ (a' := ?_) ?_ ?_
       rotate_left
       ·show Act.put _ (some 14) _ = _
        simp only [Act.put, qA, qB, qC, i64_w, i32_w]
        rfl
       refine pure_ (i := 10) (N := some 4) (v := ?_) (a' := ?_) #[tT,tT,tT,tT,tT,tT,tT,tT,tT,tT,tT] rfl rfl (any_of HT_.out (by kernel_rfl)) (fun _ _ _ h => h) (Or.inl ⟨by rfl, ?_⟩) ?_ ?_
       rotate_left
       ·intro w'
        go_simp
        with_reducible rfl
       rotate_left
       ·simp only [Act.put, qA, qB, qC, i64_w, i32_w]
        rfl
       refine done_ (done_of HT_.out (by kernel_rfl)) ?_
       try go_wp2
       go_ret
       exact ⟨_, by first | rfl | (simp [errW_none, errW_some] <;> rfl) | (simp only [← hji6]; first | rfl | (simp [errW_none, errW_some] <;> rfl)) | (simp [*, errW_none, errW_some] <;> rfl), xH HO186.out, zH HB.out⟩
      ·rw [if_neg c9] at H
       exact absurd H (by simp)
     ·rw [if_neg c8] at H
      exact absurd H (by simp)
    ·rw [if_neg c7] at H
     exact absurd H (by simp)
   ·rw [if_neg c5] at H
    exact absurd H (by simp)
  ·rw [if_neg c4] at H
   exact absurd H (by simp)
 ·rw [if_neg c3] at H
  exact absurd H (by simp)

/-! ### spec_l6Put: function 31 -/
def spec_l6Put.l0 : Nat → List (S45) → Int → Int → Int → Option ((List (S45)))
 | 0, _, _, _, _ => none
 | k + 1, x0, x5, x188000, x188001 => if x5 < (x0.length : Int) then (if 0 ≤ x5 then (if ((rd_T45 x0 x5).f0) < x188000 then (spec_l6Put.l0 k x0 (wrap64 (x5 + 1)) x188000 x188001) else (if x5 ≤ (x0.length : Int) then ((some (x0.take (x5 : Int).toNat : List (S45))).bind fun y189 => (if ([] : List (S45)).length + y189.length < 8796093022208 then ((some (([] : List (S45)) ++ y189 : List (S45))).bind fun y193 => (if y193.length < 8796093022208 then ((some (y193 ++ [(⟨x188000, x188001⟩ : S45)] : List (S45))).bind fun y196 => ((some (x0.drop (x5 : Int).toNat : List (S45))).bind fun y199 => (if y196.length + y199.length < 8796093022208 then (some (y196 ++ y199)) else (none)))) else (none))) else (none))) else (none))) else (none)) else (if 0 ≤ x5 then (if x5 ≤ (x0.length : Int) then ((some (x0.take (x5 : Int).toNat : List (S45))).bind fun y206 => (if ([] : List (S45)).length + y206.length < 8796093022208 then ((some (([] : List (S45)) ++ y206 : List (S45))).bind fun y210 => (if y210.length < 8796093022208 then ((some (y210 ++ [(⟨x188000, x188001⟩ : S45)] : List (S45))).bind fun y213 => ((some (x0.drop (x5 : Int).toNat : List (S45))).bind fun y216 => (if y213.length + y216.length < 8796093022208 then (some (y213 ++ y216)) else (none)))) else (none))) else (none))) else (none)) else (none))
def spec_l6Put.f (k : Nat) (l0 : List (S45)) (a1_0 : Int) (a1_1 : Int) : Option ((List (S45))) := spec_l6Put.l0 k l0 0 a1_0 a1_1
theorem spec_l6Put.mono_l : ∀ k, (∀ y0 y1 y2 y3, LeO (spec_l6Put.l0 k y0 y1 y2 y3) (spec_l6Put.l0 (k + 1) y0 y1 y2 y3))
 | 0 => fun _ _ _ _ r h => by change none = some r at h; cases h
 | k + 1 => by
  have ih0 := spec_l6Put.mono_l k
  ·intro y0 y1 y2 y3
   unfold spec_l6Put.l0
   repeat' first
   | (with_reducible exact ih0 _ _ _ _)
   | (with_reducible exact LeO.refl _)
   | (with_reducible exact LeO.none _)
   | (with_reducible refine LeO.ite ?_ ?_)
   | (with_reducible refine LeO.bind ?_ (fun _ => ?_))
   | exact ih0 _ _ _ _
   | exact LeO.none _
   | refine LeO.ite ?_ ?_
   | refine LeO.bind ?_ (fun _ => ?_)
theorem spec_l6Put.mono : ∀ a0 a1 a2 k, LeO (spec_l6Put.f k a0 a1 a2) (spec_l6Put.f (k + 1) a0 a1 a2) := by
 intro a0 a1 a2 k
 have ih0 := spec_l6Put.mono_l k
 unfold spec_l6Put.f
 repeat' first
   | (with_reducible exact ih0 _ _ _ _)
   | (with_reducible exact LeO.refl _)
   | (with_reducible exact LeO.none _)
   | (with_reducible refine LeO.ite ?_ ?_)
   | (with_reducible refine LeO.bind ?_ (fun _ => ?_))
   | exact ih0 _ _ _ _
   | exact LeO.none _
   | refine LeO.ite ?_ ?_
   | refine LeO.bind ?_ (fun _ => ?_)
set_option maxHeartbeats 8000000 in
set_option maxRecDepth 100000 in
theorem spec_l6Put.calls (k : Nat) (A0 : Option Addr) (c0 : Nat) (l0 : List (S45)) (a1_0 : Int) (a1_1 : Int) (r : List (S45)) (w : World) (hr0 : Kd.C k45 w A0 l0.length l0) (hc0 : l0.length ≤ c0) (h : spec_l6Put.f k l0 a1_0 a1_1 = some r) :
  Calls Try.prog 31 #[.slice A0 l0.length c0, .agg #[.int .i64 a1_0, .int .i64 a1_1]] w fun e w' => ∃ v0_ : Value, e = .returned (v0_) ∧ Kd.R k45 45 w' w.heap.size (fun _ => True) v0_ r ∧ Below w.heap.size w w' := by
 have hu45 := Try.underlying45
 have HR0 := aM hr0
 have HC0 := aM hc0
 clear hr0 hc0
 have HB := aM (Below.refl w.heap.size w)
 have H : (spec_l6Put.l0 k l0 0 a1_0 a1_1) = some r := h
 clear h
 have H' := aM H
 clear H
 go_enter Try.func31, Try.ntmps31
 go_wp2_with (first | ((with_reducible refine gate_dst (N := 3) rfl ?_); refine box_event ?hg (N := 3) ?hd (cs := #[.int .i64 a1_0, .int .i64 a1_1]) (t := 45) ?hr ?_; (case hd => rfl); (case hg => rfl); (case hr => first | (go_simp; done) | (go_simp; rfl)); intro gb187 hg w3 hbox hb; have BK187 := aM (hbox); have GW187 := aM ((by rw [hg]; exact (zZ (zH HB.out)) : w.heap.size ≤ gb187)); have GE187 := aM ((by rw [hg]; exact (zZ (zH HB.out)) : w.heap.size ≤ gb187)); replace HB := aM (zT (zH HB.out) hb); clear hb hbox hg))
 repeat (go_quiet (first | ((with_reducible refine gate_dst (N := 3) rfl ?_); refine box_event ?hg (N := 3) ?hd (cs := #[.int .i64 a1_0, .int .i64 a1_1]) (t := 45) ?hr ?_; (case hd => rfl); (case hg => rfl); (case hr => first | (go_simp; done) | (go_simp; rfl)); intro gb187 hg w3 hbox hb; have n0_ := aM (zT (zH HB.out) hb); have n1_ := aM (hbox); have n2_ := aM ((by rw [hg]; exact (zZ (zH HB.out)) : w.heap.size ≤ gb187)); have n3_ := aM ((by rw [hg]; exact (zZ (zH HB.out)) : w.heap.size ≤ gb187)); clear HB; have HB := n0_; have BK187 := n1_; have GW187 := n2_; have GE187 := n3_; clear n0_ n1_ n2_ n3_; clear hb hbox hg)); try go_wp2_with (first | ((with_reducible refine gate_dst (N := 3) rfl ?_); refine box_event ?hg (N := 3) ?hd (cs := #[.int .i64 a1_0, .int .i64 a1_1]) (t := 45) ?hr ?_; (case hd => rfl); (case hg => rfl); (case hr => first | (go_simp; done) | (go_simp; rfl)); intro gb187 hg w3 hbox hb; have n0_ := aM (zT (zH HB.out) hb); have n1_ := aM (hbox); have n2_ := aM ((by rw [hg]; exact (zZ (zH HB.out)) : w.heap.size ≤ gb187)); have n3_ := aM ((by rw [hg]; exact (zZ (zH HB.out)) : w.heap.size ≤ gb187)); clear HB; have HB := n0_; have BK187 := n1_; have GW187 := n2_; have GE187 := n3_; clear n0_ n1_ n2_ n3_; clear hb hbox hg)))
 go_loopg [5] k (fun kq v5 w' => ∃ (x5_1 : Int), v5 = .int .i64 x5_1 ∧ Aside0 (spec_l6Put.l0 kq l0 x5_1 a1_0 a1_1 = some r) ∧ Aside0 (kq ≤ k) ∧ Aside0 (w'.heap[gb187]? = some (.cells #[.int .i64 a1_0, .int .i64 a1_1] 45 (0, 0))) ∧ Aside0 (Below w.heap.size w w'))
 case atStart => exact ⟨(0), (by first | rfl | (simp; done) | (simp [*]; done)), H', ⟨Nat.le_refl _⟩, ⟨yH BK187.out⟩, ⟨zH HB.out⟩⟩
 case round =>
  clear H'
  (try clear p2); (try clear c3)
  obtain ⟨x5_1, rfl, HA, HK1, BK187, HB⟩ := hrel
  cases gk with
  | zero => exact absurd HA.out (fun h_ => by change none = some _ at h_; cases h_)
  | succ k1 =>
   have H := HA.out
   clear HA
   simp only [spec_l6Put.l0] at H
   by_cases c4 : x5_1 < (l0.length : Int)
   ·rw [if_pos c4] at H
    have c4b0 : decide (x5_1 < (l0.length : Int)) = true := decide_eq_true c4
    clear c4
    by_cases c5 : 0 ≤ x5_1
    ·rw [if_pos c5] at H
     have c5b0 : decide (0 ≤ x5_1) = true := decide_eq_true c5
     clear c5
     by_cases c6 : ((rd_T45 l0 x5_1).f0) < a1_0
     ·rw [if_pos c6] at H
      have c6b0 : decide (((rd_T45 l0 x5_1).f0) < a1_0) = true := decide_eq_true c6
      clear c6
      have H' := aM H
      clear H
      have p188 : 0 ≤ (x5_1 : Int) := of_decide_eq_true (by first | (with_reducible assumption) | assumption)
      have q188 : x5_1 < (l0.length : Int) := of_decide_eq_true (by first | (with_reducible assumption) | assumption)
      obtain ⟨ad188, e188, hx188_0, hx188_1⟩ := at_T45 HR0.out x5_1 p188 q188
      cases e188
      replace hx188_0 := (HB.out.cell (World.block_lt_of_cell? w _ hx188_0)).trans hx188_0
      replace hx188_1 := (HB.out.cell (World.block_lt_of_cell? w _ hx188_1)).trans hx188_1
      replace p188 := eq_true p188
      replace q188 := eq_true q188
      have hcz7_0 : wr.cell? ⟨gb187, 0, none⟩ = some (.int .i64 a1_0) := yc BK187.out 0
      have hcz7_1 : wr.cell? ⟨gb187, 1, none⟩ = some (.int .i64 a1_1) := yc BK187.out 1
      have hfz7_0 := yZ BK187.out 0
      have hfz7_1 := yZ BK187.out 1
      go_wp2
      repeat (go_quiet (fail); try go_wp2)
      go_roundg k1
      case measure => have := HK1.out; omega
      case rel => exact ⟨(wrap64 (x5_1 + 1)), (by first | rfl | (simp; done) | (simp [*]; done)), H', ⟨by have := HK1.out; omega⟩, ⟨yH BK187.out⟩, ⟨zH HB.out⟩⟩
     ·rw [if_neg c6] at H
      have c6b0 : decide (((rd_T45 l0 x5_1).f0) < a1_0) = false := decide_eq_false c6
      clear c6
      have c8b0 := eq_true (of_decide_eq_true (by first | (with_reducible assumption) | assumption) : 0 ≤ x5_1)
      by_cases c9 : x5_1 ≤ (l0.length : Int)
      ·rw [if_pos c9] at H
       have c9b0 := eq_true c9
       have c9b1 : decide (x5_1 ≤ (l0.length : Int)) = true := decide_eq_true c9
       clear c9
       obtain ⟨y189, hy189⟩ : ∃ y_ : List (S45), y_ = (l0.take (x5_1 : Int).toNat) := ⟨_, rfl⟩
       replace H : (if ([] : List (S45)).length + y189.length < 8796093022208 then ((some (([] : List (S45)) ++ y189 : List (S45))).bind fun y193 => (if y193.length < 8796093022208 then ((some (y193 ++ [(⟨a1_0, a1_1⟩ : S45)] : List (S45))).bind fun y196 => ((some (l0.drop (x5_1 : Int).toNat : List (S45))).bind fun y199 => (if y196.length + y199.length < 8796093022208 then (some (y196 ++ y199)) else (none)))) else (none))) else (none)) = some r := by first | (rw [hy189]; with_reducible exact H) | (have H2_ := (Option.bind_some _ _).symm.trans H; rw [hy189]; with_reducible exact H2_) | (have H2_ := (Option.bind_some _ _).symm.trans H; with_reducible exact H2_) | with_reducible exact H | (rw [hy189]; exact H) | exact H
       have Ny189 := aM hy189
       clear hy189
       by_cases c10 : ([] : List (S45)).length + y189.length < 8796093022208
       ·rw [if_pos c10] at H
        have LMc10 := aM c10
        clear c10
        obtain ⟨y193, hy193⟩ : ∃ y_ : List (S45), y_ = (([] : List (S45)) ++ y189) := ⟨_, rfl⟩
        replace H : (if y193.length < 8796093022208 then ((some (y193 ++ [(⟨a1_0, a1_1⟩ : S45)] : List (S45))).bind fun y196 => ((some (l0.drop (x5_1 : Int).toNat : List (S45))).bind fun y199 => (if y196.length + y199.length < 8796093022208 then (some (y196 ++ y199)) else (none)))) else (none)) = some r := by first | (rw [hy193]; with_reducible exact H) | (have H2_ := (Option.bind_some _ _).symm.trans H; rw [hy193]; with_reducible exact H2_) | (have H2_ := (Option.bind_some _ _).symm.trans H; with_reducible exact H2_) | with_reducible exact H | (rw [hy193]; exact H) | exact H
        have Ny193 := aM hy193
        clear hy193
        by_cases c11 : y193.length < 8796093022208
        ·rw [if_pos c11] at H
         have LMc11 := aM c11
         clear c11
         obtain ⟨y196, hy196⟩ : ∃ y_ : List (S45), y_ = (y193 ++ [(⟨a1_0, a1_1⟩ : S45)]) := ⟨_, rfl⟩
         replace H : ((some (l0.drop (x5_1 : Int).toNat : List (S45))).bind fun y199 => (if y196.length + y199.length < 8796093022208 then (some (y196 ++ y199)) else (none))) = some r := by first | (rw [hy196]; with_reducible exact H) | (have H2_ := (Option.bind_some _ _).symm.trans H; rw [hy196]; with_reducible exact H2_) | (have H2_ := (Option.bind_some _ _).symm.trans H; with_reducible exact H2_) | with_reducible exact H | (rw [hy196]; exact H) | exact H
         have Ny196 := aM hy196
         clear hy196
         have c12b0 := eq_true (of_decide_eq_true (by first | (with_reducible assumption) | assumption) : 0 ≤ x5_1)
         have c13b0 := eq_true (of_decide_eq_true (by first | (with_reducible assumption) | assumption) : x5_1 ≤ (l0.length : Int))
         obtain ⟨y199, hy199⟩ : ∃ y_ : List (S45), y_ = (l0.drop (x5_1 : Int).toNat) := ⟨_, rfl⟩
         replace H : (if y196.length + y199.length < 8796093022208 then (some (y196 ++ y199)) else (none)) = some r := by first | (rw [hy199]; with_reducible exact H) | (have H2_ := (Option.bind_some _ _).symm.trans H; rw [hy199]; with_reducible exact H2_) | (have H2_ := (Option.bind_some _ _).symm.trans H; with_reducible exact H2_) | with_reducible exact H | (rw [hy199]; exact H) | exact H
         have Ny199 := aM hy199
         clear hy199
         by_cases c14 : y196.length + y199.length < 8796093022208
         ·rw [if_pos c14] at H
          have LMc14 := aM c14
          clear c14
          obtain ⟨y203, hy203⟩ : ∃ y_ : List (S45), y_ = (y196 ++ y199) := ⟨_, rfl⟩
          replace H : (some y203) = some r := by first | (rw [hy203]; with_reducible exact H) | (have H2_ := (Option.bind_some _ _).symm.trans H; rw [hy203]; with_reducible exact H2_) | (have H2_ := (Option.bind_some _ _).symm.trans H; with_reducible exact H2_) | with_reducible exact H | (rw [hy203]; exact H) | exact H
          have Ny203 := aM hy203
          clear hy203
          obtain rfl := Option.some.inj H
          have p188 : 0 ≤ (x5_1 : Int) := of_decide_eq_true (by first | (with_reducible assumption) | assumption)
          have q188 : x5_1 < (l0.length : Int) := of_decide_eq_true (by first | (with_reducible assumption) | assumption)
          obtain ⟨ad188, e188, hx188_0, hx188_1⟩ := at_T45 HR0.out x5_1 p188 q188
          cases e188
          replace hx188_0 := (HB.out.cell (World.block_lt_of_cell? w _ hx188_0)).trans hx188_0
          replace hx188_1 := (HB.out.cell (World.block_lt_of_cell? w _ hx188_1)).trans hx188_1
          replace p188 := eq_true p188
          replace q188 := eq_true q188
          have hcz15_0 : wr.cell? ⟨gb187, 0, none⟩ = some (.int .i64 a1_0) := yc BK187.out 0
          have hcz15_1 : wr.cell? ⟨gb187, 1, none⟩ = some (.int .i64 a1_1) := yc BK187.out 1
          have hfz15_0 := yZ BK187.out 0
          have hfz15_1 := yZ BK187.out 1
          have q16 : (x5_1 : Int) ≤ ((l0.length : Int) : Int) := of_decide_eq_true (by first | (with_reducible assumption) | assumption)
          obtain ⟨i016, hi016, _, hsz16, _⟩ := info_parts info45
          have hroom16 : l0.length ≤ c0 := HC0.out
          have hC16 : Kd.C k45 _ (some ad188) l0.length l0 := HR0.out
          have hcut16 := cut_to (P := Try.prog) 26 45 .i64 Try.underlying26 hi016 (some ad188) l0.length c0 x5_1 (of_decide_eq_true (by first | (with_reducible assumption) | assumption)) q16 hroom16
          have hr16 := Kd.C_take (m := (x5_1 : Int).toNat) hC16 (by omega)
          have hy16 : y189.length = (x5_1 : Int).toNat := (by rw [Ny189.out, List.length_take]; omega)
          rw [← Ny189.out] at hr16
          rw [← hy16] at hcut16
          have HR192 := aM hr16
          have HC192 := aM (show y189.length ≤ c0 from by omega)
          clear hr16 hC16 hroom16 hi016 hsz16
          have KY16 := aM hy16
          clear hy16
          replace q16 := eq_true q16
          go_wp2_with (first | ((with_reducible refine gate_builtin (b := .append) (xs := #[.tmp 23, .tmp 26]) rfl ?_); at_builtin; refine Kd.R_append_rows k45 (w0 := w) w.heap.size rfl (.tmp 23) (.tmp 26) 26 45 (.agg #[(.int .i64 0), (.int .i64 0)]) 16 rfl Try.underlying26 info45 rfl (by decide) (by omega) (.slice none 0 0) ([] : List (S45)) y189 _ _ _ (fun k_ => k_ ≠ gb187) (fun _ => False) rfl rfl ?aO ?aR (fun _ _ h => h) (fun _ h => h.elim) ?aF ?aB ?aS ?aL ?_; (case aR => exact cK HR192.out HB.out); (case aB => exact (zH HB.out)); (case aF => exact (fun k_ hk => Kd.freshB (g := gb187) (o := .cells #[.int .i64 a1_0, .int .i64 a1_1] 45 (0, 0)) (yH BK187.out) k_ hk)); (case aO => exact ((Kd.R_nil _ _ _ _ (fun k_ => k_ ≠ gb187)))); (case aS => exact (zZ (zH HB.out))); (case aL => have := LMc10.out; omega); intro v194 w17 ho hb hg hat; rw [← Ny193.out] at ho; replace BK187 := aM (blk_grown (g := gb187) (o := .cells #[.int .i64 a1_0, .int .i64 a1_1] 45 (0, 0)) (yH BK187.out) hg (by simp [Value.ownBlock])); replace HB := aM (hb); have HO195 := aM (ho); clear ho hb hg hat; have hcz18_0 : w17.cell? ⟨gb187, 0, none⟩ = some (.int .i64 a1_0) := yc BK187.out 0; have hcz18_1 : w17.cell? ⟨gb187, 1, none⟩ = some (.int .i64 a1_1) := yc BK187.out 1; have hfz18_0 := yZ BK187.out 0; have hfz18_1 := yZ BK187.out 1) | ((with_reducible refine gate_builtin (b := .append) (xs := #[.tmp 28, .tmp 30]) rfl ?_); at_builtin; refine Kd.R_append k45 (w0 := w) w.heap.size rfl (.tmp 28) (.tmp 30) 26 45 (.agg #[(.int .i64 0), (.int .i64 0)]) 16 rfl Try.underlying26 info45 rfl (by decide) (by omega) v194 y193 (⟨a1_0, a1_1⟩ : S45) [.int .i64 a1_0, .int .i64 a1_1] (fun k_ => k_ ≠ gb187) (fun _ => False) rfl rfl ?aP (fun _ hk => hk.elim) ?aF ?aO ?aB ?aS ?aL ?_; (case aP => exact k45_mkM _ _ _ (⟨a1_0, a1_1⟩ : S45)); (case aB => exact (zH HB.out)); (case aF => exact (fun k_ hk => Kd.freshB (g := gb187) (o := .cells #[.int .i64 a1_0, .int .i64 a1_1] 45 (0, 0)) (yH BK187.out) k_ hk)); (case aO => exact (xH HO195.out)); (case aS => exact (zZ (zH HB.out))); (case aL => have := LMc11.out; omega); intro v197 w19 ho hb hg hat; rw [← Ny196.out] at ho; replace BK187 := aM (blk_grown (g := gb187) (o := .cells #[.int .i64 a1_0, .int .i64 a1_1] 45 (0, 0)) (yH BK187.out) hg (Kd.R_away HO195.out (fun _ hk => hk))); replace HB := aM (hb); have HO198 := aM (ho); clear HO195; clear ho hb hg hat; have q20 : (x5_1 : Int) ≤ ((l0.length : Int) : Int) := of_decide_eq_true (by first | (with_reducible assumption) | assumption); obtain ⟨i020, hi020, _, hsz20, _⟩ := info_parts info45; have hroom20 : l0.length ≤ c0 := HC0.out; have hC20 : Kd.C k45 _ (some ad188) l0.length l0 := HR0.out; have q020 : (0 : Int) ≤ (x5_1 : Int) := of_decide_eq_true (by first | (with_reducible assumption) | assumption); have hcut20 := cut_from (P := Try.prog) 26 45 .i64 Try.underlying26 hi020 2 hsz20 (some ad188) l0.length c0 x5_1 q020 q20; have hr20 := Kd.C_drop (m := (x5_1 : Int).toNat) (c := c0) hC20 (by omega) hroom20; obtain ⟨A20, hA20⟩ : ∃ A1, A1 = (if c0 = (x5_1 : Int).toNat then (some ad188) else ((some ad188) : Option Addr).map (·.add ((x5_1 : Int).toNat * 2))) := ⟨_, rfl⟩; obtain ⟨c20, hc20⟩ : ∃ c1, c1 = c0 - (x5_1 : Int).toNat := ⟨_, rfl⟩; have hy20 : y199.length = l0.length - (x5_1 : Int).toNat := (by rw [Ny199.out, List.length_drop] <;> omega); rw [show (l0).drop (x5_1 : Int).toNat = y199 from Ny199.out.symm] at hr20; replace hr20 : Kd.C k45 _ A20 y199.length y199 := (by rw [hA20]; exact hr20); rw [← hy20, ← hA20, ← hc20] at hcut20; have HR202 := aM hr20; have HC202 := aM (show y199.length ≤ c20 from by rw [hy20, hc20]; exact Nat.sub_le_sub_right hroom20 _); clear hr20 hC20 hroom20 hi020 hsz20 hc20; have KY20 := aM hy20; have KA20 := aM hA20; clear hy20 hA20; replace q20 := eq_true q20) | ((with_reducible refine gate_builtin (b := .append) (xs := #[.tmp 32, .tmp 35]) rfl ?_); at_builtin; refine Kd.R_append_rows k45 (w0 := w) w.heap.size rfl (.tmp 32) (.tmp 35) 26 45 (.agg #[(.int .i64 0), (.int .i64 0)]) 16 rfl Try.underlying26 info45 rfl (by decide) (by omega) v197 y196 y199 _ _ _ (fun k_ => k_ ≠ gb187) (fun _ => False) rfl rfl ?aO ?aR (fun _ _ h => h) (fun _ h => h.elim) ?aF ?aB ?aS ?aL ?_; (case aR => exact cK HR202.out HB.out); (case aB => exact (zH HB.out)); (case aF => exact (fun k_ hk => Kd.freshB (g := gb187) (o := .cells #[.int .i64 a1_0, .int .i64 a1_1] 45 (0, 0)) (yH BK187.out) k_ hk)); (case aO => exact (xH HO198.out)); (case aS => exact (zZ (zH HB.out))); (case aL => have := LMc14.out; omega); intro v204 w21 ho hb hg hat; rw [← Ny203.out] at ho; replace BK187 := aM (blk_grown (g := gb187) (o := .cells #[.int .i64 a1_0, .int .i64 a1_1] 45 (0, 0)) (yH BK187.out) hg (Kd.R_away HO198.out (fun _ hk => hk))); replace HB := aM (hb); have HO205 := aM (ho); clear HO198; clear ho hb hg hat))
          repeat (go_quiet (first | ((with_reducible refine gate_builtin (b := .append) (xs := #[.tmp 23, .tmp 26]) rfl ?_); at_builtin; refine Kd.R_append_rows k45 (w0 := w) w.heap.size rfl (.tmp 23) (.tmp 26) 26 45 (.agg #[(.int .i64 0), (.int .i64 0)]) 16 rfl Try.underlying26 info45 rfl (by decide) (by omega) (.slice none 0 0) ([] : List (S45)) y189 _ _ _ (fun k_ => k_ ≠ gb187) (fun _ => False) rfl rfl ?aO ?aR (fun _ _ h => h) (fun _ h => h.elim) ?aF ?aB ?aS ?aL ?_; (case aR => exact cK HR192.out HB.out); (case aB => exact (zH HB.out)); (case aF => exact (fun k_ hk => Kd.freshB (g := gb187) (o := .cells #[.int .i64 a1_0, .int .i64 a1_1] 45 (0, 0)) (yH BK187.out) k_ hk)); (case aO => exact ((Kd.R_nil _ _ _ _ (fun k_ => k_ ≠ gb187)))); (case aS => exact (zZ (zH HB.out))); (case aL => have := LMc10.out; omega); intro v194 w17 ho hb hg hat; rw [← Ny193.out] at ho; have n0_ := aM (blk_grown (g := gb187) (o := .cells #[.int .i64 a1_0, .int .i64 a1_1] 45 (0, 0)) (yH BK187.out) hg (by simp [Value.ownBlock])); have n1_ := aM (hb); have n2_ := aM (ho); clear BK187; clear HB; have BK187 := n0_; have HB := n1_; have HO195 := n2_; clear n0_ n1_ n2_; clear ho hb hg hat; have hcz18_0 : w17.cell? ⟨gb187, 0, none⟩ = some (.int .i64 a1_0) := yc BK187.out 0; have hcz18_1 : w17.cell? ⟨gb187, 1, none⟩ = some (.int .i64 a1_1) := yc BK187.out 1; have hfz18_0 := yZ BK187.out 0; have hfz18_1 := yZ BK187.out 1) | ((with_reducible refine gate_builtin (b := .append) (xs := #[.tmp 28, .tmp 30]) rfl ?_); at_builtin; refine Kd.R_append k45 (w0 := w) w.heap.size rfl (.tmp 28) (.tmp 30) 26 45 (.agg #[(.int .i64 0), (.int .i64 0)]) 16 rfl Try.underlying26 info45 rfl (by decide) (by omega) v194 y193 (⟨a1_0, a1_1⟩ : S45) [.int .i64 a1_0, .int .i64 a1_1] (fun k_ => k_ ≠ gb187) (fun _ => False) rfl rfl ?aP (fun _ hk => hk.elim) ?aF ?aO ?aB ?aS ?aL ?_; (case aP => exact k45_mkM _ _ _ (⟨a1_0, a1_1⟩ : S45)); (case aB => exact (zH HB.out)); (case aF => exact (fun k_ hk => Kd.freshB (g := gb187) (o := .cells #[.int .i64 a1_0, .int .i64 a1_1] 45 (0, 0)) (yH BK187.out) k_ hk)); (case aO => exact (xH HO195.out)); (case aS => exact (zZ (zH HB.out))); (case aL => have := LMc11.out; omega); intro v197 w19 ho hb hg hat; rw [← Ny196.out] at ho; have n0_ := aM (blk_grown (g := gb187) (o := .cells #[.int .i64 a1_0, .int .i64 a1_1] 45 (0, 0)) (yH BK187.out) hg (Kd.R_away HO195.out (fun _ hk => hk))); have n1_ := aM (hb); have n2_ := aM (ho); clear BK187; clear HB; clear HO195; have BK187 := n0_; have HB := n1_; have HO198 := n2_; clear n0_ n1_ n2_; clear ho hb hg hat; have q20 : (x5_1 : Int) ≤ ((l0.length : Int) : Int) := of_decide_eq_true (by first | (with_reducible assumption) | assumption); obtain ⟨i020, hi020, _, hsz20, _⟩ := info_parts info45; have hroom20 : l0.length ≤ c0 := HC0.out; have hC20 : Kd.C k45 _ (some ad188) l0.length l0 := HR0.out; have q020 : (0 : Int) ≤ (x5_1 : Int) := of_decide_eq_true (by first | (with_reducible assumption) | assumption); have hcut20 := cut_from (P := Try.prog) 26 45 .i64 Try.underlying26 hi020 2 hsz20 (some ad188) l0.length c0 x5_1 q020 q20; have hr20 := Kd.C_drop (m := (x5_1 : Int).toNat) (c := c0) hC20 (by omega) hroom20; obtain ⟨A20, hA20⟩ : ∃ A1, A1 = (if c0 = (x5_1 : Int).toNat then (some ad188) else ((some ad188) : Option Addr).map (·.add ((x5_1 : Int).toNat * 2))) := ⟨_, rfl⟩; obtain ⟨c20, hc20⟩ : ∃ c1, c1 = c0 - (x5_1 : Int).toNat := ⟨_, rfl⟩; have hy20 : y199.length = l0.length - (x5_1 : Int).toNat := (by rw [Ny199.out, List.length_drop] <;> omega); rw [show (l0).drop (x5_1 : Int).toNat = y199 from Ny199.out.symm] at hr20; replace hr20 : Kd.C k45 _ A20 y199.length y199 := (by rw [hA20]; exact hr20); rw [← hy20, ← hA20, ← hc20] at hcut20; have HR202 := aM hr20; have HC202 := aM (show y199.length ≤ c20 from by rw [hy20, hc20]; exact Nat.sub_le_sub_right hroom20 _); clear hr20 hC20 hroom20 hi020 hsz20 hc20; have KY20 := aM hy20; have KA20 := aM hA20; clear hy20 hA20; replace q20 := eq_true q20) | ((with_reducible refine gate_builtin (b := .append) (xs := #[.tmp 32, .tmp 35]) rfl ?_); at_builtin; refine Kd.R_append_rows k45 (w0 := w) w.heap.size rfl (.tmp 32) (.tmp 35) 26 45 (.agg #[(.int .i64 0), (.int .i64 0)]) 16 rfl Try.underlying26 info45 rfl (by decide) (by omega) v197 y196 y199 _ _ _ (fun k_ => k_ ≠ gb187) (fun _ => False) rfl rfl ?aO ?aR (fun _ _ h => h) (fun _ h => h.elim) ?aF ?aB ?aS ?aL ?_; (case aR => exact cK HR202.out HB.out); (case aB => exact (zH HB.out)); (case aF => exact (fun k_ hk => Kd.freshB (g := gb187) (o := .cells #[.int .i64 a1_0, .int .i64 a1_1] 45 (0, 0)) (yH BK187.out) k_ hk)); (case aO => exact (xH HO198.out)); (case aS => exact (zZ (zH HB.out))); (case aL => have := LMc14.out; omega); intro v204 w21 ho hb hg hat; rw [← Ny203.out] at ho; have n0_ := aM (blk_grown (g := gb187) (o := .cells #[.int .i64 a1_0, .int .i64 a1_1] 45 (0, 0)) (yH BK187.out) hg (Kd.R_away HO198.out (fun _ hk => hk))); have n1_ := aM (hb); have n2_ := aM (ho); clear BK187; clear HB; clear HO198; have BK187 := n0_; have HB := n1_; have HO205 := n2_; clear n0_ n1_ n2_; clear ho hb hg hat)); try go_wp2_with (first | ((with_reducible refine gate_builtin (b := .append) (xs := #[.tmp 23, .tmp 26]) rfl ?_); at_builtin; refine Kd.R_append_rows k45 (w0 := w) w.heap.size rfl (.tmp 23) (.tmp 26) 26 45 (.agg #[(.int .i64 0), (.int .i64 0)]) 16 rfl Try.underlying26 info45 rfl (by decide) (by omega) (.slice none 0 0) ([] : List (S45)) y189 _ _ _ (fun k_ => k_ ≠ gb187) (fun _ => False) rfl rfl ?aO ?aR (fun _ _ h => h) (fun _ h => h.elim) ?aF ?aB ?aS ?aL ?_; (case aR => exact cK HR192.out HB.out); (case aB => exact (zH HB.out)); (case aF => exact (fun k_ hk => Kd.freshB (g := gb187) (o := .cells #[.int .i64 a1_0, .int .i64 a1_1] 45 (0, 0)) (yH BK187.out) k_ hk)); (case aO => exact ((Kd.R_nil _ _ _ _ (fun k_ => k_ ≠ gb187)))); (case aS => exact (zZ (zH HB.out))); (case aL => have := LMc10.out; omega); intro v194 w17 ho hb hg hat; rw [← Ny193.out] at ho; have n0_ := aM (blk_grown (g := gb187) (o := .cells #[.int .i64 a1_0, .int .i64 a1_1] 45 (0, 0)) (yH BK187.out) hg (by simp [Value.ownBlock])); have n1_ := aM (hb); have n2_ := aM (ho); clear BK187; clear HB; have BK187 := n0_; have HB := n1_; have HO195 := n2_; clear n0_ n1_ n2_; clear ho hb hg hat; have hcz18_0 : w17.cell? ⟨gb187, 0, none⟩ = some (.int .i64 a1_0) := yc BK187.out 0; have hcz18_1 : w17.cell? ⟨gb187, 1, none⟩ = some (.int .i64 a1_1) := yc BK187.out 1; have hfz18_0 := yZ BK187.out 0; have hfz18_1 := yZ BK187.out 1) | ((with_reducible refine gate_builtin (b := .append) (xs := #[.tmp 28, .tmp 30]) rfl ?_); at_builtin; refine Kd.R_append k45 (w0 := w) w.heap.size rfl (.tmp 28) (.tmp 30) 26 45 (.agg #[(.int .i64 0), (.int .i64 0)]) 16 rfl Try.underlying26 info45 rfl (by decide) (by omega) v194 y193 (⟨a1_0, a1_1⟩ : S45) [.int .i64 a1_0, .int .i64 a1_1] (fun k_ => k_ ≠ gb187) (fun _ => False) rfl rfl ?aP (fun _ hk => hk.elim) ?aF ?aO ?aB ?aS ?aL ?_; (case aP => exact k45_mkM _ _ _ (⟨a1_0, a1_1⟩ : S45)); (case aB => exact (zH HB.out)); (case aF => exact (fun k_ hk => Kd.freshB (g := gb187) (o := .cells #[.int .i64 a1_0, .int .i64 a1_1] 45 (0, 0)) (yH BK187.out) k_ hk)); (case aO => exact (xH HO195.out)); (case aS => exact (zZ (zH HB.out))); (case aL => have := LMc11.out; omega); intro v197 w19 ho hb hg hat; rw [← Ny196.out] at ho; have n0_ := aM (blk_grown (g := gb187) (o := .cells #[.int .i64 a1_0, .int .i64 a1_1] 45 (0, 0)) (yH BK187.out) hg (Kd.R_away HO195.out (fun _ hk => hk))); have n1_ := aM (hb); have n2_ := aM (ho); clear BK187; clear HB; clear HO195; have BK187 := n0_; have HB := n1_; have HO198 := n2_; clear n0_ n1_ n2_; clear ho hb hg hat; have q20 : (x5_1 : Int) ≤ ((l0.length : Int) : Int) := of_decide_eq_true (by first | (with_reducible assumption) | assumption); obtain ⟨i020, hi020, _, hsz20, _⟩ := info_parts info45; have hroom20 : l0.length ≤ c0 := HC0.out; have hC20 : Kd.C k45 _ (some ad188) l0.length l0 := HR0.out; have q020 : (0 : Int) ≤ (x5_1 : Int) := of_decide_eq_true (by first | (with_reducible assumption) | assumption); have hcut20 := cut_from (P := Try.prog) 26 45 .i64 Try.underlying26 hi020 2 hsz20 (some ad188) l0.length c0 x5_1 q020 q20; have hr20 := Kd.C_drop (m := (x5_1 : Int).toNat) (c := c0) hC20 (by omega) hroom20; obtain ⟨A20, hA20⟩ : ∃ A1, A1 = (if c0 = (x5_1 : Int).toNat then (some ad188) else ((some ad188) : Option Addr).map (·.add ((x5_1 : Int).toNat * 2))) := ⟨_, rfl⟩; obtain ⟨c20, hc20⟩ : ∃ c1, c1 = c0 - (x5_1 : Int).toNat := ⟨_, rfl⟩; have hy20 : y199.length = l0.length - (x5_1 : Int).toNat := (by rw [Ny199.out, List.length_drop] <;> omega); rw [show (l0).drop (x5_1 : Int).toNat = y199 from Ny199.out.symm] at hr20; replace hr20 : Kd.C k45 _ A20 y199.length y199 := (by rw [hA20]; exact hr20); rw [← hy20, ← hA20, ← hc20] at hcut20; have HR202 := aM hr20; have HC202 := aM (show y199.length ≤ c20 from by rw [hy20, hc20]; exact Nat.sub_le_sub_right hroom20 _); clear hr20 hC20 hroom20 hi020 hsz20 hc20; have KY20 := aM hy20; have KA20 := aM hA20; clear hy20 hA20; replace q20 := eq_true q20) | ((with_reducible refine gate_builtin (b := .append) (xs := #[.tmp 32, .tmp 35]) rfl ?_); at_builtin; refine Kd.R_append_rows k45 (w0 := w) w.heap.size rfl (.tmp 32) (.tmp 35) 26 45 (.agg #[(.int .i64 0), (.int .i64 0)]) 16 rfl Try.underlying26 info45 rfl (by decide) (by omega) v197 y196 y199 _ _ _ (fun k_ => k_ ≠ gb187) (fun _ => False) rfl rfl ?aO ?aR (fun _ _ h => h) (fun _ h => h.elim) ?aF ?aB ?aS ?aL ?_; (case aR => exact cK HR202.out HB.out); (case aB => exact (zH HB.out)); (case aF => exact (fun k_ hk => Kd.freshB (g := gb187) (o := .cells #[.int .i64 a1_0, .int .i64 a1_1] 45 (0, 0)) (yH BK187.out) k_ hk)); (case aO => exact (xH HO198.out)); (case aS => exact (zZ (zH HB.out))); (case aL => have := LMc14.out; omega); intro v204 w21 ho hb hg hat; rw [← Ny203.out] at ho; have n0_ := aM (blk_grown (g := gb187) (o := .cells #[.int .i64 a1_0, .int .i64 a1_1] 45 (0, 0)) (yH BK187.out) hg (Kd.R_away HO198.out (fun _ hk => hk))); have n1_ := aM (hb); have n2_ := aM (ho); clear BK187; clear HB; clear HO198; have BK187 := n0_; have HB := n1_; have HO205 := n2_; clear n0_ n1_ n2_; clear ho hb hg hat)))
          go_ret
          exact ⟨_, by first | rfl | (simp [errW_none, errW_some] <;> rfl) | (simp [*, errW_none, errW_some] <;> rfl), xH (xM HO205.out (fun _ hk => trivial)), zH HB.out⟩
         ·rw [if_neg c14] at H
          exact absurd H (by simp)
        ·rw [if_neg c11] at H
         exact absurd H (by simp)
       ·rw [if_neg c10] at H
        exact absurd H (by simp)
      ·rw [if_neg c9] at H
       exact absurd H (by simp)
    ·rw [if_neg c5] at H
     exact absurd H (by simp)
   ·rw [if_neg c4] at H
    have c4b0 : decide (x5_1 < (l0.length : Int)) = false := decide_eq_false c4
    clear c4
    by_cases c22 : 0 ≤ x5_1
    ·rw [if_pos c22] at H
     have c22b0 := eq_true c22
     have c22b1 : decide (0 ≤ x5_1) = true := decide_eq_true c22
     clear c22
     by_cases c23 : x5_1 ≤ (l0.length : Int)
     ·rw [if_pos c23] at H
      have c23b0 := eq_true c23
      have c23b1 : decide (x5_1 ≤ (l0.length : Int)) = true := decide_eq_true c23
      clear c23
      obtain ⟨y206, hy206⟩ : ∃ y_ : List (S45), y_ = (l0.take (x5_1 : Int).toNat) := ⟨_, rfl⟩
      replace H : (if ([] : List (S45)).length + y206.length < 8796093022208 then ((some (([] : List (S45)) ++ y206 : List (S45))).bind fun y210 => (if y210.length < 8796093022208 then ((some (y210 ++ [(⟨a1_0, a1_1⟩ : S45)] : List (S45))).bind fun y213 => ((some (l0.drop (x5_1 : Int).toNat : List (S45))).bind fun y216 => (if y213.length + y216.length < 8796093022208 then (some (y213 ++ y216)) else (none)))) else (none))) else (none)) = some r := by first | (rw [hy206]; with_reducible exact H) | (have H2_ := (Option.bind_some _ _).symm.trans H; rw [hy206]; with_reducible exact H2_) | (have H2_ := (Option.bind_some _ _).symm.trans H; with_reducible exact H2_) | with_reducible exact H | (rw [hy206]; exact H) | exact H
      have Ny206 := aM hy206
      clear hy206
      by_cases c24 : ([] : List (S45)).length + y206.length < 8796093022208
      ·rw [if_pos c24] at H
       have LMc24 := aM c24
       clear c24
       obtain ⟨y210, hy210⟩ : ∃ y_ : List (S45), y_ = (([] : List (S45)) ++ y206) := ⟨_, rfl⟩
       replace H : (if y210.length < 8796093022208 then ((some (y210 ++ [(⟨a1_0, a1_1⟩ : S45)] : List (S45))).bind fun y213 => ((some (l0.drop (x5_1 : Int).toNat : List (S45))).bind fun y216 => (if y213.length + y216.length < 8796093022208 then (some (y213 ++ y216)) else (none)))) else (none)) = some r := by first | (rw [hy210]; with_reducible exact H) | (have H2_ := (Option.bind_some _ _).symm.trans H; rw [hy210]; with_reducible exact H2_) | (have H2_ := (Option.bind_some _ _).symm.trans H; with_reducible exact H2_) | with_reducible exact H | (rw [hy210]; exact H) | exact H
       have Ny210 := aM hy210
       clear hy210
       by_cases c25 : y210.length < 8796093022208
       ·rw [if_pos c25] at H
        have LMc25 := aM c25
        clear c25
        obtain ⟨y213, hy213⟩ : ∃ y_ : List (S45), y_ = (y210 ++ [(⟨a1_0, a1_1⟩ : S45)]) := ⟨_, rfl⟩
        replace H : ((some (l0.drop (x5_1 : Int).toNat : List (S45))).bind fun y216 => (if y213.length + y216.length < 8796093022208 then (some (y213 ++ y216)) else (none))) = some r := by first | (rw [hy213]; with_reducible exact H) | (have H2_ := (Option.bind_some _ _).symm.trans H; rw [hy213]; with_reducible exact H2_) | (have H2_ := (Option.bind_some _ _).symm.trans H; with_reducible exact H2_) | with_reducible exact H | (rw [hy213]; exact H) | exact H
        have Ny213 := aM hy213
        clear hy213
        have c26b0 := eq_true (of_decide_eq_true (by first | (with_reducible assumption) | assumption) : 0 ≤ x5_1)
        have c27b0 := eq_true (of_decide_eq_true (by first | (with_reducible assumption) | assumption) : x5_1 ≤ (l0.length : Int))
        obtain ⟨y216, hy216⟩ : ∃ y_ : List (S45), y_ = (l0.drop (x5_1 : Int).toNat) := ⟨_, rfl⟩
        replace H : (if y213.length + y216.length < 8796093022208 then (some (y213 ++ y216)) else (none)) = some r := by first | (rw [hy216]; with_reducible exact H) | (have H2_ := (Option.bind_some _ _).symm.trans H; rw [hy216]; with_reducible exact H2_) | (have H2_ := (Option.bind_some _ _).symm.trans H; with_reducible exact H2_) | with_reducible exact H | (rw [hy216]; exact H) | exact H
        have Ny216 := aM hy216
        clear hy216
        by_cases c28 : y213.length + y216.length < 8796093022208
        ·rw [if_pos c28] at H
         have LMc28 := aM c28
         clear c28
         obtain ⟨y220, hy220⟩ : ∃ y_ : List (S45), y_ = (y213 ++ y216) := ⟨_, rfl⟩
         replace H : (some y220) = some r := by first | (rw [hy220]; with_reducible exact H) | (have H2_ := (Option.bind_some _ _).symm.trans H; rw [hy220]; with_reducible exact H2_) | (have H2_ := (Option.bind_some _ _).symm.trans H; with_reducible exact H2_) | with_reducible exact H | (rw [hy220]; exact H) | exact H
         have Ny220 := aM hy220
         clear hy220
         obtain rfl := Option.some.inj H
         have q29 : (x5_1 : Int) ≤ ((l0.length : Int) : Int) := of_decide_eq_true (by first | (with_reducible assumption) | assumption)
         obtain ⟨i029, hi029, _, hsz29, _⟩ := info_parts info45
         have hroom29 : l0.length ≤ c0 := HC0.out
         have hC29 : Kd.C k45 _ A0 l0.length l0 := HR0.out
         have hcut29 := cut_to (P := Try.prog) 26 45 .i64 Try.underlying26 hi029 A0 l0.length c0 x5_1 (of_decide_eq_true (by first | (with_reducible assumption) | assumption)) q29 hroom29
         have hr29 := Kd.C_take (m := (x5_1 : Int).toNat) hC29 (by omega)
         have hy29 : y206.length = (x5_1 : Int).toNat := (by rw [Ny206.out, List.length_take]; omega)
         rw [← Ny206.out] at hr29
         rw [← hy29] at hcut29
         have HR209 := aM hr29
         have HC209 := aM (show y206.length ≤ c0 from by omega)
         clear hr29 hC29 hroom29 hi029 hsz29
         have KY29 := aM hy29
         clear hy29
         replace q29 := eq_true q29
         go_wp2_with (first | ((with_reducible refine gate_builtin (b := .append) (xs := #[.tmp 23, .tmp 26]) rfl ?_); at_builtin; refine Kd.R_append_rows k45 (w0 := w) w.heap.size rfl (.tmp 23) (.tmp 26) 26 45 (.agg #[(.int .i64 0), (.int .i64 0)]) 16 rfl Try.underlying26 info45 rfl (by decide) (by omega) (.slice none 0 0) ([] : List (S45)) y206 _ _ _ (fun k_ => k_ ≠ gb187) (fun _ => False) rfl rfl ?aO ?aR (fun _ _ h => h) (fun _ h => h.elim) ?aF ?aB ?aS ?aL ?_; (case aR => exact cK HR209.out HB.out); (case aB => exact (zH HB.out)); (case aF => exact (fun k_ hk => Kd.freshB (g := gb187) (o := .cells #[.int .i64 a1_0, .int .i64 a1_1] 45 (0, 0)) (yH BK187.out) k_ hk)); (case aO => exact ((Kd.R_nil _ _ _ _ (fun k_ => k_ ≠ gb187)))); (case aS => exact (zZ (zH HB.out))); (case aL => have := LMc24.out; omega); intro v211 w30 ho hb hg hat; rw [← Ny210.out] at ho; replace BK187 := aM (blk_grown (g := gb187) (o := .cells #[.int .i64 a1_0, .int .i64 a1_1] 45 (0, 0)) (yH BK187.out) hg (by simp [Value.ownBlock])); replace HB := aM (hb); have HO212 := aM (ho); clear ho hb hg hat; have hcz31_0 : w30.cell? ⟨gb187, 0, none⟩ = some (.int .i64 a1_0) := yc BK187.out 0; have hcz31_1 : w30.cell? ⟨gb187, 1, none⟩ = some (.int .i64 a1_1) := yc BK187.out 1; have hfz31_0 := yZ BK187.out 0; have hfz31_1 := yZ BK187.out 1) | ((with_reducible refine gate_builtin (b := .append) (xs := #[.tmp 28, .tmp 30]) rfl ?_); at_builtin; refine Kd.R_append k45 (w0 := w) w.heap.size rfl (.tmp 28) (.tmp 30) 26 45 (.agg #[(.int .i64 0), (.int .i64 0)]) 16 rfl Try.underlying26 info45 rfl (by decide) (by omega) v211 y210 (⟨a1_0, a1_1⟩ : S45) [.int .i64 a1_0, .int .i64 a1_1] (fun k_ => k_ ≠ gb187) (fun _ => False) rfl rfl ?aP (fun _ hk => hk.elim) ?aF ?aO ?aB ?aS ?aL ?_; (case aP => exact k45_mkM _ _ _ (⟨a1_0, a1_1⟩ : S45)); (case aB => exact (zH HB.out)); (case aF => exact (fun k_ hk => Kd.freshB (g := gb187) (o := .cells #[.int .i64 a1_0, .int .i64 a1_1] 45 (0, 0)) (yH BK187.out) k_ hk)); (case aO => exact (xH HO212.out)); (case aS => exact (zZ (zH HB.out))); (case aL => have := LMc25.out; omega); intro v214 w32 ho hb hg hat; rw [← Ny213.out] at ho; replace BK187 := aM (blk_grown (g := gb187) (o := .cells #[.int .i64 a1_0, .int .i64 a1_1] 45 (0, 0)) (yH BK187.out) hg (Kd.R_away HO212.out (fun _ hk => hk))); replace HB := aM (hb); have HO215 := aM (ho); clear HO212; clear ho hb hg hat; have q33 : (x5_1 : Int) ≤ ((l0.length : Int) : Int) := of_decide_eq_true (by first | (with_reducible assumption) | assumption); obtain ⟨i033, hi033, _, hsz33, _⟩ := info_parts info45; have hroom33 : l0.length ≤ c0 := HC0.out; have hC33 : Kd.C k45 _ A0 l0.length l0 := HR0.out; have q033 : (0 : Int) ≤ (x5_1 : Int) := of_decide_eq_true (by first | (with_reducible assumption) | assumption); have hcut33 := cut_from (P := Try.prog) 26 45 .i64 Try.underlying26 hi033 2 hsz33 A0 l0.length c0 x5_1 q033 q33; have hr33 := Kd.C_drop (m := (x5_1 : Int).toNat) (c := c0) hC33 (by omega) hroom33; obtain ⟨A33, hA33⟩ : ∃ A1, A1 = (if c0 = (x5_1 : Int).toNat then A0 else (A0 : Option Addr).map (·.add ((x5_1 : Int).toNat * 2))) := ⟨_, rfl⟩; obtain ⟨c33, hc33⟩ : ∃ c1, c1 = c0 - (x5_1 : Int).toNat := ⟨_, rfl⟩; have hy33 : y216.length = l0.length - (x5_1 : Int).toNat := (by rw [Ny216.out, List.length_drop] <;> omega); rw [show (l0).drop (x5_1 : Int).toNat = y216 from Ny216.out.symm] at hr33; replace hr33 : Kd.C k45 _ A33 y216.length y216 := (by rw [hA33]; exact hr33); rw [← hy33, ← hA33, ← hc33] at hcut33; have HR219 := aM hr33; have HC219 := aM (show y216.length ≤ c33 from by rw [hy33, hc33]; exact Nat.sub_le_sub_right hroom33 _); clear hr33 hC33 hroom33 hi033 hsz33 hc33; have KY33 := aM hy33; have KA33 := aM hA33; clear hy33 hA33; replace q33 := eq_true q33) | ((with_reducible refine gate_builtin (b := .append) (xs := #[.tmp 32, .tmp 35]) rfl ?_); at_builtin; refine Kd.R_append_rows k45 (w0 := w) w.heap.size rfl (.tmp 32) (.tmp 35) 26 45 (.agg #[(.int .i64 0), (.int .i64 0)]) 16 rfl Try.underlying26 info45 rfl (by decide) (by omega) v214 y213 y216 _ _ _ (fun k_ => k_ ≠ gb187) (fun _ => False) rfl rfl ?aO ?aR (fun _ _ h => h) (fun _ h => h.elim) ?aF ?aB ?aS ?aL ?_; (case aR => exact cK HR219.out HB.out); (case aB => exact (zH HB.out)); (case aF => exact (fun k_ hk => Kd.freshB (g := gb187) (o := .cells #[.int .i64 a1_0, .int .i64 a1_1] 45 (0, 0)) (yH BK187.out) k_ hk)); (case aO => exact (xH HO215.out)); (case aS => exact (zZ (zH HB.out))); (case aL => have := LMc28.out; omega); intro v221 w34 ho hb hg hat; rw [← Ny220.out] at ho; replace BK187 := aM (blk_grown (g := gb187) (o := .cells #[.int .i64 a1_0, .int .i64 a1_1] 45 (0, 0)) (yH BK187.out) hg (Kd.R_away HO215.out (fun _ hk => hk))); replace HB := aM (hb); have HO222 := aM (ho); clear HO215; clear ho hb hg hat))
         repeat (go_quiet (first | ((with_reducible refine gate_builtin (b := .append) (xs := #[.tmp 23, .tmp 26]) rfl ?_); at_builtin; refine Kd.R_append_rows k45 (w0 := w) w.heap.size rfl (.tmp 23) (.tmp 26) 26 45 (.agg #[(.int .i64 0), (.int .i64 0)]) 16 rfl Try.underlying26 info45 rfl (by decide) (by omega) (.slice none 0 0) ([] : List (S45)) y206 _ _ _ (fun k_ => k_ ≠ gb187) (fun _ => False) rfl rfl ?aO ?aR (fun _ _ h => h) (fun _ h => h.elim) ?aF ?aB ?aS ?aL ?_; (case aR => exact cK HR209.out HB.out); (case aB => exact (zH HB.out)); (case aF => exact (fun k_ hk => Kd.freshB (g := gb187) (o := .cells #[.int .i64 a1_0, .int .i64 a1_1] 45 (0, 0)) (yH BK187.out) k_ hk)); (case aO => exact ((Kd.R_nil _ _ _ _ (fun k_ => k_ ≠ gb187)))); (case aS => exact (zZ (zH HB.out))); (case aL => have := LMc24.out; omega); intro v211 w30 ho hb hg hat; rw [← Ny210.out] at ho; have n0_ := aM (blk_grown (g := gb187) (o := .cells #[.int .i64 a1_0, .int .i64 a1_1] 45 (0, 0)) (yH BK187.out) hg (by simp [Value.ownBlock])); have n1_ := aM (hb); have n2_ := aM (ho); clear BK187; clear HB; have BK187 := n0_; have HB := n1_; have HO212 := n2_; clear n0_ n1_ n2_; clear ho hb hg hat; have hcz31_0 : w30.cell? ⟨gb187, 0, none⟩ = some (.int .i64 a1_0) := yc BK187.out 0; have hcz31_1 : w30.cell? ⟨gb187, 1, none⟩ = some (.int .i64 a1_1) := yc BK187.out 1; have hfz31_0 := yZ BK187.out 0; have hfz31_1 := yZ BK187.out 1) | ((with_reducible refine gate_builtin (b := .append) (xs := #[.tmp 28, .tmp 30]) rfl ?_); at_builtin; refine Kd.R_append k45 (w0 := w) w.heap.size rfl (.tmp 28) (.tmp 30) 26 45 (.agg #[(.int .i64 0), (.int .i64 0)]) 16 rfl Try.underlying26 info45 rfl (by decide) (by omega) v211 y210 (⟨a1_0, a1_1⟩ : S45) [.int .i64 a1_0, .int .i64 a1_1] (fun k_ => k_ ≠ gb187) (fun _ => False) rfl rfl ?aP (fun _ hk => hk.elim) ?aF ?aO ?aB ?aS ?aL ?_; (case aP => exact k45_mkM _ _ _ (⟨a1_0, a1_1⟩ : S45)); (case aB => exact (zH HB.out)); (case aF => exact (fun k_ hk => Kd.freshB (g := gb187) (o := .cells #[.int .i64 a1_0, .int .i64 a1_1] 45 (0, 0)) (yH BK187.out) k_ hk)); (case aO => exact (xH HO212.out)); (case aS => exact (zZ (zH HB.out))); (case aL => have := LMc25.out; omega); intro v214 w32 ho hb hg hat; rw [← Ny213.out] at ho; have n0_ := aM (blk_grown (g := gb187) (o := .cells #[.int .i64 a1_0, .int .i64 a1_1] 45 (0, 0)) (yH BK187.out) hg (Kd.R_away HO212.out (fun _ hk => hk))); have n1_ := aM (hb); have n2_ := aM (ho); clear BK187; clear HB; clear HO212; have BK187 := n0_; have HB := n1_; have HO215 := n2_; clear n0_ n1_ n2_; clear ho hb hg hat; have q33 : (x5_1 : Int) ≤ ((l0.length : Int) : Int) := of_decide_eq_true (by first | (with_reducible assumption) | assumption); obtain ⟨i033, hi033, _, hsz33, _⟩ := info_parts info45; have hroom33 : l0.length ≤ c0 := HC0.out; have hC33 : Kd.C k45 _ A0 l0.length l0 := HR0.out; have q033 : (0 : Int) ≤ (x5_1 : Int) := of_decide_eq_true (by first | (with_reducible assumption) | assumption); have hcut33 := cut_from (P := Try.prog) 26 45 .i64 Try.underlying26 hi033 2 hsz33 A0 l0.length c0 x5_1 q033 q33; have hr33 := Kd.C_drop (m := (x5_1 : Int).toNat) (c := c0) hC33 (by omega) hroom33; obtain ⟨A33, hA33⟩ : ∃ A1, A1 = (if c0 = (x5_1 : Int).toNat then A0 else (A0 : Option Addr).map (·.add ((x5_1 : Int).toNat * 2))) := ⟨_, rfl⟩; obtain ⟨c33, hc33⟩ : ∃ c1, c1 = c0 - (x5_1 : Int).toNat := ⟨_, rfl⟩; have hy33 : y216.length = l0.length - (x5_1 : Int).toNat := (by rw [Ny216.out, List.length_drop] <;> omega); rw [show (l0).drop (x5_1 : Int).toNat = y216 from Ny216.out.symm] at hr33; replace hr33 : Kd.C k45 _ A33 y216.length y216 := (by rw [hA33]; exact hr33); rw [← hy33, ← hA33, ← hc33] at hcut33; have HR219 := aM hr33; have HC219 := aM (show y216.length ≤ c33 from by rw [hy33, hc33]; exact Nat.sub_le_sub_right hroom33 _); clear hr33 hC33 hroom33 hi033 hsz33 hc33; have KY33 := aM hy33; have KA33 := aM hA33; clear hy33 hA33; replace q33 := eq_true q33) | ((with_reducible refine gate_builtin (b := .append) (xs := #[.tmp 32, .tmp 35]) rfl ?_); at_builtin; refine Kd.R_append_rows k45 (w0 := w) w.heap.size rfl (.tmp 32) (.tmp 35) 26 45 (.agg #[(.int .i64 0), (.int .i64 0)]) 16 rfl Try.underlying26 info45 rfl (by decide) (by omega) v214 y213 y216 _ _ _ (fun k_ => k_ ≠ gb187) (fun _ => False) rfl rfl ?aO ?aR (fun _ _ h => h) (fun _ h => h.elim) ?aF ?aB ?aS ?aL ?_; (case aR => exact cK HR219.out HB.out); (case aB => exact (zH HB.out)); (case aF => exact (fun k_ hk => Kd.freshB (g := gb187) (o := .cells #[.int .i64 a1_0, .int .i64 a1_1] 45 (0, 0)) (yH BK187.out) k_ hk)); (case aO => exact (xH HO215.out)); (case aS => exact (zZ (zH HB.out))); (case aL => have := LMc28.out; omega); intro v221 w34 ho hb hg hat; rw [← Ny220.out] at ho; have n0_ := aM (blk_grown (g := gb187) (o := .cells #[.int .i64 a1_0, .int .i64 a1_1] 45 (0, 0)) (yH BK187.out) hg (Kd.R_away HO215.out (fun _ hk => hk))); have n1_ := aM (hb); have n2_ := aM (ho); clear BK187; clear HB; clear HO215; have BK187 := n0_; have HB := n1_; have HO222 := n2_; clear n0_ n1_ n2_; clear ho hb hg hat)); try go_wp2_with (first | ((with_reducible refine gate_builtin (b := .append) (xs := #[.tmp 23, .tmp 26]) rfl ?_); at_builtin; refine Kd.R_append_rows k45 (w0 := w) w.heap.size rfl (.tmp 23) (.tmp 26) 26 45 (.agg #[(.int .i64 0), (.int .i64 0)]) 16 rfl Try.underlying26 info45 rfl (by decide) (by omega) (.slice none 0 0) ([] : List (S45)) y206 _ _ _ (fun k_ => k_ ≠ gb187) (fun _ => False) rfl rfl ?aO ?aR (fun _ _ h => h) (fun _ h => h.elim) ?aF ?aB ?aS ?aL ?_; (case aR => exact cK HR209.out HB.out); (case aB => exact (zH HB.out)); (case aF => exact (fun k_ hk => Kd.freshB (g := gb187) (o := .cells #[.int .i64 a1_0, .int .i64 a1_1] 45 (0, 0)) (yH BK187.out) k_ hk)); (case aO => exact ((Kd.R_nil _ _ _ _ (fun k_ => k_ ≠ gb187)))); (case aS => exact (zZ (zH HB.out))); (case aL => have := LMc24.out; omega); intro v211 w30 ho hb hg hat; rw [← Ny210.out] at ho; have n0_ := aM (blk_grown (g := gb187) (o := .cells #[.int .i64 a1_0, .int .i64 a1_1] 45 (0, 0)) (yH BK187.out) hg (by simp [Value.ownBlock])); have n1_ := aM (hb); have n2_ := aM (ho); clear BK187; clear HB; have BK187 := n0_; have HB := n1_; have HO212 := n2_; clear n0_ n1_ n2_; clear ho hb hg hat; have hcz31_0 : w30.cell? ⟨gb187, 0, none⟩ = some (.int .i64 a1_0) := yc BK187.out 0; have hcz31_1 : w30.cell? ⟨gb187, 1, none⟩ = some (.int .i64 a1_1) := yc BK187.out 1; have hfz31_0 := yZ BK187.out 0; have hfz31_1 := yZ BK187.out 1) | ((with_reducible refine gate_builtin (b := .append) (xs := #[.tmp 28, .tmp 30]) rfl ?_); at_builtin; refine Kd.R_append k45 (w0 := w) w.heap.size rfl (.tmp 28) (.tmp 30) 26 45 (.agg #[(.int .i64 0), (.int .i64 0)]) 16 rfl Try.underlying26 info45 rfl (by decide) (by omega) v211 y210 (⟨a1_0, a1_1⟩ : S45) [.int .i64 a1_0, .int .i64 a1_1] (fun k_ => k_ ≠ gb187) (fun _ => False) rfl rfl ?aP (fun _ hk => hk.elim) ?aF ?aO ?aB ?aS ?aL ?_; (case aP => exact k45_mkM _ _ _ (⟨a1_0, a1_1⟩ : S45)); (case aB => exact (zH HB.out)); (case aF => exact (fun k_ hk => Kd.freshB (g := gb187) (o := .cells #[.int .i64 a1_0, .int .i64 a1_1] 45 (0, 0)) (yH BK187.out) k_ hk)); (case aO => exact (xH HO212.out)); (case aS => exact (zZ (zH HB.out))); (case aL => have := LMc25.out; omega); intro v214 w32 ho hb hg hat; rw [← Ny213.out] at ho; have n0_ := aM (blk_grown (g := gb187) (o := .cells #[.int .i64 a1_0, .int .i64 a1_1] 45 (0, 0)) (yH BK187.out) hg (Kd.R_away HO212.out (fun _ hk => hk))); have n1_ := aM (hb); have n2_ := aM (ho); clear BK187; clear HB; clear HO212; have BK187 := n0_; have HB := n1_; have HO215 := n2_; clear n0_ n1_ n2_; clear ho hb hg hat; have q33 : (x5_1 : Int) ≤ ((l0.length : Int) : Int) := of_decide_eq_true (by first | (with_reducible assumption) | assumption); obtain ⟨i033, hi033, _, hsz33, _⟩ := info_parts info45; have hroom33 : l0.length ≤ c0 := HC0.out; have hC33 : Kd.C k45 _ A0 l0.length l0 := HR0.out; have q033 : (0 : Int) ≤ (x5_1 : Int) := of_decide_eq_true (by first | (with_reducible assumption) | assumption); have hcut33 := cut_from (P := Try.prog) 26 45 .i64 Try.underlying26 hi033 2 hsz33 A0 l0.length c0 x5_1 q033 q33; have hr33 := Kd.C_drop (m := (x5_1 : Int).toNat) (c := c0) hC33 (by omega) hroom33; obtain ⟨A33, hA33⟩ : ∃ A1, A1 = (if c0 = (x5_1 : Int).toNat then A0 else (A0 : Option Addr).map (·.add ((x5_1 : Int).toNat * 2))) := ⟨_, rfl⟩; obtain ⟨c33, hc33⟩ : ∃ c1, c1 = c0 - (x5_1 : Int).toNat := ⟨_, rfl⟩; have hy33 : y216.length = l0.length - (x5_1 : Int).toNat := (by rw [Ny216.out, List.length_drop] <;> omega); rw [show (l0).drop (x5_1 : Int).toNat = y216 from Ny216.out.symm] at hr33; replace hr33 : Kd.C k45 _ A33 y216.length y216 := (by rw [hA33]; exact hr33); rw [← hy33, ← hA33, ← hc33] at hcut33; have HR219 := aM hr33; have HC219 := aM (show y216.length ≤ c33 from by rw [hy33, hc33]; exact Nat.sub_le_sub_right hroom33 _); clear hr33 hC33 hroom33 hi033 hsz33 hc33; have KY33 := aM hy33; have KA33 := aM hA33; clear hy33 hA33; replace q33 := eq_true q33) | ((with_reducible refine gate_builtin (b := .append) (xs := #[.tmp 32, .tmp 35]) rfl ?_); at_builtin; refine Kd.R_append_rows k45 (w0 := w) w.heap.size rfl (.tmp 32) (.tmp 35) 26 45 (.agg #[(.int .i64 0), (.int .i64 0)]) 16 rfl Try.underlying26 info45 rfl (by decide) (by omega) v214 y213 y216 _ _ _ (fun k_ => k_ ≠ gb187) (fun _ => False) rfl rfl ?aO ?aR (fun _ _ h => h) (fun _ h => h.elim) ?aF ?aB ?aS ?aL ?_; (case aR => exact cK HR219.out HB.out); (case aB => exact (zH HB.out)); (case aF => exact (fun k_ hk => Kd.freshB (g := gb187) (o := .cells #[.int .i64 a1_0, .int .i64 a1_1] 45 (0, 0)) (yH BK187.out) k_ hk)); (case aO => exact (xH HO215.out)); (case aS => exact (zZ (zH HB.out))); (case aL => have := LMc28.out; omega); intro v221 w34 ho hb hg hat; rw [← Ny220.out] at ho; have n0_ := aM (blk_grown (g := gb187) (o := .cells #[.int .i64 a1_0, .int .i64 a1_1] 45 (0, 0)) (yH BK187.out) hg (Kd.R_away HO215.out (fun _ hk => hk))); have n1_ := aM (hb); have n2_ := aM (ho); clear BK187; clear HB; clear HO215; have BK187 := n0_; have HB := n1_; have HO222 := n2_; clear n0_ n1_ n2_; clear ho hb hg hat)))
         go_ret
         exact ⟨_, by first | rfl | (simp [errW_none, errW_some] <;> rfl) | (simp [*, errW_none, errW_some] <;> rfl), xH (xM HO222.out (fun _ hk => trivial)), zH HB.out⟩
        ·rw [if_neg c28] at H
         exact absurd H (by simp)
       ·rw [if_neg c25] at H
        exact absurd H (by simp)
      ·rw [if_neg c24] at H
       exact absurd H (by simp)
     ·rw [if_neg c23] at H
      exact absurd H (by simp)
    ·rw [if_neg c22] at H
     exact absurd H (by simp)

end Go.Proofs.Ytbjcioihomeikaa.PFnExactTakeBlock
