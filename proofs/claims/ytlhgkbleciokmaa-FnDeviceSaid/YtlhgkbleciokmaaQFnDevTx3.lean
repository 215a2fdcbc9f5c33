/- The walks of FnDevice: Go's calls come to what the Lean functions beside them say; no condition. -/
import Derived.Test.YtlhgkbleciokmaaQFnDevTx0
import Derived.Test.YtlhgkbleciokmaaQFnDevTx1
import Derived.Test.YtlhgkbleciokmaaQFnDevTx2
namespace Go.Proofs.Ytlhgkbleciokmaa.PFnDevice
open Go.RowKit Go.Proofs.YtlhgkbleciokmaaW.PrintWords Go.Proofs.YtlhgkbleciokmaaW.PrintLast Go.Proofs.YtlhgkbleciokmaaW.PrintMore
attribute [local go_sem] max2_int min2_int max_two min_two max_three min_three max_four min_four   -- for this text's walks alone
set_option linter.unusedVariables false
set_option linter.unusedSimpArgs false
set_option maxRecDepth 100000

/-! ### impl_WriteSector: function 25 -/
def impl_WriteSector.f (l0_0 : List ByteArray) (l0_1 : List (S42)) (a1_0 : Int) (a1_1 : ByteArray) : Option (List ByteArray × (List (S42)) × Bool) := (slices_Clone_string_string.f l0_0).bind fun t146 => ((impl_Write.f l0_1).bind fun t149 => ((some (([(⟨a1_0, a1_1⟩ : S42)] : List (S42)) : List (S42))).bind fun y152 => (if t149.length + y152.length < 5864062014805 then ((some (t149 ++ y152 : List (S42))).bind fun y155 => ((impl_GoodDevice.f l0_0 l0_1).bind fun t159 => (if t159 = true then ((impl_GoodDevice.f t146 y155).bind fun t160 => (if t160 = true then (some (t146, y155, true)) else (some (([] : List ByteArray), ([] : List (S42)), false)))) else (some (([] : List ByteArray), ([] : List (S42)), false))))) else (none))))
def impl_WriteSector.T1 : Bool × List (List Nat × List Nat) := (true, [([], []), ([0], [0]), ([1], [1]), ([], []), ([3], [3]), ([4, 2], [4]), ([], []), ([6], [6]), ([5, 7, 5], [5, 7]), ([2, 8], [2, 8]), ([], []), ([10, 9, 8, 0, 1, 2, 3, 4, 5, 6, 7, 8, 9, 10], [9, 10])])
def impl_WriteSector.B1 : List Nat := [0, 1, 3, 0, 8, 31, 0, 64, 255, 511, 0, 2047]
theorem impl_WriteSector.tab1 : rtab .any (opsOf Try.f25 1) = impl_WriteSector.T1 := by kernel_rfl
theorem impl_WriteSector.bits1 : waitsOk impl_WriteSector.T1.2 impl_WriteSector.B1 = true := by kernel_rfl
set_option maxHeartbeats 8000000 in
set_option maxRecDepth 100000 in
theorem impl_WriteSector.calls (A0_0 : Option Addr) (c0_0 : Nat) (l0_0 : List ByteArray) (A0_1 : Option Addr) (c0_1 : Nat) (l0_1 : List (S42)) (a1_0 : Int) (a1_1 : ByteArray) (r1 : List ByteArray) (r2 : List (S42)) (r3 : Bool) (w : World) (hr0_0 : Kd.C Kd.string w A0_0 l0_0.length l0_0) (hc0_0 : l0_0.length ≤ c0_0) (hr0_1 : Kd.C k42 w A0_1 l0_1.length l0_1) (hc0_1 : l0_1.length ≤ c0_1) (h : impl_WriteSector.f l0_0 l0_1 a1_0 a1_1 = some (r1, r2, r3)) :
  Calls Try.prog 25 #[.agg #[.slice A0_0 l0_0.length c0_0, .slice A0_1 l0_1.length c0_1], .agg #[.int .i64 a1_0, .string a1_1]] w fun e w' => ∃ v0_ v1_ : Value, e = .returned (.tuple #[.agg #[v0_, v1_], .bool r3]) ∧ Kd.R Kd.string 9 w' w.heap.size (fun _ => True) v0_ r1 ∧ Kd.R k42 42 w' w.heap.size (fun _ => True) v1_ r2 ∧ Below w.heap.size w w' := by
 have hu30 := Try.underlying30; have hu42 := Try.underlying42; have HR0_0 := aM hr0_0; have HC0_0 := aM hc0_0; clear hr0_0 hc0_0; have HR0_1 := aM hr0_1; have HC0_1 := aM hc0_1; clear hr0_1 hc0_1; have HB := aM (Below.refl w.heap.size w)
 have H : ((slices_Clone_string_string.f l0_0).bind fun t146 => ((impl_Write.f l0_1).bind fun t149 => ((some (([(⟨a1_0, a1_1⟩ : S42)] : List (S42)) : List (S42))).bind fun y152 => (if t149.length + y152.length < 5864062014805 then ((some (t149 ++ y152 : List (S42))).bind fun y155 => ((impl_GoodDevice.f l0_0 l0_1).bind fun t159 => (if t159 = true then ((impl_GoodDevice.f t146 y155).bind fun t160 => (if t160 = true then (some (t146, y155, true)) else (some (([] : List ByteArray), ([] : List (S42)), false)))) else (some (([] : List ByteArray), ([] : List (S42)), false))))) else (none))))) = some (r1, r2, r3) := h
 clear h; replace H := Option.bind_eq_some_iff.mp H; obtain ⟨t146, A30, H⟩ := H
 replace H : ((impl_Write.f l0_1).bind fun t149 => ((some (([(⟨a1_0, a1_1⟩ : S42)] : List (S42)) : List (S42))).bind fun y152 => (if t149.length + y152.length < 5864062014805 then ((some (t149 ++ y152 : List (S42))).bind fun y155 => ((impl_GoodDevice.f l0_0 l0_1).bind fun t159 => (if t159 = true then ((impl_GoodDevice.f t146 y155).bind fun t160 => (if t160 = true then (some (t146, y155, true)) else (some (([] : List ByteArray), ([] : List (S42)), false)))) else (some (([] : List ByteArray), ([] : List (S42)), false))))) else (none)))) = some (r1, r2, r3) := H
 have A3 := aM A30; clear A30; replace H := Option.bind_eq_some_iff.mp H; obtain ⟨t149, A40, H⟩ := H
 replace H : ((some (([(⟨a1_0, a1_1⟩ : S42)] : List (S42)) : List (S42))).bind fun y152 => (if t149.length + y152.length < 5864062014805 then ((some (t149 ++ y152 : List (S42))).bind fun y155 => ((impl_GoodDevice.f l0_0 l0_1).bind fun t159 => (if t159 = true then ((impl_GoodDevice.f t146 y155).bind fun t160 => (if t160 = true then (some (t146, y155, true)) else (some (([] : List ByteArray), ([] : List (S42)), false)))) else (some (([] : List ByteArray), ([] : List (S42)), false))))) else (none))) = some (r1, r2, r3) := H
 have A4 := aM A40; clear A40; obtain ⟨y152, hy152⟩ : ∃ y_ : List (S42), y_ = (([(⟨a1_0, a1_1⟩ : S42)] : List (S42))) := ⟨_, rfl⟩
 replace H : (if t149.length + y152.length < 5864062014805 then ((some (t149 ++ y152 : List (S42))).bind fun y155 => ((impl_GoodDevice.f l0_0 l0_1).bind fun t159 => (if t159 = true then ((impl_GoodDevice.f t146 y155).bind fun t160 => (if t160 = true then (some (t146, y155, true)) else (some (([] : List ByteArray), ([] : List (S42)), false)))) else (some (([] : List ByteArray), ([] : List (S42)), false))))) else (none)) = some (r1, r2, r3) := by first | (rw [hy152]; with_reducible exact H) | (have H2_ := (Option.bind_some _ _).symm.trans H; rw [hy152]; with_reducible exact H2_) | (have H2_ := (Option.bind_some _ _).symm.trans H; with_reducible exact H2_) | with_reducible exact H | (rw [hy152]; exact H) | exact H
 have Ny152 := aM hy152; clear hy152
 by_cases c5 : t149.length + y152.length < 5864062014805
 ·rw [if_pos c5] at H
  have LMc5 := aM c5; clear c5; obtain ⟨y155, hy155⟩ : ∃ y_ : List (S42), y_ = (t149 ++ y152) := ⟨_, rfl⟩
  replace H : ((impl_GoodDevice.f l0_0 l0_1).bind fun t159 => (if t159 = true then ((impl_GoodDevice.f t146 y155).bind fun t160 => (if t160 = true then (some (t146, y155, true)) else (some (([] : List ByteArray), ([] : List (S42)), false)))) else (some (([] : List ByteArray), ([] : List (S42)), false)))) = some (r1, r2, r3) := by first | (rw [hy155]; with_reducible exact H) | (have H2_ := (Option.bind_some _ _).symm.trans H; rw [hy155]; with_reducible exact H2_) | (have H2_ := (Option.bind_some _ _).symm.trans H; with_reducible exact H2_) | with_reducible exact H | (rw [hy155]; exact H) | exact H
  have Ny155 := aM hy155; clear hy155; replace H := Option.bind_eq_some_iff.mp H; obtain ⟨t159, A60, H⟩ := H
  replace H : (if t159 = true then ((impl_GoodDevice.f t146 y155).bind fun t160 => (if t160 = true then (some (t146, y155, true)) else (some (([] : List ByteArray), ([] : List (S42)), false)))) else (some (([] : List ByteArray), ([] : List (S42)), false))) = some (r1, r2, r3) := H
  have A6 := aM A60; clear A60
  by_cases c7 : t159 = true
  ·subst c7
   have H1 : ((impl_GoodDevice.f t146 y155).bind fun t160 => (if t160 = true then (some (t146, y155, true)) else (some (([] : List ByteArray), ([] : List (S42)), false)))) = some (r1, r2, r3) := by rw [if_pos rfl] at H; exact H
   clear H; have H := H1; clear H1; replace H := Option.bind_eq_some_iff.mp H; obtain ⟨t160, A80, H⟩ := H; replace H : (if t160 = true then (some (t146, y155, true)) else (some (([] : List ByteArray), ([] : List (S42)), false))) = some (r1, r2, r3) := H; have A8 := aM A80; clear A80
   by_cases c9 : t160 = true
   ·subst c9
    have H1 : (some (t146, y155, true)) = some (r1, r2, r3) := by rw [if_pos rfl] at H; exact H
    clear H; have H := H1; clear H1
    simp only [Option.some.injEq, Prod.mk.injEq] at H
    obtain ⟨rfl, rfl, rfl⟩ := H
    go_enter Try.func25, Try.ntmps25
    try go_wp2_with (first | ((with_reducible refine gate_dst (N := 2) rfl ?_); refine box_event ?hg (N := 2) ?hd (cs := #[.slice A0_0 l0_0.length c0_0, .slice A0_1 l0_1.length c0_1]) (t := 30) ?hr ?_; (case hd => rfl); (case hg => rfl); (case hr => first | (go_simp; done) | (go_simp; rfl)); intro gb143 hg w10 hbox hb; have BK143 := aM (hbox); have GW143 := aM ((by rw [hg]; exact (zZ (zH HB.out)) : w.heap.size ≤ gb143)); have GE143 := aM ((by rw [hg]; exact (zZ (zH HB.out)) : w.heap.size ≤ gb143)); replace HB := aM (zT (zH HB.out) hb); clear hb hbox hg) | ((with_reducible refine gate_dst (N := 3) rfl ?_); refine box_event ?hg (N := 3) ?hd (cs := #[.int .i64 a1_0, .string a1_1]) (t := 42) ?hr ?_; (case hd => rfl); (case hg => rfl); (case hr => first | (go_simp; done) | (go_simp; rfl)); intro gb144 hg w11 hbox hb; have BK144 := aM (hbox); have GW144 := aM ((by rw [hg]; exact (zZ (zH HB.out)) : w.heap.size ≤ gb144)); have GE144 := aM ((by rw [hg]; exact (zZ (zH HB.out)) : w.heap.size ≤ gb144)); replace HB := aM (zT (zH HB.out) hb); have NB143_144 := nL BK143.out hg; have NB144_143 := nR BK143.out hg; replace BK143 := yK BK143.out hb; clear hb hbox hg) | ((with_reducible refine gate_dst (N := 4) rfl ?_); refine box_event ?hg (N := 4) ?hd (cs := #[.slice none 0 0, .slice none 0 0]) (t := 30) ?hr ?_; (case hd => rfl); (case hg => rfl); (case hr => first | (go_simp; done) | (go_simp; rfl)); intro gb145 hg w12 hbox hb; have BK145 := aM (hbox); have GW145 := aM ((by rw [hg]; exact (zZ (zH HB.out)) : w.heap.size ≤ gb145)); have GE145 := aM ((by rw [hg]; exact (zZ (zH HB.out)) : w.heap.size ≤ gb145)); replace HB := aM (zT (zH HB.out) hb); have NB143_145 := nL BK143.out hg; have NB145_143 := nR BK143.out hg; replace BK143 := yK BK143.out hb; have NB144_145 := nL BK144.out hg; have NB145_144 := nR BK144.out hg; replace BK144 := yK BK144.out hb; clear hb hbox hg))
    replace BK143 := aM (yD BK143.out); replace BK144 := aM (yD BK144.out); replace BK145 := aM (yD BK145.out); replace HB := aM (zD HB.out)
    refine start_ (n := 12) (S := fun w' => w'.cell? ⟨gb143, 0, none⟩ = some (.slice A0_0 l0_0.length c0_0) ∧ w'.cell? ⟨gb143, 1, none⟩ = some (.slice A0_1 l0_1.length c0_1) ∧ w'.cell? ⟨gb144, 0, none⟩ = some (.int .i64 a1_0) ∧ w'.cell? ⟨gb144, 1, none⟩ = some (.string a1_1)) (ds := []) #[fF,fF,fF,fF,fF,fF,fF,fF,fF,fF,fF,fF] (by kernel_rfl) rfl rfl ⟨yc BK143.out 0, yc BK143.out 1, yc BK144.out 0, yc BK144.out 1⟩ (fun hHeld => ?_); refine with_tabW impl_WriteSector.tab1 impl_WriteSector.bits1 (fun HT_ HW_ => ?_)
    generalize w12.drew = w13 at BK143 BK144 BK145 HB hHeld ⊢
    refine pure_ (i := 0) (N := some 7) (v := ?_) (a' := ?_) #[tT,fF,fF,fF,fF,fF,fF,fF,fF,fF,fF,fF] rfl rfl (any_of HT_.out (by kernel_rfl)) (fun _ _ _ h => h) (Or.inl ⟨by rfl, ?_⟩) ?_ ?_
    rotate_left
    ·intro w'
     go_simp
     with_reducible rfl
    rotate_left
    ·simp only [Act.put, qA, qB, qC, i64_w, i32_w]
     rfl
    refine pure_ (i := 3) (N := some 10) (v := ?_) (a' := ?_) #[tT,fF,fF,tT,fF,fF,fF,fF,fF,fF,fF,fF] rfl rfl (any_of HT_.out (by kernel_rfl)) (fun _ _ _ h => h) (Or.inl ⟨by rfl, ?_⟩) ?_ ?_
    rotate_left
    ·intro w'
     go_simp
     with_reducible rfl
    rotate_left
    ·simp only [Act.put, qA, qB, qC, i64_w, i32_w]
     rfl
    refine take_ (i := 1) (N := some 8) (v := ?_) (a' := ?_) #[tT,tT,fF,tT,fF,fF,fF,fF,fF,fF,fF,fF] rfl rfl (take_ofW HT_.out HW_.out (by kernel_rfl)) (fun _ _ _ h => h) (Or.inl ⟨by rfl, ?_⟩) hHeld ?_ ?_
    rotate_left
    ·rintro w' ⟨s0, s1, s2, s3⟩
     go_simp
     with_reducible rfl
    rotate_left
    ·simp only [Act.put, qA, qB, qC, i64_w, i32_w]
     rfl
    refine take_ (i := 4) (N := some 11) (v := ?_) (a' := ?_) #[tT,tT,fF,tT,tT,fF,fF,fF,fF,fF,fF,fF] rfl rfl (take_ofW HT_.out HW_.out (by kernel_rfl)) (fun _ _ _ h => h) (Or.inl ⟨by rfl, ?_⟩) hHeld ?_ ?_
    rotate_left
    ·rintro w' ⟨s0, s1, s2, s3⟩
     go_simp
     with_reducible rfl
    rotate_left
    ·simp only [Act.put, qA, qB, qC, i64_w, i32_w]
     rfl
    refine take_ (i := 6) (N := some 13) (v := ?_) (a' := ?_) #[tT,tT,fF,tT,tT,fF,tT,fF,fF,fF,fF,fF] rfl rfl (take_ofW HT_.out HW_.out (by kernel_rfl)) (fun _ _ _ h => h) (Or.inl ⟨by rfl, ?_⟩) hHeld ?_ ?_
    rotate_left
    ·rintro w' ⟨s0, s1, s2, s3⟩
     go_simp
     with_reducible rfl
    rotate_left
    ·simp only [Act.put, qA, qB, qC, i64_w, i32_w]
     rfl
    refine join_ (σ := Value × Value × Value × Value × Nat) 1 #[tT,tT,tT,tT,tT,tT,tT,tT,tT,tT,tT,fF] (fun s_ => [(9, s_.1), (12, s_.2.1), (14, s_.2.2.1), (15, s_.2.2.2.1), (6, .pointer (some ⟨s_.2.2.2.2, 0, none⟩)), (16, .agg #[s_.1, s_.2.2.2.1])]) (fun s_ w' => (w'.cell? ⟨gb143, 0, none⟩ = some (.slice A0_0 l0_0.length c0_0) ∧ w'.cell? ⟨gb143, 1, none⟩ = some (.slice A0_1 l0_1.length c0_1) ∧ w'.cell? ⟨gb144, 0, none⟩ = some (.int .i64 a1_0) ∧ w'.cell? ⟨gb144, 1, none⟩ = some (.string a1_1)) ∧ (Kd.R Kd.string 9 w' w.heap.size (fun _ => True) s_.1 t146) ∧ (Kd.R k42 42 w' w.heap.size (fun k_ => some k_ ≠ (s_.2.2.2.1 : Value).ownBlock ∧ k_ ≠ gb144) s_.2.2.1 y152) ∧ (Kd.R k42 42 w' w.heap.size (fun k_ => some k_ ≠ (s_.2.2.1 : Value).ownBlock ∧ k_ ≠ gb144) s_.2.2.2.1 y155) ∧ (w'.heap[gb143]? = some (.cells #[.slice A0_0 l0_0.length c0_0, .slice A0_1 l0_1.length c0_1] 30 (0, 0))) ∧ (w'.heap[gb144]? = some (.cells #[.int .i64 a1_0, .string a1_1] 42 (0, 0))) ∧ (w'.heap[gb145]? = some (.cells #[.slice none 0 0, .slice none 0 0] 30 (0, 0))) ∧ (w'.heap[s_.2.2.2.2]? = some (.cells #[.slice none 0 0, .slice none 0 0] 30 (0, 0))) ∧ (w.heap.size ≤ s_.2.2.2.2) ∧ (w.heap.size ≤ s_.2.2.2.2) ∧ (gb143 ≠ s_.2.2.2.2) ∧ (s_.2.2.2.2 ≠ gb143) ∧ (gb144 ≠ s_.2.2.2.2) ∧ (s_.2.2.2.2 ≠ gb144) ∧ (gb145 ≠ s_.2.2.2.2) ∧ (s_.2.2.2.2 ≠ gb145) ∧ (Below w.heap.size w w')) ?_ ?_
    rotate_left
    ·intro hJ2_5_7_8_10
     refine join_ (σ := Value × Value × Value × Value) 2 #[tT,tT,tT,tT,tT,tT,tT,tT,tT,tT,fF,fF] (fun s_ => [(9, s_.1), (12, s_.2.1), (14, s_.2.2.1), (15, s_.2.2.2), (16, .agg #[s_.1, s_.2.2.2])]) (fun s_ w' => (w'.cell? ⟨gb143, 0, none⟩ = some (.slice A0_0 l0_0.length c0_0) ∧ w'.cell? ⟨gb143, 1, none⟩ = some (.slice A0_1 l0_1.length c0_1) ∧ w'.cell? ⟨gb144, 0, none⟩ = some (.int .i64 a1_0) ∧ w'.cell? ⟨gb144, 1, none⟩ = some (.string a1_1)) ∧ (Kd.R Kd.string 9 w' w.heap.size (fun _ => True) s_.1 t146) ∧ (Kd.R k42 42 w' w.heap.size (fun k_ => some k_ ≠ (s_.2.2.2 : Value).ownBlock ∧ k_ ≠ gb144) s_.2.2.1 y152) ∧ (Kd.R k42 42 w' w.heap.size (fun k_ => some k_ ≠ (s_.2.2.1 : Value).ownBlock ∧ k_ ≠ gb144) s_.2.2.2 y155) ∧ (w'.heap[gb143]? = some (.cells #[.slice A0_0 l0_0.length c0_0, .slice A0_1 l0_1.length c0_1] 30 (0, 0))) ∧ (w'.heap[gb144]? = some (.cells #[.int .i64 a1_0, .string a1_1] 42 (0, 0))) ∧ (w'.heap[gb145]? = some (.cells #[.slice none 0 0, .slice none 0 0] 30 (0, 0))) ∧ (Below w.heap.size w w')) ?_ ?_
     rotate_left
     ·intro hJ2_5_7_8
      refine join_ (σ := Value × Value × Value × Nat) 3 #[tT,tT,tT,tT,tT,tT,tT,tT,fF,fF,tT,fF] (fun s_ => [(9, s_.1), (12, s_.2.1), (14, s_.2.2.1), (6, .pointer (some ⟨s_.2.2.2, 0, none⟩))]) (fun s_ w' => (w'.cell? ⟨gb143, 0, none⟩ = some (.slice A0_0 l0_0.length c0_0) ∧ w'.cell? ⟨gb143, 1, none⟩ = some (.slice A0_1 l0_1.length c0_1) ∧ w'.cell? ⟨gb144, 0, none⟩ = some (.int .i64 a1_0) ∧ w'.cell? ⟨gb144, 1, none⟩ = some (.string a1_1)) ∧ (Kd.R Kd.string 9 w' w.heap.size (fun _ => True) s_.1 t146) ∧ (Kd.R k42 42 w' w.heap.size (fun k_ => some k_ ≠ (s_.2.2.1 : Value).ownBlock ∧ k_ ≠ gb144) s_.2.1 t149) ∧ (Kd.R k42 42 w' w.heap.size (fun k_ => some k_ ≠ (s_.2.1 : Value).ownBlock ∧ k_ ≠ gb144) s_.2.2.1 y152) ∧ (w'.heap[gb143]? = some (.cells #[.slice A0_0 l0_0.length c0_0, .slice A0_1 l0_1.length c0_1] 30 (0, 0))) ∧ (w'.heap[gb144]? = some (.cells #[.int .i64 a1_0, .string a1_1] 42 (0, 0))) ∧ (w'.heap[gb145]? = some (.cells #[.slice none 0 0, .slice none 0 0] 30 (0, 0))) ∧ (w'.heap[s_.2.2.2]? = some (.cells #[.slice none 0 0, .slice none 0 0] 30 (0, 0))) ∧ (w.heap.size ≤ s_.2.2.2) ∧ (w.heap.size ≤ s_.2.2.2) ∧ (gb143 ≠ s_.2.2.2) ∧ (s_.2.2.2 ≠ gb143) ∧ (gb144 ≠ s_.2.2.2) ∧ (s_.2.2.2 ≠ gb144) ∧ (gb145 ≠ s_.2.2.2) ∧ (s_.2.2.2 ≠ gb145) ∧ (Below w.heap.size w w')) ?_ ?_
      rotate_left
      ·intro hJ2_5_7_10
       refine join_ (σ := Value × Value × Value) 4 #[tT,tT,tT,tT,tT,tT,tT,tT,fF,fF,fF,fF] (fun s_ => [(9, s_.1), (12, s_.2.1), (14, s_.2.2)]) (fun s_ w' => (w'.cell? ⟨gb143, 0, none⟩ = some (.slice A0_0 l0_0.length c0_0) ∧ w'.cell? ⟨gb143, 1, none⟩ = some (.slice A0_1 l0_1.length c0_1) ∧ w'.cell? ⟨gb144, 0, none⟩ = some (.int .i64 a1_0) ∧ w'.cell? ⟨gb144, 1, none⟩ = some (.string a1_1)) ∧ (Kd.R Kd.string 9 w' w.heap.size (fun _ => True) s_.1 t146) ∧ (Kd.R k42 42 w' w.heap.size (fun k_ => some k_ ≠ (s_.2.2 : Value).ownBlock ∧ k_ ≠ gb144) s_.2.1 t149) ∧ (Kd.R k42 42 w' w.heap.size (fun k_ => some k_ ≠ (s_.2.1 : Value).ownBlock ∧ k_ ≠ gb144) s_.2.2 y152) ∧ (w'.heap[gb143]? = some (.cells #[.slice A0_0 l0_0.length c0_0, .slice A0_1 l0_1.length c0_1] 30 (0, 0))) ∧ (w'.heap[gb144]? = some (.cells #[.int .i64 a1_0, .string a1_1] 42 (0, 0))) ∧ (w'.heap[gb145]? = some (.cells #[.slice none 0 0, .slice none 0 0] 30 (0, 0))) ∧ (Below w.heap.size w w')) ?_ ?_
       rotate_left
       ·intro hJ2_5_7
        refine join_ (σ := Value × Value × Nat) 4 #[tT,tT,tT,tT,tT,tT,tT,fF,fF,fF,tT,fF] (fun s_ => [(9, s_.1), (12, s_.2.1), (6, .pointer (some ⟨s_.2.2, 0, none⟩))]) (fun s_ w' => (w'.cell? ⟨gb143, 0, none⟩ = some (.slice A0_0 l0_0.length c0_0) ∧ w'.cell? ⟨gb143, 1, none⟩ = some (.slice A0_1 l0_1.length c0_1) ∧ w'.cell? ⟨gb144, 0, none⟩ = some (.int .i64 a1_0) ∧ w'.cell? ⟨gb144, 1, none⟩ = some (.string a1_1)) ∧ (Kd.R Kd.string 9 w' w.heap.size (fun _ => True) s_.1 t146) ∧ (Kd.R k42 42 w' w.heap.size (fun k_ => k_ ≠ gb144) s_.2.1 t149) ∧ (w'.heap[gb143]? = some (.cells #[.slice A0_0 l0_0.length c0_0, .slice A0_1 l0_1.length c0_1] 30 (0, 0))) ∧ (w'.heap[gb144]? = some (.cells #[.int .i64 a1_0, .string a1_1] 42 (0, 0))) ∧ (w'.heap[gb145]? = some (.cells #[.slice none 0 0, .slice none 0 0] 30 (0, 0))) ∧ (w'.heap[s_.2.2]? = some (.cells #[.slice none 0 0, .slice none 0 0] 30 (0, 0))) ∧ (w.heap.size ≤ s_.2.2) ∧ (w.heap.size ≤ s_.2.2) ∧ (gb143 ≠ s_.2.2) ∧ (s_.2.2 ≠ gb143) ∧ (gb144 ≠ s_.2.2) ∧ (s_.2.2 ≠ gb144) ∧ (gb145 ≠ s_.2.2) ∧ (s_.2.2 ≠ gb145) ∧ (Below w.heap.size w w')) ?_ ?_
        rotate_left
        ·intro hJ2_5_10
         refine join_ (σ := Value × Value × Nat) 4 #[tT,tT,tT,tT,tT,fF,tT,tT,fF,fF,tT,fF] (fun s_ => [(9, s_.1), (14, s_.2.1), (6, .pointer (some ⟨s_.2.2, 0, none⟩))]) (fun s_ w' => (w'.cell? ⟨gb143, 0, none⟩ = some (.slice A0_0 l0_0.length c0_0) ∧ w'.cell? ⟨gb143, 1, none⟩ = some (.slice A0_1 l0_1.length c0_1) ∧ w'.cell? ⟨gb144, 0, none⟩ = some (.int .i64 a1_0) ∧ w'.cell? ⟨gb144, 1, none⟩ = some (.string a1_1)) ∧ (Kd.R Kd.string 9 w' w.heap.size (fun _ => True) s_.1 t146) ∧ (Kd.R k42 42 w' w.heap.size (fun k_ => k_ ≠ gb144) s_.2.1 y152) ∧ (w'.heap[gb143]? = some (.cells #[.slice A0_0 l0_0.length c0_0, .slice A0_1 l0_1.length c0_1] 30 (0, 0))) ∧ (w'.heap[gb144]? = some (.cells #[.int .i64 a1_0, .string a1_1] 42 (0, 0))) ∧ (w'.heap[gb145]? = some (.cells #[.slice none 0 0, .slice none 0 0] 30 (0, 0))) ∧ (w'.heap[s_.2.2]? = some (.cells #[.slice none 0 0, .slice none 0 0] 30 (0, 0))) ∧ (w.heap.size ≤ s_.2.2) ∧ (w.heap.size ≤ s_.2.2) ∧ (gb143 ≠ s_.2.2) ∧ (s_.2.2 ≠ gb143) ∧ (gb144 ≠ s_.2.2) ∧ (s_.2.2 ≠ gb144) ∧ (gb145 ≠ s_.2.2) ∧ (s_.2.2 ≠ gb145) ∧ (Below w.heap.size w w')) ?_ ?_
         rotate_left
         ·intro hJ2_7_10
          refine join_ (σ := Value × Value) 5 #[tT,tT,tT,tT,tT,tT,tT,fF,fF,fF,fF,fF] (fun s_ => [(9, s_.1), (12, s_.2)]) (fun s_ w' => (w'.cell? ⟨gb143, 0, none⟩ = some (.slice A0_0 l0_0.length c0_0) ∧ w'.cell? ⟨gb143, 1, none⟩ = some (.slice A0_1 l0_1.length c0_1) ∧ w'.cell? ⟨gb144, 0, none⟩ = some (.int .i64 a1_0) ∧ w'.cell? ⟨gb144, 1, none⟩ = some (.string a1_1)) ∧ (Kd.R Kd.string 9 w' w.heap.size (fun _ => True) s_.1 t146) ∧ (Kd.R k42 42 w' w.heap.size (fun k_ => k_ ≠ gb144) s_.2 t149) ∧ (w'.heap[gb143]? = some (.cells #[.slice A0_0 l0_0.length c0_0, .slice A0_1 l0_1.length c0_1] 30 (0, 0))) ∧ (w'.heap[gb144]? = some (.cells #[.int .i64 a1_0, .string a1_1] 42 (0, 0))) ∧ (w'.heap[gb145]? = some (.cells #[.slice none 0 0, .slice none 0 0] 30 (0, 0))) ∧ (Below w.heap.size w w')) ?_ ?_
          rotate_left
          ·intro hJ2_5
           refine join_ (σ := Value × Value) 5 #[tT,tT,tT,tT,tT,fF,tT,tT,fF,fF,fF,fF] (fun s_ => [(9, s_.1), (14, s_.2)]) (fun s_ w' => (w'.cell? ⟨gb143, 0, none⟩ = some (.slice A0_0 l0_0.length c0_0) ∧ w'.cell? ⟨gb143, 1, none⟩ = some (.slice A0_1 l0_1.length c0_1) ∧ w'.cell? ⟨gb144, 0, none⟩ = some (.int .i64 a1_0) ∧ w'.cell? ⟨gb144, 1, none⟩ = some (.string a1_1)) ∧ (Kd.R Kd.string 9 w' w.heap.size (fun _ => True) s_.1 t146) ∧ (Kd.R k42 42 w' w.heap.size (fun k_ => k_ ≠ gb144) s_.2 y152) ∧ (w'.heap[gb143]? = some (.cells #[.slice A0_0 l0_0.length c0_0, .slice A0_1 l0_1.length c0_1] 30 (0, 0))) ∧ (w'.heap[gb144]? = some (.cells #[.int .i64 a1_0, .string a1_1] 42 (0, 0))) ∧ (w'.heap[gb145]? = some (.cells #[.slice none 0 0, .slice none 0 0] 30 (0, 0))) ∧ (Below w.heap.size w w')) ?_ ?_
           rotate_left
           ·intro hJ2_7
            refine join_ (σ := Value × Nat) 5 #[tT,tT,tT,tT,tT,fF,tT,fF,fF,fF,tT,fF] (fun s_ => [(9, s_.1), (6, .pointer (some ⟨s_.2, 0, none⟩))]) (fun s_ w' => (w'.cell? ⟨gb143, 0, none⟩ = some (.slice A0_0 l0_0.length c0_0) ∧ w'.cell? ⟨gb143, 1, none⟩ = some (.slice A0_1 l0_1.length c0_1) ∧ w'.cell? ⟨gb144, 0, none⟩ = some (.int .i64 a1_0) ∧ w'.cell? ⟨gb144, 1, none⟩ = some (.string a1_1)) ∧ (Kd.R Kd.string 9 w' w.heap.size (fun _ => True) s_.1 t146) ∧ (w'.heap[gb143]? = some (.cells #[.slice A0_0 l0_0.length c0_0, .slice A0_1 l0_1.length c0_1] 30 (0, 0))) ∧ (w'.heap[gb144]? = some (.cells #[.int .i64 a1_0, .string a1_1] 42 (0, 0))) ∧ (w'.heap[gb145]? = some (.cells #[.slice none 0 0, .slice none 0 0] 30 (0, 0))) ∧ (w'.heap[s_.2]? = some (.cells #[.slice none 0 0, .slice none 0 0] 30 (0, 0))) ∧ (w.heap.size ≤ s_.2) ∧ (w.heap.size ≤ s_.2) ∧ (gb143 ≠ s_.2) ∧ (s_.2 ≠ gb143) ∧ (gb144 ≠ s_.2) ∧ (s_.2 ≠ gb144) ∧ (gb145 ≠ s_.2) ∧ (s_.2 ≠ gb145) ∧ (Below w.heap.size w w')) ?_ ?_
            rotate_left
            ·intro hJ2_10
             refine join_ (σ := Value × Nat) 5 #[tT,tT,fF,tT,tT,fF,tT,tT,fF,fF,tT,fF] (fun s_ => [(14, s_.1), (6, .pointer (some ⟨s_.2, 0, none⟩))]) (fun s_ w' => (w'.cell? ⟨gb143, 0, none⟩ = some (.slice A0_0 l0_0.length c0_0) ∧ w'.cell? ⟨gb143, 1, none⟩ = some (.slice A0_1 l0_1.length c0_1) ∧ w'.cell? ⟨gb144, 0, none⟩ = some (.int .i64 a1_0) ∧ w'.cell? ⟨gb144, 1, none⟩ = some (.string a1_1)) ∧ (Kd.R k42 42 w' w.heap.size (fun k_ => k_ ≠ gb144) s_.1 y152) ∧ (w'.heap[gb143]? = some (.cells #[.slice A0_0 l0_0.length c0_0, .slice A0_1 l0_1.length c0_1] 30 (0, 0))) ∧ (w'.heap[gb144]? = some (.cells #[.int .i64 a1_0, .string a1_1] 42 (0, 0))) ∧ (w'.heap[gb145]? = some (.cells #[.slice none 0 0, .slice none 0 0] 30 (0, 0))) ∧ (w'.heap[s_.2]? = some (.cells #[.slice none 0 0, .slice none 0 0] 30 (0, 0))) ∧ (w.heap.size ≤ s_.2) ∧ (w.heap.size ≤ s_.2) ∧ (gb143 ≠ s_.2) ∧ (s_.2 ≠ gb143) ∧ (gb144 ≠ s_.2) ∧ (s_.2 ≠ gb144) ∧ (gb145 ≠ s_.2) ∧ (s_.2 ≠ gb145) ∧ (Below w.heap.size w w')) ?_ ?_
             rotate_left
             ·intro hJ7_10
              refine join_ (σ := Value) 6 #[tT,tT,tT,tT,tT,fF,tT,fF,fF,fF,fF,fF] (fun s_ => [(9, s_)]) (fun s_ w' => (w'.cell? ⟨gb143, 0, none⟩ = some (.slice A0_0 l0_0.length c0_0) ∧ w'.cell? ⟨gb143, 1, none⟩ = some (.slice A0_1 l0_1.length c0_1) ∧ w'.cell? ⟨gb144, 0, none⟩ = some (.int .i64 a1_0) ∧ w'.cell? ⟨gb144, 1, none⟩ = some (.string a1_1)) ∧ (Kd.R Kd.string 9 w' w.heap.size (fun _ => True) s_ t146) ∧ (w'.heap[gb143]? = some (.cells #[.slice A0_0 l0_0.length c0_0, .slice A0_1 l0_1.length c0_1] 30 (0, 0))) ∧ (w'.heap[gb144]? = some (.cells #[.int .i64 a1_0, .string a1_1] 42 (0, 0))) ∧ (w'.heap[gb145]? = some (.cells #[.slice none 0 0, .slice none 0 0] 30 (0, 0))) ∧ (Below w.heap.size w w')) ?_ ?_
              rotate_left
              ·intro hJ2
               refine join_ (σ := Value) 6 #[tT,tT,fF,tT,tT,fF,tT,tT,fF,fF,fF,fF] (fun s_ => [(14, s_)]) (fun s_ w' => (w'.cell? ⟨gb143, 0, none⟩ = some (.slice A0_0 l0_0.length c0_0) ∧ w'.cell? ⟨gb143, 1, none⟩ = some (.slice A0_1 l0_1.length c0_1) ∧ w'.cell? ⟨gb144, 0, none⟩ = some (.int .i64 a1_0) ∧ w'.cell? ⟨gb144, 1, none⟩ = some (.string a1_1)) ∧ (Kd.R k42 42 w' w.heap.size (fun k_ => k_ ≠ gb144) s_ y152) ∧ (w'.heap[gb143]? = some (.cells #[.slice A0_0 l0_0.length c0_0, .slice A0_1 l0_1.length c0_1] 30 (0, 0))) ∧ (w'.heap[gb144]? = some (.cells #[.int .i64 a1_0, .string a1_1] 42 (0, 0))) ∧ (w'.heap[gb145]? = some (.cells #[.slice none 0 0, .slice none 0 0] 30 (0, 0))) ∧ (Below w.heap.size w w')) ?_ ?_
               rotate_left
               ·intro hJ7
                refine join_ (σ := Nat) 6 #[tT,tT,fF,tT,tT,fF,tT,fF,fF,fF,tT,fF] (fun s_ => [(6, .pointer (some ⟨s_, 0, none⟩))]) (fun s_ w' => (w'.cell? ⟨gb143, 0, none⟩ = some (.slice A0_0 l0_0.length c0_0) ∧ w'.cell? ⟨gb143, 1, none⟩ = some (.slice A0_1 l0_1.length c0_1) ∧ w'.cell? ⟨gb144, 0, none⟩ = some (.int .i64 a1_0) ∧ w'.cell? ⟨gb144, 1, none⟩ = some (.string a1_1)) ∧ (w'.heap[gb143]? = some (.cells #[.slice A0_0 l0_0.length c0_0, .slice A0_1 l0_1.length c0_1] 30 (0, 0))) ∧ (w'.heap[gb144]? = some (.cells #[.int .i64 a1_0, .string a1_1] 42 (0, 0))) ∧ (w'.heap[gb145]? = some (.cells #[.slice none 0 0, .slice none 0 0] 30 (0, 0))) ∧ (w'.heap[s_]? = some (.cells #[.slice none 0 0, .slice none 0 0] 30 (0, 0))) ∧ (w.heap.size ≤ s_) ∧ (w.heap.size ≤ s_) ∧ (gb143 ≠ s_) ∧ (s_ ≠ gb143) ∧ (gb144 ≠ s_) ∧ (s_ ≠ gb144) ∧ (gb145 ≠ s_) ∧ (s_ ≠ gb145) ∧ (Below w.heap.size w w')) ?_ ?_
                rotate_left
                ·intro hJ10
                 refine three_ (i := 2) (j := 7) (k := 10) (Ni := some 9) (Nj := some 14) (Nk := some 6) #[tT,tT,tT,tT,tT,fF,tT,fF,fF,fF,fF,fF] #[tT,tT,fF,tT,tT,fF,tT,tT,fF,fF,fF,fF] #[tT,tT,fF,tT,tT,fF,tT,fF,fF,fF,tT,fF] rfl rfl rfl rfl rfl rfl (three_of HT_.out (by kernel_rfl)) (by decide) (by decide) (by decide) (fun K hK => ?_) (fun K hK => ?_) (fun K hK => ?_)
                 ·skip
                  refine gS Try.func66 (by kernel_rfl) rfl #[.slice A0_0 l0_0.length c0_0] (by rfl) rfl rfl ?_
                  with_reducible refine (slices_Clone_string_string.calls _ _ l0_0 t146 _ ?side1 ?side2 A3.out).mono ?_
                  (case side1 => exact cK HR0_0.out HB.out)
                  (case side2 => exact HC0_0.out)
                  rintro e w14 ⟨v147, rfl, ho0, hb⟩
                  refine ⟨_, rfl, ?_⟩
                  have HO148 := aM (xL ho0 (zZ (zH HB.out))); replace BK143 := yK BK143.out hb; replace BK144 := yK BK144.out hb; replace BK145 := yK BK145.out hb; replace HB := aM (zT (zH HB.out) hb)
                  (try clear hb); (try clear ho0)
                  refine hK.out _ _ ⟨yc BK143.out 0, yc BK143.out 1, yc BK144.out 0, yc BK144.out 1⟩ (fun hHeld => ?_)
                  clear hK K; refine norm_ (a' := ?_) ?_ ?_; rotate_left
                  ·show Act.put _ (some 9) _ = _
                   simp only [Act.put, qA, qB, qC, i64_w, i32_w]
                   rfl
                  exact norm_ (by first | (simp only [putAll, Act.put, qA, qB, qC]; done) | (simp only [putAll, Act.put, qA, qB, qC]; rfl)) (hJ2 (v147) _ ⟨hHeld, (xH HO148.out), (yH BK143.out), (yH BK144.out), (yH BK145.out), (zH HB.out)⟩)
                 ·skip
                  refine Kd.R_lit_step k42 _ 42 ?hg (N := 14) ?hd (xs := ([(⟨a1_0, a1_1⟩ : S42)] : List (S42))) (inner := [.int .i64 a1_0, .string a1_1]) (ok := fun _ => True) (okp := fun _ => True) ?hr ?hp (fun _ hk => hk) trivial (Below.refl _ _) (Nat.le_refl _) (by simp) ?_; (case hd => rfl); (case hg => rfl); (case hr => first | (go_simp; done) | (go_simp; rfl)); (case hp => exact (Reps.c2 (show Kd.M k42 _ _ _ (⟨a1_0, a1_1⟩ : S42) [.int .i64 a1_0, .string a1_1] from (k42_mkM _ _ _ (⟨a1_0, a1_1⟩ : S42) )) (Reps.none _ _)))
                  intro v153 w14 ho15 hb hg_ hnew_
                  clear hg_ hnew_
                  (first | rw [← Ny152.out] at ho15 | (simp only [Int.reduceToNat] at ho15; rw [← Ny152.out] at ho15))
                  have HO154 := aM (xL (Kd.R_newB ho15 (g := gb144) (o := .cells #[.int .i64 a1_0, .string a1_1] 42 (0, 0)) (yH BK144.out)) (zZ (zH HB.out))); replace BK143 := yK BK143.out hb; replace BK144 := yK BK144.out hb; replace BK145 := yK BK145.out hb; replace HB := aM (zT (zH HB.out) hb); clear hb ho15
                  refine hK.out _ _ ⟨yc BK143.out 0, yc BK143.out 1, yc BK144.out 0, yc BK144.out 1⟩ (fun hHeld => ?_)
                  clear hK K; refine norm_ (a' := ?_) ?_ ?_; rotate_left
                  ·show Act.put _ (some 14) _ = _
                   simp only [Act.put, qA, qB, qC, i64_w, i32_w]
                   rfl
                  exact norm_ (by first | (simp only [putAll, Act.put, qA, qB, qC]; done) | (simp only [putAll, Act.put, qA, qB, qC]; rfl)) (hJ7 (v153) _ ⟨hHeld, (xH (xM HO154.out (fun _ hk => hk.2))), (yH BK143.out), (yH BK144.out), (yH BK145.out), (zH HB.out)⟩)
                 ·skip
                  refine box_step ?hg (N := 6) ?hd (cs := #[.slice none 0 0, .slice none 0 0]) (t := 30) ?hr ?_; (case hd => rfl); (case hg => rfl); (case hr => first | (go_simp; done) | (go_simp; rfl))
                  intro gb158 hg w14 hbox hb
                  have BK158 := aM (hbox)
                  have GW158 := aM ((by rw [hg]; exact (zZ (zH HB.out)) : w.heap.size ≤ gb158))
                  have GE158 := aM ((by rw [hg]; exact (zZ (zH HB.out)) : w.heap.size ≤ gb158))
                  replace HB := aM (zT (zH HB.out) hb); have NB143_158 := nL BK143.out hg; have NB158_143 := nR BK143.out hg; replace BK143 := yK BK143.out hb; have NB144_158 := nL BK144.out hg; have NB158_144 := nR BK144.out hg; replace BK144 := yK BK144.out hb; have NB145_158 := nL BK145.out hg; have NB158_145 := nR BK145.out hg; replace BK145 := yK BK145.out hb; clear hb hbox hg
                  refine hK.out _ _ ⟨yc BK143.out 0, yc BK143.out 1, yc BK144.out 0, yc BK144.out 1⟩ (fun hHeld => ?_)
                  clear hK K; refine norm_ (a' := ?_) ?_ ?_; rotate_left
                  ·show Act.put _ (some 6) _ = _
                   simp only [Act.put, qA, qB, qC, i64_w, i32_w]
                   rfl
                  exact norm_ (by first | (simp only [putAll, Act.put, qA, qB, qC]; done) | (simp only [putAll, Act.put, qA, qB, qC]; rfl)) (hJ10 (gb158) _ ⟨hHeld, (yH BK143.out), (yH BK144.out), (yH BK145.out), (yH BK158.out), GW158.out, GE158.out, NB143_158.out, NB158_143.out, NB144_158.out, NB158_144.out, NB145_158.out, NB158_145.out, (zH HB.out)⟩)
                ·skip
                 rintro gb158 w15 ⟨hS_, h0_, h1_, h2_, h3_, h4_, h5_, h6_, h7_, h8_, h9_, h10_, h11_, h12_⟩
                 (try dsimp only at h0_ h1_ h2_ h3_ h4_ h5_ h6_ h7_ h8_ h9_ h10_ h11_ h12_)
                 have n0_ := aM h0_; have n1_ := aM h1_; have n2_ := aM h2_; have n3_ := aM h3_; have n4_ := aM h4_; have n5_ := aM h5_; have n6_ := aM h6_; have n7_ := aM h7_; have n8_ := aM h8_; have n9_ := aM h9_; have n10_ := aM h10_; have n11_ := aM h11_; have n12_ := aM h12_; clear BK143 BK144 BK145 HB h0_ h1_ h2_ h3_ h4_ h5_ h6_ h7_ h8_ h9_ h10_ h11_ h12_; have BK143 := n0_; have BK144 := n1_; have BK145 := n2_; have BK158 := n3_; have GW158 := n4_; have GE158 := n5_; have NB143_158 := n6_; have NB158_143 := n7_; have NB144_158 := n8_; have NB158_144 := n9_; have NB145_158 := n10_; have NB158_145 := n11_; have HB := n12_; clear n0_ n1_ n2_ n3_ n4_ n5_ n6_ n7_ n8_ n9_ n10_ n11_ n12_; have hHeld : w15.cell? ⟨gb143, 0, none⟩ = some (.slice A0_0 l0_0.length c0_0) ∧ w15.cell? ⟨gb143, 1, none⟩ = some (.slice A0_1 l0_1.length c0_1) ∧ w15.cell? ⟨gb144, 0, none⟩ = some (.int .i64 a1_0) ∧ w15.cell? ⟨gb144, 1, none⟩ = some (.string a1_1) := hS_; refine norm_ (a' := ?_) ?_ ?_; rotate_left
                 ·simp only [putAll, Act.put, qA, qB, qC]
                  rfl
                 refine two_ (i := 2) (j := 7) (Ni := some 9) (Nj := some 14) #[tT,tT,tT,tT,tT,fF,tT,fF,fF,fF,tT,fF] #[tT,tT,fF,tT,tT,fF,tT,tT,fF,fF,tT,fF] rfl rfl rfl rfl (two_of HT_.out (by kernel_rfl)) (by decide) (by decide) (fun K hK => ?_) (fun K hK => ?_)
                 ·skip
                  refine gS Try.func66 (by kernel_rfl) rfl #[.slice A0_0 l0_0.length c0_0] (by rfl) rfl rfl ?_
                  with_reducible refine (slices_Clone_string_string.calls _ _ l0_0 t146 _ ?side1 ?side2 A3.out).mono ?_
                  (case side1 => exact cK HR0_0.out HB.out)
                  (case side2 => exact HC0_0.out)
                  rintro e w16 ⟨v147, rfl, ho0, hb⟩
                  refine ⟨_, rfl, ?_⟩
                  have HO148 := aM (xL ho0 (zZ (zH HB.out))); replace BK143 := yK BK143.out hb; replace BK144 := yK BK144.out hb; replace BK145 := yK BK145.out hb; replace BK158 := yK BK158.out hb; replace HB := aM (zT (zH HB.out) hb)
                  (try clear hb); (try clear ho0)
                  refine hK.out _ _ ⟨yc BK143.out 0, yc BK143.out 1, yc BK144.out 0, yc BK144.out 1⟩ (fun hHeld => ?_)
                  clear hK K; refine norm_ (a' := ?_) ?_ ?_; rotate_left
                  ·show Act.put _ (some 9) _ = _
                   simp only [Act.put, qA, qB, qC, i64_w, i32_w]
                   rfl
                  exact norm_ (by first | (simp only [putAll, Act.put, qA, qB, qC]; done) | (simp only [putAll, Act.put, qA, qB, qC]; rfl)) (hJ2_10 (v147, gb158) _ ⟨hHeld, (xH HO148.out), (yH BK143.out), (yH BK144.out), (yH BK145.out), (yH BK158.out), GW158.out, GE158.out, NB143_158.out, NB158_143.out, NB144_158.out, NB158_144.out, NB145_158.out, NB158_145.out, (zH HB.out)⟩)
                 ·skip
                  refine Kd.R_lit_step k42 _ 42 ?hg (N := 14) ?hd (xs := ([(⟨a1_0, a1_1⟩ : S42)] : List (S42))) (inner := [.int .i64 a1_0, .string a1_1]) (ok := fun _ => True) (okp := fun _ => True) ?hr ?hp (fun _ hk => hk) trivial (Below.refl _ _) (Nat.le_refl _) (by simp) ?_; (case hd => rfl); (case hg => rfl); (case hr => first | (go_simp; done) | (go_simp; rfl)); (case hp => exact (Reps.c2 (show Kd.M k42 _ _ _ (⟨a1_0, a1_1⟩ : S42) [.int .i64 a1_0, .string a1_1] from (k42_mkM _ _ _ (⟨a1_0, a1_1⟩ : S42) )) (Reps.none _ _)))
                  intro v153 w16 ho17 hb hg_ hnew_
                  clear hg_ hnew_
                  (first | rw [← Ny152.out] at ho17 | (simp only [Int.reduceToNat] at ho17; rw [← Ny152.out] at ho17))
                  have HO154 := aM (xL (Kd.R_newB ho17 (g := gb144) (o := .cells #[.int .i64 a1_0, .string a1_1] 42 (0, 0)) (yH BK144.out)) (zZ (zH HB.out))); replace BK143 := yK BK143.out hb; replace BK144 := yK BK144.out hb; replace BK145 := yK BK145.out hb; replace BK158 := yK BK158.out hb; replace HB := aM (zT (zH HB.out) hb); clear hb ho17
                  refine hK.out _ _ ⟨yc BK143.out 0, yc BK143.out 1, yc BK144.out 0, yc BK144.out 1⟩ (fun hHeld => ?_)
                  clear hK K; refine norm_ (a' := ?_) ?_ ?_; rotate_left
                  ·show Act.put _ (some 14) _ = _
                   simp only [Act.put, qA, qB, qC, i64_w, i32_w]
                   rfl
                  exact norm_ (by first | (simp only [putAll, Act.put, qA, qB, qC]; done) | (simp only [putAll, Act.put, qA, qB, qC]; rfl)) (hJ7_10 (v153, gb158) _ ⟨hHeld, (xH (xM HO154.out (fun _ hk => hk.2))), (yH BK143.out), (yH BK144.out), (yH BK145.out), (yH BK158.out), GW158.out, GE158.out, NB143_158.out, NB158_143.out, NB144_158.out, NB158_144.out, NB145_158.out, NB158_145.out, (zH HB.out)⟩)
               ·skip
                rintro v153 w16 ⟨hS_, h0_, h1_, h2_, h3_, h4_⟩
                (try dsimp only at h0_ h1_ h2_ h3_ h4_)
                have n0_ := aM h0_; have n1_ := aM h1_; have n2_ := aM h2_; have n3_ := aM h3_; have n4_ := aM h4_; clear BK143 BK144 BK145 HB h0_ h1_ h2_ h3_ h4_; have HO154 := n0_; have BK143 := n1_; have BK144 := n2_; have BK145 := n3_; have HB := n4_; clear n0_ n1_ n2_ n3_ n4_; have hHeld : w16.cell? ⟨gb143, 0, none⟩ = some (.slice A0_0 l0_0.length c0_0) ∧ w16.cell? ⟨gb143, 1, none⟩ = some (.slice A0_1 l0_1.length c0_1) ∧ w16.cell? ⟨gb144, 0, none⟩ = some (.int .i64 a1_0) ∧ w16.cell? ⟨gb144, 1, none⟩ = some (.string a1_1) := hS_; refine norm_ (a' := ?_) ?_ ?_; rotate_left
                ·simp only [putAll, Act.put, qA, qB, qC]
                 rfl
                refine two_ (i := 2) (j := 10) (Ni := some 9) (Nj := some 6) #[tT,tT,tT,tT,tT,fF,tT,tT,fF,fF,fF,fF] #[tT,tT,fF,tT,tT,fF,tT,tT,fF,fF,tT,fF] rfl rfl rfl rfl (two_of HT_.out (by kernel_rfl)) (by decide) (by decide) (fun K hK => ?_) (fun K hK => ?_)
                ·skip
                 refine gS Try.func66 (by kernel_rfl) rfl #[.slice A0_0 l0_0.length c0_0] (by rfl) rfl rfl ?_
                 with_reducible refine (slices_Clone_string_string.calls _ _ l0_0 t146 _ ?side1 ?side2 A3.out).mono ?_
                 (case side1 => exact cK HR0_0.out HB.out)
                 (case side2 => exact HC0_0.out)
                 rintro e w17 ⟨v147, rfl, ho0, hb⟩
                 refine ⟨_, rfl, ?_⟩
                 replace HO154 := xK HO154.out hb; have HO148 := aM (xL ho0 (zZ (zH HB.out))); replace BK143 := yK BK143.out hb; replace BK144 := yK BK144.out hb; replace BK145 := yK BK145.out hb; replace HB := aM (zT (zH HB.out) hb)
                 (try clear hb); (try clear ho0)
                 refine hK.out _ _ ⟨yc BK143.out 0, yc BK143.out 1, yc BK144.out 0, yc BK144.out 1⟩ (fun hHeld => ?_)
                 clear hK K; refine norm_ (a' := ?_) ?_ ?_; rotate_left
                 ·show Act.put _ (some 9) _ = _
                  simp only [Act.put, qA, qB, qC, i64_w, i32_w]
                  rfl
                 exact norm_ (by first | (simp only [putAll, Act.put, qA, qB, qC]; done) | (simp only [putAll, Act.put, qA, qB, qC]; rfl)) (hJ2_7 (v147, v153) _ ⟨hHeld, (xH HO148.out), (xH HO154.out), (yH BK143.out), (yH BK144.out), (yH BK145.out), (zH HB.out)⟩)
                ·skip
                 refine box_step ?hg (N := 6) ?hd (cs := #[.slice none 0 0, .slice none 0 0]) (t := 30) ?hr ?_; (case hd => rfl); (case hg => rfl); (case hr => first | (go_simp; done) | (go_simp; rfl))
                 intro gb158 hg w17 hbox hb
                 replace HO154 := xK HO154.out hb; have BK158 := aM (hbox)
                 have GW158 := aM ((by rw [hg]; exact (zZ (zH HB.out)) : w.heap.size ≤ gb158))
                 have GE158 := aM ((by rw [hg]; exact (zZ (zH HB.out)) : w.heap.size ≤ gb158))
                 replace HB := aM (zT (zH HB.out) hb); have NB143_158 := nL BK143.out hg; have NB158_143 := nR BK143.out hg; replace BK143 := yK BK143.out hb; have NB144_158 := nL BK144.out hg; have NB158_144 := nR BK144.out hg; replace BK144 := yK BK144.out hb; have NB145_158 := nL BK145.out hg; have NB158_145 := nR BK145.out hg; replace BK145 := yK BK145.out hb; clear hb hbox hg
                 refine hK.out _ _ ⟨yc BK143.out 0, yc BK143.out 1, yc BK144.out 0, yc BK144.out 1⟩ (fun hHeld => ?_)
                 clear hK K; refine norm_ (a' := ?_) ?_ ?_; rotate_left
                 ·show Act.put _ (some 6) _ = _
                  simp only [Act.put, qA, qB, qC, i64_w, i32_w]
                  rfl
                 exact norm_ (by first | (simp only [putAll, Act.put, qA, qB, qC]; done) | (simp only [putAll, Act.put, qA, qB, qC]; rfl)) (hJ7_10 (v153, gb158) _ ⟨hHeld, (xH HO154.out), (yH BK143.out), (yH BK144.out), (yH BK145.out), (yH BK158.out), GW158.out, GE158.out, NB143_158.out, NB158_143.out, NB144_158.out, NB158_144.out, NB145_158.out, NB158_145.out, (zH HB.out)⟩)
              ·skip
               rintro v147 w15 ⟨hS_, h0_, h1_, h2_, h3_, h4_⟩
               (try dsimp only at h0_ h1_ h2_ h3_ h4_)
               have n0_ := aM h0_; have n1_ := aM h1_; have n2_ := aM h2_; have n3_ := aM h3_; have n4_ := aM h4_; clear BK143 BK144 BK145 HB h0_ h1_ h2_ h3_ h4_; have HO148 := n0_; have BK143 := n1_; have BK144 := n2_; have BK145 := n3_; have HB := n4_; clear n0_ n1_ n2_ n3_ n4_; have hHeld : w15.cell? ⟨gb143, 0, none⟩ = some (.slice A0_0 l0_0.length c0_0) ∧ w15.cell? ⟨gb143, 1, none⟩ = some (.slice A0_1 l0_1.length c0_1) ∧ w15.cell? ⟨gb144, 0, none⟩ = some (.int .i64 a1_0) ∧ w15.cell? ⟨gb144, 1, none⟩ = some (.string a1_1) := hS_; refine norm_ (a' := ?_) ?_ ?_; rotate_left
               ·simp only [putAll, Act.put, qA, qB, qC]
                rfl
               refine three_ (i := 5) (j := 7) (k := 10) (Ni := some 12) (Nj := some 14) (Nk := some 6) #[tT,tT,tT,tT,tT,tT,tT,fF,fF,fF,fF,fF] #[tT,tT,tT,tT,tT,fF,tT,tT,fF,fF,fF,fF] #[tT,tT,tT,tT,tT,fF,tT,fF,fF,fF,tT,fF] rfl rfl rfl rfl rfl rfl (three_of HT_.out (by kernel_rfl)) (by decide) (by decide) (by decide) (fun K hK => ?_) (fun K hK => ?_) (fun K hK => ?_)
               ·skip
                refine gS Try.func67 (by kernel_rfl) rfl #[.slice A0_1 l0_1.length c0_1] (by rfl) rfl rfl ?_
                with_reducible refine (impl_Write.calls _ _ l0_1 t149 _ ?side1 ?side2 A4.out).mono ?_
                (case side1 => exact cK HR0_1.out HB.out)
                (case side2 => exact HC0_1.out)
                rintro e w16 ⟨v150, rfl, ho0, hb⟩
                refine ⟨_, rfl, ?_⟩
                replace HO148 := xK HO148.out hb; have HO151 := aM (xL (Kd.R_newB ho0 (g := gb144) (o := .cells #[.int .i64 a1_0, .string a1_1] 42 (0, 0)) (yH BK144.out)) (zZ (zH HB.out))); replace BK143 := yK BK143.out hb; replace BK144 := yK BK144.out hb; replace BK145 := yK BK145.out hb; replace HB := aM (zT (zH HB.out) hb)
                (try clear hb); (try clear ho0)
                refine hK.out _ _ ⟨yc BK143.out 0, yc BK143.out 1, yc BK144.out 0, yc BK144.out 1⟩ (fun hHeld => ?_)
                clear hK K; refine norm_ (a' := ?_) ?_ ?_; rotate_left
                ·show Act.put _ (some 12) _ = _
                 simp only [Act.put, qA, qB, qC, i64_w, i32_w]
                 rfl
                exact norm_ (by first | (simp only [putAll, Act.put, qA, qB, qC]; done) | (simp only [putAll, Act.put, qA, qB, qC]; rfl)) (hJ2_5 (v147, v150) _ ⟨hHeld, (xH HO148.out), (xH (xM HO151.out (fun _ hk => hk.2))), (yH BK143.out), (yH BK144.out), (yH BK145.out), (zH HB.out)⟩)
               ·skip
                refine Kd.R_lit_step k42 _ 42 ?hg (N := 14) ?hd (xs := ([(⟨a1_0, a1_1⟩ : S42)] : List (S42))) (inner := [.int .i64 a1_0, .string a1_1]) (ok := fun _ => True) (okp := fun _ => True) ?hr ?hp (fun _ hk => hk) trivial (Below.refl _ _) (Nat.le_refl _) (by simp) ?_; (case hd => rfl); (case hg => rfl); (case hr => first | (go_simp; done) | (go_simp; rfl)); (case hp => exact (Reps.c2 (show Kd.M k42 _ _ _ (⟨a1_0, a1_1⟩ : S42) [.int .i64 a1_0, .string a1_1] from (k42_mkM _ _ _ (⟨a1_0, a1_1⟩ : S42) )) (Reps.none _ _)))
                intro v153 w16 ho17 hb hg_ hnew_
                clear hg_ hnew_
                (first | rw [← Ny152.out] at ho17 | (simp only [Int.reduceToNat] at ho17; rw [← Ny152.out] at ho17))
                replace HO148 := xK HO148.out hb; have HO154 := aM (xL (Kd.R_newB ho17 (g := gb144) (o := .cells #[.int .i64 a1_0, .string a1_1] 42 (0, 0)) (yH BK144.out)) (zZ (zH HB.out))); replace BK143 := yK BK143.out hb; replace BK144 := yK BK144.out hb; replace BK145 := yK BK145.out hb; replace HB := aM (zT (zH HB.out) hb); clear hb ho17
                refine hK.out _ _ ⟨yc BK143.out 0, yc BK143.out 1, yc BK144.out 0, yc BK144.out 1⟩ (fun hHeld => ?_)
                clear hK K; refine norm_ (a' := ?_) ?_ ?_; rotate_left
                ·show Act.put _ (some 14) _ = _
                 simp only [Act.put, qA, qB, qC, i64_w, i32_w]
                 rfl
                exact norm_ (by first | (simp only [putAll, Act.put, qA, qB, qC]; done) | (simp only [putAll, Act.put, qA, qB, qC]; rfl)) (hJ2_7 (v147, v153) _ ⟨hHeld, (xH HO148.out), (xH (xM HO154.out (fun _ hk => hk.2))), (yH BK143.out), (yH BK144.out), (yH BK145.out), (zH HB.out)⟩)
               ·skip
                refine box_step ?hg (N := 6) ?hd (cs := #[.slice none 0 0, .slice none 0 0]) (t := 30) ?hr ?_; (case hd => rfl); (case hg => rfl); (case hr => first | (go_simp; done) | (go_simp; rfl))
                intro gb158 hg w16 hbox hb
                replace HO148 := xK HO148.out hb; have BK158 := aM (hbox)
                have GW158 := aM ((by rw [hg]; exact (zZ (zH HB.out)) : w.heap.size ≤ gb158))
                have GE158 := aM ((by rw [hg]; exact (zZ (zH HB.out)) : w.heap.size ≤ gb158))
                replace HB := aM (zT (zH HB.out) hb); have NB143_158 := nL BK143.out hg; have NB158_143 := nR BK143.out hg; replace BK143 := yK BK143.out hb; have NB144_158 := nL BK144.out hg; have NB158_144 := nR BK144.out hg; replace BK144 := yK BK144.out hb; have NB145_158 := nL BK145.out hg; have NB158_145 := nR BK145.out hg; replace BK145 := yK BK145.out hb; clear hb hbox hg
                refine hK.out _ _ ⟨yc BK143.out 0, yc BK143.out 1, yc BK144.out 0, yc BK144.out 1⟩ (fun hHeld => ?_)
                clear hK K; refine norm_ (a' := ?_) ?_ ?_; rotate_left
                ·show Act.put _ (some 6) _ = _
                 simp only [Act.put, qA, qB, qC, i64_w, i32_w]
                 rfl
                exact norm_ (by first | (simp only [putAll, Act.put, qA, qB, qC]; done) | (simp only [putAll, Act.put, qA, qB, qC]; rfl)) (hJ2_10 (v147, gb158) _ ⟨hHeld, (xH HO148.out), (yH BK143.out), (yH BK144.out), (yH BK145.out), (yH BK158.out), GW158.out, GE158.out, NB143_158.out, NB158_143.out, NB144_158.out, NB158_144.out, NB145_158.out, NB158_145.out, (zH HB.out)⟩)
             ·skip
              rintro ⟨v153, gb158⟩ w17 ⟨hS_, h0_, h1_, h2_, h3_, h4_, h5_, h6_, h7_, h8_, h9_, h10_, h11_, h12_, h13_⟩
              (try dsimp only at h0_ h1_ h2_ h3_ h4_ h5_ h6_ h7_ h8_ h9_ h10_ h11_ h12_ h13_)
              have n0_ := aM h0_; have n1_ := aM h1_; have n2_ := aM h2_; have n3_ := aM h3_; have n4_ := aM h4_; have n5_ := aM h5_; have n6_ := aM h6_; have n7_ := aM h7_; have n8_ := aM h8_; have n9_ := aM h9_; have n10_ := aM h10_; have n11_ := aM h11_; have n12_ := aM h12_; have n13_ := aM h13_; clear BK143 BK144 BK145 HB h0_ h1_ h2_ h3_ h4_ h5_ h6_ h7_ h8_ h9_ h10_ h11_ h12_ h13_; have HO154 := n0_; have BK143 := n1_; have BK144 := n2_; have BK145 := n3_; have BK158 := n4_; have GW158 := n5_; have GE158 := n6_; have NB143_158 := n7_; have NB158_143 := n8_; have NB144_158 := n9_; have NB158_144 := n10_; have NB145_158 := n11_; have NB158_145 := n12_; have HB := n13_; clear n0_ n1_ n2_ n3_ n4_ n5_ n6_ n7_ n8_ n9_ n10_ n11_ n12_ n13_; have hHeld : w17.cell? ⟨gb143, 0, none⟩ = some (.slice A0_0 l0_0.length c0_0) ∧ w17.cell? ⟨gb143, 1, none⟩ = some (.slice A0_1 l0_1.length c0_1) ∧ w17.cell? ⟨gb144, 0, none⟩ = some (.int .i64 a1_0) ∧ w17.cell? ⟨gb144, 1, none⟩ = some (.string a1_1) := hS_; refine norm_ (a' := ?_) ?_ ?_; rotate_left
              ·simp only [putAll, Act.put, qA, qB, qC]
               rfl
              refine one_ (i := 2) (N := some 9) #[tT,tT,tT,tT,tT,fF,tT,tT,fF,fF,tT,fF] rfl rfl (one_of HT_.out (by kernel_rfl)) (by decide) (fun K hK => ?_)
              refine gS Try.func66 (by kernel_rfl) rfl #[.slice A0_0 l0_0.length c0_0] (by rfl) rfl rfl ?_
              with_reducible refine (slices_Clone_string_string.calls _ _ l0_0 t146 _ ?side1 ?side2 A3.out).mono ?_
              (case side1 => exact cK HR0_0.out HB.out)
              (case side2 => exact HC0_0.out)
              rintro e w18 ⟨v147, rfl, ho0, hb⟩
              refine ⟨_, rfl, ?_⟩
              replace HO154 := xK HO154.out hb; have HO148 := aM (xL ho0 (zZ (zH HB.out))); replace BK143 := yK BK143.out hb; replace BK144 := yK BK144.out hb; replace BK145 := yK BK145.out hb; replace BK158 := yK BK158.out hb; replace HB := aM (zT (zH HB.out) hb)
              (try clear hb); (try clear ho0)
              refine hK.out _ _ ⟨yc BK143.out 0, yc BK143.out 1, yc BK144.out 0, yc BK144.out 1⟩ (fun hHeld => ?_)
              clear hK K; refine norm_ (a' := ?_) ?_ ?_; rotate_left
              ·show Act.put _ (some 9) _ = _
               simp only [Act.put, qA, qB, qC, i64_w, i32_w]
               rfl
              exact norm_ (by first | (simp only [putAll, Act.put, qA, qB, qC]; done) | (simp only [putAll, Act.put, qA, qB, qC]; rfl)) (hJ2_7_10 (v147, v153, gb158) _ ⟨hHeld, (xH HO148.out), (xH HO154.out), (yH BK143.out), (yH BK144.out), (yH BK145.out), (yH BK158.out), GW158.out, GE158.out, NB143_158.out, NB158_143.out, NB144_158.out, NB158_144.out, NB145_158.out, NB158_145.out, (zH HB.out)⟩)
            ·skip
             rintro ⟨v147, gb158⟩ w16 ⟨hS_, h0_, h1_, h2_, h3_, h4_, h5_, h6_, h7_, h8_, h9_, h10_, h11_, h12_, h13_⟩
             (try dsimp only at h0_ h1_ h2_ h3_ h4_ h5_ h6_ h7_ h8_ h9_ h10_ h11_ h12_ h13_)
             have n0_ := aM h0_; have n1_ := aM h1_; have n2_ := aM h2_; have n3_ := aM h3_; have n4_ := aM h4_; have n5_ := aM h5_; have n6_ := aM h6_; have n7_ := aM h7_; have n8_ := aM h8_; have n9_ := aM h9_; have n10_ := aM h10_; have n11_ := aM h11_; have n12_ := aM h12_; have n13_ := aM h13_; clear BK143 BK144 BK145 HB h0_ h1_ h2_ h3_ h4_ h5_ h6_ h7_ h8_ h9_ h10_ h11_ h12_ h13_; have HO148 := n0_; have BK143 := n1_; have BK144 := n2_; have BK145 := n3_; have BK158 := n4_; have GW158 := n5_; have GE158 := n6_; have NB143_158 := n7_; have NB158_143 := n8_; have NB144_158 := n9_; have NB158_144 := n10_; have NB145_158 := n11_; have NB158_145 := n12_; have HB := n13_; clear n0_ n1_ n2_ n3_ n4_ n5_ n6_ n7_ n8_ n9_ n10_ n11_ n12_ n13_; have hHeld : w16.cell? ⟨gb143, 0, none⟩ = some (.slice A0_0 l0_0.length c0_0) ∧ w16.cell? ⟨gb143, 1, none⟩ = some (.slice A0_1 l0_1.length c0_1) ∧ w16.cell? ⟨gb144, 0, none⟩ = some (.int .i64 a1_0) ∧ w16.cell? ⟨gb144, 1, none⟩ = some (.string a1_1) := hS_; refine norm_ (a' := ?_) ?_ ?_; rotate_left
             ·simp only [putAll, Act.put, qA, qB, qC]
              rfl
             refine two_ (i := 5) (j := 7) (Ni := some 12) (Nj := some 14) #[tT,tT,tT,tT,tT,tT,tT,fF,fF,fF,tT,fF] #[tT,tT,tT,tT,tT,fF,tT,tT,fF,fF,tT,fF] rfl rfl rfl rfl (two_of HT_.out (by kernel_rfl)) (by decide) (by decide) (fun K hK => ?_) (fun K hK => ?_)
             ·skip
              refine gS Try.func67 (by kernel_rfl) rfl #[.slice A0_1 l0_1.length c0_1] (by rfl) rfl rfl ?_
              with_reducible refine (impl_Write.calls _ _ l0_1 t149 _ ?side1 ?side2 A4.out).mono ?_
              (case side1 => exact cK HR0_1.out HB.out)
              (case side2 => exact HC0_1.out)
              rintro e w17 ⟨v150, rfl, ho0, hb⟩
              refine ⟨_, rfl, ?_⟩
              replace HO148 := xK HO148.out hb; have HO151 := aM (xL (Kd.R_newB ho0 (g := gb144) (o := .cells #[.int .i64 a1_0, .string a1_1] 42 (0, 0)) (yH BK144.out)) (zZ (zH HB.out))); replace BK143 := yK BK143.out hb; replace BK144 := yK BK144.out hb; replace BK145 := yK BK145.out hb; replace BK158 := yK BK158.out hb; replace HB := aM (zT (zH HB.out) hb)
              (try clear hb); (try clear ho0)
              refine hK.out _ _ ⟨yc BK143.out 0, yc BK143.out 1, yc BK144.out 0, yc BK144.out 1⟩ (fun hHeld => ?_)
              clear hK K; refine norm_ (a' := ?_) ?_ ?_; rotate_left
              ·show Act.put _ (some 12) _ = _
               simp only [Act.put, qA, qB, qC, i64_w, i32_w]
               rfl
              exact norm_ (by first | (simp only [putAll, Act.put, qA, qB, qC]; done) | (simp only [putAll, Act.put, qA, qB, qC]; rfl)) (hJ2_5_10 (v147, v150, gb158) _ ⟨hHeld, (xH HO148.out), (xH (xM HO151.out (fun _ hk => hk.2))), (yH BK143.out), (yH BK144.out), (yH BK145.out), (yH BK158.out), GW158.out, GE158.out, NB143_158.out, NB158_143.out, NB144_158.out, NB158_144.out, NB145_158.out, NB158_145.out, (zH HB.out)⟩)
             ·skip
              refine Kd.R_lit_step k42 _ 42 ?hg (N := 14) ?hd (xs := ([(⟨a1_0, a1_1⟩ : S42)] : List (S42))) (inner := [.int .i64 a1_0, .string a1_1]) (ok := fun _ => True) (okp := fun _ => True) ?hr ?hp (fun _ hk => hk) trivial (Below.refl _ _) (Nat.le_refl _) (by simp) ?_; (case hd => rfl); (case hg => rfl); (case hr => first | (go_simp; done) | (go_simp; rfl)); (case hp => exact (Reps.c2 (show Kd.M k42 _ _ _ (⟨a1_0, a1_1⟩ : S42) [.int .i64 a1_0, .string a1_1] from (k42_mkM _ _ _ (⟨a1_0, a1_1⟩ : S42) )) (Reps.none _ _)))
              intro v153 w17 ho18 hb hg_ hnew_
              clear hg_ hnew_
              (first | rw [← Ny152.out] at ho18 | (simp only [Int.reduceToNat] at ho18; rw [← Ny152.out] at ho18))
              replace HO148 := xK HO148.out hb; have HO154 := aM (xL (Kd.R_newB ho18 (g := gb144) (o := .cells #[.int .i64 a1_0, .string a1_1] 42 (0, 0)) (yH BK144.out)) (zZ (zH HB.out))); replace BK143 := yK BK143.out hb; replace BK144 := yK BK144.out hb; replace BK145 := yK BK145.out hb; replace BK158 := yK BK158.out hb; replace HB := aM (zT (zH HB.out) hb); clear hb ho18
              refine hK.out _ _ ⟨yc BK143.out 0, yc BK143.out 1, yc BK144.out 0, yc BK144.out 1⟩ (fun hHeld => ?_)
              clear hK K; refine norm_ (a' := ?_) ?_ ?_; rotate_left
              ·show Act.put _ (some 14) _ = _
               simp only [Act.put, qA, qB, qC, i64_w, i32_w]
               rfl
              exact norm_ (by first | (simp only [putAll, Act.put, qA, qB, qC]; done) | (simp only [putAll, Act.put, qA, qB, qC]; rfl)) (hJ2_7_10 (v147, v153, gb158) _ ⟨hHeld, (xH HO148.out), (xH (xM HO154.out (fun _ hk => hk.2))), (yH BK143.out), (yH BK144.out), (yH BK145.out), (yH BK158.out), GW158.out, GE158.out, NB143_158.out, NB158_143.out, NB144_158.out, NB158_144.out, NB145_158.out, NB158_145.out, (zH HB.out)⟩)
           ·skip
            rintro ⟨v147, v153⟩ w17 ⟨hS_, h0_, h1_, h2_, h3_, h4_, h5_⟩
            (try dsimp only at h0_ h1_ h2_ h3_ h4_ h5_)
            have n0_ := aM h0_; have n1_ := aM h1_; have n2_ := aM h2_; have n3_ := aM h3_; have n4_ := aM h4_; have n5_ := aM h5_; clear BK143 BK144 BK145 HB h0_ h1_ h2_ h3_ h4_ h5_; have HO148 := n0_; have HO154 := n1_; have BK143 := n2_; have BK144 := n3_; have BK145 := n4_; have HB := n5_; clear n0_ n1_ n2_ n3_ n4_ n5_; have hHeld : w17.cell? ⟨gb143, 0, none⟩ = some (.slice A0_0 l0_0.length c0_0) ∧ w17.cell? ⟨gb143, 1, none⟩ = some (.slice A0_1 l0_1.length c0_1) ∧ w17.cell? ⟨gb144, 0, none⟩ = some (.int .i64 a1_0) ∧ w17.cell? ⟨gb144, 1, none⟩ = some (.string a1_1) := hS_; refine norm_ (a' := ?_) ?_ ?_; rotate_left
            ·simp only [putAll, Act.put, qA, qB, qC]
             rfl
            refine two_ (i := 5) (j := 10) (Ni := some 12) (Nj := some 6) #[tT,tT,tT,tT,tT,tT,tT,tT,fF,fF,fF,fF] #[tT,tT,tT,tT,tT,fF,tT,tT,fF,fF,tT,fF] rfl rfl rfl rfl (two_of HT_.out (by kernel_rfl)) (by decide) (by decide) (fun K hK => ?_) (fun K hK => ?_)
            ·skip
             refine gS Try.func67 (by kernel_rfl) rfl #[.slice A0_1 l0_1.length c0_1] (by rfl) rfl rfl ?_
             with_reducible refine (impl_Write.calls _ _ l0_1 t149 _ ?side1 ?side2 A4.out).mono ?_
             (case side1 => exact cK HR0_1.out HB.out)
             (case side2 => exact HC0_1.out)
             rintro e w18 ⟨v150, rfl, ho0, hb⟩
             refine ⟨_, rfl, ?_⟩
             replace HO148 := xK HO148.out hb; have HO151 := aM (xL (Kd.R_newB (Kd.R_new' ho0 (Kd.R_lt (xH HO154.out))) (g := gb144) (o := .cells #[.int .i64 a1_0, .string a1_1] 42 (0, 0)) (yH BK144.out)) (zZ (zH HB.out))); replace HO154 := aM (Kd.R_elder' (xH HO154.out) (Kd.R_base ho0) hb); replace BK143 := yK BK143.out hb; replace BK144 := yK BK144.out hb; replace BK145 := yK BK145.out hb; replace HB := aM (zT (zH HB.out) hb)
             (try clear hb); (try clear ho0)
             refine hK.out _ _ ⟨yc BK143.out 0, yc BK143.out 1, yc BK144.out 0, yc BK144.out 1⟩ (fun hHeld => ?_)
             clear hK K; refine norm_ (a' := ?_) ?_ ?_; rotate_left
             ·show Act.put _ (some 12) _ = _
              simp only [Act.put, qA, qB, qC, i64_w, i32_w]
              rfl
             exact norm_ (by first | (simp only [putAll, Act.put, qA, qB, qC]; done) | (simp only [putAll, Act.put, qA, qB, qC]; rfl)) (hJ2_5_7 (v147, v150, v153) _ ⟨hHeld, (xH HO148.out), (xH (xM HO151.out (fun _ hk => ⟨hk.1.2, hk.2⟩))), (xH (xM HO154.out (fun _ hk => ⟨hk.2, hk.1⟩))), (yH BK143.out), (yH BK144.out), (yH BK145.out), (zH HB.out)⟩)
            ·skip
             refine box_step ?hg (N := 6) ?hd (cs := #[.slice none 0 0, .slice none 0 0]) (t := 30) ?hr ?_; (case hd => rfl); (case hg => rfl); (case hr => first | (go_simp; done) | (go_simp; rfl))
             intro gb158 hg w18 hbox hb
             replace HO148 := xK HO148.out hb; replace HO154 := xK HO154.out hb; have BK158 := aM (hbox)
             have GW158 := aM ((by rw [hg]; exact (zZ (zH HB.out)) : w.heap.size ≤ gb158))
             have GE158 := aM ((by rw [hg]; exact (zZ (zH HB.out)) : w.heap.size ≤ gb158))
             replace HB := aM (zT (zH HB.out) hb); have NB143_158 := nL BK143.out hg; have NB158_143 := nR BK143.out hg; replace BK143 := yK BK143.out hb; have NB144_158 := nL BK144.out hg; have NB158_144 := nR BK144.out hg; replace BK144 := yK BK144.out hb; have NB145_158 := nL BK145.out hg; have NB158_145 := nR BK145.out hg; replace BK145 := yK BK145.out hb; clear hb hbox hg
             refine hK.out _ _ ⟨yc BK143.out 0, yc BK143.out 1, yc BK144.out 0, yc BK144.out 1⟩ (fun hHeld => ?_)
             clear hK K; refine norm_ (a' := ?_) ?_ ?_; rotate_left
             ·show Act.put _ (some 6) _ = _
              simp only [Act.put, qA, qB, qC, i64_w, i32_w]
              rfl
             exact norm_ (by first | (simp only [putAll, Act.put, qA, qB, qC]; done) | (simp only [putAll, Act.put, qA, qB, qC]; rfl)) (hJ2_7_10 (v147, v153, gb158) _ ⟨hHeld, (xH HO148.out), (xH HO154.out), (yH BK143.out), (yH BK144.out), (yH BK145.out), (yH BK158.out), GW158.out, GE158.out, NB143_158.out, NB158_143.out, NB144_158.out, NB158_144.out, NB145_158.out, NB158_145.out, (zH HB.out)⟩)
          ·skip
           rintro ⟨v147, v150⟩ w16 ⟨hS_, h0_, h1_, h2_, h3_, h4_, h5_⟩
           (try dsimp only at h0_ h1_ h2_ h3_ h4_ h5_)
           have n0_ := aM h0_; have n1_ := aM h1_; have n2_ := aM h2_; have n3_ := aM h3_; have n4_ := aM h4_; have n5_ := aM h5_; clear BK143 BK144 BK145 HB h0_ h1_ h2_ h3_ h4_ h5_; have HO148 := n0_; have HO151 := n1_; have BK143 := n2_; have BK144 := n3_; have BK145 := n4_; have HB := n5_; clear n0_ n1_ n2_ n3_ n4_ n5_; have hHeld : w16.cell? ⟨gb143, 0, none⟩ = some (.slice A0_0 l0_0.length c0_0) ∧ w16.cell? ⟨gb143, 1, none⟩ = some (.slice A0_1 l0_1.length c0_1) ∧ w16.cell? ⟨gb144, 0, none⟩ = some (.int .i64 a1_0) ∧ w16.cell? ⟨gb144, 1, none⟩ = some (.string a1_1) := hS_; refine norm_ (a' := ?_) ?_ ?_; rotate_left
           ·simp only [putAll, Act.put, qA, qB, qC]
            rfl
           refine two_ (i := 7) (j := 10) (Ni := some 14) (Nj := some 6) #[tT,tT,tT,tT,tT,tT,tT,tT,fF,fF,fF,fF] #[tT,tT,tT,tT,tT,tT,tT,fF,fF,fF,tT,fF] rfl rfl rfl rfl (two_of HT_.out (by kernel_rfl)) (by decide) (by decide) (fun K hK => ?_) (fun K hK => ?_)
           ·skip
            refine Kd.R_lit_step k42 _ 42 ?hg (N := 14) ?hd (xs := ([(⟨a1_0, a1_1⟩ : S42)] : List (S42))) (inner := [.int .i64 a1_0, .string a1_1]) (ok := fun _ => True) (okp := fun _ => True) ?hr ?hp (fun _ hk => hk) trivial (Below.refl _ _) (Nat.le_refl _) (by simp) ?_; (case hd => rfl); (case hg => rfl); (case hr => first | (go_simp; done) | (go_simp; rfl)); (case hp => exact (Reps.c2 (show Kd.M k42 _ _ _ (⟨a1_0, a1_1⟩ : S42) [.int .i64 a1_0, .string a1_1] from (k42_mkM _ _ _ (⟨a1_0, a1_1⟩ : S42) )) (Reps.none _ _)))
            intro v153 w17 ho18 hb hg_ hnew_
            clear hg_ hnew_
            (first | rw [← Ny152.out] at ho18 | (simp only [Int.reduceToNat] at ho18; rw [← Ny152.out] at ho18))
            replace HO148 := xK HO148.out hb; have HO154 := aM (xL (Kd.R_newB (Kd.R_new' ho18 (Kd.R_lt (xH HO151.out))) (g := gb144) (o := .cells #[.int .i64 a1_0, .string a1_1] 42 (0, 0)) (yH BK144.out)) (zZ (zH HB.out))); replace HO151 := aM (Kd.R_elder' (xH HO151.out) (Kd.R_base ho18) hb); replace BK143 := yK BK143.out hb; replace BK144 := yK BK144.out hb; replace BK145 := yK BK145.out hb; replace HB := aM (zT (zH HB.out) hb); clear hb ho18
            refine hK.out _ _ ⟨yc BK143.out 0, yc BK143.out 1, yc BK144.out 0, yc BK144.out 1⟩ (fun hHeld => ?_)
            clear hK K; refine norm_ (a' := ?_) ?_ ?_; rotate_left
            ·show Act.put _ (some 14) _ = _
             simp only [Act.put, qA, qB, qC, i64_w, i32_w]
             rfl
            exact norm_ (by first | (simp only [putAll, Act.put, qA, qB, qC]; done) | (simp only [putAll, Act.put, qA, qB, qC]; rfl)) (hJ2_5_7 (v147, v150, v153) _ ⟨hHeld, (xH HO148.out), (xH (xM HO151.out (fun _ hk => ⟨hk.2, hk.1⟩))), (xH (xM HO154.out (fun _ hk => ⟨hk.1.2, hk.2⟩))), (yH BK143.out), (yH BK144.out), (yH BK145.out), (zH HB.out)⟩)
           ·skip
            refine box_step ?hg (N := 6) ?hd (cs := #[.slice none 0 0, .slice none 0 0]) (t := 30) ?hr ?_; (case hd => rfl); (case hg => rfl); (case hr => first | (go_simp; done) | (go_simp; rfl))
            intro gb158 hg w17 hbox hb
            replace HO148 := xK HO148.out hb; replace HO151 := xK HO151.out hb; have BK158 := aM (hbox)
            have GW158 := aM ((by rw [hg]; exact (zZ (zH HB.out)) : w.heap.size ≤ gb158))
            have GE158 := aM ((by rw [hg]; exact (zZ (zH HB.out)) : w.heap.size ≤ gb158))
            replace HB := aM (zT (zH HB.out) hb); have NB143_158 := nL BK143.out hg; have NB158_143 := nR BK143.out hg; replace BK143 := yK BK143.out hb; have NB144_158 := nL BK144.out hg; have NB158_144 := nR BK144.out hg; replace BK144 := yK BK144.out hb; have NB145_158 := nL BK145.out hg; have NB158_145 := nR BK145.out hg; replace BK145 := yK BK145.out hb; clear hb hbox hg
            refine hK.out _ _ ⟨yc BK143.out 0, yc BK143.out 1, yc BK144.out 0, yc BK144.out 1⟩ (fun hHeld => ?_)
            clear hK K; refine norm_ (a' := ?_) ?_ ?_; rotate_left
            ·show Act.put _ (some 6) _ = _
             simp only [Act.put, qA, qB, qC, i64_w, i32_w]
             rfl
            exact norm_ (by first | (simp only [putAll, Act.put, qA, qB, qC]; done) | (simp only [putAll, Act.put, qA, qB, qC]; rfl)) (hJ2_5_10 (v147, v150, gb158) _ ⟨hHeld, (xH HO148.out), (xH HO151.out), (yH BK143.out), (yH BK144.out), (yH BK145.out), (yH BK158.out), GW158.out, GE158.out, NB143_158.out, NB158_143.out, NB144_158.out, NB158_144.out, NB145_158.out, NB158_145.out, (zH HB.out)⟩)
         ·skip
          rintro ⟨v147, v153, gb158⟩ w18 ⟨hS_, h0_, h1_, h2_, h3_, h4_, h5_, h6_, h7_, h8_, h9_, h10_, h11_, h12_, h13_, h14_⟩
          (try dsimp only at h0_ h1_ h2_ h3_ h4_ h5_ h6_ h7_ h8_ h9_ h10_ h11_ h12_ h13_ h14_)
          have n0_ := aM h0_; have n1_ := aM h1_; have n2_ := aM h2_; have n3_ := aM h3_; have n4_ := aM h4_; have n5_ := aM h5_; have n6_ := aM h6_; have n7_ := aM h7_; have n8_ := aM h8_; have n9_ := aM h9_; have n10_ := aM h10_; have n11_ := aM h11_; have n12_ := aM h12_; have n13_ := aM h13_; have n14_ := aM h14_; clear BK143 BK144 BK145 HB h0_ h1_ h2_ h3_ h4_ h5_ h6_ h7_ h8_ h9_ h10_ h11_ h12_ h13_ h14_; have HO148 := n0_; have HO154 := n1_; have BK143 := n2_; have BK144 := n3_; have BK145 := n4_; have BK158 := n5_; have GW158 := n6_; have GE158 := n7_; have NB143_158 := n8_; have NB158_143 := n9_; have NB144_158 := n10_; have NB158_144 := n11_; have NB145_158 := n12_; have NB158_145 := n13_; have HB := n14_; clear n0_ n1_ n2_ n3_ n4_ n5_ n6_ n7_ n8_ n9_ n10_ n11_ n12_ n13_ n14_; have hHeld : w18.cell? ⟨gb143, 0, none⟩ = some (.slice A0_0 l0_0.length c0_0) ∧ w18.cell? ⟨gb143, 1, none⟩ = some (.slice A0_1 l0_1.length c0_1) ∧ w18.cell? ⟨gb144, 0, none⟩ = some (.int .i64 a1_0) ∧ w18.cell? ⟨gb144, 1, none⟩ = some (.string a1_1) := hS_; refine norm_ (a' := ?_) ?_ ?_; rotate_left
          ·simp only [putAll, Act.put, qA, qB, qC]
           rfl
          refine one_ (i := 5) (N := some 12) #[tT,tT,tT,tT,tT,tT,tT,tT,fF,fF,tT,fF] rfl rfl (one_of HT_.out (by kernel_rfl)) (by decide) (fun K hK => ?_)
          refine gS Try.func67 (by kernel_rfl) rfl #[.slice A0_1 l0_1.length c0_1] (by rfl) rfl rfl ?_
          with_reducible refine (impl_Write.calls _ _ l0_1 t149 _ ?side1 ?side2 A4.out).mono ?_
          (case side1 => exact cK HR0_1.out HB.out)
          (case side2 => exact HC0_1.out)
          rintro e w19 ⟨v150, rfl, ho0, hb⟩
          refine ⟨_, rfl, ?_⟩
          replace HO148 := xK HO148.out hb; have HO151 := aM (xL (Kd.R_newB (Kd.R_new' ho0 (Kd.R_lt (xH HO154.out))) (g := gb144) (o := .cells #[.int .i64 a1_0, .string a1_1] 42 (0, 0)) (yH BK144.out)) (zZ (zH HB.out))); replace HO154 := aM (Kd.R_elder' (xH HO154.out) (Kd.R_base ho0) hb); replace BK143 := yK BK143.out hb; replace BK144 := yK BK144.out hb; replace BK145 := yK BK145.out hb; replace BK158 := yK BK158.out hb; replace HB := aM (zT (zH HB.out) hb)
          (try clear hb); (try clear ho0)
          refine hK.out _ _ ⟨yc BK143.out 0, yc BK143.out 1, yc BK144.out 0, yc BK144.out 1⟩ (fun hHeld => ?_)
          clear hK K; refine norm_ (a' := ?_) ?_ ?_; rotate_left
          ·show Act.put _ (some 12) _ = _
           simp only [Act.put, qA, qB, qC, i64_w, i32_w]
           rfl
          exact norm_ (by first | (simp only [putAll, Act.put, qA, qB, qC]; done) | (simp only [putAll, Act.put, qA, qB, qC]; rfl)) (hJ2_5_7_10 (v147, v150, v153, gb158) _ ⟨hHeld, (xH HO148.out), (xH (xM HO151.out (fun _ hk => ⟨hk.1.2, hk.2⟩))), (xH (xM HO154.out (fun _ hk => ⟨hk.2, hk.1⟩))), (yH BK143.out), (yH BK144.out), (yH BK145.out), (yH BK158.out), GW158.out, GE158.out, NB143_158.out, NB158_143.out, NB144_158.out, NB158_144.out, NB145_158.out, NB158_145.out, (zH HB.out)⟩)
        ·skip
         rintro ⟨v147, v150, gb158⟩ w17 ⟨hS_, h0_, h1_, h2_, h3_, h4_, h5_, h6_, h7_, h8_, h9_, h10_, h11_, h12_, h13_, h14_⟩
         (try dsimp only at h0_ h1_ h2_ h3_ h4_ h5_ h6_ h7_ h8_ h9_ h10_ h11_ h12_ h13_ h14_)
         have n0_ := aM h0_; have n1_ := aM h1_; have n2_ := aM h2_; have n3_ := aM h3_; have n4_ := aM h4_; have n5_ := aM h5_; have n6_ := aM h6_; have n7_ := aM h7_; have n8_ := aM h8_; have n9_ := aM h9_; have n10_ := aM h10_; have n11_ := aM h11_; have n12_ := aM h12_; have n13_ := aM h13_; have n14_ := aM h14_; clear BK143 BK144 BK145 HB h0_ h1_ h2_ h3_ h4_ h5_ h6_ h7_ h8_ h9_ h10_ h11_ h12_ h13_ h14_; have HO148 := n0_; have HO151 := n1_; have BK143 := n2_; have BK144 := n3_; have BK145 := n4_; have BK158 := n5_; have GW158 := n6_; have GE158 := n7_; have NB143_158 := n8_; have NB158_143 := n9_; have NB144_158 := n10_; have NB158_144 := n11_; have NB145_158 := n12_; have NB158_145 := n13_; have HB := n14_; clear n0_ n1_ n2_ n3_ n4_ n5_ n6_ n7_ n8_ n9_ n10_ n11_ n12_ n13_ n14_; have hHeld : w17.cell? ⟨gb143, 0, none⟩ = some (.slice A0_0 l0_0.length c0_0) ∧ w17.cell? ⟨gb143, 1, none⟩ = some (.slice A0_1 l0_1.length c0_1) ∧ w17.cell? ⟨gb144, 0, none⟩ = some (.int .i64 a1_0) ∧ w17.cell? ⟨gb144, 1, none⟩ = some (.string a1_1) := hS_; refine norm_ (a' := ?_) ?_ ?_; rotate_left
         ·simp only [putAll, Act.put, qA, qB, qC]
          rfl
         refine one_ (i := 7) (N := some 14) #[tT,tT,tT,tT,tT,tT,tT,tT,fF,fF,tT,fF] rfl rfl (one_of HT_.out (by kernel_rfl)) (by decide) (fun K hK => ?_)
         refine Kd.R_lit_step k42 _ 42 ?hg (N := 14) ?hd (xs := ([(⟨a1_0, a1_1⟩ : S42)] : List (S42))) (inner := [.int .i64 a1_0, .string a1_1]) (ok := fun _ => True) (okp := fun _ => True) ?hr ?hp (fun _ hk => hk) trivial (Below.refl _ _) (Nat.le_refl _) (by simp) ?_; (case hd => rfl); (case hg => rfl); (case hr => first | (go_simp; done) | (go_simp; rfl)); (case hp => exact (Reps.c2 (show Kd.M k42 _ _ _ (⟨a1_0, a1_1⟩ : S42) [.int .i64 a1_0, .string a1_1] from (k42_mkM _ _ _ (⟨a1_0, a1_1⟩ : S42) )) (Reps.none _ _)))
         intro v153 w18 ho19 hb hg_ hnew_
         clear hg_ hnew_
         (first | rw [← Ny152.out] at ho19 | (simp only [Int.reduceToNat] at ho19; rw [← Ny152.out] at ho19))
         replace HO148 := xK HO148.out hb; have HO154 := aM (xL (Kd.R_newB (Kd.R_new' ho19 (Kd.R_lt (xH HO151.out))) (g := gb144) (o := .cells #[.int .i64 a1_0, .string a1_1] 42 (0, 0)) (yH BK144.out)) (zZ (zH HB.out))); replace HO151 := aM (Kd.R_elder' (xH HO151.out) (Kd.R_base ho19) hb); replace BK143 := yK BK143.out hb; replace BK144 := yK BK144.out hb; replace BK145 := yK BK145.out hb; replace BK158 := yK BK158.out hb; replace HB := aM (zT (zH HB.out) hb); clear hb ho19
         refine hK.out _ _ ⟨yc BK143.out 0, yc BK143.out 1, yc BK144.out 0, yc BK144.out 1⟩ (fun hHeld => ?_)
         clear hK K; refine norm_ (a' := ?_) ?_ ?_; rotate_left
         ·show Act.put _ (some 14) _ = _
          simp only [Act.put, qA, qB, qC, i64_w, i32_w]
          rfl
         exact norm_ (by first | (simp only [putAll, Act.put, qA, qB, qC]; done) | (simp only [putAll, Act.put, qA, qB, qC]; rfl)) (hJ2_5_7_10 (v147, v150, v153, gb158) _ ⟨hHeld, (xH HO148.out), (xH (xM HO151.out (fun _ hk => ⟨hk.2, hk.1⟩))), (xH (xM HO154.out (fun _ hk => ⟨hk.1.2, hk.2⟩))), (yH BK143.out), (yH BK144.out), (yH BK145.out), (yH BK158.out), GW158.out, GE158.out, NB143_158.out, NB158_143.out, NB144_158.out, NB158_144.out, NB145_158.out, NB158_145.out, (zH HB.out)⟩)
       ·skip
        rintro ⟨v147, v150, v153⟩ w18 ⟨hS_, h0_, h1_, h2_, h3_, h4_, h5_, h6_⟩
        (try dsimp only at h0_ h1_ h2_ h3_ h4_ h5_ h6_)
        have n0_ := aM h0_; have n1_ := aM h1_; have n2_ := aM h2_; have n3_ := aM h3_; have n4_ := aM h4_; have n5_ := aM h5_; have n6_ := aM h6_; clear BK143 BK144 BK145 HB h0_ h1_ h2_ h3_ h4_ h5_ h6_; have HO148 := n0_; have HO151 := n1_; have HO154 := n2_; have BK143 := n3_; have BK144 := n4_; have BK145 := n5_; have HB := n6_; clear n0_ n1_ n2_ n3_ n4_ n5_ n6_; have hHeld : w18.cell? ⟨gb143, 0, none⟩ = some (.slice A0_0 l0_0.length c0_0) ∧ w18.cell? ⟨gb143, 1, none⟩ = some (.slice A0_1 l0_1.length c0_1) ∧ w18.cell? ⟨gb144, 0, none⟩ = some (.int .i64 a1_0) ∧ w18.cell? ⟨gb144, 1, none⟩ = some (.string a1_1) := hS_; obtain ⟨Ao20, co20, eo20⟩ := Kd.R_slice HO154.out
        (first | subst eo20 | obtain ⟨rfl, rfl⟩ := eI eo20)
        refine norm_ (a' := ?_) ?_ ?_; rotate_left
        ·simp only [putAll, Act.put, qA, qB, qC]
         rfl
        refine two_ (i := 8) (j := 10) (Ni := some 15) (Nj := some 6) #[tT,tT,tT,tT,tT,tT,tT,tT,tT,fF,fF,fF] #[tT,tT,tT,tT,tT,tT,tT,tT,fF,fF,tT,fF] rfl rfl rfl rfl (two_of HT_.out (by kernel_rfl)) (by decide) (by decide) (fun K hK => ?_) (fun K hK => ?_)
        ·skip
         refine Kd.R_append_rows_step k42 (w0 := w) w.heap.size (by rfl) (.tmp 12) (.tmp 14) 28 42 (.agg #[(.int .i64 0), (.string ⟨#[]⟩)]) 24 rfl Try.underlying28 info42 rfl (by decide) (by omega) v150 t149 y152 _ _ _ (fun k_ => some k_ ≠ (.slice Ao20 y152.length co20 : Value).ownBlock ∧ k_ ≠ gb144) (fun _ => False) rfl rfl ?aO ?aR (fun _ _ h => h) (fun _ h => h.elim) ?aF ?aB ?aS ?aL ?_
         (case aR => repeat (first | exact (Kd.R_reads' HO154.out).2.2 | (with_reducible refine cA ?_ _) | (with_reducible refine cN ?_ _) | (with_reducible refine cD ?_)))
         (case aB => exact (zH HB.out))
         (case aF => exact (fun k_ hk => ⟨Kd.fresh' (Kd.R_lt (xH HO154.out)) k_ hk, Kd.freshB (g := gb144) (o := .cells #[.int .i64 a1_0, .string a1_1] 42 (0, 0)) (yH BK144.out) k_ hk⟩))
         (case aO => exact (xH HO151.out))
         (case aS => exact (zZ (zH HB.out)))
         (case aL => have := LMc5.out; omega)
         intro v156 w19 ho hb hg hat
         rw [← Ny155.out] at ho
         replace BK143 := aM (blk_grown (g := gb143) (o := .cells #[.slice A0_0 l0_0.length c0_0, .slice A0_1 l0_1.length c0_1] 30 (0, 0)) (yH BK143.out) hg (Kd.R_ne HO151.out BK143.out (by decide)))
         replace BK144 := aM (blk_grown (g := gb144) (o := .cells #[.int .i64 a1_0, .string a1_1] 42 (0, 0)) (yH BK144.out) hg (Kd.R_away HO151.out (fun _ hk => hk.2)))
         replace BK145 := aM (blk_grown (g := gb145) (o := .cells #[.slice none 0 0, .slice none 0 0] 30 (0, 0)) (yH BK145.out) hg (Kd.R_ne HO151.out BK145.out (by decide)))
         replace HO148 := aM (Kd.R_over' (xH HO148.out) (Kd.R_typed (xH HO151.out)) (by decide) hg)
         replace HO154 := aM (Kd.R_after (ok := (fun k_ => k_ ≠ gb144)) (xH (xM HO154.out (fun _ hk => ⟨hk.2, hk.1⟩))) hg hat)
         replace HB := aM (hb); have HO157 := aM (ho); clear HO151 ho hb hg hat; obtain ⟨Ao21, co21, eo21⟩ := Kd.R_slice HO157.out
         (first | subst eo21 | obtain ⟨rfl, rfl⟩ := eI eo21)
         obtain ⟨Ao22, co22, eo22⟩ := Kd.R_slice HO148.out
         (first | subst eo22 | obtain ⟨rfl, rfl⟩ := eI eo22)
         refine hK.out _ _ ⟨yc BK143.out 0, yc BK143.out 1, yc BK144.out 0, yc BK144.out 1⟩ (fun hHeld => ?_)
         clear hK K; refine norm_ (a' := ?_) ?_ ?_; rotate_left
         ·show Act.put _ (some 15) _ = _
          simp only [Act.put, qA, qB, qC, i64_w, i32_w]
          rfl
         refine pure_ (i := 9) (N := some 16) (v := ?_) (a' := ?_) #[tT,tT,tT,tT,tT,tT,tT,tT,tT,tT,fF,fF] rfl rfl (any_of HT_.out (by kernel_rfl)) (fun _ _ _ h => h) (Or.inl ⟨by rfl, ?_⟩) ?_ ?_
         rotate_left
         ·intro w'
          go_simp
          with_reducible rfl
         rotate_left
         ·simp only [Act.put, qA, qB, qC, i64_w, i32_w]
          rfl
         exact norm_ (by first | (simp only [putAll, Act.put, qA, qB, qC]; done) | (simp only [putAll, Act.put, qA, qB, qC]; rfl)) (hJ2_5_7_8 (.slice Ao22 t146.length co22, v150, .slice Ao20 y152.length co20, .slice Ao21 y155.length co21) _ ⟨hHeld, (xH HO148.out), (xH (xM HO154.out (fun _ hk => ⟨hk.2, hk.1⟩))), (xH HO157.out), (yH BK143.out), (yH BK144.out), (yH BK145.out), (zH HB.out)⟩)
        ·skip
         refine box_step ?hg (N := 6) ?hd (cs := #[.slice none 0 0, .slice none 0 0]) (t := 30) ?hr ?_; (case hd => rfl); (case hg => rfl); (case hr => first | (go_simp; done) | (go_simp; rfl))
         intro gb158 hg w19 hbox hb
         replace HO148 := xK HO148.out hb; replace HO151 := xK HO151.out hb; replace HO154 := xK HO154.out hb; have BK158 := aM (hbox)
         have GW158 := aM ((by rw [hg]; exact (zZ (zH HB.out)) : w.heap.size ≤ gb158))
         have GE158 := aM ((by rw [hg]; exact (zZ (zH HB.out)) : w.heap.size ≤ gb158))
         replace HB := aM (zT (zH HB.out) hb); have NB143_158 := nL BK143.out hg; have NB158_143 := nR BK143.out hg; replace BK143 := yK BK143.out hb; have NB144_158 := nL BK144.out hg; have NB158_144 := nR BK144.out hg; replace BK144 := yK BK144.out hb; have NB145_158 := nL BK145.out hg; have NB158_145 := nR BK145.out hg; replace BK145 := yK BK145.out hb; clear hb hbox hg
         refine hK.out _ _ ⟨yc BK143.out 0, yc BK143.out 1, yc BK144.out 0, yc BK144.out 1⟩ (fun hHeld => ?_)
         clear hK K; refine norm_ (a' := ?_) ?_ ?_; rotate_left
         ·show Act.put _ (some 6) _ = _
          simp only [Act.put, qA, qB, qC, i64_w, i32_w]
          rfl
         exact norm_ (by first | (simp only [putAll, Act.put, qA, qB, qC]; done) | (simp only [putAll, Act.put, qA, qB, qC]; rfl)) (hJ2_5_7_10 (v147, v150, (.slice Ao20 y152.length co20), gb158) _ ⟨hHeld, (xH HO148.out), (xH HO151.out), (xH HO154.out), (yH BK143.out), (yH BK144.out), (yH BK145.out), (yH BK158.out), GW158.out, GE158.out, NB143_158.out, NB158_143.out, NB144_158.out, NB158_144.out, NB145_158.out, NB158_145.out, (zH HB.out)⟩)
      ·skip
       rintro ⟨v147, v150, v153, gb158⟩ w19 ⟨hS_, h0_, h1_, h2_, h3_, h4_, h5_, h6_, h7_, h8_, h9_, h10_, h11_, h12_, h13_, h14_, h15_⟩
       (try dsimp only at h0_ h1_ h2_ h3_ h4_ h5_ h6_ h7_ h8_ h9_ h10_ h11_ h12_ h13_ h14_ h15_)
       have n0_ := aM h0_; have n1_ := aM h1_; have n2_ := aM h2_; have n3_ := aM h3_; have n4_ := aM h4_; have n5_ := aM h5_; have n6_ := aM h6_; have n7_ := aM h7_; have n8_ := aM h8_; have n9_ := aM h9_; have n10_ := aM h10_; have n11_ := aM h11_; have n12_ := aM h12_; have n13_ := aM h13_; have n14_ := aM h14_; have n15_ := aM h15_; clear BK143 BK144 BK145 HB h0_ h1_ h2_ h3_ h4_ h5_ h6_ h7_ h8_ h9_ h10_ h11_ h12_ h13_ h14_ h15_; have HO148 := n0_; have HO151 := n1_; have HO154 := n2_; have BK143 := n3_; have BK144 := n4_; have BK145 := n5_; have BK158 := n6_; have GW158 := n7_; have GE158 := n8_; have NB143_158 := n9_; have NB158_143 := n10_; have NB144_158 := n11_; have NB158_144 := n12_; have NB145_158 := n13_; have NB158_145 := n14_; have HB := n15_; clear n0_ n1_ n2_ n3_ n4_ n5_ n6_ n7_ n8_ n9_ n10_ n11_ n12_ n13_ n14_ n15_; have hHeld : w19.cell? ⟨gb143, 0, none⟩ = some (.slice A0_0 l0_0.length c0_0) ∧ w19.cell? ⟨gb143, 1, none⟩ = some (.slice A0_1 l0_1.length c0_1) ∧ w19.cell? ⟨gb144, 0, none⟩ = some (.int .i64 a1_0) ∧ w19.cell? ⟨gb144, 1, none⟩ = some (.string a1_1) := hS_; obtain ⟨Ao21, co21, eo21⟩ := Kd.R_slice HO154.out
       (first | subst eo21 | obtain ⟨rfl, rfl⟩ := eI eo21)
       refine norm_ (a' := ?_) ?_ ?_; rotate_left
       ·simp only [putAll, Act.put, qA, qB, qC]
        rfl
       refine one_ (i := 8) (N := some 15) #[tT,tT,tT,tT,tT,tT,tT,tT,tT,fF,tT,fF] rfl rfl (one_of HT_.out (by kernel_rfl)) (by decide) (fun K hK => ?_)
       refine Kd.R_append_rows_step k42 (w0 := w) w.heap.size (by rfl) (.tmp 12) (.tmp 14) 28 42 (.agg #[(.int .i64 0), (.string ⟨#[]⟩)]) 24 rfl Try.underlying28 info42 rfl (by decide) (by omega) v150 t149 y152 _ _ _ (fun k_ => some k_ ≠ (.slice Ao21 y152.length co21 : Value).ownBlock ∧ k_ ≠ gb144) (fun _ => False) rfl rfl ?aO ?aR (fun _ _ h => h) (fun _ h => h.elim) ?aF ?aB ?aS ?aL ?_
       (case aR => repeat (first | exact (Kd.R_reads' HO154.out).2.2 | (with_reducible refine cA ?_ _) | (with_reducible refine cN ?_ _) | (with_reducible refine cD ?_)))
       (case aB => exact (zH HB.out))
       (case aF => exact (fun k_ hk => ⟨Kd.fresh' (Kd.R_lt (xH HO154.out)) k_ hk, Kd.freshB (g := gb144) (o := .cells #[.int .i64 a1_0, .string a1_1] 42 (0, 0)) (yH BK144.out) k_ hk⟩))
       (case aO => exact (xH HO151.out))
       (case aS => exact (zZ (zH HB.out)))
       (case aL => have := LMc5.out; omega)
       intro v156 w20 ho hb hg hat
       rw [← Ny155.out] at ho
       replace BK143 := aM (blk_grown (g := gb143) (o := .cells #[.slice A0_0 l0_0.length c0_0, .slice A0_1 l0_1.length c0_1] 30 (0, 0)) (yH BK143.out) hg (Kd.R_ne HO151.out BK143.out (by decide)))
       replace BK144 := aM (blk_grown (g := gb144) (o := .cells #[.int .i64 a1_0, .string a1_1] 42 (0, 0)) (yH BK144.out) hg (Kd.R_away HO151.out (fun _ hk => hk.2)))
       replace BK145 := aM (blk_grown (g := gb145) (o := .cells #[.slice none 0 0, .slice none 0 0] 30 (0, 0)) (yH BK145.out) hg (Kd.R_ne HO151.out BK145.out (by decide)))
       replace HO148 := aM (Kd.R_over' (xH HO148.out) (Kd.R_typed (xH HO151.out)) (by decide) hg)
       replace HO154 := aM (Kd.R_after (ok := (fun k_ => k_ ≠ gb144)) (xH (xM HO154.out (fun _ hk => ⟨hk.2, hk.1⟩))) hg hat)
       replace BK158 := aM (blk_grown (g := gb158) (o := .cells #[.slice none 0 0, .slice none 0 0] 30 (0, 0)) (yH BK158.out) hg (Kd.R_ne HO151.out BK158.out (by decide)))
       replace HB := aM (hb); have HO157 := aM (ho); clear HO151 ho hb hg hat; obtain ⟨Ao22, co22, eo22⟩ := Kd.R_slice HO157.out
       (first | subst eo22 | obtain ⟨rfl, rfl⟩ := eI eo22)
       obtain ⟨Ao23, co23, eo23⟩ := Kd.R_slice HO148.out
       (first | subst eo23 | obtain ⟨rfl, rfl⟩ := eI eo23)
       refine hK.out _ _ ⟨yc BK143.out 0, yc BK143.out 1, yc BK144.out 0, yc BK144.out 1⟩ (fun hHeld => ?_)
       clear hK K; refine norm_ (a' := ?_) ?_ ?_; rotate_left
       ·show Act.put _ (some 15) _ = _
        simp only [Act.put, qA, qB, qC, i64_w, i32_w]
        rfl
       refine pure_ (i := 9) (N := some 16) (v := ?_) (a' := ?_) #[tT,tT,tT,tT,tT,tT,tT,tT,tT,tT,tT,fF] rfl rfl (any_of HT_.out (by kernel_rfl)) (fun _ _ _ h => h) (Or.inl ⟨by rfl, ?_⟩) ?_ ?_
       rotate_left
       ·intro w'
        go_simp
        with_reducible rfl
       rotate_left
       ·simp only [Act.put, qA, qB, qC, i64_w, i32_w]
        rfl
       exact norm_ (by first | (simp only [putAll, Act.put, qA, qB, qC]; done) | (simp only [putAll, Act.put, qA, qB, qC]; rfl)) (hJ2_5_7_8_10 (.slice Ao23 t146.length co23, v150, .slice Ao21 y152.length co21, .slice Ao22 y155.length co22, gb158) _ ⟨hHeld, (xH HO148.out), (xH (xM HO154.out (fun _ hk => ⟨hk.2, hk.1⟩))), (xH HO157.out), (yH BK143.out), (yH BK144.out), (yH BK145.out), (yH BK158.out), GW158.out, GE158.out, NB143_158.out, NB158_143.out, NB144_158.out, NB158_144.out, NB145_158.out, NB158_145.out, (zH HB.out)⟩)
     ·skip
      rintro ⟨v147, v150, v153, v156⟩ w22 ⟨hS_, h0_, h1_, h2_, h3_, h4_, h5_, h6_⟩
      (try dsimp only at h0_ h1_ h2_ h3_ h4_ h5_ h6_)
      have n0_ := aM h0_; have n1_ := aM h1_; have n2_ := aM h2_; have n3_ := aM h3_; have n4_ := aM h4_; have n5_ := aM h5_; have n6_ := aM h6_; clear BK143 BK144 BK145 HB h0_ h1_ h2_ h3_ h4_ h5_ h6_; have HO148 := n0_; have HO154 := n1_; have HO157 := n2_; have BK143 := n3_; have BK144 := n4_; have BK145 := n5_; have HB := n6_; clear n0_ n1_ n2_ n3_ n4_ n5_ n6_; have hHeld : w22.cell? ⟨gb143, 0, none⟩ = some (.slice A0_0 l0_0.length c0_0) ∧ w22.cell? ⟨gb143, 1, none⟩ = some (.slice A0_1 l0_1.length c0_1) ∧ w22.cell? ⟨gb144, 0, none⟩ = some (.int .i64 a1_0) ∧ w22.cell? ⟨gb144, 1, none⟩ = some (.string a1_1) := hS_; obtain ⟨Ao23, co23, eo23⟩ := Kd.R_slice HO157.out
      (first | subst eo23 | obtain ⟨rfl, rfl⟩ := eI eo23)
      obtain ⟨Ao24, co24, eo24⟩ := Kd.R_slice HO148.out
      (first | subst eo24 | obtain ⟨rfl, rfl⟩ := eI eo24)
      refine norm_ (a' := ?_) ?_ ?_; rotate_left
      ·simp only [putAll, Act.put, qA, qB, qC]
       rfl
      refine one_ (i := 10) (N := some 6) #[tT,tT,tT,tT,tT,tT,tT,tT,tT,tT,tT,fF] rfl rfl (one_of HT_.out (by kernel_rfl)) (by decide) (fun K hK => ?_)
      refine box_step ?hg (N := 6) ?hd (cs := #[.slice none 0 0, .slice none 0 0]) (t := 30) ?hr ?_; (case hd => rfl); (case hg => rfl); (case hr => first | (go_simp; done) | (go_simp; rfl))
      intro gb158 hg w25 hbox hb
      replace HO148 := xK HO148.out hb; replace HO154 := xK HO154.out hb; replace HO157 := xK HO157.out hb; have BK158 := aM (hbox)
      have GW158 := aM ((by rw [hg]; exact (zZ (zH HB.out)) : w.heap.size ≤ gb158))
      have GE158 := aM ((by rw [hg]; exact (zZ (zH HB.out)) : w.heap.size ≤ gb158))
      replace HB := aM (zT (zH HB.out) hb); have NB143_158 := nL BK143.out hg; have NB158_143 := nR BK143.out hg; replace BK143 := yK BK143.out hb; have NB144_158 := nL BK144.out hg; have NB158_144 := nR BK144.out hg; replace BK144 := yK BK144.out hb; have NB145_158 := nL BK145.out hg; have NB158_145 := nR BK145.out hg; replace BK145 := yK BK145.out hb; clear hb hbox hg
      refine hK.out _ _ ⟨yc BK143.out 0, yc BK143.out 1, yc BK144.out 0, yc BK144.out 1⟩ (fun hHeld => ?_)
      clear hK K; refine norm_ (a' := ?_) ?_ ?_; rotate_left
      ·show Act.put _ (some 6) _ = _
       simp only [Act.put, qA, qB, qC, i64_w, i32_w]
       rfl
      exact norm_ (by first | (simp only [putAll, Act.put, qA, qB, qC]; done) | (simp only [putAll, Act.put, qA, qB, qC]; rfl)) (hJ2_5_7_8_10 (.slice Ao24 t146.length co24, v150, v153, .slice Ao23 y155.length co23, gb158) _ ⟨hHeld, (xH HO148.out), (xH HO154.out), (xH HO157.out), (yH BK143.out), (yH BK144.out), (yH BK145.out), (yH BK158.out), GW158.out, GE158.out, NB143_158.out, NB158_143.out, NB144_158.out, NB158_144.out, NB145_158.out, NB158_145.out, (zH HB.out)⟩)
    rintro ⟨v147, v150, v153, v156, gb158⟩ w23 ⟨hS_, h0_, h1_, h2_, h3_, h4_, h5_, h6_, h7_, h8_, h9_, h10_, h11_, h12_, h13_, h14_, h15_⟩
    (try dsimp only at h0_ h1_ h2_ h3_ h4_ h5_ h6_ h7_ h8_ h9_ h10_ h11_ h12_ h13_ h14_ h15_)
    have n0_ := aM h0_; have n1_ := aM h1_; have n2_ := aM h2_; have n3_ := aM h3_; have n4_ := aM h4_; have n5_ := aM h5_; have n6_ := aM h6_; have n7_ := aM h7_; have n8_ := aM h8_; have n9_ := aM h9_; have n10_ := aM h10_; have n11_ := aM h11_; have n12_ := aM h12_; have n13_ := aM h13_; have n14_ := aM h14_; have n15_ := aM h15_; clear BK143 BK144 BK145 HB h0_ h1_ h2_ h3_ h4_ h5_ h6_ h7_ h8_ h9_ h10_ h11_ h12_ h13_ h14_ h15_; have HO148 := n0_; have HO154 := n1_; have HO157 := n2_; have BK143 := n3_; have BK144 := n4_; have BK145 := n5_; have BK158 := n6_; have GW158 := n7_; have GE158 := n8_; have NB143_158 := n9_; have NB158_143 := n10_; have NB144_158 := n11_; have NB158_144 := n12_; have NB145_158 := n13_; have NB158_145 := n14_; have HB := n15_; clear n0_ n1_ n2_ n3_ n4_ n5_ n6_ n7_ n8_ n9_ n10_ n11_ n12_ n13_ n14_ n15_; have hHeld : w23.cell? ⟨gb143, 0, none⟩ = some (.slice A0_0 l0_0.length c0_0) ∧ w23.cell? ⟨gb143, 1, none⟩ = some (.slice A0_1 l0_1.length c0_1) ∧ w23.cell? ⟨gb144, 0, none⟩ = some (.int .i64 a1_0) ∧ w23.cell? ⟨gb144, 1, none⟩ = some (.string a1_1) := hS_; obtain ⟨Ao24, co24, eo24⟩ := Kd.R_slice HO157.out
    (first | subst eo24 | obtain ⟨rfl, rfl⟩ := eI eo24)
    obtain ⟨Ao25, co25, eo25⟩ := Kd.R_slice HO148.out
    (first | subst eo25 | obtain ⟨rfl, rfl⟩ := eI eo25)
    refine norm_ (a' := ?_) ?_ ?_; rotate_left
    ·simp only [putAll, Act.put, qA, qB, qC]
     rfl
    refine one_ (i := 11) (N := none) #[tT,tT,tT,tT,tT,tT,tT,tT,tT,tT,tT,tT] rfl rfl (one_of HT_.out (by kernel_rfl)) (by decide) (fun K hK => ?_)
    have hs26 : w23.cell? ⟨gb158, 0, none⟩ = some (.slice none 0 0) := yc BK158.out 0; have hfs26 := yZ BK158.out 0; have hns26_0 := NB143_158.out; have hns26_1 := NB144_158.out; have hns26_2 := NB145_158.out; have hms26_0 := NB158_143.out; have hms26_1 := NB158_144.out; have hms26_2 := NB158_145.out; have hs27 : w23.cell? ⟨gb158, 1, none⟩ = some (.slice none 0 0) := yc BK158.out 1; have hfs27 := yZ BK158.out 1; have hns27_0 := NB143_158.out; have hns27_1 := NB144_158.out; have hns27_2 := NB145_158.out; have hms27_0 := NB158_143.out; have hms27_1 := NB158_144.out; have hms27_2 := NB158_145.out
    refine skip_ (w1 := ?_) (by rfl) rfl ?_ ?_
    rotate_left
    ·go_simp
     rfl
    refine hK.out _ _ ⟨((cell_far (p := ⟨gb158, _, none⟩) NB143_158.out _).trans (((cell_far (p := ⟨gb158, _, none⟩) NB143_158.out _).trans (hHeld.1)))), ((cell_far (p := ⟨gb158, _, none⟩) NB143_158.out _).trans (((cell_far (p := ⟨gb158, _, none⟩) NB143_158.out _).trans (hHeld.2.1)))), ((cell_far (p := ⟨gb158, _, none⟩) NB144_158.out _).trans (((cell_far (p := ⟨gb158, _, none⟩) NB144_158.out _).trans (hHeld.2.2.1)))), ((cell_far (p := ⟨gb158, _, none⟩) NB144_158.out _).trans (((cell_far (p := ⟨gb158, _, none⟩) NB144_158.out _).trans (hHeld.2.2.2))))⟩ (fun hHeld => ?_)
    clear hK K
    refine done_ (done_of HT_.out (by kernel_rfl)) ?_
    have hnb28 := NB143_144.out; have hnc28 := NB144_143.out; have hnb29 := NB143_145.out; have hnc29 := NB145_143.out; have hnb30 := NB143_158.out; have hnc30 := NB158_143.out; have hcz31_0 : w23.cell? ⟨gb143, 0, none⟩ = some (.slice A0_0 l0_0.length c0_0) := yc BK143.out 0; have hcz31_1 : w23.cell? ⟨gb143, 1, none⟩ = some (.slice A0_1 l0_1.length c0_1) := yc BK143.out 1; have hfz31_0 := yZ BK143.out 0; have hfz31_1 := yZ BK143.out 1
    try go_wp2_with (first | ((with_reducible refine gate_callee (f := 16) rfl ?_); refine goesL_ (some 18) rfl rfl Try.func16 (by kernel_rfl) rfl #[.agg #[.slice A0_0 l0_0.length c0_0, .slice A0_1 l0_1.length c0_1]] rfl mA ?_; (with_reducible refine (impl_GoodDevice.calls _ _ l0_0 _ _ l0_1 true _ ?side1 ?side2 ?side3 ?side4 A6.out).mono ?_); (case side1 => exact cB HR0_0.out (zH HB.out)); (case side2 => exact HC0_0.out); (case side3 => exact cB HR0_1.out (zH HB.out)); (case side4 => exact HC0_1.out); rintro e w32 ⟨rfl, hb⟩; refine ⟨_, rfl, ?_⟩; replace HO148 := aM (xB (xH ((x2 HO148.out BK158.out (by decide) (.slice Ao25 t146.length co25) (.slice Ao24 y155.length co24)))) hb); replace HO154 := aM (xB (xH ((x2 HO154.out BK158.out (by decide) (.slice Ao25 t146.length co25) (.slice Ao24 y155.length co24)))) hb); replace HO157 := aM (xB (xH ((x2 HO157.out BK158.out (by decide) (.slice Ao25 t146.length co25) (.slice Ao24 y155.length co24)))) hb); replace BK143 := aM (yB (g := gb143) (o := .cells #[.slice A0_0 l0_0.length c0_0, .slice A0_1 l0_1.length c0_1] 30 (0, 0)) (by refine yW ?_; refine yF ?_ NB143_158.out _; refine yW ?_; refine yF ?_ NB143_158.out _; refine yW ?_; exact BK143.out) hb); replace BK144 := aM (yB (g := gb144) (o := .cells #[.int .i64 a1_0, .string a1_1] 42 (0, 0)) (by refine yW ?_; refine yF ?_ NB144_158.out _; refine yW ?_; refine yF ?_ NB144_158.out _; refine yW ?_; exact BK144.out) hb); replace BK145 := aM (yB (g := gb145) (o := .cells #[.slice none 0 0, .slice none 0 0] 30 (0, 0)) (by refine yW ?_; refine yF ?_ NB145_158.out _; refine yW ?_; refine yF ?_ NB145_158.out _; refine yW ?_; exact BK145.out) hb); replace BK158 := aM (yB (g := gb158) (o := .cells #[.slice Ao25 t146.length co25, .slice Ao24 y155.length co24] 30 (0, 0)) (by refine yW ?_; refine yP (cs := #[.slice Ao25 t146.length co25, .slice none 0 0]) ?_ 1 _ rfl; refine yW ?_; refine yP (cs := #[.slice none 0 0, .slice none 0 0]) ?_ 0 _ rfl; refine yW ?_; exact BK158.out) hb); replace HB := aM (zT (zH HB.out) hb); (try clear hb); have hnb33 := NB158_144.out; have hnc33 := NB144_158.out; have hnb34 := NB158_145.out; have hnc34 := NB145_158.out; have hcz35_0 : w32.cell? ⟨gb158, 0, none⟩ = some (.slice Ao25 t146.length co25) := yc BK158.out 0; have hcz35_1 : w32.cell? ⟨gb158, 1, none⟩ = some (.slice Ao24 y155.length co24) := yc BK158.out 1; have hfz35_0 := yZ BK158.out 0; have hfz35_1 := yZ BK158.out 1) | (go_at_call 16; (with_reducible refine (impl_GoodDevice.calls _ _ t146 _ _ y155 true _ ?side1 ?side2 ?side3 ?side4 A8.out).mono ?_); (case side1 => exact cS (Kd.R_reads' HO148.out).2.2); (case side2 => exact (Kd.R_reads' HO148.out).2.1); (case side3 => exact cS (Kd.R_reads' HO157.out).2.2); (case side4 => exact (Kd.R_reads' HO157.out).2.1); rintro e w36 ⟨rfl, hb⟩; replace HO148 := xK HO148.out hb; replace HO154 := xK HO154.out hb; replace HO157 := xK HO157.out hb; replace BK143 := yK BK143.out hb; replace BK144 := yK BK144.out hb; replace BK145 := yK BK145.out hb; replace BK158 := yK BK158.out hb; replace HB := aM (zT (zH HB.out) hb); (try clear hb); have hcz37_0 : w36.cell? ⟨gb158, 0, none⟩ = some (.slice Ao25 t146.length co25) := yc BK158.out 0; have hcz37_1 : w36.cell? ⟨gb158, 1, none⟩ = some (.slice Ao24 y155.length co24) := yc BK158.out 1; have hfz37_0 := yZ BK158.out 0; have hfz37_1 := yZ BK158.out 1; have hnb38 := NB145_144.out; have hnc38 := NB144_145.out; have hcz39_0 : w36.cell? ⟨gb145, 0, none⟩ = some (.slice none 0 0) := yc BK145.out 0; have hcz39_1 : w36.cell? ⟨gb145, 1, none⟩ = some (.slice none 0 0) := yc BK145.out 1; have hfz39_0 := yZ BK145.out 0; have hfz39_1 := yZ BK145.out 1))
    refine bodyPost_ret (results_ct rfl _ _ gb145 30 #[.slice Ao25 t146.length co25, .slice Ao24 y155.length co24] (0, 0) _ rfl (by refine yW ?_; refine yP (cs := #[.slice Ao25 t146.length co25, .slice none 0 0]) ?_ 1 _ rfl; refine yW ?_; refine yP (cs := #[.slice none 0 0, .slice none 0 0]) ?_ 0 _ rfl; refine yW ?_; exact BK145.out) Try.underlying30 rfl (by kernel_rfl)) rfl ?_
    exact ⟨_, _, eW, xH (xM (xF (p := ⟨gb145, 1, none⟩) (xF (p := ⟨gb145, 0, none⟩) (xT HO148.out BK145.out (by decide)) (fun _ hk => hk.2) (.slice Ao25 t146.length co25)) (fun _ hk => hk.2) (.slice Ao24 y155.length co24)) (fun _ hk => trivial)), xH (xM (xF (p := ⟨gb145, 1, none⟩) (xF (p := ⟨gb145, 0, none⟩) (xT HO157.out BK145.out (by decide)) (fun _ hk => hk.2) (.slice Ao25 t146.length co25)) (fun _ hk => hk.2) (.slice Ao24 y155.length co24)) (fun _ hk => trivial)), zH HB.out⟩
   ·replace c9 := Bool.eq_false_iff.mpr c9
    subst c9
    have H1 : (some (([] : List ByteArray), ([] : List (S42)), false)) = some (r1, r2, r3) := by rw [if_neg (show ¬ (false = true) by decide)] at H; exact H
    clear H; have H := H1; clear H1
    simp only [Option.some.injEq, Prod.mk.injEq] at H
    obtain ⟨rfl, rfl, rfl⟩ := H
    go_enter Try.func25, Try.ntmps25
    try go_wp2_with (first | ((with_reducible refine gate_dst (N := 2) rfl ?_); refine box_event ?hg (N := 2) ?hd (cs := #[.slice A0_0 l0_0.length c0_0, .slice A0_1 l0_1.length c0_1]) (t := 30) ?hr ?_; (case hd => rfl); (case hg => rfl); (case hr => first | (go_simp; done) | (go_simp; rfl)); intro gb143 hg w40 hbox hb; have BK143 := aM (hbox); have GW143 := aM ((by rw [hg]; exact (zZ (zH HB.out)) : w.heap.size ≤ gb143)); have GE143 := aM ((by rw [hg]; exact (zZ (zH HB.out)) : w.heap.size ≤ gb143)); replace HB := aM (zT (zH HB.out) hb); clear hb hbox hg) | ((with_reducible refine gate_dst (N := 3) rfl ?_); refine box_event ?hg (N := 3) ?hd (cs := #[.int .i64 a1_0, .string a1_1]) (t := 42) ?hr ?_; (case hd => rfl); (case hg => rfl); (case hr => first | (go_simp; done) | (go_simp; rfl)); intro gb144 hg w41 hbox hb; have BK144 := aM (hbox); have GW144 := aM ((by rw [hg]; exact (zZ (zH HB.out)) : w.heap.size ≤ gb144)); have GE144 := aM ((by rw [hg]; exact (zZ (zH HB.out)) : w.heap.size ≤ gb144)); replace HB := aM (zT (zH HB.out) hb); have NB143_144 := nL BK143.out hg; have NB144_143 := nR BK143.out hg; replace BK143 := yK BK143.out hb; clear hb hbox hg) | ((with_reducible refine gate_dst (N := 4) rfl ?_); refine box_event ?hg (N := 4) ?hd (cs := #[.slice none 0 0, .slice none 0 0]) (t := 30) ?hr ?_; (case hd => rfl); (case hg => rfl); (case hr => first | (go_simp; done) | (go_simp; rfl)); intro gb145 hg w42 hbox hb; have BK145 := aM (hbox); have GW145 := aM ((by rw [hg]; exact (zZ (zH HB.out)) : w.heap.size ≤ gb145)); have GE145 := aM ((by rw [hg]; exact (zZ (zH HB.out)) : w.heap.size ≤ gb145)); replace HB := aM (zT (zH HB.out) hb); have NB143_145 := nL BK143.out hg; have NB145_143 := nR BK143.out hg; replace BK143 := yK BK143.out hb; have NB144_145 := nL BK144.out hg; have NB145_144 := nR BK144.out hg; replace BK144 := yK BK144.out hb; clear hb hbox hg))
    replace BK143 := aM (yD BK143.out); replace BK144 := aM (yD BK144.out); replace BK145 := aM (yD BK145.out); replace HB := aM (zD HB.out)
    refine start_ (n := 12) (S := fun w' => w'.cell? ⟨gb143, 0, none⟩ = some (.slice A0_0 l0_0.length c0_0) ∧ w'.cell? ⟨gb143, 1, none⟩ = some (.slice A0_1 l0_1.length c0_1) ∧ w'.cell? ⟨gb144, 0, none⟩ = some (.int .i64 a1_0) ∧ w'.cell? ⟨gb144, 1, none⟩ = some (.string a1_1)) (ds := []) #[fF,fF,fF,fF,fF,fF,fF,fF,fF,fF,fF,fF] (by kernel_rfl) rfl rfl ⟨yc BK143.out 0, yc BK143.out 1, yc BK144.out 0, yc BK144.out 1⟩ (fun hHeld => ?_); refine with_tabW impl_WriteSector.tab1 impl_WriteSector.bits1 (fun HT_ HW_ => ?_)
    generalize w42.drew = w43 at BK143 BK144 BK145 HB hHeld ⊢
    refine pure_ (i := 0) (N := some 7) (v := ?_) (a' := ?_) #[tT,fF,fF,fF,fF,fF,fF,fF,fF,fF,fF,fF] rfl rfl (any_of HT_.out (by kernel_rfl)) (fun _ _ _ h => h) (Or.inl ⟨by rfl, ?_⟩) ?_ ?_
    rotate_left
    ·intro w'
     go_simp
     with_reducible rfl
    rotate_left
    ·simp only [Act.put, qA, qB, qC, i64_w, i32_w]
     rfl
    refine pure_ (i := 3) (N := some 10) (v := ?_) (a' := ?_) #[tT,fF,fF,tT,fF,fF,fF,fF,fF,fF,fF,fF] rfl rfl (any_of HT_.out (by kernel_rfl)) (fun _ _ _ h => h) (Or.inl ⟨by rfl, ?_⟩) ?_ ?_
    rotate_left
    ·intro w'
     go_simp
     with_reducible rfl
    rotate_left
    ·simp only [Act.put, qA, qB, qC, i64_w, i32_w]
     rfl
    refine take_ (i := 1) (N := some 8) (v := ?_) (a' := ?_) #[tT,tT,fF,tT,fF,fF,fF,fF,fF,fF,fF,fF] rfl rfl (take_ofW HT_.out HW_.out (by kernel_rfl)) (fun _ _ _ h => h) (Or.inl ⟨by rfl, ?_⟩) hHeld ?_ ?_
    rotate_left
    ·rintro w' ⟨s0, s1, s2, s3⟩
     go_simp
     with_reducible rfl
    rotate_left
    ·simp only [Act.put, qA, qB, qC, i64_w, i32_w]
     rfl
    refine take_ (i := 4) (N := some 11) (v := ?_) (a' := ?_) #[tT,tT,fF,tT,tT,fF,fF,fF,fF,fF,fF,fF] rfl rfl (take_ofW HT_.out HW_.out (by kernel_rfl)) (fun _ _ _ h => h) (Or.inl ⟨by rfl, ?_⟩) hHeld ?_ ?_
    rotate_left
    ·rintro w' ⟨s0, s1, s2, s3⟩
     go_simp
     with_reducible rfl
    rotate_left
    ·simp only [Act.put, qA, qB, qC, i64_w, i32_w]
     rfl
    refine take_ (i := 6) (N := some 13) (v := ?_) (a' := ?_) #[tT,tT,fF,tT,tT,fF,tT,fF,fF,fF,fF,fF] rfl rfl (take_ofW HT_.out HW_.out (by kernel_rfl)) (fun _ _ _ h => h) (Or.inl ⟨by rfl, ?_⟩) hHeld ?_ ?_
    rotate_left
    ·rintro w' ⟨s0, s1, s2, s3⟩
     go_simp
     with_reducible rfl
    rotate_left
    ·simp only [Act.put, qA, qB, qC, i64_w, i32_w]
     rfl
    refine join_ (σ := Value × Value × Value × Value × Nat) 1 #[tT,tT,tT,tT,tT,tT,tT,tT,tT,tT,tT,fF] (fun s_ => [(9, s_.1), (12, s_.2.1), (14, s_.2.2.1), (15, s_.2.2.2.1), (6, .pointer (some ⟨s_.2.2.2.2, 0, none⟩)), (16, .agg #[s_.1, s_.2.2.2.1])]) (fun s_ w' => (w'.cell? ⟨gb143, 0, none⟩ = some (.slice A0_0 l0_0.length c0_0) ∧ w'.cell? ⟨gb143, 1, none⟩ = some (.slice A0_1 l0_1.length c0_1) ∧ w'.cell? ⟨gb144, 0, none⟩ = some (.int .i64 a1_0) ∧ w'.cell? ⟨gb144, 1, none⟩ = some (.string a1_1)) ∧ (Kd.R Kd.string 9 w' w.heap.size (fun _ => True) s_.1 t146) ∧ (Kd.R k42 42 w' w.heap.size (fun k_ => some k_ ≠ (s_.2.2.2.1 : Value).ownBlock ∧ k_ ≠ gb144) s_.2.2.1 y152) ∧ (Kd.R k42 42 w' w.heap.size (fun k_ => some k_ ≠ (s_.2.2.1 : Value).ownBlock ∧ k_ ≠ gb144) s_.2.2.2.1 y155) ∧ (w'.heap[gb143]? = some (.cells #[.slice A0_0 l0_0.length c0_0, .slice A0_1 l0_1.length c0_1] 30 (0, 0))) ∧ (w'.heap[gb144]? = some (.cells #[.int .i64 a1_0, .string a1_1] 42 (0, 0))) ∧ (w'.heap[gb145]? = some (.cells #[.slice none 0 0, .slice none 0 0] 30 (0, 0))) ∧ (w'.heap[s_.2.2.2.2]? = some (.cells #[.slice none 0 0, .slice none 0 0] 30 (0, 0))) ∧ (w.heap.size ≤ s_.2.2.2.2) ∧ (w.heap.size ≤ s_.2.2.2.2) ∧ (gb143 ≠ s_.2.2.2.2) ∧ (s_.2.2.2.2 ≠ gb143) ∧ (gb144 ≠ s_.2.2.2.2) ∧ (s_.2.2.2.2 ≠ gb144) ∧ (gb145 ≠ s_.2.2.2.2) ∧ (s_.2.2.2.2 ≠ gb145) ∧ (Below w.heap.size w w')) ?_ ?_
    rotate_left
    ·intro hJ2_5_7_8_10
     refine join_ (σ := Value × Value × Value × Value) 2 #[tT,tT,tT,tT,tT,tT,tT,tT,tT,tT,fF,fF] (fun s_ => [(9, s_.1), (12, s_.2.1), (14, s_.2.2.1), (15, s_.2.2.2), (16, .agg #[s_.1, s_.2.2.2])]) (fun s_ w' => (w'.cell? ⟨gb143, 0, none⟩ = some (.slice A0_0 l0_0.length c0_0) ∧ w'.cell? ⟨gb143, 1, none⟩ = some (.slice A0_1 l0_1.length c0_1) ∧ w'.cell? ⟨gb144, 0, none⟩ = some (.int .i64 a1_0) ∧ w'.cell? ⟨gb144, 1, none⟩ = some (.string a1_1)) ∧ (Kd.R Kd.string 9 w' w.heap.size (fun _ => True) s_.1 t146) ∧ (Kd.R k42 42 w' w.heap.size (fun k_ => some k_ ≠ (s_.2.2.2 : Value).ownBlock ∧ k_ ≠ gb144) s_.2.2.1 y152) ∧ (Kd.R k42 42 w' w.heap.size (fun k_ => some k_ ≠ (s_.2.2.1 : Value).ownBlock ∧ k_ ≠ gb144) s_.2.2.2 y155) ∧ (w'.heap[gb143]? = some (.cells #[.slice A0_0 l0_0.length c0_0, .slice A0_1 l0_1.length c0_1] 30 (0, 0))) ∧ (w'.heap[gb144]? = some (.cells #[.int .i64 a1_0, .string a1_1] 42 (0, 0))) ∧ (w'.heap[gb145]? = some (.cells #[.slice none 0 0, .slice none 0 0] 30 (0, 0))) ∧ (Below w.heap.size w w')) ?_ ?_
     rotate_left
     ·intro hJ2_5_7_8
      refine join_ (σ := Value × Value × Value × Nat) 3 #[tT,tT,tT,tT,tT,tT,tT,tT,fF,fF,tT,fF] (fun s_ => [(9, s_.1), (12, s_.2.1), (14, s_.2.2.1), (6, .pointer (some ⟨s_.2.2.2, 0, none⟩))]) (fun s_ w' => (w'.cell? ⟨gb143, 0, none⟩ = some (.slice A0_0 l0_0.length c0_0) ∧ w'.cell? ⟨gb143, 1, none⟩ = some (.slice A0_1 l0_1.length c0_1) ∧ w'.cell? ⟨gb144, 0, none⟩ = some (.int .i64 a1_0) ∧ w'.cell? ⟨gb144, 1, none⟩ = some (.string a1_1)) ∧ (Kd.R Kd.string 9 w' w.heap.size (fun _ => True) s_.1 t146) ∧ (Kd.R k42 42 w' w.heap.size (fun k_ => some k_ ≠ (s_.2.2.1 : Value).ownBlock ∧ k_ ≠ gb144) s_.2.1 t149) ∧ (Kd.R k42 42 w' w.heap.size (fun k_ => some k_ ≠ (s_.2.1 : Value).ownBlock ∧ k_ ≠ gb144) s_.2.2.1 y152) ∧ (w'.heap[gb143]? = some (.cells #[.slice A0_0 l0_0.length c0_0, .slice A0_1 l0_1.length c0_1] 30 (0, 0))) ∧ (w'.heap[gb144]? = some (.cells #[.int .i64 a1_0, .string a1_1] 42 (0, 0))) ∧ (w'.heap[gb145]? = some (.cells #[.slice none 0 0, .slice none 0 0] 30 (0, 0))) ∧ (w'.heap[s_.2.2.2]? = some (.cells #[.slice none 0 0, .slice none 0 0] 30 (0, 0))) ∧ (w.heap.size ≤ s_.2.2.2) ∧ (w.heap.size ≤ s_.2.2.2) ∧ (gb143 ≠ s_.2.2.2) ∧ (s_.2.2.2 ≠ gb143) ∧ (gb144 ≠ s_.2.2.2) ∧ (s_.2.2.2 ≠ gb144) ∧ (gb145 ≠ s_.2.2.2) ∧ (s_.2.2.2 ≠ gb145) ∧ (Below w.heap.size w w')) ?_ ?_
      rotate_left
      ·intro hJ2_5_7_10
       refine join_ (σ := Value × Value × Value) 4 #[tT,tT,tT,tT,tT,tT,tT,tT,fF,fF,fF,fF] (fun s_ => [(9, s_.1), (12, s_.2.1), (14, s_.2.2)]) (fun s_ w' => (w'.cell? ⟨gb143, 0, none⟩ = some (.slice A0_0 l0_0.length c0_0) ∧ w'.cell? ⟨gb143, 1, none⟩ = some (.slice A0_1 l0_1.length c0_1) ∧ w'.cell? ⟨gb144, 0, none⟩ = some (.int .i64 a1_0) ∧ w'.cell? ⟨gb144, 1, none⟩ = some (.string a1_1)) ∧ (Kd.R Kd.string 9 w' w.heap.size (fun _ => True) s_.1 t146) ∧ (Kd.R k42 42 w' w.heap.size (fun k_ => some k_ ≠ (s_.2.2 : Value).ownBlock ∧ k_ ≠ gb144) s_.2.1 t149) ∧ (Kd.R k42 42 w' w.heap.size (fun k_ => some k_ ≠ (s_.2.1 : Value).ownBlock ∧ k_ ≠ gb144) s_.2.2 y152) ∧ (w'.heap[gb143]? = some (.cells #[.slice A0_0 l0_0.length c0_0, .slice A0_1 l0_1.length c0_1] 30 (0, 0))) ∧ (w'.heap[gb144]? = some (.cells #[.int .i64 a1_0, .string a1_1] 42 (0, 0))) ∧ (w'.heap[gb145]? = some (.cells #[.slice none 0 0, .slice none 0 0] 30 (0, 0))) ∧ (Below w.heap.size w w')) ?_ ?_
       rotate_left
       ·intro hJ2_5_7
        refine join_ (σ := Value × Value × Nat) 4 #[tT,tT,tT,tT,tT,tT,tT,fF,fF,fF,tT,fF] (fun s_ => [(9, s_.1), (12, s_.2.1), (6, .pointer (some ⟨s_.2.2, 0, none⟩))]) (fun s_ w' => (w'.cell? ⟨gb143, 0, none⟩ = some (.slice A0_0 l0_0.length c0_0) ∧ w'.cell? ⟨gb143, 1, none⟩ = some (.slice A0_1 l0_1.length c0_1) ∧ w'.cell? ⟨gb144, 0, none⟩ = some (.int .i64 a1_0) ∧ w'.cell? ⟨gb144, 1, none⟩ = some (.string a1_1)) ∧ (Kd.R Kd.string 9 w' w.heap.size (fun _ => True) s_.1 t146) ∧ (Kd.R k42 42 w' w.heap.size (fun k_ => k_ ≠ gb144) s_.2.1 t149) ∧ (w'.heap[gb143]? = some (.cells #[.slice A0_0 l0_0.length c0_0, .slice A0_1 l0_1.length c0_1] 30 (0, 0))) ∧ (w'.heap[gb144]? = some (.cells #[.int .i64 a1_0, .string a1_1] 42 (0, 0))) ∧ (w'.heap[gb145]? = some (.cells #[.slice none 0 0, .slice none 0 0] 30 (0, 0))) ∧ (w'.heap[s_.2.2]? = some (.cells #[.slice none 0 0, .slice none 0 0] 30 (0, 0))) ∧ (w.heap.size ≤ s_.2.2) ∧ (w.heap.size ≤ s_.2.2) ∧ (gb143 ≠ s_.2.2) ∧ (s_.2.2 ≠ gb143) ∧ (gb144 ≠ s_.2.2) ∧ (s_.2.2 ≠ gb144) ∧ (gb145 ≠ s_.2.2) ∧ (s_.2.2 ≠ gb145) ∧ (Below w.heap.size w w')) ?_ ?_
        rotate_left
        ·intro hJ2_5_10
         refine join_ (σ := Value × Value × Nat) 4 #[tT,tT,tT,tT,tT,fF,tT,tT,fF,fF,tT,fF] (fun s_ => [(9, s_.1), (14, s_.2.1), (6, .pointer (some ⟨s_.2.2, 0, none⟩))]) (fun s_ w' => (w'.cell? ⟨gb143, 0, none⟩ = some (.slice A0_0 l0_0.length c0_0) ∧ w'.cell? ⟨gb143, 1, none⟩ = some (.slice A0_1 l0_1.length c0_1) ∧ w'.cell? ⟨gb144, 0, none⟩ = some (.int .i64 a1_0) ∧ w'.cell? ⟨gb144, 1, none⟩ = some (.string a1_1)) ∧ (Kd.R Kd.string 9 w' w.heap.size (fun _ => True) s_.1 t146) ∧ (Kd.R k42 42 w' w.heap.size (fun k_ => k_ ≠ gb144) s_.2.1 y152) ∧ (w'.heap[gb143]? = some (.cells #[.slice A0_0 l0_0.length c0_0, .slice A0_1 l0_1.length c0_1] 30 (0, 0))) ∧ (w'.heap[gb144]? = some (.cells #[.int .i64 a1_0, .string a1_1] 42 (0, 0))) ∧ (w'.heap[gb145]? = some (.cells #[.slice none 0 0, .slice none 0 0] 30 (0, 0))) ∧ (w'.heap[s_.2.2]? = some (.cells #[.slice none 0 0, .slice none 0 0] 30 (0, 0))) ∧ (w.heap.size ≤ s_.2.2) ∧ (w.heap.size ≤ s_.2.2) ∧ (gb143 ≠ s_.2.2) ∧ (s_.2.2 ≠ gb143) ∧ (gb144 ≠ s_.2.2) ∧ (s_.2.2 ≠ gb144) ∧ (gb145 ≠ s_.2.2) ∧ (s_.2.2 ≠ gb145) ∧ (Below w.heap.size w w')) ?_ ?_
         rotate_left
         ·intro hJ2_7_10
          refine join_ (σ := Value × Value) 5 #[tT,tT,tT,tT,tT,tT,tT,fF,fF,fF,fF,fF] (fun s_ => [(9, s_.1), (12, s_.2)]) (fun s_ w' => (w'.cell? ⟨gb143, 0, none⟩ = some (.slice A0_0 l0_0.length c0_0) ∧ w'.cell? ⟨gb143, 1, none⟩ = some (.slice A0_1 l0_1.length c0_1) ∧ w'.cell? ⟨gb144, 0, none⟩ = some (.int .i64 a1_0) ∧ w'.cell? ⟨gb144, 1, none⟩ = some (.string a1_1)) ∧ (Kd.R Kd.string 9 w' w.heap.size (fun _ => True) s_.1 t146) ∧ (Kd.R k42 42 w' w.heap.size (fun k_ => k_ ≠ gb144) s_.2 t149) ∧ (w'.heap[gb143]? = some (.cells #[.slice A0_0 l0_0.length c0_0, .slice A0_1 l0_1.length c0_1] 30 (0, 0))) ∧ (w'.heap[gb144]? = some (.cells #[.int .i64 a1_0, .string a1_1] 42 (0, 0))) ∧ (w'.heap[gb145]? = some (.cells #[.slice none 0 0, .slice none 0 0] 30 (0, 0))) ∧ (Below w.heap.size w w')) ?_ ?_
          rotate_left
          ·intro hJ2_5
           refine join_ (σ := Value × Value) 5 #[tT,tT,tT,tT,tT,fF,tT,tT,fF,fF,fF,fF] (fun s_ => [(9, s_.1), (14, s_.2)]) (fun s_ w' => (w'.cell? ⟨gb143, 0, none⟩ = some (.slice A0_0 l0_0.length c0_0) ∧ w'.cell? ⟨gb143, 1, none⟩ = some (.slice A0_1 l0_1.length c0_1) ∧ w'.cell? ⟨gb144, 0, none⟩ = some (.int .i64 a1_0) ∧ w'.cell? ⟨gb144, 1, none⟩ = some (.string a1_1)) ∧ (Kd.R Kd.string 9 w' w.heap.size (fun _ => True) s_.1 t146) ∧ (Kd.R k42 42 w' w.heap.size (fun k_ => k_ ≠ gb144) s_.2 y152) ∧ (w'.heap[gb143]? = some (.cells #[.slice A0_0 l0_0.length c0_0, .slice A0_1 l0_1.length c0_1] 30 (0, 0))) ∧ (w'.heap[gb144]? = some (.cells #[.int .i64 a1_0, .string a1_1] 42 (0, 0))) ∧ (w'.heap[gb145]? = some (.cells #[.slice none 0 0, .slice none 0 0] 30 (0, 0))) ∧ (Below w.heap.size w w')) ?_ ?_
           rotate_left
           ·intro hJ2_7
            refine join_ (σ := Value × Nat) 5 #[tT,tT,tT,tT,tT,fF,tT,fF,fF,fF,tT,fF] (fun s_ => [(9, s_.1), (6, .pointer (some ⟨s_.2, 0, none⟩))]) (fun s_ w' => (w'.cell? ⟨gb143, 0, none⟩ = some (.slice A0_0 l0_0.length c0_0) ∧ w'.cell? ⟨gb143, 1, none⟩ = some (.slice A0_1 l0_1.length c0_1) ∧ w'.cell? ⟨gb144, 0, none⟩ = some (.int .i64 a1_0) ∧ w'.cell? ⟨gb144, 1, none⟩ = some (.string a1_1)) ∧ (Kd.R Kd.string 9 w' w.heap.size (fun _ => True) s_.1 t146) ∧ (w'.heap[gb143]? = some (.cells #[.slice A0_0 l0_0.length c0_0, .slice A0_1 l0_1.length c0_1] 30 (0, 0))) ∧ (w'.heap[gb144]? = some (.cells #[.int .i64 a1_0, .string a1_1] 42 (0, 0))) ∧ (w'.heap[gb145]? = some (.cells #[.slice none 0 0, .slice none 0 0] 30 (0, 0))) ∧ (w'.heap[s_.2]? = some (.cells #[.slice none 0 0, .slice none 0 0] 30 (0, 0))) ∧ (w.heap.size ≤ s_.2) ∧ (w.heap.size ≤ s_.2) ∧ (gb143 ≠ s_.2) ∧ (s_.2 ≠ gb143) ∧ (gb144 ≠ s_.2) ∧ (s_.2 ≠ gb144) ∧ (gb145 ≠ s_.2) ∧ (s_.2 ≠ gb145) ∧ (Below w.heap.size w w')) ?_ ?_
            rotate_left
            ·intro hJ2_10
             refine join_ (σ := Value × Nat) 5 #[tT,tT,fF,tT,tT,fF,tT,tT,fF,fF,tT,fF] (fun s_ => [(14, s_.1), (6, .pointer (some ⟨s_.2, 0, none⟩))]) (fun s_ w' => (w'.cell? ⟨gb143, 0, none⟩ = some (.slice A0_0 l0_0.length c0_0) ∧ w'.cell? ⟨gb143, 1, none⟩ = some (.slice A0_1 l0_1.length c0_1) ∧ w'.cell? ⟨gb144, 0, none⟩ = some (.int .i64 a1_0) ∧ w'.cell? ⟨gb144, 1, none⟩ = some (.string a1_1)) ∧ (Kd.R k42 42 w' w.heap.size (fun k_ => k_ ≠ gb144) s_.1 y152) ∧ (w'.heap[gb143]? = some (.cells #[.slice A0_0 l0_0.length c0_0, .slice A0_1 l0_1.length c0_1] 30 (0, 0))) ∧ (w'.heap[gb144]? = some (.cells #[.int .i64 a1_0, .string a1_1] 42 (0, 0))) ∧ (w'.heap[gb145]? = some (.cells #[.slice none 0 0, .slice none 0 0] 30 (0, 0))) ∧ (w'.heap[s_.2]? = some (.cells #[.slice none 0 0, .slice none 0 0] 30 (0, 0))) ∧ (w.heap.size ≤ s_.2) ∧ (w.heap.size ≤ s_.2) ∧ (gb143 ≠ s_.2) ∧ (s_.2 ≠ gb143) ∧ (gb144 ≠ s_.2) ∧ (s_.2 ≠ gb144) ∧ (gb145 ≠ s_.2) ∧ (s_.2 ≠ gb145) ∧ (Below w.heap.size w w')) ?_ ?_
             rotate_left
             ·intro hJ7_10
              refine join_ (σ := Value) 6 #[tT,tT,tT,tT,tT,fF,tT,fF,fF,fF,fF,fF] (fun s_ => [(9, s_)]) (fun s_ w' => (w'.cell? ⟨gb143, 0, none⟩ = some (.slice A0_0 l0_0.length c0_0) ∧ w'.cell? ⟨gb143, 1, none⟩ = some (.slice A0_1 l0_1.length c0_1) ∧ w'.cell? ⟨gb144, 0, none⟩ = some (.int .i64 a1_0) ∧ w'.cell? ⟨gb144, 1, none⟩ = some (.string a1_1)) ∧ (Kd.R Kd.string 9 w' w.heap.size (fun _ => True) s_ t146) ∧ (w'.heap[gb143]? = some (.cells #[.slice A0_0 l0_0.length c0_0, .slice A0_1 l0_1.length c0_1] 30 (0, 0))) ∧ (w'.heap[gb144]? = some (.cells #[.int .i64 a1_0, .string a1_1] 42 (0, 0))) ∧ (w'.heap[gb145]? = some (.cells #[.slice none 0 0, .slice none 0 0] 30 (0, 0))) ∧ (Below w.heap.size w w')) ?_ ?_
              rotate_left
              ·intro hJ2
               refine join_ (σ := Value) 6 #[tT,tT,fF,tT,tT,fF,tT,tT,fF,fF,fF,fF] (fun s_ => [(14, s_)]) (fun s_ w' => (w'.cell? ⟨gb143, 0, none⟩ = some (.slice A0_0 l0_0.length c0_0) ∧ w'.cell? ⟨gb143, 1, none⟩ = some (.slice A0_1 l0_1.length c0_1) ∧ w'.cell? ⟨gb144, 0, none⟩ = some (.int .i64 a1_0) ∧ w'.cell? ⟨gb144, 1, none⟩ = some (.string a1_1)) ∧ (Kd.R k42 42 w' w.heap.size (fun k_ => k_ ≠ gb144) s_ y152) ∧ (w'.heap[gb143]? = some (.cells #[.slice A0_0 l0_0.length c0_0, .slice A0_1 l0_1.length c0_1] 30 (0, 0))) ∧ (w'.heap[gb144]? = some (.cells #[.int .i64 a1_0, .string a1_1] 42 (0, 0))) ∧ (w'.heap[gb145]? = some (.cells #[.slice none 0 0, .slice none 0 0] 30 (0, 0))) ∧ (Below w.heap.size w w')) ?_ ?_
               rotate_left
               ·intro hJ7
                refine join_ (σ := Nat) 6 #[tT,tT,fF,tT,tT,fF,tT,fF,fF,fF,tT,fF] (fun s_ => [(6, .pointer (some ⟨s_, 0, none⟩))]) (fun s_ w' => (w'.cell? ⟨gb143, 0, none⟩ = some (.slice A0_0 l0_0.length c0_0) ∧ w'.cell? ⟨gb143, 1, none⟩ = some (.slice A0_1 l0_1.length c0_1) ∧ w'.cell? ⟨gb144, 0, none⟩ = some (.int .i64 a1_0) ∧ w'.cell? ⟨gb144, 1, none⟩ = some (.string a1_1)) ∧ (w'.heap[gb143]? = some (.cells #[.slice A0_0 l0_0.length c0_0, .slice A0_1 l0_1.length c0_1] 30 (0, 0))) ∧ (w'.heap[gb144]? = some (.cells #[.int .i64 a1_0, .string a1_1] 42 (0, 0))) ∧ (w'.heap[gb145]? = some (.cells #[.slice none 0 0, .slice none 0 0] 30 (0, 0))) ∧ (w'.heap[s_]? = some (.cells #[.slice none 0 0, .slice none 0 0] 30 (0, 0))) ∧ (w.heap.size ≤ s_) ∧ (w.heap.size ≤ s_) ∧ (gb143 ≠ s_) ∧ (s_ ≠ gb143) ∧ (gb144 ≠ s_) ∧ (s_ ≠ gb144) ∧ (gb145 ≠ s_) ∧ (s_ ≠ gb145) ∧ (Below w.heap.size w w')) ?_ ?_
                rotate_left
                ·intro hJ10
                 refine three_ (i := 2) (j := 7) (k := 10) (Ni := some 9) (Nj := some 14) (Nk := some 6) #[tT,tT,tT,tT,tT,fF,tT,fF,fF,fF,fF,fF] #[tT,tT,fF,tT,tT,fF,tT,tT,fF,fF,fF,fF] #[tT,tT,fF,tT,tT,fF,tT,fF,fF,fF,tT,fF] rfl rfl rfl rfl rfl rfl (three_of HT_.out (by kernel_rfl)) (by decide) (by decide) (by decide) (fun K hK => ?_) (fun K hK => ?_) (fun K hK => ?_)
                 ·skip
                  refine gS Try.func66 (by kernel_rfl) rfl #[.slice A0_0 l0_0.length c0_0] (by rfl) rfl rfl ?_
                  with_reducible refine (slices_Clone_string_string.calls _ _ l0_0 t146 _ ?side1 ?side2 A3.out).mono ?_
                  (case side1 => exact cK HR0_0.out HB.out)
                  (case side2 => exact HC0_0.out)
                  rintro e w44 ⟨v147, rfl, ho0, hb⟩
                  refine ⟨_, rfl, ?_⟩
                  have HO148 := aM (xL ho0 (zZ (zH HB.out))); replace BK143 := yK BK143.out hb; replace BK144 := yK BK144.out hb; replace BK145 := yK BK145.out hb; replace HB := aM (zT (zH HB.out) hb)
                  (try clear hb); (try clear ho0)
                  refine hK.out _ _ ⟨yc BK143.out 0, yc BK143.out 1, yc BK144.out 0, yc BK144.out 1⟩ (fun hHeld => ?_)
                  clear hK K; refine norm_ (a' := ?_) ?_ ?_; rotate_left
                  ·show Act.put _ (some 9) _ = _
                   simp only [Act.put, qA, qB, qC, i64_w, i32_w]
                   rfl
                  exact norm_ (by first | (simp only [putAll, Act.put, qA, qB, qC]; done) | (simp only [putAll, Act.put, qA, qB, qC]; rfl)) (hJ2 (v147) _ ⟨hHeld, (xH HO148.out), (yH BK143.out), (yH BK144.out), (yH BK145.out), (zH HB.out)⟩)
                 ·skip
                  refine Kd.R_lit_step k42 _ 42 ?hg (N := 14) ?hd (xs := ([(⟨a1_0, a1_1⟩ : S42)] : List (S42))) (inner := [.int .i64 a1_0, .string a1_1]) (ok := fun _ => True) (okp := fun _ => True) ?hr ?hp (fun _ hk => hk) trivial (Below.refl _ _) (Nat.le_refl _) (by simp) ?_; (case hd => rfl); (case hg => rfl); (case hr => first | (go_simp; done) | (go_simp; rfl)); (case hp => exact (Reps.c2 (show Kd.M k42 _ _ _ (⟨a1_0, a1_1⟩ : S42) [.int .i64 a1_0, .string a1_1] from (k42_mkM _ _ _ (⟨a1_0, a1_1⟩ : S42) )) (Reps.none _ _)))
                  intro v153 w44 ho45 hb hg_ hnew_
                  clear hg_ hnew_
                  (first | rw [← Ny152.out] at ho45 | (simp only [Int.reduceToNat] at ho45; rw [← Ny152.out] at ho45))
                  have HO154 := aM (xL (Kd.R_newB ho45 (g := gb144) (o := .cells #[.int .i64 a1_0, .string a1_1] 42 (0, 0)) (yH BK144.out)) (zZ (zH HB.out))); replace BK143 := yK BK143.out hb; replace BK144 := yK BK144.out hb; replace BK145 := yK BK145.out hb; replace HB := aM (zT (zH HB.out) hb); clear hb ho45
                  refine hK.out _ _ ⟨yc BK143.out 0, yc BK143.out 1, yc BK144.out 0, yc BK144.out 1⟩ (fun hHeld => ?_)
                  clear hK K; refine norm_ (a' := ?_) ?_ ?_; rotate_left
                  ·show Act.put _ (some 14) _ = _
                   simp only [Act.put, qA, qB, qC, i64_w, i32_w]
                   rfl
                  exact norm_ (by first | (simp only [putAll, Act.put, qA, qB, qC]; done) | (simp only [putAll, Act.put, qA, qB, qC]; rfl)) (hJ7 (v153) _ ⟨hHeld, (xH (xM HO154.out (fun _ hk => hk.2))), (yH BK143.out), (yH BK144.out), (yH BK145.out), (zH HB.out)⟩)
                 ·skip
                  refine box_step ?hg (N := 6) ?hd (cs := #[.slice none 0 0, .slice none 0 0]) (t := 30) ?hr ?_; (case hd => rfl); (case hg => rfl); (case hr => first | (go_simp; done) | (go_simp; rfl))
                  intro gb158 hg w44 hbox hb
                  have BK158 := aM (hbox)
                  have GW158 := aM ((by rw [hg]; exact (zZ (zH HB.out)) : w.heap.size ≤ gb158))
                  have GE158 := aM ((by rw [hg]; exact (zZ (zH HB.out)) : w.heap.size ≤ gb158))
                  replace HB := aM (zT (zH HB.out) hb); have NB143_158 := nL BK143.out hg; have NB158_143 := nR BK143.out hg; replace BK143 := yK BK143.out hb; have NB144_158 := nL BK144.out hg; have NB158_144 := nR BK144.out hg; replace BK144 := yK BK144.out hb; have NB145_158 := nL BK145.out hg; have NB158_145 := nR BK145.out hg; replace BK145 := yK BK145.out hb; clear hb hbox hg
                  refine hK.out _ _ ⟨yc BK143.out 0, yc BK143.out 1, yc BK144.out 0, yc BK144.out 1⟩ (fun hHeld => ?_)
                  clear hK K; refine norm_ (a' := ?_) ?_ ?_; rotate_left
                  ·show Act.put _ (some 6) _ = _
                   simp only [Act.put, qA, qB, qC, i64_w, i32_w]
                   rfl
                  exact norm_ (by first | (simp only [putAll, Act.put, qA, qB, qC]; done) | (simp only [putAll, Act.put, qA, qB, qC]; rfl)) (hJ10 (gb158) _ ⟨hHeld, (yH BK143.out), (yH BK144.out), (yH BK145.out), (yH BK158.out), GW158.out, GE158.out, NB143_158.out, NB158_143.out, NB144_158.out, NB158_144.out, NB145_158.out, NB158_145.out, (zH HB.out)⟩)
                ·skip
                 rintro gb158 w45 ⟨hS_, h0_, h1_, h2_, h3_, h4_, h5_, h6_, h7_, h8_, h9_, h10_, h11_, h12_⟩
                 (try dsimp only at h0_ h1_ h2_ h3_ h4_ h5_ h6_ h7_ h8_ h9_ h10_ h11_ h12_)
                 have n0_ := aM h0_; have n1_ := aM h1_; have n2_ := aM h2_; have n3_ := aM h3_; have n4_ := aM h4_; have n5_ := aM h5_; have n6_ := aM h6_; have n7_ := aM h7_; have n8_ := aM h8_; have n9_ := aM h9_; have n10_ := aM h10_; have n11_ := aM h11_; have n12_ := aM h12_; clear BK143 BK144 BK145 HB h0_ h1_ h2_ h3_ h4_ h5_ h6_ h7_ h8_ h9_ h10_ h11_ h12_; have BK143 := n0_; have BK144 := n1_; have BK145 := n2_; have BK158 := n3_; have GW158 := n4_; have GE158 := n5_; have NB143_158 := n6_; have NB158_143 := n7_; have NB144_158 := n8_; have NB158_144 := n9_; have NB145_158 := n10_; have NB158_145 := n11_; have HB := n12_; clear n0_ n1_ n2_ n3_ n4_ n5_ n6_ n7_ n8_ n9_ n10_ n11_ n12_; have hHeld : w45.cell? ⟨gb143, 0, none⟩ = some (.slice A0_0 l0_0.length c0_0) ∧ w45.cell? ⟨gb143, 1, none⟩ = some (.slice A0_1 l0_1.length c0_1) ∧ w45.cell? ⟨gb144, 0, none⟩ = some (.int .i64 a1_0) ∧ w45.cell? ⟨gb144, 1, none⟩ = some (.string a1_1) := hS_; refine norm_ (a' := ?_) ?_ ?_; rotate_left
                 ·simp only [putAll, Act.put, qA, qB, qC]
                  rfl
                 refine two_ (i := 2) (j := 7) (Ni := some 9) (Nj := some 14) #[tT,tT,tT,tT,tT,fF,tT,fF,fF,fF,tT,fF] #[tT,tT,fF,tT,tT,fF,tT,tT,fF,fF,tT,fF] rfl rfl rfl rfl (two_of HT_.out (by kernel_rfl)) (by decide) (by decide) (fun K hK => ?_) (fun K hK => ?_)
                 ·skip
                  refine gS Try.func66 (by kernel_rfl) rfl #[.slice A0_0 l0_0.length c0_0] (by rfl) rfl rfl ?_
                  with_reducible refine (slices_Clone_string_string.calls _ _ l0_0 t146 _ ?side1 ?side2 A3.out).mono ?_
                  (case side1 => exact cK HR0_0.out HB.out)
                  (case side2 => exact HC0_0.out)
                  rintro e w46 ⟨v147, rfl, ho0, hb⟩
                  refine ⟨_, rfl, ?_⟩
                  have HO148 := aM (xL ho0 (zZ (zH HB.out))); replace BK143 := yK BK143.out hb; replace BK144 := yK BK144.out hb; replace BK145 := yK BK145.out hb; replace BK158 := yK BK158.out hb; replace HB := aM (zT (zH HB.out) hb)
                  (try clear hb); (try clear ho0)
                  refine hK.out _ _ ⟨yc BK143.out 0, yc BK143.out 1, yc BK144.out 0, yc BK144.out 1⟩ (fun hHeld => ?_)
                  clear hK K; refine norm_ (a' := ?_) ?_ ?_; rotate_left
                  ·show Act.put _ (some 9) _ = _
                   simp only [Act.put, qA, qB, qC, i64_w, i32_w]
                   rfl
                  exact norm_ (by first | (simp only [putAll, Act.put, qA, qB, qC]; done) | (simp only [putAll, Act.put, qA, qB, qC]; rfl)) (hJ2_10 (v147, gb158) _ ⟨hHeld, (xH HO148.out), (yH BK143.out), (yH BK144.out), (yH BK145.out), (yH BK158.out), GW158.out, GE158.out, NB143_158.out, NB158_143.out, NB144_158.out, NB158_144.out, NB145_158.out, NB158_145.out, (zH HB.out)⟩)
                 ·skip
                  refine Kd.R_lit_step k42 _ 42 ?hg (N := 14) ?hd (xs := ([(⟨a1_0, a1_1⟩ : S42)] : List (S42))) (inner := [.int .i64 a1_0, .string a1_1]) (ok := fun _ => True) (okp := fun _ => True) ?hr ?hp (fun _ hk => hk) trivial (Below.refl _ _) (Nat.le_refl _) (by simp) ?_; (case hd => rfl); (case hg => rfl); (case hr => first | (go_simp; done) | (go_simp; rfl)); (case hp => exact (Reps.c2 (show Kd.M k42 _ _ _ (⟨a1_0, a1_1⟩ : S42) [.int .i64 a1_0, .string a1_1] from (k42_mkM _ _ _ (⟨a1_0, a1_1⟩ : S42) )) (Reps.none _ _)))
                  intro v153 w46 ho47 hb hg_ hnew_
                  clear hg_ hnew_
                  (first | rw [← Ny152.out] at ho47 | (simp only [Int.reduceToNat] at ho47; rw [← Ny152.out] at ho47))
                  have HO154 := aM (xL (Kd.R_newB ho47 (g := gb144) (o := .cells #[.int .i64 a1_0, .string a1_1] 42 (0, 0)) (yH BK144.out)) (zZ (zH HB.out))); replace BK143 := yK BK143.out hb; replace BK144 := yK BK144.out hb; replace BK145 := yK BK145.out hb; replace BK158 := yK BK158.out hb; replace HB := aM (zT (zH HB.out) hb); clear hb ho47
                  refine hK.out _ _ ⟨yc BK143.out 0, yc BK143.out 1, yc BK144.out 0, yc BK144.out 1⟩ (fun hHeld => ?_)
                  clear hK K; refine norm_ (a' := ?_) ?_ ?_; rotate_left
                  ·show Act.put _ (some 14) _ = _
                   simp only [Act.put, qA, qB, qC, i64_w, i32_w]
                   rfl
                  exact norm_ (by first | (simp only [putAll, Act.put, qA, qB, qC]; done) | (simp only [putAll, Act.put, qA, qB, qC]; rfl)) (hJ7_10 (v153, gb158) _ ⟨hHeld, (xH (xM HO154.out (fun _ hk => hk.2))), (yH BK143.out), (yH BK144.out), (yH BK145.out), (yH BK158.out), GW158.out, GE158.out, NB143_158.out, NB158_143.out, NB144_158.out, NB158_144.out, NB145_158.out, NB158_145.out, (zH HB.out)⟩)
               ·skip
                rintro v153 w46 ⟨hS_, h0_, h1_, h2_, h3_, h4_⟩
                (try dsimp only at h0_ h1_ h2_ h3_ h4_)
                have n0_ := aM h0_; have n1_ := aM h1_; have n2_ := aM h2_; have n3_ := aM h3_; have n4_ := aM h4_; clear BK143 BK144 BK145 HB h0_ h1_ h2_ h3_ h4_; have HO154 := n0_; have BK143 := n1_; have BK144 := n2_; have BK145 := n3_; have HB := n4_; clear n0_ n1_ n2_ n3_ n4_; have hHeld : w46.cell? ⟨gb143, 0, none⟩ = some (.slice A0_0 l0_0.length c0_0) ∧ w46.cell? ⟨gb143, 1, none⟩ = some (.slice A0_1 l0_1.length c0_1) ∧ w46.cell? ⟨gb144, 0, none⟩ = some (.int .i64 a1_0) ∧ w46.cell? ⟨gb144, 1, none⟩ = some (.string a1_1) := hS_; refine norm_ (a' := ?_) ?_ ?_; rotate_left
                ·simp only [putAll, Act.put, qA, qB, qC]
                 rfl
                refine two_ (i := 2) (j := 10) (Ni := some 9) (Nj := some 6) #[tT,tT,tT,tT,tT,fF,tT,tT,fF,fF,fF,fF] #[tT,tT,fF,tT,tT,fF,tT,tT,fF,fF,tT,fF] rfl rfl rfl rfl (two_of HT_.out (by kernel_rfl)) (by decide) (by decide) (fun K hK => ?_) (fun K hK => ?_)
                ·skip
                 refine gS Try.func66 (by kernel_rfl) rfl #[.slice A0_0 l0_0.length c0_0] (by rfl) rfl rfl ?_
                 with_reducible refine (slices_Clone_string_string.calls _ _ l0_0 t146 _ ?side1 ?side2 A3.out).mono ?_
                 (case side1 => exact cK HR0_0.out HB.out)
                 (case side2 => exact HC0_0.out)
                 rintro e w47 ⟨v147, rfl, ho0, hb⟩
                 refine ⟨_, rfl, ?_⟩
                 replace HO154 := xK HO154.out hb; have HO148 := aM (xL ho0 (zZ (zH HB.out))); replace BK143 := yK BK143.out hb; replace BK144 := yK BK144.out hb; replace BK145 := yK BK145.out hb; replace HB := aM (zT (zH HB.out) hb)
                 (try clear hb); (try clear ho0)
                 refine hK.out _ _ ⟨yc BK143.out 0, yc BK143.out 1, yc BK144.out 0, yc BK144.out 1⟩ (fun hHeld => ?_)
                 clear hK K; refine norm_ (a' := ?_) ?_ ?_; rotate_left
                 ·show Act.put _ (some 9) _ = _
                  simp only [Act.put, qA, qB, qC, i64_w, i32_w]
                  rfl
                 exact norm_ (by first | (simp only [putAll, Act.put, qA, qB, qC]; done) | (simp only [putAll, Act.put, qA, qB, qC]; rfl)) (hJ2_7 (v147, v153) _ ⟨hHeld, (xH HO148.out), (xH HO154.out), (yH BK143.out), (yH BK144.out), (yH BK145.out), (zH HB.out)⟩)
                ·skip
                 refine box_step ?hg (N := 6) ?hd (cs := #[.slice none 0 0, .slice none 0 0]) (t := 30) ?hr ?_; (case hd => rfl); (case hg => rfl); (case hr => first | (go_simp; done) | (go_simp; rfl))
                 intro gb158 hg w47 hbox hb
                 replace HO154 := xK HO154.out hb; have BK158 := aM (hbox)
                 have GW158 := aM ((by rw [hg]; exact (zZ (zH HB.out)) : w.heap.size ≤ gb158))
                 have GE158 := aM ((by rw [hg]; exact (zZ (zH HB.out)) : w.heap.size ≤ gb158))
                 replace HB := aM (zT (zH HB.out) hb); have NB143_158 := nL BK143.out hg; have NB158_143 := nR BK143.out hg; replace BK143 := yK BK143.out hb; have NB144_158 := nL BK144.out hg; have NB158_144 := nR BK144.out hg; replace BK144 := yK BK144.out hb; have NB145_158 := nL BK145.out hg; have NB158_145 := nR BK145.out hg; replace BK145 := yK BK145.out hb; clear hb hbox hg
                 refine hK.out _ _ ⟨yc BK143.out 0, yc BK143.out 1, yc BK144.out 0, yc BK144.out 1⟩ (fun hHeld => ?_)
                 clear hK K; refine norm_ (a' := ?_) ?_ ?_; rotate_left
                 ·show Act.put _ (some 6) _ = _
                  simp only [Act.put, qA, qB, qC, i64_w, i32_w]
                  rfl
                 exact norm_ (by first | (simp only [putAll, Act.put, qA, qB, qC]; done) | (simp only [putAll, Act.put, qA, qB, qC]; rfl)) (hJ7_10 (v153, gb158) _ ⟨hHeld, (xH HO154.out), (yH BK143.out), (yH BK144.out), (yH BK145.out), (yH BK158.out), GW158.out, GE158.out, NB143_158.out, NB158_143.out, NB144_158.out, NB158_144.out, NB145_158.out, NB158_145.out, (zH HB.out)⟩)
              ·skip
               rintro v147 w45 ⟨hS_, h0_, h1_, h2_, h3_, h4_⟩
               (try dsimp only at h0_ h1_ h2_ h3_ h4_)
               have n0_ := aM h0_; have n1_ := aM h1_; have n2_ := aM h2_; have n3_ := aM h3_; have n4_ := aM h4_; clear BK143 BK144 BK145 HB h0_ h1_ h2_ h3_ h4_; have HO148 := n0_; have BK143 := n1_; have BK144 := n2_; have BK145 := n3_; have HB := n4_; clear n0_ n1_ n2_ n3_ n4_; have hHeld : w45.cell? ⟨gb143, 0, none⟩ = some (.slice A0_0 l0_0.length c0_0) ∧ w45.cell? ⟨gb143, 1, none⟩ = some (.slice A0_1 l0_1.length c0_1) ∧ w45.cell? ⟨gb144, 0, none⟩ = some (.int .i64 a1_0) ∧ w45.cell? ⟨gb144, 1, none⟩ = some (.string a1_1) := hS_; refine norm_ (a' := ?_) ?_ ?_; rotate_left
               ·simp only [putAll, Act.put, qA, qB, qC]
                rfl
               refine three_ (i := 5) (j := 7) (k := 10) (Ni := some 12) (Nj := some 14) (Nk := some 6) #[tT,tT,tT,tT,tT,tT,tT,fF,fF,fF,fF,fF] #[tT,tT,tT,tT,tT,fF,tT,tT,fF,fF,fF,fF] #[tT,tT,tT,tT,tT,fF,tT,fF,fF,fF,tT,fF] rfl rfl rfl rfl rfl rfl (three_of HT_.out (by kernel_rfl)) (by decide) (by decide) (by decide) (fun K hK => ?_) (fun K hK => ?_) (fun K hK => ?_)
               ·skip
                refine gS Try.func67 (by kernel_rfl) rfl #[.slice A0_1 l0_1.length c0_1] (by rfl) rfl rfl ?_
                with_reducible refine (impl_Write.calls _ _ l0_1 t149 _ ?side1 ?side2 A4.out).mono ?_
                (case side1 => exact cK HR0_1.out HB.out)
                (case side2 => exact HC0_1.out)
                rintro e w46 ⟨v150, rfl, ho0, hb⟩
                refine ⟨_, rfl, ?_⟩
                replace HO148 := xK HO148.out hb; have HO151 := aM (xL (Kd.R_newB ho0 (g := gb144) (o := .cells #[.int .i64 a1_0, .string a1_1] 42 (0, 0)) (yH BK144.out)) (zZ (zH HB.out))); replace BK143 := yK BK143.out hb; replace BK144 := yK BK144.out hb; replace BK145 := yK BK145.out hb; replace HB := aM (zT (zH HB.out) hb)
                (try clear hb); (try clear ho0)
                refine hK.out _ _ ⟨yc BK143.out 0, yc BK143.out 1, yc BK144.out 0, yc BK144.out 1⟩ (fun hHeld => ?_)
                clear hK K; refine norm_ (a' := ?_) ?_ ?_; rotate_left
                ·show Act.put _ (some 12) _ = _
                 simp only [Act.put, qA, qB, qC, i64_w, i32_w]
                 rfl
                exact norm_ (by first | (simp only [putAll, Act.put, qA, qB, qC]; done) | (simp only [putAll, Act.put, qA, qB, qC]; rfl)) (hJ2_5 (v147, v150) _ ⟨hHeld, (xH HO148.out), (xH (xM HO151.out (fun _ hk => hk.2))), (yH BK143.out), (yH BK144.out), (yH BK145.out), (zH HB.out)⟩)
               ·skip
                refine Kd.R_lit_step k42 _ 42 ?hg (N := 14) ?hd (xs := ([(⟨a1_0, a1_1⟩ : S42)] : List (S42))) (inner := [.int .i64 a1_0, .string a1_1]) (ok := fun _ => True) (okp := fun _ => True) ?hr ?hp (fun _ hk => hk) trivial (Below.refl _ _) (Nat.le_refl _) (by simp) ?_; (case hd => rfl); (case hg => rfl); (case hr => first | (go_simp; done) | (go_simp; rfl)); (case hp => exact (Reps.c2 (show Kd.M k42 _ _ _ (⟨a1_0, a1_1⟩ : S42) [.int .i64 a1_0, .string a1_1] from (k42_mkM _ _ _ (⟨a1_0, a1_1⟩ : S42) )) (Reps.none _ _)))
                intro v153 w46 ho47 hb hg_ hnew_
                clear hg_ hnew_
                (first | rw [← Ny152.out] at ho47 | (simp only [Int.reduceToNat] at ho47; rw [← Ny152.out] at ho47))
                replace HO148 := xK HO148.out hb; have HO154 := aM (xL (Kd.R_newB ho47 (g := gb144) (o := .cells #[.int .i64 a1_0, .string a1_1] 42 (0, 0)) (yH BK144.out)) (zZ (zH HB.out))); replace BK143 := yK BK143.out hb; replace BK144 := yK BK144.out hb; replace BK145 := yK BK145.out hb; replace HB := aM (zT (zH HB.out) hb); clear hb ho47
                refine hK.out _ _ ⟨yc BK143.out 0, yc BK143.out 1, yc BK144.out 0, yc BK144.out 1⟩ (fun hHeld => ?_)
                clear hK K; refine norm_ (a' := ?_) ?_ ?_; rotate_left
                ·show Act.put _ (some 14) _ = _
                 simp only [Act.put, qA, qB, qC, i64_w, i32_w]
                 rfl
                exact norm_ (by first | (simp only [putAll, Act.put, qA, qB, qC]; done) | (simp only [putAll, Act.put, qA, qB, qC]; rfl)) (hJ2_7 (v147, v153) _ ⟨hHeld, (xH HO148.out), (xH (xM HO154.out (fun _ hk => hk.2))), (yH BK143.out), (yH BK144.out), (yH BK145.out), (zH HB.out)⟩)
               ·skip
                refine box_step ?hg (N := 6) ?hd (cs := #[.slice none 0 0, .slice none 0 0]) (t := 30) ?hr ?_; (case hd => rfl); (case hg => rfl); (case hr => first | (go_simp; done) | (go_simp; rfl))
                intro gb158 hg w46 hbox hb
                replace HO148 := xK HO148.out hb; have BK158 := aM (hbox)
                have GW158 := aM ((by rw [hg]; exact (zZ (zH HB.out)) : w.heap.size ≤ gb158))
                have GE158 := aM ((by rw [hg]; exact (zZ (zH HB.out)) : w.heap.size ≤ gb158))
                replace HB := aM (zT (zH HB.out) hb); have NB143_158 := nL BK143.out hg; have NB158_143 := nR BK143.out hg; replace BK143 := yK BK143.out hb; have NB144_158 := nL BK144.out hg; have NB158_144 := nR BK144.out hg; replace BK144 := yK BK144.out hb; have NB145_158 := nL BK145.out hg; have NB158_145 := nR BK145.out hg; replace BK145 := yK BK145.out hb; clear hb hbox hg
                refine hK.out _ _ ⟨yc BK143.out 0, yc BK143.out 1, yc BK144.out 0, yc BK144.out 1⟩ (fun hHeld => ?_)
                clear hK K; refine norm_ (a' := ?_) ?_ ?_; rotate_left
                ·show Act.put _ (some 6) _ = _
                 simp only [Act.put, qA, qB, qC, i64_w, i32_w]
                 rfl
                exact norm_ (by first | (simp only [putAll, Act.put, qA, qB, qC]; done) | (simp only [putAll, Act.put, qA, qB, qC]; rfl)) (hJ2_10 (v147, gb158) _ ⟨hHeld, (xH HO148.out), (yH BK143.out), (yH BK144.out), (yH BK145.out), (yH BK158.out), GW158.out, GE158.out, NB143_158.out, NB158_143.out, NB144_158.out, NB158_144.out, NB145_158.out, NB158_145.out, (zH HB.out)⟩)
             ·skip
              rintro ⟨v153, gb158⟩ w47 ⟨hS_, h0_, h1_, h2_, h3_, h4_, h5_, h6_, h7_, h8_, h9_, h10_, h11_, h12_, h13_⟩
              (try dsimp only at h0_ h1_ h2_ h3_ h4_ h5_ h6_ h7_ h8_ h9_ h10_ h11_ h12_ h13_)
              have n0_ := aM h0_; have n1_ := aM h1_; have n2_ := aM h2_; have n3_ := aM h3_; have n4_ := aM h4_; have n5_ := aM h5_; have n6_ := aM h6_; have n7_ := aM h7_; have n8_ := aM h8_; have n9_ := aM h9_; have n10_ := aM h10_; have n11_ := aM h11_; have n12_ := aM h12_; have n13_ := aM h13_; clear BK143 BK144 BK145 HB h0_ h1_ h2_ h3_ h4_ h5_ h6_ h7_ h8_ h9_ h10_ h11_ h12_ h13_; have HO154 := n0_; have BK143 := n1_; have BK144 := n2_; have BK145 := n3_; have BK158 := n4_; have GW158 := n5_; have GE158 := n6_; have NB143_158 := n7_; have NB158_143 := n8_; have NB144_158 := n9_; have NB158_144 := n10_; have NB145_158 := n11_; have NB158_145 := n12_; have HB := n13_; clear n0_ n1_ n2_ n3_ n4_ n5_ n6_ n7_ n8_ n9_ n10_ n11_ n12_ n13_; have hHeld : w47.cell? ⟨gb143, 0, none⟩ = some (.slice A0_0 l0_0.length c0_0) ∧ w47.cell? ⟨gb143, 1, none⟩ = some (.slice A0_1 l0_1.length c0_1) ∧ w47.cell? ⟨gb144, 0, none⟩ = some (.int .i64 a1_0) ∧ w47.cell? ⟨gb144, 1, none⟩ = some (.string a1_1) := hS_; refine norm_ (a' := ?_) ?_ ?_; rotate_left
              ·simp only [putAll, Act.put, qA, qB, qC]
               rfl
              refine one_ (i := 2) (N := some 9) #[tT,tT,tT,tT,tT,fF,tT,tT,fF,fF,tT,fF] rfl rfl (one_of HT_.out (by kernel_rfl)) (by decide) (fun K hK => ?_)
              refine gS Try.func66 (by kernel_rfl) rfl #[.slice A0_0 l0_0.length c0_0] (by rfl) rfl rfl ?_
              with_reducible refine (slices_Clone_string_string.calls _ _ l0_0 t146 _ ?side1 ?side2 A3.out).mono ?_
              (case side1 => exact cK HR0_0.out HB.out)
              (case side2 => exact HC0_0.out)
              rintro e w48 ⟨v147, rfl, ho0, hb⟩
              refine ⟨_, rfl, ?_⟩
              replace HO154 := xK HO154.out hb; have HO148 := aM (xL ho0 (zZ (zH HB.out))); replace BK143 := yK BK143.out hb; replace BK144 := yK BK144.out hb; replace BK145 := yK BK145.out hb; replace BK158 := yK BK158.out hb; replace HB := aM (zT (zH HB.out) hb)
              (try clear hb); (try clear ho0)
              refine hK.out _ _ ⟨yc BK143.out 0, yc BK143.out 1, yc BK144.out 0, yc BK144.out 1⟩ (fun hHeld => ?_)
              clear hK K; refine norm_ (a' := ?_) ?_ ?_; rotate_left
              ·show Act.put _ (some 9) _ = _
               simp only [Act.put, qA, qB, qC, i64_w, i32_w]
               rfl
              exact norm_ (by first | (simp only [putAll, Act.put, qA, qB, qC]; done) | (simp only [putAll, Act.put, qA, qB, qC]; rfl)) (hJ2_7_10 (v147, v153, gb158) _ ⟨hHeld, (xH HO148.out), (xH HO154.out), (yH BK143.out), (yH BK144.out), (yH BK145.out), (yH BK158.out), GW158.out, GE158.out, NB143_158.out, NB158_143.out, NB144_158.out, NB158_144.out, NB145_158.out, NB158_145.out, (zH HB.out)⟩)
            ·skip
             rintro ⟨v147, gb158⟩ w46 ⟨hS_, h0_, h1_, h2_, h3_, h4_, h5_, h6_, h7_, h8_, h9_, h10_, h11_, h12_, h13_⟩
             (try dsimp only at h0_ h1_ h2_ h3_ h4_ h5_ h6_ h7_ h8_ h9_ h10_ h11_ h12_ h13_)
             have n0_ := aM h0_; have n1_ := aM h1_; have n2_ := aM h2_; have n3_ := aM h3_; have n4_ := aM h4_; have n5_ := aM h5_; have n6_ := aM h6_; have n7_ := aM h7_; have n8_ := aM h8_; have n9_ := aM h9_; have n10_ := aM h10_; have n11_ := aM h11_; have n12_ := aM h12_; have n13_ := aM h13_; clear BK143 BK144 BK145 HB h0_ h1_ h2_ h3_ h4_ h5_ h6_ h7_ h8_ h9_ h10_ h11_ h12_ h13_; have HO148 := n0_; have BK143 := n1_; have BK144 := n2_; have BK145 := n3_; have BK158 := n4_; have GW158 := n5_; have GE158 := n6_; have NB143_158 := n7_; have NB158_143 := n8_; have NB144_158 := n9_; have NB158_144 := n10_; have NB145_158 := n11_; have NB158_145 := n12_; have HB := n13_; clear n0_ n1_ n2_ n3_ n4_ n5_ n6_ n7_ n8_ n9_ n10_ n11_ n12_ n13_; have hHeld : w46.cell? ⟨gb143, 0, none⟩ = some (.slice A0_0 l0_0.length c0_0) ∧ w46.cell? ⟨gb143, 1, none⟩ = some (.slice A0_1 l0_1.length c0_1) ∧ w46.cell? ⟨gb144, 0, none⟩ = some (.int .i64 a1_0) ∧ w46.cell? ⟨gb144, 1, none⟩ = some (.string a1_1) := hS_; refine norm_ (a' := ?_) ?_ ?_; rotate_left
             ·simp only [putAll, Act.put, qA, qB, qC]
              rfl
             refine two_ (i := 5) (j := 7) (Ni := some 12) (Nj := some 14) #[tT,tT,tT,tT,tT,tT,tT,fF,fF,fF,tT,fF] #[tT,tT,tT,tT,tT,fF,tT,tT,fF,fF,tT,fF] rfl rfl rfl rfl (two_of HT_.out (by kernel_rfl)) (by decide) (by decide) (fun K hK => ?_) (fun K hK => ?_)
             ·skip
              refine gS Try.func67 (by kernel_rfl) rfl #[.slice A0_1 l0_1.length c0_1] (by rfl) rfl rfl ?_
              with_reducible refine (impl_Write.calls _ _ l0_1 t149 _ ?side1 ?side2 A4.out).mono ?_
              (case side1 => exact cK HR0_1.out HB.out)
              (case side2 => exact HC0_1.out)
              rintro e w47 ⟨v150, rfl, ho0, hb⟩
              refine ⟨_, rfl, ?_⟩
              replace HO148 := xK HO148.out hb; have HO151 := aM (xL (Kd.R_newB ho0 (g := gb144) (o := .cells #[.int .i64 a1_0, .string a1_1] 42 (0, 0)) (yH BK144.out)) (zZ (zH HB.out))); replace BK143 := yK BK143.out hb; replace BK144 := yK BK144.out hb; replace BK145 := yK BK145.out hb; replace BK158 := yK BK158.out hb; replace HB := aM (zT (zH HB.out) hb)
              (try clear hb); (try clear ho0)
              refine hK.out _ _ ⟨yc BK143.out 0, yc BK143.out 1, yc BK144.out 0, yc BK144.out 1⟩ (fun hHeld => ?_)
              clear hK K; refine norm_ (a' := ?_) ?_ ?_; rotate_left
              ·show Act.put _ (some 12) _ = _
               simp only [Act.put, qA, qB, qC, i64_w, i32_w]
               rfl
              exact norm_ (by first | (simp only [putAll, Act.put, qA, qB, qC]; done) | (simp only [putAll, Act.put, qA, qB, qC]; rfl)) (hJ2_5_10 (v147, v150, gb158) _ ⟨hHeld, (xH HO148.out), (xH (xM HO151.out (fun _ hk => hk.2))), (yH BK143.out), (yH BK144.out), (yH BK145.out), (yH BK158.out), GW158.out, GE158.out, NB143_158.out, NB158_143.out, NB144_158.out, NB158_144.out, NB145_158.out, NB158_145.out, (zH HB.out)⟩)
             ·skip
              refine Kd.R_lit_step k42 _ 42 ?hg (N := 14) ?hd (xs := ([(⟨a1_0, a1_1⟩ : S42)] : List (S42))) (inner := [.int .i64 a1_0, .string a1_1]) (ok := fun _ => True) (okp := fun _ => True) ?hr ?hp (fun _ hk => hk) trivial (Below.refl _ _) (Nat.le_refl _) (by simp) ?_; (case hd => rfl); (case hg => rfl); (case hr => first | (go_simp; done) | (go_simp; rfl)); (case hp => exact (Reps.c2 (show Kd.M k42 _ _ _ (⟨a1_0, a1_1⟩ : S42) [.int .i64 a1_0, .string a1_1] from (k42_mkM _ _ _ (⟨a1_0, a1_1⟩ : S42) )) (Reps.none _ _)))
              intro v153 w47 ho48 hb hg_ hnew_
              clear hg_ hnew_
              (first | rw [← Ny152.out] at ho48 | (simp only [Int.reduceToNat] at ho48; rw [← Ny152.out] at ho48))
              replace HO148 := xK HO148.out hb; have HO154 := aM (xL (Kd.R_newB ho48 (g := gb144) (o := .cells #[.int .i64 a1_0, .string a1_1] 42 (0, 0)) (yH BK144.out)) (zZ (zH HB.out))); replace BK143 := yK BK143.out hb; replace BK144 := yK BK144.out hb; replace BK145 := yK BK145.out hb; replace BK158 := yK BK158.out hb; replace HB := aM (zT (zH HB.out) hb); clear hb ho48
              refine hK.out _ _ ⟨yc BK143.out 0, yc BK143.out 1, yc BK144.out 0, yc BK144.out 1⟩ (fun hHeld => ?_)
              clear hK K; refine norm_ (a' := ?_) ?_ ?_; rotate_left
              ·show Act.put _ (some 14) _ = _
               simp only [Act.put, qA, qB, qC, i64_w, i32_w]
               rfl
              exact norm_ (by first | (simp only [putAll, Act.put, qA, qB, qC]; done) | (simp only [putAll, Act.put, qA, qB, qC]; rfl)) (hJ2_7_10 (v147, v153, gb158) _ ⟨hHeld, (xH HO148.out), (xH (xM HO154.out (fun _ hk => hk.2))), (yH BK143.out), (yH BK144.out), (yH BK145.out), (yH BK158.out), GW158.out, GE158.out, NB143_158.out, NB158_143.out, NB144_158.out, NB158_144.out, NB145_158.out, NB158_145.out, (zH HB.out)⟩)
           ·skip
            rintro ⟨v147, v153⟩ w47 ⟨hS_, h0_, h1_, h2_, h3_, h4_, h5_⟩
            (try dsimp only at h0_ h1_ h2_ h3_ h4_ h5_)
            have n0_ := aM h0_; have n1_ := aM h1_; have n2_ := aM h2_; have n3_ := aM h3_; have n4_ := aM h4_; have n5_ := aM h5_; clear BK143 BK144 BK145 HB h0_ h1_ h2_ h3_ h4_ h5_; have HO148 := n0_; have HO154 := n1_; have BK143 := n2_; have BK144 := n3_; have BK145 := n4_; have HB := n5_; clear n0_ n1_ n2_ n3_ n4_ n5_; have hHeld : w47.cell? ⟨gb143, 0, none⟩ = some (.slice A0_0 l0_0.length c0_0) ∧ w47.cell? ⟨gb143, 1, none⟩ = some (.slice A0_1 l0_1.length c0_1) ∧ w47.cell? ⟨gb144, 0, none⟩ = some (.int .i64 a1_0) ∧ w47.cell? ⟨gb144, 1, none⟩ = some (.string a1_1) := hS_; refine norm_ (a' := ?_) ?_ ?_; rotate_left
            ·simp only [putAll, Act.put, qA, qB, qC]
             rfl
            refine two_ (i := 5) (j := 10) (Ni := some 12) (Nj := some 6) #[tT,tT,tT,tT,tT,tT,tT,tT,fF,fF,fF,fF] #[tT,tT,tT,tT,tT,fF,tT,tT,fF,fF,tT,fF] rfl rfl rfl rfl (two_of HT_.out (by kernel_rfl)) (by decide) (by decide) (fun K hK => ?_) (fun K hK => ?_)
            ·skip
             refine gS Try.func67 (by kernel_rfl) rfl #[.slice A0_1 l0_1.length c0_1] (by rfl) rfl rfl ?_
             with_reducible refine (impl_Write.calls _ _ l0_1 t149 _ ?side1 ?side2 A4.out).mono ?_
             (case side1 => exact cK HR0_1.out HB.out)
             (case side2 => exact HC0_1.out)
             rintro e w48 ⟨v150, rfl, ho0, hb⟩
             refine ⟨_, rfl, ?_⟩
             replace HO148 := xK HO148.out hb; have HO151 := aM (xL (Kd.R_newB (Kd.R_new' ho0 (Kd.R_lt (xH HO154.out))) (g := gb144) (o := .cells #[.int .i64 a1_0, .string a1_1] 42 (0, 0)) (yH BK144.out)) (zZ (zH HB.out))); replace HO154 := aM (Kd.R_elder' (xH HO154.out) (Kd.R_base ho0) hb); replace BK143 := yK BK143.out hb; replace BK144 := yK BK144.out hb; replace BK145 := yK BK145.out hb; replace HB := aM (zT (zH HB.out) hb)
             (try clear hb); (try clear ho0)
             refine hK.out _ _ ⟨yc BK143.out 0, yc BK143.out 1, yc BK144.out 0, yc BK144.out 1⟩ (fun hHeld => ?_)
             clear hK K; refine norm_ (a' := ?_) ?_ ?_; rotate_left
             ·show Act.put _ (some 12) _ = _
              simp only [Act.put, qA, qB, qC, i64_w, i32_w]
              rfl
             exact norm_ (by first | (simp only [putAll, Act.put, qA, qB, qC]; done) | (simp only [putAll, Act.put, qA, qB, qC]; rfl)) (hJ2_5_7 (v147, v150, v153) _ ⟨hHeld, (xH HO148.out), (xH (xM HO151.out (fun _ hk => ⟨hk.1.2, hk.2⟩))), (xH (xM HO154.out (fun _ hk => ⟨hk.2, hk.1⟩))), (yH BK143.out), (yH BK144.out), (yH BK145.out), (zH HB.out)⟩)
            ·skip
             refine box_step ?hg (N := 6) ?hd (cs := #[.slice none 0 0, .slice none 0 0]) (t := 30) ?hr ?_; (case hd => rfl); (case hg => rfl); (case hr => first | (go_simp; done) | (go_simp; rfl))
             intro gb158 hg w48 hbox hb
             replace HO148 := xK HO148.out hb; replace HO154 := xK HO154.out hb; have BK158 := aM (hbox)
             have GW158 := aM ((by rw [hg]; exact (zZ (zH HB.out)) : w.heap.size ≤ gb158))
             have GE158 := aM ((by rw [hg]; exact (zZ (zH HB.out)) : w.heap.size ≤ gb158))
             replace HB := aM (zT (zH HB.out) hb); have NB143_158 := nL BK143.out hg; have NB158_143 := nR BK143.out hg; replace BK143 := yK BK143.out hb; have NB144_158 := nL BK144.out hg; have NB158_144 := nR BK144.out hg; replace BK144 := yK BK144.out hb; have NB145_158 := nL BK145.out hg; have NB158_145 := nR BK145.out hg; replace BK145 := yK BK145.out hb; clear hb hbox hg
             refine hK.out _ _ ⟨yc BK143.out 0, yc BK143.out 1, yc BK144.out 0, yc BK144.out 1⟩ (fun hHeld => ?_)
             clear hK K; refine norm_ (a' := ?_) ?_ ?_; rotate_left
             ·show Act.put _ (some 6) _ = _
              simp only [Act.put, qA, qB, qC, i64_w, i32_w]
              rfl
             exact norm_ (by first | (simp only [putAll, Act.put, qA, qB, qC]; done) | (simp only [putAll, Act.put, qA, qB, qC]; rfl)) (hJ2_7_10 (v147, v153, gb158) _ ⟨hHeld, (xH HO148.out), (xH HO154.out), (yH BK143.out), (yH BK144.out), (yH BK145.out), (yH BK158.out), GW158.out, GE158.out, NB143_158.out, NB158_143.out, NB144_158.out, NB158_144.out, NB145_158.out, NB158_145.out, (zH HB.out)⟩)
          ·skip
           rintro ⟨v147, v150⟩ w46 ⟨hS_, h0_, h1_, h2_, h3_, h4_, h5_⟩
           (try dsimp only at h0_ h1_ h2_ h3_ h4_ h5_)
           have n0_ := aM h0_; have n1_ := aM h1_; have n2_ := aM h2_; have n3_ := aM h3_; have n4_ := aM h4_; have n5_ := aM h5_; clear BK143 BK144 BK145 HB h0_ h1_ h2_ h3_ h4_ h5_; have HO148 := n0_; have HO151 := n1_; have BK143 := n2_; have BK144 := n3_; have BK145 := n4_; have HB := n5_; clear n0_ n1_ n2_ n3_ n4_ n5_; have hHeld : w46.cell? ⟨gb143, 0, none⟩ = some (.slice A0_0 l0_0.length c0_0) ∧ w46.cell? ⟨gb143, 1, none⟩ = some (.slice A0_1 l0_1.length c0_1) ∧ w46.cell? ⟨gb144, 0, none⟩ = some (.int .i64 a1_0) ∧ w46.cell? ⟨gb144, 1, none⟩ = some (.string a1_1) := hS_; refine norm_ (a' := ?_) ?_ ?_; rotate_left
           ·simp only [putAll, Act.put, qA, qB, qC]
            rfl
           refine two_ (i := 7) (j := 10) (Ni := some 14) (Nj := some 6) #[tT,tT,tT,tT,tT,tT,tT,tT,fF,fF,fF,fF] #[tT,tT,tT,tT,tT,tT,tT,fF,fF,fF,tT,fF] rfl rfl rfl rfl (two_of HT_.out (by kernel_rfl)) (by decide) (by decide) (fun K hK => ?_) (fun K hK => ?_)
           ·skip
            refine Kd.R_lit_step k42 _ 42 ?hg (N := 14) ?hd (xs := ([(⟨a1_0, a1_1⟩ : S42)] : List (S42))) (inner := [.int .i64 a1_0, .string a1_1]) (ok := fun _ => True) (okp := fun _ => True) ?hr ?hp (fun _ hk => hk) trivial (Below.refl _ _) (Nat.le_refl _) (by simp) ?_; (case hd => rfl); (case hg => rfl); (case hr => first | (go_simp; done) | (go_simp; rfl)); (case hp => exact (Reps.c2 (show Kd.M k42 _ _ _ (⟨a1_0, a1_1⟩ : S42) [.int .i64 a1_0, .string a1_1] from (k42_mkM _ _ _ (⟨a1_0, a1_1⟩ : S42) )) (Reps.none _ _)))
            intro v153 w47 ho48 hb hg_ hnew_
            clear hg_ hnew_
            (first | rw [← Ny152.out] at ho48 | (simp only [Int.reduceToNat] at ho48; rw [← Ny152.out] at ho48))
            replace HO148 := xK HO148.out hb; have HO154 := aM (xL (Kd.R_newB (Kd.R_new' ho48 (Kd.R_lt (xH HO151.out))) (g := gb144) (o := .cells #[.int .i64 a1_0, .string a1_1] 42 (0, 0)) (yH BK144.out)) (zZ (zH HB.out))); replace HO151 := aM (Kd.R_elder' (xH HO151.out) (Kd.R_base ho48) hb); replace BK143 := yK BK143.out hb; replace BK144 := yK BK144.out hb; replace BK145 := yK BK145.out hb; replace HB := aM (zT (zH HB.out) hb); clear hb ho48
            refine hK.out _ _ ⟨yc BK143.out 0, yc BK143.out 1, yc BK144.out 0, yc BK144.out 1⟩ (fun hHeld => ?_)
            clear hK K; refine norm_ (a' := ?_) ?_ ?_; rotate_left
            ·show Act.put _ (some 14) _ = _
             simp only [Act.put, qA, qB, qC, i64_w, i32_w]
             rfl
            exact norm_ (by first | (simp only [putAll, Act.put, qA, qB, qC]; done) | (simp only [putAll, Act.put, qA, qB, qC]; rfl)) (hJ2_5_7 (v147, v150, v153) _ ⟨hHeld, (xH HO148.out), (xH (xM HO151.out (fun _ hk => ⟨hk.2, hk.1⟩))), (xH (xM HO154.out (fun _ hk => ⟨hk.1.2, hk.2⟩))), (yH BK143.out), (yH BK144.out), (yH BK145.out), (zH HB.out)⟩)
           ·skip
            refine box_step ?hg (N := 6) ?hd (cs := #[.slice none 0 0, .slice none 0 0]) (t := 30) ?hr ?_; (case hd => rfl); (case hg => rfl); (case hr => first | (go_simp; done) | (go_simp; rfl))
            intro gb158 hg w47 hbox hb
            replace HO148 := xK HO148.out hb; replace HO151 := xK HO151.out hb; have BK158 := aM (hbox)
            have GW158 := aM ((by rw [hg]; exact (zZ (zH HB.out)) : w.heap.size ≤ gb158))
            have GE158 := aM ((by rw [hg]; exact (zZ (zH HB.out)) : w.heap.size ≤ gb158))
            replace HB := aM (zT (zH HB.out) hb); have NB143_158 := nL BK143.out hg; have NB158_143 := nR BK143.out hg; replace BK143 := yK BK143.out hb; have NB144_158 := nL BK144.out hg; have NB158_144 := nR BK144.out hg; replace BK144 := yK BK144.out hb; have NB145_158 := nL BK145.out hg; have NB158_145 := nR BK145.out hg; replace BK145 := yK BK145.out hb; clear hb hbox hg
            refine hK.out _ _ ⟨yc BK143.out 0, yc BK143.out 1, yc BK144.out 0, yc BK144.out 1⟩ (fun hHeld => ?_)
            clear hK K; refine norm_ (a' := ?_) ?_ ?_; rotate_left
            ·show Act.put _ (some 6) _ = _
             simp only [Act.put, qA, qB, qC, i64_w, i32_w]
             rfl
            exact norm_ (by first | (simp only [putAll, Act.put, qA, qB, qC]; done) | (simp only [putAll, Act.put, qA, qB, qC]; rfl)) (hJ2_5_10 (v147, v150, gb158) _ ⟨hHeld, (xH HO148.out), (xH HO151.out), (yH BK143.out), (yH BK144.out), (yH BK145.out), (yH BK158.out), GW158.out, GE158.out, NB143_158.out, NB158_143.out, NB144_158.out, NB158_144.out, NB145_158.out, NB158_145.out, (zH HB.out)⟩)
         ·skip
          rintro ⟨v147, v153, gb158⟩ w48 ⟨hS_, h0_, h1_, h2_, h3_, h4_, h5_, h6_, h7_, h8_, h9_, h10_, h11_, h12_, h13_, h14_⟩
          (try dsimp only at h0_ h1_ h2_ h3_ h4_ h5_ h6_ h7_ h8_ h9_ h10_ h11_ h12_ h13_ h14_)
          have n0_ := aM h0_; have n1_ := aM h1_; have n2_ := aM h2_; have n3_ := aM h3_; have n4_ := aM h4_; have n5_ := aM h5_; have n6_ := aM h6_; have n7_ := aM h7_; have n8_ := aM h8_; have n9_ := aM h9_; have n10_ := aM h10_; have n11_ := aM h11_; have n12_ := aM h12_; have n13_ := aM h13_; have n14_ := aM h14_; clear BK143 BK144 BK145 HB h0_ h1_ h2_ h3_ h4_ h5_ h6_ h7_ h8_ h9_ h10_ h11_ h12_ h13_ h14_; have HO148 := n0_; have HO154 := n1_; have BK143 := n2_; have BK144 := n3_; have BK145 := n4_; have BK158 := n5_; have GW158 := n6_; have GE158 := n7_; have NB143_158 := n8_; have NB158_143 := n9_; have NB144_158 := n10_; have NB158_144 := n11_; have NB145_158 := n12_; have NB158_145 := n13_; have HB := n14_; clear n0_ n1_ n2_ n3_ n4_ n5_ n6_ n7_ n8_ n9_ n10_ n11_ n12_ n13_ n14_; have hHeld : w48.cell? ⟨gb143, 0, none⟩ = some (.slice A0_0 l0_0.length c0_0) ∧ w48.cell? ⟨gb143, 1, none⟩ = some (.slice A0_1 l0_1.length c0_1) ∧ w48.cell? ⟨gb144, 0, none⟩ = some (.int .i64 a1_0) ∧ w48.cell? ⟨gb144, 1, none⟩ = some (.string a1_1) := hS_; refine norm_ (a' := ?_) ?_ ?_; rotate_left
          ·simp only [putAll, Act.put, qA, qB, qC]
           rfl
          refine one_ (i := 5) (N := some 12) #[tT,tT,tT,tT,tT,tT,tT,tT,fF,fF,tT,fF] rfl rfl (one_of HT_.out (by kernel_rfl)) (by decide) (fun K hK => ?_)
          refine gS Try.func67 (by kernel_rfl) rfl #[.slice A0_1 l0_1.length c0_1] (by rfl) rfl rfl ?_
          with_reducible refine (impl_Write.calls _ _ l0_1 t149 _ ?side1 ?side2 A4.out).mono ?_
          (case side1 => exact cK HR0_1.out HB.out)
          (case side2 => exact HC0_1.out)
          rintro e w49 ⟨v150, rfl, ho0, hb⟩
          refine ⟨_, rfl, ?_⟩
          replace HO148 := xK HO148.out hb; have HO151 := aM (xL (Kd.R_newB (Kd.R_new' ho0 (Kd.R_lt (xH HO154.out))) (g := gb144) (o := .cells #[.int .i64 a1_0, .string a1_1] 42 (0, 0)) (yH BK144.out)) (zZ (zH HB.out))); replace HO154 := aM (Kd.R_elder' (xH HO154.out) (Kd.R_base ho0) hb); replace BK143 := yK BK143.out hb; replace BK144 := yK BK144.out hb; replace BK145 := yK BK145.out hb; replace BK158 := yK BK158.out hb; replace HB := aM (zT (zH HB.out) hb)
          (try clear hb); (try clear ho0)
          refine hK.out _ _ ⟨yc BK143.out 0, yc BK143.out 1, yc BK144.out 0, yc BK144.out 1⟩ (fun hHeld => ?_)
          clear hK K; refine norm_ (a' := ?_) ?_ ?_; rotate_left
          ·show Act.put _ (some 12) _ = _
           simp only [Act.put, qA, qB, qC, i64_w, i32_w]
           rfl
          exact norm_ (by first | (simp only [putAll, Act.put, qA, qB, qC]; done) | (simp only [putAll, Act.put, qA, qB, qC]; rfl)) (hJ2_5_7_10 (v147, v150, v153, gb158) _ ⟨hHeld, (xH HO148.out), (xH (xM HO151.out (fun _ hk => ⟨hk.1.2, hk.2⟩))), (xH (xM HO154.out (fun _ hk => ⟨hk.2, hk.1⟩))), (yH BK143.out), (yH BK144.out), (yH BK145.out), (yH BK158.out), GW158.out, GE158.out, NB143_158.out, NB158_143.out, NB144_158.out, NB158_144.out, NB145_158.out, NB158_145.out, (zH HB.out)⟩)
        ·skip
         rintro ⟨v147, v150, gb158⟩ w47 ⟨hS_, h0_, h1_, h2_, h3_, h4_, h5_, h6_, h7_, h8_, h9_, h10_, h11_, h12_, h13_, h14_⟩
         (try dsimp only at h0_ h1_ h2_ h3_ h4_ h5_ h6_ h7_ h8_ h9_ h10_ h11_ h12_ h13_ h14_)
         have n0_ := aM h0_; have n1_ := aM h1_; have n2_ := aM h2_; have n3_ := aM h3_; have n4_ := aM h4_; have n5_ := aM h5_; have n6_ := aM h6_; have n7_ := aM h7_; have n8_ := aM h8_; have n9_ := aM h9_; have n10_ := aM h10_; have n11_ := aM h11_; have n12_ := aM h12_; have n13_ := aM h13_; have n14_ := aM h14_; clear BK143 BK144 BK145 HB h0_ h1_ h2_ h3_ h4_ h5_ h6_ h7_ h8_ h9_ h10_ h11_ h12_ h13_ h14_; have HO148 := n0_; have HO151 := n1_; have BK143 := n2_; have BK144 := n3_; have BK145 := n4_; have BK158 := n5_; have GW158 := n6_; have GE158 := n7_; have NB143_158 := n8_; have NB158_143 := n9_; have NB144_158 := n10_; have NB158_144 := n11_; have NB145_158 := n12_; have NB158_145 := n13_; have HB := n14_; clear n0_ n1_ n2_ n3_ n4_ n5_ n6_ n7_ n8_ n9_ n10_ n11_ n12_ n13_ n14_; have hHeld : w47.cell? ⟨gb143, 0, none⟩ = some (.slice A0_0 l0_0.length c0_0) ∧ w47.cell? ⟨gb143, 1, none⟩ = some (.slice A0_1 l0_1.length c0_1) ∧ w47.cell? ⟨gb144, 0, none⟩ = some (.int .i64 a1_0) ∧ w47.cell? ⟨gb144, 1, none⟩ = some (.string a1_1) := hS_; refine norm_ (a' := ?_) ?_ ?_; rotate_left
         ·simp only [putAll, Act.put, qA, qB, qC]
          rfl
         refine one_ (i := 7) (N := some 14) #[tT,tT,tT,tT,tT,tT,tT,tT,fF,fF,tT,fF] rfl rfl (one_of HT_.out (by kernel_rfl)) (by decide) (fun K hK => ?_)
         refine Kd.R_lit_step k42 _ 42 ?hg (N := 14) ?hd (xs := ([(⟨a1_0, a1_1⟩ : S42)] : List (S42))) (inner := [.int .i64 a1_0, .string a1_1]) (ok := fun _ => True) (okp := fun _ => True) ?hr ?hp (fun _ hk => hk) trivial (Below.refl _ _) (Nat.le_refl _) (by simp) ?_; (case hd => rfl); (case hg => rfl); (case hr => first | (go_simp; done) | (go_simp; rfl)); (case hp => exact (Reps.c2 (show Kd.M k42 _ _ _ (⟨a1_0, a1_1⟩ : S42) [.int .i64 a1_0, .string a1_1] from (k42_mkM _ _ _ (⟨a1_0, a1_1⟩ : S42) )) (Reps.none _ _)))
         intro v153 w48 ho49 hb hg_ hnew_
         clear hg_ hnew_
         (first | rw [← Ny152.out] at ho49 | (simp only [Int.reduceToNat] at ho49; rw [← Ny152.out] at ho49))
         replace HO148 := xK HO148.out hb; have HO154 := aM (xL (Kd.R_newB (Kd.R_new' ho49 (Kd.R_lt (xH HO151.out))) (g := gb144) (o := .cells #[.int .i64 a1_0, .string a1_1] 42 (0, 0)) (yH BK144.out)) (zZ (zH HB.out))); replace HO151 := aM (Kd.R_elder' (xH HO151.out) (Kd.R_base ho49) hb); replace BK143 := yK BK143.out hb; replace BK144 := yK BK144.out hb; replace BK145 := yK BK145.out hb; replace BK158 := yK BK158.out hb; replace HB := aM (zT (zH HB.out) hb); clear hb ho49
         refine hK.out _ _ ⟨yc BK143.out 0, yc BK143.out 1, yc BK144.out 0, yc BK144.out 1⟩ (fun hHeld => ?_)
         clear hK K; refine norm_ (a' := ?_) ?_ ?_; rotate_left
         ·show Act.put _ (some 14) _ = _
          simp only [Act.put, qA, qB, qC, i64_w, i32_w]
          rfl
         exact norm_ (by first | (simp only [putAll, Act.put, qA, qB, qC]; done) | (simp only [putAll, Act.put, qA, qB, qC]; rfl)) (hJ2_5_7_10 (v147, v150, v153, gb158) _ ⟨hHeld, (xH HO148.out), (xH (xM HO151.out (fun _ hk => ⟨hk.2, hk.1⟩))), (xH (xM HO154.out (fun _ hk => ⟨hk.1.2, hk.2⟩))), (yH BK143.out), (yH BK144.out), (yH BK145.out), (yH BK158.out), GW158.out, GE158.out, NB143_158.out, NB158_143.out, NB144_158.out, NB158_144.out, NB145_158.out, NB158_145.out, (zH HB.out)⟩)
       ·skip
        rintro ⟨v147, v150, v153⟩ w48 ⟨hS_, h0_, h1_, h2_, h3_, h4_, h5_, h6_⟩
        (try dsimp only at h0_ h1_ h2_ h3_ h4_ h5_ h6_)
        have n0_ := aM h0_; have n1_ := aM h1_; have n2_ := aM h2_; have n3_ := aM h3_; have n4_ := aM h4_; have n5_ := aM h5_; have n6_ := aM h6_; clear BK143 BK144 BK145 HB h0_ h1_ h2_ h3_ h4_ h5_ h6_; have HO148 := n0_; have HO151 := n1_; have HO154 := n2_; have BK143 := n3_; have BK144 := n4_; have BK145 := n5_; have HB := n6_; clear n0_ n1_ n2_ n3_ n4_ n5_ n6_; have hHeld : w48.cell? ⟨gb143, 0, none⟩ = some (.slice A0_0 l0_0.length c0_0) ∧ w48.cell? ⟨gb143, 1, none⟩ = some (.slice A0_1 l0_1.length c0_1) ∧ w48.cell? ⟨gb144, 0, none⟩ = some (.int .i64 a1_0) ∧ w48.cell? ⟨gb144, 1, none⟩ = some (.string a1_1) := hS_; obtain ⟨Ao50, co50, eo50⟩ := Kd.R_slice HO154.out
        (first | subst eo50 | obtain ⟨rfl, rfl⟩ := eI eo50)
        refine norm_ (a' := ?_) ?_ ?_; rotate_left
        ·simp only [putAll, Act.put, qA, qB, qC]
         rfl
        refine two_ (i := 8) (j := 10) (Ni := some 15) (Nj := some 6) #[tT,tT,tT,tT,tT,tT,tT,tT,tT,fF,fF,fF] #[tT,tT,tT,tT,tT,tT,tT,tT,fF,fF,tT,fF] rfl rfl rfl rfl (two_of HT_.out (by kernel_rfl)) (by decide) (by decide) (fun K hK => ?_) (fun K hK => ?_)
        ·skip
         refine Kd.R_append_rows_step k42 (w0 := w) w.heap.size (by rfl) (.tmp 12) (.tmp 14) 28 42 (.agg #[(.int .i64 0), (.string ⟨#[]⟩)]) 24 rfl Try.underlying28 info42 rfl (by decide) (by omega) v150 t149 y152 _ _ _ (fun k_ => some k_ ≠ (.slice Ao50 y152.length co50 : Value).ownBlock ∧ k_ ≠ gb144) (fun _ => False) rfl rfl ?aO ?aR (fun _ _ h => h) (fun _ h => h.elim) ?aF ?aB ?aS ?aL ?_
         (case aR => repeat (first | exact (Kd.R_reads' HO154.out).2.2 | (with_reducible refine cA ?_ _) | (with_reducible refine cN ?_ _) | (with_reducible refine cD ?_)))
         (case aB => exact (zH HB.out))
         (case aF => exact (fun k_ hk => ⟨Kd.fresh' (Kd.R_lt (xH HO154.out)) k_ hk, Kd.freshB (g := gb144) (o := .cells #[.int .i64 a1_0, .string a1_1] 42 (0, 0)) (yH BK144.out) k_ hk⟩))
         (case aO => exact (xH HO151.out))
         (case aS => exact (zZ (zH HB.out)))
         (case aL => have := LMc5.out; omega)
         intro v156 w49 ho hb hg hat
         rw [← Ny155.out] at ho
         replace BK143 := aM (blk_grown (g := gb143) (o := .cells #[.slice A0_0 l0_0.length c0_0, .slice A0_1 l0_1.length c0_1] 30 (0, 0)) (yH BK143.out) hg (Kd.R_ne HO151.out BK143.out (by decide)))
         replace BK144 := aM (blk_grown (g := gb144) (o := .cells #[.int .i64 a1_0, .string a1_1] 42 (0, 0)) (yH BK144.out) hg (Kd.R_away HO151.out (fun _ hk => hk.2)))
         replace BK145 := aM (blk_grown (g := gb145) (o := .cells #[.slice none 0 0, .slice none 0 0] 30 (0, 0)) (yH BK145.out) hg (Kd.R_ne HO151.out BK145.out (by decide)))
         replace HO148 := aM (Kd.R_over' (xH HO148.out) (Kd.R_typed (xH HO151.out)) (by decide) hg)
         replace HO154 := aM (Kd.R_after (ok := (fun k_ => k_ ≠ gb144)) (xH (xM HO154.out (fun _ hk => ⟨hk.2, hk.1⟩))) hg hat)
         replace HB := aM (hb); have HO157 := aM (ho); clear HO151 ho hb hg hat; obtain ⟨Ao51, co51, eo51⟩ := Kd.R_slice HO157.out
         (first | subst eo51 | obtain ⟨rfl, rfl⟩ := eI eo51)
         obtain ⟨Ao52, co52, eo52⟩ := Kd.R_slice HO148.out
         (first | subst eo52 | obtain ⟨rfl, rfl⟩ := eI eo52)
         refine hK.out _ _ ⟨yc BK143.out 0, yc BK143.out 1, yc BK144.out 0, yc BK144.out 1⟩ (fun hHeld => ?_)
         clear hK K; refine norm_ (a' := ?_) ?_ ?_; rotate_left
         ·show Act.put _ (some 15) _ = _
          simp only [Act.put, qA, qB, qC, i64_w, i32_w]
          rfl
         refine pure_ (i := 9) (N := some 16) (v := ?_) (a' := ?_) #[tT,tT,tT,tT,tT,tT,tT,tT,tT,tT,fF,fF] rfl rfl (any_of HT_.out (by kernel_rfl)) (fun _ _ _ h => h) (Or.inl ⟨by rfl, ?_⟩) ?_ ?_
         rotate_left
         ·intro w'
          go_simp
          with_reducible rfl
         rotate_left
         ·simp only [Act.put, qA, qB, qC, i64_w, i32_w]
          rfl
         exact norm_ (by first | (simp only [putAll, Act.put, qA, qB, qC]; done) | (simp only [putAll, Act.put, qA, qB, qC]; rfl)) (hJ2_5_7_8 (.slice Ao52 t146.length co52, v150, .slice Ao50 y152.length co50, .slice Ao51 y155.length co51) _ ⟨hHeld, (xH HO148.out), (xH (xM HO154.out (fun _ hk => ⟨hk.2, hk.1⟩))), (xH HO157.out), (yH BK143.out), (yH BK144.out), (yH BK145.out), (zH HB.out)⟩)
        ·skip
         refine box_step ?hg (N := 6) ?hd (cs := #[.slice none 0 0, .slice none 0 0]) (t := 30) ?hr ?_; (case hd => rfl); (case hg => rfl); (case hr => first | (go_simp; done) | (go_simp; rfl))
         intro gb158 hg w49 hbox hb
         replace HO148 := xK HO148.out hb; replace HO151 := xK HO151.out hb; replace HO154 := xK HO154.out hb; have BK158 := aM (hbox)
         have GW158 := aM ((by rw [hg]; exact (zZ (zH HB.out)) : w.heap.size ≤ gb158))
         have GE158 := aM ((by rw [hg]; exact (zZ (zH HB.out)) : w.heap.size ≤ gb158))
         replace HB := aM (zT (zH HB.out) hb); have NB143_158 := nL BK143.out hg; have NB158_143 := nR BK143.out hg; replace BK143 := yK BK143.out hb; have NB144_158 := nL BK144.out hg; have NB158_144 := nR BK144.out hg; replace BK144 := yK BK144.out hb; have NB145_158 := nL BK145.out hg; have NB158_145 := nR BK145.out hg; replace BK145 := yK BK145.out hb; clear hb hbox hg
         refine hK.out _ _ ⟨yc BK143.out 0, yc BK143.out 1, yc BK144.out 0, yc BK144.out 1⟩ (fun hHeld => ?_)
         clear hK K; refine norm_ (a' := ?_) ?_ ?_; rotate_left
         ·show Act.put _ (some 6) _ = _
          simp only [Act.put, qA, qB, qC, i64_w, i32_w]
          rfl
         exact norm_ (by first | (simp only [putAll, Act.put, qA, qB, qC]; done) | (simp only [putAll, Act.put, qA, qB, qC]; rfl)) (hJ2_5_7_10 (v147, v150, (.slice Ao50 y152.length co50), gb158) _ ⟨hHeld, (xH HO148.out), (xH HO151.out), (xH HO154.out), (yH BK143.out), (yH BK144.out), (yH BK145.out), (yH BK158.out), GW158.out, GE158.out, NB143_158.out, NB158_143.out, NB144_158.out, NB158_144.out, NB145_158.out, NB158_145.out, (zH HB.out)⟩)
      ·skip
       rintro ⟨v147, v150, v153, gb158⟩ w49 ⟨hS_, h0_, h1_, h2_, h3_, h4_, h5_, h6_, h7_, h8_, h9_, h10_, h11_, h12_, h13_, h14_, h15_⟩
       (try dsimp only at h0_ h1_ h2_ h3_ h4_ h5_ h6_ h7_ h8_ h9_ h10_ h11_ h12_ h13_ h14_ h15_)
       have n0_ := aM h0_; have n1_ := aM h1_; have n2_ := aM h2_; have n3_ := aM h3_; have n4_ := aM h4_; have n5_ := aM h5_; have n6_ := aM h6_; have n7_ := aM h7_; have n8_ := aM h8_; have n9_ := aM h9_; have n10_ := aM h10_; have n11_ := aM h11_; have n12_ := aM h12_; have n13_ := aM h13_; have n14_ := aM h14_; have n15_ := aM h15_; clear BK143 BK144 BK145 HB h0_ h1_ h2_ h3_ h4_ h5_ h6_ h7_ h8_ h9_ h10_ h11_ h12_ h13_ h14_ h15_; have HO148 := n0_; have HO151 := n1_; have HO154 := n2_; have BK143 := n3_; have BK144 := n4_; have BK145 := n5_; have BK158 := n6_; have GW158 := n7_; have GE158 := n8_; have NB143_158 := n9_; have NB158_143 := n10_; have NB144_158 := n11_; have NB158_144 := n12_; have NB145_158 := n13_; have NB158_145 := n14_; have HB := n15_; clear n0_ n1_ n2_ n3_ n4_ n5_ n6_ n7_ n8_ n9_ n10_ n11_ n12_ n13_ n14_ n15_; have hHeld : w49.cell? ⟨gb143, 0, none⟩ = some (.slice A0_0 l0_0.length c0_0) ∧ w49.cell? ⟨gb143, 1, none⟩ = some (.slice A0_1 l0_1.length c0_1) ∧ w49.cell? ⟨gb144, 0, none⟩ = some (.int .i64 a1_0) ∧ w49.cell? ⟨gb144, 1, none⟩ = some (.string a1_1) := hS_; obtain ⟨Ao51, co51, eo51⟩ := Kd.R_slice HO154.out
       (first | subst eo51 | obtain ⟨rfl, rfl⟩ := eI eo51)
       refine norm_ (a' := ?_) ?_ ?_; rotate_left
       ·simp only [putAll, Act.put, qA, qB, qC]
        rfl
       refine one_ (i := 8) (N := some 15) #[tT,tT,tT,tT,tT,tT,tT,tT,tT,fF,tT,fF] rfl rfl (one_of HT_.out (by kernel_rfl)) (by decide) (fun K hK => ?_)
       refine Kd.R_append_rows_step k42 (w0 := w) w.heap.size (by rfl) (.tmp 12) (.tmp 14) 28 42 (.agg #[(.int .i64 0), (.string ⟨#[]⟩)]) 24 rfl Try.underlying28 info42 rfl (by decide) (by omega) v150 t149 y152 _ _ _ (fun k_ => some k_ ≠ (.slice Ao51 y152.length co51 : Value).ownBlock ∧ k_ ≠ gb144) (fun _ => False) rfl rfl ?aO ?aR (fun _ _ h => h) (fun _ h => h.elim) ?aF ?aB ?aS ?aL ?_
       (case aR => repeat (first | exact (Kd.R_reads' HO154.out).2.2 | (with_reducible refine cA ?_ _) | (with_reducible refine cN ?_ _) | (with_reducible refine cD ?_)))
       (case aB => exact (zH HB.out))
       (case aF => exact (fun k_ hk => ⟨Kd.fresh' (Kd.R_lt (xH HO154.out)) k_ hk, Kd.freshB (g := gb144) (o := .cells #[.int .i64 a1_0, .string a1_1] 42 (0, 0)) (yH BK144.out) k_ hk⟩))
       (case aO => exact (xH HO151.out))
       (case aS => exact (zZ (zH HB.out)))
       (case aL => have := LMc5.out; omega)
       intro v156 w50 ho hb hg hat
       rw [← Ny155.out] at ho
       replace BK143 := aM (blk_grown (g := gb143) (o := .cells #[.slice A0_0 l0_0.length c0_0, .slice A0_1 l0_1.length c0_1] 30 (0, 0)) (yH BK143.out) hg (Kd.R_ne HO151.out BK143.out (by decide)))
       replace BK144 := aM (blk_grown (g := gb144) (o := .cells #[.int .i64 a1_0, .string a1_1] 42 (0, 0)) (yH BK144.out) hg (Kd.R_away HO151.out (fun _ hk => hk.2)))
       replace BK145 := aM (blk_grown (g := gb145) (o := .cells #[.slice none 0 0, .slice none 0 0] 30 (0, 0)) (yH BK145.out) hg (Kd.R_ne HO151.out BK145.out (by decide)))
       replace HO148 := aM (Kd.R_over' (xH HO148.out) (Kd.R_typed (xH HO151.out)) (by decide) hg)
       replace HO154 := aM (Kd.R_after (ok := (fun k_ => k_ ≠ gb144)) (xH (xM HO154.out (fun _ hk => ⟨hk.2, hk.1⟩))) hg hat)
       replace BK158 := aM (blk_grown (g := gb158) (o := .cells #[.slice none 0 0, .slice none 0 0] 30 (0, 0)) (yH BK158.out) hg (Kd.R_ne HO151.out BK158.out (by decide)))
       replace HB := aM (hb); have HO157 := aM (ho); clear HO151 ho hb hg hat; obtain ⟨Ao52, co52, eo52⟩ := Kd.R_slice HO157.out
       (first | subst eo52 | obtain ⟨rfl, rfl⟩ := eI eo52)
       obtain ⟨Ao53, co53, eo53⟩ := Kd.R_slice HO148.out
       (first | subst eo53 | obtain ⟨rfl, rfl⟩ := eI eo53)
       refine hK.out _ _ ⟨yc BK143.out 0, yc BK143.out 1, yc BK144.out 0, yc BK144.out 1⟩ (fun hHeld => ?_)
       clear hK K; refine norm_ (a' := ?_) ?_ ?_; rotate_left
       ·show Act.put _ (some 15) _ = _
        simp only [Act.put, qA, qB, qC, i64_w, i32_w]
        rfl
       refine pure_ (i := 9) (N := some 16) (v := ?_) (a' := ?_) #[tT,tT,tT,tT,tT,tT,tT,tT,tT,tT,tT,fF] rfl rfl (any_of HT_.out (by kernel_rfl)) (fun _ _ _ h => h) (Or.inl ⟨by rfl, ?_⟩) ?_ ?_
       rotate_left
       ·intro w'
        go_simp
        with_reducible rfl
       rotate_left
       ·simp only [Act.put, qA, qB, qC, i64_w, i32_w]
        rfl
       exact norm_ (by first | (simp only [putAll, Act.put, qA, qB, qC]; done) | (simp only [putAll, Act.put, qA, qB, qC]; rfl)) (hJ2_5_7_8_10 (.slice Ao53 t146.length co53, v150, .slice Ao51 y152.length co51, .slice Ao52 y155.length co52, gb158) _ ⟨hHeld, (xH HO148.out), (xH (xM HO154.out (fun _ hk => ⟨hk.2, hk.1⟩))), (xH HO157.out), (yH BK143.out), (yH BK144.out), (yH BK145.out), (yH BK158.out), GW158.out, GE158.out, NB143_158.out, NB158_143.out, NB144_158.out, NB158_144.out, NB145_158.out, NB158_145.out, (zH HB.out)⟩)
     ·skip
      rintro ⟨v147, v150, v153, v156⟩ w52 ⟨hS_, h0_, h1_, h2_, h3_, h4_, h5_, h6_⟩
      (try dsimp only at h0_ h1_ h2_ h3_ h4_ h5_ h6_)
      have n0_ := aM h0_; have n1_ := aM h1_; have n2_ := aM h2_; have n3_ := aM h3_; have n4_ := aM h4_; have n5_ := aM h5_; have n6_ := aM h6_; clear BK143 BK144 BK145 HB h0_ h1_ h2_ h3_ h4_ h5_ h6_; have HO148 := n0_; have HO154 := n1_; have HO157 := n2_; have BK143 := n3_; have BK144 := n4_; have BK145 := n5_; have HB := n6_; clear n0_ n1_ n2_ n3_ n4_ n5_ n6_; have hHeld : w52.cell? ⟨gb143, 0, none⟩ = some (.slice A0_0 l0_0.length c0_0) ∧ w52.cell? ⟨gb143, 1, none⟩ = some (.slice A0_1 l0_1.length c0_1) ∧ w52.cell? ⟨gb144, 0, none⟩ = some (.int .i64 a1_0) ∧ w52.cell? ⟨gb144, 1, none⟩ = some (.string a1_1) := hS_; obtain ⟨Ao53, co53, eo53⟩ := Kd.R_slice HO157.out
      (first | subst eo53 | obtain ⟨rfl, rfl⟩ := eI eo53)
      obtain ⟨Ao54, co54, eo54⟩ := Kd.R_slice HO148.out
      (first | subst eo54 | obtain ⟨rfl, rfl⟩ := eI eo54)
      refine norm_ (a' := ?_) ?_ ?_; rotate_left
      ·simp only [putAll, Act.put, qA, qB, qC]
       rfl
      refine one_ (i := 10) (N := some 6) #[tT,tT,tT,tT,tT,tT,tT,tT,tT,tT,tT,fF] rfl rfl (one_of HT_.out (by kernel_rfl)) (by decide) (fun K hK => ?_)
      refine box_step ?hg (N := 6) ?hd (cs := #[.slice none 0 0, .slice none 0 0]) (t := 30) ?hr ?_; (case hd => rfl); (case hg => rfl); (case hr => first | (go_simp; done) | (go_simp; rfl))
      intro gb158 hg w55 hbox hb
      replace HO148 := xK HO148.out hb; replace HO154 := xK HO154.out hb; replace HO157 := xK HO157.out hb; have BK158 := aM (hbox)
      have GW158 := aM ((by rw [hg]; exact (zZ (zH HB.out)) : w.heap.size ≤ gb158))
      have GE158 := aM ((by rw [hg]; exact (zZ (zH HB.out)) : w.heap.size ≤ gb158))
      replace HB := aM (zT (zH HB.out) hb); have NB143_158 := nL BK143.out hg; have NB158_143 := nR BK143.out hg; replace BK143 := yK BK143.out hb; have NB144_158 := nL BK144.out hg; have NB158_144 := nR BK144.out hg; replace BK144 := yK BK144.out hb; have NB145_158 := nL BK145.out hg; have NB158_145 := nR BK145.out hg; replace BK145 := yK BK145.out hb; clear hb hbox hg
      refine hK.out _ _ ⟨yc BK143.out 0, yc BK143.out 1, yc BK144.out 0, yc BK144.out 1⟩ (fun hHeld => ?_)
      clear hK K; refine norm_ (a' := ?_) ?_ ?_; rotate_left
      ·show Act.put _ (some 6) _ = _
       simp only [Act.put, qA, qB, qC, i64_w, i32_w]
       rfl
      exact norm_ (by first | (simp only [putAll, Act.put, qA, qB, qC]; done) | (simp only [putAll, Act.put, qA, qB, qC]; rfl)) (hJ2_5_7_8_10 (.slice Ao54 t146.length co54, v150, v153, .slice Ao53 y155.length co53, gb158) _ ⟨hHeld, (xH HO148.out), (xH HO154.out), (xH HO157.out), (yH BK143.out), (yH BK144.out), (yH BK145.out), (yH BK158.out), GW158.out, GE158.out, NB143_158.out, NB158_143.out, NB144_158.out, NB158_144.out, NB145_158.out, NB158_145.out, (zH HB.out)⟩)
    rintro ⟨v147, v150, v153, v156, gb158⟩ w53 ⟨hS_, h0_, h1_, h2_, h3_, h4_, h5_, h6_, h7_, h8_, h9_, h10_, h11_, h12_, h13_, h14_, h15_⟩
    (try dsimp only at h0_ h1_ h2_ h3_ h4_ h5_ h6_ h7_ h8_ h9_ h10_ h11_ h12_ h13_ h14_ h15_)
    have n0_ := aM h0_; have n1_ := aM h1_; have n2_ := aM h2_; have n3_ := aM h3_; have n4_ := aM h4_; have n5_ := aM h5_; have n6_ := aM h6_; have n7_ := aM h7_; have n8_ := aM h8_; have n9_ := aM h9_; have n10_ := aM h10_; have n11_ := aM h11_; have n12_ := aM h12_; have n13_ := aM h13_; have n14_ := aM h14_; have n15_ := aM h15_; clear BK143 BK144 BK145 HB h0_ h1_ h2_ h3_ h4_ h5_ h6_ h7_ h8_ h9_ h10_ h11_ h12_ h13_ h14_ h15_; have HO148 := n0_; have HO154 := n1_; have HO157 := n2_; have BK143 := n3_; have BK144 := n4_; have BK145 := n5_; have BK158 := n6_; have GW158 := n7_; have GE158 := n8_; have NB143_158 := n9_; have NB158_143 := n10_; have NB144_158 := n11_; have NB158_144 := n12_; have NB145_158 := n13_; have NB158_145 := n14_; have HB := n15_; clear n0_ n1_ n2_ n3_ n4_ n5_ n6_ n7_ n8_ n9_ n10_ n11_ n12_ n13_ n14_ n15_; have hHeld : w53.cell? ⟨gb143, 0, none⟩ = some (.slice A0_0 l0_0.length c0_0) ∧ w53.cell? ⟨gb143, 1, none⟩ = some (.slice A0_1 l0_1.length c0_1) ∧ w53.cell? ⟨gb144, 0, none⟩ = some (.int .i64 a1_0) ∧ w53.cell? ⟨gb144, 1, none⟩ = some (.string a1_1) := hS_; obtain ⟨Ao54, co54, eo54⟩ := Kd.R_slice HO157.out
    (first | subst eo54 | obtain ⟨rfl, rfl⟩ := eI eo54)
    obtain ⟨Ao55, co55, eo55⟩ := Kd.R_slice HO148.out
    (first | subst eo55 | obtain ⟨rfl, rfl⟩ := eI eo55)
    refine norm_ (a' := ?_) ?_ ?_; rotate_left
    ·simp only [putAll, Act.put, qA, qB, qC]
     rfl
    refine one_ (i := 11) (N := none) #[tT,tT,tT,tT,tT,tT,tT,tT,tT,tT,tT,tT] rfl rfl (one_of HT_.out (by kernel_rfl)) (by decide) (fun K hK => ?_)
    have hs56 : w53.cell? ⟨gb158, 0, none⟩ = some (.slice none 0 0) := yc BK158.out 0; have hfs56 := yZ BK158.out 0; have hns56_0 := NB143_158.out; have hns56_1 := NB144_158.out; have hns56_2 := NB145_158.out; have hms56_0 := NB158_143.out; have hms56_1 := NB158_144.out; have hms56_2 := NB158_145.out; have hs57 : w53.cell? ⟨gb158, 1, none⟩ = some (.slice none 0 0) := yc BK158.out 1; have hfs57 := yZ BK158.out 1; have hns57_0 := NB143_158.out; have hns57_1 := NB144_158.out; have hns57_2 := NB145_158.out; have hms57_0 := NB158_143.out; have hms57_1 := NB158_144.out; have hms57_2 := NB158_145.out
    refine skip_ (w1 := ?_) (by rfl) rfl ?_ ?_
    rotate_left
    ·go_simp
     rfl
    refine hK.out _ _ ⟨((cell_far (p := ⟨gb158, _, none⟩) NB143_158.out _).trans (((cell_far (p := ⟨gb158, _, none⟩) NB143_158.out _).trans (hHeld.1)))), ((cell_far (p := ⟨gb158, _, none⟩) NB143_158.out _).trans (((cell_far (p := ⟨gb158, _, none⟩) NB143_158.out _).trans (hHeld.2.1)))), ((cell_far (p := ⟨gb158, _, none⟩) NB144_158.out _).trans (((cell_far (p := ⟨gb158, _, none⟩) NB144_158.out _).trans (hHeld.2.2.1)))), ((cell_far (p := ⟨gb158, _, none⟩) NB144_158.out _).trans (((cell_far (p := ⟨gb158, _, none⟩) NB144_158.out _).trans (hHeld.2.2.2))))⟩ (fun hHeld => ?_)
    clear hK K
    refine done_ (done_of HT_.out (by kernel_rfl)) ?_
    have hnb58 := NB143_144.out; have hnc58 := NB144_143.out; have hnb59 := NB143_145.out; have hnc59 := NB145_143.out; have hnb60 := NB143_158.out; have hnc60 := NB158_143.out; have hcz61_0 : w53.cell? ⟨gb143, 0, none⟩ = some (.slice A0_0 l0_0.length c0_0) := yc BK143.out 0; have hcz61_1 : w53.cell? ⟨gb143, 1, none⟩ = some (.slice A0_1 l0_1.length c0_1) := yc BK143.out 1; have hfz61_0 := yZ BK143.out 0; have hfz61_1 := yZ BK143.out 1
    try go_wp2_with (first | ((with_reducible refine gate_callee (f := 16) rfl ?_); refine goesL_ (some 18) rfl rfl Try.func16 (by kernel_rfl) rfl #[.agg #[.slice A0_0 l0_0.length c0_0, .slice A0_1 l0_1.length c0_1]] rfl mA ?_; (with_reducible refine (impl_GoodDevice.calls _ _ l0_0 _ _ l0_1 true _ ?side1 ?side2 ?side3 ?side4 A6.out).mono ?_); (case side1 => exact cB HR0_0.out (zH HB.out)); (case side2 => exact HC0_0.out); (case side3 => exact cB HR0_1.out (zH HB.out)); (case side4 => exact HC0_1.out); rintro e w62 ⟨rfl, hb⟩; refine ⟨_, rfl, ?_⟩; replace HO148 := aM (xB (xH ((x2 HO148.out BK158.out (by decide) (.slice Ao55 t146.length co55) (.slice Ao54 y155.length co54)))) hb); replace HO154 := aM (xB (xH ((x2 HO154.out BK158.out (by decide) (.slice Ao55 t146.length co55) (.slice Ao54 y155.length co54)))) hb); replace HO157 := aM (xB (xH ((x2 HO157.out BK158.out (by decide) (.slice Ao55 t146.length co55) (.slice Ao54 y155.length co54)))) hb); replace BK143 := aM (yB (g := gb143) (o := .cells #[.slice A0_0 l0_0.length c0_0, .slice A0_1 l0_1.length c0_1] 30 (0, 0)) (by refine yW ?_; refine yF ?_ NB143_158.out _; refine yW ?_; refine yF ?_ NB143_158.out _; refine yW ?_; exact BK143.out) hb); replace BK144 := aM (yB (g := gb144) (o := .cells #[.int .i64 a1_0, .string a1_1] 42 (0, 0)) (by refine yW ?_; refine yF ?_ NB144_158.out _; refine yW ?_; refine yF ?_ NB144_158.out _; refine yW ?_; exact BK144.out) hb); replace BK145 := aM (yB (g := gb145) (o := .cells #[.slice none 0 0, .slice none 0 0] 30 (0, 0)) (by refine yW ?_; refine yF ?_ NB145_158.out _; refine yW ?_; refine yF ?_ NB145_158.out _; refine yW ?_; exact BK145.out) hb); replace BK158 := aM (yB (g := gb158) (o := .cells #[.slice Ao55 t146.length co55, .slice Ao54 y155.length co54] 30 (0, 0)) (by refine yW ?_; refine yP (cs := #[.slice Ao55 t146.length co55, .slice none 0 0]) ?_ 1 _ rfl; refine yW ?_; refine yP (cs := #[.slice none 0 0, .slice none 0 0]) ?_ 0 _ rfl; refine yW ?_; exact BK158.out) hb); replace HB := aM (zT (zH HB.out) hb); (try clear hb); have hnb63 := NB158_144.out; have hnc63 := NB144_158.out; have hnb64 := NB158_145.out; have hnc64 := NB145_158.out; have hcz65_0 : w62.cell? ⟨gb158, 0, none⟩ = some (.slice Ao55 t146.length co55) := yc BK158.out 0; have hcz65_1 : w62.cell? ⟨gb158, 1, none⟩ = some (.slice Ao54 y155.length co54) := yc BK158.out 1; have hfz65_0 := yZ BK158.out 0; have hfz65_1 := yZ BK158.out 1) | (go_at_call 16; (with_reducible refine (impl_GoodDevice.calls _ _ t146 _ _ y155 false _ ?side1 ?side2 ?side3 ?side4 A8.out).mono ?_); (case side1 => exact cS (Kd.R_reads' HO148.out).2.2); (case side2 => exact (Kd.R_reads' HO148.out).2.1); (case side3 => exact cS (Kd.R_reads' HO157.out).2.2); (case side4 => exact (Kd.R_reads' HO157.out).2.1); rintro e w66 ⟨rfl, hb⟩; replace HO148 := xK HO148.out hb; replace HO154 := xK HO154.out hb; replace HO157 := xK HO157.out hb; replace BK143 := yK BK143.out hb; replace BK144 := yK BK144.out hb; replace BK145 := yK BK145.out hb; replace BK158 := yK BK158.out hb; replace HB := aM (zT (zH HB.out) hb); (try clear hb); have hnb67 := NB145_144.out; have hnc67 := NB144_145.out; have hcz68_0 : w66.cell? ⟨gb145, 0, none⟩ = some (.slice none 0 0) := yc BK145.out 0; have hcz68_1 : w66.cell? ⟨gb145, 1, none⟩ = some (.slice none 0 0) := yc BK145.out 1; have hfz68_0 := yZ BK145.out 0; have hfz68_1 := yZ BK145.out 1))
    refine bodyPost_ret (results_ct rfl _ _ gb145 30 #[.slice none 0 0, .slice none 0 0] (0, 0) _ rfl (by refine yW ?_; refine yP (cs := #[.slice none 0 0, .slice none 0 0]) ?_ 1 _ rfl; refine yW ?_; refine yP (cs := #[.slice none 0 0, .slice none 0 0]) ?_ 0 _ rfl; refine yW ?_; exact BK145.out) Try.underlying30 rfl (by kernel_rfl)) rfl ?_
    exact ⟨_, _, eW, by first | exact Kd.R_nil _ _ _ _ _ | exact Kd.N_nil _ _ _ _ _ | exact Kd.V_nil _ _ _ _ _ | exact Kd.Q_nil _ _ _ _ _ | exact Kd.S_nil _ _ _ _ _, by first | exact Kd.R_nil _ _ _ _ _ | exact Kd.N_nil _ _ _ _ _ | exact Kd.V_nil _ _ _ _ _ | exact Kd.Q_nil _ _ _ _ _ | exact Kd.S_nil _ _ _ _ _, zH HB.out⟩
  ·replace c7 := Bool.eq_false_iff.mpr c7
   subst c7
   have H1 : (some (([] : List ByteArray), ([] : List (S42)), false)) = some (r1, r2, r3) := by rw [if_neg (show ¬ (false = true) by decide)] at H; exact H
   clear H; have H := H1; clear H1
   simp only [Option.some.injEq, Prod.mk.injEq] at H
   obtain ⟨rfl, rfl, rfl⟩ := H
   go_enter Try.func25, Try.ntmps25
   try go_wp2_with (first | ((with_reducible refine gate_dst (N := 2) rfl ?_); refine box_event ?hg (N := 2) ?hd (cs := #[.slice A0_0 l0_0.length c0_0, .slice A0_1 l0_1.length c0_1]) (t := 30) ?hr ?_; (case hd => rfl); (case hg => rfl); (case hr => first | (go_simp; done) | (go_simp; rfl)); intro gb143 hg w69 hbox hb; have BK143 := aM (hbox); have GW143 := aM ((by rw [hg]; exact (zZ (zH HB.out)) : w.heap.size ≤ gb143)); have GE143 := aM ((by rw [hg]; exact (zZ (zH HB.out)) : w.heap.size ≤ gb143)); replace HB := aM (zT (zH HB.out) hb); clear hb hbox hg) | ((with_reducible refine gate_dst (N := 3) rfl ?_); refine box_event ?hg (N := 3) ?hd (cs := #[.int .i64 a1_0, .string a1_1]) (t := 42) ?hr ?_; (case hd => rfl); (case hg => rfl); (case hr => first | (go_simp; done) | (go_simp; rfl)); intro gb144 hg w70 hbox hb; have BK144 := aM (hbox); have GW144 := aM ((by rw [hg]; exact (zZ (zH HB.out)) : w.heap.size ≤ gb144)); have GE144 := aM ((by rw [hg]; exact (zZ (zH HB.out)) : w.heap.size ≤ gb144)); replace HB := aM (zT (zH HB.out) hb); have NB143_144 := nL BK143.out hg; have NB144_143 := nR BK143.out hg; replace BK143 := yK BK143.out hb; clear hb hbox hg) | ((with_reducible refine gate_dst (N := 4) rfl ?_); refine box_event ?hg (N := 4) ?hd (cs := #[.slice none 0 0, .slice none 0 0]) (t := 30) ?hr ?_; (case hd => rfl); (case hg => rfl); (case hr => first | (go_simp; done) | (go_simp; rfl)); intro gb145 hg w71 hbox hb; have BK145 := aM (hbox); have GW145 := aM ((by rw [hg]; exact (zZ (zH HB.out)) : w.heap.size ≤ gb145)); have GE145 := aM ((by rw [hg]; exact (zZ (zH HB.out)) : w.heap.size ≤ gb145)); replace HB := aM (zT (zH HB.out) hb); have NB143_145 := nL BK143.out hg; have NB145_143 := nR BK143.out hg; replace BK143 := yK BK143.out hb; have NB144_145 := nL BK144.out hg; have NB145_144 := nR BK144.out hg; replace BK144 := yK BK144.out hb; clear hb hbox hg))
   replace BK143 := aM (yD BK143.out); replace BK144 := aM (yD BK144.out); replace BK145 := aM (yD BK145.out); replace HB := aM (zD HB.out)
   refine start_ (n := 12) (S := fun w' => w'.cell? ⟨gb143, 0, none⟩ = some (.slice A0_0 l0_0.length c0_0) ∧ w'.cell? ⟨gb143, 1, none⟩ = some (.slice A0_1 l0_1.length c0_1) ∧ w'.cell? ⟨gb144, 0, none⟩ = some (.int .i64 a1_0) ∧ w'.cell? ⟨gb144, 1, none⟩ = some (.string a1_1)) (ds := []) #[fF,fF,fF,fF,fF,fF,fF,fF,fF,fF,fF,fF] (by kernel_rfl) rfl rfl ⟨yc BK143.out 0, yc BK143.out 1, yc BK144.out 0, yc BK144.out 1⟩ (fun hHeld => ?_); refine with_tabW impl_WriteSector.tab1 impl_WriteSector.bits1 (fun HT_ HW_ => ?_)
   generalize w71.drew = w72 at BK143 BK144 BK145 HB hHeld ⊢
   refine pure_ (i := 0) (N := some 7) (v := ?_) (a' := ?_) #[tT,fF,fF,fF,fF,fF,fF,fF,fF,fF,fF,fF] rfl rfl (any_of HT_.out (by kernel_rfl)) (fun _ _ _ h => h) (Or.inl ⟨by rfl, ?_⟩) ?_ ?_
   rotate_left
   ·intro w'
    go_simp
    with_reducible rfl
   rotate_left
   ·simp only [Act.put, qA, qB, qC, i64_w, i32_w]
    rfl
   refine pure_ (i := 3) (N := some 10) (v := ?_) (a' := ?_) #[tT,fF,fF,tT,fF,fF,fF,fF,fF,fF,fF,fF] rfl rfl (any_of HT_.out (by kernel_rfl)) (fun _ _ _ h => h) (Or.inl ⟨by rfl, ?_⟩) ?_ ?_
   rotate_left
   ·intro w'
    go_simp
    with_reducible rfl
   rotate_left
   ·simp only [Act.put, qA, qB, qC, i64_w, i32_w]
    rfl
   refine take_ (i := 1) (N := some 8) (v := ?_) (a' := ?_) #[tT,tT,fF,tT,fF,fF,fF,fF,fF,fF,fF,fF] rfl rfl (take_ofW HT_.out HW_.out (by kernel_rfl)) (fun _ _ _ h => h) (Or.inl ⟨by rfl, ?_⟩) hHeld ?_ ?_
   rotate_left
   ·rintro w' ⟨s0, s1, s2, s3⟩
    go_simp
    with_reducible rfl
   rotate_left
   ·simp only [Act.put, qA, qB, qC, i64_w, i32_w]
    rfl
   refine take_ (i := 4) (N := some 11) (v := ?_) (a' := ?_) #[tT,tT,fF,tT,tT,fF,fF,fF,fF,fF,fF,fF] rfl rfl (take_ofW HT_.out HW_.out (by kernel_rfl)) (fun _ _ _ h => h) (Or.inl ⟨by rfl, ?_⟩) hHeld ?_ ?_
   rotate_left
   ·rintro w' ⟨s0, s1, s2, s3⟩
    go_simp
    with_reducible rfl
   rotate_left
   ·simp only [Act.put, qA, qB, qC, i64_w, i32_w]
    rfl
   refine take_ (i := 6) (N := some 13) (v := ?_) (a' := ?_) #[tT,tT,fF,tT,tT,fF,tT,fF,fF,fF,fF,fF] rfl rfl (take_ofW HT_.out HW_.out (by kernel_rfl)) (fun _ _ _ h => h) (Or.inl ⟨by rfl, ?_⟩) hHeld ?_ ?_
   rotate_left
   ·rintro w' ⟨s0, s1, s2, s3⟩
    go_simp
    with_reducible rfl
   rotate_left
   ·simp only [Act.put, qA, qB, qC, i64_w, i32_w]
    rfl
   refine join_ (σ := Value × Value × Value × Value × Nat) 1 #[tT,tT,tT,tT,tT,tT,tT,tT,tT,tT,tT,fF] (fun s_ => [(9, s_.1), (12, s_.2.1), (14, s_.2.2.1), (15, s_.2.2.2.1), (6, .pointer (some ⟨s_.2.2.2.2, 0, none⟩)), (16, .agg #[s_.1, s_.2.2.2.1])]) (fun s_ w' => (w'.cell? ⟨gb143, 0, none⟩ = some (.slice A0_0 l0_0.length c0_0) ∧ w'.cell? ⟨gb143, 1, none⟩ = some (.slice A0_1 l0_1.length c0_1) ∧ w'.cell? ⟨gb144, 0, none⟩ = some (.int .i64 a1_0) ∧ w'.cell? ⟨gb144, 1, none⟩ = some (.string a1_1)) ∧ (Kd.R Kd.string 9 w' w.heap.size (fun _ => True) s_.1 t146) ∧ (Kd.R k42 42 w' w.heap.size (fun k_ => some k_ ≠ (s_.2.2.2.1 : Value).ownBlock ∧ k_ ≠ gb144) s_.2.2.1 y152) ∧ (Kd.R k42 42 w' w.heap.size (fun k_ => some k_ ≠ (s_.2.2.1 : Value).ownBlock ∧ k_ ≠ gb144) s_.2.2.2.1 y155) ∧ (w'.heap[gb143]? = some (.cells #[.slice A0_0 l0_0.length c0_0, .slice A0_1 l0_1.length c0_1] 30 (0, 0))) ∧ (w'.heap[gb144]? = some (.cells #[.int .i64 a1_0, .string a1_1] 42 (0, 0))) ∧ (w'.heap[gb145]? = some (.cells #[.slice none 0 0, .slice none 0 0] 30 (0, 0))) ∧ (w'.heap[s_.2.2.2.2]? = some (.cells #[.slice none 0 0, .slice none 0 0] 30 (0, 0))) ∧ (w.heap.size ≤ s_.2.2.2.2) ∧ (w.heap.size ≤ s_.2.2.2.2) ∧ (gb143 ≠ s_.2.2.2.2) ∧ (s_.2.2.2.2 ≠ gb143) ∧ (gb144 ≠ s_.2.2.2.2) ∧ (s_.2.2.2.2 ≠ gb144) ∧ (gb145 ≠ s_.2.2.2.2) ∧ (s_.2.2.2.2 ≠ gb145) ∧ (Below w.heap.size w w')) ?_ ?_
   rotate_left
   ·intro hJ2_5_7_8_10
    refine join_ (σ := Value × Value × Value × Value) 2 #[tT,tT,tT,tT,tT,tT,tT,tT,tT,tT,fF,fF] (fun s_ => [(9, s_.1), (12, s_.2.1), (14, s_.2.2.1), (15, s_.2.2.2), (16, .agg #[s_.1, s_.2.2.2])]) (fun s_ w' => (w'.cell? ⟨gb143, 0, none⟩ = some (.slice A0_0 l0_0.length c0_0) ∧ w'.cell? ⟨gb143, 1, none⟩ = some (.slice A0_1 l0_1.length c0_1) ∧ w'.cell? ⟨gb144, 0, none⟩ = some (.int .i64 a1_0) ∧ w'.cell? ⟨gb144, 1, none⟩ = some (.string a1_1)) ∧ (Kd.R Kd.string 9 w' w.heap.size (fun _ => True) s_.1 t146) ∧ (Kd.R k42 42 w' w.heap.size (fun k_ => some k_ ≠ (s_.2.2.2 : Value).ownBlock ∧ k_ ≠ gb144) s_.2.2.1 y152) ∧ (Kd.R k42 42 w' w.heap.size (fun k_ => some k_ ≠ (s_.2.2.1 : Value).ownBlock ∧ k_ ≠ gb144) s_.2.2.2 y155) ∧ (w'.heap[gb143]? = some (.cells #[.slice A0_0 l0_0.length c0_0, .slice A0_1 l0_1.length c0_1] 30 (0, 0))) ∧ (w'.heap[gb144]? = some (.cells #[.int .i64 a1_0, .string a1_1] 42 (0, 0))) ∧ (w'.heap[gb145]? = some (.cells #[.slice none 0 0, .slice none 0 0] 30 (0, 0))) ∧ (Below w.heap.size w w')) ?_ ?_
    rotate_left
    ·intro hJ2_5_7_8
     refine join_ (σ := Value × Value × Value × Nat) 3 #[tT,tT,tT,tT,tT,tT,tT,tT,fF,fF,tT,fF] (fun s_ => [(9, s_.1), (12, s_.2.1), (14, s_.2.2.1), (6, .pointer (some ⟨s_.2.2.2, 0, none⟩))]) (fun s_ w' => (w'.cell? ⟨gb143, 0, none⟩ = some (.slice A0_0 l0_0.length c0_0) ∧ w'.cell? ⟨gb143, 1, none⟩ = some (.slice A0_1 l0_1.length c0_1) ∧ w'.cell? ⟨gb144, 0, none⟩ = some (.int .i64 a1_0) ∧ w'.cell? ⟨gb144, 1, none⟩ = some (.string a1_1)) ∧ (Kd.R Kd.string 9 w' w.heap.size (fun _ => True) s_.1 t146) ∧ (Kd.R k42 42 w' w.heap.size (fun k_ => some k_ ≠ (s_.2.2.1 : Value).ownBlock ∧ k_ ≠ gb144) s_.2.1 t149) ∧ (Kd.R k42 42 w' w.heap.size (fun k_ => some k_ ≠ (s_.2.1 : Value).ownBlock ∧ k_ ≠ gb144) s_.2.2.1 y152) ∧ (w'.heap[gb143]? = some (.cells #[.slice A0_0 l0_0.length c0_0, .slice A0_1 l0_1.length c0_1] 30 (0, 0))) ∧ (w'.heap[gb144]? = some (.cells #[.int .i64 a1_0, .string a1_1] 42 (0, 0))) ∧ (w'.heap[gb145]? = some (.cells #[.slice none 0 0, .slice none 0 0] 30 (0, 0))) ∧ (w'.heap[s_.2.2.2]? = some (.cells #[.slice none 0 0, .slice none 0 0] 30 (0, 0))) ∧ (w.heap.size ≤ s_.2.2.2) ∧ (w.heap.size ≤ s_.2.2.2) ∧ (gb143 ≠ s_.2.2.2) ∧ (s_.2.2.2 ≠ gb143) ∧ (gb144 ≠ s_.2.2.2) ∧ (s_.2.2.2 ≠ gb144) ∧ (gb145 ≠ s_.2.2.2) ∧ (s_.2.2.2 ≠ gb145) ∧ (Below w.heap.size w w')) ?_ ?_
     rotate_left
     ·intro hJ2_5_7_10
      refine join_ (σ := Value × Value × Value) 4 #[tT,tT,tT,tT,tT,tT,tT,tT,fF,fF,fF,fF] (fun s_ => [(9, s_.1), (12, s_.2.1), (14, s_.2.2)]) (fun s_ w' => (w'.cell? ⟨gb143, 0, none⟩ = some (.slice A0_0 l0_0.length c0_0) ∧ w'.cell? ⟨gb143, 1, none⟩ = some (.slice A0_1 l0_1.length c0_1) ∧ w'.cell? ⟨gb144, 0, none⟩ = some (.int .i64 a1_0) ∧ w'.cell? ⟨gb144, 1, none⟩ = some (.string a1_1)) ∧ (Kd.R Kd.string 9 w' w.heap.size (fun _ => True) s_.1 t146) ∧ (Kd.R k42 42 w' w.heap.size (fun k_ => some k_ ≠ (s_.2.2 : Value).ownBlock ∧ k_ ≠ gb144) s_.2.1 t149) ∧ (Kd.R k42 42 w' w.heap.size (fun k_ => some k_ ≠ (s_.2.1 : Value).ownBlock ∧ k_ ≠ gb144) s_.2.2 y152) ∧ (w'.heap[gb143]? = some (.cells #[.slice A0_0 l0_0.length c0_0, .slice A0_1 l0_1.length c0_1] 30 (0, 0))) ∧ (w'.heap[gb144]? = some (.cells #[.int .i64 a1_0, .string a1_1] 42 (0, 0))) ∧ (w'.heap[gb145]? = some (.cells #[.slice none 0 0, .slice none 0 0] 30 (0, 0))) ∧ (Below w.heap.size w w')) ?_ ?_
      rotate_left
      ·intro hJ2_5_7
       refine join_ (σ := Value × Value × Nat) 4 #[tT,tT,tT,tT,tT,tT,tT,fF,fF,fF,tT,fF] (fun s_ => [(9, s_.1), (12, s_.2.1), (6, .pointer (some ⟨s_.2.2, 0, none⟩))]) (fun s_ w' => (w'.cell? ⟨gb143, 0, none⟩ = some (.slice A0_0 l0_0.length c0_0) ∧ w'.cell? ⟨gb143, 1, none⟩ = some (.slice A0_1 l0_1.length c0_1) ∧ w'.cell? ⟨gb144, 0, none⟩ = some (.int .i64 a1_0) ∧ w'.cell? ⟨gb144, 1, none⟩ = some (.string a1_1)) ∧ (Kd.R Kd.string 9 w' w.heap.size (fun _ => True) s_.1 t146) ∧ (Kd.R k42 42 w' w.heap.size (fun k_ => k_ ≠ gb144) s_.2.1 t149) ∧ (w'.heap[gb143]? = some (.cells #[.slice A0_0 l0_0.length c0_0, .slice A0_1 l0_1.length c0_1] 30 (0, 0))) ∧ (w'.heap[gb144]? = some (.cells #[.int .i64 a1_0, .string a1_1] 42 (0, 0))) ∧ (w'.heap[gb145]? = some (.cells #[.slice none 0 0, .slice none 0 0] 30 (0, 0))) ∧ (w'.heap[s_.2.2]? = some (.cells #[.slice none 0 0, .slice none 0 0] 30 (0, 0))) ∧ (w.heap.size ≤ s_.2.2) ∧ (w.heap.size ≤ s_.2.2) ∧ (gb143 ≠ s_.2.2) ∧ (s_.2.2 ≠ gb143) ∧ (gb144 ≠ s_.2.2) ∧ (s_.2.2 ≠ gb144) ∧ (gb145 ≠ s_.2.2) ∧ (s_.2.2 ≠ gb145) ∧ (Below w.heap.size w w')) ?_ ?_
       rotate_left
       ·intro hJ2_5_10
        refine join_ (σ := Value × Value × Nat) 4 #[tT,tT,tT,tT,tT,fF,tT,tT,fF,fF,tT,fF] (fun s_ => [(9, s_.1), (14, s_.2.1), (6, .pointer (some ⟨s_.2.2, 0, none⟩))]) (fun s_ w' => (w'.cell? ⟨gb143, 0, none⟩ = some (.slice A0_0 l0_0.length c0_0) ∧ w'.cell? ⟨gb143, 1, none⟩ = some (.slice A0_1 l0_1.length c0_1) ∧ w'.cell? ⟨gb144, 0, none⟩ = some (.int .i64 a1_0) ∧ w'.cell? ⟨gb144, 1, none⟩ = some (.string a1_1)) ∧ (Kd.R Kd.string 9 w' w.heap.size (fun _ => True) s_.1 t146) ∧ (Kd.R k42 42 w' w.heap.size (fun k_ => k_ ≠ gb144) s_.2.1 y152) ∧ (w'.heap[gb143]? = some (.cells #[.slice A0_0 l0_0.length c0_0, .slice A0_1 l0_1.length c0_1] 30 (0, 0))) ∧ (w'.heap[gb144]? = some (.cells #[.int .i64 a1_0, .string a1_1] 42 (0, 0))) ∧ (w'.heap[gb145]? = some (.cells #[.slice none 0 0, .slice none 0 0] 30 (0, 0))) ∧ (w'.heap[s_.2.2]? = some (.cells #[.slice none 0 0, .slice none 0 0] 30 (0, 0))) ∧ (w.heap.size ≤ s_.2.2) ∧ (w.heap.size ≤ s_.2.2) ∧ (gb143 ≠ s_.2.2) ∧ (s_.2.2 ≠ gb143) ∧ (gb144 ≠ s_.2.2) ∧ (s_.2.2 ≠ gb144) ∧ (gb145 ≠ s_.2.2) ∧ (s_.2.2 ≠ gb145) ∧ (Below w.heap.size w w')) ?_ ?_
        rotate_left
        ·intro hJ2_7_10
         refine join_ (σ := Value × Value) 5 #[tT,tT,tT,tT,tT,tT,tT,fF,fF,fF,fF,fF] (fun s_ => [(9, s_.1), (12, s_.2)]) (fun s_ w' => (w'.cell? ⟨gb143, 0, none⟩ = some (.slice A0_0 l0_0.length c0_0) ∧ w'.cell? ⟨gb143, 1, none⟩ = some (.slice A0_1 l0_1.length c0_1) ∧ w'.cell? ⟨gb144, 0, none⟩ = some (.int .i64 a1_0) ∧ w'.cell? ⟨gb144, 1, none⟩ = some (.string a1_1)) ∧ (Kd.R Kd.string 9 w' w.heap.size (fun _ => True) s_.1 t146) ∧ (Kd.R k42 42 w' w.heap.size (fun k_ => k_ ≠ gb144) s_.2 t149) ∧ (w'.heap[gb143]? = some (.cells #[.slice A0_0 l0_0.length c0_0, .slice A0_1 l0_1.length c0_1] 30 (0, 0))) ∧ (w'.heap[gb144]? = some (.cells #[.int .i64 a1_0, .string a1_1] 42 (0, 0))) ∧ (w'.heap[gb145]? = some (.cells #[.slice none 0 0, .slice none 0 0] 30 (0, 0))) ∧ (Below w.heap.size w w')) ?_ ?_
         rotate_left
         ·intro hJ2_5
          refine join_ (σ := Value × Value) 5 #[tT,tT,tT,tT,tT,fF,tT,tT,fF,fF,fF,fF] (fun s_ => [(9, s_.1), (14, s_.2)]) (fun s_ w' => (w'.cell? ⟨gb143, 0, none⟩ = some (.slice A0_0 l0_0.length c0_0) ∧ w'.cell? ⟨gb143, 1, none⟩ = some (.slice A0_1 l0_1.length c0_1) ∧ w'.cell? ⟨gb144, 0, none⟩ = some (.int .i64 a1_0) ∧ w'.cell? ⟨gb144, 1, none⟩ = some (.string a1_1)) ∧ (Kd.R Kd.string 9 w' w.heap.size (fun _ => True) s_.1 t146) ∧ (Kd.R k42 42 w' w.heap.size (fun k_ => k_ ≠ gb144) s_.2 y152) ∧ (w'.heap[gb143]? = some (.cells #[.slice A0_0 l0_0.length c0_0, .slice A0_1 l0_1.length c0_1] 30 (0, 0))) ∧ (w'.heap[gb144]? = some (.cells #[.int .i64 a1_0, .string a1_1] 42 (0, 0))) ∧ (w'.heap[gb145]? = some (.cells #[.slice none 0 0, .slice none 0 0] 30 (0, 0))) ∧ (Below w.heap.size w w')) ?_ ?_
          rotate_left
          ·intro hJ2_7
           refine join_ (σ := Value × Nat) 5 #[tT,tT,tT,tT,tT,fF,tT,fF,fF,fF,tT,fF] (fun s_ => [(9, s_.1), (6, .pointer (some ⟨s_.2, 0, none⟩))]) (fun s_ w' => (w'.cell? ⟨gb143, 0, none⟩ = some (.slice A0_0 l0_0.length c0_0) ∧ w'.cell? ⟨gb143, 1, none⟩ = some (.slice A0_1 l0_1.length c0_1) ∧ w'.cell? ⟨gb144, 0, none⟩ = some (.int .i64 a1_0) ∧ w'.cell? ⟨gb144, 1, none⟩ = some (.string a1_1)) ∧ (Kd.R Kd.string 9 w' w.heap.size (fun _ => True) s_.1 t146) ∧ (w'.heap[gb143]? = some (.cells #[.slice A0_0 l0_0.length c0_0, .slice A0_1 l0_1.length c0_1] 30 (0, 0))) ∧ (w'.heap[gb144]? = some (.cells #[.int .i64 a1_0, .string a1_1] 42 (0, 0))) ∧ (w'.heap[gb145]? = some (.cells #[.slice none 0 0, .slice none 0 0] 30 (0, 0))) ∧ (w'.heap[s_.2]? = some (.cells #[.slice none 0 0, .slice none 0 0] 30 (0, 0))) ∧ (w.heap.size ≤ s_.2) ∧ (w.heap.size ≤ s_.2) ∧ (gb143 ≠ s_.2) ∧ (s_.2 ≠ gb143) ∧ (gb144 ≠ s_.2) ∧ (s_.2 ≠ gb144) ∧ (gb145 ≠ s_.2) ∧ (s_.2 ≠ gb145) ∧ (Below w.heap.size w w')) ?_ ?_
           rotate_left
           ·intro hJ2_10
            refine join_ (σ := Value × Nat) 5 #[tT,tT,fF,tT,tT,fF,tT,tT,fF,fF,tT,fF] (fun s_ => [(14, s_.1), (6, .pointer (some ⟨s_.2, 0, none⟩))]) (fun s_ w' => (w'.cell? ⟨gb143, 0, none⟩ = some (.slice A0_0 l0_0.length c0_0) ∧ w'.cell? ⟨gb143, 1, none⟩ = some (.slice A0_1 l0_1.length c0_1) ∧ w'.cell? ⟨gb144, 0, none⟩ = some (.int .i64 a1_0) ∧ w'.cell? ⟨gb144, 1, none⟩ = some (.string a1_1)) ∧ (Kd.R k42 42 w' w.heap.size (fun k_ => k_ ≠ gb144) s_.1 y152) ∧ (w'.heap[gb143]? = some (.cells #[.slice A0_0 l0_0.length c0_0, .slice A0_1 l0_1.length c0_1] 30 (0, 0))) ∧ (w'.heap[gb144]? = some (.cells #[.int .i64 a1_0, .string a1_1] 42 (0, 0))) ∧ (w'.heap[gb145]? = some (.cells #[.slice none 0 0, .slice none 0 0] 30 (0, 0))) ∧ (w'.heap[s_.2]? = some (.cells #[.slice none 0 0, .slice none 0 0] 30 (0, 0))) ∧ (w.heap.size ≤ s_.2) ∧ (w.heap.size ≤ s_.2) ∧ (gb143 ≠ s_.2) ∧ (s_.2 ≠ gb143) ∧ (gb144 ≠ s_.2) ∧ (s_.2 ≠ gb144) ∧ (gb145 ≠ s_.2) ∧ (s_.2 ≠ gb145) ∧ (Below w.heap.size w w')) ?_ ?_
            rotate_left
            ·intro hJ7_10
             refine join_ (σ := Value) 6 #[tT,tT,tT,tT,tT,fF,tT,fF,fF,fF,fF,fF] (fun s_ => [(9, s_)]) (fun s_ w' => (w'.cell? ⟨gb143, 0, none⟩ = some (.slice A0_0 l0_0.length c0_0) ∧ w'.cell? ⟨gb143, 1, none⟩ = some (.slice A0_1 l0_1.length c0_1) ∧ w'.cell? ⟨gb144, 0, none⟩ = some (.int .i64 a1_0) ∧ w'.cell? ⟨gb144, 1, none⟩ = some (.string a1_1)) ∧ (Kd.R Kd.string 9 w' w.heap.size (fun _ => True) s_ t146) ∧ (w'.heap[gb143]? = some (.cells #[.slice A0_0 l0_0.length c0_0, .slice A0_1 l0_1.length c0_1] 30 (0, 0))) ∧ (w'.heap[gb144]? = some (.cells #[.int .i64 a1_0, .string a1_1] 42 (0, 0))) ∧ (w'.heap[gb145]? = some (.cells #[.slice none 0 0, .slice none 0 0] 30 (0, 0))) ∧ (Below w.heap.size w w')) ?_ ?_
             rotate_left
             ·intro hJ2
              refine join_ (σ := Value) 6 #[tT,tT,fF,tT,tT,fF,tT,tT,fF,fF,fF,fF] (fun s_ => [(14, s_)]) (fun s_ w' => (w'.cell? ⟨gb143, 0, none⟩ = some (.slice A0_0 l0_0.length c0_0) ∧ w'.cell? ⟨gb143, 1, none⟩ = some (.slice A0_1 l0_1.length c0_1) ∧ w'.cell? ⟨gb144, 0, none⟩ = some (.int .i64 a1_0) ∧ w'.cell? ⟨gb144, 1, none⟩ = some (.string a1_1)) ∧ (Kd.R k42 42 w' w.heap.size (fun k_ => k_ ≠ gb144) s_ y152) ∧ (w'.heap[gb143]? = some (.cells #[.slice A0_0 l0_0.length c0_0, .slice A0_1 l0_1.length c0_1] 30 (0, 0))) ∧ (w'.heap[gb144]? = some (.cells #[.int .i64 a1_0, .string a1_1] 42 (0, 0))) ∧ (w'.heap[gb145]? = some (.cells #[.slice none 0 0, .slice none 0 0] 30 (0, 0))) ∧ (Below w.heap.size w w')) ?_ ?_
              rotate_left
              ·intro hJ7
               refine join_ (σ := Nat) 6 #[tT,tT,fF,tT,tT,fF,tT,fF,fF,fF,tT,fF] (fun s_ => [(6, .pointer (some ⟨s_, 0, none⟩))]) (fun s_ w' => (w'.cell? ⟨gb143, 0, none⟩ = some (.slice A0_0 l0_0.length c0_0) ∧ w'.cell? ⟨gb143, 1, none⟩ = some (.slice A0_1 l0_1.length c0_1) ∧ w'.cell? ⟨gb144, 0, none⟩ = some (.int .i64 a1_0) ∧ w'.cell? ⟨gb144, 1, none⟩ = some (.string a1_1)) ∧ (w'.heap[gb143]? = some (.cells #[.slice A0_0 l0_0.length c0_0, .slice A0_1 l0_1.length c0_1] 30 (0, 0))) ∧ (w'.heap[gb144]? = some (.cells #[.int .i64 a1_0, .string a1_1] 42 (0, 0))) ∧ (w'.heap[gb145]? = some (.cells #[.slice none 0 0, .slice none 0 0] 30 (0, 0))) ∧ (w'.heap[s_]? = some (.cells #[.slice none 0 0, .slice none 0 0] 30 (0, 0))) ∧ (w.heap.size ≤ s_) ∧ (w.heap.size ≤ s_) ∧ (gb143 ≠ s_) ∧ (s_ ≠ gb143) ∧ (gb144 ≠ s_) ∧ (s_ ≠ gb144) ∧ (gb145 ≠ s_) ∧ (s_ ≠ gb145) ∧ (Below w.heap.size w w')) ?_ ?_
               rotate_left
               ·intro hJ10
                refine three_ (i := 2) (j := 7) (k := 10) (Ni := some 9) (Nj := some 14) (Nk := some 6) #[tT,tT,tT,tT,tT,fF,tT,fF,fF,fF,fF,fF] #[tT,tT,fF,tT,tT,fF,tT,tT,fF,fF,fF,fF] #[tT,tT,fF,tT,tT,fF,tT,fF,fF,fF,tT,fF] rfl rfl rfl rfl rfl rfl (three_of HT_.out (by kernel_rfl)) (by decide) (by decide) (by decide) (fun K hK => ?_) (fun K hK => ?_) (fun K hK => ?_)
                ·skip
                 refine gS Try.func66 (by kernel_rfl) rfl #[.slice A0_0 l0_0.length c0_0] (by rfl) rfl rfl ?_
                 with_reducible refine (slices_Clone_string_string.calls _ _ l0_0 t146 _ ?side1 ?side2 A3.out).mono ?_
                 (case side1 => exact cK HR0_0.out HB.out)
                 (case side2 => exact HC0_0.out)
                 rintro e w73 ⟨v147, rfl, ho0, hb⟩
                 refine ⟨_, rfl, ?_⟩
                 have HO148 := aM (xL ho0 (zZ (zH HB.out))); replace BK143 := yK BK143.out hb; replace BK144 := yK BK144.out hb; replace BK145 := yK BK145.out hb; replace HB := aM (zT (zH HB.out) hb)
                 (try clear hb); (try clear ho0)
                 refine hK.out _ _ ⟨yc BK143.out 0, yc BK143.out 1, yc BK144.out 0, yc BK144.out 1⟩ (fun hHeld => ?_)
                 clear hK K; refine norm_ (a' := ?_) ?_ ?_; rotate_left
                 ·show Act.put _ (some 9) _ = _
                  simp only [Act.put, qA, qB, qC, i64_w, i32_w]
                  rfl
                 exact norm_ (by first | (simp only [putAll, Act.put, qA, qB, qC]; done) | (simp only [putAll, Act.put, qA, qB, qC]; rfl)) (hJ2 (v147) _ ⟨hHeld, (xH HO148.out), (yH BK143.out), (yH BK144.out), (yH BK145.out), (zH HB.out)⟩)
                ·skip
                 refine Kd.R_lit_step k42 _ 42 ?hg (N := 14) ?hd (xs := ([(⟨a1_0, a1_1⟩ : S42)] : List (S42))) (inner := [.int .i64 a1_0, .string a1_1]) (ok := fun _ => True) (okp := fun _ => True) ?hr ?hp (fun _ hk => hk) trivial (Below.refl _ _) (Nat.le_refl _) (by simp) ?_; (case hd => rfl); (case hg => rfl); (case hr => first | (go_simp; done) | (go_simp; rfl)); (case hp => exact (Reps.c2 (show Kd.M k42 _ _ _ (⟨a1_0, a1_1⟩ : S42) [.int .i64 a1_0, .string a1_1] from (k42_mkM _ _ _ (⟨a1_0, a1_1⟩ : S42) )) (Reps.none _ _)))
                 intro v153 w73 ho74 hb hg_ hnew_
                 clear hg_ hnew_
                 (first | rw [← Ny152.out] at ho74 | (simp only [Int.reduceToNat] at ho74; rw [← Ny152.out] at ho74))
                 have HO154 := aM (xL (Kd.R_newB ho74 (g := gb144) (o := .cells #[.int .i64 a1_0, .string a1_1] 42 (0, 0)) (yH BK144.out)) (zZ (zH HB.out))); replace BK143 := yK BK143.out hb; replace BK144 := yK BK144.out hb; replace BK145 := yK BK145.out hb; replace HB := aM (zT (zH HB.out) hb); clear hb ho74
                 refine hK.out _ _ ⟨yc BK143.out 0, yc BK143.out 1, yc BK144.out 0, yc BK144.out 1⟩ (fun hHeld => ?_)
                 clear hK K; refine norm_ (a' := ?_) ?_ ?_; rotate_left
                 ·show Act.put _ (some 14) _ = _
                  simp only [Act.put, qA, qB, qC, i64_w, i32_w]
                  rfl
                 exact norm_ (by first | (simp only [putAll, Act.put, qA, qB, qC]; done) | (simp only [putAll, Act.put, qA, qB, qC]; rfl)) (hJ7 (v153) _ ⟨hHeld, (xH (xM HO154.out (fun _ hk => hk.2))), (yH BK143.out), (yH BK144.out), (yH BK145.out), (zH HB.out)⟩)
                ·skip
                 refine box_step ?hg (N := 6) ?hd (cs := #[.slice none 0 0, .slice none 0 0]) (t := 30) ?hr ?_; (case hd => rfl); (case hg => rfl); (case hr => first | (go_simp; done) | (go_simp; rfl))
                 intro gb158 hg w73 hbox hb
                 have BK158 := aM (hbox)
                 have GW158 := aM ((by rw [hg]; exact (zZ (zH HB.out)) : w.heap.size ≤ gb158))
                 have GE158 := aM ((by rw [hg]; exact (zZ (zH HB.out)) : w.heap.size ≤ gb158))
                 replace HB := aM (zT (zH HB.out) hb); have NB143_158 := nL BK143.out hg; have NB158_143 := nR BK143.out hg; replace BK143 := yK BK143.out hb; have NB144_158 := nL BK144.out hg; have NB158_144 := nR BK144.out hg; replace BK144 := yK BK144.out hb; have NB145_158 := nL BK145.out hg; have NB158_145 := nR BK145.out hg; replace BK145 := yK BK145.out hb; clear hb hbox hg
                 refine hK.out _ _ ⟨yc BK143.out 0, yc BK143.out 1, yc BK144.out 0, yc BK144.out 1⟩ (fun hHeld => ?_)
                 clear hK K; refine norm_ (a' := ?_) ?_ ?_; rotate_left
                 ·show Act.put _ (some 6) _ = _
                  simp only [Act.put, qA, qB, qC, i64_w, i32_w]
                  rfl
                 exact norm_ (by first | (simp only [putAll, Act.put, qA, qB, qC]; done) | (simp only [putAll, Act.put, qA, qB, qC]; rfl)) (hJ10 (gb158) _ ⟨hHeld, (yH BK143.out), (yH BK144.out), (yH BK145.out), (yH BK158.out), GW158.out, GE158.out, NB143_158.out, NB158_143.out, NB144_158.out, NB158_144.out, NB145_158.out, NB158_145.out, (zH HB.out)⟩)
               ·skip
                rintro gb158 w74 ⟨hS_, h0_, h1_, h2_, h3_, h4_, h5_, h6_, h7_, h8_, h9_, h10_, h11_, h12_⟩
                (try dsimp only at h0_ h1_ h2_ h3_ h4_ h5_ h6_ h7_ h8_ h9_ h10_ h11_ h12_)
                have n0_ := aM h0_; have n1_ := aM h1_; have n2_ := aM h2_; have n3_ := aM h3_; have n4_ := aM h4_; have n5_ := aM h5_; have n6_ := aM h6_; have n7_ := aM h7_; have n8_ := aM h8_; have n9_ := aM h9_; have n10_ := aM h10_; have n11_ := aM h11_; have n12_ := aM h12_; clear BK143 BK144 BK145 HB h0_ h1_ h2_ h3_ h4_ h5_ h6_ h7_ h8_ h9_ h10_ h11_ h12_; have BK143 := n0_; have BK144 := n1_; have BK145 := n2_; have BK158 := n3_; have GW158 := n4_; have GE158 := n5_; have NB143_158 := n6_; have NB158_143 := n7_; have NB144_158 := n8_; have NB158_144 := n9_; have NB145_158 := n10_; have NB158_145 := n11_; have HB := n12_; clear n0_ n1_ n2_ n3_ n4_ n5_ n6_ n7_ n8_ n9_ n10_ n11_ n12_; have hHeld : w74.cell? ⟨gb143, 0, none⟩ = some (.slice A0_0 l0_0.length c0_0) ∧ w74.cell? ⟨gb143, 1, none⟩ = some (.slice A0_1 l0_1.length c0_1) ∧ w74.cell? ⟨gb144, 0, none⟩ = some (.int .i64 a1_0) ∧ w74.cell? ⟨gb144, 1, none⟩ = some (.string a1_1) := hS_; refine norm_ (a' := ?_) ?_ ?_; rotate_left
                ·simp only [putAll, Act.put, qA, qB, qC]
                 rfl
                refine two_ (i := 2) (j := 7) (Ni := some 9) (Nj := some 14) #[tT,tT,tT,tT,tT,fF,tT,fF,fF,fF,tT,fF] #[tT,tT,fF,tT,tT,fF,tT,tT,fF,fF,tT,fF] rfl rfl rfl rfl (two_of HT_.out (by kernel_rfl)) (by decide) (by decide) (fun K hK => ?_) (fun K hK => ?_)
                ·skip
                 refine gS Try.func66 (by kernel_rfl) rfl #[.slice A0_0 l0_0.length c0_0] (by rfl) rfl rfl ?_
                 with_reducible refine (slices_Clone_string_string.calls _ _ l0_0 t146 _ ?side1 ?side2 A3.out).mono ?_
                 (case side1 => exact cK HR0_0.out HB.out)
                 (case side2 => exact HC0_0.out)
                 rintro e w75 ⟨v147, rfl, ho0, hb⟩
                 refine ⟨_, rfl, ?_⟩
                 have HO148 := aM (xL ho0 (zZ (zH HB.out))); replace BK143 := yK BK143.out hb; replace BK144 := yK BK144.out hb; replace BK145 := yK BK145.out hb; replace BK158 := yK BK158.out hb; replace HB := aM (zT (zH HB.out) hb)
                 (try clear hb); (try clear ho0)
                 refine hK.out _ _ ⟨yc BK143.out 0, yc BK143.out 1, yc BK144.out 0, yc BK144.out 1⟩ (fun hHeld => ?_)
                 clear hK K; refine norm_ (a' := ?_) ?_ ?_; rotate_left
                 ·show Act.put _ (some 9) _ = _
                  simp only [Act.put, qA, qB, qC, i64_w, i32_w]
                  rfl
                 exact norm_ (by first | (simp only [putAll, Act.put, qA, qB, qC]; done) | (simp only [putAll, Act.put, qA, qB, qC]; rfl)) (hJ2_10 (v147, gb158) _ ⟨hHeld, (xH HO148.out), (yH BK143.out), (yH BK144.out), (yH BK145.out), (yH BK158.out), GW158.out, GE158.out, NB143_158.out, NB158_143.out, NB144_158.out, NB158_144.out, NB145_158.out, NB158_145.out, (zH HB.out)⟩)
                ·skip
                 refine Kd.R_lit_step k42 _ 42 ?hg (N := 14) ?hd (xs := ([(⟨a1_0, a1_1⟩ : S42)] : List (S42))) (inner := [.int .i64 a1_0, .string a1_1]) (ok := fun _ => True) (okp := fun _ => True) ?hr ?hp (fun _ hk => hk) trivial (Below.refl _ _) (Nat.le_refl _) (by simp) ?_; (case hd => rfl); (case hg => rfl); (case hr => first | (go_simp; done) | (go_simp; rfl)); (case hp => exact (Reps.c2 (show Kd.M k42 _ _ _ (⟨a1_0, a1_1⟩ : S42) [.int .i64 a1_0, .string a1_1] from (k42_mkM _ _ _ (⟨a1_0, a1_1⟩ : S42) )) (Reps.none _ _)))
                 intro v153 w75 ho76 hb hg_ hnew_
                 clear hg_ hnew_
                 (first | rw [← Ny152.out] at ho76 | (simp only [Int.reduceToNat] at ho76; rw [← Ny152.out] at ho76))
                 have HO154 := aM (xL (Kd.R_newB ho76 (g := gb144) (o := .cells #[.int .i64 a1_0, .string a1_1] 42 (0, 0)) (yH BK144.out)) (zZ (zH HB.out))); replace BK143 := yK BK143.out hb; replace BK144 := yK BK144.out hb; replace BK145 := yK BK145.out hb; replace BK158 := yK BK158.out hb; replace HB := aM (zT (zH HB.out) hb); clear hb ho76
                 refine hK.out _ _ ⟨yc BK143.out 0, yc BK143.out 1, yc BK144.out 0, yc BK144.out 1⟩ (fun hHeld => ?_)
                 clear hK K; refine norm_ (a' := ?_) ?_ ?_; rotate_left
                 ·show Act.put _ (some 14) _ = _
                  simp only [Act.put, qA, qB, qC, i64_w, i32_w]
                  rfl
                 exact norm_ (by first | (simp only [putAll, Act.put, qA, qB, qC]; done) | (simp only [putAll, Act.put, qA, qB, qC]; rfl)) (hJ7_10 (v153, gb158) _ ⟨hHeld, (xH (xM HO154.out (fun _ hk => hk.2))), (yH BK143.out), (yH BK144.out), (yH BK145.out), (yH BK158.out), GW158.out, GE158.out, NB143_158.out, NB158_143.out, NB144_158.out, NB158_144.out, NB145_158.out, NB158_145.out, (zH HB.out)⟩)
              ·skip
               rintro v153 w75 ⟨hS_, h0_, h1_, h2_, h3_, h4_⟩
               (try dsimp only at h0_ h1_ h2_ h3_ h4_)
               have n0_ := aM h0_; have n1_ := aM h1_; have n2_ := aM h2_; have n3_ := aM h3_; have n4_ := aM h4_; clear BK143 BK144 BK145 HB h0_ h1_ h2_ h3_ h4_; have HO154 := n0_; have BK143 := n1_; have BK144 := n2_; have BK145 := n3_; have HB := n4_; clear n0_ n1_ n2_ n3_ n4_; have hHeld : w75.cell? ⟨gb143, 0, none⟩ = some (.slice A0_0 l0_0.length c0_0) ∧ w75.cell? ⟨gb143, 1, none⟩ = some (.slice A0_1 l0_1.length c0_1) ∧ w75.cell? ⟨gb144, 0, none⟩ = some (.int .i64 a1_0) ∧ w75.cell? ⟨gb144, 1, none⟩ = some (.string a1_1) := hS_; refine norm_ (a' := ?_) ?_ ?_; rotate_left
               ·simp only [putAll, Act.put, qA, qB, qC]
                rfl
               refine two_ (i := 2) (j := 10) (Ni := some 9) (Nj := some 6) #[tT,tT,tT,tT,tT,fF,tT,tT,fF,fF,fF,fF] #[tT,tT,fF,tT,tT,fF,tT,tT,fF,fF,tT,fF] rfl rfl rfl rfl (two_of HT_.out (by kernel_rfl)) (by decide) (by decide) (fun K hK => ?_) (fun K hK => ?_)
               ·skip
                refine gS Try.func66 (by kernel_rfl) rfl #[.slice A0_0 l0_0.length c0_0] (by rfl) rfl rfl ?_
                with_reducible refine (slices_Clone_string_string.calls _ _ l0_0 t146 _ ?side1 ?side2 A3.out).mono ?_
                (case side1 => exact cK HR0_0.out HB.out)
                (case side2 => exact HC0_0.out)
                rintro e w76 ⟨v147, rfl, ho0, hb⟩
                refine ⟨_, rfl, ?_⟩
                replace HO154 := xK HO154.out hb; have HO148 := aM (xL ho0 (zZ (zH HB.out))); replace BK143 := yK BK143.out hb; replace BK144 := yK BK144.out hb; replace BK145 := yK BK145.out hb; replace HB := aM (zT (zH HB.out) hb)
                (try clear hb); (try clear ho0)
                refine hK.out _ _ ⟨yc BK143.out 0, yc BK143.out 1, yc BK144.out 0, yc BK144.out 1⟩ (fun hHeld => ?_)
                clear hK K; refine norm_ (a' := ?_) ?_ ?_; rotate_left
                ·show Act.put _ (some 9) _ = _
                 simp only [Act.put, qA, qB, qC, i64_w, i32_w]
                 rfl
                exact norm_ (by first | (simp only [putAll, Act.put, qA, qB, qC]; done) | (simp only [putAll, Act.put, qA, qB, qC]; rfl)) (hJ2_7 (v147, v153) _ ⟨hHeld, (xH HO148.out), (xH HO154.out), (yH BK143.out), (yH BK144.out), (yH BK145.out), (zH HB.out)⟩)
               ·skip
                refine box_step ?hg (N := 6) ?hd (cs := #[.slice none 0 0, .slice none 0 0]) (t := 30) ?hr ?_; (case hd => rfl); (case hg => rfl); (case hr => first | (go_simp; done) | (go_simp; rfl))
                intro gb158 hg w76 hbox hb
                replace HO154 := xK HO154.out hb; have BK158 := aM (hbox)
                have GW158 := aM ((by rw [hg]; exact (zZ (zH HB.out)) : w.heap.size ≤ gb158))
                have GE158 := aM ((by rw [hg]; exact (zZ (zH HB.out)) : w.heap.size ≤ gb158))
                replace HB := aM (zT (zH HB.out) hb); have NB143_158 := nL BK143.out hg; have NB158_143 := nR BK143.out hg; replace BK143 := yK BK143.out hb; have NB144_158 := nL BK144.out hg; have NB158_144 := nR BK144.out hg; replace BK144 := yK BK144.out hb; have NB145_158 := nL BK145.out hg; have NB158_145 := nR BK145.out hg; replace BK145 := yK BK145.out hb; clear hb hbox hg
                refine hK.out _ _ ⟨yc BK143.out 0, yc BK143.out 1, yc BK144.out 0, yc BK144.out 1⟩ (fun hHeld => ?_)
                clear hK K; refine norm_ (a' := ?_) ?_ ?_; rotate_left
                ·show Act.put _ (some 6) _ = _
                 simp only [Act.put, qA, qB, qC, i64_w, i32_w]
                 rfl
                exact norm_ (by first | (simp only [putAll, Act.put, qA, qB, qC]; done) | (simp only [putAll, Act.put, qA, qB, qC]; rfl)) (hJ7_10 (v153, gb158) _ ⟨hHeld, (xH HO154.out), (yH BK143.out), (yH BK144.out), (yH BK145.out), (yH BK158.out), GW158.out, GE158.out, NB143_158.out, NB158_143.out, NB144_158.out, NB158_144.out, NB145_158.out, NB158_145.out, (zH HB.out)⟩)
             ·skip
              rintro v147 w74 ⟨hS_, h0_, h1_, h2_, h3_, h4_⟩
              (try dsimp only at h0_ h1_ h2_ h3_ h4_)
              have n0_ := aM h0_; have n1_ := aM h1_; have n2_ := aM h2_; have n3_ := aM h3_; have n4_ := aM h4_; clear BK143 BK144 BK145 HB h0_ h1_ h2_ h3_ h4_; have HO148 := n0_; have BK143 := n1_; have BK144 := n2_; have BK145 := n3_; have HB := n4_; clear n0_ n1_ n2_ n3_ n4_; have hHeld : w74.cell? ⟨gb143, 0, none⟩ = some (.slice A0_0 l0_0.length c0_0) ∧ w74.cell? ⟨gb143, 1, none⟩ = some (.slice A0_1 l0_1.length c0_1) ∧ w74.cell? ⟨gb144, 0, none⟩ = some (.int .i64 a1_0) ∧ w74.cell? ⟨gb144, 1, none⟩ = some (.string a1_1) := hS_; refine norm_ (a' := ?_) ?_ ?_; rotate_left
              ·simp only [putAll, Act.put, qA, qB, qC]
               rfl
              refine three_ (i := 5) (j := 7) (k := 10) (Ni := some 12) (Nj := some 14) (Nk := some 6) #[tT,tT,tT,tT,tT,tT,tT,fF,fF,fF,fF,fF] #[tT,tT,tT,tT,tT,fF,tT,tT,fF,fF,fF,fF] #[tT,tT,tT,tT,tT,fF,tT,fF,fF,fF,tT,fF] rfl rfl rfl rfl rfl rfl (three_of HT_.out (by kernel_rfl)) (by decide) (by decide) (by decide) (fun K hK => ?_) (fun K hK => ?_) (fun K hK => ?_)
              ·skip
               refine gS Try.func67 (by kernel_rfl) rfl #[.slice A0_1 l0_1.length c0_1] (by rfl) rfl rfl ?_
               with_reducible refine (impl_Write.calls _ _ l0_1 t149 _ ?side1 ?side2 A4.out).mono ?_
               (case side1 => exact cK HR0_1.out HB.out)
               (case side2 => exact HC0_1.out)
               rintro e w75 ⟨v150, rfl, ho0, hb⟩
               refine ⟨_, rfl, ?_⟩
               replace HO148 := xK HO148.out hb; have HO151 := aM (xL (Kd.R_newB ho0 (g := gb144) (o := .cells #[.int .i64 a1_0, .string a1_1] 42 (0, 0)) (yH BK144.out)) (zZ (zH HB.out))); replace BK143 := yK BK143.out hb; replace BK144 := yK BK144.out hb; replace BK145 := yK BK145.out hb; replace HB := aM (zT (zH HB.out) hb)
               (try clear hb); (try clear ho0)
               refine hK.out _ _ ⟨yc BK143.out 0, yc BK143.out 1, yc BK144.out 0, yc BK144.out 1⟩ (fun hHeld => ?_)
               clear hK K; refine norm_ (a' := ?_) ?_ ?_; rotate_left
               ·show Act.put _ (some 12) _ = _
                simp only [Act.put, qA, qB, qC, i64_w, i32_w]
                rfl
               exact norm_ (by first | (simp only [putAll, Act.put, qA, qB, qC]; done) | (simp only [putAll, Act.put, qA, qB, qC]; rfl)) (hJ2_5 (v147, v150) _ ⟨hHeld, (xH HO148.out), (xH (xM HO151.out (fun _ hk => hk.2))), (yH BK143.out), (yH BK144.out), (yH BK145.out), (zH HB.out)⟩)
              ·skip
               refine Kd.R_lit_step k42 _ 42 ?hg (N := 14) ?hd (xs := ([(⟨a1_0, a1_1⟩ : S42)] : List (S42))) (inner := [.int .i64 a1_0, .string a1_1]) (ok := fun _ => True) (okp := fun _ => True) ?hr ?hp (fun _ hk => hk) trivial (Below.refl _ _) (Nat.le_refl _) (by simp) ?_; (case hd => rfl); (case hg => rfl); (case hr => first | (go_simp; done) | (go_simp; rfl)); (case hp => exact (Reps.c2 (show Kd.M k42 _ _ _ (⟨a1_0, a1_1⟩ : S42) [.int .i64 a1_0, .string a1_1] from (k42_mkM _ _ _ (⟨a1_0, a1_1⟩ : S42) )) (Reps.none _ _)))
               intro v153 w75 ho76 hb hg_ hnew_
               clear hg_ hnew_
               (first | rw [← Ny152.out] at ho76 | (simp only [Int.reduceToNat] at ho76; rw [← Ny152.out] at ho76))
               replace HO148 := xK HO148.out hb; have HO154 := aM (xL (Kd.R_newB ho76 (g := gb144) (o := .cells #[.int .i64 a1_0, .string a1_1] 42 (0, 0)) (yH BK144.out)) (zZ (zH HB.out))); replace BK143 := yK BK143.out hb; replace BK144 := yK BK144.out hb; replace BK145 := yK BK145.out hb; replace HB := aM (zT (zH HB.out) hb); clear hb ho76
               refine hK.out _ _ ⟨yc BK143.out 0, yc BK143.out 1, yc BK144.out 0, yc BK144.out 1⟩ (fun hHeld => ?_)
               clear hK K; refine norm_ (a' := ?_) ?_ ?_; rotate_left
               ·show Act.put _ (some 14) _ = _
                simp only [Act.put, qA, qB, qC, i64_w, i32_w]
                rfl
               exact norm_ (by first | (simp only [putAll, Act.put, qA, qB, qC]; done) | (simp only [putAll, Act.put, qA, qB, qC]; rfl)) (hJ2_7 (v147, v153) _ ⟨hHeld, (xH HO148.out), (xH (xM HO154.out (fun _ hk => hk.2))), (yH BK143.out), (yH BK144.out), (yH BK145.out), (zH HB.out)⟩)
              ·skip
               refine box_step ?hg (N := 6) ?hd (cs := #[.slice none 0 0, .slice none 0 0]) (t := 30) ?hr ?_; (case hd => rfl); (case hg => rfl); (case hr => first | (go_simp; done) | (go_simp; rfl))
               intro gb158 hg w75 hbox hb
               replace HO148 := xK HO148.out hb; have BK158 := aM (hbox)
               have GW158 := aM ((by rw [hg]; exact (zZ (zH HB.out)) : w.heap.size ≤ gb158))
               have GE158 := aM ((by rw [hg]; exact (zZ (zH HB.out)) : w.heap.size ≤ gb158))
               replace HB := aM (zT (zH HB.out) hb); have NB143_158 := nL BK143.out hg; have NB158_143 := nR BK143.out hg; replace BK143 := yK BK143.out hb; have NB144_158 := nL BK144.out hg; have NB158_144 := nR BK144.out hg; replace BK144 := yK BK144.out hb; have NB145_158 := nL BK145.out hg; have NB158_145 := nR BK145.out hg; replace BK145 := yK BK145.out hb; clear hb hbox hg
               refine hK.out _ _ ⟨yc BK143.out 0, yc BK143.out 1, yc BK144.out 0, yc BK144.out 1⟩ (fun hHeld => ?_)
               clear hK K; refine norm_ (a' := ?_) ?_ ?_; rotate_left
               ·show Act.put _ (some 6) _ = _
                simp only [Act.put, qA, qB, qC, i64_w, i32_w]
                rfl
               exact norm_ (by first | (simp only [putAll, Act.put, qA, qB, qC]; done) | (simp only [putAll, Act.put, qA, qB, qC]; rfl)) (hJ2_10 (v147, gb158) _ ⟨hHeld, (xH HO148.out), (yH BK143.out), (yH BK144.out), (yH BK145.out), (yH BK158.out), GW158.out, GE158.out, NB143_158.out, NB158_143.out, NB144_158.out, NB158_144.out, NB145_158.out, NB158_145.out, (zH HB.out)⟩)
            ·skip
             rintro ⟨v153, gb158⟩ w76 ⟨hS_, h0_, h1_, h2_, h3_, h4_, h5_, h6_, h7_, h8_, h9_, h10_, h11_, h12_, h13_⟩
             (try dsimp only at h0_ h1_ h2_ h3_ h4_ h5_ h6_ h7_ h8_ h9_ h10_ h11_ h12_ h13_)
             have n0_ := aM h0_; have n1_ := aM h1_; have n2_ := aM h2_; have n3_ := aM h3_; have n4_ := aM h4_; have n5_ := aM h5_; have n6_ := aM h6_; have n7_ := aM h7_; have n8_ := aM h8_; have n9_ := aM h9_; have n10_ := aM h10_; have n11_ := aM h11_; have n12_ := aM h12_; have n13_ := aM h13_; clear BK143 BK144 BK145 HB h0_ h1_ h2_ h3_ h4_ h5_ h6_ h7_ h8_ h9_ h10_ h11_ h12_ h13_; have HO154 := n0_; have BK143 := n1_; have BK144 := n2_; have BK145 := n3_; have BK158 := n4_; have GW158 := n5_; have GE158 := n6_; have NB143_158 := n7_; have NB158_143 := n8_; have NB144_158 := n9_; have NB158_144 := n10_; have NB145_158 := n11_; have NB158_145 := n12_; have HB := n13_; clear n0_ n1_ n2_ n3_ n4_ n5_ n6_ n7_ n8_ n9_ n10_ n11_ n12_ n13_; have hHeld : w76.cell? ⟨gb143, 0, none⟩ = some (.slice A0_0 l0_0.length c0_0) ∧ w76.cell? ⟨gb143, 1, none⟩ = some (.slice A0_1 l0_1.length c0_1) ∧ w76.cell? ⟨gb144, 0, none⟩ = some (.int .i64 a1_0) ∧ w76.cell? ⟨gb144, 1, none⟩ = some (.string a1_1) := hS_; refine norm_ (a' := ?_) ?_ ?_; rotate_left
             ·simp only [putAll, Act.put, qA, qB, qC]
              rfl
             refine one_ (i := 2) (N := some 9) #[tT,tT,tT,tT,tT,fF,tT,tT,fF,fF,tT,fF] rfl rfl (one_of HT_.out (by kernel_rfl)) (by decide) (fun K hK => ?_)
             refine gS Try.func66 (by kernel_rfl) rfl #[.slice A0_0 l0_0.length c0_0] (by rfl) rfl rfl ?_
             with_reducible refine (slices_Clone_string_string.calls _ _ l0_0 t146 _ ?side1 ?side2 A3.out).mono ?_
             (case side1 => exact cK HR0_0.out HB.out)
             (case side2 => exact HC0_0.out)
             rintro e w77 ⟨v147, rfl, ho0, hb⟩
             refine ⟨_, rfl, ?_⟩
             replace HO154 := xK HO154.out hb; have HO148 := aM (xL ho0 (zZ (zH HB.out))); replace BK143 := yK BK143.out hb; replace BK144 := yK BK144.out hb; replace BK145 := yK BK145.out hb; replace BK158 := yK BK158.out hb; replace HB := aM (zT (zH HB.out) hb)
             (try clear hb); (try clear ho0)
             refine hK.out _ _ ⟨yc BK143.out 0, yc BK143.out 1, yc BK144.out 0, yc BK144.out 1⟩ (fun hHeld => ?_)
             clear hK K; refine norm_ (a' := ?_) ?_ ?_; rotate_left
             ·show Act.put _ (some 9) _ = _
              simp only [Act.put, qA, qB, qC, i64_w, i32_w]
              rfl
             exact norm_ (by first | (simp only [putAll, Act.put, qA, qB, qC]; done) | (simp only [putAll, Act.put, qA, qB, qC]; rfl)) (hJ2_7_10 (v147, v153, gb158) _ ⟨hHeld, (xH HO148.out), (xH HO154.out), (yH BK143.out), (yH BK144.out), (yH BK145.out), (yH BK158.out), GW158.out, GE158.out, NB143_158.out, NB158_143.out, NB144_158.out, NB158_144.out, NB145_158.out, NB158_145.out, (zH HB.out)⟩)
           ·skip
            rintro ⟨v147, gb158⟩ w75 ⟨hS_, h0_, h1_, h2_, h3_, h4_, h5_, h6_, h7_, h8_, h9_, h10_, h11_, h12_, h13_⟩
            (try dsimp only at h0_ h1_ h2_ h3_ h4_ h5_ h6_ h7_ h8_ h9_ h10_ h11_ h12_ h13_)
            have n0_ := aM h0_; have n1_ := aM h1_; have n2_ := aM h2_; have n3_ := aM h3_; have n4_ := aM h4_; have n5_ := aM h5_; have n6_ := aM h6_; have n7_ := aM h7_; have n8_ := aM h8_; have n9_ := aM h9_; have n10_ := aM h10_; have n11_ := aM h11_; have n12_ := aM h12_; have n13_ := aM h13_; clear BK143 BK144 BK145 HB h0_ h1_ h2_ h3_ h4_ h5_ h6_ h7_ h8_ h9_ h10_ h11_ h12_ h13_; have HO148 := n0_; have BK143 := n1_; have BK144 := n2_; have BK145 := n3_; have BK158 := n4_; have GW158 := n5_; have GE158 := n6_; have NB143_158 := n7_; have NB158_143 := n8_; have NB144_158 := n9_; have NB158_144 := n10_; have NB145_158 := n11_; have NB158_145 := n12_; have HB := n13_; clear n0_ n1_ n2_ n3_ n4_ n5_ n6_ n7_ n8_ n9_ n10_ n11_ n12_ n13_; have hHeld : w75.cell? ⟨gb143, 0, none⟩ = some (.slice A0_0 l0_0.length c0_0) ∧ w75.cell? ⟨gb143, 1, none⟩ = some (.slice A0_1 l0_1.length c0_1) ∧ w75.cell? ⟨gb144, 0, none⟩ = some (.int .i64 a1_0) ∧ w75.cell? ⟨gb144, 1, none⟩ = some (.string a1_1) := hS_; refine norm_ (a' := ?_) ?_ ?_; rotate_left
            ·simp only [putAll, Act.put, qA, qB, qC]
             rfl
            refine two_ (i := 5) (j := 7) (Ni := some 12) (Nj := some 14) #[tT,tT,tT,tT,tT,tT,tT,fF,fF,fF,tT,fF] #[tT,tT,tT,tT,tT,fF,tT,tT,fF,fF,tT,fF] rfl rfl rfl rfl (two_of HT_.out (by kernel_rfl)) (by decide) (by decide) (fun K hK => ?_) (fun K hK => ?_)
            ·skip
             refine gS Try.func67 (by kernel_rfl) rfl #[.slice A0_1 l0_1.length c0_1] (by rfl) rfl rfl ?_
             with_reducible refine (impl_Write.calls _ _ l0_1 t149 _ ?side1 ?side2 A4.out).mono ?_
             (case side1 => exact cK HR0_1.out HB.out)
             (case side2 => exact HC0_1.out)
             rintro e w76 ⟨v150, rfl, ho0, hb⟩
             refine ⟨_, rfl, ?_⟩
             replace HO148 := xK HO148.out hb; have HO151 := aM (xL (Kd.R_newB ho0 (g := gb144) (o := .cells #[.int .i64 a1_0, .string a1_1] 42 (0, 0)) (yH BK144.out)) (zZ (zH HB.out))); replace BK143 := yK BK143.out hb; replace BK144 := yK BK144.out hb; replace BK145 := yK BK145.out hb; replace BK158 := yK BK158.out hb; replace HB := aM (zT (zH HB.out) hb)
             (try clear hb); (try clear ho0)
             refine hK.out _ _ ⟨yc BK143.out 0, yc BK143.out 1, yc BK144.out 0, yc BK144.out 1⟩ (fun hHeld => ?_)
             clear hK K; refine norm_ (a' := ?_) ?_ ?_; rotate_left
             ·show Act.put _ (some 12) _ = _
              simp only [Act.put, qA, qB, qC, i64_w, i32_w]
              rfl
             exact norm_ (by first | (simp only [putAll, Act.put, qA, qB, qC]; done) | (simp only [putAll, Act.put, qA, qB, qC]; rfl)) (hJ2_5_10 (v147, v150, gb158) _ ⟨hHeld, (xH HO148.out), (xH (xM HO151.out (fun _ hk => hk.2))), (yH BK143.out), (yH BK144.out), (yH BK145.out), (yH BK158.out), GW158.out, GE158.out, NB143_158.out, NB158_143.out, NB144_158.out, NB158_144.out, NB145_158.out, NB158_145.out, (zH HB.out)⟩)
            ·skip
             refine Kd.R_lit_step k42 _ 42 ?hg (N := 14) ?hd (xs := ([(⟨a1_0, a1_1⟩ : S42)] : List (S42))) (inner := [.int .i64 a1_0, .string a1_1]) (ok := fun _ => True) (okp := fun _ => True) ?hr ?hp (fun _ hk => hk) trivial (Below.refl _ _) (Nat.le_refl _) (by simp) ?_; (case hd => rfl); (case hg => rfl); (case hr => first | (go_simp; done) | (go_simp; rfl)); (case hp => exact (Reps.c2 (show Kd.M k42 _ _ _ (⟨a1_0, a1_1⟩ : S42) [.int .i64 a1_0, .string a1_1] from (k42_mkM _ _ _ (⟨a1_0, a1_1⟩ : S42) )) (Reps.none _ _)))
             intro v153 w76 ho77 hb hg_ hnew_
             clear hg_ hnew_
             (first | rw [← Ny152.out] at ho77 | (simp only [Int.reduceToNat] at ho77; rw [← Ny152.out] at ho77))
             replace HO148 := xK HO148.out hb; have HO154 := aM (xL (Kd.R_newB ho77 (g := gb144) (o := .cells #[.int .i64 a1_0, .string a1_1] 42 (0, 0)) (yH BK144.out)) (zZ (zH HB.out))); replace BK143 := yK BK143.out hb; replace BK144 := yK BK144.out hb; replace BK145 := yK BK145.out hb; replace BK158 := yK BK158.out hb; replace HB := aM (zT (zH HB.out) hb); clear hb ho77
             refine hK.out _ _ ⟨yc BK143.out 0, yc BK143.out 1, yc BK144.out 0, yc BK144.out 1⟩ (fun hHeld => ?_)
             clear hK K; refine norm_ (a' := ?_) ?_ ?_; rotate_left
             ·show Act.put _ (some 14) _ = _
              simp only [Act.put, qA, qB, qC, i64_w, i32_w]
              rfl
             exact norm_ (by first | (simp only [putAll, Act.put, qA, qB, qC]; done) | (simp only [putAll, Act.put, qA, qB, qC]; rfl)) (hJ2_7_10 (v147, v153, gb158) _ ⟨hHeld, (xH HO148.out), (xH (xM HO154.out (fun _ hk => hk.2))), (yH BK143.out), (yH BK144.out), (yH BK145.out), (yH BK158.out), GW158.out, GE158.out, NB143_158.out, NB158_143.out, NB144_158.out, NB158_144.out, NB145_158.out, NB158_145.out, (zH HB.out)⟩)
          ·skip
           rintro ⟨v147, v153⟩ w76 ⟨hS_, h0_, h1_, h2_, h3_, h4_, h5_⟩
           (try dsimp only at h0_ h1_ h2_ h3_ h4_ h5_)
           have n0_ := aM h0_; have n1_ := aM h1_; have n2_ := aM h2_; have n3_ := aM h3_; have n4_ := aM h4_; have n5_ := aM h5_; clear BK143 BK144 BK145 HB h0_ h1_ h2_ h3_ h4_ h5_; have HO148 := n0_; have HO154 := n1_; have BK143 := n2_; have BK144 := n3_; have BK145 := n4_; have HB := n5_; clear n0_ n1_ n2_ n3_ n4_ n5_; have hHeld : w76.cell? ⟨gb143, 0, none⟩ = some (.slice A0_0 l0_0.length c0_0) ∧ w76.cell? ⟨gb143, 1, none⟩ = some (.slice A0_1 l0_1.length c0_1) ∧ w76.cell? ⟨gb144, 0, none⟩ = some (.int .i64 a1_0) ∧ w76.cell? ⟨gb144, 1, none⟩ = some (.string a1_1) := hS_; refine norm_ (a' := ?_) ?_ ?_; rotate_left
           ·simp only [putAll, Act.put, qA, qB, qC]
            rfl
           refine two_ (i := 5) (j := 10) (Ni := some 12) (Nj := some 6) #[tT,tT,tT,tT,tT,tT,tT,tT,fF,fF,fF,fF] #[tT,tT,tT,tT,tT,fF,tT,tT,fF,fF,tT,fF] rfl rfl rfl rfl (two_of HT_.out (by kernel_rfl)) (by decide) (by decide) (fun K hK => ?_) (fun K hK => ?_)
           ·skip
            refine gS Try.func67 (by kernel_rfl) rfl #[.slice A0_1 l0_1.length c0_1] (by rfl) rfl rfl ?_
            with_reducible refine (impl_Write.calls _ _ l0_1 t149 _ ?side1 ?side2 A4.out).mono ?_
            (case side1 => exact cK HR0_1.out HB.out)
            (case side2 => exact HC0_1.out)
            rintro e w77 ⟨v150, rfl, ho0, hb⟩
            refine ⟨_, rfl, ?_⟩
            replace HO148 := xK HO148.out hb; have HO151 := aM (xL (Kd.R_newB (Kd.R_new' ho0 (Kd.R_lt (xH HO154.out))) (g := gb144) (o := .cells #[.int .i64 a1_0, .string a1_1] 42 (0, 0)) (yH BK144.out)) (zZ (zH HB.out))); replace HO154 := aM (Kd.R_elder' (xH HO154.out) (Kd.R_base ho0) hb); replace BK143 := yK BK143.out hb; replace BK144 := yK BK144.out hb; replace BK145 := yK BK145.out hb; replace HB := aM (zT (zH HB.out) hb)
            (try clear hb); (try clear ho0)
            refine hK.out _ _ ⟨yc BK143.out 0, yc BK143.out 1, yc BK144.out 0, yc BK144.out 1⟩ (fun hHeld => ?_)
            clear hK K; refine norm_ (a' := ?_) ?_ ?_; rotate_left
            ·show Act.put _ (some 12) _ = _
             simp only [Act.put, qA, qB, qC, i64_w, i32_w]
             rfl
            exact norm_ (by first | (simp only [putAll, Act.put, qA, qB, qC]; done) | (simp only [putAll, Act.put, qA, qB, qC]; rfl)) (hJ2_5_7 (v147, v150, v153) _ ⟨hHeld, (xH HO148.out), (xH (xM HO151.out (fun _ hk => ⟨hk.1.2, hk.2⟩))), (xH (xM HO154.out (fun _ hk => ⟨hk.2, hk.1⟩))), (yH BK143.out), (yH BK144.out), (yH BK145.out), (zH HB.out)⟩)
           ·skip
            refine box_step ?hg (N := 6) ?hd (cs := #[.slice none 0 0, .slice none 0 0]) (t := 30) ?hr ?_; (case hd => rfl); (case hg => rfl); (case hr => first | (go_simp; done) | (go_simp; rfl))
            intro gb158 hg w77 hbox hb
            replace HO148 := xK HO148.out hb; replace HO154 := xK HO154.out hb; have BK158 := aM (hbox)
            have GW158 := aM ((by rw [hg]; exact (zZ (zH HB.out)) : w.heap.size ≤ gb158))
            have GE158 := aM ((by rw [hg]; exact (zZ (zH HB.out)) : w.heap.size ≤ gb158))
            replace HB := aM (zT (zH HB.out) hb); have NB143_158 := nL BK143.out hg; have NB158_143 := nR BK143.out hg; replace BK143 := yK BK143.out hb; have NB144_158 := nL BK144.out hg; have NB158_144 := nR BK144.out hg; replace BK144 := yK BK144.out hb; have NB145_158 := nL BK145.out hg; have NB158_145 := nR BK145.out hg; replace BK145 := yK BK145.out hb; clear hb hbox hg
            refine hK.out _ _ ⟨yc BK143.out 0, yc BK143.out 1, yc BK144.out 0, yc BK144.out 1⟩ (fun hHeld => ?_)
            clear hK K; refine norm_ (a' := ?_) ?_ ?_; rotate_left
            ·show Act.put _ (some 6) _ = _
             simp only [Act.put, qA, qB, qC, i64_w, i32_w]
             rfl
            exact norm_ (by first | (simp only [putAll, Act.put, qA, qB, qC]; done) | (simp only [putAll, Act.put, qA, qB, qC]; rfl)) (hJ2_7_10 (v147, v153, gb158) _ ⟨hHeld, (xH HO148.out), (xH HO154.out), (yH BK143.out), (yH BK144.out), (yH BK145.out), (yH BK158.out), GW158.out, GE158.out, NB143_158.out, NB158_143.out, NB144_158.out, NB158_144.out, NB145_158.out, NB158_145.out, (zH HB.out)⟩)
         ·skip
          rintro ⟨v147, v150⟩ w75 ⟨hS_, h0_, h1_, h2_, h3_, h4_, h5_⟩
          (try dsimp only at h0_ h1_ h2_ h3_ h4_ h5_)
          have n0_ := aM h0_; have n1_ := aM h1_; have n2_ := aM h2_; have n3_ := aM h3_; have n4_ := aM h4_; have n5_ := aM h5_; clear BK143 BK144 BK145 HB h0_ h1_ h2_ h3_ h4_ h5_; have HO148 := n0_; have HO151 := n1_; have BK143 := n2_; have BK144 := n3_; have BK145 := n4_; have HB := n5_; clear n0_ n1_ n2_ n3_ n4_ n5_; have hHeld : w75.cell? ⟨gb143, 0, none⟩ = some (.slice A0_0 l0_0.length c0_0) ∧ w75.cell? ⟨gb143, 1, none⟩ = some (.slice A0_1 l0_1.length c0_1) ∧ w75.cell? ⟨gb144, 0, none⟩ = some (.int .i64 a1_0) ∧ w75.cell? ⟨gb144, 1, none⟩ = some (.string a1_1) := hS_; refine norm_ (a' := ?_) ?_ ?_; rotate_left
          ·simp only [putAll, Act.put, qA, qB, qC]
           rfl
          refine two_ (i := 7) (j := 10) (Ni := some 14) (Nj := some 6) #[tT,tT,tT,tT,tT,tT,tT,tT,fF,fF,fF,fF] #[tT,tT,tT,tT,tT,tT,tT,fF,fF,fF,tT,fF] rfl rfl rfl rfl (two_of HT_.out (by kernel_rfl)) (by decide) (by decide) (fun K hK => ?_) (fun K hK => ?_)
          ·skip
           refine Kd.R_lit_step k42 _ 42 ?hg (N := 14) ?hd (xs := ([(⟨a1_0, a1_1⟩ : S42)] : List (S42))) (inner := [.int .i64 a1_0, .string a1_1]) (ok := fun _ => True) (okp := fun _ => True) ?hr ?hp (fun _ hk => hk) trivial (Below.refl _ _) (Nat.le_refl _) (by simp) ?_; (case hd => rfl); (case hg => rfl); (case hr => first | (go_simp; done) | (go_simp; rfl)); (case hp => exact (Reps.c2 (show Kd.M k42 _ _ _ (⟨a1_0, a1_1⟩ : S42) [.int .i64 a1_0, .string a1_1] from (k42_mkM _ _ _ (⟨a1_0, a1_1⟩ : S42) )) (Reps.none _ _)))
           intro v153 w76 ho77 hb hg_ hnew_
           clear hg_ hnew_
           (first | rw [← Ny152.out] at ho77 | (simp only [Int.reduceToNat] at ho77; rw [← Ny152.out] at ho77))
           replace HO148 := xK HO148.out hb; have HO154 := aM (xL (Kd.R_newB (Kd.R_new' ho77 (Kd.R_lt (xH HO151.out))) (g := gb144) (o := .cells #[.int .i64 a1_0, .string a1_1] 42 (0, 0)) (yH BK144.out)) (zZ (zH HB.out))); replace HO151 := aM (Kd.R_elder' (xH HO151.out) (Kd.R_base ho77) hb); replace BK143 := yK BK143.out hb; replace BK144 := yK BK144.out hb; replace BK145 := yK BK145.out hb; replace HB := aM (zT (zH HB.out) hb); clear hb ho77
           refine hK.out _ _ ⟨yc BK143.out 0, yc BK143.out 1, yc BK144.out 0, yc BK144.out 1⟩ (fun hHeld => ?_)
           clear hK K; refine norm_ (a' := ?_) ?_ ?_; rotate_left
           ·show Act.put _ (some 14) _ = _
            simp only [Act.put, qA, qB, qC, i64_w, i32_w]
            rfl
           exact norm_ (by first | (simp only [putAll, Act.put, qA, qB, qC]; done) | (simp only [putAll, Act.put, qA, qB, qC]; rfl)) (hJ2_5_7 (v147, v150, v153) _ ⟨hHeld, (xH HO148.out), (xH (xM HO151.out (fun _ hk => ⟨hk.2, hk.1⟩))), (xH (xM HO154.out (fun _ hk => ⟨hk.1.2, hk.2⟩))), (yH BK143.out), (yH BK144.out), (yH BK145.out), (zH HB.out)⟩)
          ·skip
           refine box_step ?hg (N := 6) ?hd (cs := #[.slice none 0 0, .slice none 0 0]) (t := 30) ?hr ?_; (case hd => rfl); (case hg => rfl); (case hr => first | (go_simp; done) | (go_simp; rfl))
           intro gb158 hg w76 hbox hb
           replace HO148 := xK HO148.out hb; replace HO151 := xK HO151.out hb; have BK158 := aM (hbox)
           have GW158 := aM ((by rw [hg]; exact (zZ (zH HB.out)) : w.heap.size ≤ gb158))
           have GE158 := aM ((by rw [hg]; exact (zZ (zH HB.out)) : w.heap.size ≤ gb158))
           replace HB := aM (zT (zH HB.out) hb); have NB143_158 := nL BK143.out hg; have NB158_143 := nR BK143.out hg; replace BK143 := yK BK143.out hb; have NB144_158 := nL BK144.out hg; have NB158_144 := nR BK144.out hg; replace BK144 := yK BK144.out hb; have NB145_158 := nL BK145.out hg; have NB158_145 := nR BK145.out hg; replace BK145 := yK BK145.out hb; clear hb hbox hg
           refine hK.out _ _ ⟨yc BK143.out 0, yc BK143.out 1, yc BK144.out 0, yc BK144.out 1⟩ (fun hHeld => ?_)
           clear hK K; refine norm_ (a' := ?_) ?_ ?_; rotate_left
           ·show Act.put _ (some 6) _ = _
            simp only [Act.put, qA, qB, qC, i64_w, i32_w]
            rfl
           exact norm_ (by first | (simp only [putAll, Act.put, qA, qB, qC]; done) | (simp only [putAll, Act.put, qA, qB, qC]; rfl)) (hJ2_5_10 (v147, v150, gb158) _ ⟨hHeld, (xH HO148.out), (xH HO151.out), (yH BK143.out), (yH BK144.out), (yH BK145.out), (yH BK158.out), GW158.out, GE158.out, NB143_158.out, NB158_143.out, NB144_158.out, NB158_144.out, NB145_158.out, NB158_145.out, (zH HB.out)⟩)
        ·skip
         rintro ⟨v147, v153, gb158⟩ w77 ⟨hS_, h0_, h1_, h2_, h3_, h4_, h5_, h6_, h7_, h8_, h9_, h10_, h11_, h12_, h13_, h14_⟩
         (try dsimp only at h0_ h1_ h2_ h3_ h4_ h5_ h6_ h7_ h8_ h9_ h10_ h11_ h12_ h13_ h14_)
         have n0_ := aM h0_; have n1_ := aM h1_; have n2_ := aM h2_; have n3_ := aM h3_; have n4_ := aM h4_; have n5_ := aM h5_; have n6_ := aM h6_; have n7_ := aM h7_; have n8_ := aM h8_; have n9_ := aM h9_; have n10_ := aM h10_; have n11_ := aM h11_; have n12_ := aM h12_; have n13_ := aM h13_; have n14_ := aM h14_; clear BK143 BK144 BK145 HB h0_ h1_ h2_ h3_ h4_ h5_ h6_ h7_ h8_ h9_ h10_ h11_ h12_ h13_ h14_; have HO148 := n0_; have HO154 := n1_; have BK143 := n2_; have BK144 := n3_; have BK145 := n4_; have BK158 := n5_; have GW158 := n6_; have GE158 := n7_; have NB143_158 := n8_; have NB158_143 := n9_; have NB144_158 := n10_; have NB158_144 := n11_; have NB145_158 := n12_; have NB158_145 := n13_; have HB := n14_; clear n0_ n1_ n2_ n3_ n4_ n5_ n6_ n7_ n8_ n9_ n10_ n11_ n12_ n13_ n14_; have hHeld : w77.cell? ⟨gb143, 0, none⟩ = some (.slice A0_0 l0_0.length c0_0) ∧ w77.cell? ⟨gb143, 1, none⟩ = some (.slice A0_1 l0_1.length c0_1) ∧ w77.cell? ⟨gb144, 0, none⟩ = some (.int .i64 a1_0) ∧ w77.cell? ⟨gb144, 1, none⟩ = some (.string a1_1) := hS_; refine norm_ (a' := ?_) ?_ ?_; rotate_left
         ·simp only [putAll, Act.put, qA, qB, qC]
          rfl
         refine one_ (i := 5) (N := some 12) #[tT,tT,tT,tT,tT,tT,tT,tT,fF,fF,tT,fF] rfl rfl (one_of HT_.out (by kernel_rfl)) (by decide) (fun K hK => ?_)
         refine gS Try.func67 (by kernel_rfl) rfl #[.slice A0_1 l0_1.length c0_1] (by rfl) rfl rfl ?_
         with_reducible refine (impl_Write.calls _ _ l0_1 t149 _ ?side1 ?side2 A4.out).mono ?_
         (case side1 => exact cK HR0_1.out HB.out)
         (case side2 => exact HC0_1.out)
         rintro e w78 ⟨v150, rfl, ho0, hb⟩
         refine ⟨_, rfl, ?_⟩
         replace HO148 := xK HO148.out hb; have HO151 := aM (xL (Kd.R_newB (Kd.R_new' ho0 (Kd.R_lt (xH HO154.out))) (g := gb144) (o := .cells #[.int .i64 a1_0, .string a1_1] 42 (0, 0)) (yH BK144.out)) (zZ (zH HB.out))); replace HO154 := aM (Kd.R_elder' (xH HO154.out) (Kd.R_base ho0) hb); replace BK143 := yK BK143.out hb; replace BK144 := yK BK144.out hb; replace BK145 := yK BK145.out hb; replace BK158 := yK BK158.out hb; replace HB := aM (zT (zH HB.out) hb)
         (try clear hb); (try clear ho0)
         refine hK.out _ _ ⟨yc BK143.out 0, yc BK143.out 1, yc BK144.out 0, yc BK144.out 1⟩ (fun hHeld => ?_)
         clear hK K; refine norm_ (a' := ?_) ?_ ?_; rotate_left
         ·show Act.put _ (some 12) _ = _
          simp only [Act.put, qA, qB, qC, i64_w, i32_w]
          rfl
         exact norm_ (by first | (simp only [putAll, Act.put, qA, qB, qC]; done) | (simp only [putAll, Act.put, qA, qB, qC]; rfl)) (hJ2_5_7_10 (v147, v150, v153, gb158) _ ⟨hHeld, (xH HO148.out), (xH (xM HO151.out (fun _ hk => ⟨hk.1.2, hk.2⟩))), (xH (xM HO154.out (fun _ hk => ⟨hk.2, hk.1⟩))), (yH BK143.out), (yH BK144.out), (yH BK145.out), (yH BK158.out), GW158.out, GE158.out, NB143_158.out, NB158_143.out, NB144_158.out, NB158_144.out, NB145_158.out, NB158_145.out, (zH HB.out)⟩)
       ·skip
        rintro ⟨v147, v150, gb158⟩ w76 ⟨hS_, h0_, h1_, h2_, h3_, h4_, h5_, h6_, h7_, h8_, h9_, h10_, h11_, h12_, h13_, h14_⟩
        (try dsimp only at h0_ h1_ h2_ h3_ h4_ h5_ h6_ h7_ h8_ h9_ h10_ h11_ h12_ h13_ h14_)
        have n0_ := aM h0_; have n1_ := aM h1_; have n2_ := aM h2_; have n3_ := aM h3_; have n4_ := aM h4_; have n5_ := aM h5_; have n6_ := aM h6_; have n7_ := aM h7_; have n8_ := aM h8_; have n9_ := aM h9_; have n10_ := aM h10_; have n11_ := aM h11_; have n12_ := aM h12_; have n13_ := aM h13_; have n14_ := aM h14_; clear BK143 BK144 BK145 HB h0_ h1_ h2_ h3_ h4_ h5_ h6_ h7_ h8_ h9_ h10_ h11_ h12_ h13_ h14_; have HO148 := n0_; have HO151 := n1_; have BK143 := n2_; have BK144 := n3_; have BK145 := n4_; have BK158 := n5_; have GW158 := n6_; have GE158 := n7_; have NB143_158 := n8_; have NB158_143 := n9_; have NB144_158 := n10_; have NB158_144 := n11_; have NB145_158 := n12_; have NB158_145 := n13_; have HB := n14_; clear n0_ n1_ n2_ n3_ n4_ n5_ n6_ n7_ n8_ n9_ n10_ n11_ n12_ n13_ n14_; have hHeld : w76.cell? ⟨gb143, 0, none⟩ = some (.slice A0_0 l0_0.length c0_0) ∧ w76.cell? ⟨gb143, 1, none⟩ = some (.slice A0_1 l0_1.length c0_1) ∧ w76.cell? ⟨gb144, 0, none⟩ = some (.int .i64 a1_0) ∧ w76.cell? ⟨gb144, 1, none⟩ = some (.string a1_1) := hS_; refine norm_ (a' := ?_) ?_ ?_; rotate_left
        ·simp only [putAll, Act.put, qA, qB, qC]
         rfl
        refine one_ (i := 7) (N := some 14) #[tT,tT,tT,tT,tT,tT,tT,tT,fF,fF,tT,fF] rfl rfl (one_of HT_.out (by kernel_rfl)) (by decide) (fun K hK => ?_)
        refine Kd.R_lit_step k42 _ 42 ?hg (N := 14) ?hd (xs := ([(⟨a1_0, a1_1⟩ : S42)] : List (S42))) (inner := [.int .i64 a1_0, .string a1_1]) (ok := fun _ => True) (okp := fun _ => True) ?hr ?hp (fun _ hk => hk) trivial (Below.refl _ _) (Nat.le_refl _) (by simp) ?_; (case hd => rfl); (case hg => rfl); (case hr => first | (go_simp; done) | (go_simp; rfl)); (case hp => exact (Reps.c2 (show Kd.M k42 _ _ _ (⟨a1_0, a1_1⟩ : S42) [.int .i64 a1_0, .string a1_1] from (k42_mkM _ _ _ (⟨a1_0, a1_1⟩ : S42) )) (Reps.none _ _)))
        intro v153 w77 ho78 hb hg_ hnew_
        clear hg_ hnew_
        (first | rw [← Ny152.out] at ho78 | (simp only [Int.reduceToNat] at ho78; rw [← Ny152.out] at ho78))
        replace HO148 := xK HO148.out hb; have HO154 := aM (xL (Kd.R_newB (Kd.R_new' ho78 (Kd.R_lt (xH HO151.out))) (g := gb144) (o := .cells #[.int .i64 a1_0, .string a1_1] 42 (0, 0)) (yH BK144.out)) (zZ (zH HB.out))); replace HO151 := aM (Kd.R_elder' (xH HO151.out) (Kd.R_base ho78) hb); replace BK143 := yK BK143.out hb; replace BK144 := yK BK144.out hb; replace BK145 := yK BK145.out hb; replace BK158 := yK BK158.out hb; replace HB := aM (zT (zH HB.out) hb); clear hb ho78
        refine hK.out _ _ ⟨yc BK143.out 0, yc BK143.out 1, yc BK144.out 0, yc BK144.out 1⟩ (fun hHeld => ?_)
        clear hK K; refine norm_ (a' := ?_) ?_ ?_; rotate_left
        ·show Act.put _ (some 14) _ = _
         simp only [Act.put, qA, qB, qC, i64_w, i32_w]
         rfl
        exact norm_ (by first | (simp only [putAll, Act.put, qA, qB, qC]; done) | (simp only [putAll, Act.put, qA, qB, qC]; rfl)) (hJ2_5_7_10 (v147, v150, v153, gb158) _ ⟨hHeld, (xH HO148.out), (xH (xM HO151.out (fun _ hk => ⟨hk.2, hk.1⟩))), (xH (xM HO154.out (fun _ hk => ⟨hk.1.2, hk.2⟩))), (yH BK143.out), (yH BK144.out), (yH BK145.out), (yH BK158.out), GW158.out, GE158.out, NB143_158.out, NB158_143.out, NB144_158.out, NB158_144.out, NB145_158.out, NB158_145.out, (zH HB.out)⟩)
      ·skip
       rintro ⟨v147, v150, v153⟩ w77 ⟨hS_, h0_, h1_, h2_, h3_, h4_, h5_, h6_⟩
       (try dsimp only at h0_ h1_ h2_ h3_ h4_ h5_ h6_)
       have n0_ := aM h0_; have n1_ := aM h1_; have n2_ := aM h2_; have n3_ := aM h3_; have n4_ := aM h4_; have n5_ := aM h5_; have n6_ := aM h6_; clear BK143 BK144 BK145 HB h0_ h1_ h2_ h3_ h4_ h5_ h6_; have HO148 := n0_; have HO151 := n1_; have HO154 := n2_; have BK143 := n3_; have BK144 := n4_; have BK145 := n5_; have HB := n6_; clear n0_ n1_ n2_ n3_ n4_ n5_ n6_; have hHeld : w77.cell? ⟨gb143, 0, none⟩ = some (.slice A0_0 l0_0.length c0_0) ∧ w77.cell? ⟨gb143, 1, none⟩ = some (.slice A0_1 l0_1.length c0_1) ∧ w77.cell? ⟨gb144, 0, none⟩ = some (.int .i64 a1_0) ∧ w77.cell? ⟨gb144, 1, none⟩ = some (.string a1_1) := hS_; obtain ⟨Ao79, co79, eo79⟩ := Kd.R_slice HO154.out
       (first | subst eo79 | obtain ⟨rfl, rfl⟩ := eI eo79)
       refine norm_ (a' := ?_) ?_ ?_; rotate_left
       ·simp only [putAll, Act.put, qA, qB, qC]
        rfl
       refine two_ (i := 8) (j := 10) (Ni := some 15) (Nj := some 6) #[tT,tT,tT,tT,tT,tT,tT,tT,tT,fF,fF,fF] #[tT,tT,tT,tT,tT,tT,tT,tT,fF,fF,tT,fF] rfl rfl rfl rfl (two_of HT_.out (by kernel_rfl)) (by decide) (by decide) (fun K hK => ?_) (fun K hK => ?_)
       ·skip
        refine Kd.R_append_rows_step k42 (w0 := w) w.heap.size (by rfl) (.tmp 12) (.tmp 14) 28 42 (.agg #[(.int .i64 0), (.string ⟨#[]⟩)]) 24 rfl Try.underlying28 info42 rfl (by decide) (by omega) v150 t149 y152 _ _ _ (fun k_ => some k_ ≠ (.slice Ao79 y152.length co79 : Value).ownBlock ∧ k_ ≠ gb144) (fun _ => False) rfl rfl ?aO ?aR (fun _ _ h => h) (fun _ h => h.elim) ?aF ?aB ?aS ?aL ?_
        (case aR => repeat (first | exact (Kd.R_reads' HO154.out).2.2 | (with_reducible refine cA ?_ _) | (with_reducible refine cN ?_ _) | (with_reducible refine cD ?_)))
        (case aB => exact (zH HB.out))
        (case aF => exact (fun k_ hk => ⟨Kd.fresh' (Kd.R_lt (xH HO154.out)) k_ hk, Kd.freshB (g := gb144) (o := .cells #[.int .i64 a1_0, .string a1_1] 42 (0, 0)) (yH BK144.out) k_ hk⟩))
        (case aO => exact (xH HO151.out))
        (case aS => exact (zZ (zH HB.out)))
        (case aL => have := LMc5.out; omega)
        intro v156 w78 ho hb hg hat
        rw [← Ny155.out] at ho
        replace BK143 := aM (blk_grown (g := gb143) (o := .cells #[.slice A0_0 l0_0.length c0_0, .slice A0_1 l0_1.length c0_1] 30 (0, 0)) (yH BK143.out) hg (Kd.R_ne HO151.out BK143.out (by decide)))
        replace BK144 := aM (blk_grown (g := gb144) (o := .cells #[.int .i64 a1_0, .string a1_1] 42 (0, 0)) (yH BK144.out) hg (Kd.R_away HO151.out (fun _ hk => hk.2)))
        replace BK145 := aM (blk_grown (g := gb145) (o := .cells #[.slice none 0 0, .slice none 0 0] 30 (0, 0)) (yH BK145.out) hg (Kd.R_ne HO151.out BK145.out (by decide)))
        replace HO148 := aM (Kd.R_over' (xH HO148.out) (Kd.R_typed (xH HO151.out)) (by decide) hg)
        replace HO154 := aM (Kd.R_after (ok := (fun k_ => k_ ≠ gb144)) (xH (xM HO154.out (fun _ hk => ⟨hk.2, hk.1⟩))) hg hat)
        replace HB := aM (hb); have HO157 := aM (ho); clear HO151 ho hb hg hat; obtain ⟨Ao80, co80, eo80⟩ := Kd.R_slice HO157.out
        (first | subst eo80 | obtain ⟨rfl, rfl⟩ := eI eo80)
        obtain ⟨Ao81, co81, eo81⟩ := Kd.R_slice HO148.out
        (first | subst eo81 | obtain ⟨rfl, rfl⟩ := eI eo81)
        refine hK.out _ _ ⟨yc BK143.out 0, yc BK143.out 1, yc BK144.out 0, yc BK144.out 1⟩ (fun hHeld => ?_)
        clear hK K; refine norm_ (a' := ?_) ?_ ?_; rotate_left
        ·show Act.put _ (some 15) _ = _
         simp only [Act.put, qA, qB, qC, i64_w, i32_w]
         rfl
        refine pure_ (i := 9) (N := some 16) (v := ?_) (a' := ?_) #[tT,tT,tT,tT,tT,tT,tT,tT,tT,tT,fF,fF] rfl rfl (any_of HT_.out (by kernel_rfl)) (fun _ _ _ h => h) (Or.inl ⟨by rfl, ?_⟩) ?_ ?_
        rotate_left
        ·intro w'
         go_simp
         with_reducible rfl
        rotate_left
        ·simp only [Act.put, qA, qB, qC, i64_w, i32_w]
         rfl
        exact norm_ (by first | (simp only [putAll, Act.put, qA, qB, qC]; done) | (simp only [putAll, Act.put, qA, qB, qC]; rfl)) (hJ2_5_7_8 (.slice Ao81 t146.length co81, v150, .slice Ao79 y152.length co79, .slice Ao80 y155.length co80) _ ⟨hHeld, (xH HO148.out), (xH (xM HO154.out (fun _ hk => ⟨hk.2, hk.1⟩))), (xH HO157.out), (yH BK143.out), (yH BK144.out), (yH BK145.out), (zH HB.out)⟩)
       ·skip
        refine box_step ?hg (N := 6) ?hd (cs := #[.slice none 0 0, .slice none 0 0]) (t := 30) ?hr ?_; (case hd => rfl); (case hg => rfl); (case hr => first | (go_simp; done) | (go_simp; rfl))
        intro gb158 hg w78 hbox hb
        replace HO148 := xK HO148.out hb; replace HO151 := xK HO151.out hb; replace HO154 := xK HO154.out hb; have BK158 := aM (hbox)
        have GW158 := aM ((by rw [hg]; exact (zZ (zH HB.out)) : w.heap.size ≤ gb158))
        have GE158 := aM ((by rw [hg]; exact (zZ (zH HB.out)) : w.heap.size ≤ gb158))
        replace HB := aM (zT (zH HB.out) hb); have NB143_158 := nL BK143.out hg; have NB158_143 := nR BK143.out hg; replace BK143 := yK BK143.out hb; have NB144_158 := nL BK144.out hg; have NB158_144 := nR BK144.out hg; replace BK144 := yK BK144.out hb; have NB145_158 := nL BK145.out hg; have NB158_145 := nR BK145.out hg; replace BK145 := yK BK145.out hb; clear hb hbox hg
        refine hK.out _ _ ⟨yc BK143.out 0, yc BK143.out 1, yc BK144.out 0, yc BK144.out 1⟩ (fun hHeld => ?_)
        clear hK K; refine norm_ (a' := ?_) ?_ ?_; rotate_left
        ·show Act.put _ (some 6) _ = _
         simp only [Act.put, qA, qB, qC, i64_w, i32_w]
         rfl
        exact norm_ (by first | (simp only [putAll, Act.put, qA, qB, qC]; done) | (simp only [putAll, Act.put, qA, qB, qC]; rfl)) (hJ2_5_7_10 (v147, v150, (.slice Ao79 y152.length co79), gb158) _ ⟨hHeld, (xH HO148.out), (xH HO151.out), (xH HO154.out), (yH BK143.out), (yH BK144.out), (yH BK145.out), (yH BK158.out), GW158.out, GE158.out, NB143_158.out, NB158_143.out, NB144_158.out, NB158_144.out, NB145_158.out, NB158_145.out, (zH HB.out)⟩)
     ·skip
      rintro ⟨v147, v150, v153, gb158⟩ w78 ⟨hS_, h0_, h1_, h2_, h3_, h4_, h5_, h6_, h7_, h8_, h9_, h10_, h11_, h12_, h13_, h14_, h15_⟩
      (try dsimp only at h0_ h1_ h2_ h3_ h4_ h5_ h6_ h7_ h8_ h9_ h10_ h11_ h12_ h13_ h14_ h15_)
      have n0_ := aM h0_; have n1_ := aM h1_; have n2_ := aM h2_; have n3_ := aM h3_; have n4_ := aM h4_; have n5_ := aM h5_; have n6_ := aM h6_; have n7_ := aM h7_; have n8_ := aM h8_; have n9_ := aM h9_; have n10_ := aM h10_; have n11_ := aM h11_; have n12_ := aM h12_; have n13_ := aM h13_; have n14_ := aM h14_; have n15_ := aM h15_; clear BK143 BK144 BK145 HB h0_ h1_ h2_ h3_ h4_ h5_ h6_ h7_ h8_ h9_ h10_ h11_ h12_ h13_ h14_ h15_; have HO148 := n0_; have HO151 := n1_; have HO154 := n2_; have BK143 := n3_; have BK144 := n4_; have BK145 := n5_; have BK158 := n6_; have GW158 := n7_; have GE158 := n8_; have NB143_158 := n9_; have NB158_143 := n10_; have NB144_158 := n11_; have NB158_144 := n12_; have NB145_158 := n13_; have NB158_145 := n14_; have HB := n15_; clear n0_ n1_ n2_ n3_ n4_ n5_ n6_ n7_ n8_ n9_ n10_ n11_ n12_ n13_ n14_ n15_; have hHeld : w78.cell? ⟨gb143, 0, none⟩ = some (.slice A0_0 l0_0.length c0_0) ∧ w78.cell? ⟨gb143, 1, none⟩ = some (.slice A0_1 l0_1.length c0_1) ∧ w78.cell? ⟨gb144, 0, none⟩ = some (.int .i64 a1_0) ∧ w78.cell? ⟨gb144, 1, none⟩ = some (.string a1_1) := hS_; obtain ⟨Ao80, co80, eo80⟩ := Kd.R_slice HO154.out
      (first | subst eo80 | obtain ⟨rfl, rfl⟩ := eI eo80)
      refine norm_ (a' := ?_) ?_ ?_; rotate_left
      ·simp only [putAll, Act.put, qA, qB, qC]
       rfl
      refine one_ (i := 8) (N := some 15) #[tT,tT,tT,tT,tT,tT,tT,tT,tT,fF,tT,fF] rfl rfl (one_of HT_.out (by kernel_rfl)) (by decide) (fun K hK => ?_)
      refine Kd.R_append_rows_step k42 (w0 := w) w.heap.size (by rfl) (.tmp 12) (.tmp 14) 28 42 (.agg #[(.int .i64 0), (.string ⟨#[]⟩)]) 24 rfl Try.underlying28 info42 rfl (by decide) (by omega) v150 t149 y152 _ _ _ (fun k_ => some k_ ≠ (.slice Ao80 y152.length co80 : Value).ownBlock ∧ k_ ≠ gb144) (fun _ => False) rfl rfl ?aO ?aR (fun _ _ h => h) (fun _ h => h.elim) ?aF ?aB ?aS ?aL ?_
      (case aR => repeat (first | exact (Kd.R_reads' HO154.out).2.2 | (with_reducible refine cA ?_ _) | (with_reducible refine cN ?_ _) | (with_reducible refine cD ?_)))
      (case aB => exact (zH HB.out))
      (case aF => exact (fun k_ hk => ⟨Kd.fresh' (Kd.R_lt (xH HO154.out)) k_ hk, Kd.freshB (g := gb144) (o := .cells #[.int .i64 a1_0, .string a1_1] 42 (0, 0)) (yH BK144.out) k_ hk⟩))
      (case aO => exact (xH HO151.out))
      (case aS => exact (zZ (zH HB.out)))
      (case aL => have := LMc5.out; omega)
      intro v156 w79 ho hb hg hat
      rw [← Ny155.out] at ho
      replace BK143 := aM (blk_grown (g := gb143) (o := .cells #[.slice A0_0 l0_0.length c0_0, .slice A0_1 l0_1.length c0_1] 30 (0, 0)) (yH BK143.out) hg (Kd.R_ne HO151.out BK143.out (by decide)))
      replace BK144 := aM (blk_grown (g := gb144) (o := .cells #[.int .i64 a1_0, .string a1_1] 42 (0, 0)) (yH BK144.out) hg (Kd.R_away HO151.out (fun _ hk => hk.2)))
      replace BK145 := aM (blk_grown (g := gb145) (o := .cells #[.slice none 0 0, .slice none 0 0] 30 (0, 0)) (yH BK145.out) hg (Kd.R_ne HO151.out BK145.out (by decide)))
      replace HO148 := aM (Kd.R_over' (xH HO148.out) (Kd.R_typed (xH HO151.out)) (by decide) hg)
      replace HO154 := aM (Kd.R_after (ok := (fun k_ => k_ ≠ gb144)) (xH (xM HO154.out (fun _ hk => ⟨hk.2, hk.1⟩))) hg hat)
      replace BK158 := aM (blk_grown (g := gb158) (o := .cells #[.slice none 0 0, .slice none 0 0] 30 (0, 0)) (yH BK158.out) hg (Kd.R_ne HO151.out BK158.out (by decide)))
      replace HB := aM (hb); have HO157 := aM (ho); clear HO151 ho hb hg hat; obtain ⟨Ao81, co81, eo81⟩ := Kd.R_slice HO157.out
      (first | subst eo81 | obtain ⟨rfl, rfl⟩ := eI eo81)
      obtain ⟨Ao82, co82, eo82⟩ := Kd.R_slice HO148.out
      (first | subst eo82 | obtain ⟨rfl, rfl⟩ := eI eo82)
      refine hK.out _ _ ⟨yc BK143.out 0, yc BK143.out 1, yc BK144.out 0, yc BK144.out 1⟩ (fun hHeld => ?_)
      clear hK K; refine norm_ (a' := ?_) ?_ ?_; rotate_left
      ·show Act.put _ (some 15) _ = _
       simp only [Act.put, qA, qB, qC, i64_w, i32_w]
       rfl
      refine pure_ (i := 9) (N := some 16) (v := ?_) (a' := ?_) #[tT,tT,tT,tT,tT,tT,tT,tT,tT,tT,tT,fF] rfl rfl (any_of HT_.out (by kernel_rfl)) (fun _ _ _ h => h) (Or.inl ⟨by rfl, ?_⟩) ?_ ?_
      rotate_left
      ·intro w'
       go_simp
       with_reducible rfl
      rotate_left
      ·simp only [Act.put, qA, qB, qC, i64_w, i32_w]
       rfl
      exact norm_ (by first | (simp only [putAll, Act.put, qA, qB, qC]; done) | (simp only [putAll, Act.put, qA, qB, qC]; rfl)) (hJ2_5_7_8_10 (.slice Ao82 t146.length co82, v150, .slice Ao80 y152.length co80, .slice Ao81 y155.length co81, gb158) _ ⟨hHeld, (xH HO148.out), (xH (xM HO154.out (fun _ hk => ⟨hk.2, hk.1⟩))), (xH HO157.out), (yH BK143.out), (yH BK144.out), (yH BK145.out), (yH BK158.out), GW158.out, GE158.out, NB143_158.out, NB158_143.out, NB144_158.out, NB158_144.out, NB145_158.out, NB158_145.out, (zH HB.out)⟩)
    ·skip
     rintro ⟨v147, v150, v153, v156⟩ w81 ⟨hS_, h0_, h1_, h2_, h3_, h4_, h5_, h6_⟩
     (try dsimp only at h0_ h1_ h2_ h3_ h4_ h5_ h6_)
     have n0_ := aM h0_; have n1_ := aM h1_; have n2_ := aM h2_; have n3_ := aM h3_; have n4_ := aM h4_; have n5_ := aM h5_; have n6_ := aM h6_; clear BK143 BK144 BK145 HB h0_ h1_ h2_ h3_ h4_ h5_ h6_; have HO148 := n0_; have HO154 := n1_; have HO157 := n2_; have BK143 := n3_; have BK144 := n4_; have BK145 := n5_; have HB := n6_; clear n0_ n1_ n2_ n3_ n4_ n5_ n6_; have hHeld : w81.cell? ⟨gb143, 0, none⟩ = some (.slice A0_0 l0_0.length c0_0) ∧ w81.cell? ⟨gb143, 1, none⟩ = some (.slice A0_1 l0_1.length c0_1) ∧ w81.cell? ⟨gb144, 0, none⟩ = some (.int .i64 a1_0) ∧ w81.cell? ⟨gb144, 1, none⟩ = some (.string a1_1) := hS_; obtain ⟨Ao82, co82, eo82⟩ := Kd.R_slice HO157.out
     (first | subst eo82 | obtain ⟨rfl, rfl⟩ := eI eo82)
     obtain ⟨Ao83, co83, eo83⟩ := Kd.R_slice HO148.out
     (first | subst eo83 | obtain ⟨rfl, rfl⟩ := eI eo83)
     refine norm_ (a' := ?_) ?_ ?_; rotate_left
     ·simp only [putAll, Act.put, qA, qB, qC]
      rfl
     refine one_ (i := 10) (N := some 6) #[tT,tT,tT,tT,tT,tT,tT,tT,tT,tT,tT,fF] rfl rfl (one_of HT_.out (by kernel_rfl)) (by decide) (fun K hK => ?_)
     refine box_step ?hg (N := 6) ?hd (cs := #[.slice none 0 0, .slice none 0 0]) (t := 30) ?hr ?_; (case hd => rfl); (case hg => rfl); (case hr => first | (go_simp; done) | (go_simp; rfl))
     intro gb158 hg w84 hbox hb
     replace HO148 := xK HO148.out hb; replace HO154 := xK HO154.out hb; replace HO157 := xK HO157.out hb; have BK158 := aM (hbox)
     have GW158 := aM ((by rw [hg]; exact (zZ (zH HB.out)) : w.heap.size ≤ gb158))
     have GE158 := aM ((by rw [hg]; exact (zZ (zH HB.out)) : w.heap.size ≤ gb158))
     replace HB := aM (zT (zH HB.out) hb); have NB143_158 := nL BK143.out hg; have NB158_143 := nR BK143.out hg; replace BK143 := yK BK143.out hb; have NB144_158 := nL BK144.out hg; have NB158_144 := nR BK144.out hg; replace BK144 := yK BK144.out hb; have NB145_158 := nL BK145.out hg; have NB158_145 := nR BK145.out hg; replace BK145 := yK BK145.out hb; clear hb hbox hg
     refine hK.out _ _ ⟨yc BK143.out 0, yc BK143.out 1, yc BK144.out 0, yc BK144.out 1⟩ (fun hHeld => ?_)
     clear hK K; refine norm_ (a' := ?_) ?_ ?_; rotate_left
     ·show Act.put _ (some 6) _ = _
      simp only [Act.put, qA, qB, qC, i64_w, i32_w]
      rfl
     exact norm_ (by first | (simp only [putAll, Act.put, qA, qB, qC]; done) | (simp only [putAll, Act.put, qA, qB, qC]; rfl)) (hJ2_5_7_8_10 (.slice Ao83 t146.length co83, v150, v153, .slice Ao82 y155.length co82, gb158) _ ⟨hHeld, (xH HO148.out), (xH HO154.out), (xH HO157.out), (yH BK143.out), (yH BK144.out), (yH BK145.out), (yH BK158.out), GW158.out, GE158.out, NB143_158.out, NB158_143.out, NB144_158.out, NB158_144.out, NB145_158.out, NB158_145.out, (zH HB.out)⟩)
   rintro ⟨v147, v150, v153, v156, gb158⟩ w82 ⟨hS_, h0_, h1_, h2_, h3_, h4_, h5_, h6_, h7_, h8_, h9_, h10_, h11_, h12_, h13_, h14_, h15_⟩
   (try dsimp only at h0_ h1_ h2_ h3_ h4_ h5_ h6_ h7_ h8_ h9_ h10_ h11_ h12_ h13_ h14_ h15_)
   have n0_ := aM h0_; have n1_ := aM h1_; have n2_ := aM h2_; have n3_ := aM h3_; have n4_ := aM h4_; have n5_ := aM h5_; have n6_ := aM h6_; have n7_ := aM h7_; have n8_ := aM h8_; have n9_ := aM h9_; have n10_ := aM h10_; have n11_ := aM h11_; have n12_ := aM h12_; have n13_ := aM h13_; have n14_ := aM h14_; have n15_ := aM h15_; clear BK143 BK144 BK145 HB h0_ h1_ h2_ h3_ h4_ h5_ h6_ h7_ h8_ h9_ h10_ h11_ h12_ h13_ h14_ h15_; have HO148 := n0_; have HO154 := n1_; have HO157 := n2_; have BK143 := n3_; have BK144 := n4_; have BK145 := n5_; have BK158 := n6_; have GW158 := n7_; have GE158 := n8_; have NB143_158 := n9_; have NB158_143 := n10_; have NB144_158 := n11_; have NB158_144 := n12_; have NB145_158 := n13_; have NB158_145 := n14_; have HB := n15_; clear n0_ n1_ n2_ n3_ n4_ n5_ n6_ n7_ n8_ n9_ n10_ n11_ n12_ n13_ n14_ n15_; have hHeld : w82.cell? ⟨gb143, 0, none⟩ = some (.slice A0_0 l0_0.length c0_0) ∧ w82.cell? ⟨gb143, 1, none⟩ = some (.slice A0_1 l0_1.length c0_1) ∧ w82.cell? ⟨gb144, 0, none⟩ = some (.int .i64 a1_0) ∧ w82.cell? ⟨gb144, 1, none⟩ = some (.string a1_1) := hS_; obtain ⟨Ao83, co83, eo83⟩ := Kd.R_slice HO157.out
   (first | subst eo83 | obtain ⟨rfl, rfl⟩ := eI eo83)
   obtain ⟨Ao84, co84, eo84⟩ := Kd.R_slice HO148.out
   (first | subst eo84 | obtain ⟨rfl, rfl⟩ := eI eo84)
   refine norm_ (a' := ?_) ?_ ?_; rotate_left
   ·simp only [putAll, Act.put, qA, qB, qC]
    rfl
   refine one_ (i := 11) (N := none) #[tT,tT,tT,tT,tT,tT,tT,tT,tT,tT,tT,tT] rfl rfl (one_of HT_.out (by kernel_rfl)) (by decide) (fun K hK => ?_)
   have hs85 : w82.cell? ⟨gb158, 0, none⟩ = some (.slice none 0 0) := yc BK158.out 0; have hfs85 := yZ BK158.out 0; have hns85_0 := NB143_158.out; have hns85_1 := NB144_158.out; have hns85_2 := NB145_158.out; have hms85_0 := NB158_143.out; have hms85_1 := NB158_144.out; have hms85_2 := NB158_145.out; have hs86 : w82.cell? ⟨gb158, 1, none⟩ = some (.slice none 0 0) := yc BK158.out 1; have hfs86 := yZ BK158.out 1; have hns86_0 := NB143_158.out; have hns86_1 := NB144_158.out; have hns86_2 := NB145_158.out; have hms86_0 := NB158_143.out; have hms86_1 := NB158_144.out; have hms86_2 := NB158_145.out
   refine skip_ (w1 := ?_) (by rfl) rfl ?_ ?_
   rotate_left
   ·go_simp
    rfl
   refine hK.out _ _ ⟨((cell_far (p := ⟨gb158, _, none⟩) NB143_158.out _).trans (((cell_far (p := ⟨gb158, _, none⟩) NB143_158.out _).trans (hHeld.1)))), ((cell_far (p := ⟨gb158, _, none⟩) NB143_158.out _).trans (((cell_far (p := ⟨gb158, _, none⟩) NB143_158.out _).trans (hHeld.2.1)))), ((cell_far (p := ⟨gb158, _, none⟩) NB144_158.out _).trans (((cell_far (p := ⟨gb158, _, none⟩) NB144_158.out _).trans (hHeld.2.2.1)))), ((cell_far (p := ⟨gb158, _, none⟩) NB144_158.out _).trans (((cell_far (p := ⟨gb158, _, none⟩) NB144_158.out _).trans (hHeld.2.2.2))))⟩ (fun hHeld => ?_)
   clear hK K
   refine done_ (done_of HT_.out (by kernel_rfl)) ?_
   have hnb87 := NB143_144.out; have hnc87 := NB144_143.out; have hnb88 := NB143_145.out; have hnc88 := NB145_143.out; have hnb89 := NB143_158.out; have hnc89 := NB158_143.out; have hcz90_0 : w82.cell? ⟨gb143, 0, none⟩ = some (.slice A0_0 l0_0.length c0_0) := yc BK143.out 0; have hcz90_1 : w82.cell? ⟨gb143, 1, none⟩ = some (.slice A0_1 l0_1.length c0_1) := yc BK143.out 1; have hfz90_0 := yZ BK143.out 0; have hfz90_1 := yZ BK143.out 1
   try go_wp2_with (first | ((with_reducible refine gate_callee (f := 16) rfl ?_); refine goesL_ (some 18) rfl rfl Try.func16 (by kernel_rfl) rfl #[.agg #[.slice A0_0 l0_0.length c0_0, .slice A0_1 l0_1.length c0_1]] rfl mA ?_; (with_reducible refine (impl_GoodDevice.calls _ _ l0_0 _ _ l0_1 false _ ?side1 ?side2 ?side3 ?side4 A6.out).mono ?_); (case side1 => exact cB HR0_0.out (zH HB.out)); (case side2 => exact HC0_0.out); (case side3 => exact cB HR0_1.out (zH HB.out)); (case side4 => exact HC0_1.out); rintro e w91 ⟨rfl, hb⟩; refine ⟨_, rfl, ?_⟩; replace HO148 := aM (xB (xH ((x2 HO148.out BK158.out (by decide) (.slice Ao84 t146.length co84) (.slice Ao83 y155.length co83)))) hb); replace HO154 := aM (xB (xH ((x2 HO154.out BK158.out (by decide) (.slice Ao84 t146.length co84) (.slice Ao83 y155.length co83)))) hb); replace HO157 := aM (xB (xH ((x2 HO157.out BK158.out (by decide) (.slice Ao84 t146.length co84) (.slice Ao83 y155.length co83)))) hb); replace BK143 := aM (yB (g := gb143) (o := .cells #[.slice A0_0 l0_0.length c0_0, .slice A0_1 l0_1.length c0_1] 30 (0, 0)) (by refine yW ?_; refine yF ?_ NB143_158.out _; refine yW ?_; refine yF ?_ NB143_158.out _; refine yW ?_; exact BK143.out) hb); replace BK144 := aM (yB (g := gb144) (o := .cells #[.int .i64 a1_0, .string a1_1] 42 (0, 0)) (by refine yW ?_; refine yF ?_ NB144_158.out _; refine yW ?_; refine yF ?_ NB144_158.out _; refine yW ?_; exact BK144.out) hb); replace BK145 := aM (yB (g := gb145) (o := .cells #[.slice none 0 0, .slice none 0 0] 30 (0, 0)) (by refine yW ?_; refine yF ?_ NB145_158.out _; refine yW ?_; refine yF ?_ NB145_158.out _; refine yW ?_; exact BK145.out) hb); replace BK158 := aM (yB (g := gb158) (o := .cells #[.slice Ao84 t146.length co84, .slice Ao83 y155.length co83] 30 (0, 0)) (by refine yW ?_; refine yP (cs := #[.slice Ao84 t146.length co84, .slice none 0 0]) ?_ 1 _ rfl; refine yW ?_; refine yP (cs := #[.slice none 0 0, .slice none 0 0]) ?_ 0 _ rfl; refine yW ?_; exact BK158.out) hb); replace HB := aM (zT (zH HB.out) hb); (try clear hb); have hnb92 := NB145_144.out; have hnc92 := NB144_145.out; have hnb93 := NB145_158.out; have hnc93 := NB158_145.out; have hcz94_0 : w91.cell? ⟨gb145, 0, none⟩ = some (.slice none 0 0) := yc BK145.out 0; have hcz94_1 : w91.cell? ⟨gb145, 1, none⟩ = some (.slice none 0 0) := yc BK145.out 1; have hfz94_0 := yZ BK145.out 0; have hfz94_1 := yZ BK145.out 1))
   refine bodyPost_ret (results_ct rfl _ _ gb145 30 #[.slice none 0 0, .slice none 0 0] (0, 0) _ rfl (by refine yW ?_; refine yP (cs := #[.slice none 0 0, .slice none 0 0]) ?_ 1 _ rfl; refine yW ?_; refine yP (cs := #[.slice none 0 0, .slice none 0 0]) ?_ 0 _ rfl; refine yW ?_; exact BK145.out) Try.underlying30 rfl (by kernel_rfl)) rfl ?_
   exact ⟨_, _, eW, by first | exact Kd.R_nil _ _ _ _ _ | exact Kd.N_nil _ _ _ _ _ | exact Kd.V_nil _ _ _ _ _ | exact Kd.Q_nil _ _ _ _ _ | exact Kd.S_nil _ _ _ _ _, by first | exact Kd.R_nil _ _ _ _ _ | exact Kd.N_nil _ _ _ _ _ | exact Kd.V_nil _ _ _ _ _ | exact Kd.Q_nil _ _ _ _ _ | exact Kd.S_nil _ _ _ _ _, zH HB.out⟩
 ·rw [if_neg c5] at H
  exact absurd H (by simp)

end Go.Proofs.Ytlhgkbleciokmaa.PFnDevice
