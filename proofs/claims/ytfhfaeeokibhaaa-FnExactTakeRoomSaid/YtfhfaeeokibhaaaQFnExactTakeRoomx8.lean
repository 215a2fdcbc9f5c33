/- The walks of FnExactTakeRoom: Go's calls come to what the Lean functions beside them say; no condition. -/
import Derived.Test.YtfhfaeeokibhaaaQFnExactTakeRoomx0
namespace Go.Proofs.Ytfhfaeeokibhaaa.PFnExactTakeRoom
open Go.RowKit Go.Proofs.YtfhfaeeokibhaaaW.PrintWords Go.Proofs.YtfhfaeeokibhaaaW.PrintLast Go.Proofs.YtfhfaeeokibhaaaW.PrintMore
attribute [local go_sem] max2_int min2_int max_two min_two max_three min_three max_four min_four   -- for this text's walks alone
set_option linter.unusedVariables false
set_option linter.unusedSimpArgs false
set_option maxRecDepth 100000

/-! ### impl_within: function 38 -/
def impl_within.f (a0 : Int) (a1 : Int) (a2 : Int) : Option (Bool) := if a0 ≥ a1 then (some (decide (a0 ≤ a2))) else (some false)
set_option maxHeartbeats 8000000 in
set_option maxRecDepth 100000 in
theorem impl_within.calls (a0 : Int) (a1 : Int) (a2 : Int) (r : Bool) (w : World) (h : impl_within.f a0 a1 a2 = some r) :
  Calls Try.prog 38 #[.int .i64 a0, .int .i64 a1, .int .i64 a2] w fun e w' => e = .returned (.bool r) ∧ Drawn0 w w' := by
 have H : (if a0 ≥ a1 then (some (decide (a0 ≤ a2))) else (some false)) = some r := h
 clear h
 by_cases c4 : a0 ≥ a1
 ·rw [if_pos c4] at H
  have c4b0 : decide (a1 ≤ a0) = true := decide_eq_true c4
  clear c4
  obtain rfl := Option.some.inj H
  go_enter Try.func38, Try.ntmps38
  go_wp2
  go_ret
  exact ⟨by first | rfl | (simp; done) | (simp [*]; done), by repeat (first | exact Drawn0.refl _ | apply Drawn0.step)⟩
 ·rw [if_neg c4] at H
  have c4b0 : decide (a1 ≤ a0) = false := decide_eq_false c4
  clear c4
  obtain rfl := Option.some.inj H
  go_enter Try.func38, Try.ntmps38
  go_wp2
  go_ret
  exact ⟨by first | rfl | (simp; done) | (simp [*]; done), by repeat (first | exact Drawn0.refl _ | apply Drawn0.step)⟩

/-! ### impl_Extent_57: function 57 (by hand) -/
/-- slices.Clone -/
def impl_Extent_57.f (l0 : List (S49)) : Option ((List (S49))) :=
 if l0.length < 8796093022208 then some l0 else none
set_option maxHeartbeats 8000000 in
set_option maxRecDepth 100000 in
theorem impl_Extent_57.calls (A0 : Option Addr) (c0 : Nat) (l0 : List (S49)) (r : List (S49)) (w : World) (hr0 : Kd.C k49 w A0 l0.length l0) (hc0 : l0.length ≤ c0) (h : impl_Extent_57.f l0 = some r) :
  Calls Try.prog 57 #[.slice A0 l0.length c0] w fun e w' => ∃ v0_ : Value, e = .returned (v0_) ∧ Kd.R k49 49 w' w.heap.size (fun _ => True) v0_ r ∧ Below w.heap.size w w' := by
 unfold impl_Extent_57.f at h
 by_cases hl : l0.length < 8796093022208
 case neg => rw [if_neg hl] at h; cases h
 rw [if_pos hl] at h
 obtain rfl := Option.some.inj h
 clear h
 have LM := aM hl
 clear hl
 have HR0 := aM hr0
 have HC0 := aM hc0
 clear hr0 hc0
 have HB := aM (Below.refl w.heap.size w)
 cases A0 with
 | none =>
  obtain rfl : l0 = [] := by
   rcases Nat.eq_zero_or_pos l0.length with h0 | h0
   ·exact List.eq_nil_of_length_eq_zero h0
   ·obtain ⟨a, ha, _⟩ := HR0.out.2.2 h0; cases ha
  have he : ∀ w : World, (binOp .eql 22 (.slice none 0 c0) (.slice none 0 0)).run Try.prog w = .ok (.bool true) w := fun _ => rfl
  go_enter Try.func57, Try.ntmps57
  go_wp2
  go_ret
  exact ⟨_, rfl, Kd.R_nil _ _ _ _ _, by repeat (first | exact HB.out | apply zA | apply zN | apply zD)⟩
 | some a_ =>
  have he : ∀ w : World, (binOp .eql 22 (.slice (some a_) l0.length c0) (.slice none 0 0)).run Try.prog w = .ok (.bool false) w := fun _ => rfl
  go_enter Try.func57, Try.ntmps57
  go_wp2_with (first | ((with_reducible refine gate_dst (N := 5) rfl ?_); refine Kd.R_lit k49 _ 49 ?hg (N := 5) ?hd (xs := ([] : List S49)) (inner := []) (ok := fun _ => True) (okp := fun _ => True) ?hr ?hp (fun _ hk => hk) trivial (Below.refl _ _) (Nat.le_refl _) (by simp) ?_; (case hd => rfl); (case hg => rfl); (case hr => first | (go_simp; done) | (go_simp; rfl)); (case hp => exact (Reps.none _ _)); intro v158 w5 ho6 hb hg_ hnew_; clear hg_ hnew_; have HO159 := aM (xL ho6 (zZ (by repeat (first | exact HB.out | apply zA | apply zN | apply zD)))); replace HB := aM (zT (by repeat (first | exact HB.out | apply zA | apply zN | apply zD)) hb); clear hb ho6) | ((with_reducible refine gate_builtin (b := .append) (xs := #[.tmp 5, .tmp 6]) rfl ?_); at_builtin; refine Kd.R_append_rows k49 (w0 := w) w.heap.size rfl (.tmp 5) (.tmp 6) 22 49 ((.agg #[(.int .i64 0), (.int .i64 0)])) 16 rfl Try.underlying22 (by kernel_rfl) rfl (by decide) (by omega) v158 [] l0 _ _ _ (fun _ => True) (fun _ => False) rfl rfl ?aO ?aR (fun _ _ h => h) (fun _ h => h.elim) ?aF ?aB ?aS ?aL ?_; (case aR => exact cK HR0.out HB.out); (case aB => exact (by repeat (first | exact HB.out | apply zA | apply zN | apply zD))); (case aF => exact (fun _ _ => trivial)); (case aO => exact (xH HO159.out)); (case aS => exact (zZ (by repeat (first | exact HB.out | apply zA | apply zN | apply zD)))); (case aL => have := LM.out; simp only [List.length_nil]; omega); intro v161 w9 ho hb hg hat; replace HB := aM (hb); have HO162 := aM (ho); clear HO159; clear ho hb hg hat; obtain ⟨Ao10, co10, eo10⟩ := Kd.R_slice HO162.out; subst eo10))
  go_ret
  exact ⟨_, rfl, xH HO162.out, by repeat (first | exact HB.out | apply zA | apply zN | apply zD)⟩


/-! ### cmp_Or_int: function 67 -/
def cmp_Or_int.l0 : Nat → Int → List Int → Int → Int → Option (Int)
 | 0, _, _, _, _ => none
 | k + 1, x3, x6, x7, x8 => if x8 < x7 then (if 0 ≤ x8 then (if x8 < (x6.length : Int) then (if (rd x6 x8) = x3 then (cmp_Or_int.l0 k x3 x6 x7 (wrap64 (x8 + 1))) else (some (rd x6 x8))) else (none)) else (none)) else (some x3)
def cmp_Or_int.f (k : Nat) (l0 : List Int) : Option (Int) := cmp_Or_int.l0 k 0 l0 (l0.length : Int) 0
theorem cmp_Or_int.mono_l : ∀ k, (∀ y0 y1 y2 y3, LeO (cmp_Or_int.l0 k y0 y1 y2 y3) (cmp_Or_int.l0 (k + 1) y0 y1 y2 y3))
 | 0 => fun _ _ _ _ r h => by change none = some r at h; cases h
 | k + 1 => by
  have ih0 := cmp_Or_int.mono_l k
  ·intro y0 y1 y2 y3
   unfold cmp_Or_int.l0
   repeat' first
   | (with_reducible exact ih0 _ _ _ _)
   | (with_reducible exact LeO.refl _)
   | (with_reducible exact LeO.none _)
   | (with_reducible refine LeO.ite ?_ ?_)
   | (with_reducible refine LeO.bind ?_ (fun _ => ?_))
   | exact ih0 _ _ _ _
   | exact LeO.none _
   | refine LeO.ite ?_ ?_
   | refine LeO.bind ?_ (fun _ => ?_)
theorem cmp_Or_int.mono : ∀ a0 k, LeO (cmp_Or_int.f k a0) (cmp_Or_int.f (k + 1) a0) := by
 intro a0 k
 have ih0 := cmp_Or_int.mono_l k
 unfold cmp_Or_int.f
 repeat' first
   | (with_reducible exact ih0 _ _ _ _)
   | (with_reducible exact LeO.refl _)
   | (with_reducible exact LeO.none _)
   | (with_reducible refine LeO.ite ?_ ?_)
   | (with_reducible refine LeO.bind ?_ (fun _ => ?_))
   | exact ih0 _ _ _ _
   | exact LeO.none _
   | refine LeO.ite ?_ ?_
   | refine LeO.bind ?_ (fun _ => ?_)
set_option maxHeartbeats 8000000 in
set_option maxRecDepth 100000 in
theorem cmp_Or_int.calls (k : Nat) (A0 : Option Addr) (c0 : Nat) (l0 : List Int) (r : Int) (w : World) (hr0 : Kd.C (Kd.int .i64) w A0 l0.length l0) (hc0 : l0.length ≤ c0) (h : cmp_Or_int.f k l0 = some r) :
  Calls Try.prog 67 #[.slice A0 l0.length c0] w fun e w' => e = .returned (.int .i64 r) ∧ Drawn0 w w' := by
 have HR0 := aM hr0
 have HC0 := aM hc0
 clear hr0 hc0
 have H : (cmp_Or_int.l0 k 0 l0 (l0.length : Int) 0) = some r := h
 clear h
 have H' := aM H
 clear H
 go_enter Try.func67, Try.ntmps67
 go_wp2
 go_loopg [8] k (fun kq v8 w' => ∃ (x8_1 : Int), v8 = .int .i64 x8_1 ∧ Aside0 (cmp_Or_int.l0 kq 0 l0 (l0.length : Int) x8_1 = some r) ∧ Aside0 (kq ≤ k) ∧ Drawn0 w w')
 case atStart => exact ⟨(0), (by first | rfl | (simp; done) | (simp [*]; done)), H', ⟨Nat.le_refl _⟩, by repeat (first | exact Drawn0.refl _ | apply Drawn0.step)⟩
 case round =>
  clear H'
  obtain ⟨x8_1, rfl, HA, HK1, ⟨m1, rfl⟩⟩ := hrel
  cases gk with
  | zero => exact absurd HA.out (fun h_ => by change none = some _ at h_; cases h_)
  | succ k1 =>
   have H := HA.out
   clear HA
   simp only [cmp_Or_int.l0] at H
   by_cases c2 : x8_1 < (l0.length : Int)
   ·rw [if_pos c2] at H
    have c2b0 : decide (x8_1 < (l0.length : Int)) = true := decide_eq_true c2
    clear c2
    by_cases c3 : 0 ≤ x8_1
    ·rw [if_pos c3] at H
     have c3b0 : decide (0 ≤ x8_1) = true := decide_eq_true c3
     clear c3
     by_cases c4 : x8_1 < (l0.length : Int)
     ·rw [if_pos c4] at H
      have c4b0 : decide (x8_1 < (l0.length : Int)) = true := decide_eq_true c4
      clear c4
      by_cases c5 : (rd l0 x8_1) = 0
      ·rw [if_pos c5] at H
       have c5b0 : ((rd l0 x8_1) == 0) = true := beq_iff_eq.mpr c5
       have c5b1 : ((rd l0 x8_1) != 0) = false := bne_eq_false_iff_eq.mpr c5
       clear c5
       have H' := aM H
       clear H
       have p289 : 0 ≤ (x8_1 : Int) := of_decide_eq_true (by first | (with_reducible assumption) | assumption)
       have q289 : x8_1 < (l0.length : Int) := of_decide_eq_true (by first | (with_reducible assumption) | assumption)
       obtain ⟨ad289, e289, hx289_0⟩ := Kd.at_int HR0.out x8_1 p289 q289
       cases e289
       replace p289 := eq_true p289
       replace q289 := eq_true q289
       go_wp2
       go_roundg k1
       case measure => have := HK1.out; omega
       case rel => exact ⟨(wrap64 (x8_1 + 1)), (by first | rfl | (simp; done) | (simp [*]; done)), H', ⟨by have := HK1.out; omega⟩, by repeat (first | exact Drawn0.refl _ | apply Drawn0.step)⟩
      ·rw [if_neg c5] at H
       have c5b0 : ((rd l0 x8_1) == 0) = false := beq_eq_false_iff_ne.mpr c5
       have c5b1 : ((rd l0 x8_1) != 0) = true := bne_iff_ne.mpr c5
       obtain rfl := Option.some.inj H
       have p289 : 0 ≤ (x8_1 : Int) := of_decide_eq_true (by first | (with_reducible assumption) | assumption)
       have q289 : x8_1 < (l0.length : Int) := of_decide_eq_true (by first | (with_reducible assumption) | assumption)
       obtain ⟨ad289, e289, hx289_0⟩ := Kd.at_int HR0.out x8_1 p289 q289
       cases e289
       replace p289 := eq_true p289
       replace q289 := eq_true q289
       go_wp2
       go_ret
       exact ⟨by first | rfl | (simp; done) | (simp [*]; done), by repeat (first | exact Drawn0.refl _ | apply Drawn0.step)⟩
     ·rw [if_neg c4] at H
      exact absurd H (by simp)
    ·rw [if_neg c3] at H
     exact absurd H (by simp)
   ·rw [if_neg c2] at H
    have c2b0 : decide (x8_1 < (l0.length : Int)) = false := decide_eq_false c2
    clear c2
    obtain rfl := Option.some.inj H
    go_wp2
    go_ret
    exact ⟨by first | rfl | (simp; done) | (simp [*]; done), by repeat (first | exact Drawn0.refl _ | apply Drawn0.step)⟩

/-! ### cmp_isNaN_int: function 79 -/
def cmp_isNaN_int.f (a0 : Int) : Option (Bool) := some (a0 != a0)
set_option maxHeartbeats 8000000 in
set_option maxRecDepth 100000 in
theorem cmp_isNaN_int.calls (a0 : Int) (r : Bool) (w : World) (h : cmp_isNaN_int.f a0 = some r) :
  Calls Try.prog 79 #[.int .i64 a0] w fun e w' => e = .returned (.bool r) ∧ Drawn0 w w' := by
 have H : (some (a0 != a0)) = some r := h
 clear h
 obtain rfl := Option.some.inj H
 go_enter Try.func79, Try.ntmps79
 go_wp2
 go_ret
 exact ⟨by first | rfl | (simp; done) | (simp [*]; done), by repeat (first | exact Drawn0.refl _ | apply Drawn0.step)⟩

/-! ### cmp_Compare_int: function 68 -/
def cmp_Compare_int.f (a0 : Int) (a1 : Int) : Option (Int) := (cmp_isNaN_int.f a0).bind fun t290 => ((cmp_isNaN_int.f a1).bind fun t291 => (if t290 = true then (if t291 = true then (some 0) else (some (-1))) else (if t291 = true then (some 1) else (if a0 < a1 then (some (-1)) else (if a0 > a1 then (some 1) else (some 0))))))
set_option maxHeartbeats 8000000 in
set_option maxRecDepth 100000 in
theorem cmp_Compare_int.calls (a0 : Int) (a1 : Int) (r : Int) (w : World) (h : cmp_Compare_int.f a0 a1 = some r) :
  Calls Try.prog 68 #[.int .i64 a0, .int .i64 a1] w fun e w' => e = .returned (.int .i64 r) ∧ Drawn0 w w' := by
 have H : ((cmp_isNaN_int.f a0).bind fun t290 => ((cmp_isNaN_int.f a1).bind fun t291 => (if t290 = true then (if t291 = true then (some 0) else (some (-1))) else (if t291 = true then (some 1) else (if a0 < a1 then (some (-1)) else (if a0 > a1 then (some 1) else (some 0))))))) = some r := h
 clear h
 replace H := Option.bind_eq_some_iff.mp H
 obtain ⟨t290, A30, H⟩ := H
 replace H : ((cmp_isNaN_int.f a1).bind fun t291 => (if t290 = true then (if t291 = true then (some 0) else (some (-1))) else (if t291 = true then (some 1) else (if a0 < a1 then (some (-1)) else (if a0 > a1 then (some 1) else (some 0)))))) = some r := H
 have A3 := aM A30
 clear A30
 replace H := Option.bind_eq_some_iff.mp H
 obtain ⟨t291, A40, H⟩ := H
 replace H : (if t290 = true then (if t291 = true then (some 0) else (some (-1))) else (if t291 = true then (some 1) else (if a0 < a1 then (some (-1)) else (if a0 > a1 then (some 1) else (some 0))))) = some r := H
 have A4 := aM A40
 clear A40
 by_cases c5 : t290 = true
 ·subst c5
  have H1 : (if t291 = true then (some 0) else (some (-1))) = some r := by rw [if_pos rfl] at H; exact H
  clear H
  have H := H1
  clear H1
  by_cases c6 : t291 = true
  ·subst c6
   have H1 : (some 0) = some r := by rw [if_pos rfl] at H; exact H
   clear H
   have H := H1
   clear H1
   obtain rfl := Option.some.inj H
   go_enter Try.func68, Try.ntmps68
   go_wp2_with (first | ((with_reducible refine gate_callee (f := 79) rfl ?_); refine goesL_ (some 8) rfl rfl Try.func79 (by kernel_rfl) rfl #[.int .i64 a0] rfl (by (try simp only [List.map_toArray, List.map_cons, List.map_nil]); first | done | rfl | (simp only [List.length_drop, List.length_take]; rfl)) ?_; (with_reducible refine (cmp_isNaN_int.calls a0 true _ A3.out).mono ?_); rintro e w' ⟨rfl, ⟨nd, rfl⟩⟩; refine ⟨_, rfl, ?_⟩) | ((with_reducible refine gate_callee (f := 79) rfl ?_); refine goesL_ (some 10) rfl rfl Try.func79 (by kernel_rfl) rfl #[.int .i64 a1] rfl (by (try simp only [List.map_toArray, List.map_cons, List.map_nil]); first | done | rfl | (simp only [List.length_drop, List.length_take]; rfl)) ?_; (with_reducible refine (cmp_isNaN_int.calls a1 true _ A4.out).mono ?_); rintro e w' ⟨rfl, ⟨nd, rfl⟩⟩; refine ⟨_, rfl, ?_⟩))
   go_ret
   exact ⟨by first | rfl | (simp; done) | (simp [*]; done), by repeat (first | exact Drawn0.refl _ | apply Drawn0.step)⟩
  ·replace c6 := Bool.eq_false_iff.mpr c6
   subst c6
   have H1 : (some (-1)) = some r := by rw [if_neg (show ¬ (false = true) by decide)] at H; exact H
   clear H
   have H := H1
   clear H1
   obtain rfl := Option.some.inj H
   go_enter Try.func68, Try.ntmps68
   go_wp2_with (first | ((with_reducible refine gate_callee (f := 79) rfl ?_); refine goesL_ (some 8) rfl rfl Try.func79 (by kernel_rfl) rfl #[.int .i64 a0] rfl (by (try simp only [List.map_toArray, List.map_cons, List.map_nil]); first | done | rfl | (simp only [List.length_drop, List.length_take]; rfl)) ?_; (with_reducible refine (cmp_isNaN_int.calls a0 true _ A3.out).mono ?_); rintro e w' ⟨rfl, ⟨nd, rfl⟩⟩; refine ⟨_, rfl, ?_⟩) | ((with_reducible refine gate_callee (f := 79) rfl ?_); refine goesL_ (some 10) rfl rfl Try.func79 (by kernel_rfl) rfl #[.int .i64 a1] rfl (by (try simp only [List.map_toArray, List.map_cons, List.map_nil]); first | done | rfl | (simp only [List.length_drop, List.length_take]; rfl)) ?_; (with_reducible refine (cmp_isNaN_int.calls a1 false _ A4.out).mono ?_); rintro e w' ⟨rfl, ⟨nd, rfl⟩⟩; refine ⟨_, rfl, ?_⟩))
   go_ret
   exact ⟨by first | rfl | (simp; done) | (simp [*]; done), by repeat (first | exact Drawn0.refl _ | apply Drawn0.step)⟩
 ·replace c5 := Bool.eq_false_iff.mpr c5
  subst c5
  have H1 : (if t291 = true then (some 1) else (if a0 < a1 then (some (-1)) else (if a0 > a1 then (some 1) else (some 0)))) = some r := by rw [if_neg (show ¬ (false = true) by decide)] at H; exact H
  clear H
  have H := H1
  clear H1
  by_cases c7 : t291 = true
  ·subst c7
   have H1 : (some 1) = some r := by rw [if_pos rfl] at H; exact H
   clear H
   have H := H1
   clear H1
   obtain rfl := Option.some.inj H
   go_enter Try.func68, Try.ntmps68
   go_wp2_with (first | ((with_reducible refine gate_callee (f := 79) rfl ?_); refine goesL_ (some 8) rfl rfl Try.func79 (by kernel_rfl) rfl #[.int .i64 a0] rfl (by (try simp only [List.map_toArray, List.map_cons, List.map_nil]); first | done | rfl | (simp only [List.length_drop, List.length_take]; rfl)) ?_; (with_reducible refine (cmp_isNaN_int.calls a0 false _ A3.out).mono ?_); rintro e w' ⟨rfl, ⟨nd, rfl⟩⟩; refine ⟨_, rfl, ?_⟩) | ((with_reducible refine gate_callee (f := 79) rfl ?_); refine goesL_ (some 10) rfl rfl Try.func79 (by kernel_rfl) rfl #[.int .i64 a1] rfl (by (try simp only [List.map_toArray, List.map_cons, List.map_nil]); first | done | rfl | (simp only [List.length_drop, List.length_take]; rfl)) ?_; (with_reducible refine (cmp_isNaN_int.calls a1 true _ A4.out).mono ?_); rintro e w' ⟨rfl, ⟨nd, rfl⟩⟩; refine ⟨_, rfl, ?_⟩))
   go_ret
   exact ⟨by first | rfl | (simp; done) | (simp [*]; done), by repeat (first | exact Drawn0.refl _ | apply Drawn0.step)⟩
  ·replace c7 := Bool.eq_false_iff.mpr c7
   subst c7
   have H1 : (if a0 < a1 then (some (-1)) else (if a0 > a1 then (some 1) else (some 0))) = some r := by rw [if_neg (show ¬ (false = true) by decide)] at H; exact H
   clear H
   have H := H1
   clear H1
   by_cases c8 : a0 < a1
   ·rw [if_pos c8] at H
    have c8b0 : decide (a0 < a1) = true := decide_eq_true c8
    clear c8
    obtain rfl := Option.some.inj H
    go_enter Try.func68, Try.ntmps68
    go_wp2_with (first | ((with_reducible refine gate_callee (f := 79) rfl ?_); refine goesL_ (some 8) rfl rfl Try.func79 (by kernel_rfl) rfl #[.int .i64 a0] rfl (by (try simp only [List.map_toArray, List.map_cons, List.map_nil]); first | done | rfl | (simp only [List.length_drop, List.length_take]; rfl)) ?_; (with_reducible refine (cmp_isNaN_int.calls a0 false _ A3.out).mono ?_); rintro e w' ⟨rfl, ⟨nd, rfl⟩⟩; refine ⟨_, rfl, ?_⟩) | ((with_reducible refine gate_callee (f := 79) rfl ?_); refine goesL_ (some 10) rfl rfl Try.func79 (by kernel_rfl) rfl #[.int .i64 a1] rfl (by (try simp only [List.map_toArray, List.map_cons, List.map_nil]); first | done | rfl | (simp only [List.length_drop, List.length_take]; rfl)) ?_; (with_reducible refine (cmp_isNaN_int.calls a1 false _ A4.out).mono ?_); rintro e w' ⟨rfl, ⟨nd, rfl⟩⟩; refine ⟨_, rfl, ?_⟩))
    go_ret
    exact ⟨by first | rfl | (simp; done) | (simp [*]; done), by repeat (first | exact Drawn0.refl _ | apply Drawn0.step)⟩
   ·rw [if_neg c8] at H
    have c8b0 : decide (a0 < a1) = false := decide_eq_false c8
    clear c8
    by_cases c9 : a0 > a1
    ·rw [if_pos c9] at H
     have c9b0 : decide (a1 < a0) = true := decide_eq_true c9
     clear c9
     obtain rfl := Option.some.inj H
     go_enter Try.func68, Try.ntmps68
     go_wp2_with (first | ((with_reducible refine gate_callee (f := 79) rfl ?_); refine goesL_ (some 8) rfl rfl Try.func79 (by kernel_rfl) rfl #[.int .i64 a0] rfl (by (try simp only [List.map_toArray, List.map_cons, List.map_nil]); first | done | rfl | (simp only [List.length_drop, List.length_take]; rfl)) ?_; (with_reducible refine (cmp_isNaN_int.calls a0 false _ A3.out).mono ?_); rintro e w' ⟨rfl, ⟨nd, rfl⟩⟩; refine ⟨_, rfl, ?_⟩) | ((with_reducible refine gate_callee (f := 79) rfl ?_); refine goesL_ (some 10) rfl rfl Try.func79 (by kernel_rfl) rfl #[.int .i64 a1] rfl (by (try simp only [List.map_toArray, List.map_cons, List.map_nil]); first | done | rfl | (simp only [List.length_drop, List.length_take]; rfl)) ?_; (with_reducible refine (cmp_isNaN_int.calls a1 false _ A4.out).mono ?_); rintro e w' ⟨rfl, ⟨nd, rfl⟩⟩; refine ⟨_, rfl, ?_⟩))
     go_ret
     exact ⟨by first | rfl | (simp; done) | (simp [*]; done), by repeat (first | exact Drawn0.refl _ | apply Drawn0.step)⟩
    ·rw [if_neg c9] at H
     have c9b0 : decide (a1 < a0) = false := decide_eq_false c9
     clear c9
     obtain rfl := Option.some.inj H
     go_enter Try.func68, Try.ntmps68
     go_wp2_with (first | ((with_reducible refine gate_callee (f := 79) rfl ?_); refine goesL_ (some 8) rfl rfl Try.func79 (by kernel_rfl) rfl #[.int .i64 a0] rfl (by (try simp only [List.map_toArray, List.map_cons, List.map_nil]); first | done | rfl | (simp only [List.length_drop, List.length_take]; rfl)) ?_; (with_reducible refine (cmp_isNaN_int.calls a0 false _ A3.out).mono ?_); rintro e w' ⟨rfl, ⟨nd, rfl⟩⟩; refine ⟨_, rfl, ?_⟩) | ((with_reducible refine gate_callee (f := 79) rfl ?_); refine goesL_ (some 10) rfl rfl Try.func79 (by kernel_rfl) rfl #[.int .i64 a1] rfl (by (try simp only [List.map_toArray, List.map_cons, List.map_nil]); first | done | rfl | (simp only [List.length_drop, List.length_take]; rfl)) ?_; (with_reducible refine (cmp_isNaN_int.calls a1 false _ A4.out).mono ?_); rintro e w' ⟨rfl, ⟨nd, rfl⟩⟩; refine ⟨_, rfl, ?_⟩))
     go_ret
     exact ⟨by first | rfl | (simp; done) | (simp [*]; done), by repeat (first | exact Drawn0.refl _ | apply Drawn0.step)⟩

/-! ### impl_compareSizes: function 59 -/
def impl_compareSizes.f (k : Nat) (a0_0 : Int) (a0_1 : Int) (a1_0 : Int) (a1_1 : Int) : Option (Int) := (cmp_Compare_int.f a0_1 a1_1).bind fun t294 => ((cmp_Compare_int.f a0_0 a1_0).bind fun t295 => ((cmp_Or_int.f k (([t294, t295] : List Int))).bind fun t299 => (some t299)))
theorem impl_compareSizes.mono : ∀ a0 a1 a2 a3 k, LeO (impl_compareSizes.f k a0 a1 a2 a3) (impl_compareSizes.f (k + 1) a0 a1 a2 a3) := by
 intro a0 a1 a2 a3 k
 unfold impl_compareSizes.f
 repeat' first
   | (with_reducible exact cmp_Or_int.mono _ _)
   | (with_reducible exact LeO.refl _)
   | (with_reducible exact LeO.none _)
   | (with_reducible refine LeO.ite ?_ ?_)
   | (with_reducible refine LeO.bind ?_ (fun _ => ?_))
   | exact cmp_Or_int.mono _ _
   | exact LeO.none _
   | refine LeO.ite ?_ ?_
   | refine LeO.bind ?_ (fun _ => ?_)
def impl_compareSizes.T1 : Bool × List (List Nat × List Nat) := (true, [([], []), ([0], [0]), ([], []), ([2], [2]), ([1, 3], [1, 3]), ([], []), ([5], [5]), ([], []), ([7], [7]), ([6, 8, 4], [6, 8]), ([4, 9], [4, 9]), ([10, 9], [10]), ([11, 11, 0, 1, 2, 3, 4, 5, 6, 7, 8, 9, 10, 11], [11])])
def impl_compareSizes.B1 : List Nat := [0, 1, 0, 4, 15, 0, 32, 0, 128, 511, 1023, 2047, 4095]
theorem impl_compareSizes.tab1 : rtab .any (opsOf Try.f59 1) = impl_compareSizes.T1 := by kernel_rfl
theorem impl_compareSizes.bits1 : waitsOk impl_compareSizes.T1.2 impl_compareSizes.B1 = true := by kernel_rfl
set_option maxHeartbeats 8000000 in
set_option maxRecDepth 100000 in
theorem impl_compareSizes.calls (k : Nat) (a0_0 : Int) (a0_1 : Int) (a1_0 : Int) (a1_1 : Int) (r : Int) (w : World) (h : impl_compareSizes.f k a0_0 a0_1 a1_0 a1_1 = some r) :
  Calls Try.prog 59 #[.agg #[.int .i64 a0_0, .int .i64 a0_1], .agg #[.int .i64 a1_0, .int .i64 a1_1]] w fun e w' => e = .returned (.int .i64 r) ∧ Below w.heap.size w w' := by
 have hu49 := Try.underlying49
 have HB := aM (Below.refl w.heap.size w)
 have H : ((cmp_Compare_int.f a0_1 a1_1).bind fun t294 => ((cmp_Compare_int.f a0_0 a1_0).bind fun t295 => ((cmp_Or_int.f k (([t294, t295] : List Int))).bind fun t299 => (some t299)))) = some r := h
 clear h
 replace H := Option.bind_eq_some_iff.mp H
 obtain ⟨t294, A30, H⟩ := H
 replace H : ((cmp_Compare_int.f a0_0 a1_0).bind fun t295 => ((cmp_Or_int.f k (([t294, t295] : List Int))).bind fun t299 => (some t299))) = some r := H
 have A3 := aM A30
 clear A30
 replace H := Option.bind_eq_some_iff.mp H
 obtain ⟨t295, A40, H⟩ := H
 replace H : ((cmp_Or_int.f k (([t294, t295] : List Int))).bind fun t299 => (some t299)) = some r := H
 have A4 := aM A40
 clear A40
 obtain ⟨y296, hy296⟩ : ∃ y_ : List Int, y_ = (([t294, t295] : List Int)) := ⟨_, rfl⟩
 replace H : ((cmp_Or_int.f k y296).bind fun t299 => (some t299)) = some r := by first | (rw [hy296]; with_reducible exact H) | (have H2_ := (Option.bind_some _ _).symm.trans H; rw [hy296]; with_reducible exact H2_) | (have H2_ := (Option.bind_some _ _).symm.trans H; with_reducible exact H2_) | with_reducible exact H | (rw [hy296]; exact H) | exact H
 have Ny296 := aM hy296
 clear hy296
 replace H := Option.bind_eq_some_iff.mp H
 obtain ⟨t299, A50, H⟩ := H
 replace H : (some t299) = some r := H
 have A5 := aM A50
 clear A50
 obtain rfl := Option.some.inj H
 go_enter Try.func59, Try.ntmps59
 try go_wp2_with (first | ((with_reducible refine gate_dst (N := 2) rfl ?_); refine box_event ?hg (N := 2) ?hd (cs := #[.int .i64 a0_0, .int .i64 a0_1]) (t := 49) ?hr ?_; (case hd => rfl); (case hg => rfl); (case hr => first | (go_simp; done) | (go_simp; rfl)); intro gb292 hg w6 hbox hb; have BK292 := aM (hbox); have GW292 := aM ((by rw [hg]; exact (zZ (zH HB.out)) : w.heap.size ≤ gb292)); have GE292 := aM ((by rw [hg]; exact (zZ (zH HB.out)) : w.heap.size ≤ gb292)); replace HB := aM (zT (zH HB.out) hb); clear hb hbox hg) | ((with_reducible refine gate_dst (N := 3) rfl ?_); refine box_event ?hg (N := 3) ?hd (cs := #[.int .i64 a1_0, .int .i64 a1_1]) (t := 49) ?hr ?_; (case hd => rfl); (case hg => rfl); (case hr => first | (go_simp; done) | (go_simp; rfl)); intro gb293 hg w7 hbox hb; have BK293 := aM (hbox); have GW293 := aM ((by rw [hg]; exact (zZ (zH HB.out)) : w.heap.size ≤ gb293)); have GE293 := aM ((by rw [hg]; exact (zZ (zH HB.out)) : w.heap.size ≤ gb293)); replace HB := aM (zT (zH HB.out) hb); have NB292_293 := nL BK292.out hg; have NB293_292 := nR BK292.out hg; replace BK292 := yK BK292.out hb; clear hb hbox hg))
 replace BK292 := aM (yD BK292.out)
 replace BK293 := aM (yD BK293.out)
 replace HB := aM (zD HB.out)
 refine start_ (n := 13) (S := fun w' => w'.cell? ⟨gb292, 0, none⟩ = some (.int .i64 a0_0) ∧ w'.cell? ⟨gb292, 1, none⟩ = some (.int .i64 a0_1) ∧ w'.cell? ⟨gb293, 0, none⟩ = some (.int .i64 a1_0) ∧ w'.cell? ⟨gb293, 1, none⟩ = some (.int .i64 a1_1)) (ds := []) #[fF,fF,fF,fF,fF,fF,fF,fF,fF,fF,fF,fF,fF] (by kernel_rfl) rfl rfl ⟨yc BK292.out 0, yc BK292.out 1, yc BK293.out 0, yc BK293.out 1⟩ (fun hHeld => ?_); refine with_tabW impl_compareSizes.tab1 impl_compareSizes.bits1 (fun HT_ HW_ => ?_)
 generalize w7.drew = w8 at BK292 BK293 HB hHeld ⊢
 refine pure_ (i := 0) (N := some 5) (v := ?_) (a' := ?_) #[tT,fF,fF,fF,fF,fF,fF,fF,fF,fF,fF,fF,fF] rfl rfl (any_of HT_.out (by kernel_rfl)) (fun _ _ _ h => h) (Or.inl ⟨by rfl, ?_⟩) ?_ ?_
 rotate_left
 ·intro w'
  go_simp
  with_reducible rfl
 rotate_left
 ·simp only [Act.put, qA, qB, qC, i64_w, i32_w]
  rfl
 refine pure_ (i := 2) (N := some 7) (v := ?_) (a' := ?_) #[tT,fF,tT,fF,fF,fF,fF,fF,fF,fF,fF,fF,fF] rfl rfl (any_of HT_.out (by kernel_rfl)) (fun _ _ _ h => h) (Or.inl ⟨by rfl, ?_⟩) ?_ ?_
 rotate_left
 ·intro w'
  go_simp
  with_reducible rfl
 rotate_left
 ·simp only [Act.put, qA, qB, qC, i64_w, i32_w]
  rfl
 refine pure_ (i := 5) (N := some 10) (v := ?_) (a' := ?_) #[tT,fF,tT,fF,fF,tT,fF,fF,fF,fF,fF,fF,fF] rfl rfl (any_of HT_.out (by kernel_rfl)) (fun _ _ _ h => h) (Or.inl ⟨by rfl, ?_⟩) ?_ ?_
 rotate_left
 ·intro w'
  go_simp
  with_reducible rfl
 rotate_left
 ·simp only [Act.put, qA, qB, qC, i64_w, i32_w]
  rfl
 refine pure_ (i := 7) (N := some 12) (v := ?_) (a' := ?_) #[tT,fF,tT,fF,fF,tT,fF,tT,fF,fF,fF,fF,fF] rfl rfl (any_of HT_.out (by kernel_rfl)) (fun _ _ _ h => h) (Or.inl ⟨by rfl, ?_⟩) ?_ ?_
 rotate_left
 ·intro w'
  go_simp
  with_reducible rfl
 rotate_left
 ·simp only [Act.put, qA, qB, qC, i64_w, i32_w]
  rfl
 refine take_ (i := 1) (N := some 6) (v := ?_) (a' := ?_) #[tT,tT,tT,fF,fF,tT,fF,tT,fF,fF,fF,fF,fF] rfl rfl (take_ofW HT_.out HW_.out (by kernel_rfl)) (fun _ _ _ h => h) (Or.inl ⟨by rfl, ?_⟩) hHeld ?_ ?_
 rotate_left
 ·rintro w' ⟨s0, s1, s2, s3⟩
  go_simp
  with_reducible rfl
 rotate_left
 ·simp only [Act.put, qA, qB, qC, i64_w, i32_w]
  rfl
 refine take_ (i := 3) (N := some 8) (v := ?_) (a' := ?_) #[tT,tT,tT,tT,fF,tT,fF,tT,fF,fF,fF,fF,fF] rfl rfl (take_ofW HT_.out HW_.out (by kernel_rfl)) (fun _ _ _ h => h) (Or.inl ⟨by rfl, ?_⟩) hHeld ?_ ?_
 rotate_left
 ·rintro w' ⟨s0, s1, s2, s3⟩
  go_simp
  with_reducible rfl
 rotate_left
 ·simp only [Act.put, qA, qB, qC, i64_w, i32_w]
  rfl
 refine take_ (i := 6) (N := some 11) (v := ?_) (a' := ?_) #[tT,tT,tT,tT,fF,tT,tT,tT,fF,fF,fF,fF,fF] rfl rfl (take_ofW HT_.out HW_.out (by kernel_rfl)) (fun _ _ _ h => h) (Or.inl ⟨by rfl, ?_⟩) hHeld ?_ ?_
 rotate_left
 ·rintro w' ⟨s0, s1, s2, s3⟩
  go_simp
  with_reducible rfl
 rotate_left
 ·simp only [Act.put, qA, qB, qC, i64_w, i32_w]
  rfl
 refine take_ (i := 8) (N := some 13) (v := ?_) (a' := ?_) #[tT,tT,tT,tT,fF,tT,tT,tT,tT,fF,fF,fF,fF] rfl rfl (take_ofW HT_.out HW_.out (by kernel_rfl)) (fun _ _ _ h => h) (Or.inl ⟨by rfl, ?_⟩) hHeld ?_ ?_
 rotate_left
 ·rintro w' ⟨s0, s1, s2, s3⟩
  go_simp
  with_reducible rfl
 rotate_left
 ·simp only [Act.put, qA, qB, qC, i64_w, i32_w]
  rfl
 refine one_ (i := 4) (N := some 9) #[tT,tT,tT,tT,tT,tT,tT,tT,tT,fF,fF,fF,fF] rfl rfl (one_of HT_.out (by kernel_rfl)) (by decide) (fun K hK => ?_)
 refine gS Try.func68 (by kernel_rfl) rfl #[.int .i64 a0_1, .int .i64 a1_1] (by rfl) rfl rfl ?_
 with_reducible refine (cmp_Compare_int.calls a0_1 a1_1 t294 _ A3.out).mono ?_
 rintro e w' ⟨rfl, ⟨nd, rfl⟩⟩
 refine ⟨_, rfl, ?_⟩
 refine hK.out _ _ ⟨yc BK292.out 0, yc BK292.out 1, yc BK293.out 0, yc BK293.out 1⟩ (fun hHeld => ?_)
 clear hK K
 refine norm_ (a' := ?_) ?_ ?_
 rotate_left
 ·show Act.put _ (some 9) _ = _
  simp only [Act.put, qA, qB, qC, i64_w, i32_w]
  rfl
 refine one_ (i := 9) (N := some 14) #[tT,tT,tT,tT,tT,tT,tT,tT,tT,tT,fF,fF,fF] rfl rfl (one_of HT_.out (by kernel_rfl)) (by decide) (fun K hK => ?_)
 refine gS Try.func68 (by kernel_rfl) rfl #[.int .i64 a0_0, .int .i64 a1_0] (by rfl) rfl rfl ?_
 with_reducible refine (cmp_Compare_int.calls a0_0 a1_0 t295 _ A4.out).mono ?_
 rintro e w' ⟨rfl, ⟨nd, rfl⟩⟩
 refine ⟨_, rfl, ?_⟩
 refine hK.out _ _ ⟨yc BK292.out 0, yc BK292.out 1, yc BK293.out 0, yc BK293.out 1⟩ (fun hHeld => ?_)
 clear hK K
 refine norm_ (a' := ?_) ?_ ?_
 rotate_left
 ·show Act.put _ (some 14) _ = _
  simp only [Act.put, qA, qB, qC, i64_w, i32_w]
  rfl
 refine one_ (i := 10) (N := some 15) #[tT,tT,tT,tT,tT,tT,tT,tT,tT,tT,tT,fF,fF] rfl rfl (one_of HT_.out (by kernel_rfl)) (by decide) (fun K hK => ?_)
 refine Kd.R_lit_step (Kd.int .i64) _ 3 ?hg (N := 15) ?hd (xs := ([t294, t295] : List Int)) (inner := [.int .i64 t294, .int .i64 t295]) (ok := fun _ => True) (okp := fun _ => True) ?hr ?hp (fun _ hk => hk) trivial (Below.refl _ _) (Nat.le_refl _) (by simp) ?_; (case hd => rfl); (case hg => rfl); (case hr => first | (go_simp; done) | (go_simp; rfl)); (case hp => exact (Reps.one (show Kd.M (Kd.int .i64) _ _ _ t294 [.int .i64 t294] from rfl) (Reps.one (show Kd.M (Kd.int .i64) _ _ _ t295 [.int .i64 t295] from rfl) (Reps.none _ _))))
 intro v297 w9 ho10 hb hg_ hnew_
 clear hg_ hnew_
 (first | rw [← Ny296.out] at ho10 | (simp only [Int.reduceToNat] at ho10; rw [← Ny296.out] at ho10))
 have HO298 := aM (xL ho10 (zZ (zH HB.out)))
 replace BK292 := yK BK292.out hb
 replace BK293 := yK BK293.out hb
 replace HB := aM (zT (zH HB.out) hb)
 clear hb ho10
 obtain ⟨Ao11, co11, eo11⟩ := Kd.R_slice HO298.out
 (first | subst eo11 | obtain ⟨rfl, rfl⟩ := eI eo11)
 refine hK.out _ _ ⟨yc BK292.out 0, yc BK292.out 1, yc BK293.out 0, yc BK293.out 1⟩ (fun hHeld => ?_)
 clear hK K
 refine norm_ (a' := ?_) ?_ ?_
 rotate_left
 ·show Act.put _ (some 15) _ = _
  simp only [Act.put, qA, qB, qC, i64_w, i32_w]
  rfl
 refine one_ (i := 11) (N := some 16) #[tT,tT,tT,tT,tT,tT,tT,tT,tT,tT,tT,tT,fF] rfl rfl (one_of HT_.out (by kernel_rfl)) (by decide) (fun K hK => ?_)
 refine gS Try.func67 (by kernel_rfl) rfl #[.slice Ao11 y296.length co11] (by rfl) rfl rfl ?_
 with_reducible refine (cmp_Or_int.calls k _ _ y296 t299 _ ?side1 ?side2 A5.out).mono ?_
 (case side1 => repeat (first | exact (Kd.R_reads' HO298.out).2.2 | (with_reducible refine cA ?_ _) | (with_reducible refine cN ?_ _) | (with_reducible refine cD ?_)))
 (case side2 => exact (Kd.R_reads' HO298.out).2.1)
 rintro e w' ⟨rfl, ⟨nd, rfl⟩⟩
 refine ⟨_, rfl, ?_⟩
 refine hK.out _ _ ⟨yc BK292.out 0, yc BK292.out 1, yc BK293.out 0, yc BK293.out 1⟩ (fun hHeld => ?_)
 clear hK K
 refine norm_ (a' := ?_) ?_ ?_
 rotate_left
 ·show Act.put _ (some 16) _ = _
  simp only [Act.put, qA, qB, qC, i64_w, i32_w]
  rfl
 refine pure_ (i := 12) (N := some 4) (v := ?_) (a' := ?_) #[tT,tT,tT,tT,tT,tT,tT,tT,tT,tT,tT,tT,tT] rfl rfl (any_of HT_.out (by kernel_rfl)) (fun _ _ _ h => h) (Or.inl ⟨by rfl, ?_⟩) ?_ ?_
 rotate_left
 ·intro w'
  go_simp
  with_reducible rfl
 rotate_left
 ·simp only [Act.put, qA, qB, qC, i64_w, i32_w]
  rfl
 refine done_ (done_of HT_.out (by kernel_rfl)) ?_
 try go_wp2
 go_ret
 exact ⟨by first | rfl | (simp [errW_none, errW_some] <;> rfl) | (simp [*, errW_none, errW_some] <;> rfl), zH HB.out⟩

/-! ### impl_freeOf: function 39 (by hand) -/
section
open Go.Shelf Go.Sort
def Gr (w w' : World) : Prop := ∃ q os, w' = grow (w.drewN q) os
theorem Gr.refl (w : World) : Gr w w := ⟨0, #[], by simp [grow, World.drewN]⟩
theorem Gr.alloc {w w' : World} (h : Gr w w') (o : Obj) : Gr w (w'.alloc o) := by
 obtain ⟨q, os, rfl⟩ := h
 exact ⟨q, os ++ #[o], by rw [alloc_eq_grow, grow_grow]⟩
theorem Gr.drewN {w w' : World} (h : Gr w w') (n : Nat) : Gr w (w'.drewN n) := by
 obtain ⟨q, os, rfl⟩ := h
 exact ⟨q + n, os, by simp [grow, World.drewN, Nat.add_assoc]⟩
theorem Gr.drew {w w' : World} (h : Gr w w') : Gr w w'.drew := h.drewN 1
theorem reads2 (W : World) (g : Nat) (r1 r2 : Int) (hg : W.heap.size = g) : Kd.C (Kd.int .i64) (W.alloc (.cells #[.int .i64 r1, .int .i64 r2] 3)) (some ⟨g, 0, none⟩) 2 [r1, r2] := by
 subst hg
 exact (Kd.R_reads' (ok := fun _ => True) (Kd.R_of_own (own_lit_of (enc := Value.int .i64) W 0 3 [r1, r2] (Nat.zero_le _) (by simp)) (fun _ _ => trivial))).2.2
set_option maxHeartbeats 1000000 in
theorem cmpS_walk (k : Nat) (x y : S49) (r1 r2 r : Int) (w : World) (h1 : cmp_Compare_int.f x.f1 y.f1 = some r1) (h2 : cmp_Compare_int.f x.f0 y.f0 = some r2) (h3 : cmp_Or_int.f k [r1, r2] = some r) :
  Calls Try.prog 59 #[.agg #[.int .i64 x.f0, .int .i64 x.f1], .agg #[.int .i64 y.f0, .int .i64 y.f1]] w fun e w' => e = .returned (.int .i64 r) ∧ Gr w w' := by
 have H1 := aM h1
 have H2 := aM h2
 have H3 := aM h3
 clear h1 h2 h3
 obtain ⟨x0, x1⟩ := x
 obtain ⟨y0, y1⟩ := y
 go_enter Try.func59, Try.ntmps59
 go_wp2_with fail
 go_region_held3 (fun w' => w'.cell? ⟨w.heap.size, 0, none⟩ = some (.int .i64 x0) ∧ w'.cell? ⟨w.heap.size, 1, none⟩ = some (.int .i64 x1) ∧ w'.cell? ⟨w.heap.size + 1, 0, none⟩ = some (.int .i64 y0) ∧ w'.cell? ⟨w.heap.size + 1, 1, none⟩ = some (.int .i64 y1)) (go_keep)
  (first | (go_at_call_of 68 (Value.int .i64 x1); refine (cmp_Compare_int.calls _ _ _ _ H1.out).mono ?_; rintro e w' ⟨rfl, ⟨n1, rfl⟩⟩) | (go_at_call_of 68 (Value.int .i64 x0); refine (cmp_Compare_int.calls _ _ _ _ H2.out).mono ?_; rintro e w' ⟨rfl, ⟨n2, rfl⟩⟩) | (go_at_call 67; refine (cmp_Or_int.calls k _ 2 [r1, r2] _ _ ?c2 (by simp) H3.out).mono ?_; (case c2 => exact reads2 _ _ r1 r2 (by simp)); rintro e w' ⟨rfl, ⟨n3, rfl⟩⟩))
 go_wp2
 go_ret
 exact ⟨rfl, by repeat (first | exact Gr.refl _ | apply Gr.alloc | apply Gr.drewN | apply Gr.drew)⟩

/-! #### rows of structs of two numbers, in the sort's words -/
def encE (x : S49) : List Value := [.int .i64 x.f0, .int .i64 x.f1]
instance inhE : Inhabited S49 := ⟨z49⟩
theorem encE_len (x : S49) : (encE x).length = 2 := rfl
theorem flat_get (xs : List S49) : ∀ (j : Nat) (x : S49), xs[j]? = some x → ((xs.flatMap encE).drop (j * 2)).take 2 = encE x := by
 induction xs with
 | nil => intro j x h; simp at h
 | cons y l ih =>
  intro j x h
  cases j with
  | zero =>
   obtain rfl : y = x := by simpa using h
   rfl
  | succ j =>
   have h' : l[j]? = some x := by simpa using h
   rw [← ih j x h', show (j + 1) * 2 = j * 2 + 2 by omega]
   rfl
theorem flat_len (xs : List S49) : (xs.flatMap encE).length = xs.length * 2 := by
 induction xs with
 | nil => rfl
 | cons y l ih => rw [List.flatMap_cons, List.length_append, ih, encE_len, List.length_cons]; omega
theorem reps_flat {R : S49 → List Value → Prop} (hR : ∀ p c, R p c → c = encE p) : ∀ (xs : List S49) (cs : List Value), Reps R 2 xs cs → cs = xs.flatMap encE
 | [], cs, h => by
  have := h.1
  simpa using this
 | x :: l, cs, h => by
  have h0 := hR _ _ (h.2 0 x rfl)
  have hl := h.1
  simp only [List.length_cons] at hl
  have ht := reps_flat hR l (cs.drop 2) ⟨by rw [List.length_drop]; omega, fun j p hj => by
   have := h.2 (j + 1) p (by simpa using hj)
   rwa [show (j + 1) * 2 = 2 + j * 2 by omega, ← List.drop_drop] at this⟩
  rw [List.flatMap_cons, ← ht, ← h0]
  simp
theorem flat_reps {R : S49 → List Value → Prop} (hR : ∀ p, R p (encE p)) (xs : List S49) : Reps R 2 xs (xs.flatMap encE) :=
 ⟨flat_len xs, fun j p hj => by rw [flat_get xs j p hj]; exact hR p⟩
theorem flat_at (xs : List S49) (j : Nat) (h : j < xs.length * 2) : (xs.flatMap encE)[j]? = some (encE (xs[j / 2]'(by omega)))[j % 2]! := by
 have hx : xs[j / 2]? = some (xs[j / 2]'(by omega)) := List.getElem?_eq_getElem (by omega)
 have h1 := flat_get xs (j / 2) _ hx
 have h2 : (((xs.flatMap encE).drop (j / 2 * 2)).take 2)[j % 2]? = (xs.flatMap encE)[j]? := by
  rw [List.getElem?_take, if_pos (by omega), List.getElem?_drop, show j / 2 * 2 + j % 2 = j by omega]
 rw [← h2, h1]
 have hlt : j % 2 < (encE (xs[j / 2]'(by omega))).length := by rw [encE_len]; omega
 rw [List.getElem?_eq_getElem hlt, getElem!_pos (encE _) (j % 2) hlt]
theorem flatK_list (xs : List S49) : (flatK encE 2 xs.toArray).toList = xs.flatMap encE := by
 apply List.ext_getElem?
 intro j
 by_cases hj : j < xs.length * 2
 ·rw [flat_at xs j hj, Array.getElem?_toList]
  have hs : j < (flatK encE 2 xs.toArray).size := by rw [size_flatK]; simpa using hj
  rw [Array.getElem?_eq_getElem hs]
  have := get_flatK encE 2 xs.toArray j (by simpa using hj)
  rw [getElem!_pos _ j hs] at this
  rw [this]
  have hq : j / 2 < xs.toArray.size := by simp; omega
  rw [getElem!_pos xs.toArray (j / 2) hq]
  simp
 ·exact (List.getElem?_eq_none (by rw [Array.length_toList, size_flatK]; simp; omega)).trans (List.getElem?_eq_none (by rw [flat_len]; omega)).symm
theorem R_flat {w : World} {base : Nat} {ok : Nat → Prop} {v : Value} {xs : List S49} (h : Kd.R k49 49 w base ok v xs) : w.ownsRow base 49 2 v xs.length (xs.flatMap encE) ∧ ∀ k, v.ownBlock = some k → ok k := by
 obtain ⟨h0, inner, ho, hr⟩ := h
 have e := reps_flat (fun p c hp => k49_openM hp) xs inner hr
 subst e
 exact ⟨ho, h0⟩
theorem flat_R {w : World} {base : Nat} {ok : Nat → Prop} {v : Value} {xs : List S49} (h : w.ownsRow base 49 2 v xs.length (xs.flatMap encE)) (h0 : ∀ k, v.ownBlock = some k → ok k) : Kd.R k49 49 w base ok v xs :=
 ⟨h0, _, h, flat_reps (fun p => k49_mkM _ _ _ p) xs⟩
theorem holds_flat {w : World} {base g cap : Nat} {xs : List S49} (h : w.ownsRow base 49 2 (.slice (some ⟨g, 0, none⟩) xs.length cap) xs.length (xs.flatMap encE)) : HoldsK encE 2 w g 0 xs.toArray ∧ g < w.heap.size ∧ base ≤ g := by
 rcases h.2 with ⟨e0, _⟩ | ⟨g', cap', cur, e0, hb, hg, hn, hm, hs, ht⟩
 ·cases e0
 ·injection e0 with e1 _ e3
  injection e1 with e1
  injection e1 with e1
  subst e1; subst e3
  refine ⟨fun j hj => ?_, blk_lt hg, hb⟩
  have hj' : j < xs.length * 2 := by rw [size_flatK] at hj; simpa using hj
  refine ⟨?_, by simp [World.frozen?, hg]⟩
  have e1 : (cur.toList.take (xs.length * 2))[j]? = (flatK encE 2 xs.toArray).toList[j]? := by rw [ht, flatK_list]
  rw [List.getElem?_take, if_pos hj', Array.getElem?_toList, Array.getElem?_toList, Array.getElem?_eq_getElem hj] at e1
  rw [yC hg, Nat.zero_add, e1, getElem!_pos _ j hj]
  rfl
theorem sorted_flat {w : World} {base g cap q : Nat} {xs ys : List S49} (os : Array Obj) (hy : ys.length = xs.length) (h : w.ownsRow base 49 2 (.slice (some ⟨g, 0, none⟩) xs.length cap) xs.length (xs.flatMap encE)) :
  (sortWorldK encE 2 w g 0 q ys.toArray os).ownsRow base 49 2 (.slice (some ⟨g, 0, none⟩) xs.length cap) ys.length (ys.flatMap encE) := by
 rcases h.2 with ⟨e0, _⟩ | ⟨g', cap', cur, e0, hb, hg, hn, hm, hs, ht⟩
 ·cases e0
 ·injection e0 with e1 _ e3
  injection e1 with e1
  injection e1 with e1
  subst e1; subst e3
  rw [← hy]
  refine ⟨flat_len ys, .inr ⟨g, cap, putCells id 0 (flatK encE 2 ys.toArray) cur, rfl, hb, ?_, by omega, hm, by simpa [putCells] using hs, ?_⟩⟩
  ·have hgs : g < w.heap.size := blk_lt hg
   obtain ⟨_, hge⟩ := Array.getElem?_eq_some_iff.mp hg
   simp [sortWorldK, grow, putRowK, putRow, mapBlock, Sort.ahead, Array.getElem?_append, Array.getElem_modify, hgs, hge, onCells]
  ·rw [← flatK_list]
   apply List.ext_getElem?
   intro j
   rw [List.getElem?_take, Array.getElem?_toList, Array.getElem?_toList]
   by_cases hj : j < ys.length * 2
   ·have hjc : j < cur.size := by omega
    have hjf : j < (flatK encE 2 ys.toArray).size := by rw [size_flatK]; simpa using hj
    simp only [if_pos hj, putCells, Array.getElem?_mapIdx, Array.getElem?_eq_getElem hjc, Option.map_some]
    rw [if_pos (by omega), Array.getElem?_eq_getElem hjf, getElem!_pos _ _ (by simpa using hjf)]
    simp
   ·rw [if_neg hj, Array.getElem?_eq_none (by rw [size_flatK]; simp; omega)]
theorem grown_sorted {w : World} {g n cap q : Nat} {ys : List S49} (os : Array Obj) : w.grownBy (sortWorldK encE 2 w g 0 q ys.toArray os) (Value.slice (some ⟨g, 0, none⟩) n cap).ownBlock :=
 ⟨rfl, rfl, rfl, by simp [sortWorldK, grow, putRowK, putRow, mapBlock, Sort.ahead], fun k hk hne => by
  have hg : g ≠ k := fun e => hne (by rw [e]; rfl)
  simp [sortWorldK, grow, putRowK, putRow, mapBlock, Sort.ahead, Array.getElem?_append, Array.getElem_modify, hk, hg]⟩
def sortLay_ren : Go.Shelf.Ren := ⟨fun | 6 => 58 | 15 => 66 | 14 => 65 | 28 => 77 | 29 => 78 | 20 => 69 | 21 => 70 | 22 => 71 | 23 => 72 | 24 => 73 | 25 => 74 | 26 => 75 | 27 => 76 | 46 => 80 | 47 => 81 | 48 => 82 | 49 => 83 | 50 => 84 | 57 => 85 | n => n, fun | 22 => 22 | 24 => 49 | 25 => 73 | 3 => 3 | 39 => 79 | 0 => 0 | 53 => 89 | 55 => 91 | 4 => 4 | 46 => 83 | 45 => 82 | 50 => 70 | 5 => 5 | 9 => 9 | 66 => 93 | 70 => 97 | 76 => 99 | 77 => 100 | n => n, fun | n => n⟩
theorem sortLay : Go.Proofs.SlLaysF0.n6 Try.prog sortLay_ren := {
 mixed := by kernel_rfl,
 f6 := ⟨Try.f58.name, by decide, Try.func58.trans (congrArg some (by kernel_rfl))⟩,
 f14 := ⟨Try.f65.name, by decide, Try.func65.trans (congrArg some (by kernel_rfl))⟩,
 f15 := Try.func66.trans (congrArg some (by kernel_rfl)),
 f20 := ⟨Try.f69.name, by decide, Try.func69.trans (congrArg some (by kernel_rfl))⟩,
 f21 := ⟨Try.f70.name, by decide, Try.func70.trans (congrArg some (by kernel_rfl))⟩,
 f22 := ⟨Try.f71.name, by decide, Try.func71.trans (congrArg some (by kernel_rfl))⟩,
 f23 := ⟨Try.f72.name, by decide, Try.func72.trans (congrArg some (by kernel_rfl))⟩,
 f24 := ⟨Try.f73.name, by decide, Try.func73.trans (congrArg some (by kernel_rfl))⟩,
 f25 := ⟨Try.f74.name, by decide, Try.func74.trans (congrArg some (by kernel_rfl))⟩,
 f26 := ⟨Try.f75.name, by decide, Try.func75.trans (congrArg some (by kernel_rfl))⟩,
 f27 := ⟨Try.f76.name, by decide, Try.func76.trans (congrArg some (by kernel_rfl))⟩,
 f28 := Try.func77.trans (congrArg some (by kernel_rfl)),
 f29 := Try.func78.trans (congrArg some (by kernel_rfl)),
 f46 := ⟨Try.f80.name, by decide, Try.func80.trans (congrArg some (by kernel_rfl))⟩,
 f47 := Try.func81.trans (congrArg some (by kernel_rfl)),
 f48 := Try.func82.trans (congrArg some (by kernel_rfl)),
 f49 := ⟨Try.f83.name, by decide, Try.func83.trans (congrArg some (by kernel_rfl))⟩,
 f50 := ⟨Try.f84.name, by decide, Try.func84.trans (congrArg some (by kernel_rfl))⟩,
 f57 := ⟨Try.f85.name, by decide, Try.func85.trans (congrArg some (by kernel_rfl))⟩,
 t0 := Try.underlying0,
 a0 := Try.isAgg0,
 z0 := Try.sizeOf0,
 v0 := Try.zeroValue0,
 t3 := Try.underlying3,
 a3 := Try.isAgg3,
 z3 := Try.sizeOf3,
 v3 := Try.zeroValue3,
 t4 := Try.underlying4,
 a4 := Try.isAgg4,
 z4 := Try.sizeOf4,
 v4 := Try.zeroValue4,
 t5 := Try.underlying5,
 a5 := Try.isAgg5,
 z5 := Try.sizeOf5,
 v5 := Try.zeroValue5,
 t9 := Try.underlying9,
 a9 := Try.isAgg9,
 z9 := Try.sizeOf9,
 v9 := Try.zeroValue9,
 t22 := Try.underlying22,
 a22 := Try.isAgg22,
 z22 := Try.sizeOf22,
 v22 := Try.zeroValue22,
 t25 := Try.underlying73,
 a25 := Try.isAgg73,
 z25 := Try.sizeOf73,
 v25 := Try.zeroValue73,
 t39 := Try.underlying79,
 a39 := Try.isAgg79,
 z39 := Try.sizeOf79,
 v39 := Try.zeroValue79,
 t45 := Try.underlying82,
 a45 := Try.isAgg82,
 z45 := Try.sizeOf82,
 v45 := Try.zeroValue82,
 t46 := Try.underlying83,
 a46 := Try.isAgg83,
 z46 := Try.sizeOf83,
 v46 := Try.zeroValue83,
 t50 := Try.underlying70,
 a50 := Try.isAgg70,
 z50 := Try.sizeOf70,
 v50 := Try.zeroValue70,
 t53 := Try.underlying89,
 a53 := Try.isAgg89,
 z53 := Try.sizeOf89,
 v53 := Try.zeroValue89,
 t55 := Try.underlying91,
 a55 := Try.isAgg91,
 z55 := Try.sizeOf91,
 v55 := Try.zeroValue91,
 t66 := Try.underlying93,
 a66 := Try.isAgg93,
 z66 := Try.sizeOf93,
 v66 := Try.zeroValue93,
 t70 := Try.underlying97,
 a70 := Try.isAgg97,
 z70 := Try.sizeOf97,
 v70 := Try.zeroValue97,
 t76 := Try.underlying99,
 a76 := Try.isAgg99,
 z76 := Try.sizeOf99,
 v76 := Try.zeroValue99,
 t77 := Try.underlying100,
 a77 := Try.isAgg100,
 z77 := Try.sizeOf100,
 v77 := Try.zeroValue100 }

/-- compare -/
def cmpI (a b : Int) : Int := if a < b then -1 else if a > b then 1 else 0
def cmpS (x y : S49) : Int := if cmpI x.f1 y.f1 = 0 then cmpI x.f0 y.f0 else cmpI x.f1 y.f1
theorem cmpI_f (a b : Int) : cmp_Compare_int.f a b = some (cmpI a b) := by
 unfold cmp_Compare_int.f cmp_isNaN_int.f cmpI
 simp only [Option.bind_some, bne_self_eq_false]
 rw [if_neg (by decide), if_neg (by decide)]
 split
 ·rfl
 ·split <;> rfl
theorem or_f (a b : Int) : cmp_Or_int.f 3 [a, b] = some (if a = 0 then b else a) := by
 unfold cmp_Or_int.f
 have r0 : Go.Proofs.YtfhfaeeokibhaaaW.PrintWords.rd [a, b] 0 = a := rfl
 have r1 : Go.Proofs.YtfhfaeeokibhaaaW.PrintWords.rd [a, b] 1 = b := rfl
 simp only [cmp_Or_int.l0, List.length_cons, List.length_nil]
 have e1 : wrap64 1 = 1 := by unfold wrap64; omega
 have e2 : wrap64 2 = 2 := by unfold wrap64; omega
 by_cases h : a = 0
 ·by_cases h' : b = 0
  ·subst h; subst h'; simp [e1, e2, r0, r1]
  ·subst h; simp [e1, e2, h', r0, r1]
 ·simp [h, r0]
theorem lt_cmpS (x y : S49) : ltOf cmpS x y = decide (x.f1 < y.f1 ∨ x.f1 = y.f1 ∧ x.f0 < y.f0) := by
 unfold ltOf cmpS cmpI
 rw [decide_eq_decide]
 by_cases h1 : x.f1 < y.f1
 ·rw [if_pos h1]; simp [h1]
 ·rw [if_neg h1]
  by_cases h2 : x.f1 > y.f1
  ·rw [if_pos h2]; simp; omega
  ·rw [if_neg h2]
   have h3 : x.f1 = y.f1 := by omega
   by_cases h4 : x.f0 < y.f0
   ·simp [h3, h4]
   ·by_cases h5 : x.f0 > y.f0
    ·simp [h3, h4, h5]
    ·simp [h3, h4, h5]
theorem swoS : SWO (ltOf cmpS) where
 irrefl x := by rw [lt_cmpS]; simp
 trans x y z h1 h2 := by rw [lt_cmpS] at *; simp at *; omega
 ntrans x y z h1 h2 := by rw [lt_cmpS] at *; simp at *; omega
theorem totS (x y : S49) (h1 : ltOf cmpS x y = false) (h2 : ltOf cmpS y x = false) : x = y := by
 rw [lt_cmpS] at h1 h2
 obtain ⟨x0, x1⟩ := x
 obtain ⟨y0, y1⟩ := y
 simp at h1 h2
 have : x1 = y1 ∧ x0 = y0 := by omega
 rw [this.1, this.2]
/-- the extents by their sizes -/
def sortE (l : List S49) : List S49 := l.mergeSort fun x y => !(ltOf cmpS) y x
theorem sortE_len (l : List S49) : (sortE l).length = l.length := List.length_mergeSort l
theorem cmpLaysS (blk off size : Nat) (w : World) : CmpLays Try.prog 59 #[] encE 2 cmpS blk off size w := fun m os dk _ x y =>
 cmpS_walk 3 x y _ _ _ _ (cmpI_f _ _) (cmpI_f _ _) (or_f _ _)
set_option maxHeartbeats 400000 in
theorem sort_own {w : World} {base : Nat} {v : Value} {xs : List S49} (h : Kd.R k49 49 w base (fun _ => True) v xs) (hl : xs.length < 2 ^ 40) :
  Calls Try.prog 58 #[v, .func (.func 59) #[] #[]] w fun e w' => e = .returned (.tuple #[]) ∧ Kd.R k49 49 w' base (fun _ => True) v (sortE xs) ∧ w.grownBy w' v.ownBlock := by
 rcases Nat.eq_zero_or_pos xs.length with h0 | h0
 ·have hx := List.eq_nil_of_length_eq_zero h0
  subst hx
  obtain ⟨A, c, rfl⟩ := Kd.R_slice h
  refine (AnyF.slices_SortFunc_none { sortLay with } A c (.func (.func 59) #[] #[]) w).mono ?_
  rintro e w' ⟨he, rfl⟩
  exact ⟨he, by rw [show sortE [] = [] by simp [sortE]]; exact h, ⟨rfl, rfl, rfl, Nat.le_refl _, fun _ _ _ => rfl⟩⟩
 ·obtain ⟨g, cap, rfl, hb, hg, _⟩ := Kd.R_form h h0
  obtain ⟨ho, hok⟩ := R_flat h
  obtain ⟨hH, _, _⟩ := holds_flat ho
  have hcon := AnyQ.slices_SortFunc_total sortLay 2 Try.isAgg49 Try.sizeOf49 encE encE_len (fun x v hv => by simp [encE] at hv; rcases hv with rfl | rfl <;> rfl) cmpS swoS 59 #[] g 0 cap xs.toArray w (enters_of Try.func59 (by kernel_rfl) rfl) (cmpLaysS g 0 _ w) hH hg (by simp; omega) totS
  have hcon' : Calls Try.prog 58 #[.slice (some ⟨g, 0, none⟩) xs.length cap, .func (.func 59) #[] #[]] w _ := hcon
  refine hcon'.mono ?_
  rintro e w' ⟨he, n, os, rfl⟩
  exact ⟨he, flat_R (sorted_flat os (sortE_len xs) ho) hok, grown_sorted os⟩

set_option maxHeartbeats 1000000 in
theorem freeOf_any (a0 : Int) (A1 : Option Addr) (c1 : Nat) (l1 : List S49) (w : World) (hr1 : Kd.C k49 w A1 l1.length l1) (hc1 : l1.length ≤ c1) (hl : l1.length < 2 ^ 40) :
  Calls Try.prog 39 #[.int .i64 a0, .slice A1 l1.length c1] w fun e w' => ∃ v0_ : Value, e = .returned (.agg #[.int .i64 a0, .slice A1 l1.length c1, v0_]) ∧ Kd.R k49 49 w' w.heap.size (fun _ => True) v0_ (sortE l1) ∧ Below w.heap.size w w' := by
 have HR1 := aM hr1
 have HC1 := aM hc1
 have HLEN := aM hl
 have HL : Aside0 (impl_Extent_57.f l1 = some l1) := ⟨by unfold impl_Extent_57.f; rw [if_pos (by omega)]⟩
 have HB := aM (Below.refl w.heap.size w)
 clear hr1 hc1 hl
 go_enter Try.func39, Try.ntmps39
 go_wp2_with (first | ((with_reducible refine gate_dst (N := 4) rfl ?_); refine box_event ?hg (N := 4) ?hd (cs := #[.int .i64 0, .slice none 0 0, .slice none 0 0]) (t := 24) ?hr ?_; (case hd => rfl); (case hg => rfl); (case hr => first | (go_simp; done) | (go_simp; rfl)); intro gb1 hg w_2 hbox hb; have n_HB := aM (zT (zH HB.out) hb); have n_GE := aM ((by rw [hg]; exact (zZ (zH HB.out))) : w.heap.size ≤ gb1); clear HB; have HB := n_HB; clear n_HB; have BKgb1 := aM hbox; have GEgb1 := n_GE; clear n_GE; have hcq3_0 : w_2.cell? ⟨gb1, 0, none⟩ = some (.int .i64 0) := yc BKgb1.out 0; have hfq3_0 := yZ BKgb1.out 0; have hcq3_1 : w_2.cell? ⟨gb1, 1, none⟩ = some (.slice none 0 0) := yc BKgb1.out 1; have hfq3_1 := yZ BKgb1.out 1; have hcq3_2 : w_2.cell? ⟨gb1, 2, none⟩ = some (.slice none 0 0) := yc BKgb1.out 2; have hfq3_2 := yZ BKgb1.out 2; clear hbox hb hg) | (go_at_call 57; go_loud (refine (impl_Extent_57.calls _ c1 l1 _ _ ?s1 HC1.out HL.out).mono ?_); (case s1 => exact (cB HR1.out (zH HB.out))); rintro e w_4 ⟨v5, rfl, ho6, hb⟩; have n_BKgb1 := aM (yB (g := gb1) (o := (.cells #[.int .i64 0, .slice none 0 0, .slice none 0 0] 24 (0, 0))) (yH BKgb1.out) hb); have n_HB := aM (zT (zH HB.out) hb); have n_HOho6 := aM (xL ho6 (zZ (zH HB.out))); clear BKgb1 HB; have BKgb1 := n_BKgb1; have HB := n_HB; clear n_BKgb1 n_HB; have HOho6 := n_HOho6; clear n_HOho6 ho6; clear hb; obtain ⟨Aov5, cov5, eov5⟩ := Kd.R_slice HOho6.out; subst eov5; have hcq7_0 : w_4.cell? ⟨gb1, 0, none⟩ = some (.int .i64 0) := yc BKgb1.out 0; have hfq7_0 := yZ BKgb1.out 0; have hcq7_1 : w_4.cell? ⟨gb1, 1, none⟩ = some (.slice none 0 0) := yc BKgb1.out 1; have hfq7_1 := yZ BKgb1.out 1; have hcq7_2 : w_4.cell? ⟨gb1, 2, none⟩ = some (.slice none 0 0) := yc BKgb1.out 2; have hfq7_2 := yZ BKgb1.out 2) | (go_at_call 58; go_loud (refine (sort_own HOho6.out HLEN.out).mono ?_); rintro e w_8 ⟨rfl, hso, hsg⟩; have n_1 := aM hso; have n_2 := aM (blk_grown (g := gb1) (o := (.cells #[.int .i64 0, .slice none 0 0, .slice none 0 0] 24 (0, 0))) (yH BKgb1.out) hsg (Kd.R_ne HOho6.out BKgb1.out (by decide))); have n_3 := aM (HB.out.grown hsg (zZ (zH HB.out)) (fun j_ hj_ => Kd.R_base HOho6.out j_ hj_)); clear HOho6 BKgb1 HB hso hsg; have HOho6 := n_1; have BKgb1 := n_2; have HB := n_3; clear n_1 n_2 n_3; have hcq9_0 : w_8.cell? ⟨gb1, 0, none⟩ = some (.int .i64 0) := yc BKgb1.out 0; have hfq9_0 := yZ BKgb1.out 0; have hcq9_1 : w_8.cell? ⟨gb1, 1, none⟩ = some (.slice none 0 0) := yc BKgb1.out 1; have hfq9_1 := yZ BKgb1.out 1; have hcq9_2 : w_8.cell? ⟨gb1, 2, none⟩ = some (.slice none 0 0) := yc BKgb1.out 2; have hfq9_2 := yZ BKgb1.out 2))
 refine bodyPost_ret (results_cell_row rfl _ _ gb1 24 #[.int .i64 a0, .slice A1 l1.length c1, .slice Aov5 l1.length cov5] (0, 0) _ rfl (by (with_reducible repeat (first | refine yN ?_ _ | refine yD ?_ | refine yA ?_ _)); refine yP (cs := #[.int .i64 a0, .slice A1 l1.length c1, .slice none 0 0]) ?_ 2 _ rfl; (with_reducible repeat (first | refine yN ?_ _ | refine yD ?_ | refine yA ?_ _)); refine yP (cs := #[.int .i64 a0, .slice none 0 0, .slice none 0 0]) ?_ 1 _ rfl; (with_reducible repeat (first | refine yN ?_ _ | refine yD ?_ | refine yA ?_ _)); refine yP (cs := #[.int .i64 0, .slice none 0 0, .slice none 0 0]) ?_ 0 _ rfl; (with_reducible repeat (first | refine yN ?_ _ | refine yD ?_ | refine yA ?_ _)); exact BKgb1.out) Try.underlying24 rfl (by kernel_rfl)) rfl ?_
 exact ⟨_, rfl, xH (xM (xF (p := ⟨gb1, 2, none⟩) (xF (p := ⟨gb1, 1, none⟩) (xF (p := ⟨gb1, 0, none⟩) (xT HOho6.out BKgb1.out (by decide)) (fun _ hk => hk.2) (.int .i64 a0)) (fun _ hk => hk.2) (.slice A1 l1.length c1)) (fun _ hk => hk.2) (.slice Aov5 l1.length cov5)) (fun _ hk => trivial)), zH HB.out⟩
def leE (x y : S49) : Bool := decide (x.f1 < y.f1 ∨ x.f1 = y.f1 ∧ x.f0 ≤ y.f0)
theorem sortE_eq (l : List S49) : sortE l = l.mergeSort leE := by
 unfold sortE
 congr 1
 funext x y
 rw [lt_cmpS, ← decide_not]
 unfold leE
 rw [decide_eq_decide]
 omega
theorem field_by (W : World) (a : Int) (v1 v2 : Value) : (Instr.field 24 (.agg #[.int .i64 a, v1, v2]) 2).run Try.prog W = .ok v2 W := by
 simp [Instr.field, Try.isAgg22, Try.sizeOf22, asAgg, go_sem]
end
def impl_freeOf.f (a0 : Int) (l1 : List (S49)) : Option ((List (S49))) :=
 if l1.length < 1099511627776 then some (sortE l1) else none
theorem impl_freeOf.calls (a0 : Int) (A1 : Option Addr) (c1 : Nat) (l1 : List S49) (r : List S49) (w : World) (hr1 : Kd.C k49 w A1 l1.length l1) (hc1 : l1.length ≤ c1) (h : impl_freeOf.f a0 l1 = some r) :
  Calls Try.prog 39 #[.int .i64 a0, .slice A1 l1.length c1] w fun e w' => ∃ v0_ : Value, e = .returned (.agg #[.int .i64 a0, .slice A1 l1.length c1, v0_]) ∧ Kd.R k49 49 w' w.heap.size (fun _ => True) v0_ r ∧ Below w.heap.size w w' := by
 unfold impl_freeOf.f at h
 split at h
 ·rename_i hl
  obtain rfl := Option.some.inj h
  exact freeOf_any a0 A1 c1 l1 w hr1 hc1 hl
 ·cases h


/-! ### impl_isExtent: function 45 -/
def impl_isExtent.f (a0_0 : Int) (a0_1 : Int) (a1 : Int) : Option (Bool) := (impl_within.f a0_0 0 (wrap64 (a1 - 1))).bind fun t301 => (if t301 = true then ((impl_within.f a0_1 1 (wrap64 (a1 - a0_0))).bind fun t302 => (some t302)) else (some false))
set_option maxHeartbeats 8000000 in
set_option maxRecDepth 100000 in
theorem impl_isExtent.calls (a0_0 : Int) (a0_1 : Int) (a1 : Int) (r : Bool) (w : World) (h : impl_isExtent.f a0_0 a0_1 a1 = some r) :
  Calls Try.prog 45 #[.agg #[.int .i64 a0_0, .int .i64 a0_1], .int .i64 a1] w fun e w' => e = .returned (.bool r) ∧ Below w.heap.size w w' := by
 have hu49 := Try.underlying49
 have HB := aM (Below.refl w.heap.size w)
 have H : ((impl_within.f a0_0 0 (wrap64 (a1 - 1))).bind fun t301 => (if t301 = true then ((impl_within.f a0_1 1 (wrap64 (a1 - a0_0))).bind fun t302 => (some t302)) else (some false))) = some r := h
 clear h
 replace H := Option.bind_eq_some_iff.mp H
 obtain ⟨t301, A30, H⟩ := H
 replace H : (if t301 = true then ((impl_within.f a0_1 1 (wrap64 (a1 - a0_0))).bind fun t302 => (some t302)) else (some false)) = some r := H
 have A3 := aM A30
 clear A30
 by_cases c4 : t301 = true
 ·subst c4
  have H1 : ((impl_within.f a0_1 1 (wrap64 (a1 - a0_0))).bind fun t302 => (some t302)) = some r := by rw [if_pos rfl] at H; exact H
  clear H
  have H := H1
  clear H1
  replace H := Option.bind_eq_some_iff.mp H
  obtain ⟨t302, A50, H⟩ := H
  replace H : (some t302) = some r := H
  have A5 := aM A50
  clear A50
  obtain rfl := Option.some.inj H
  go_enter Try.func45, Try.ntmps45
  go_wp2_with (first | ((with_reducible refine gate_dst (N := 2) rfl ?_); refine box_event ?hg (N := 2) ?hd (cs := #[.int .i64 a0_0, .int .i64 a0_1]) (t := 49) ?hr ?_; (case hd => rfl); (case hg => rfl); (case hr => first | (go_simp; done) | (go_simp; rfl)); intro gb300 hg w6 hbox hb; have BK300 := aM (hbox); have GW300 := aM ((by rw [hg]; exact (zZ (zH HB.out)) : w.heap.size ≤ gb300)); have GE300 := aM ((by rw [hg]; exact (zZ (zH HB.out)) : w.heap.size ≤ gb300)); replace HB := aM (zT (zH HB.out) hb); clear hb hbox hg; have hcz7_0 : w6.cell? ⟨gb300, 0, none⟩ = some (.int .i64 a0_0) := yc BK300.out 0; have hcz7_1 : w6.cell? ⟨gb300, 1, none⟩ = some (.int .i64 a0_1) := yc BK300.out 1; have hfz7_0 := yZ BK300.out 0; have hfz7_1 := yZ BK300.out 1) | ((with_reducible refine gate_callee (f := 38) rfl ?_); refine goesL_ (some 9) rfl rfl Try.func38 (by kernel_rfl) rfl #[.int .i64 a0_0, .int .i64 0, .int .i64 (wrap64 (a1 - 1))] rfl (by (try simp only [List.map_toArray, List.map_cons, List.map_nil]); first | done | rfl | (simp only [List.length_drop, List.length_take]; rfl)) ?_; (with_reducible refine (impl_within.calls a0_0 0 (wrap64 (a1 - 1)) true _ A3.out).mono ?_); rintro e w' ⟨rfl, ⟨nd, rfl⟩⟩; refine ⟨_, rfl, ?_⟩) | (go_at_call 38; (with_reducible refine (impl_within.calls a0_1 1 (wrap64 (a1 - a0_0)) t302 _ A5.out).mono ?_); rintro e w' ⟨rfl, ⟨nd, rfl⟩⟩))
  go_ret
  exact ⟨by first | rfl | (simp [errW_none, errW_some] <;> rfl) | (simp [*, errW_none, errW_some] <;> rfl), zH HB.out⟩
 ·replace c4 := Bool.eq_false_iff.mpr c4
  subst c4
  have H1 : (some false) = some r := by rw [if_neg (show ¬ (false = true) by decide)] at H; exact H
  clear H
  have H := H1
  clear H1
  obtain rfl := Option.some.inj H
  go_enter Try.func45, Try.ntmps45
  go_wp2_with (first | ((with_reducible refine gate_dst (N := 2) rfl ?_); refine box_event ?hg (N := 2) ?hd (cs := #[.int .i64 a0_0, .int .i64 a0_1]) (t := 49) ?hr ?_; (case hd => rfl); (case hg => rfl); (case hr => first | (go_simp; done) | (go_simp; rfl)); intro gb300 hg w8 hbox hb; have BK300 := aM (hbox); have GW300 := aM ((by rw [hg]; exact (zZ (zH HB.out)) : w.heap.size ≤ gb300)); have GE300 := aM ((by rw [hg]; exact (zZ (zH HB.out)) : w.heap.size ≤ gb300)); replace HB := aM (zT (zH HB.out) hb); clear hb hbox hg; have hcz9_0 : w8.cell? ⟨gb300, 0, none⟩ = some (.int .i64 a0_0) := yc BK300.out 0; have hcz9_1 : w8.cell? ⟨gb300, 1, none⟩ = some (.int .i64 a0_1) := yc BK300.out 1; have hfz9_0 := yZ BK300.out 0; have hfz9_1 := yZ BK300.out 1) | ((with_reducible refine gate_callee (f := 38) rfl ?_); refine goesL_ (some 9) rfl rfl Try.func38 (by kernel_rfl) rfl #[.int .i64 a0_0, .int .i64 0, .int .i64 (wrap64 (a1 - 1))] rfl (by (try simp only [List.map_toArray, List.map_cons, List.map_nil]); first | done | rfl | (simp only [List.length_drop, List.length_take]; rfl)) ?_; (with_reducible refine (impl_within.calls a0_0 0 (wrap64 (a1 - 1)) false _ A3.out).mono ?_); rintro e w' ⟨rfl, ⟨nd, rfl⟩⟩; refine ⟨_, rfl, ?_⟩))
  go_ret
  exact ⟨by first | rfl | (simp [errW_none, errW_some] <;> rfl) | (simp [*, errW_none, errW_some] <;> rfl), zH HB.out⟩

end Go.Proofs.Ytfhfaeeokibhaaa.PFnExactTakeRoom
