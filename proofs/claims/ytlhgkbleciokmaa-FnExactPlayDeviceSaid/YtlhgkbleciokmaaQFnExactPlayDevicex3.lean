/- The walks of FnExactPlayDevice: Go's calls come to what the Lean functions beside them say; no condition. -/
import Derived.Test.YtlhgkbleciokmaaQFnExactPlayDevicex0
import Derived.Test.YtlhgkbleciokmaaQFnExactPlayDevicex2
namespace Go.Proofs.Ytlhgkbleciokmaa.PFnExactPlayDevice
open Go.RowKit Go.Proofs.YtlhgkbleciokmaaW.PrintWords Go.Proofs.YtlhgkbleciokmaaW.PrintLast Go.Proofs.YtlhgkbleciokmaaW.PrintMore
attribute [local go_sem] max2_int min2_int max_two min_two max_three min_three max_four min_four   -- for this text's walks alone
set_option linter.unusedVariables false
set_option linter.unusedSimpArgs false
set_option maxRecDepth 100000

/-! ### laws_szWriteS: function 37 -/
def laws_szWriteS.l0 : Nat → List (S38) → Int → Int → Option (Int)
 | 0, _, _, _ => none
 | k + 1, x0, x1, x5 => if x5 < (x0.length : Int) then (if 0 ≤ x5 then ((laws_szWrite.f ((rd_T38 x0 x5).f0) ((rd_T38 x0 x5).f1) x1).bind fun t135 => (if t135 < 0 then (some (-1)) else (laws_szWriteS.l0 k x0 t135 (wrap64 (x5 + 1))))) else (none)) else (some x1)
def laws_szWriteS.f (k : Nat) (l0 : List (S38)) (a1 : Int) : Option (Int) := if (wrap64 (a1 - (l0.length : Int))) < 0 then (some (-1)) else (laws_szWriteS.l0 k l0 (wrap64 (a1 - (l0.length : Int))) 0)
theorem laws_szWriteS.mono_l : ∀ k, (∀ y0 y1 y2, LeO (laws_szWriteS.l0 k y0 y1 y2) (laws_szWriteS.l0 (k + 1) y0 y1 y2))
 | 0 => fun _ _ _ r h => by change none = some r at h; cases h
 | k + 1 => by
  have ih0 := laws_szWriteS.mono_l k
  ·intro y0 y1 y2
   unfold laws_szWriteS.l0
   repeat' first
   | (with_reducible exact ih0 _ _ _)
   | (with_reducible exact LeO.refl _)
   | (with_reducible exact LeO.none _)
   | (with_reducible refine LeO.ite ?_ ?_)
   | (with_reducible refine LeO.bind ?_ (fun _ => ?_))
   | exact ih0 _ _ _
   | exact LeO.none _
   | refine LeO.ite ?_ ?_
   | refine LeO.bind ?_ (fun _ => ?_)
theorem laws_szWriteS.mono : ∀ a0 a1 k, LeO (laws_szWriteS.f k a0 a1) (laws_szWriteS.f (k + 1) a0 a1) := by
 intro a0 a1 k
 have ih0 := laws_szWriteS.mono_l k
 unfold laws_szWriteS.f
 repeat' first
   | (with_reducible exact ih0 _ _ _)
   | (with_reducible exact LeO.refl _)
   | (with_reducible exact LeO.none _)
   | (with_reducible refine LeO.ite ?_ ?_)
   | (with_reducible refine LeO.bind ?_ (fun _ => ?_))
   | exact ih0 _ _ _
   | exact LeO.none _
   | refine LeO.ite ?_ ?_
   | refine LeO.bind ?_ (fun _ => ?_)
set_option maxHeartbeats 8000000 in
set_option maxRecDepth 100000 in
theorem laws_szWriteS.calls (k : Nat) (A0 : Option Addr) (c0 : Nat) (l0 : List (S38)) (a1 : Int) (r : Int) (w : World) (hr0 : Kd.C k38 w A0 l0.length l0) (hc0 : l0.length ≤ c0) (h : laws_szWriteS.f k l0 a1 = some r) :
  Calls Try.prog 37 #[.slice A0 l0.length c0, .int .i64 a1] w fun e w' => e = .returned (.int .i64 r) ∧ Below w.heap.size w w' := by
 have hu38 := Try.underlying38
 have HR0 := aM hr0
 have HC0 := aM hc0
 clear hr0 hc0
 have HB := aM (Below.refl w.heap.size w)
 have H : (if (wrap64 (a1 - (l0.length : Int))) < 0 then (some (-1)) else (laws_szWriteS.l0 k l0 (wrap64 (a1 - (l0.length : Int))) 0)) = some r := h
 clear h
 by_cases c3 : (wrap64 (a1 - (l0.length : Int))) < 0
 ·rw [if_pos c3] at H
  have c3b0 : decide ((wrap64 (a1 - (l0.length : Int))) < 0) = true := decide_eq_true c3
  clear c3
  obtain rfl := Option.some.inj H
  go_enter Try.func37, Try.ntmps37
  go_wp2
  go_ret
  exact ⟨by first | rfl | (simp [errW_none, errW_some] <;> rfl) | (simp [*, errW_none, errW_some] <;> rfl), zH HB.out⟩
 ·rw [if_neg c3] at H
  have c3b0 : decide ((wrap64 (a1 - (l0.length : Int))) < 0) = false := decide_eq_false c3
  clear c3
  have H' := aM H
  clear H
  go_enter Try.func37, Try.ntmps37
  go_wp2
  go_loopg [1, 5] k (fun kq v1 v5 w' => ∃ (x1_1 : Int) (x5_1 : Int), v1 = .int .i64 x1_1 ∧ v5 = .int .i64 x5_1 ∧ Aside0 (laws_szWriteS.l0 kq l0 x1_1 x5_1 = some r) ∧ Aside0 (kq ≤ k) ∧ Aside0 (Below w.heap.size w w'))
  case atStart => exact ⟨(wrap64 (a1 - (l0.length : Int))), (0), (by first | rfl | (simp; done) | (simp [*]; done)), (by first | rfl | (simp; done) | (simp [*]; done)), H', ⟨Nat.le_refl _⟩, ⟨zH HB.out⟩⟩
  case round =>
   clear H'
   (try clear p2); (try clear c3); (try clear c3b0)
   obtain ⟨x1_1, x5_1, rfl, rfl, HA, HK1, HB⟩ := hrel
   cases gk with
   | zero => exact absurd HA.out (fun h_ => by change none = some _ at h_; cases h_)
   | succ k1 =>
    have H := HA.out
    clear HA
    simp only [laws_szWriteS.l0] at H
    by_cases c4 : x5_1 < (l0.length : Int)
    ·rw [if_pos c4] at H
     have c4b0 : decide (x5_1 < (l0.length : Int)) = true := decide_eq_true c4
     clear c4
     by_cases c5 : 0 ≤ x5_1
     ·rw [if_pos c5] at H
      have c5b0 : decide (0 ≤ x5_1) = true := decide_eq_true c5
      clear c5
      replace H := Option.bind_eq_some_iff.mp H
      obtain ⟨t135, A60, H⟩ := H
      replace H : (if t135 < 0 then (some (-1)) else (laws_szWriteS.l0 k1 l0 t135 (wrap64 (x5_1 + 1)))) = some r := H
      have A6 := aM A60
      clear A60
      by_cases c7 : t135 < 0
      ·rw [if_pos c7] at H
       have c7b0 : decide (t135 < 0) = true := decide_eq_true c7
       clear c7
       obtain rfl := Option.some.inj H
       have p134 : 0 ≤ (x5_1 : Int) := of_decide_eq_true (by first | (with_reducible assumption) | assumption)
       have q134 : x5_1 < (l0.length : Int) := of_decide_eq_true (by first | (with_reducible assumption) | assumption)
       obtain ⟨ad134, e134, hx134_0, hx134_1⟩ := at_T38 HR0.out x5_1 p134 q134
       cases e134
       replace hx134_0 := (HB.out.cell (World.block_lt_of_cell? w _ hx134_0)).trans hx134_0
       replace hx134_1 := (HB.out.cell (World.block_lt_of_cell? w _ hx134_1)).trans hx134_1
       replace p134 := eq_true p134
       replace q134 := eq_true q134
       go_wp2_with (first | ((with_reducible refine gate_callee (f := 22) rfl ?_); refine goesL_ (some 23) rfl rfl Try.func22 (by kernel_rfl) rfl #[.agg #[.int .i64 ((rd_T38 l0 x5_1).f0), .string ((rd_T38 l0 x5_1).f1)], .int .i64 x1_1] rfl (by (try simp only [List.map_toArray, List.map_cons, List.map_nil]); first | done | rfl | (simp only [List.length_drop, List.length_take]; rfl)) ?_; (with_reducible refine (laws_szWrite.calls ((rd_T38 l0 x5_1).f0) ((rd_T38 l0 x5_1).f1) x1_1 t135 _ A6.out).mono ?_); rintro e w8 ⟨rfl, hb⟩; refine ⟨_, rfl, ?_⟩; replace HB := aM (zT (zH HB.out) hb); (try clear hb)))
       go_ret
       exact ⟨by first | rfl | (simp [errW_none, errW_some] <;> rfl) | (simp [*, errW_none, errW_some] <;> rfl), zH HB.out⟩
      ·rw [if_neg c7] at H
       have c7b0 : decide (t135 < 0) = false := decide_eq_false c7
       clear c7
       have H' := aM H
       clear H
       have p134 : 0 ≤ (x5_1 : Int) := of_decide_eq_true (by first | (with_reducible assumption) | assumption)
       have q134 : x5_1 < (l0.length : Int) := of_decide_eq_true (by first | (with_reducible assumption) | assumption)
       obtain ⟨ad134, e134, hx134_0, hx134_1⟩ := at_T38 HR0.out x5_1 p134 q134
       cases e134
       replace hx134_0 := (HB.out.cell (World.block_lt_of_cell? w _ hx134_0)).trans hx134_0
       replace hx134_1 := (HB.out.cell (World.block_lt_of_cell? w _ hx134_1)).trans hx134_1
       replace p134 := eq_true p134
       replace q134 := eq_true q134
       go_wp2_with (first | ((with_reducible refine gate_callee (f := 22) rfl ?_); refine goesL_ (some 23) rfl rfl Try.func22 (by kernel_rfl) rfl #[.agg #[.int .i64 ((rd_T38 l0 x5_1).f0), .string ((rd_T38 l0 x5_1).f1)], .int .i64 x1_1] rfl (by (try simp only [List.map_toArray, List.map_cons, List.map_nil]); first | done | rfl | (simp only [List.length_drop, List.length_take]; rfl)) ?_; (with_reducible refine (laws_szWrite.calls ((rd_T38 l0 x5_1).f0) ((rd_T38 l0 x5_1).f1) x1_1 t135 _ A6.out).mono ?_); rintro e w9 ⟨rfl, hb⟩; refine ⟨_, rfl, ?_⟩; replace HB := aM (zT (zH HB.out) hb); (try clear hb)))
       go_roundg k1
       case measure => have := HK1.out; omega
       case rel => exact ⟨(t135), (wrap64 (x5_1 + 1)), (by first | rfl | (simp; done) | (simp [*]; done)), (by first | rfl | (simp; done) | (simp [*]; done)), H', ⟨by have := HK1.out; omega⟩, ⟨zH HB.out⟩⟩
     ·rw [if_neg c5] at H
      exact absurd H (by simp)
    ·rw [if_neg c4] at H
     have c4b0 : decide (x5_1 < (l0.length : Int)) = false := decide_eq_false c4
     clear c4
     obtain rfl := Option.some.inj H
     go_wp2
     go_ret
     exact ⟨by first | rfl | (simp [errW_none, errW_some] <;> rfl) | (simp [*, errW_none, errW_some] <;> rfl), zH HB.out⟩

/-! ### spec_l1In: function 53 -/
def spec_l1In.f (a0 : Int) (a1 : Int) (a2 : Int) : Option (Bool) := if a0 ≥ a1 then (some (decide (a0 ≤ a2))) else (some false)
set_option maxHeartbeats 8000000 in
set_option maxRecDepth 100000 in
theorem spec_l1In.calls (a0 : Int) (a1 : Int) (a2 : Int) (r : Bool) (w : World) (h : spec_l1In.f a0 a1 a2 = some r) :
  Calls Try.prog 53 #[.int .i64 a0, .int .i64 a1, .int .i64 a2] w fun e w' => e = .returned (.bool r) ∧ Drawn0 w w' := by
 have H : (if a0 ≥ a1 then (some (decide (a0 ≤ a2))) else (some false)) = some r := h
 clear h
 by_cases c4 : a0 ≥ a1
 ·rw [if_pos c4] at H
  have c4b0 : decide (a1 ≤ a0) = true := decide_eq_true c4
  clear c4
  obtain rfl := Option.some.inj H
  go_enter Try.func53, Try.ntmps53
  go_wp2
  go_ret
  exact ⟨by first | rfl | (simp; done) | (simp [*]; done), by repeat (first | exact Drawn0.refl _ | apply Drawn0.step)⟩
 ·rw [if_neg c4] at H
  have c4b0 : decide (a1 ≤ a0) = false := decide_eq_false c4
  clear c4
  obtain rfl := Option.some.inj H
  go_enter Try.func53, Try.ntmps53
  go_wp2
  go_ret
  exact ⟨by first | rfl | (simp; done) | (simp [*]; done), by repeat (first | exact Drawn0.refl _ | apply Drawn0.step)⟩

/-! ### spec_l1Write: function 52 -/
def spec_l1Write.f (a0_0 : Int) (a0_1 : ByteArray) (a1 : Int) : Option (Bool) := (spec_l1In.f a0_0 0 (wrap64 (a1 - 1))).bind fun t137 => (if t137 = true then (some ((a0_1.size : Int) == 8)) else (some false))
set_option maxHeartbeats 8000000 in
set_option maxRecDepth 100000 in
theorem spec_l1Write.calls (a0_0 : Int) (a0_1 : ByteArray) (a1 : Int) (r : Bool) (w : World) (h : spec_l1Write.f a0_0 a0_1 a1 = some r) :
  Calls Try.prog 52 #[.agg #[.int .i64 a0_0, .string a0_1], .int .i64 a1] w fun e w' => e = .returned (.bool r) ∧ Below w.heap.size w w' := by
 have hu42 := Try.underlying42
 have HB := aM (Below.refl w.heap.size w)
 have H : ((spec_l1In.f a0_0 0 (wrap64 (a1 - 1))).bind fun t137 => (if t137 = true then (some ((a0_1.size : Int) == 8)) else (some false))) = some r := h
 clear h
 replace H := Option.bind_eq_some_iff.mp H
 obtain ⟨t137, A30, H⟩ := H
 replace H : (if t137 = true then (some ((a0_1.size : Int) == 8)) else (some false)) = some r := H
 have A3 := aM A30
 clear A30
 by_cases c4 : t137 = true
 ·subst c4
  have H1 : (some ((a0_1.size : Int) == 8)) = some r := by rw [if_pos rfl] at H; exact H
  clear H
  have H := H1
  clear H1
  obtain rfl := Option.some.inj H
  go_enter Try.func52, Try.ntmps52
  go_wp2_with (first | ((with_reducible refine gate_dst (N := 2) rfl ?_); (try (refine gate_guard (by rfl) ?_; dsimp only)); refine box_event ?hg (N := 2) ?hd (cs := #[.int .i64 a0_0, .string a0_1]) (t := 42) ?hr ?_; (case hd => rfl); (case hg => rfl); (case hr => first | (go_simp; done) | (go_simp; rfl)); intro gb136 hg w5 hbox hb; have BK136 := aM (hbox); have GW136 := aM ((by rw [hg]; exact (zZ (zH HB.out)) : w.heap.size ≤ gb136)); have GE136 := aM ((by rw [hg]; exact (zZ (zH HB.out)) : w.heap.size ≤ gb136)); replace HB := aM (zT (zH HB.out) hb); clear hb hbox hg; have hcz6_0 : w5.cell? ⟨gb136, 0, none⟩ = some (.int .i64 a0_0) := yc BK136.out 0; have hcz6_1 : w5.cell? ⟨gb136, 1, none⟩ = some (.string a0_1) := yc BK136.out 1; have hfz6_0 := yZ BK136.out 0; have hfz6_1 := yZ BK136.out 1) | ((with_reducible refine gate_callee (f := 53) rfl ?_); refine goesL_ (some 9) rfl rfl Try.func53 (by kernel_rfl) rfl #[.int .i64 a0_0, .int .i64 0, .int .i64 (wrap64 (a1 - 1))] rfl (by (try simp only [List.map_toArray, List.map_cons, List.map_nil]); first | done | rfl | (simp only [List.length_drop, List.length_take]; rfl)) ?_; (with_reducible refine (spec_l1In.calls a0_0 0 (wrap64 (a1 - 1)) true _ A3.out).mono ?_); rintro e w' ⟨rfl, ⟨nd, rfl⟩⟩; refine ⟨_, rfl, ?_⟩))
  go_ret
  exact ⟨by first | rfl | (simp [errW_none, errW_some] <;> rfl) | (simp [*, errW_none, errW_some] <;> rfl), zH HB.out⟩
 ·replace c4 := Bool.eq_false_iff.mpr c4
  subst c4
  have H1 : (some false) = some r := by rw [if_neg (show ¬ (false = true) by decide)] at H; exact H
  clear H
  have H := H1
  clear H1
  obtain rfl := Option.some.inj H
  go_enter Try.func52, Try.ntmps52
  go_wp2_with (first | ((with_reducible refine gate_dst (N := 2) rfl ?_); (try (refine gate_guard (by rfl) ?_; dsimp only)); refine box_event ?hg (N := 2) ?hd (cs := #[.int .i64 a0_0, .string a0_1]) (t := 42) ?hr ?_; (case hd => rfl); (case hg => rfl); (case hr => first | (go_simp; done) | (go_simp; rfl)); intro gb136 hg w7 hbox hb; have BK136 := aM (hbox); have GW136 := aM ((by rw [hg]; exact (zZ (zH HB.out)) : w.heap.size ≤ gb136)); have GE136 := aM ((by rw [hg]; exact (zZ (zH HB.out)) : w.heap.size ≤ gb136)); replace HB := aM (zT (zH HB.out) hb); clear hb hbox hg; have hcz8_0 : w7.cell? ⟨gb136, 0, none⟩ = some (.int .i64 a0_0) := yc BK136.out 0; have hcz8_1 : w7.cell? ⟨gb136, 1, none⟩ = some (.string a0_1) := yc BK136.out 1; have hfz8_0 := yZ BK136.out 0; have hfz8_1 := yZ BK136.out 1) | ((with_reducible refine gate_callee (f := 53) rfl ?_); refine goesL_ (some 9) rfl rfl Try.func53 (by kernel_rfl) rfl #[.int .i64 a0_0, .int .i64 0, .int .i64 (wrap64 (a1 - 1))] rfl (by (try simp only [List.map_toArray, List.map_cons, List.map_nil]); first | done | rfl | (simp only [List.length_drop, List.length_take]; rfl)) ?_; (with_reducible refine (spec_l1In.calls a0_0 0 (wrap64 (a1 - 1)) false _ A3.out).mono ?_); rintro e w' ⟨rfl, ⟨nd, rfl⟩⟩; refine ⟨_, rfl, ?_⟩))
  go_ret
  exact ⟨by first | rfl | (simp [errW_none, errW_some] <;> rfl) | (simp [*, errW_none, errW_some] <;> rfl), zH HB.out⟩

/-! ### spec_GoodDevice: function 14 -/
mutual
def spec_GoodDevice.l0 : Nat → List ByteArray → Int → Int → List ByteArray → List (S42) → Option (Bool)
 | 0, _, _, _, _, _ => none
 | k + 1, x8, x9, x10, x139000, x139001 => if x10 < x9 then (if 0 ≤ x10 then (if x10 < (x8.length : Int) then (if ((rdOf ByteArray.empty x8 x10).size : Int) = 8 then (spec_GoodDevice.l0 k x8 x9 (wrap64 (x10 + 1)) x139000 x139001) else (some false)) else (none)) else (none)) else (spec_GoodDevice.l1 k x139001 (x139001.length : Int) 0 x139000 x139001)
def spec_GoodDevice.l1 : Nat → List (S42) → Int → Int → List ByteArray → List (S42) → Option (Bool)
 | 0, _, _, _, _, _ => none
 | k + 1, x19, x20, x21, x139000, x139001 => if x21 < x20 then (if 0 ≤ x21 then (if x21 < (x19.length : Int) then ((spec_l1Write.f ((rd_T42 x19 x21).f0) ((rd_T42 x19 x21).f1) (x139000.length : Int)).bind fun t142 => (if t142 = true then (spec_GoodDevice.l1 k x19 x20 (wrap64 (x21 + 1)) x139000 x139001) else (some false))) else (none)) else (none)) else ((spec_l1In.f (x139000.length : Int) 1 32).bind fun t143 => (if t143 = true then (some (decide ((x139001.length : Int) ≤ 60))) else (some false)))
end
def spec_GoodDevice.f (k : Nat) (l0_0 : List ByteArray) (l0_1 : List (S42)) : Option (Bool) := spec_GoodDevice.l0 k l0_0 (l0_0.length : Int) 0 l0_0 l0_1
theorem spec_GoodDevice.mono_l : ∀ k, (∀ y0 y1 y2 y3 y4, LeO (spec_GoodDevice.l0 k y0 y1 y2 y3 y4) (spec_GoodDevice.l0 (k + 1) y0 y1 y2 y3 y4)) ∧ (∀ y0 y1 y2 y3 y4, LeO (spec_GoodDevice.l1 k y0 y1 y2 y3 y4) (spec_GoodDevice.l1 (k + 1) y0 y1 y2 y3 y4))
 | 0 => ⟨fun _ _ _ _ _ r h => by simp [spec_GoodDevice.l0] at h, fun _ _ _ _ _ r h => by simp [spec_GoodDevice.l1] at h⟩
 | k + 1 => by
  obtain ⟨ih0, ih1⟩ := spec_GoodDevice.mono_l k
  refine ⟨?_, ?_⟩
  ·intro y0 y1 y2 y3 y4
   unfold spec_GoodDevice.l0
   repeat' first
   | (with_reducible exact ih0 _ _ _ _ _)
   | (with_reducible exact ih1 _ _ _ _ _)
   | (with_reducible exact LeO.refl _)
   | (with_reducible exact LeO.none _)
   | (with_reducible refine LeO.ite ?_ ?_)
   | (with_reducible refine LeO.bind ?_ (fun _ => ?_))
   | exact ih0 _ _ _ _ _
   | exact ih1 _ _ _ _ _
   | exact LeO.none _
   | refine LeO.ite ?_ ?_
   | refine LeO.bind ?_ (fun _ => ?_)
  ·intro y0 y1 y2 y3 y4
   unfold spec_GoodDevice.l1
   repeat' first
   | (with_reducible exact ih0 _ _ _ _ _)
   | (with_reducible exact ih1 _ _ _ _ _)
   | (with_reducible exact LeO.refl _)
   | (with_reducible exact LeO.none _)
   | (with_reducible refine LeO.ite ?_ ?_)
   | (with_reducible refine LeO.bind ?_ (fun _ => ?_))
   | exact ih0 _ _ _ _ _
   | exact ih1 _ _ _ _ _
   | exact LeO.none _
   | refine LeO.ite ?_ ?_
   | refine LeO.bind ?_ (fun _ => ?_)
theorem spec_GoodDevice.mono : ∀ a0 a1 k, LeO (spec_GoodDevice.f k a0 a1) (spec_GoodDevice.f (k + 1) a0 a1) := by
 intro a0 a1 k
 obtain ⟨ih0, ih1⟩ := spec_GoodDevice.mono_l k
 unfold spec_GoodDevice.f
 repeat' first
   | (with_reducible exact ih0 _ _ _ _ _)
   | (with_reducible exact ih1 _ _ _ _ _)
   | (with_reducible exact LeO.refl _)
   | (with_reducible exact LeO.none _)
   | (with_reducible refine LeO.ite ?_ ?_)
   | (with_reducible refine LeO.bind ?_ (fun _ => ?_))
   | exact ih0 _ _ _ _ _
   | exact ih1 _ _ _ _ _
   | exact LeO.none _
   | refine LeO.ite ?_ ?_
   | refine LeO.bind ?_ (fun _ => ?_)
set_option maxHeartbeats 8000000 in
set_option maxRecDepth 100000 in
theorem spec_GoodDevice.calls (k : Nat) (A0_0 : Option Addr) (c0_0 : Nat) (l0_0 : List ByteArray) (A0_1 : Option Addr) (c0_1 : Nat) (l0_1 : List (S42)) (r : Bool) (w : World) (hr0_0 : Kd.C Kd.string w A0_0 l0_0.length l0_0) (hc0_0 : l0_0.length ≤ c0_0) (hr0_1 : Kd.C k42 w A0_1 l0_1.length l0_1) (hc0_1 : l0_1.length ≤ c0_1) (h : spec_GoodDevice.f k l0_0 l0_1 = some r) :
  Calls Try.prog 14 #[.agg #[.slice A0_0 l0_0.length c0_0, .slice A0_1 l0_1.length c0_1]] w fun e w' => e = .returned (.bool r) ∧ Below w.heap.size w w' := by
 have hu30 := Try.underlying30
 have hu42 := Try.underlying42
 have HR0_0 := aM hr0_0
 have HC0_0 := aM hc0_0
 clear hr0_0 hc0_0
 have HR0_1 := aM hr0_1
 have HC0_1 := aM hc0_1
 clear hr0_1 hc0_1
 have HB := aM (Below.refl w.heap.size w)
 have H : (spec_GoodDevice.l0 k l0_0 (l0_0.length : Int) 0 l0_0 l0_1) = some r := h
 clear h
 have H' := aM H
 clear H
 go_enter Try.func14, Try.ntmps14
 go_wp2_with (first | ((with_reducible refine gate_dst (N := 1) rfl ?_); (try (refine gate_guard (by rfl) ?_; dsimp only)); refine box_event ?hg (N := 1) ?hd (cs := #[.slice A0_0 l0_0.length c0_0, .slice A0_1 l0_1.length c0_1]) (t := 30) ?hr ?_; (case hd => rfl); (case hg => rfl); (case hr => first | (go_simp; done) | (go_simp; rfl)); intro gb138 hg w2 hbox hb; have BK138 := aM (hbox); have GW138 := aM ((by rw [hg]; exact (zZ (zH HB.out)) : w.heap.size ≤ gb138)); have GE138 := aM ((by rw [hg]; exact (zZ (zH HB.out)) : w.heap.size ≤ gb138)); replace HB := aM (zT (zH HB.out) hb); clear hb hbox hg; have hcz3_0 : w2.cell? ⟨gb138, 0, none⟩ = some (.slice A0_0 l0_0.length c0_0) := yc BK138.out 0; have hcz3_1 : w2.cell? ⟨gb138, 1, none⟩ = some (.slice A0_1 l0_1.length c0_1) := yc BK138.out 1; have hfz3_0 := yZ BK138.out 0; have hfz3_1 := yZ BK138.out 1))
 go_loopg [10] k (fun kq v10 w' => ∃ (x10_1 : Int), v10 = .int .i64 x10_1 ∧ Aside0 (spec_GoodDevice.l0 kq l0_0 (l0_0.length : Int) x10_1 l0_0 l0_1 = some r) ∧ Aside0 (kq ≤ k) ∧ Aside0 (w'.heap[gb138]? = some (.cells #[(.slice A0_0 l0_0.length c0_0), (.slice A0_1 l0_1.length c0_1)] 30 (0, 0))) ∧ Aside0 (Below w.heap.size w w'))
 case atStart => exact ⟨(0), (by first | rfl | (simp; done) | (simp [*]; done)), H', ⟨Nat.le_refl _⟩, ⟨yH BK138.out⟩, ⟨zH HB.out⟩⟩
 case round =>
  clear H'
  (try clear c1); (try clear p2); (try clear hcz3_0); (try clear hcz3_1); (try clear hfz3_0); (try clear hfz3_1)
  obtain ⟨x10_1, rfl, HA, HK1, BK138, HB⟩ := hrel
  cases gk with
  | zero => exact absurd HA.out (fun h_ => by change none = some _ at h_; cases h_)
  | succ k1 =>
   have H := HA.out
   clear HA
   simp only [spec_GoodDevice.l0] at H
   by_cases c4 : x10_1 < (l0_0.length : Int)
   ·rw [if_pos c4] at H
    have c4b0 : decide (x10_1 < (l0_0.length : Int)) = true := decide_eq_true c4
    clear c4
    by_cases c5 : 0 ≤ x10_1
    ·rw [if_pos c5] at H
     have c5b0 : decide (0 ≤ x10_1) = true := decide_eq_true c5
     clear c5
     by_cases c6 : x10_1 < (l0_0.length : Int)
     ·rw [if_pos c6] at H
      have c6b0 : decide (x10_1 < (l0_0.length : Int)) = true := decide_eq_true c6
      clear c6
      by_cases c7 : ((rdOf ByteArray.empty l0_0 x10_1).size : Int) = 8
      ·rw [if_pos c7] at H
       have c7b0 : (((rdOf ByteArray.empty l0_0 x10_1).size : Int) == 8) = true := beq_iff_eq.mpr c7
       have c7b1 : (((rdOf ByteArray.empty l0_0 x10_1).size : Int) != 8) = false := bne_eq_false_iff_eq.mpr c7
       clear c7
       have H' := aM H
       clear H
       have p139 : 0 ≤ (x10_1 : Int) := of_decide_eq_true (by first | (with_reducible assumption) | assumption)
       have q139 : x10_1 < (l0_0.length : Int) := of_decide_eq_true (by first | (with_reducible assumption) | assumption)
       obtain ⟨ad139, e139, hx139_0⟩ := Kd.at_string HR0_0.out x10_1 p139 q139
       cases e139
       replace hx139_0 := (HB.out.cell (World.block_lt_of_cell? w _ hx139_0)).trans hx139_0
       replace p139 := eq_true p139
       replace q139 := eq_true q139
       go_wp2
       go_roundg k1
       case measure => have := HK1.out; omega
       case rel => exact ⟨(wrap64 (x10_1 + 1)), (by first | rfl | (simp; done) | (simp [*]; done)), H', ⟨by have := HK1.out; omega⟩, ⟨yH BK138.out⟩, ⟨zH HB.out⟩⟩
      ·rw [if_neg c7] at H
       have c7b0 : (((rdOf ByteArray.empty l0_0 x10_1).size : Int) == 8) = false := beq_eq_false_iff_ne.mpr c7
       have c7b1 : (((rdOf ByteArray.empty l0_0 x10_1).size : Int) != 8) = true := bne_iff_ne.mpr c7
       obtain rfl := Option.some.inj H
       have p139 : 0 ≤ (x10_1 : Int) := of_decide_eq_true (by first | (with_reducible assumption) | assumption)
       have q139 : x10_1 < (l0_0.length : Int) := of_decide_eq_true (by first | (with_reducible assumption) | assumption)
       obtain ⟨ad139, e139, hx139_0⟩ := Kd.at_string HR0_0.out x10_1 p139 q139
       cases e139
       replace hx139_0 := (HB.out.cell (World.block_lt_of_cell? w _ hx139_0)).trans hx139_0
       replace p139 := eq_true p139
       replace q139 := eq_true q139
       go_wp2
       go_ret
       exact ⟨by first | rfl | (simp [errW_none, errW_some] <;> rfl) | (simp [*, errW_none, errW_some] <;> rfl), zH HB.out⟩
     ·rw [if_neg c6] at H
      exact absurd H (by simp)
    ·rw [if_neg c5] at H
     exact absurd H (by simp)
   ·rw [if_neg c4] at H
    have c4b0 : decide (x10_1 < (l0_0.length : Int)) = false := decide_eq_false c4
    clear c4
    have H' := aM H
    clear H
    have hcz8_0 : wr.cell? ⟨gb138, 0, none⟩ = some (.slice A0_0 l0_0.length c0_0) := yc BK138.out 0
    have hcz8_1 : wr.cell? ⟨gb138, 1, none⟩ = some (.slice A0_1 l0_1.length c0_1) := yc BK138.out 1
    have hfz8_0 := yZ BK138.out 0
    have hfz8_1 := yZ BK138.out 1
    go_wp2
    go_loopg [21] k1 (fun kq v21 w' => ∃ (x21_2 : Int), v21 = .int .i64 x21_2 ∧ Aside0 (spec_GoodDevice.l1 kq l0_1 (l0_1.length : Int) x21_2 l0_0 l0_1 = some r) ∧ Aside0 (kq ≤ k1) ∧ Aside0 (w'.heap[gb138]? = some (.cells #[(.slice A0_0 l0_0.length c0_0), (.slice A0_1 l0_1.length c0_1)] 30 (0, 0))) ∧ Aside0 (Below w.heap.size w w'))
    case atStart => exact ⟨(0), (by first | rfl | (simp; done) | (simp [*]; done)), H', ⟨Nat.le_refl _⟩, ⟨yH BK138.out⟩, ⟨zH HB.out⟩⟩
    case round =>
     clear H'
     (try clear c1); (try clear p1); (try clear q1); (try clear hx1); (try clear p2); (try clear c4); (try clear c4b0); (try clear c5); (try clear c5b0); (try clear c6); (try clear c6b0); (try clear p6); (try clear c7); (try clear c7b0); (try clear c7b1); (try clear hcz3_0); (try clear hcz3_1); (try clear hcz8_0); (try clear hcz8_1); (try clear hfz3_0); (try clear hfz3_1); (try clear hfz8_0); (try clear hfz8_1); (try clear hx139_0); (try clear p139); (try clear p2); (try clear q139)
     obtain ⟨x21_2, rfl, HA, HK2, BK138, HB⟩ := hrel
     cases gk with
     | zero => exact absurd HA.out (fun h_ => by change none = some _ at h_; cases h_)
     | succ k2 =>
      have H := HA.out
      clear HA
      simp only [spec_GoodDevice.l1] at H
      by_cases c9 : x21_2 < (l0_1.length : Int)
      ·rw [if_pos c9] at H
       have c9b0 : decide (x21_2 < (l0_1.length : Int)) = true := decide_eq_true c9
       clear c9
       by_cases c10 : 0 ≤ x21_2
       ·rw [if_pos c10] at H
        have c10b0 : decide (0 ≤ x21_2) = true := decide_eq_true c10
        clear c10
        by_cases c11 : x21_2 < (l0_1.length : Int)
        ·rw [if_pos c11] at H
         have c11b0 : decide (x21_2 < (l0_1.length : Int)) = true := decide_eq_true c11
         clear c11
         replace H := Option.bind_eq_some_iff.mp H
         obtain ⟨t142, A120, H⟩ := H
         replace H : (if t142 = true then (spec_GoodDevice.l1 k2 l0_1 (l0_1.length : Int) (wrap64 (x21_2 + 1)) l0_0 l0_1) else (some false)) = some r := H
         have A12 := aM A120
         clear A120
         by_cases c13 : t142 = true
         ·subst c13
          have H1 : (spec_GoodDevice.l1 k2 l0_1 (l0_1.length : Int) (wrap64 (x21_2 + 1)) l0_0 l0_1) = some r := by rw [if_pos rfl] at H; exact H
          clear H
          have H := H1
          clear H1
          have H' := aM H
          clear H
          have p140 : 0 ≤ (x21_2 : Int) := of_decide_eq_true (by first | (with_reducible assumption) | assumption)
          have q140 : x21_2 < (l0_1.length : Int) := of_decide_eq_true (by first | (with_reducible assumption) | assumption)
          obtain ⟨ad140, e140, hx140_0, hx140_1⟩ := at_T42 HR0_1.out x21_2 p140 q140
          cases e140
          replace hx140_0 := (HB.out.cell (World.block_lt_of_cell? w _ hx140_0)).trans hx140_0
          replace hx140_1 := (HB.out.cell (World.block_lt_of_cell? w _ hx140_1)).trans hx140_1
          replace p140 := eq_true p140
          replace q140 := eq_true q140
          go_wp2_with (first | ((with_reducible refine gate_dst (N := 6) rfl ?_); (try (refine gate_guard (by rfl) ?_; dsimp only)); refine box_event ?hg (N := 6) ?hd (cs := #[.int .i64 0, .string (⟨#[]⟩ : ByteArray)]) (t := 42) ?hr ?_; (case hd => rfl); (case hg => rfl); (case hr => first | (go_simp; done) | (go_simp; rfl)); intro gb141 hg w14 hbox hb; have BK141 := aM (hbox); have GW141 := aM ((by rw [hg]; exact (zZ (zH HB.out)) : w.heap.size ≤ gb141)); have GE141 := aM ((by rw [hg]; exact (zZ (zH HB.out)) : w.heap.size ≤ gb141)); replace HB := aM (zT (zH HB.out) hb); have NB138_141 := nL BK138.out hg; have NB141_138 := nR BK138.out hg; replace BK138 := yK BK138.out hb; clear hb hbox hg; have hnb15 := NB141_138.out; have hnc15 := NB138_141.out; have hcz16_0 : w14.cell? ⟨gb141, 0, none⟩ = some (.int .i64 0) := yc BK141.out 0; have hcz16_1 : w14.cell? ⟨gb141, 1, none⟩ = some (.string (⟨#[]⟩ : ByteArray)) := yc BK141.out 1; have hfz16_0 := yZ BK141.out 0; have hfz16_1 := yZ BK141.out 1; have hcz17_0 : w14.cell? ⟨gb138, 0, none⟩ = some (.slice A0_0 l0_0.length c0_0) := yc BK138.out 0; have hcz17_1 : w14.cell? ⟨gb138, 1, none⟩ = some (.slice (some ad140) l0_1.length c0_1) := yc BK138.out 1; have hfz17_0 := yZ BK138.out 0; have hfz17_1 := yZ BK138.out 1) | ((with_reducible refine gate_callee (f := 52) rfl ?_); refine goesL_ (some 29) rfl rfl Try.func52 (by kernel_rfl) rfl #[.agg #[.int .i64 ((rd_T42 l0_1 x21_2).f0), .string ((rd_T42 l0_1 x21_2).f1)], .int .i64 (l0_0.length : Int)] rfl (by (try simp only [List.map_toArray, List.map_cons, List.map_nil]); first | done | rfl | (simp only [List.length_drop, List.length_take]; rfl)) ?_; (with_reducible refine (spec_l1Write.calls ((rd_T42 l0_1 x21_2).f0) ((rd_T42 l0_1 x21_2).f1) (l0_0.length : Int) true _ A12.out).mono ?_); rintro e w18 ⟨rfl, hb⟩; refine ⟨_, rfl, ?_⟩; replace BK138 := aM (yB (g := gb138) (o := .cells #[.slice A0_0 l0_0.length c0_0, .slice (some ad140) l0_1.length c0_1] 30 (0, 0)) (by (with_reducible repeat (first | refine yN ?_ _ | refine yD ?_ | refine yA ?_ _)); refine yF ?_ NB138_141.out _; (with_reducible repeat (first | refine yN ?_ _ | refine yD ?_ | refine yA ?_ _)); refine yF ?_ NB138_141.out _; (with_reducible repeat (first | refine yN ?_ _ | refine yD ?_ | refine yA ?_ _)); exact BK138.out) hb); replace BK141 := aM (yB (g := gb141) (o := .cells #[.int .i64 ((rd_T42 l0_1 x21_2).f0), .string ((rd_T42 l0_1 x21_2).f1)] 42 (0, 0)) (by (with_reducible repeat (first | refine yN ?_ _ | refine yD ?_ | refine yA ?_ _)); refine yP (cs := #[.int .i64 ((rd_T42 l0_1 x21_2).f0), .string (⟨#[]⟩ : ByteArray)]) ?_ 1 _ rfl; (with_reducible repeat (first | refine yN ?_ _ | refine yD ?_ | refine yA ?_ _)); refine yP (cs := #[.int .i64 0, .string (⟨#[]⟩ : ByteArray)]) ?_ 0 _ rfl; (with_reducible repeat (first | refine yN ?_ _ | refine yD ?_ | refine yA ?_ _)); exact BK141.out) hb); replace HB := aM (zT (zH HB.out) hb); (try clear hb)))
          go_roundg k2
          case measure => have := HK1.out; have := HK2.out; omega
          case rel => exact ⟨(wrap64 (x21_2 + 1)), (by first | rfl | (simp; done) | (simp [*]; done)), H', ⟨by have := HK1.out; have := HK2.out; omega⟩, ⟨yH BK138.out⟩, ⟨zH HB.out⟩⟩
         ·replace c13 := Bool.eq_false_iff.mpr c13
          subst c13
          have H1 : (some false) = some r := by rw [if_neg (show ¬ (false = true) by decide)] at H; exact H
          clear H
          have H := H1
          clear H1
          obtain rfl := Option.some.inj H
          have p140 : 0 ≤ (x21_2 : Int) := of_decide_eq_true (by first | (with_reducible assumption) | assumption)
          have q140 : x21_2 < (l0_1.length : Int) := of_decide_eq_true (by first | (with_reducible assumption) | assumption)
          obtain ⟨ad140, e140, hx140_0, hx140_1⟩ := at_T42 HR0_1.out x21_2 p140 q140
          cases e140
          replace hx140_0 := (HB.out.cell (World.block_lt_of_cell? w _ hx140_0)).trans hx140_0
          replace hx140_1 := (HB.out.cell (World.block_lt_of_cell? w _ hx140_1)).trans hx140_1
          replace p140 := eq_true p140
          replace q140 := eq_true q140
          go_wp2_with (first | ((with_reducible refine gate_dst (N := 6) rfl ?_); (try (refine gate_guard (by rfl) ?_; dsimp only)); refine box_event ?hg (N := 6) ?hd (cs := #[.int .i64 0, .string (⟨#[]⟩ : ByteArray)]) (t := 42) ?hr ?_; (case hd => rfl); (case hg => rfl); (case hr => first | (go_simp; done) | (go_simp; rfl)); intro gb141 hg w19 hbox hb; have BK141 := aM (hbox); have GW141 := aM ((by rw [hg]; exact (zZ (zH HB.out)) : w.heap.size ≤ gb141)); have GE141 := aM ((by rw [hg]; exact (zZ (zH HB.out)) : w.heap.size ≤ gb141)); replace HB := aM (zT (zH HB.out) hb); have NB138_141 := nL BK138.out hg; have NB141_138 := nR BK138.out hg; replace BK138 := yK BK138.out hb; clear hb hbox hg; have hnb20 := NB141_138.out; have hnc20 := NB138_141.out; have hcz21_0 : w19.cell? ⟨gb141, 0, none⟩ = some (.int .i64 0) := yc BK141.out 0; have hcz21_1 : w19.cell? ⟨gb141, 1, none⟩ = some (.string (⟨#[]⟩ : ByteArray)) := yc BK141.out 1; have hfz21_0 := yZ BK141.out 0; have hfz21_1 := yZ BK141.out 1; have hcz22_0 : w19.cell? ⟨gb138, 0, none⟩ = some (.slice A0_0 l0_0.length c0_0) := yc BK138.out 0; have hcz22_1 : w19.cell? ⟨gb138, 1, none⟩ = some (.slice (some ad140) l0_1.length c0_1) := yc BK138.out 1; have hfz22_0 := yZ BK138.out 0; have hfz22_1 := yZ BK138.out 1) | ((with_reducible refine gate_callee (f := 52) rfl ?_); refine goesL_ (some 29) rfl rfl Try.func52 (by kernel_rfl) rfl #[.agg #[.int .i64 ((rd_T42 l0_1 x21_2).f0), .string ((rd_T42 l0_1 x21_2).f1)], .int .i64 (l0_0.length : Int)] rfl (by (try simp only [List.map_toArray, List.map_cons, List.map_nil]); first | done | rfl | (simp only [List.length_drop, List.length_take]; rfl)) ?_; (with_reducible refine (spec_l1Write.calls ((rd_T42 l0_1 x21_2).f0) ((rd_T42 l0_1 x21_2).f1) (l0_0.length : Int) false _ A12.out).mono ?_); rintro e w23 ⟨rfl, hb⟩; refine ⟨_, rfl, ?_⟩; replace BK138 := aM (yB (g := gb138) (o := .cells #[.slice A0_0 l0_0.length c0_0, .slice (some ad140) l0_1.length c0_1] 30 (0, 0)) (by (with_reducible repeat (first | refine yN ?_ _ | refine yD ?_ | refine yA ?_ _)); refine yF ?_ NB138_141.out _; (with_reducible repeat (first | refine yN ?_ _ | refine yD ?_ | refine yA ?_ _)); refine yF ?_ NB138_141.out _; (with_reducible repeat (first | refine yN ?_ _ | refine yD ?_ | refine yA ?_ _)); exact BK138.out) hb); replace BK141 := aM (yB (g := gb141) (o := .cells #[.int .i64 ((rd_T42 l0_1 x21_2).f0), .string ((rd_T42 l0_1 x21_2).f1)] 42 (0, 0)) (by (with_reducible repeat (first | refine yN ?_ _ | refine yD ?_ | refine yA ?_ _)); refine yP (cs := #[.int .i64 ((rd_T42 l0_1 x21_2).f0), .string (⟨#[]⟩ : ByteArray)]) ?_ 1 _ rfl; (with_reducible repeat (first | refine yN ?_ _ | refine yD ?_ | refine yA ?_ _)); refine yP (cs := #[.int .i64 0, .string (⟨#[]⟩ : ByteArray)]) ?_ 0 _ rfl; (with_reducible repeat (first | refine yN ?_ _ | refine yD ?_ | refine yA ?_ _)); exact BK141.out) hb); replace HB := aM (zT (zH HB.out) hb); (try clear hb)))
          go_ret
          exact ⟨by first | rfl | (simp [errW_none, errW_some] <;> rfl) | (simp [*, errW_none, errW_some] <;> rfl), zH HB.out⟩
        ·rw [if_neg c11] at H
         exact absurd H (by simp)
       ·rw [if_neg c10] at H
        exact absurd H (by simp)
      ·rw [if_neg c9] at H
       have c9b0 : decide (x21_2 < (l0_1.length : Int)) = false := decide_eq_false c9
       clear c9
       replace H := Option.bind_eq_some_iff.mp H
       obtain ⟨t143, A240, H⟩ := H
       replace H : (if t143 = true then (some (decide ((l0_1.length : Int) ≤ 60))) else (some false)) = some r := H
       have A24 := aM A240
       clear A240
       by_cases c25 : t143 = true
       ·subst c25
        have H1 : (some (decide ((l0_1.length : Int) ≤ 60))) = some r := by rw [if_pos rfl] at H; exact H
        clear H
        have H := H1
        clear H1
        obtain rfl := Option.some.inj H
        have hcz26_0 : wr.cell? ⟨gb138, 0, none⟩ = some (.slice A0_0 l0_0.length c0_0) := yc BK138.out 0
        have hcz26_1 : wr.cell? ⟨gb138, 1, none⟩ = some (.slice A0_1 l0_1.length c0_1) := yc BK138.out 1
        have hfz26_0 := yZ BK138.out 0
        have hfz26_1 := yZ BK138.out 1
        go_wp2_with (first | ((with_reducible refine gate_callee (f := 53) rfl ?_); refine goesL_ (some 35) rfl rfl Try.func53 (by kernel_rfl) rfl #[.int .i64 (l0_0.length : Int), .int .i64 1, .int .i64 32] rfl (by (try simp only [List.map_toArray, List.map_cons, List.map_nil]); first | done | rfl | (simp only [List.length_drop, List.length_take]; rfl)) ?_; (with_reducible refine (spec_l1In.calls (l0_0.length : Int) 1 32 true _ A24.out).mono ?_); rintro e w' ⟨rfl, ⟨nd, rfl⟩⟩; refine ⟨_, rfl, ?_⟩))
        go_ret
        exact ⟨by first | rfl | (simp [errW_none, errW_some] <;> rfl) | (simp [*, errW_none, errW_some] <;> rfl), zH HB.out⟩
       ·replace c25 := Bool.eq_false_iff.mpr c25
        subst c25
        have H1 : (some false) = some r := by rw [if_neg (show ¬ (false = true) by decide)] at H; exact H
        clear H
        have H := H1
        clear H1
        obtain rfl := Option.some.inj H
        have hcz27_0 : wr.cell? ⟨gb138, 0, none⟩ = some (.slice A0_0 l0_0.length c0_0) := yc BK138.out 0
        have hcz27_1 : wr.cell? ⟨gb138, 1, none⟩ = some (.slice A0_1 l0_1.length c0_1) := yc BK138.out 1
        have hfz27_0 := yZ BK138.out 0
        have hfz27_1 := yZ BK138.out 1
        go_wp2_with (first | ((with_reducible refine gate_callee (f := 53) rfl ?_); refine goesL_ (some 35) rfl rfl Try.func53 (by kernel_rfl) rfl #[.int .i64 (l0_0.length : Int), .int .i64 1, .int .i64 32] rfl (by (try simp only [List.map_toArray, List.map_cons, List.map_nil]); first | done | rfl | (simp only [List.length_drop, List.length_take]; rfl)) ?_; (with_reducible refine (spec_l1In.calls (l0_0.length : Int) 1 32 false _ A24.out).mono ?_); rintro e w' ⟨rfl, ⟨nd, rfl⟩⟩; refine ⟨_, rfl, ?_⟩))
        go_ret
        exact ⟨by first | rfl | (simp [errW_none, errW_some] <;> rfl) | (simp [*, errW_none, errW_some] <;> rfl), zH HB.out⟩

/-! ### spec_l1Own: function 65 -/
def spec_l1Own.f (l0_0 : List ByteArray) (l0_1 : List (S42)) : Option (List ByteArray × (List (S42))) := (some (([] : List ByteArray) : List ByteArray)).bind fun y146 => (if y146.length + l0_0.length < 8796093022208 then ((some (([] : List (S42)) : List (S42))).bind fun y152 => (if y152.length + l0_1.length < 5864062014805 then (some ((y146 ++ l0_0), (y152 ++ l0_1))) else (none))) else (none))
set_option maxHeartbeats 8000000 in
set_option maxRecDepth 100000 in
theorem spec_l1Own.calls (A0_0 : Option Addr) (c0_0 : Nat) (l0_0 : List ByteArray) (A0_1 : Option Addr) (c0_1 : Nat) (l0_1 : List (S42)) (r1 : List ByteArray) (r2 : List (S42)) (w : World) (hr0_0 : Kd.C Kd.string w A0_0 l0_0.length l0_0) (hc0_0 : l0_0.length ≤ c0_0) (hr0_1 : Kd.C k42 w A0_1 l0_1.length l0_1) (hc0_1 : l0_1.length ≤ c0_1) (h : spec_l1Own.f l0_0 l0_1 = some (r1, r2)) :
  Calls Try.prog 65 #[.agg #[.slice A0_0 l0_0.length c0_0, .slice A0_1 l0_1.length c0_1]] w fun e w' => ∃ v0_ v1_ : Value, e = .returned (.agg #[v0_, v1_]) ∧ Kd.R Kd.string 9 w' w.heap.size (fun _ => True) v0_ r1 ∧ Kd.R k42 42 w' w.heap.size (fun _ => True) v1_ r2 ∧ Below w.heap.size w w' := by
 have hu30 := Try.underlying30
 have HR0_0 := aM hr0_0
 have HC0_0 := aM hc0_0
 clear hr0_0 hc0_0
 have HR0_1 := aM hr0_1
 have HC0_1 := aM hc0_1
 clear hr0_1 hc0_1
 have HB := aM (Below.refl w.heap.size w)
 have H : ((some (([] : List ByteArray) : List ByteArray)).bind fun y146 => (if y146.length + l0_0.length < 8796093022208 then ((some (([] : List (S42)) : List (S42))).bind fun y152 => (if y152.length + l0_1.length < 5864062014805 then (some ((y146 ++ l0_0), (y152 ++ l0_1))) else (none))) else (none))) = some (r1, r2) := h
 clear h
 obtain ⟨y146, hy146⟩ : ∃ y_ : List ByteArray, y_ = (([] : List ByteArray)) := ⟨_, rfl⟩
 replace H : (if y146.length + l0_0.length < 8796093022208 then ((some (([] : List (S42)) : List (S42))).bind fun y152 => (if y152.length + l0_1.length < 5864062014805 then (some ((y146 ++ l0_0), (y152 ++ l0_1))) else (none))) else (none)) = some (r1, r2) := by first | (rw [hy146]; with_reducible exact H) | (have H2_ := (Option.bind_some _ _).symm.trans H; rw [hy146]; with_reducible exact H2_) | (have H2_ := (Option.bind_some _ _).symm.trans H; with_reducible exact H2_) | with_reducible exact H | (rw [hy146]; exact H) | exact H
 have Ny146 := aM hy146
 clear hy146
 by_cases c2 : y146.length + l0_0.length < 8796093022208
 ·rw [if_pos c2] at H
  have LMc2 := aM c2
  clear c2
  obtain ⟨y149, hy149⟩ : ∃ y_ : List ByteArray, y_ = (y146 ++ l0_0) := ⟨_, rfl⟩
  replace H : ((some (([] : List (S42)) : List (S42))).bind fun y152 => (if y152.length + l0_1.length < 5864062014805 then (some (y149, (y152 ++ l0_1))) else (none))) = some (r1, r2) := by first | (rw [hy149]; with_reducible exact H) | (have H2_ := (Option.bind_some _ _).symm.trans H; rw [hy149]; with_reducible exact H2_) | (have H2_ := (Option.bind_some _ _).symm.trans H; with_reducible exact H2_) | with_reducible exact H | (rw [hy149]; exact H) | exact H
  have Ny149 := aM hy149
  clear hy149
  obtain ⟨y152, hy152⟩ : ∃ y_ : List (S42), y_ = (([] : List (S42))) := ⟨_, rfl⟩
  replace H : (if y152.length + l0_1.length < 5864062014805 then (some (y149, (y152 ++ l0_1))) else (none)) = some (r1, r2) := by first | (rw [hy152]; with_reducible exact H) | (have H2_ := (Option.bind_some _ _).symm.trans H; rw [hy152]; with_reducible exact H2_) | (have H2_ := (Option.bind_some _ _).symm.trans H; with_reducible exact H2_) | with_reducible exact H | (rw [hy152]; exact H) | exact H
  have Ny152 := aM hy152
  clear hy152
  by_cases c3 : y152.length + l0_1.length < 5864062014805
  ·rw [if_pos c3] at H
   have LMc3 := aM c3
   clear c3
   obtain ⟨y155, hy155⟩ : ∃ y_ : List (S42), y_ = (y152 ++ l0_1) := ⟨_, rfl⟩
   replace H : (some (y149, y155)) = some (r1, r2) := by first | (rw [hy155]; with_reducible exact H) | (have H2_ := (Option.bind_some _ _).symm.trans H; rw [hy155]; with_reducible exact H2_) | (have H2_ := (Option.bind_some _ _).symm.trans H; with_reducible exact H2_) | with_reducible exact H | (rw [hy155]; exact H) | exact H
   have Ny155 := aM hy155
   clear hy155
   simp only [Option.some.injEq, Prod.mk.injEq] at H
   obtain ⟨rfl, rfl⟩ := H
   go_enter Try.func65, Try.ntmps65
   go_wp2_with (first | ((with_reducible refine gate_dst (N := 1) rfl ?_); refine box_event ?hg (N := 1) ?hd (cs := #[.slice A0_0 l0_0.length c0_0, .slice A0_1 l0_1.length c0_1]) (t := 30) ?hr ?_; (case hd => rfl); (case hg => rfl); (case hr => first | (go_simp; done) | (go_simp; rfl)); intro gb144 hg w4 hbox hb; have BK144 := aM (hbox); have GW144 := aM ((by rw [hg]; exact (zZ (zH HB.out)) : w.heap.size ≤ gb144)); have GE144 := aM ((by rw [hg]; exact (zZ (zH HB.out)) : w.heap.size ≤ gb144)); replace HB := aM (zT (zH HB.out) hb); clear hb hbox hg) | ((with_reducible refine gate_dst (N := 2) rfl ?_); refine box_event ?hg (N := 2) ?hd (cs := #[.slice none 0 0, .slice none 0 0]) (t := 30) ?hr ?_; (case hd => rfl); (case hg => rfl); (case hr => first | (go_simp; done) | (go_simp; rfl)); intro gb145 hg w5 hbox hb; have BK145 := aM (hbox); have GW145 := aM ((by rw [hg]; exact (zZ (zH HB.out)) : w.heap.size ≤ gb145)); have GE145 := aM ((by rw [hg]; exact (zZ (zH HB.out)) : w.heap.size ≤ gb145)); replace HB := aM (zT (zH HB.out) hb); have NB144_145 := nL BK144.out hg; have NB145_144 := nR BK144.out hg; replace BK144 := yK BK144.out hb; clear hb hbox hg) | ((with_reducible refine gate_dst (N := 3) rfl ?_); refine Kd.R_lit Kd.string _ 9 ?hg (N := 3) ?hd (xs := ([] : List ByteArray)) (inner := []) (ok := fun _ => True) (okp := fun _ => True) ?hr ?hp (fun _ hk => hk) trivial (Below.refl _ _) (Nat.le_refl _) (by simp) ?_; (case hd => rfl); (case hg => rfl); (case hr => first | (go_simp; done) | (go_simp; rfl)); (case hp => exact (Reps.none _ _)); intro v147 w6 ho7 hb hg_ hnew_; clear hg_ hnew_; (first | rw [← Ny146.out] at ho7 | (simp only [Int.reduceToNat] at ho7; rw [← Ny146.out] at ho7)); have HO148 := aM (xL ho7 (zZ (zH HB.out))); replace BK144 := yK BK144.out hb; replace BK145 := yK BK145.out hb; replace HB := aM (zT (zH HB.out) hb); clear hb ho7; have hnb8 := NB144_145.out; have hnc8 := NB145_144.out; have hcz9_0 : w6.cell? ⟨gb144, 0, none⟩ = some (.slice A0_0 l0_0.length c0_0) := yc BK144.out 0; have hcz9_1 : w6.cell? ⟨gb144, 1, none⟩ = some (.slice A0_1 l0_1.length c0_1) := yc BK144.out 1; have hfz9_0 := yZ BK144.out 0; have hfz9_1 := yZ BK144.out 1) | ((with_reducible refine gate_builtin (b := .append) (xs := #[.tmp 3, .tmp 5]) rfl ?_); at_builtin; refine Kd.R_append_rows Kd.string (w0 := w) w.heap.size rfl (.tmp 3) (.tmp 5) 22 9 (.string ⟨#[]⟩) 16 rfl Try.underlying22 info9 rfl (by decide) (by omega) v147 y146 l0_0 _ _ _ (fun _ => True) (fun _ => False) rfl rfl ?aO ?aR (fun _ _ h => h) (fun _ h => h.elim) ?aF ?aB ?aS ?aL ?_; (case aR => exact cK HR0_0.out HB.out); (case aB => exact (zH HB.out)); (case aF => exact (fun _ _ => trivial)); (case aO => exact (xH HO148.out)); (case aS => exact (zZ (zH HB.out))); (case aL => have := LMc2.out; omega); intro v150 w10 ho hb hg hat; rw [← Ny149.out] at ho; replace BK144 := aM (blk_grown (g := gb144) (o := .cells #[.slice A0_0 l0_0.length c0_0, .slice A0_1 l0_1.length c0_1] 30 (0, 0)) (yH BK144.out) hg (Kd.R_ne HO148.out BK144.out (by decide))); replace BK145 := aM (blk_grown (g := gb145) (o := .cells #[.slice none 0 0, .slice none 0 0] 30 (0, 0)) (yH BK145.out) hg (Kd.R_ne HO148.out BK145.out (by decide))); replace HB := aM (hb); have HO151 := aM (ho); clear HO148; clear ho hb hg hat; obtain ⟨Ao11, co11, eo11⟩ := Kd.R_slice HO151.out; subst eo11; have hcz12_0 : w10.cell? ⟨gb144, 0, none⟩ = some (.slice A0_0 l0_0.length c0_0) := yc BK144.out 0; have hcz12_1 : w10.cell? ⟨gb144, 1, none⟩ = some (.slice A0_1 l0_1.length c0_1) := yc BK144.out 1; have hfz12_0 := yZ BK144.out 0; have hfz12_1 := yZ BK144.out 1) | ((with_reducible refine gate_dst (N := 8) rfl ?_); refine Kd.R_lit k42 _ 42 ?hg (N := 8) ?hd (xs := ([] : List (S42))) (inner := []) (ok := fun _ => True) (okp := fun _ => True) ?hr ?hp (fun _ hk => hk) trivial (Below.refl _ _) (Nat.le_refl _) (by simp) ?_; (case hd => rfl); (case hg => rfl); (case hr => first | (go_simp; done) | (go_simp; rfl)); (case hp => exact (Reps.none _ _)); intro v153 w13 ho14 hb hg_ hnew_; clear hg_ hnew_; (first | rw [← Ny152.out] at ho14 | (simp only [Int.reduceToNat] at ho14; rw [← Ny152.out] at ho14)); replace HO151 := aM (xB (xH ((x1 HO151.out BK144.out (by decide) (.slice Ao11 y149.length co11)))) hb); have HO154 := aM (xL ho14 (zZ (zH HB.out))); replace BK144 := aM (yB (g := gb144) (o := .cells #[.slice Ao11 y149.length co11, .slice A0_1 l0_1.length c0_1] 30 (0, 0)) (by (with_reducible repeat (first | refine yN ?_ _ | refine yD ?_ | refine yA ?_ _)); refine yP (cs := #[.slice A0_0 l0_0.length c0_0, .slice A0_1 l0_1.length c0_1]) ?_ 0 _ rfl; (with_reducible repeat (first | refine yN ?_ _ | refine yD ?_ | refine yA ?_ _)); exact BK144.out) hb); replace BK145 := aM (yB (g := gb145) (o := .cells #[.slice none 0 0, .slice none 0 0] 30 (0, 0)) (by (with_reducible repeat (first | refine yN ?_ _ | refine yD ?_ | refine yA ?_ _)); refine yF ?_ NB145_144.out _; (with_reducible repeat (first | refine yN ?_ _ | refine yD ?_ | refine yA ?_ _)); exact BK145.out) hb); replace HB := aM (zT (zH HB.out) hb); clear hb ho14; have hcz15_0 : w13.cell? ⟨gb144, 0, none⟩ = some (.slice Ao11 y149.length co11) := yc BK144.out 0; have hcz15_1 : w13.cell? ⟨gb144, 1, none⟩ = some (.slice A0_1 l0_1.length c0_1) := yc BK144.out 1; have hfz15_0 := yZ BK144.out 0; have hfz15_1 := yZ BK144.out 1) | ((with_reducible refine gate_builtin (b := .append) (xs := #[.tmp 8, .tmp 10]) rfl ?_); at_builtin; refine Kd.R_append_rows k42 (w0 := w) w.heap.size rfl (.tmp 8) (.tmp 10) 28 42 (.agg #[(.int .i64 0), (.string ⟨#[]⟩)]) 24 rfl Try.underlying28 info42 rfl (by decide) (by omega) v153 y152 l0_1 _ _ _ (fun _ => True) (fun _ => False) rfl rfl ?aO ?aR (fun _ _ h => h) (fun _ h => h.elim) ?aF ?aB ?aS ?aL ?_; (case aR => exact cK HR0_1.out HB.out); (case aB => exact (zH HB.out)); (case aF => exact (fun _ _ => trivial)); (case aO => exact (xH HO154.out)); (case aS => exact (zZ (zH HB.out))); (case aL => have := LMc3.out; omega); intro v156 w16 ho hb hg hat; rw [← Ny155.out] at ho; replace BK144 := aM (blk_grown (g := gb144) (o := .cells #[.slice Ao11 y149.length co11, .slice A0_1 l0_1.length c0_1] 30 (0, 0)) (yH BK144.out) hg (Kd.R_ne HO154.out BK144.out (by decide))); replace BK145 := aM (blk_grown (g := gb145) (o := .cells #[.slice none 0 0, .slice none 0 0] 30 (0, 0)) (yH BK145.out) hg (Kd.R_ne HO154.out BK145.out (by decide))); replace HO151 := aM (Kd.R_over' (xH HO151.out) (Kd.R_typed (xH HO154.out)) (by decide) hg); replace HB := aM (hb); have HO157 := aM (ho); clear HO154; clear ho hb hg hat; obtain ⟨Ao17, co17, eo17⟩ := Kd.R_slice HO157.out; subst eo17; have hcz18_0 : w16.cell? ⟨gb144, 0, none⟩ = some (.slice Ao11 y149.length co11) := yc BK144.out 0; have hcz18_1 : w16.cell? ⟨gb144, 1, none⟩ = some (.slice A0_1 l0_1.length c0_1) := yc BK144.out 1; have hfz18_0 := yZ BK144.out 0; have hfz18_1 := yZ BK144.out 1; have hcz19_0 : w16.cell? ⟨gb145, 0, none⟩ = some (.slice none 0 0) := yc BK145.out 0; have hcz19_1 : w16.cell? ⟨gb145, 1, none⟩ = some (.slice none 0 0) := yc BK145.out 1; have hfz19_0 := yZ BK145.out 0; have hfz19_1 := yZ BK145.out 1))
   refine bodyPost_ret (results_cell_row rfl _ _ gb145 30 #[.slice Ao11 y149.length co11, .slice Ao17 y155.length co17] (0, 0) _ rfl (by (with_reducible repeat (first | refine yN ?_ _ | refine yD ?_ | refine yA ?_ _)); refine yP (cs := #[.slice Ao11 y149.length co11, .slice none 0 0]) ?_ 1 _ rfl; (with_reducible repeat (first | refine yN ?_ _ | refine yD ?_ | refine yA ?_ _)); refine yP (cs := #[.slice none 0 0, .slice none 0 0]) ?_ 0 _ rfl; (with_reducible repeat (first | refine yN ?_ _ | refine yD ?_ | refine yA ?_ _)); refine yF ?_ NB145_144.out _; (with_reducible repeat (first | refine yN ?_ _ | refine yD ?_ | refine yA ?_ _)); exact BK145.out) Try.underlying30 rfl (by kernel_rfl)) rfl ?_
   exact ⟨_, _, by first | rfl | (simp [errW_none, errW_some] <;> rfl) | (simp [*, errW_none, errW_some] <;> rfl), xH (xM (xF (p := ⟨gb145, 1, none⟩) (xF (p := ⟨gb145, 0, none⟩) (xF (p := ⟨gb144, 1, none⟩) (xT (xT HO151.out BK144.out (by decide)) BK145.out (by decide)) (fun _ hk => hk.1.2) (.slice Ao17 y155.length co17)) (fun _ hk => hk.2) (.slice Ao11 y149.length co11)) (fun _ hk => hk.2) (.slice Ao17 y155.length co17)) (fun _ hk => trivial)), xH (xM (xF (p := ⟨gb145, 1, none⟩) (xF (p := ⟨gb145, 0, none⟩) (xF (p := ⟨gb144, 1, none⟩) (xT (xT HO157.out BK144.out (by decide)) BK145.out (by decide)) (fun _ hk => hk.1.2) (.slice Ao17 y155.length co17)) (fun _ hk => hk.2) (.slice Ao11 y149.length co11)) (fun _ hk => hk.2) (.slice Ao17 y155.length co17)) (fun _ hk => trivial)), zH HB.out⟩
  ·rw [if_neg c3] at H
   exact absurd H (by simp)
 ·rw [if_neg c2] at H
  exact absurd H (by simp)

/-! ### spec_WriteSector: function 23 -/
def spec_WriteSector.f (k : Nat) (l0_0 : List ByteArray) (l0_1 : List (S42)) (a1_0 : Int) (a1_1 : ByteArray) : Option (List ByteArray × (List (S42)) × Bool) := (spec_GoodDevice.f k l0_0 l0_1).bind fun t161 => (if t161 = true then ((spec_l1Write.f a1_0 a1_1 (l0_0.length : Int)).bind fun t162 => (if t162 = true then (if (l0_1.length : Int) = 60 then (some (([] : List ByteArray), ([] : List (S42)), false)) else ((spec_l1Own.f l0_0 l0_1).bind fun bt163 => (if bt163.2.length < 5864062014805 then (some (bt163.1, (bt163.2 ++ [(⟨a1_0, a1_1⟩ : S42)]), true)) else (none)))) else (some (([] : List ByteArray), ([] : List (S42)), false)))) else (some (([] : List ByteArray), ([] : List (S42)), false)))
theorem spec_WriteSector.mono : ∀ a0 a1 a2 a3 k, LeO (spec_WriteSector.f k a0 a1 a2 a3) (spec_WriteSector.f (k + 1) a0 a1 a2 a3) := by
 intro a0 a1 a2 a3 k
 unfold spec_WriteSector.f
 repeat' first
   | (with_reducible exact spec_GoodDevice.mono _ _ _)
   | (with_reducible exact LeO.refl _)
   | (with_reducible exact LeO.none _)
   | (with_reducible refine LeO.ite ?_ ?_)
   | (with_reducible refine LeO.bind ?_ (fun _ => ?_))
   | exact spec_GoodDevice.mono _ _ _
   | exact LeO.none _
   | refine LeO.ite ?_ ?_
   | refine LeO.bind ?_ (fun _ => ?_)
set_option maxHeartbeats 8000000 in
set_option maxRecDepth 100000 in
theorem spec_WriteSector.calls (k : Nat) (A0_0 : Option Addr) (c0_0 : Nat) (l0_0 : List ByteArray) (A0_1 : Option Addr) (c0_1 : Nat) (l0_1 : List (S42)) (a1_0 : Int) (a1_1 : ByteArray) (r1 : List ByteArray) (r2 : List (S42)) (r3 : Bool) (w : World) (hr0_0 : Kd.C Kd.string w A0_0 l0_0.length l0_0) (hc0_0 : l0_0.length ≤ c0_0) (hr0_1 : Kd.C k42 w A0_1 l0_1.length l0_1) (hc0_1 : l0_1.length ≤ c0_1) (h : spec_WriteSector.f k l0_0 l0_1 a1_0 a1_1 = some (r1, r2, r3)) :
  Calls Try.prog 23 #[.agg #[.slice A0_0 l0_0.length c0_0, .slice A0_1 l0_1.length c0_1], .agg #[.int .i64 a1_0, .string a1_1]] w fun e w' => ∃ v0_ v1_ : Value, e = .returned (.tuple #[.agg #[v0_, v1_], .bool r3]) ∧ Kd.R Kd.string 9 w' w.heap.size (fun _ => True) v0_ r1 ∧ Kd.R k42 42 w' w.heap.size (fun _ => True) v1_ r2 ∧ Below w.heap.size w w' := by
 have hu30 := Try.underlying30
 have hu42 := Try.underlying42
 have HR0_0 := aM hr0_0
 have HC0_0 := aM hc0_0
 clear hr0_0 hc0_0
 have HR0_1 := aM hr0_1
 have HC0_1 := aM hc0_1
 clear hr0_1 hc0_1
 have HB := aM (Below.refl w.heap.size w)
 have H : ((spec_GoodDevice.f k l0_0 l0_1).bind fun t161 => (if t161 = true then ((spec_l1Write.f a1_0 a1_1 (l0_0.length : Int)).bind fun t162 => (if t162 = true then (if (l0_1.length : Int) = 60 then (some (([] : List ByteArray), ([] : List (S42)), false)) else ((spec_l1Own.f l0_0 l0_1).bind fun bt163 => (if bt163.2.length < 5864062014805 then (some (bt163.1, (bt163.2 ++ [(⟨a1_0, a1_1⟩ : S42)]), true)) else (none)))) else (some (([] : List ByteArray), ([] : List (S42)), false)))) else (some (([] : List ByteArray), ([] : List (S42)), false)))) = some (r1, r2, r3) := h
 clear h
 replace H := Option.bind_eq_some_iff.mp H
 obtain ⟨t161, A30, H⟩ := H
 replace H : (if t161 = true then ((spec_l1Write.f a1_0 a1_1 (l0_0.length : Int)).bind fun t162 => (if t162 = true then (if (l0_1.length : Int) = 60 then (some (([] : List ByteArray), ([] : List (S42)), false)) else ((spec_l1Own.f l0_0 l0_1).bind fun bt163 => (if bt163.2.length < 5864062014805 then (some (bt163.1, (bt163.2 ++ [(⟨a1_0, a1_1⟩ : S42)]), true)) else (none)))) else (some (([] : List ByteArray), ([] : List (S42)), false)))) else (some (([] : List ByteArray), ([] : List (S42)), false))) = some (r1, r2, r3) := H
 have A3 := aM A30
 clear A30
 by_cases c4 : t161 = true
 ·subst c4
  have H1 : ((spec_l1Write.f a1_0 a1_1 (l0_0.length : Int)).bind fun t162 => (if t162 = true then (if (l0_1.length : Int) = 60 then (some (([] : List ByteArray), ([] : List (S42)), false)) else ((spec_l1Own.f l0_0 l0_1).bind fun bt163 => (if bt163.2.length < 5864062014805 then (some (bt163.1, (bt163.2 ++ [(⟨a1_0, a1_1⟩ : S42)]), true)) else (none)))) else (some (([] : List ByteArray), ([] : List (S42)), false)))) = some (r1, r2, r3) := by rw [if_pos rfl] at H; exact H
  clear H
  have H := H1
  clear H1
  replace H := Option.bind_eq_some_iff.mp H
  obtain ⟨t162, A50, H⟩ := H
  replace H : (if t162 = true then (if (l0_1.length : Int) = 60 then (some (([] : List ByteArray), ([] : List (S42)), false)) else ((spec_l1Own.f l0_0 l0_1).bind fun bt163 => (if bt163.2.length < 5864062014805 then (some (bt163.1, (bt163.2 ++ [(⟨a1_0, a1_1⟩ : S42)]), true)) else (none)))) else (some (([] : List ByteArray), ([] : List (S42)), false))) = some (r1, r2, r3) := H
  have A5 := aM A50
  clear A50
  by_cases c6 : t162 = true
  ·subst c6
   have H1 : (if (l0_1.length : Int) = 60 then (some (([] : List ByteArray), ([] : List (S42)), false)) else ((spec_l1Own.f l0_0 l0_1).bind fun bt163 => (if bt163.2.length < 5864062014805 then (some (bt163.1, (bt163.2 ++ [(⟨a1_0, a1_1⟩ : S42)]), true)) else (none)))) = some (r1, r2, r3) := by rw [if_pos rfl] at H; exact H
   clear H
   have H := H1
   clear H1
   by_cases c7 : (l0_1.length : Int) = 60
   ·rw [if_pos c7] at H
    have c7b0 : ((l0_1.length : Int) == 60) = true := beq_iff_eq.mpr c7
    have c7b1 : ((l0_1.length : Int) != 60) = false := bne_eq_false_iff_eq.mpr c7
    clear c7
    simp only [Option.some.injEq, Prod.mk.injEq] at H
    obtain ⟨rfl, rfl, rfl⟩ := H
    go_enter Try.func23, Try.ntmps23
    go_wp2_with (first | ((with_reducible refine gate_dst (N := 2) rfl ?_); (try (refine gate_guard (by rfl) ?_; dsimp only)); refine box_event ?hg (N := 2) ?hd (cs := #[.slice A0_0 l0_0.length c0_0, .slice A0_1 l0_1.length c0_1]) (t := 30) ?hr ?_; (case hd => rfl); (case hg => rfl); (case hr => first | (go_simp; done) | (go_simp; rfl)); intro gb158 hg w8 hbox hb; have BK158 := aM (hbox); have GW158 := aM ((by rw [hg]; exact (zZ (zH HB.out)) : w.heap.size ≤ gb158)); have GE158 := aM ((by rw [hg]; exact (zZ (zH HB.out)) : w.heap.size ≤ gb158)); replace HB := aM (zT (zH HB.out) hb); clear hb hbox hg) | ((with_reducible refine gate_dst (N := 3) rfl ?_); (try (refine gate_guard (by rfl) ?_; dsimp only)); refine box_event ?hg (N := 3) ?hd (cs := #[.int .i64 a1_0, .string a1_1]) (t := 42) ?hr ?_; (case hd => rfl); (case hg => rfl); (case hr => first | (go_simp; done) | (go_simp; rfl)); intro gb159 hg w9 hbox hb; have BK159 := aM (hbox); have GW159 := aM ((by rw [hg]; exact (zZ (zH HB.out)) : w.heap.size ≤ gb159)); have GE159 := aM ((by rw [hg]; exact (zZ (zH HB.out)) : w.heap.size ≤ gb159)); replace HB := aM (zT (zH HB.out) hb); have NB158_159 := nL BK158.out hg; have NB159_158 := nR BK158.out hg; replace BK158 := yK BK158.out hb; clear hb hbox hg) | ((with_reducible refine gate_dst (N := 4) rfl ?_); (try (refine gate_guard (by rfl) ?_; dsimp only)); refine box_event ?hg (N := 4) ?hd (cs := #[.slice none 0 0, .slice none 0 0]) (t := 30) ?hr ?_; (case hd => rfl); (case hg => rfl); (case hr => first | (go_simp; done) | (go_simp; rfl)); intro gb160 hg w10 hbox hb; have BK160 := aM (hbox); have GW160 := aM ((by rw [hg]; exact (zZ (zH HB.out)) : w.heap.size ≤ gb160)); have GE160 := aM ((by rw [hg]; exact (zZ (zH HB.out)) : w.heap.size ≤ gb160)); replace HB := aM (zT (zH HB.out) hb); have NB158_160 := nL BK158.out hg; have NB160_158 := nR BK158.out hg; replace BK158 := yK BK158.out hb; have NB159_160 := nL BK159.out hg; have NB160_159 := nR BK159.out hg; replace BK159 := yK BK159.out hb; clear hb hbox hg; have hnb11 := NB158_159.out; have hnc11 := NB159_158.out; have hnb12 := NB158_160.out; have hnc12 := NB160_158.out; have hcz13_0 : w10.cell? ⟨gb158, 0, none⟩ = some (.slice A0_0 l0_0.length c0_0) := yc BK158.out 0; have hcz13_1 : w10.cell? ⟨gb158, 1, none⟩ = some (.slice A0_1 l0_1.length c0_1) := yc BK158.out 1; have hfz13_0 := yZ BK158.out 0; have hfz13_1 := yZ BK158.out 1) | ((with_reducible refine gate_callee (f := 14) rfl ?_); refine goesL_ (some 7) rfl rfl Try.func14 (by kernel_rfl) rfl #[.agg #[.slice A0_0 l0_0.length c0_0, .slice A0_1 l0_1.length c0_1]] rfl (by (try simp only [List.map_toArray, List.map_cons, List.map_nil]); first | done | rfl | (simp only [List.length_drop, List.length_take]; rfl)) ?_; (with_reducible refine (spec_GoodDevice.calls k _ _ l0_0 _ _ l0_1 true _ ?side1 ?side2 ?side3 ?side4 A3.out).mono ?_); (case side1 => exact cK HR0_0.out HB.out); (case side2 => exact HC0_0.out); (case side3 => exact cK HR0_1.out HB.out); (case side4 => exact HC0_1.out); rintro e w14 ⟨rfl, hb⟩; refine ⟨_, rfl, ?_⟩; replace BK158 := yK BK158.out hb; replace BK159 := yK BK159.out hb; replace BK160 := yK BK160.out hb; replace HB := aM (zT (zH HB.out) hb); (try clear hb); have hnb15 := NB159_160.out; have hnc15 := NB160_159.out; have hcz16_0 : w14.cell? ⟨gb159, 0, none⟩ = some (.int .i64 a1_0) := yc BK159.out 0; have hcz16_1 : w14.cell? ⟨gb159, 1, none⟩ = some (.string a1_1) := yc BK159.out 1; have hfz16_0 := yZ BK159.out 0; have hfz16_1 := yZ BK159.out 1; have hcz17_0 : w14.cell? ⟨gb158, 0, none⟩ = some (.slice A0_0 l0_0.length c0_0) := yc BK158.out 0; have hcz17_1 : w14.cell? ⟨gb158, 1, none⟩ = some (.slice A0_1 l0_1.length c0_1) := yc BK158.out 1; have hfz17_0 := yZ BK158.out 0; have hfz17_1 := yZ BK158.out 1) | (go_at_call 52; (with_reducible refine (spec_l1Write.calls a1_0 a1_1 (l0_0.length : Int) true _ A5.out).mono ?_); rintro e w18 ⟨rfl, hb⟩; replace BK158 := yK BK158.out hb; replace BK159 := yK BK159.out hb; replace BK160 := yK BK160.out hb; replace HB := aM (zT (zH HB.out) hb); (try clear hb); have hcz19_0 : w18.cell? ⟨gb158, 0, none⟩ = some (.slice A0_0 l0_0.length c0_0) := yc BK158.out 0; have hcz19_1 : w18.cell? ⟨gb158, 1, none⟩ = some (.slice A0_1 l0_1.length c0_1) := yc BK158.out 1; have hfz19_0 := yZ BK158.out 0; have hfz19_1 := yZ BK158.out 1; have hcz20_0 : w18.cell? ⟨gb160, 0, none⟩ = some (.slice none 0 0) := yc BK160.out 0; have hcz20_1 : w18.cell? ⟨gb160, 1, none⟩ = some (.slice none 0 0) := yc BK160.out 1; have hfz20_0 := yZ BK160.out 0; have hfz20_1 := yZ BK160.out 1))
    refine bodyPost_ret (results_ct rfl _ _ gb160 30 #[.slice none 0 0, .slice none 0 0] (0, 0) _ rfl (by (with_reducible repeat (first | refine yN ?_ _ | refine yD ?_ | refine yA ?_ _)); refine yP (cs := #[.slice none 0 0, .slice none 0 0]) ?_ 1 _ rfl; (with_reducible repeat (first | refine yN ?_ _ | refine yD ?_ | refine yA ?_ _)); refine yP (cs := #[.slice none 0 0, .slice none 0 0]) ?_ 0 _ rfl; (with_reducible repeat (first | refine yN ?_ _ | refine yD ?_ | refine yA ?_ _)); exact BK160.out) Try.underlying30 rfl (by kernel_rfl)) rfl ?_
    exact ⟨_, _, by first | rfl | (simp [errW_none, errW_some] <;> rfl) | (simp [*, errW_none, errW_some] <;> rfl), by first | exact Kd.R_nil _ _ _ _ _ | exact Kd.N_nil _ _ _ _ _ | exact Kd.V_nil _ _ _ _ _ | exact Kd.Q_nil _ _ _ _ _ | exact Kd.S_nil _ _ _ _ _, by first | exact Kd.R_nil _ _ _ _ _ | exact Kd.N_nil _ _ _ _ _ | exact Kd.V_nil _ _ _ _ _ | exact Kd.Q_nil _ _ _ _ _ | exact Kd.S_nil _ _ _ _ _, zH HB.out⟩
   ·rw [if_neg c7] at H
    have c7b0 : ((l0_1.length : Int) == 60) = false := beq_eq_false_iff_ne.mpr c7
    have c7b1 : ((l0_1.length : Int) != 60) = true := bne_iff_ne.mpr c7
    replace H := Option.bind_eq_some_iff.mp H
    obtain ⟨⟨t163, t166⟩, A210, H⟩ := H
    replace H : (if t166.length < 5864062014805 then (some (t163, (t166 ++ [(⟨a1_0, a1_1⟩ : S42)]), true)) else (none)) = some (r1, r2, r3) := H
    have A21 := aM A210
    clear A210
    by_cases c22 : t166.length < 5864062014805
    ·rw [if_pos c22] at H
     have LMc22 := aM c22
     clear c22
     obtain ⟨y169, hy169⟩ : ∃ y_ : List (S42), y_ = (t166 ++ [(⟨a1_0, a1_1⟩ : S42)]) := ⟨_, rfl⟩
     replace H : (some (t163, y169, true)) = some (r1, r2, r3) := by first | (rw [hy169]; with_reducible exact H) | (have H2_ := (Option.bind_some _ _).symm.trans H; rw [hy169]; with_reducible exact H2_) | (have H2_ := (Option.bind_some _ _).symm.trans H; with_reducible exact H2_) | with_reducible exact H | (rw [hy169]; exact H) | exact H
     have Ny169 := aM hy169
     clear hy169
     simp only [Option.some.injEq, Prod.mk.injEq] at H
     obtain ⟨rfl, rfl, rfl⟩ := H
     go_enter Try.func23, Try.ntmps23
     go_wp2_with (first | ((with_reducible refine gate_dst (N := 2) rfl ?_); (try (refine gate_guard (by rfl) ?_; dsimp only)); refine box_event ?hg (N := 2) ?hd (cs := #[.slice A0_0 l0_0.length c0_0, .slice A0_1 l0_1.length c0_1]) (t := 30) ?hr ?_; (case hd => rfl); (case hg => rfl); (case hr => first | (go_simp; done) | (go_simp; rfl)); intro gb158 hg w23 hbox hb; have BK158 := aM (hbox); have GW158 := aM ((by rw [hg]; exact (zZ (zH HB.out)) : w.heap.size ≤ gb158)); have GE158 := aM ((by rw [hg]; exact (zZ (zH HB.out)) : w.heap.size ≤ gb158)); replace HB := aM (zT (zH HB.out) hb); clear hb hbox hg) | ((with_reducible refine gate_dst (N := 3) rfl ?_); (try (refine gate_guard (by rfl) ?_; dsimp only)); refine box_event ?hg (N := 3) ?hd (cs := #[.int .i64 a1_0, .string a1_1]) (t := 42) ?hr ?_; (case hd => rfl); (case hg => rfl); (case hr => first | (go_simp; done) | (go_simp; rfl)); intro gb159 hg w24 hbox hb; have BK159 := aM (hbox); have GW159 := aM ((by rw [hg]; exact (zZ (zH HB.out)) : w.heap.size ≤ gb159)); have GE159 := aM ((by rw [hg]; exact (zZ (zH HB.out)) : w.heap.size ≤ gb159)); replace HB := aM (zT (zH HB.out) hb); have NB158_159 := nL BK158.out hg; have NB159_158 := nR BK158.out hg; replace BK158 := yK BK158.out hb; clear hb hbox hg) | ((with_reducible refine gate_dst (N := 4) rfl ?_); (try (refine gate_guard (by rfl) ?_; dsimp only)); refine box_event ?hg (N := 4) ?hd (cs := #[.slice none 0 0, .slice none 0 0]) (t := 30) ?hr ?_; (case hd => rfl); (case hg => rfl); (case hr => first | (go_simp; done) | (go_simp; rfl)); intro gb160 hg w25 hbox hb; have BK160 := aM (hbox); have GW160 := aM ((by rw [hg]; exact (zZ (zH HB.out)) : w.heap.size ≤ gb160)); have GE160 := aM ((by rw [hg]; exact (zZ (zH HB.out)) : w.heap.size ≤ gb160)); replace HB := aM (zT (zH HB.out) hb); have NB158_160 := nL BK158.out hg; have NB160_158 := nR BK158.out hg; replace BK158 := yK BK158.out hb; have NB159_160 := nL BK159.out hg; have NB160_159 := nR BK159.out hg; replace BK159 := yK BK159.out hb; clear hb hbox hg; have hnb26 := NB158_159.out; have hnc26 := NB159_158.out; have hnb27 := NB158_160.out; have hnc27 := NB160_158.out; have hcz28_0 : w25.cell? ⟨gb158, 0, none⟩ = some (.slice A0_0 l0_0.length c0_0) := yc BK158.out 0; have hcz28_1 : w25.cell? ⟨gb158, 1, none⟩ = some (.slice A0_1 l0_1.length c0_1) := yc BK158.out 1; have hfz28_0 := yZ BK158.out 0; have hfz28_1 := yZ BK158.out 1) | ((with_reducible refine gate_callee (f := 14) rfl ?_); refine goesL_ (some 7) rfl rfl Try.func14 (by kernel_rfl) rfl #[.agg #[.slice A0_0 l0_0.length c0_0, .slice A0_1 l0_1.length c0_1]] rfl (by (try simp only [List.map_toArray, List.map_cons, List.map_nil]); first | done | rfl | (simp only [List.length_drop, List.length_take]; rfl)) ?_; (with_reducible refine (spec_GoodDevice.calls k _ _ l0_0 _ _ l0_1 true _ ?side1 ?side2 ?side3 ?side4 A3.out).mono ?_); (case side1 => exact cK HR0_0.out HB.out); (case side2 => exact HC0_0.out); (case side3 => exact cK HR0_1.out HB.out); (case side4 => exact HC0_1.out); rintro e w29 ⟨rfl, hb⟩; refine ⟨_, rfl, ?_⟩; replace BK158 := yK BK158.out hb; replace BK159 := yK BK159.out hb; replace BK160 := yK BK160.out hb; replace HB := aM (zT (zH HB.out) hb); (try clear hb); have hnb30 := NB159_160.out; have hnc30 := NB160_159.out; have hcz31_0 : w29.cell? ⟨gb159, 0, none⟩ = some (.int .i64 a1_0) := yc BK159.out 0; have hcz31_1 : w29.cell? ⟨gb159, 1, none⟩ = some (.string a1_1) := yc BK159.out 1; have hfz31_0 := yZ BK159.out 0; have hfz31_1 := yZ BK159.out 1; have hcz32_0 : w29.cell? ⟨gb158, 0, none⟩ = some (.slice A0_0 l0_0.length c0_0) := yc BK158.out 0; have hcz32_1 : w29.cell? ⟨gb158, 1, none⟩ = some (.slice A0_1 l0_1.length c0_1) := yc BK158.out 1; have hfz32_0 := yZ BK158.out 0; have hfz32_1 := yZ BK158.out 1) | (go_at_call 52; (with_reducible refine (spec_l1Write.calls a1_0 a1_1 (l0_0.length : Int) true _ A5.out).mono ?_); rintro e w33 ⟨rfl, hb⟩; replace BK158 := yK BK158.out hb; replace BK159 := yK BK159.out hb; replace BK160 := yK BK160.out hb; replace HB := aM (zT (zH HB.out) hb); (try clear hb); have hcz34_0 : w33.cell? ⟨gb158, 0, none⟩ = some (.slice A0_0 l0_0.length c0_0) := yc BK158.out 0; have hcz34_1 : w33.cell? ⟨gb158, 1, none⟩ = some (.slice A0_1 l0_1.length c0_1) := yc BK158.out 1; have hfz34_0 := yZ BK158.out 0; have hfz34_1 := yZ BK158.out 1) | ((with_reducible refine gate_callee (f := 65) rfl ?_); refine goesL_ (some 25) rfl rfl Try.func65 (by kernel_rfl) rfl #[.agg #[.slice A0_0 l0_0.length c0_0, .slice A0_1 l0_1.length c0_1]] rfl (by (try simp only [List.map_toArray, List.map_cons, List.map_nil]); first | done | rfl | (simp only [List.length_drop, List.length_take]; rfl)) ?_; (with_reducible refine (spec_l1Own.calls _ _ l0_0 _ _ l0_1 t163 t166 _ ?side1 ?side2 ?side3 ?side4 A21.out).mono ?_); (case side1 => exact cK HR0_0.out HB.out); (case side2 => exact HC0_0.out); (case side3 => exact cK HR0_1.out HB.out); (case side4 => exact HC0_1.out); rintro e w35 ⟨v164, v167, rfl, ho0, ho1, hb⟩; refine ⟨_, rfl, ?_⟩; have HO165 := aM (xL ho0 (zZ (zH HB.out))); have HO168 := aM (xL (Kd.R_newB ho1 (g := gb159) (o := .cells #[.int .i64 a1_0, .string a1_1] 42 (0, 0)) (yH BK159.out)) (zZ (zH HB.out))); replace BK158 := yK BK158.out hb; replace BK159 := yK BK159.out hb; replace BK160 := yK BK160.out hb; replace HB := aM (zT (zH HB.out) hb); (try clear hb); (try clear ho0); (try clear ho1); obtain ⟨Ao36, co36, eo36⟩ := Kd.R_slice HO165.out; subst eo36; have hcz37_0 : w35.cell? ⟨gb158, 0, none⟩ = some (.slice A0_0 l0_0.length c0_0) := yc BK158.out 0; have hcz37_1 : w35.cell? ⟨gb158, 1, none⟩ = some (.slice A0_1 l0_1.length c0_1) := yc BK158.out 1; have hfz37_0 := yZ BK158.out 0; have hfz37_1 := yZ BK158.out 1; obtain ⟨Ao38, co38, eo38⟩ := Kd.R_slice HO168.out; subst eo38; have hcz39_0 : w35.cell? ⟨gb159, 0, none⟩ = some (.int .i64 a1_0) := yc BK159.out 0; have hcz39_1 : w35.cell? ⟨gb159, 1, none⟩ = some (.string a1_1) := yc BK159.out 1; have hfz39_0 := yZ BK159.out 0; have hfz39_1 := yZ BK159.out 1) | ((with_reducible refine gate_builtin (b := .append) (xs := #[.tmp 27, .tmp 29]) rfl ?_); (try (refine gate_guard (by rfl) ?_; dsimp only)); at_builtin; refine Kd.R_append k42 (w0 := w) w.heap.size rfl (.tmp 27) (.tmp 29) 28 42 (.agg #[(.int .i64 0), (.string ⟨#[]⟩)]) 24 rfl Try.underlying28 info42 rfl (by decide) (by omega) (.slice Ao38 t166.length co38) t166 (⟨a1_0, a1_1⟩ : S42) [.int .i64 a1_0, .string a1_1] (fun k_ => k_ ≠ gb159) (fun _ => False) rfl (by first | (go_simp; done) | (go_simp; rfl)) ?aP (fun _ hk => hk.elim) ?aF ?aO ?aB ?aS ?aL ?_; (case aP => exact k42_mkM _ _ _ (⟨a1_0, a1_1⟩ : S42)); (case aB => exact (zH HB.out)); (case aF => exact (fun k_ hk => Kd.freshB (g := gb159) (o := .cells #[.int .i64 a1_0, .string a1_1] 42 (0, 0)) (by (with_reducible repeat (first | refine yN ?_ _ | refine yD ?_ | refine yA ?_ _)); refine yF ?_ NB159_158.out _; (with_reducible repeat (first | refine yN ?_ _ | refine yD ?_ | refine yA ?_ _)); refine yF ?_ NB159_158.out _; (with_reducible repeat (first | refine yN ?_ _ | refine yD ?_ | refine yA ?_ _)); exact BK159.out) k_ hk)); (case aO => exact (xH (xM (xF (p := ⟨gb158, 1, none⟩) (xF (p := ⟨gb158, 0, none⟩) (xT HO168.out BK158.out (by decide)) (fun _ hk => hk.2) (.slice Ao36 t163.length co36)) (fun _ hk => hk.2) (.slice Ao38 t166.length co38)) (fun _ hk => hk.1.2)))); (case aS => exact (zZ (zH HB.out))); (case aL => have := LMc22.out; omega); intro v170 w40 ho hb hg hat; rw [← Ny169.out] at ho; replace BK159 := aM (blk_grown (g := gb159) (o := .cells #[.int .i64 a1_0, .string a1_1] 42 (0, 0)) (by (with_reducible repeat (first | refine yN ?_ _ | refine yD ?_ | refine yA ?_ _)); refine yF ?_ NB159_158.out _; (with_reducible repeat (first | refine yN ?_ _ | refine yD ?_ | refine yA ?_ _)); refine yF ?_ NB159_158.out _; (with_reducible repeat (first | refine yN ?_ _ | refine yD ?_ | refine yA ?_ _)); exact BK159.out) hg (Kd.R_away HO168.out (fun _ hk => hk.2))); replace BK160 := aM (blk_grown (g := gb160) (o := .cells #[.slice none 0 0, .slice none 0 0] 30 (0, 0)) (by (with_reducible repeat (first | refine yN ?_ _ | refine yD ?_ | refine yA ?_ _)); refine yF ?_ NB160_158.out _; (with_reducible repeat (first | refine yN ?_ _ | refine yD ?_ | refine yA ?_ _)); refine yF ?_ NB160_158.out _; (with_reducible repeat (first | refine yN ?_ _ | refine yD ?_ | refine yA ?_ _)); exact BK160.out) hg (Kd.R_ne HO168.out BK160.out (by decide))); replace HO165 := aM (Kd.R_over' (xH ((x2 HO165.out BK158.out (by decide) (.slice Ao36 t163.length co36) (.slice Ao38 t166.length co38)))) (Kd.R_typed (xH ((x2 HO168.out BK158.out (by decide) (.slice Ao36 t163.length co36) (.slice Ao38 t166.length co38))))) (by decide) hg); replace BK158 := aM (blk_grown (g := gb158) (o := .cells #[.slice Ao36 t163.length co36, .slice Ao38 t166.length co38] 30 (0, 0)) (by (with_reducible repeat (first | refine yN ?_ _ | refine yD ?_ | refine yA ?_ _)); refine yP (cs := #[.slice Ao36 t163.length co36, .slice A0_1 l0_1.length c0_1]) ?_ 1 _ rfl; (with_reducible repeat (first | refine yN ?_ _ | refine yD ?_ | refine yA ?_ _)); refine yP (cs := #[.slice A0_0 l0_0.length c0_0, .slice A0_1 l0_1.length c0_1]) ?_ 0 _ rfl; (with_reducible repeat (first | refine yN ?_ _ | refine yD ?_ | refine yA ?_ _)); exact BK158.out) hg (Kd.R_ne HO168.out BK158.out (by decide))); replace HB := aM (hb); have HO171 := aM (ho); clear HO168; clear ho hb hg hat; obtain ⟨Ao41, co41, eo41⟩ := Kd.R_slice HO171.out; subst eo41; have hcz42_0 : w40.cell? ⟨gb158, 0, none⟩ = some (.slice Ao36 t163.length co36) := yc BK158.out 0; have hcz42_1 : w40.cell? ⟨gb158, 1, none⟩ = some (.slice Ao38 t166.length co38) := yc BK158.out 1; have hfz42_0 := yZ BK158.out 0; have hfz42_1 := yZ BK158.out 1; have hcz43_0 : w40.cell? ⟨gb160, 0, none⟩ = some (.slice none 0 0) := yc BK160.out 0; have hcz43_1 : w40.cell? ⟨gb160, 1, none⟩ = some (.slice none 0 0) := yc BK160.out 1; have hfz43_0 := yZ BK160.out 0; have hfz43_1 := yZ BK160.out 1))
     refine bodyPost_ret (results_ct rfl _ _ gb160 30 #[.slice Ao36 t163.length co36, .slice Ao41 y169.length co41] (0, 0) _ rfl (by (with_reducible repeat (first | refine yN ?_ _ | refine yD ?_ | refine yA ?_ _)); refine yP (cs := #[.slice Ao36 t163.length co36, .slice none 0 0]) ?_ 1 _ rfl; (with_reducible repeat (first | refine yN ?_ _ | refine yD ?_ | refine yA ?_ _)); refine yP (cs := #[.slice none 0 0, .slice none 0 0]) ?_ 0 _ rfl; (with_reducible repeat (first | refine yN ?_ _ | refine yD ?_ | refine yA ?_ _)); refine yF ?_ NB160_158.out _; (with_reducible repeat (first | refine yN ?_ _ | refine yD ?_ | refine yA ?_ _)); exact BK160.out) Try.underlying30 rfl (by kernel_rfl)) rfl ?_
     exact ⟨_, _, by first | rfl | (simp [errW_none, errW_some] <;> rfl) | (simp [*, errW_none, errW_some] <;> rfl), xH (xM (xF (p := ⟨gb160, 1, none⟩) (xF (p := ⟨gb160, 0, none⟩) (xF (p := ⟨gb158, 1, none⟩) (xT (xT HO165.out BK158.out (by decide)) BK160.out (by decide)) (fun _ hk => hk.1.2) (.slice Ao41 y169.length co41)) (fun _ hk => hk.2) (.slice Ao36 t163.length co36)) (fun _ hk => hk.2) (.slice Ao41 y169.length co41)) (fun _ hk => trivial)), xH (xM (xF (p := ⟨gb160, 1, none⟩) (xF (p := ⟨gb160, 0, none⟩) (xF (p := ⟨gb158, 1, none⟩) (xT (xT HO171.out BK158.out (by decide)) BK160.out (by decide)) (fun _ hk => hk.1.2) (.slice Ao41 y169.length co41)) (fun _ hk => hk.2) (.slice Ao36 t163.length co36)) (fun _ hk => hk.2) (.slice Ao41 y169.length co41)) (fun _ hk => trivial)), zH HB.out⟩
    ·rw [if_neg c22] at H
     exact absurd H (by simp)
  ·replace c6 := Bool.eq_false_iff.mpr c6
   subst c6
   have H1 : (some (([] : List ByteArray), ([] : List (S42)), false)) = some (r1, r2, r3) := by rw [if_neg (show ¬ (false = true) by decide)] at H; exact H
   clear H
   have H := H1
   clear H1
   simp only [Option.some.injEq, Prod.mk.injEq] at H
   obtain ⟨rfl, rfl, rfl⟩ := H
   go_enter Try.func23, Try.ntmps23
   go_wp2_with (first | ((with_reducible refine gate_dst (N := 2) rfl ?_); (try (refine gate_guard (by rfl) ?_; dsimp only)); refine box_event ?hg (N := 2) ?hd (cs := #[.slice A0_0 l0_0.length c0_0, .slice A0_1 l0_1.length c0_1]) (t := 30) ?hr ?_; (case hd => rfl); (case hg => rfl); (case hr => first | (go_simp; done) | (go_simp; rfl)); intro gb158 hg w44 hbox hb; have BK158 := aM (hbox); have GW158 := aM ((by rw [hg]; exact (zZ (zH HB.out)) : w.heap.size ≤ gb158)); have GE158 := aM ((by rw [hg]; exact (zZ (zH HB.out)) : w.heap.size ≤ gb158)); replace HB := aM (zT (zH HB.out) hb); clear hb hbox hg) | ((with_reducible refine gate_dst (N := 3) rfl ?_); (try (refine gate_guard (by rfl) ?_; dsimp only)); refine box_event ?hg (N := 3) ?hd (cs := #[.int .i64 a1_0, .string a1_1]) (t := 42) ?hr ?_; (case hd => rfl); (case hg => rfl); (case hr => first | (go_simp; done) | (go_simp; rfl)); intro gb159 hg w45 hbox hb; have BK159 := aM (hbox); have GW159 := aM ((by rw [hg]; exact (zZ (zH HB.out)) : w.heap.size ≤ gb159)); have GE159 := aM ((by rw [hg]; exact (zZ (zH HB.out)) : w.heap.size ≤ gb159)); replace HB := aM (zT (zH HB.out) hb); have NB158_159 := nL BK158.out hg; have NB159_158 := nR BK158.out hg; replace BK158 := yK BK158.out hb; clear hb hbox hg) | ((with_reducible refine gate_dst (N := 4) rfl ?_); (try (refine gate_guard (by rfl) ?_; dsimp only)); refine box_event ?hg (N := 4) ?hd (cs := #[.slice none 0 0, .slice none 0 0]) (t := 30) ?hr ?_; (case hd => rfl); (case hg => rfl); (case hr => first | (go_simp; done) | (go_simp; rfl)); intro gb160 hg w46 hbox hb; have BK160 := aM (hbox); have GW160 := aM ((by rw [hg]; exact (zZ (zH HB.out)) : w.heap.size ≤ gb160)); have GE160 := aM ((by rw [hg]; exact (zZ (zH HB.out)) : w.heap.size ≤ gb160)); replace HB := aM (zT (zH HB.out) hb); have NB158_160 := nL BK158.out hg; have NB160_158 := nR BK158.out hg; replace BK158 := yK BK158.out hb; have NB159_160 := nL BK159.out hg; have NB160_159 := nR BK159.out hg; replace BK159 := yK BK159.out hb; clear hb hbox hg; have hnb47 := NB158_159.out; have hnc47 := NB159_158.out; have hnb48 := NB158_160.out; have hnc48 := NB160_158.out; have hcz49_0 : w46.cell? ⟨gb158, 0, none⟩ = some (.slice A0_0 l0_0.length c0_0) := yc BK158.out 0; have hcz49_1 : w46.cell? ⟨gb158, 1, none⟩ = some (.slice A0_1 l0_1.length c0_1) := yc BK158.out 1; have hfz49_0 := yZ BK158.out 0; have hfz49_1 := yZ BK158.out 1) | ((with_reducible refine gate_callee (f := 14) rfl ?_); refine goesL_ (some 7) rfl rfl Try.func14 (by kernel_rfl) rfl #[.agg #[.slice A0_0 l0_0.length c0_0, .slice A0_1 l0_1.length c0_1]] rfl (by (try simp only [List.map_toArray, List.map_cons, List.map_nil]); first | done | rfl | (simp only [List.length_drop, List.length_take]; rfl)) ?_; (with_reducible refine (spec_GoodDevice.calls k _ _ l0_0 _ _ l0_1 true _ ?side1 ?side2 ?side3 ?side4 A3.out).mono ?_); (case side1 => exact cK HR0_0.out HB.out); (case side2 => exact HC0_0.out); (case side3 => exact cK HR0_1.out HB.out); (case side4 => exact HC0_1.out); rintro e w50 ⟨rfl, hb⟩; refine ⟨_, rfl, ?_⟩; replace BK158 := yK BK158.out hb; replace BK159 := yK BK159.out hb; replace BK160 := yK BK160.out hb; replace HB := aM (zT (zH HB.out) hb); (try clear hb); have hnb51 := NB159_160.out; have hnc51 := NB160_159.out; have hcz52_0 : w50.cell? ⟨gb159, 0, none⟩ = some (.int .i64 a1_0) := yc BK159.out 0; have hcz52_1 : w50.cell? ⟨gb159, 1, none⟩ = some (.string a1_1) := yc BK159.out 1; have hfz52_0 := yZ BK159.out 0; have hfz52_1 := yZ BK159.out 1; have hcz53_0 : w50.cell? ⟨gb158, 0, none⟩ = some (.slice A0_0 l0_0.length c0_0) := yc BK158.out 0; have hcz53_1 : w50.cell? ⟨gb158, 1, none⟩ = some (.slice A0_1 l0_1.length c0_1) := yc BK158.out 1; have hfz53_0 := yZ BK158.out 0; have hfz53_1 := yZ BK158.out 1) | (go_at_call 52; (with_reducible refine (spec_l1Write.calls a1_0 a1_1 (l0_0.length : Int) false _ A5.out).mono ?_); rintro e w54 ⟨rfl, hb⟩; replace BK158 := yK BK158.out hb; replace BK159 := yK BK159.out hb; replace BK160 := yK BK160.out hb; replace HB := aM (zT (zH HB.out) hb); (try clear hb); have hcz55_0 : w54.cell? ⟨gb160, 0, none⟩ = some (.slice none 0 0) := yc BK160.out 0; have hcz55_1 : w54.cell? ⟨gb160, 1, none⟩ = some (.slice none 0 0) := yc BK160.out 1; have hfz55_0 := yZ BK160.out 0; have hfz55_1 := yZ BK160.out 1))
   refine bodyPost_ret (results_ct rfl _ _ gb160 30 #[.slice none 0 0, .slice none 0 0] (0, 0) _ rfl (by (with_reducible repeat (first | refine yN ?_ _ | refine yD ?_ | refine yA ?_ _)); refine yP (cs := #[.slice none 0 0, .slice none 0 0]) ?_ 1 _ rfl; (with_reducible repeat (first | refine yN ?_ _ | refine yD ?_ | refine yA ?_ _)); refine yP (cs := #[.slice none 0 0, .slice none 0 0]) ?_ 0 _ rfl; (with_reducible repeat (first | refine yN ?_ _ | refine yD ?_ | refine yA ?_ _)); exact BK160.out) Try.underlying30 rfl (by kernel_rfl)) rfl ?_
   exact ⟨_, _, by first | rfl | (simp [errW_none, errW_some] <;> rfl) | (simp [*, errW_none, errW_some] <;> rfl), by first | exact Kd.R_nil _ _ _ _ _ | exact Kd.N_nil _ _ _ _ _ | exact Kd.V_nil _ _ _ _ _ | exact Kd.Q_nil _ _ _ _ _ | exact Kd.S_nil _ _ _ _ _, by first | exact Kd.R_nil _ _ _ _ _ | exact Kd.N_nil _ _ _ _ _ | exact Kd.V_nil _ _ _ _ _ | exact Kd.Q_nil _ _ _ _ _ | exact Kd.S_nil _ _ _ _ _, zH HB.out⟩
 ·replace c4 := Bool.eq_false_iff.mpr c4
  subst c4
  have H1 : (some (([] : List ByteArray), ([] : List (S42)), false)) = some (r1, r2, r3) := by rw [if_neg (show ¬ (false = true) by decide)] at H; exact H
  clear H
  have H := H1
  clear H1
  simp only [Option.some.injEq, Prod.mk.injEq] at H
  obtain ⟨rfl, rfl, rfl⟩ := H
  go_enter Try.func23, Try.ntmps23
  go_wp2_with (first | ((with_reducible refine gate_dst (N := 2) rfl ?_); (try (refine gate_guard (by rfl) ?_; dsimp only)); refine box_event ?hg (N := 2) ?hd (cs := #[.slice A0_0 l0_0.length c0_0, .slice A0_1 l0_1.length c0_1]) (t := 30) ?hr ?_; (case hd => rfl); (case hg => rfl); (case hr => first | (go_simp; done) | (go_simp; rfl)); intro gb158 hg w56 hbox hb; have BK158 := aM (hbox); have GW158 := aM ((by rw [hg]; exact (zZ (zH HB.out)) : w.heap.size ≤ gb158)); have GE158 := aM ((by rw [hg]; exact (zZ (zH HB.out)) : w.heap.size ≤ gb158)); replace HB := aM (zT (zH HB.out) hb); clear hb hbox hg) | ((with_reducible refine gate_dst (N := 3) rfl ?_); (try (refine gate_guard (by rfl) ?_; dsimp only)); refine box_event ?hg (N := 3) ?hd (cs := #[.int .i64 a1_0, .string a1_1]) (t := 42) ?hr ?_; (case hd => rfl); (case hg => rfl); (case hr => first | (go_simp; done) | (go_simp; rfl)); intro gb159 hg w57 hbox hb; have BK159 := aM (hbox); have GW159 := aM ((by rw [hg]; exact (zZ (zH HB.out)) : w.heap.size ≤ gb159)); have GE159 := aM ((by rw [hg]; exact (zZ (zH HB.out)) : w.heap.size ≤ gb159)); replace HB := aM (zT (zH HB.out) hb); have NB158_159 := nL BK158.out hg; have NB159_158 := nR BK158.out hg; replace BK158 := yK BK158.out hb; clear hb hbox hg) | ((with_reducible refine gate_dst (N := 4) rfl ?_); (try (refine gate_guard (by rfl) ?_; dsimp only)); refine box_event ?hg (N := 4) ?hd (cs := #[.slice none 0 0, .slice none 0 0]) (t := 30) ?hr ?_; (case hd => rfl); (case hg => rfl); (case hr => first | (go_simp; done) | (go_simp; rfl)); intro gb160 hg w58 hbox hb; have BK160 := aM (hbox); have GW160 := aM ((by rw [hg]; exact (zZ (zH HB.out)) : w.heap.size ≤ gb160)); have GE160 := aM ((by rw [hg]; exact (zZ (zH HB.out)) : w.heap.size ≤ gb160)); replace HB := aM (zT (zH HB.out) hb); have NB158_160 := nL BK158.out hg; have NB160_158 := nR BK158.out hg; replace BK158 := yK BK158.out hb; have NB159_160 := nL BK159.out hg; have NB160_159 := nR BK159.out hg; replace BK159 := yK BK159.out hb; clear hb hbox hg; have hnb59 := NB158_159.out; have hnc59 := NB159_158.out; have hnb60 := NB158_160.out; have hnc60 := NB160_158.out; have hcz61_0 : w58.cell? ⟨gb158, 0, none⟩ = some (.slice A0_0 l0_0.length c0_0) := yc BK158.out 0; have hcz61_1 : w58.cell? ⟨gb158, 1, none⟩ = some (.slice A0_1 l0_1.length c0_1) := yc BK158.out 1; have hfz61_0 := yZ BK158.out 0; have hfz61_1 := yZ BK158.out 1) | ((with_reducible refine gate_callee (f := 14) rfl ?_); refine goesL_ (some 7) rfl rfl Try.func14 (by kernel_rfl) rfl #[.agg #[.slice A0_0 l0_0.length c0_0, .slice A0_1 l0_1.length c0_1]] rfl (by (try simp only [List.map_toArray, List.map_cons, List.map_nil]); first | done | rfl | (simp only [List.length_drop, List.length_take]; rfl)) ?_; (with_reducible refine (spec_GoodDevice.calls k _ _ l0_0 _ _ l0_1 false _ ?side1 ?side2 ?side3 ?side4 A3.out).mono ?_); (case side1 => exact cK HR0_0.out HB.out); (case side2 => exact HC0_0.out); (case side3 => exact cK HR0_1.out HB.out); (case side4 => exact HC0_1.out); rintro e w62 ⟨rfl, hb⟩; refine ⟨_, rfl, ?_⟩; replace BK158 := yK BK158.out hb; replace BK159 := yK BK159.out hb; replace BK160 := yK BK160.out hb; replace HB := aM (zT (zH HB.out) hb); (try clear hb); have hnb63 := NB160_159.out; have hnc63 := NB159_160.out; have hcz64_0 : w62.cell? ⟨gb160, 0, none⟩ = some (.slice none 0 0) := yc BK160.out 0; have hcz64_1 : w62.cell? ⟨gb160, 1, none⟩ = some (.slice none 0 0) := yc BK160.out 1; have hfz64_0 := yZ BK160.out 0; have hfz64_1 := yZ BK160.out 1))
  refine bodyPost_ret (results_ct rfl _ _ gb160 30 #[.slice none 0 0, .slice none 0 0] (0, 0) _ rfl (by (with_reducible repeat (first | refine yN ?_ _ | refine yD ?_ | refine yA ?_ _)); refine yP (cs := #[.slice none 0 0, .slice none 0 0]) ?_ 1 _ rfl; (with_reducible repeat (first | refine yN ?_ _ | refine yD ?_ | refine yA ?_ _)); refine yP (cs := #[.slice none 0 0, .slice none 0 0]) ?_ 0 _ rfl; (with_reducible repeat (first | refine yN ?_ _ | refine yD ?_ | refine yA ?_ _)); exact BK160.out) Try.underlying30 rfl (by kernel_rfl)) rfl ?_
  exact ⟨_, _, by first | rfl | (simp [errW_none, errW_some] <;> rfl) | (simp [*, errW_none, errW_some] <;> rfl), by first | exact Kd.R_nil _ _ _ _ _ | exact Kd.N_nil _ _ _ _ _ | exact Kd.V_nil _ _ _ _ _ | exact Kd.Q_nil _ _ _ _ _ | exact Kd.S_nil _ _ _ _ _, by first | exact Kd.R_nil _ _ _ _ _ | exact Kd.N_nil _ _ _ _ _ | exact Kd.V_nil _ _ _ _ _ | exact Kd.Q_nil _ _ _ _ _ | exact Kd.S_nil _ _ _ _ _, zH HB.out⟩

/-! ### spec_l1Done: function 62 -/
def spec_l1Done.l0 : Nat → List ByteArray → List (S42) → Int → Int → Option (List ByteArray)
 | 0, _, _, _, _ => none
 | k + 1, x5, x11, x12, x13 => if x13 < x12 then (if 0 ≤ x13 then (if x13 < (x11.length : Int) then (if 0 ≤ ((rd_T42 x11 x13).f0) then (if ((rd_T42 x11 x13).f0) < (x5.length : Int) then (spec_l1Done.l0 k (x5.set (((rd_T42 x11 x13).f0) : Int).toNat ((rd_T42 x11 x13).f1)) x11 x12 (wrap64 (x13 + 1))) else (none)) else (none)) else (none)) else (none)) else (some x5)
def spec_l1Done.f (k : Nat) (l0 : List ByteArray) (l1 : List (S42)) : Option (List ByteArray) := (some (([] : List ByteArray) : List ByteArray)).bind fun y172 => (if y172.length + l0.length < 8796093022208 then (spec_l1Done.l0 k (y172 ++ l0) l1 (l1.length : Int) 0) else (none))
theorem spec_l1Done.mono_l : ∀ k, (∀ y0 y1 y2 y3, LeO (spec_l1Done.l0 k y0 y1 y2 y3) (spec_l1Done.l0 (k + 1) y0 y1 y2 y3))
 | 0 => fun _ _ _ _ r h => by change none = some r at h; cases h
 | k + 1 => by
  have ih0 := spec_l1Done.mono_l k
  ·intro y0 y1 y2 y3
   unfold spec_l1Done.l0
   repeat' first
   | (with_reducible exact ih0 _ _ _ _)
   | (with_reducible exact LeO.refl _)
   | (with_reducible exact LeO.none _)
   | (with_reducible refine LeO.ite ?_ ?_)
   | (with_reducible refine LeO.bind ?_ (fun _ => ?_))
   | exact ih0 _ _ _ _
   | exact LeO.none _
   | refine LeO.ite ?_ ?_
   | refine LeO.bind ?_ (fun _ => ?_)
theorem spec_l1Done.mono : ∀ a0 a1 k, LeO (spec_l1Done.f k a0 a1) (spec_l1Done.f (k + 1) a0 a1) := by
 intro a0 a1 k
 have ih0 := spec_l1Done.mono_l k
 unfold spec_l1Done.f
 repeat' first
   | (with_reducible exact ih0 _ _ _ _)
   | (with_reducible exact LeO.refl _)
   | (with_reducible exact LeO.none _)
   | (with_reducible refine LeO.ite ?_ ?_)
   | (with_reducible refine LeO.bind ?_ (fun _ => ?_))
   | exact ih0 _ _ _ _
   | exact LeO.none _
   | refine LeO.ite ?_ ?_
   | refine LeO.bind ?_ (fun _ => ?_)
set_option maxHeartbeats 8000000 in
set_option maxRecDepth 100000 in
theorem spec_l1Done.calls (k : Nat) (A0 : Option Addr) (c0 : Nat) (l0 : List ByteArray) (A1 : Option Addr) (c1 : Nat) (l1 : List (S42)) (r : List ByteArray) (w : World) (hr0 : Kd.C Kd.string w A0 l0.length l0) (hc0 : l0.length ≤ c0) (hr1 : Kd.C k42 w A1 l1.length l1) (hc1 : l1.length ≤ c1) (h : spec_l1Done.f k l0 l1 = some r) :
  Calls Try.prog 62 #[.slice A0 l0.length c0, .slice A1 l1.length c1] w fun e w' => ∃ v0_ : Value, e = .returned (v0_) ∧ Kd.R Kd.string 9 w' w.heap.size (fun _ => True) v0_ r ∧ Below w.heap.size w w' := by
 have hu42 := Try.underlying42
 have HR0 := aM hr0
 have HC0 := aM hc0
 clear hr0 hc0
 have HR1 := aM hr1
 have HC1 := aM hc1
 clear hr1 hc1
 have HB := aM (Below.refl w.heap.size w)
 have H : ((some (([] : List ByteArray) : List ByteArray)).bind fun y172 => (if y172.length + l0.length < 8796093022208 then (spec_l1Done.l0 k (y172 ++ l0) l1 (l1.length : Int) 0) else (none))) = some r := h
 clear h
 obtain ⟨y172, hy172⟩ : ∃ y_ : List ByteArray, y_ = (([] : List ByteArray)) := ⟨_, rfl⟩
 replace H : (if y172.length + l0.length < 8796093022208 then (spec_l1Done.l0 k (y172 ++ l0) l1 (l1.length : Int) 0) else (none)) = some r := by first | (rw [hy172]; with_reducible exact H) | (have H2_ := (Option.bind_some _ _).symm.trans H; rw [hy172]; with_reducible exact H2_) | (have H2_ := (Option.bind_some _ _).symm.trans H; with_reducible exact H2_) | with_reducible exact H | (rw [hy172]; exact H) | exact H
 have Ny172 := aM hy172
 clear hy172
 by_cases c3 : y172.length + l0.length < 8796093022208
 ·rw [if_pos c3] at H
  have LMc3 := aM c3
  clear c3
  obtain ⟨y175, hy175⟩ : ∃ y_ : List ByteArray, y_ = (y172 ++ l0) := ⟨_, rfl⟩
  replace H : (spec_l1Done.l0 k y175 l1 (l1.length : Int) 0) = some r := by first | (rw [hy175]; with_reducible exact H) | (have H2_ := (Option.bind_some _ _).symm.trans H; rw [hy175]; with_reducible exact H2_) | (have H2_ := (Option.bind_some _ _).symm.trans H; with_reducible exact H2_) | with_reducible exact H | (rw [hy175]; exact H) | exact H
  have Ny175 := aM hy175
  clear hy175
  have H' := aM H
  clear H
  go_enter Try.func62, Try.ntmps62
  go_wp2_with (first | ((with_reducible refine gate_dst (N := 8) rfl ?_); refine Kd.R_lit Kd.string _ 9 ?hg (N := 8) ?hd (xs := ([] : List ByteArray)) (inner := []) (ok := fun _ => True) (okp := fun _ => True) ?hr ?hp (fun _ hk => hk) trivial (Below.refl _ _) (Nat.le_refl _) (by simp) ?_; (case hd => rfl); (case hg => rfl); (case hr => first | (go_simp; done) | (go_simp; rfl)); (case hp => exact (Reps.none _ _)); intro v173 w4 ho5 hb hg_ hnew_; clear hg_ hnew_; (first | rw [← Ny172.out] at ho5 | (simp only [Int.reduceToNat] at ho5; rw [← Ny172.out] at ho5)); have HO174 := aM (xL ho5 (zZ (zH HB.out))); replace HB := aM (zT (zH HB.out) hb); clear hb ho5) | ((with_reducible refine gate_builtin (b := .append) (xs := #[.tmp 8, .tmp 9]) rfl ?_); at_builtin; refine Kd.R_append_rows Kd.string (w0 := w) w.heap.size rfl (.tmp 8) (.tmp 9) 22 9 (.string ⟨#[]⟩) 16 rfl Try.underlying22 info9 rfl (by decide) (by omega) v173 y172 l0 _ _ _ (fun _ => True) (fun _ => False) rfl rfl ?aO ?aR (fun _ _ h => h) (fun _ h => h.elim) ?aF ?aB ?aS ?aL ?_; (case aR => exact cK HR0.out HB.out); (case aB => exact (zH HB.out)); (case aF => exact (fun _ _ => trivial)); (case aO => exact (xH HO174.out)); (case aS => exact (zZ (zH HB.out))); (case aL => have := LMc3.out; omega); intro v176 w6 ho hb hg hat; rw [← Ny175.out] at ho; replace HB := aM (hb); have HO177 := aM (ho); clear HO174; clear ho hb hg hat))
  go_loopg [13] k (fun kq v13 w' => ∃ (x5_1 : List ByteArray) (x13_1 : Int), v13 = .int .i64 x13_1 ∧ Aside0 (spec_l1Done.l0 kq x5_1 l1 (l1.length : Int) x13_1 = some r) ∧ Aside0 (kq ≤ k) ∧ Aside0 (Kd.R Kd.string 9 w' w.heap.size (fun _ => True) v176 x5_1) ∧ Aside0 (Below w.heap.size w w'))
  case atStart => exact ⟨(y175), (0), (by first | rfl | (simp; done) | (simp [*]; done)), H', ⟨Nat.le_refl _⟩, ⟨xH HO177.out⟩, ⟨zH HB.out⟩⟩
  case round =>
   clear H'
   (try clear c1); (try clear p2); (try clear c3); (try clear c6)
   obtain ⟨x5_1, x13_1, rfl, HA, HK1, p0', HB⟩ := hrel
   cases gk with
   | zero => exact absurd HA.out (fun h_ => by change none = some _ at h_; cases h_)
   | succ k1 =>
    have H := HA.out
    clear HA
    simp only [spec_l1Done.l0] at H
    by_cases c7 : x13_1 < (l1.length : Int)
    ·rw [if_pos c7] at H
     have c7b0 : decide (x13_1 < (l1.length : Int)) = true := decide_eq_true c7
     clear c7
     by_cases c8 : 0 ≤ x13_1
     ·rw [if_pos c8] at H
      have c8b0 : decide (0 ≤ x13_1) = true := decide_eq_true c8
      clear c8
      by_cases c9 : x13_1 < (l1.length : Int)
      ·rw [if_pos c9] at H
       have c9b0 : decide (x13_1 < (l1.length : Int)) = true := decide_eq_true c9
       clear c9
       by_cases c10 : 0 ≤ ((rd_T42 l1 x13_1).f0)
       ·rw [if_pos c10] at H
        have c10b0 : decide (0 ≤ ((rd_T42 l1 x13_1).f0)) = true := decide_eq_true c10
        clear c10
        by_cases c11 : ((rd_T42 l1 x13_1).f0) < (x5_1.length : Int)
        ·rw [if_pos c11] at H
         have c11b0 : decide (((rd_T42 l1 x13_1).f0) < (x5_1.length : Int)) = true := decide_eq_true c11
         clear c11
         obtain ⟨y180, hy180⟩ : ∃ y_ : List ByteArray, y_ = (x5_1.set (((rd_T42 l1 x13_1).f0) : Int).toNat ((rd_T42 l1 x13_1).f1)) := ⟨_, rfl⟩
         replace H : (spec_l1Done.l0 k1 y180 l1 (l1.length : Int) (wrap64 (x13_1 + 1))) = some r := by first | (rw [hy180]; with_reducible exact H) | (have H2_ := (Option.bind_some _ _).symm.trans H; rw [hy180]; with_reducible exact H2_) | (have H2_ := (Option.bind_some _ _).symm.trans H; with_reducible exact H2_) | with_reducible exact H | (rw [hy180]; exact H) | exact H
         have Ny180 := aM hy180
         clear hy180
         have H' := aM H
         clear H
         have p178 : 0 ≤ (x13_1 : Int) := of_decide_eq_true (by first | (with_reducible assumption) | assumption)
         have q178 : x13_1 < (l1.length : Int) := of_decide_eq_true (by first | (with_reducible assumption) | assumption)
         obtain ⟨ad178, e178, hx178_0, hx178_1⟩ := at_T42 HR1.out x13_1 p178 q178
         cases e178
         replace hx178_0 := (HB.out.cell (World.block_lt_of_cell? w _ hx178_0)).trans hx178_0
         replace hx178_1 := (HB.out.cell (World.block_lt_of_cell? w _ hx178_1)).trans hx178_1
         replace p178 := eq_true p178
         replace q178 := eq_true q178
         go_wp2_with (first | ((with_reducible refine gate_dst (N := 7) rfl ?_); refine box_event ?hg (N := 7) ?hd (cs := #[.int .i64 0, .string (⟨#[]⟩ : ByteArray)]) (t := 42) ?hr ?_; (case hd => rfl); (case hg => rfl); (case hr => first | (go_simp; done) | (go_simp; rfl)); intro gb179 hg w13 hbox hb; replace p0' := xK p0'.out hb; have BK179 := aM (hbox); have GW179 := aM ((by rw [hg]; exact (zZ (zH HB.out)) : w.heap.size ≤ gb179)); have GE179 := aM ((by rw [hg]; exact (zZ (zH HB.out)) : w.heap.size ≤ gb179)); replace HB := aM (zT (zH HB.out) hb); clear hb hbox hg; have hcz14_0 : w13.cell? ⟨gb179, 0, none⟩ = some (.int .i64 0) := yc BK179.out 0; have hcz14_1 : w13.cell? ⟨gb179, 1, none⟩ = some (.string (⟨#[]⟩ : ByteArray)) := yc BK179.out 1; have hfz14_0 := yZ BK179.out 0; have hfz14_1 := yZ BK179.out 1) | ((with_reducible refine gate_store (t := 42) (p := 7) rfl ?_); refine store_event (t := 42) (p := 7) (v := ?vo_w15) (w1 := ((w13.setCell ⟨gb179, 0, none⟩ (.int .i64 ((rd_T42 l1 x13_1).f0))).setCell ⟨gb179, 1, none⟩ (.string ((rd_T42 l1 x13_1).f1)))) ?hg ?ho ?hn ?hr ?_; (case ho => rfl); (case hg => rfl); (case hn => rfl); (case hr => first | (go_simp; done) | (go_simp; rfl)); intro w15 hw; replace p0' : Aside0 (Kd.R Kd.string 9 w15 w.heap.size (fun _ => True) v176 x5_1) := ⟨(by rw [hw]; exact (xH (xM (xF (p := ⟨gb179, 1, none⟩) (xF (p := ⟨gb179, 0, none⟩) (xT p0'.out BK179.out (by decide)) (fun _ hk => hk.2) (.int .i64 ((rd_T42 l1 x13_1).f0))) (fun _ hk => hk.2) (.string ((rd_T42 l1 x13_1).f1))) (fun _ hk => trivial))))⟩; replace BK179 : Aside0 (w15.heap[gb179]? = some (.cells #[.int .i64 ((rd_T42 l1 x13_1).f0), .string ((rd_T42 l1 x13_1).f1)] 42 (0, 0))) := ⟨(by rw [hw]; exact (by (with_reducible repeat (first | refine yN ?_ _ | refine yD ?_ | refine yA ?_ _)); refine yP (cs := #[.int .i64 ((rd_T42 l1 x13_1).f0), .string (⟨#[]⟩ : ByteArray)]) ?_ 1 _ rfl; (with_reducible repeat (first | refine yN ?_ _ | refine yD ?_ | refine yA ?_ _)); refine yP (cs := #[.int .i64 0, .string (⟨#[]⟩ : ByteArray)]) ?_ 0 _ rfl; (with_reducible repeat (first | refine yN ?_ _ | refine yD ?_ | refine yA ?_ _)); exact BK179.out))⟩; replace HB : Aside0 (Below w.heap.size w w15) := ⟨(by rw [hw]; exact (zH HB.out))⟩; clear hw; have hcz16_0 : w15.cell? ⟨gb179, 0, none⟩ = some (.int .i64 ((rd_T42 l1 x13_1).f0)) := yc BK179.out 0; have hcz16_1 : w15.cell? ⟨gb179, 1, none⟩ = some (.string ((rd_T42 l1 x13_1).f1)) := yc BK179.out 1; have hfz16_0 := yZ BK179.out 0; have hfz16_1 := yZ BK179.out 1; have p12 : 0 ≤ (((rd_T42 l1 x13_1).f0) : Int) := of_decide_eq_true (by first | (with_reducible assumption) | assumption); have q12 : (((rd_T42 l1 x13_1).f0) : Int) < ((x5_1.length : Int) : Int) := of_decide_eq_true (by first | (with_reducible assumption) | assumption); obtain ⟨go12, co12, eo12, gb12, gl12, cl12, HG12⟩ := Kd.R_form p0'.out (by omega); (first | cases eo12 | (injection eo12 with ea_ en_ ec_; (first | subst ea_ | (injection ea_ with ea_; subst ea_)); subst ec_; clear en_)); have GB12 := aM gb12; have GG12 := aM HG12; clear gb12 gl12 HG12; obtain ⟨hx12_0, hf12_0⟩ := Kd.R_celln (⟨#[]⟩ : ByteArray) p0'.out (((rd_T42 l1 x13_1).f0) : Int) p12 q12; replace p12 := eq_true p12; replace q12 := eq_true q12; obtain ⟨hy17_, hz17_⟩ := Kd.R_celln (⟨#[]⟩ : ByteArray) p0'.out (((rd_T42 l1 x13_1).f0) : Int) (of_decide_eq_true (by first | (with_reducible assumption) | assumption)) (of_decide_eq_true (by first | (with_reducible assumption) | assumption)); have HP17 := Kd.R_putg p0'.out (((rd_T42 l1 x13_1).f0) : Int) ((rd_T42 l1 x13_1).f1)) | ((with_reducible refine gate_store (t := 9) (p := 22) rfl ?_); refine store_event (t := 9) (p := 22) (v := ?vo_w18) (w1 := (w15.setCell ⟨go12, (((rd_T42 l1 x13_1).f0) : Int).toNat, none⟩ (.string ((rd_T42 l1 x13_1).f1)))) ?hg ?ho ?hn ?hr ?_; (case ho => rfl); (case hg => rfl); (case hn => rfl); (case hr => first | (go_simp; done) | (go_simp; rfl)); intro w18 hw; have hg : w15.grownBy w18 (some go12) := (by rw [hw]; exact HP17.2); have hp_ : Kd.R Kd.string 9 w18 w.heap.size (fun _ => True) (.slice (some ⟨go12, 0, none⟩) x5_1.length co12) y180 := (by rw [hw, Ny180.out]; exact HP17.1); clear HP17; replace BK179 := aM (blk_grown (g := gb179) (o := .cells #[.int .i64 ((rd_T42 l1 x13_1).f0), .string ((rd_T42 l1 x13_1).f1)] 42 (0, 0)) (yH BK179.out) hg (Kd.R_ne p0'.out BK179.out (by decide))); replace p0' := aM (hp_); replace HB := aM ((by rw [hw]; exact zS (HB.out) GB12.out : Below w.heap.size w w18)); clear hg hw hp_))
         go_roundg k1
         case measure => have := HK1.out; omega
         case rel => exact ⟨(y180), (wrap64 (x13_1 + 1)), (by first | rfl | (simp; done) | (simp [*]; done)), H', ⟨by have := HK1.out; omega⟩, ⟨xH p0'.out⟩, ⟨zH HB.out⟩⟩
        ·rw [if_neg c11] at H
         exact absurd H (by simp)
       ·rw [if_neg c10] at H
        exact absurd H (by simp)
      ·rw [if_neg c9] at H
       exact absurd H (by simp)
     ·rw [if_neg c8] at H
      exact absurd H (by simp)
    ·rw [if_neg c7] at H
     have c7b0 : decide (x13_1 < (l1.length : Int)) = false := decide_eq_false c7
     clear c7
     obtain rfl := Option.some.inj H
     go_wp2
     go_ret
     exact ⟨_, by first | rfl | (simp [errW_none, errW_some] <;> rfl) | (simp [*, errW_none, errW_some] <;> rfl), xH p0'.out, zH HB.out⟩
 ·rw [if_neg c3] at H
  exact absurd H (by simp)

/-! ### spec_FlushDevice: function 28 -/
def spec_FlushDevice.f (k : Nat) (l0_0 : List ByteArray) (l0_1 : List (S42)) : Option (List ByteArray × (List (S42)) × Bool) := (spec_GoodDevice.f k l0_0 l0_1).bind fun t183 => (if t183 = true then ((spec_l1Done.f k l0_0 l0_1).bind fun t184 => (some (t184, ([] : List (S42)), true))) else (some (([] : List ByteArray), ([] : List (S42)), false)))
theorem spec_FlushDevice.mono : ∀ a0 a1 k, LeO (spec_FlushDevice.f k a0 a1) (spec_FlushDevice.f (k + 1) a0 a1) := by
 intro a0 a1 k
 unfold spec_FlushDevice.f
 repeat' first
   | (with_reducible exact spec_GoodDevice.mono _ _ _)
   | (with_reducible exact spec_l1Done.mono _ _ _)
   | (with_reducible exact LeO.refl _)
   | (with_reducible exact LeO.none _)
   | (with_reducible refine LeO.ite ?_ ?_)
   | (with_reducible refine LeO.bind ?_ (fun _ => ?_))
   | exact spec_GoodDevice.mono _ _ _
   | exact spec_l1Done.mono _ _ _
   | exact LeO.none _
   | refine LeO.ite ?_ ?_
   | refine LeO.bind ?_ (fun _ => ?_)
set_option maxHeartbeats 8000000 in
set_option maxRecDepth 100000 in
theorem spec_FlushDevice.calls (k : Nat) (A0_0 : Option Addr) (c0_0 : Nat) (l0_0 : List ByteArray) (A0_1 : Option Addr) (c0_1 : Nat) (l0_1 : List (S42)) (r1 : List ByteArray) (r2 : List (S42)) (r3 : Bool) (w : World) (hr0_0 : Kd.C Kd.string w A0_0 l0_0.length l0_0) (hc0_0 : l0_0.length ≤ c0_0) (hr0_1 : Kd.C k42 w A0_1 l0_1.length l0_1) (hc0_1 : l0_1.length ≤ c0_1) (h : spec_FlushDevice.f k l0_0 l0_1 = some (r1, r2, r3)) :
  Calls Try.prog 28 #[.agg #[.slice A0_0 l0_0.length c0_0, .slice A0_1 l0_1.length c0_1]] w fun e w' => ∃ v0_ v1_ : Value, e = .returned (.tuple #[.agg #[v0_, v1_], .bool r3]) ∧ Kd.R Kd.string 9 w' w.heap.size (fun _ => True) v0_ r1 ∧ Kd.R k42 42 w' w.heap.size (fun _ => True) v1_ r2 ∧ Below w.heap.size w w' := by
 have hu30 := Try.underlying30
 have HR0_0 := aM hr0_0
 have HC0_0 := aM hc0_0
 clear hr0_0 hc0_0
 have HR0_1 := aM hr0_1
 have HC0_1 := aM hc0_1
 clear hr0_1 hc0_1
 have HB := aM (Below.refl w.heap.size w)
 have H : ((spec_GoodDevice.f k l0_0 l0_1).bind fun t183 => (if t183 = true then ((spec_l1Done.f k l0_0 l0_1).bind fun t184 => (some (t184, ([] : List (S42)), true))) else (some (([] : List ByteArray), ([] : List (S42)), false)))) = some (r1, r2, r3) := h
 clear h
 replace H := Option.bind_eq_some_iff.mp H
 obtain ⟨t183, A20, H⟩ := H
 replace H : (if t183 = true then ((spec_l1Done.f k l0_0 l0_1).bind fun t184 => (some (t184, ([] : List (S42)), true))) else (some (([] : List ByteArray), ([] : List (S42)), false))) = some (r1, r2, r3) := H
 have A2 := aM A20
 clear A20
 by_cases c3 : t183 = true
 ·subst c3
  have H1 : ((spec_l1Done.f k l0_0 l0_1).bind fun t184 => (some (t184, ([] : List (S42)), true))) = some (r1, r2, r3) := by rw [if_pos rfl] at H; exact H
  clear H
  have H := H1
  clear H1
  replace H := Option.bind_eq_some_iff.mp H
  obtain ⟨t184, A40, H⟩ := H
  replace H : (some (t184, ([] : List (S42)), true)) = some (r1, r2, r3) := H
  have A4 := aM A40
  clear A40
  simp only [Option.some.injEq, Prod.mk.injEq] at H
  obtain ⟨rfl, rfl, rfl⟩ := H
  go_enter Try.func28, Try.ntmps28
  go_wp2_with (first | ((with_reducible refine gate_dst (N := 1) rfl ?_); refine box_event ?hg (N := 1) ?hd (cs := #[.slice A0_0 l0_0.length c0_0, .slice A0_1 l0_1.length c0_1]) (t := 30) ?hr ?_; (case hd => rfl); (case hg => rfl); (case hr => first | (go_simp; done) | (go_simp; rfl)); intro gb181 hg w5 hbox hb; have BK181 := aM (hbox); have GW181 := aM ((by rw [hg]; exact (zZ (zH HB.out)) : w.heap.size ≤ gb181)); have GE181 := aM ((by rw [hg]; exact (zZ (zH HB.out)) : w.heap.size ≤ gb181)); replace HB := aM (zT (zH HB.out) hb); clear hb hbox hg) | ((with_reducible refine gate_dst (N := 2) rfl ?_); refine box_event ?hg (N := 2) ?hd (cs := #[.slice none 0 0, .slice none 0 0]) (t := 30) ?hr ?_; (case hd => rfl); (case hg => rfl); (case hr => first | (go_simp; done) | (go_simp; rfl)); intro gb182 hg w6 hbox hb; have BK182 := aM (hbox); have GW182 := aM ((by rw [hg]; exact (zZ (zH HB.out)) : w.heap.size ≤ gb182)); have GE182 := aM ((by rw [hg]; exact (zZ (zH HB.out)) : w.heap.size ≤ gb182)); replace HB := aM (zT (zH HB.out) hb); have NB181_182 := nL BK181.out hg; have NB182_181 := nR BK181.out hg; replace BK181 := yK BK181.out hb; clear hb hbox hg; have hnb7 := NB181_182.out; have hnc7 := NB182_181.out; have hcz8_0 : w6.cell? ⟨gb181, 0, none⟩ = some (.slice A0_0 l0_0.length c0_0) := yc BK181.out 0; have hcz8_1 : w6.cell? ⟨gb181, 1, none⟩ = some (.slice A0_1 l0_1.length c0_1) := yc BK181.out 1; have hfz8_0 := yZ BK181.out 0; have hfz8_1 := yZ BK181.out 1) | ((with_reducible refine gate_callee (f := 14) rfl ?_); refine goesL_ (some 5) rfl rfl Try.func14 (by kernel_rfl) rfl #[.agg #[.slice A0_0 l0_0.length c0_0, .slice A0_1 l0_1.length c0_1]] rfl (by (try simp only [List.map_toArray, List.map_cons, List.map_nil]); first | done | rfl | (simp only [List.length_drop, List.length_take]; rfl)) ?_; (with_reducible refine (spec_GoodDevice.calls k _ _ l0_0 _ _ l0_1 true _ ?side1 ?side2 ?side3 ?side4 A2.out).mono ?_); (case side1 => exact cK HR0_0.out HB.out); (case side2 => exact HC0_0.out); (case side3 => exact cK HR0_1.out HB.out); (case side4 => exact HC0_1.out); rintro e w9 ⟨rfl, hb⟩; refine ⟨_, rfl, ?_⟩; replace BK181 := yK BK181.out hb; replace BK182 := yK BK182.out hb; replace HB := aM (zT (zH HB.out) hb); (try clear hb); have hcz10_0 : w9.cell? ⟨gb181, 0, none⟩ = some (.slice A0_0 l0_0.length c0_0) := yc BK181.out 0; have hcz10_1 : w9.cell? ⟨gb181, 1, none⟩ = some (.slice A0_1 l0_1.length c0_1) := yc BK181.out 1; have hfz10_0 := yZ BK181.out 0; have hfz10_1 := yZ BK181.out 1) | ((with_reducible refine gate_callee (f := 62) rfl ?_); refine goesL_ (some 12) rfl rfl Try.func62 (by kernel_rfl) rfl #[.slice A0_0 l0_0.length c0_0, .slice A0_1 l0_1.length c0_1] rfl (by (try simp only [List.map_toArray, List.map_cons, List.map_nil]); first | done | rfl | (simp only [List.length_drop, List.length_take]; rfl)) ?_; (with_reducible refine (spec_l1Done.calls k _ _ l0_0 _ _ l0_1 t184 _ ?side1 ?side2 ?side3 ?side4 A4.out).mono ?_); (case side1 => exact cK HR0_0.out HB.out); (case side2 => exact HC0_0.out); (case side3 => exact cK HR0_1.out HB.out); (case side4 => exact HC0_1.out); rintro e w11 ⟨v185, rfl, ho0, hb⟩; refine ⟨_, rfl, ?_⟩; have HO186 := aM (xL ho0 (zZ (zH HB.out))); replace BK181 := yK BK181.out hb; replace BK182 := yK BK182.out hb; replace HB := aM (zT (zH HB.out) hb); (try clear hb); (try clear ho0); obtain ⟨Ao12, co12, eo12⟩ := Kd.R_slice HO186.out; subst eo12; have hcz13_0 : w11.cell? ⟨gb182, 0, none⟩ = some (.slice none 0 0) := yc BK182.out 0; have hcz13_1 : w11.cell? ⟨gb182, 1, none⟩ = some (.slice none 0 0) := yc BK182.out 1; have hfz13_0 := yZ BK182.out 0; have hfz13_1 := yZ BK182.out 1))
  refine bodyPost_ret (results_ct rfl _ _ gb182 30 #[.slice Ao12 t184.length co12, .slice none 0 0] (0, 0) _ rfl (by (with_reducible repeat (first | refine yN ?_ _ | refine yD ?_ | refine yA ?_ _)); refine yP (cs := #[.slice Ao12 t184.length co12, .slice none 0 0]) ?_ 1 _ rfl; (with_reducible repeat (first | refine yN ?_ _ | refine yD ?_ | refine yA ?_ _)); refine yP (cs := #[.slice none 0 0, .slice none 0 0]) ?_ 0 _ rfl; (with_reducible repeat (first | refine yN ?_ _ | refine yD ?_ | refine yA ?_ _)); exact BK182.out) Try.underlying30 rfl (by kernel_rfl)) rfl ?_
  exact ⟨_, _, by first | rfl | (simp [errW_none, errW_some] <;> rfl) | (simp [*, errW_none, errW_some] <;> rfl), xH (xM (xF (p := ⟨gb182, 1, none⟩) (xF (p := ⟨gb182, 0, none⟩) (xT HO186.out BK182.out (by decide)) (fun _ hk => hk.2) (.slice Ao12 t184.length co12)) (fun _ hk => hk.2) (.slice none 0 0)) (fun _ hk => trivial)), by first | exact Kd.R_nil _ _ _ _ _ | exact Kd.N_nil _ _ _ _ _ | exact Kd.V_nil _ _ _ _ _ | exact Kd.Q_nil _ _ _ _ _ | exact Kd.S_nil _ _ _ _ _, zH HB.out⟩
 ·replace c3 := Bool.eq_false_iff.mpr c3
  subst c3
  have H1 : (some (([] : List ByteArray), ([] : List (S42)), false)) = some (r1, r2, r3) := by rw [if_neg (show ¬ (false = true) by decide)] at H; exact H
  clear H
  have H := H1
  clear H1
  simp only [Option.some.injEq, Prod.mk.injEq] at H
  obtain ⟨rfl, rfl, rfl⟩ := H
  go_enter Try.func28, Try.ntmps28
  go_wp2_with (first | ((with_reducible refine gate_dst (N := 1) rfl ?_); refine box_event ?hg (N := 1) ?hd (cs := #[.slice A0_0 l0_0.length c0_0, .slice A0_1 l0_1.length c0_1]) (t := 30) ?hr ?_; (case hd => rfl); (case hg => rfl); (case hr => first | (go_simp; done) | (go_simp; rfl)); intro gb181 hg w14 hbox hb; have BK181 := aM (hbox); have GW181 := aM ((by rw [hg]; exact (zZ (zH HB.out)) : w.heap.size ≤ gb181)); have GE181 := aM ((by rw [hg]; exact (zZ (zH HB.out)) : w.heap.size ≤ gb181)); replace HB := aM (zT (zH HB.out) hb); clear hb hbox hg) | ((with_reducible refine gate_dst (N := 2) rfl ?_); refine box_event ?hg (N := 2) ?hd (cs := #[.slice none 0 0, .slice none 0 0]) (t := 30) ?hr ?_; (case hd => rfl); (case hg => rfl); (case hr => first | (go_simp; done) | (go_simp; rfl)); intro gb182 hg w15 hbox hb; have BK182 := aM (hbox); have GW182 := aM ((by rw [hg]; exact (zZ (zH HB.out)) : w.heap.size ≤ gb182)); have GE182 := aM ((by rw [hg]; exact (zZ (zH HB.out)) : w.heap.size ≤ gb182)); replace HB := aM (zT (zH HB.out) hb); have NB181_182 := nL BK181.out hg; have NB182_181 := nR BK181.out hg; replace BK181 := yK BK181.out hb; clear hb hbox hg; have hnb16 := NB181_182.out; have hnc16 := NB182_181.out; have hcz17_0 : w15.cell? ⟨gb181, 0, none⟩ = some (.slice A0_0 l0_0.length c0_0) := yc BK181.out 0; have hcz17_1 : w15.cell? ⟨gb181, 1, none⟩ = some (.slice A0_1 l0_1.length c0_1) := yc BK181.out 1; have hfz17_0 := yZ BK181.out 0; have hfz17_1 := yZ BK181.out 1) | ((with_reducible refine gate_callee (f := 14) rfl ?_); refine goesL_ (some 5) rfl rfl Try.func14 (by kernel_rfl) rfl #[.agg #[.slice A0_0 l0_0.length c0_0, .slice A0_1 l0_1.length c0_1]] rfl (by (try simp only [List.map_toArray, List.map_cons, List.map_nil]); first | done | rfl | (simp only [List.length_drop, List.length_take]; rfl)) ?_; (with_reducible refine (spec_GoodDevice.calls k _ _ l0_0 _ _ l0_1 false _ ?side1 ?side2 ?side3 ?side4 A2.out).mono ?_); (case side1 => exact cK HR0_0.out HB.out); (case side2 => exact HC0_0.out); (case side3 => exact cK HR0_1.out HB.out); (case side4 => exact HC0_1.out); rintro e w18 ⟨rfl, hb⟩; refine ⟨_, rfl, ?_⟩; replace BK181 := yK BK181.out hb; replace BK182 := yK BK182.out hb; replace HB := aM (zT (zH HB.out) hb); (try clear hb); have hcz19_0 : w18.cell? ⟨gb182, 0, none⟩ = some (.slice none 0 0) := yc BK182.out 0; have hcz19_1 : w18.cell? ⟨gb182, 1, none⟩ = some (.slice none 0 0) := yc BK182.out 1; have hfz19_0 := yZ BK182.out 0; have hfz19_1 := yZ BK182.out 1))
  refine bodyPost_ret (results_ct rfl _ _ gb182 30 #[.slice none 0 0, .slice none 0 0] (0, 0) _ rfl (by (with_reducible repeat (first | refine yN ?_ _ | refine yD ?_ | refine yA ?_ _)); refine yP (cs := #[.slice none 0 0, .slice none 0 0]) ?_ 1 _ rfl; (with_reducible repeat (first | refine yN ?_ _ | refine yD ?_ | refine yA ?_ _)); refine yP (cs := #[.slice none 0 0, .slice none 0 0]) ?_ 0 _ rfl; (with_reducible repeat (first | refine yN ?_ _ | refine yD ?_ | refine yA ?_ _)); exact BK182.out) Try.underlying30 rfl (by kernel_rfl)) rfl ?_
  exact ⟨_, _, by first | rfl | (simp [errW_none, errW_some] <;> rfl) | (simp [*, errW_none, errW_some] <;> rfl), by first | exact Kd.R_nil _ _ _ _ _ | exact Kd.N_nil _ _ _ _ _ | exact Kd.V_nil _ _ _ _ _ | exact Kd.Q_nil _ _ _ _ _ | exact Kd.S_nil _ _ _ _ _, by first | exact Kd.R_nil _ _ _ _ _ | exact Kd.N_nil _ _ _ _ _ | exact Kd.V_nil _ _ _ _ _ | exact Kd.Q_nil _ _ _ _ _ | exact Kd.S_nil _ _ _ _ _, zH HB.out⟩

/-! ### spec_l1Zeros: function 73 -/
def spec_l1Zeros.f (a0 : Int) : Option (ByteArray) := if 0 ≤ a0 then (if (a0 : Int).toNat ≤ 281474976710656 then (some (strOfNums (List.replicate (a0 : Int).toNat 0))) else (none)) else (none)
set_option maxHeartbeats 8000000 in
set_option maxRecDepth 100000 in
theorem spec_l1Zeros.calls (a0 : Int) (r : ByteArray) (w : World) (h : spec_l1Zeros.f a0 = some r) :
  Calls Try.prog 73 #[.int .i64 a0] w fun e w' => e = .returned (.string r) ∧ Below w.heap.size w w' := by
 have HB := aM (Below.refl w.heap.size w)
 have H : (if 0 ≤ a0 then (if (a0 : Int).toNat ≤ 281474976710656 then (some (strOfNums (List.replicate (a0 : Int).toNat 0))) else (none)) else (none)) = some r := h
 clear h
 by_cases c2 : 0 ≤ a0
 ·rw [if_pos c2] at H
  have c2b0 := eq_true c2
  have c2b1 : decide (0 ≤ a0) = true := decide_eq_true c2
  clear c2
  by_cases c3 : (a0 : Int).toNat ≤ 281474976710656
  ·rw [if_pos c3] at H
   have c3b0 := eq_true c3
   have c3b1 : decide ((a0 : Int).toNat ≤ 281474976710656) = true := decide_eq_true c3
   clear c3
   obtain ⟨y187, hy187⟩ : ∃ y_ : List Int, y_ = (List.replicate (a0 : Int).toNat 0) := ⟨_, rfl⟩
   replace H : (some (strOfNums y187)) = some r := by first | (rw [hy187]; with_reducible exact H) | (have H2_ := (Option.bind_some _ _).symm.trans H; rw [hy187]; with_reducible exact H2_) | (have H2_ := (Option.bind_some _ _).symm.trans H; with_reducible exact H2_) | with_reducible exact H | (rw [hy187]; exact H) | exact H
   have Ny187 := aM hy187
   clear hy187
   obtain rfl := Option.some.inj H
   go_enter Try.func73, Try.ntmps73
   go_wp2_with (first | ((with_reducible refine gate_dst (N := 4) rfl ?_); refine Kd.R_make (Kd.int .u8) _ 5 rfl (N := 4) rfl 66 _ _ rfl a0 rfl rfl Try.underlying66 (.int .u8 0) 1 info5 rfl (by decide) (by omega) 0 (ok := fun _ => True) (okp := fun _ => True) rfl (fun _ hk => hk) trivial (of_decide_eq_true (by first | (with_reducible assumption) | assumption)) (Nat.le_trans (Nat.mul_le_mul_right _ (of_decide_eq_true (by first | (with_reducible assumption) | assumption) : a0.toNat ≤ 281474976710656)) (by omega)) (Below.refl _ _) (Nat.le_refl _) ?_; intro v188 w4 ho5 hb hg_ hnew_; clear hg_ hnew_; (first | rw [← Ny187.out] at ho5 | (simp only [Int.reduceToNat] at ho5; rw [← Ny187.out] at ho5)); have HO189 := aM (xL ho5 (zZ (zH HB.out))); replace HB := aM (zT (zH HB.out) hb); clear hb ho5; have hcv6 := own_string (P := Try.prog) Try.underlying66 Try.underlying5 Try.underlying9 (Kd.own_of_R HO189.out)))
   go_ret
   exact ⟨by first | rfl | (simp [errW_none, errW_some] <;> rfl) | (simp [*, errW_none, errW_some] <;> rfl), zH HB.out⟩
  ·rw [if_neg c3] at H
   exact absurd H (by simp)
 ·rw [if_neg c2] at H
  exact absurd H (by simp)

end Go.Proofs.Ytlhgkbleciokmaa.PFnExactPlayDevice
