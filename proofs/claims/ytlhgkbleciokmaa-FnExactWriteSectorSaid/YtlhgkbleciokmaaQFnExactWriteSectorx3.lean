/- The walks of FnExactWriteSector: Go's calls come to what the Lean functions beside them say; no condition. -/
import Derived.Test.YtlhgkbleciokmaaQFnExactWriteSectorx0
import Derived.Test.YtlhgkbleciokmaaQFnExactWriteSectorx2
namespace Go.Proofs.Ytlhgkbleciokmaa.PFnExactWriteSector
open Go.RowKit Go.Proofs.YtlhgkbleciokmaaW.PrintWords Go.Proofs.YtlhgkbleciokmaaW.PrintLast Go.Proofs.YtlhgkbleciokmaaW.PrintMore
attribute [local go_sem] max2_int min2_int max_two min_two max_three min_three max_four min_four   -- for this text's walks alone
set_option linter.unusedVariables false
set_option linter.unusedSimpArgs false
set_option maxRecDepth 100000

/-! ### spec_GoodDevice: function 14 -/
mutual
def spec_GoodDevice.l0 : Nat → List ByteArray → Int → Int → List ByteArray → List (S42) → Option (Bool)
 | 0, _, _, _, _, _ => none
 | k + 1, x8, x9, x10, x146000, x146001 => if x10 < x9 then (if 0 ≤ x10 then (if x10 < (x8.length : Int) then (if ((rdOf ByteArray.empty x8 x10).size : Int) = 8 then (spec_GoodDevice.l0 k x8 x9 (wrap64 (x10 + 1)) x146000 x146001) else (some false)) else (none)) else (none)) else (spec_GoodDevice.l1 k x146001 (x146001.length : Int) 0 x146000 x146001)
def spec_GoodDevice.l1 : Nat → List (S42) → Int → Int → List ByteArray → List (S42) → Option (Bool)
 | 0, _, _, _, _, _ => none
 | k + 1, x19, x20, x21, x146000, x146001 => if x21 < x20 then (if 0 ≤ x21 then (if x21 < (x19.length : Int) then ((spec_l1Write.f ((rd_T42 x19 x21).f0) ((rd_T42 x19 x21).f1) (x146000.length : Int)).bind fun t149 => (if t149 = true then (spec_GoodDevice.l1 k x19 x20 (wrap64 (x21 + 1)) x146000 x146001) else (some false))) else (none)) else (none)) else ((spec_l1In.f (x146000.length : Int) 1 32).bind fun t150 => (if t150 = true then (some (decide ((x146001.length : Int) ≤ 60))) else (some false)))
end
def spec_GoodDevice.f (k : Nat) (l0_0 : List ByteArray) (l0_1 : List (S42)) : Option (Bool) := spec_GoodDevice.l0 k l0_0 (l0_0.length : Int) 0 l0_0 l0_1
theorem spec_GoodDevice.mono_l : ∀ k, (∀ y0 y1 y2 y3 y4, LeO (spec_GoodDevice.l0 k y0 y1 y2 y3 y4) (spec_GoodDevice.l0 (k + 1) y0 y1 y2 y3 y4)) ∧ (∀ y0 y1 y2 y3 y4, LeO (spec_GoodDevice.l1 k y0 y1 y2 y3 y4) (spec_GoodDevice.l1 (k + 1) y0 y1 y2 y3 y4))
 | 0 => ⟨fun _ _ _ _ _ r h => by simp [spec_GoodDevice.l0] at h, fun _ _ _ _ _ r h => by simp [spec_GoodDevice.l1] at h⟩
 | k + 1 => by
  obtain ⟨ih0, ih1⟩ := spec_GoodDevice.mono_l k
  refine ⟨?_, ?_⟩
  ·intro y0 y1 y2 y3 y4
   unfold spec_GoodDevice.l0
   repeat' first
   | (with_reducible exact ih0 _ _ _ _ _)
   | (with_reducible exact ih1 _ _ _ _ _)
   | (with_reducible exact LeO.refl _)
   | (with_reducible exact LeO.none _)
   | (with_reducible refine LeO.ite ?_ ?_)
   | (with_reducible refine LeO.bind ?_ (fun _ => ?_))
   | exact ih0 _ _ _ _ _
   | exact ih1 _ _ _ _ _
   | exact LeO.none _
   | refine LeO.ite ?_ ?_
   | refine LeO.bind ?_ (fun _ => ?_)
  ·intro y0 y1 y2 y3 y4
   unfold spec_GoodDevice.l1
   repeat' first
   | (with_reducible exact ih0 _ _ _ _ _)
   | (with_reducible exact ih1 _ _ _ _ _)
   | (with_reducible exact LeO.refl _)
   | (with_reducible exact LeO.none _)
   | (with_reducible refine LeO.ite ?_ ?_)
   | (with_reducible refine LeO.bind ?_ (fun _ => ?_))
   | exact ih0 _ _ _ _ _
   | exact ih1 _ _ _ _ _
   | exact LeO.none _
   | refine LeO.ite ?_ ?_
   | refine LeO.bind ?_ (fun _ => ?_)
theorem spec_GoodDevice.mono : ∀ a0 a1 k, LeO (spec_GoodDevice.f k a0 a1) (spec_GoodDevice.f (k + 1) a0 a1) := by
 intro a0 a1 k
 obtain ⟨ih0, ih1⟩ := spec_GoodDevice.mono_l k
 unfold spec_GoodDevice.f
 repeat' first
   | (with_reducible exact ih0 _ _ _ _ _)
   | (with_reducible exact ih1 _ _ _ _ _)
   | (with_reducible exact LeO.refl _)
   | (with_reducible exact LeO.none _)
   | (with_reducible refine LeO.ite ?_ ?_)
   | (with_reducible refine LeO.bind ?_ (fun _ => ?_))
   | exact ih0 _ _ _ _ _
   | exact ih1 _ _ _ _ _
   | exact LeO.none _
   | refine LeO.ite ?_ ?_
   | refine LeO.bind ?_ (fun _ => ?_)
set_option maxHeartbeats 8000000 in
set_option maxRecDepth 100000 in
theorem spec_GoodDevice.calls (k : Nat) (A0_0 : Option Addr) (c0_0 : Nat) (l0_0 : List ByteArray) (A0_1 : Option Addr) (c0_1 : Nat) (l0_1 : List (S42)) (r : Bool) (w : World) (hr0_0 : Kd.C Kd.string w A0_0 l0_0.length l0_0) (hc0_0 : l0_0.length ≤ c0_0) (hr0_1 : Kd.C k42 w A0_1 l0_1.length l0_1) (hc0_1 : l0_1.length ≤ c0_1) (h : spec_GoodDevice.f k l0_0 l0_1 = some r) :
  Calls Try.prog 14 #[.agg #[.slice A0_0 l0_0.length c0_0, .slice A0_1 l0_1.length c0_1]] w fun e w' => e = .returned (.bool r) ∧ Below w.heap.size w w' := by
 have hu30 := Try.underlying30
 have hu42 := Try.underlying42
 have HR0_0 := aM hr0_0
 have HC0_0 := aM hc0_0
 clear hr0_0 hc0_0
 have HR0_1 := aM hr0_1
 have HC0_1 := aM hc0_1
 clear hr0_1 hc0_1
 have HB := aM (Below.refl w.heap.size w)
 have H : (spec_GoodDevice.l0 k l0_0 (l0_0.length : Int) 0 l0_0 l0_1) = some r := h
 clear h
 have H' := aM H
 clear H
 go_enter Try.func14, Try.ntmps14
 go_wp2_with (first | ((with_reducible refine gate_dst (N := 1) rfl ?_); (try (refine gate_guard (by rfl) ?_; dsimp only)); refine box_event ?hg (N := 1) ?hd (cs := #[.slice A0_0 l0_0.length c0_0, .slice A0_1 l0_1.length c0_1]) (t := 30) ?hr ?_; (case hd => rfl); (case hg => rfl); (case hr => first | (go_simp; done) | (go_simp; rfl)); intro gb145 hg w2 hbox hb; have BK145 := aM (hbox); have GW145 := aM ((by rw [hg]; exact (zZ (zH HB.out)) : w.heap.size ≤ gb145)); have GE145 := aM ((by rw [hg]; exact (zZ (zH HB.out)) : w.heap.size ≤ gb145)); replace HB := aM (zT (zH HB.out) hb); clear hb hbox hg; have hcz3_0 : w2.cell? ⟨gb145, 0, none⟩ = some (.slice A0_0 l0_0.length c0_0) := yc BK145.out 0; have hcz3_1 : w2.cell? ⟨gb145, 1, none⟩ = some (.slice A0_1 l0_1.length c0_1) := yc BK145.out 1; have hfz3_0 := yZ BK145.out 0; have hfz3_1 := yZ BK145.out 1))
 go_loopg [10] k (fun kq v10 w' => ∃ (x10_1 : Int), v10 = .int .i64 x10_1 ∧ Aside0 (spec_GoodDevice.l0 kq l0_0 (l0_0.length : Int) x10_1 l0_0 l0_1 = some r) ∧ Aside0 (kq ≤ k) ∧ Aside0 (w'.heap[gb145]? = some (.cells #[(.slice A0_0 l0_0.length c0_0), (.slice A0_1 l0_1.length c0_1)] 30 (0, 0))) ∧ Aside0 (Below w.heap.size w w'))
 case atStart => exact ⟨(0), (by first | rfl | (simp; done) | (simp [*]; done)), H', ⟨Nat.le_refl _⟩, ⟨yH BK145.out⟩, ⟨zH HB.out⟩⟩
 case round =>
  clear H'
  (try clear c1); (try clear p2); (try clear hcz3_0); (try clear hcz3_1); (try clear hfz3_0); (try clear hfz3_1)
  obtain ⟨x10_1, rfl, HA, HK1, BK145, HB⟩ := hrel
  cases gk with
  | zero => exact absurd HA.out (fun h_ => by change none = some _ at h_; cases h_)
  | succ k1 =>
   have H := HA.out
   clear HA
   simp only [spec_GoodDevice.l0] at H
   by_cases c4 : x10_1 < (l0_0.length : Int)
   ·rw [if_pos c4] at H
    have c4b0 : decide (x10_1 < (l0_0.length : Int)) = true := decide_eq_true c4
    clear c4
    by_cases c5 : 0 ≤ x10_1
    ·rw [if_pos c5] at H
     have c5b0 : decide (0 ≤ x10_1) = true := decide_eq_true c5
     clear c5
     by_cases c6 : x10_1 < (l0_0.length : Int)
     ·rw [if_pos c6] at H
      have c6b0 : decide (x10_1 < (l0_0.length : Int)) = true := decide_eq_true c6
      clear c6
      by_cases c7 : ((rdOf ByteArray.empty l0_0 x10_1).size : Int) = 8
      ·rw [if_pos c7] at H
       have c7b0 : (((rdOf ByteArray.empty l0_0 x10_1).size : Int) == 8) = true := beq_iff_eq.mpr c7
       have c7b1 : (((rdOf ByteArray.empty l0_0 x10_1).size : Int) != 8) = false := bne_eq_false_iff_eq.mpr c7
       clear c7
       have H' := aM H
       clear H
       have p146 : 0 ≤ (x10_1 : Int) := of_decide_eq_true (by first | (with_reducible assumption) | assumption)
       have q146 : x10_1 < (l0_0.length : Int) := of_decide_eq_true (by first | (with_reducible assumption) | assumption)
       obtain ⟨ad146, e146, hx146_0⟩ := Kd.at_string HR0_0.out x10_1 p146 q146
       cases e146
       replace hx146_0 := (HB.out.cell (World.block_lt_of_cell? w _ hx146_0)).trans hx146_0
       replace p146 := eq_true p146
       replace q146 := eq_true q146
       go_wp2
       go_roundg k1
       case measure => have := HK1.out; omega
       case rel => exact ⟨(wrap64 (x10_1 + 1)), (by first | rfl | (simp; done) | (simp [*]; done)), H', ⟨by have := HK1.out; omega⟩, ⟨yH BK145.out⟩, ⟨zH HB.out⟩⟩
      ·rw [if_neg c7] at H
       have c7b0 : (((rdOf ByteArray.empty l0_0 x10_1).size : Int) == 8) = false := beq_eq_false_iff_ne.mpr c7
       have c7b1 : (((rdOf ByteArray.empty l0_0 x10_1).size : Int) != 8) = true := bne_iff_ne.mpr c7
       obtain rfl := Option.some.inj H
       have p146 : 0 ≤ (x10_1 : Int) := of_decide_eq_true (by first | (with_reducible assumption) | assumption)
       have q146 : x10_1 < (l0_0.length : Int) := of_decide_eq_true (by first | (with_reducible assumption) | assumption)
       obtain ⟨ad146, e146, hx146_0⟩ := Kd.at_string HR0_0.out x10_1 p146 q146
       cases e146
       replace hx146_0 := (HB.out.cell (World.block_lt_of_cell? w _ hx146_0)).trans hx146_0
       replace p146 := eq_true p146
       replace q146 := eq_true q146
       go_wp2
       go_ret
       exact ⟨by first | rfl | (simp [errW_none, errW_some] <;> rfl) | (simp [*, errW_none, errW_some] <;> rfl), zH HB.out⟩
     ·rw [if_neg c6] at H
      exact absurd H (by simp)
    ·rw [if_neg c5] at H
     exact absurd H (by simp)
   ·rw [if_neg c4] at H
    have c4b0 : decide (x10_1 < (l0_0.length : Int)) = false := decide_eq_false c4
    clear c4
    have H' := aM H
    clear H
    have hcz8_0 : wr.cell? ⟨gb145, 0, none⟩ = some (.slice A0_0 l0_0.length c0_0) := yc BK145.out 0
    have hcz8_1 : wr.cell? ⟨gb145, 1, none⟩ = some (.slice A0_1 l0_1.length c0_1) := yc BK145.out 1
    have hfz8_0 := yZ BK145.out 0
    have hfz8_1 := yZ BK145.out 1
    go_wp2
    go_loopg [21] k1 (fun kq v21 w' => ∃ (x21_2 : Int), v21 = .int .i64 x21_2 ∧ Aside0 (spec_GoodDevice.l1 kq l0_1 (l0_1.length : Int) x21_2 l0_0 l0_1 = some r) ∧ Aside0 (kq ≤ k1) ∧ Aside0 (w'.heap[gb145]? = some (.cells #[(.slice A0_0 l0_0.length c0_0), (.slice A0_1 l0_1.length c0_1)] 30 (0, 0))) ∧ Aside0 (Below w.heap.size w w'))
    case atStart => exact ⟨(0), (by first | rfl | (simp; done) | (simp [*]; done)), H', ⟨Nat.le_refl _⟩, ⟨yH BK145.out⟩, ⟨zH HB.out⟩⟩
    case round =>
     clear H'
     (try clear c1); (try clear p1); (try clear q1); (try clear hx1); (try clear p2); (try clear c4); (try clear c4b0); (try clear c5); (try clear c5b0); (try clear c6); (try clear c6b0); (try clear p6); (try clear c7); (try clear c7b0); (try clear c7b1); (try clear hcz3_0); (try clear hcz3_1); (try clear hcz8_0); (try clear hcz8_1); (try clear hfz3_0); (try clear hfz3_1); (try clear hfz8_0); (try clear hfz8_1); (try clear hx146_0); (try clear p146); (try clear p2); (try clear q146)
     obtain ⟨x21_2, rfl, HA, HK2, BK145, HB⟩ := hrel
     cases gk with
     | zero => exact absurd HA.out (fun h_ => by change none = some _ at h_; cases h_)
     | succ k2 =>
      have H := HA.out
      clear HA
      simp only [spec_GoodDevice.l1] at H
      by_cases c9 : x21_2 < (l0_1.length : Int)
      ·rw [if_pos c9] at H
       have c9b0 : decide (x21_2 < (l0_1.length : Int)) = true := decide_eq_true c9
       clear c9
       by_cases c10 : 0 ≤ x21_2
       ·rw [if_pos c10] at H
        have c10b0 : decide (0 ≤ x21_2) = true := decide_eq_true c10
        clear c10
        by_cases c11 : x21_2 < (l0_1.length : Int)
        ·rw [if_pos c11] at H
         have c11b0 : decide (x21_2 < (l0_1.length : Int)) = true := decide_eq_true c11
         clear c11
         replace H := Option.bind_eq_some_iff.mp H
         obtain ⟨t149, A120, H⟩ := H
         replace H : (if t149 = true then (spec_GoodDevice.l1 k2 l0_1 (l0_1.length : Int) (wrap64 (x21_2 + 1)) l0_0 l0_1) else (some false)) = some r := H
         have A12 := aM A120
         clear A120
         by_cases c13 : t149 = true
         ·subst c13
          have H1 : (spec_GoodDevice.l1 k2 l0_1 (l0_1.length : Int) (wrap64 (x21_2 + 1)) l0_0 l0_1) = some r := by rw [if_pos rfl] at H; exact H
          clear H
          have H := H1
          clear H1
          have H' := aM H
          clear H
          have p147 : 0 ≤ (x21_2 : Int) := of_decide_eq_true (by first | (with_reducible assumption) | assumption)
          have q147 : x21_2 < (l0_1.length : Int) := of_decide_eq_true (by first | (with_reducible assumption) | assumption)
          obtain ⟨ad147, e147, hx147_0, hx147_1⟩ := at_T42 HR0_1.out x21_2 p147 q147
          cases e147
          replace hx147_0 := (HB.out.cell (World.block_lt_of_cell? w _ hx147_0)).trans hx147_0
          replace hx147_1 := (HB.out.cell (World.block_lt_of_cell? w _ hx147_1)).trans hx147_1
          replace p147 := eq_true p147
          replace q147 := eq_true q147
          go_wp2_with (first | ((with_reducible refine gate_dst (N := 6) rfl ?_); (try (refine gate_guard (by rfl) ?_; dsimp only)); refine box_event ?hg (N := 6) ?hd (cs := #[.int .i64 0, .string (⟨#[]⟩ : ByteArray)]) (t := 42) ?hr ?_; (case hd => rfl); (case hg => rfl); (case hr => first | (go_simp; done) | (go_simp; rfl)); intro gb148 hg w14 hbox hb; have BK148 := aM (hbox); have GW148 := aM ((by rw [hg]; exact (zZ (zH HB.out)) : w.heap.size ≤ gb148)); have GE148 := aM ((by rw [hg]; exact (zZ (zH HB.out)) : w.heap.size ≤ gb148)); replace HB := aM (zT (zH HB.out) hb); have NB145_148 := nL BK145.out hg; have NB148_145 := nR BK145.out hg; replace BK145 := yK BK145.out hb; clear hb hbox hg; have hnb15 := NB148_145.out; have hnc15 := NB145_148.out; have hcz16_0 : w14.cell? ⟨gb148, 0, none⟩ = some (.int .i64 0) := yc BK148.out 0; have hcz16_1 : w14.cell? ⟨gb148, 1, none⟩ = some (.string (⟨#[]⟩ : ByteArray)) := yc BK148.out 1; have hfz16_0 := yZ BK148.out 0; have hfz16_1 := yZ BK148.out 1; have hcz17_0 : w14.cell? ⟨gb145, 0, none⟩ = some (.slice A0_0 l0_0.length c0_0) := yc BK145.out 0; have hcz17_1 : w14.cell? ⟨gb145, 1, none⟩ = some (.slice (some ad147) l0_1.length c0_1) := yc BK145.out 1; have hfz17_0 := yZ BK145.out 0; have hfz17_1 := yZ BK145.out 1) | ((with_reducible refine gate_callee (f := 52) rfl ?_); refine goesL_ (some 29) rfl rfl Try.func52 (by kernel_rfl) rfl #[.agg #[.int .i64 ((rd_T42 l0_1 x21_2).f0), .string ((rd_T42 l0_1 x21_2).f1)], .int .i64 (l0_0.length : Int)] rfl (by (try simp only [List.map_toArray, List.map_cons, List.map_nil]); first | done | rfl | (simp only [List.length_drop, List.length_take]; rfl)) ?_; (with_reducible refine (spec_l1Write.calls ((rd_T42 l0_1 x21_2).f0) ((rd_T42 l0_1 x21_2).f1) (l0_0.length : Int) true _ A12.out).mono ?_); rintro e w18 ⟨rfl, hb⟩; refine ⟨_, rfl, ?_⟩; replace BK145 := aM (yB (g := gb145) (o := .cells #[.slice A0_0 l0_0.length c0_0, .slice (some ad147) l0_1.length c0_1] 30 (0, 0)) (by (with_reducible repeat (first | refine yN ?_ _ | refine yD ?_ | refine yA ?_ _)); refine yF ?_ NB145_148.out _; (with_reducible repeat (first | refine yN ?_ _ | refine yD ?_ | refine yA ?_ _)); refine yF ?_ NB145_148.out _; (with_reducible repeat (first | refine yN ?_ _ | refine yD ?_ | refine yA ?_ _)); exact BK145.out) hb); replace BK148 := aM (yB (g := gb148) (o := .cells #[.int .i64 ((rd_T42 l0_1 x21_2).f0), .string ((rd_T42 l0_1 x21_2).f1)] 42 (0, 0)) (by (with_reducible repeat (first | refine yN ?_ _ | refine yD ?_ | refine yA ?_ _)); refine yP (cs := #[.int .i64 ((rd_T42 l0_1 x21_2).f0), .string (⟨#[]⟩ : ByteArray)]) ?_ 1 _ rfl; (with_reducible repeat (first | refine yN ?_ _ | refine yD ?_ | refine yA ?_ _)); refine yP (cs := #[.int .i64 0, .string (⟨#[]⟩ : ByteArray)]) ?_ 0 _ rfl; (with_reducible repeat (first | refine yN ?_ _ | refine yD ?_ | refine yA ?_ _)); exact BK148.out) hb); replace HB := aM (zT (zH HB.out) hb); (try clear hb)))
          go_roundg k2
          case measure => have := HK1.out; have := HK2.out; omega
          case rel => exact ⟨(wrap64 (x21_2 + 1)), (by first | rfl | (simp; done) | (simp [*]; done)), H', ⟨by have := HK1.out; have := HK2.out; omega⟩, ⟨yH BK145.out⟩, ⟨zH HB.out⟩⟩
         ·replace c13 := Bool.eq_false_iff.mpr c13
          subst c13
          have H1 : (some false) = some r := by rw [if_neg (show ¬ (false = true) by decide)] at H; exact H
          clear H
          have H := H1
          clear H1
          obtain rfl := Option.some.inj H
          have p147 : 0 ≤ (x21_2 : Int) := of_decide_eq_true (by first | (with_reducible assumption) | assumption)
          have q147 : x21_2 < (l0_1.length : Int) := of_decide_eq_true (by first | (with_reducible assumption) | assumption)
          obtain ⟨ad147, e147, hx147_0, hx147_1⟩ := at_T42 HR0_1.out x21_2 p147 q147
          cases e147
          replace hx147_0 := (HB.out.cell (World.block_lt_of_cell? w _ hx147_0)).trans hx147_0
          replace hx147_1 := (HB.out.cell (World.block_lt_of_cell? w _ hx147_1)).trans hx147_1
          replace p147 := eq_true p147
          replace q147 := eq_true q147
          go_wp2_with (first | ((with_reducible refine gate_dst (N := 6) rfl ?_); (try (refine gate_guard (by rfl) ?_; dsimp only)); refine box_event ?hg (N := 6) ?hd (cs := #[.int .i64 0, .string (⟨#[]⟩ : ByteArray)]) (t := 42) ?hr ?_; (case hd => rfl); (case hg => rfl); (case hr => first | (go_simp; done) | (go_simp; rfl)); intro gb148 hg w19 hbox hb; have BK148 := aM (hbox); have GW148 := aM ((by rw [hg]; exact (zZ (zH HB.out)) : w.heap.size ≤ gb148)); have GE148 := aM ((by rw [hg]; exact (zZ (zH HB.out)) : w.heap.size ≤ gb148)); replace HB := aM (zT (zH HB.out) hb); have NB145_148 := nL BK145.out hg; have NB148_145 := nR BK145.out hg; replace BK145 := yK BK145.out hb; clear hb hbox hg; have hnb20 := NB148_145.out; have hnc20 := NB145_148.out; have hcz21_0 : w19.cell? ⟨gb148, 0, none⟩ = some (.int .i64 0) := yc BK148.out 0; have hcz21_1 : w19.cell? ⟨gb148, 1, none⟩ = some (.string (⟨#[]⟩ : ByteArray)) := yc BK148.out 1; have hfz21_0 := yZ BK148.out 0; have hfz21_1 := yZ BK148.out 1; have hcz22_0 : w19.cell? ⟨gb145, 0, none⟩ = some (.slice A0_0 l0_0.length c0_0) := yc BK145.out 0; have hcz22_1 : w19.cell? ⟨gb145, 1, none⟩ = some (.slice (some ad147) l0_1.length c0_1) := yc BK145.out 1; have hfz22_0 := yZ BK145.out 0; have hfz22_1 := yZ BK145.out 1) | ((with_reducible refine gate_callee (f := 52) rfl ?_); refine goesL_ (some 29) rfl rfl Try.func52 (by kernel_rfl) rfl #[.agg #[.int .i64 ((rd_T42 l0_1 x21_2).f0), .string ((rd_T42 l0_1 x21_2).f1)], .int .i64 (l0_0.length : Int)] rfl (by (try simp only [List.map_toArray, List.map_cons, List.map_nil]); first | done | rfl | (simp only [List.length_drop, List.length_take]; rfl)) ?_; (with_reducible refine (spec_l1Write.calls ((rd_T42 l0_1 x21_2).f0) ((rd_T42 l0_1 x21_2).f1) (l0_0.length : Int) false _ A12.out).mono ?_); rintro e w23 ⟨rfl, hb⟩; refine ⟨_, rfl, ?_⟩; replace BK145 := aM (yB (g := gb145) (o := .cells #[.slice A0_0 l0_0.length c0_0, .slice (some ad147) l0_1.length c0_1] 30 (0, 0)) (by (with_reducible repeat (first | refine yN ?_ _ | refine yD ?_ | refine yA ?_ _)); refine yF ?_ NB145_148.out _; (with_reducible repeat (first | refine yN ?_ _ | refine yD ?_ | refine yA ?_ _)); refine yF ?_ NB145_148.out _; (with_reducible repeat (first | refine yN ?_ _ | refine yD ?_ | refine yA ?_ _)); exact BK145.out) hb); replace BK148 := aM (yB (g := gb148) (o := .cells #[.int .i64 ((rd_T42 l0_1 x21_2).f0), .string ((rd_T42 l0_1 x21_2).f1)] 42 (0, 0)) (by (with_reducible repeat (first | refine yN ?_ _ | refine yD ?_ | refine yA ?_ _)); refine yP (cs := #[.int .i64 ((rd_T42 l0_1 x21_2).f0), .string (⟨#[]⟩ : ByteArray)]) ?_ 1 _ rfl; (with_reducible repeat (first | refine yN ?_ _ | refine yD ?_ | refine yA ?_ _)); refine yP (cs := #[.int .i64 0, .string (⟨#[]⟩ : ByteArray)]) ?_ 0 _ rfl; (with_reducible repeat (first | refine yN ?_ _ | refine yD ?_ | refine yA ?_ _)); exact BK148.out) hb); replace HB := aM (zT (zH HB.out) hb); (try clear hb)))
          go_ret
          exact ⟨by first | rfl | (simp [errW_none, errW_some] <;> rfl) | (simp [*, errW_none, errW_some] <;> rfl), zH HB.out⟩
        ·rw [if_neg c11] at H
         exact absurd H (by simp)
       ·rw [if_neg c10] at H
        exact absurd H (by simp)
      ·rw [if_neg c9] at H
       have c9b0 : decide (x21_2 < (l0_1.length : Int)) = false := decide_eq_false c9
       clear c9
       replace H := Option.bind_eq_some_iff.mp H
       obtain ⟨t150, A240, H⟩ := H
       replace H : (if t150 = true then (some (decide ((l0_1.length : Int) ≤ 60))) else (some false)) = some r := H
       have A24 := aM A240
       clear A240
       by_cases c25 : t150 = true
       ·subst c25
        have H1 : (some (decide ((l0_1.length : Int) ≤ 60))) = some r := by rw [if_pos rfl] at H; exact H
        clear H
        have H := H1
        clear H1
        obtain rfl := Option.some.inj H
        have hcz26_0 : wr.cell? ⟨gb145, 0, none⟩ = some (.slice A0_0 l0_0.length c0_0) := yc BK145.out 0
        have hcz26_1 : wr.cell? ⟨gb145, 1, none⟩ = some (.slice A0_1 l0_1.length c0_1) := yc BK145.out 1
        have hfz26_0 := yZ BK145.out 0
        have hfz26_1 := yZ BK145.out 1
        go_wp2_with (first | ((with_reducible refine gate_callee (f := 53) rfl ?_); refine goesL_ (some 35) rfl rfl Try.func53 (by kernel_rfl) rfl #[.int .i64 (l0_0.length : Int), .int .i64 1, .int .i64 32] rfl (by (try simp only [List.map_toArray, List.map_cons, List.map_nil]); first | done | rfl | (simp only [List.length_drop, List.length_take]; rfl)) ?_; (with_reducible refine (spec_l1In.calls (l0_0.length : Int) 1 32 true _ A24.out).mono ?_); rintro e w' ⟨rfl, ⟨nd, rfl⟩⟩; refine ⟨_, rfl, ?_⟩))
        go_ret
        exact ⟨by first | rfl | (simp [errW_none, errW_some] <;> rfl) | (simp [*, errW_none, errW_some] <;> rfl), zH HB.out⟩
       ·replace c25 := Bool.eq_false_iff.mpr c25
        subst c25
        have H1 : (some false) = some r := by rw [if_neg (show ¬ (false = true) by decide)] at H; exact H
        clear H
        have H := H1
        clear H1
        obtain rfl := Option.some.inj H
        have hcz27_0 : wr.cell? ⟨gb145, 0, none⟩ = some (.slice A0_0 l0_0.length c0_0) := yc BK145.out 0
        have hcz27_1 : wr.cell? ⟨gb145, 1, none⟩ = some (.slice A0_1 l0_1.length c0_1) := yc BK145.out 1
        have hfz27_0 := yZ BK145.out 0
        have hfz27_1 := yZ BK145.out 1
        go_wp2_with (first | ((with_reducible refine gate_callee (f := 53) rfl ?_); refine goesL_ (some 35) rfl rfl Try.func53 (by kernel_rfl) rfl #[.int .i64 (l0_0.length : Int), .int .i64 1, .int .i64 32] rfl (by (try simp only [List.map_toArray, List.map_cons, List.map_nil]); first | done | rfl | (simp only [List.length_drop, List.length_take]; rfl)) ?_; (with_reducible refine (spec_l1In.calls (l0_0.length : Int) 1 32 false _ A24.out).mono ?_); rintro e w' ⟨rfl, ⟨nd, rfl⟩⟩; refine ⟨_, rfl, ?_⟩))
        go_ret
        exact ⟨by first | rfl | (simp [errW_none, errW_some] <;> rfl) | (simp [*, errW_none, errW_some] <;> rfl), zH HB.out⟩

/-! ### spec_l1Own: function 65 -/
def spec_l1Own.f (l0_0 : List ByteArray) (l0_1 : List (S42)) : Option (List ByteArray × (List (S42))) := (some (([] : List ByteArray) : List ByteArray)).bind fun y153 => (if y153.length + l0_0.length < 8796093022208 then ((some (([] : List (S42)) : List (S42))).bind fun y159 => (if y159.length + l0_1.length < 5864062014805 then (some ((y153 ++ l0_0), (y159 ++ l0_1))) else (none))) else (none))
set_option maxHeartbeats 8000000 in
set_option maxRecDepth 100000 in
theorem spec_l1Own.calls (A0_0 : Option Addr) (c0_0 : Nat) (l0_0 : List ByteArray) (A0_1 : Option Addr) (c0_1 : Nat) (l0_1 : List (S42)) (r1 : List ByteArray) (r2 : List (S42)) (w : World) (hr0_0 : Kd.C Kd.string w A0_0 l0_0.length l0_0) (hc0_0 : l0_0.length ≤ c0_0) (hr0_1 : Kd.C k42 w A0_1 l0_1.length l0_1) (hc0_1 : l0_1.length ≤ c0_1) (h : spec_l1Own.f l0_0 l0_1 = some (r1, r2)) :
  Calls Try.prog 65 #[.agg #[.slice A0_0 l0_0.length c0_0, .slice A0_1 l0_1.length c0_1]] w fun e w' => ∃ v0_ v1_ : Value, e = .returned (.agg #[v0_, v1_]) ∧ Kd.R Kd.string 9 w' w.heap.size (fun _ => True) v0_ r1 ∧ Kd.R k42 42 w' w.heap.size (fun _ => True) v1_ r2 ∧ Below w.heap.size w w' := by
 have hu30 := Try.underlying30
 have HR0_0 := aM hr0_0
 have HC0_0 := aM hc0_0
 clear hr0_0 hc0_0
 have HR0_1 := aM hr0_1
 have HC0_1 := aM hc0_1
 clear hr0_1 hc0_1
 have HB := aM (Below.refl w.heap.size w)
 have H : ((some (([] : List ByteArray) : List ByteArray)).bind fun y153 => (if y153.length + l0_0.length < 8796093022208 then ((some (([] : List (S42)) : List (S42))).bind fun y159 => (if y159.length + l0_1.length < 5864062014805 then (some ((y153 ++ l0_0), (y159 ++ l0_1))) else (none))) else (none))) = some (r1, r2) := h
 clear h
 obtain ⟨y153, hy153⟩ : ∃ y_ : List ByteArray, y_ = (([] : List ByteArray)) := ⟨_, rfl⟩
 replace H : (if y153.length + l0_0.length < 8796093022208 then ((some (([] : List (S42)) : List (S42))).bind fun y159 => (if y159.length + l0_1.length < 5864062014805 then (some ((y153 ++ l0_0), (y159 ++ l0_1))) else (none))) else (none)) = some (r1, r2) := by first | (rw [hy153]; with_reducible exact H) | (have H2_ := (Option.bind_some _ _).symm.trans H; rw [hy153]; with_reducible exact H2_) | (have H2_ := (Option.bind_some _ _).symm.trans H; with_reducible exact H2_) | with_reducible exact H | (rw [hy153]; exact H) | exact H
 have Ny153 := aM hy153
 clear hy153
 by_cases c2 : y153.length + l0_0.length < 8796093022208
 ·rw [if_pos c2] at H
  have LMc2 := aM c2
  clear c2
  obtain ⟨y156, hy156⟩ : ∃ y_ : List ByteArray, y_ = (y153 ++ l0_0) := ⟨_, rfl⟩
  replace H : ((some (([] : List (S42)) : List (S42))).bind fun y159 => (if y159.length + l0_1.length < 5864062014805 then (some (y156, (y159 ++ l0_1))) else (none))) = some (r1, r2) := by first | (rw [hy156]; with_reducible exact H) | (have H2_ := (Option.bind_some _ _).symm.trans H; rw [hy156]; with_reducible exact H2_) | (have H2_ := (Option.bind_some _ _).symm.trans H; with_reducible exact H2_) | with_reducible exact H | (rw [hy156]; exact H) | exact H
  have Ny156 := aM hy156
  clear hy156
  obtain ⟨y159, hy159⟩ : ∃ y_ : List (S42), y_ = (([] : List (S42))) := ⟨_, rfl⟩
  replace H : (if y159.length + l0_1.length < 5864062014805 then (some (y156, (y159 ++ l0_1))) else (none)) = some (r1, r2) := by first | (rw [hy159]; with_reducible exact H) | (have H2_ := (Option.bind_some _ _).symm.trans H; rw [hy159]; with_reducible exact H2_) | (have H2_ := (Option.bind_some _ _).symm.trans H; with_reducible exact H2_) | with_reducible exact H | (rw [hy159]; exact H) | exact H
  have Ny159 := aM hy159
  clear hy159
  by_cases c3 : y159.length + l0_1.length < 5864062014805
  ·rw [if_pos c3] at H
   have LMc3 := aM c3
   clear c3
   obtain ⟨y162, hy162⟩ : ∃ y_ : List (S42), y_ = (y159 ++ l0_1) := ⟨_, rfl⟩
   replace H : (some (y156, y162)) = some (r1, r2) := by first | (rw [hy162]; with_reducible exact H) | (have H2_ := (Option.bind_some _ _).symm.trans H; rw [hy162]; with_reducible exact H2_) | (have H2_ := (Option.bind_some _ _).symm.trans H; with_reducible exact H2_) | with_reducible exact H | (rw [hy162]; exact H) | exact H
   have Ny162 := aM hy162
   clear hy162
   simp only [Option.some.injEq, Prod.mk.injEq] at H
   obtain ⟨rfl, rfl⟩ := H
   go_enter Try.func65, Try.ntmps65
   go_wp2_with (first | ((with_reducible refine gate_dst (N := 1) rfl ?_); refine box_event ?hg (N := 1) ?hd (cs := #[.slice A0_0 l0_0.length c0_0, .slice A0_1 l0_1.length c0_1]) (t := 30) ?hr ?_; (case hd => rfl); (case hg => rfl); (case hr => first | (go_simp; done) | (go_simp; rfl)); intro gb151 hg w4 hbox hb; have BK151 := aM (hbox); have GW151 := aM ((by rw [hg]; exact (zZ (zH HB.out)) : w.heap.size ≤ gb151)); have GE151 := aM ((by rw [hg]; exact (zZ (zH HB.out)) : w.heap.size ≤ gb151)); replace HB := aM (zT (zH HB.out) hb); clear hb hbox hg) | ((with_reducible refine gate_dst (N := 2) rfl ?_); refine box_event ?hg (N := 2) ?hd (cs := #[.slice none 0 0, .slice none 0 0]) (t := 30) ?hr ?_; (case hd => rfl); (case hg => rfl); (case hr => first | (go_simp; done) | (go_simp; rfl)); intro gb152 hg w5 hbox hb; have BK152 := aM (hbox); have GW152 := aM ((by rw [hg]; exact (zZ (zH HB.out)) : w.heap.size ≤ gb152)); have GE152 := aM ((by rw [hg]; exact (zZ (zH HB.out)) : w.heap.size ≤ gb152)); replace HB := aM (zT (zH HB.out) hb); have NB151_152 := nL BK151.out hg; have NB152_151 := nR BK151.out hg; replace BK151 := yK BK151.out hb; clear hb hbox hg) | ((with_reducible refine gate_dst (N := 3) rfl ?_); refine Kd.R_lit Kd.string _ 9 ?hg (N := 3) ?hd (xs := ([] : List ByteArray)) (inner := []) (ok := fun _ => True) (okp := fun _ => True) ?hr ?hp (fun _ hk => hk) trivial (Below.refl _ _) (Nat.le_refl _) (by simp) ?_; (case hd => rfl); (case hg => rfl); (case hr => first | (go_simp; done) | (go_simp; rfl)); (case hp => exact (Reps.none _ _)); intro v154 w6 ho7 hb hg_ hnew_; clear hg_ hnew_; (first | rw [← Ny153.out] at ho7 | (simp only [Int.reduceToNat] at ho7; rw [← Ny153.out] at ho7)); have HO155 := aM (xL ho7 (zZ (zH HB.out))); replace BK151 := yK BK151.out hb; replace BK152 := yK BK152.out hb; replace HB := aM (zT (zH HB.out) hb); clear hb ho7; have hnb8 := NB151_152.out; have hnc8 := NB152_151.out; have hcz9_0 : w6.cell? ⟨gb151, 0, none⟩ = some (.slice A0_0 l0_0.length c0_0) := yc BK151.out 0; have hcz9_1 : w6.cell? ⟨gb151, 1, none⟩ = some (.slice A0_1 l0_1.length c0_1) := yc BK151.out 1; have hfz9_0 := yZ BK151.out 0; have hfz9_1 := yZ BK151.out 1) | ((with_reducible refine gate_builtin (b := .append) (xs := #[.tmp 3, .tmp 5]) rfl ?_); at_builtin; refine Kd.R_append_rows Kd.string (w0 := w) w.heap.size rfl (.tmp 3) (.tmp 5) 22 9 (.string ⟨#[]⟩) 16 rfl Try.underlying22 info9 rfl (by decide) (by omega) v154 y153 l0_0 _ _ _ (fun _ => True) (fun _ => False) rfl rfl ?aO ?aR (fun _ _ h => h) (fun _ h => h.elim) ?aF ?aB ?aS ?aL ?_; (case aR => exact cK HR0_0.out HB.out); (case aB => exact (zH HB.out)); (case aF => exact (fun _ _ => trivial)); (case aO => exact (xH HO155.out)); (case aS => exact (zZ (zH HB.out))); (case aL => have := LMc2.out; omega); intro v157 w10 ho hb hg hat; rw [← Ny156.out] at ho; replace BK151 := aM (blk_grown (g := gb151) (o := .cells #[.slice A0_0 l0_0.length c0_0, .slice A0_1 l0_1.length c0_1] 30 (0, 0)) (yH BK151.out) hg (Kd.R_ne HO155.out BK151.out (by decide))); replace BK152 := aM (blk_grown (g := gb152) (o := .cells #[.slice none 0 0, .slice none 0 0] 30 (0, 0)) (yH BK152.out) hg (Kd.R_ne HO155.out BK152.out (by decide))); replace HB := aM (hb); have HO158 := aM (ho); clear HO155; clear ho hb hg hat; obtain ⟨Ao11, co11, eo11⟩ := Kd.R_slice HO158.out; subst eo11; have hcz12_0 : w10.cell? ⟨gb151, 0, none⟩ = some (.slice A0_0 l0_0.length c0_0) := yc BK151.out 0; have hcz12_1 : w10.cell? ⟨gb151, 1, none⟩ = some (.slice A0_1 l0_1.length c0_1) := yc BK151.out 1; have hfz12_0 := yZ BK151.out 0; have hfz12_1 := yZ BK151.out 1) | ((with_reducible refine gate_dst (N := 8) rfl ?_); refine Kd.R_lit k42 _ 42 ?hg (N := 8) ?hd (xs := ([] : List (S42))) (inner := []) (ok := fun _ => True) (okp := fun _ => True) ?hr ?hp (fun _ hk => hk) trivial (Below.refl _ _) (Nat.le_refl _) (by simp) ?_; (case hd => rfl); (case hg => rfl); (case hr => first | (go_simp; done) | (go_simp; rfl)); (case hp => exact (Reps.none _ _)); intro v160 w13 ho14 hb hg_ hnew_; clear hg_ hnew_; (first | rw [← Ny159.out] at ho14 | (simp only [Int.reduceToNat] at ho14; rw [← Ny159.out] at ho14)); replace HO158 := aM (xB (xH ((x1 HO158.out BK151.out (by decide) (.slice Ao11 y156.length co11)))) hb); have HO161 := aM (xL ho14 (zZ (zH HB.out))); replace BK151 := aM (yB (g := gb151) (o := .cells #[.slice Ao11 y156.length co11, .slice A0_1 l0_1.length c0_1] 30 (0, 0)) (by (with_reducible repeat (first | refine yN ?_ _ | refine yD ?_ | refine yA ?_ _)); refine yP (cs := #[.slice A0_0 l0_0.length c0_0, .slice A0_1 l0_1.length c0_1]) ?_ 0 _ rfl; (with_reducible repeat (first | refine yN ?_ _ | refine yD ?_ | refine yA ?_ _)); exact BK151.out) hb); replace BK152 := aM (yB (g := gb152) (o := .cells #[.slice none 0 0, .slice none 0 0] 30 (0, 0)) (by (with_reducible repeat (first | refine yN ?_ _ | refine yD ?_ | refine yA ?_ _)); refine yF ?_ NB152_151.out _; (with_reducible repeat (first | refine yN ?_ _ | refine yD ?_ | refine yA ?_ _)); exact BK152.out) hb); replace HB := aM (zT (zH HB.out) hb); clear hb ho14; have hcz15_0 : w13.cell? ⟨gb151, 0, none⟩ = some (.slice Ao11 y156.length co11) := yc BK151.out 0; have hcz15_1 : w13.cell? ⟨gb151, 1, none⟩ = some (.slice A0_1 l0_1.length c0_1) := yc BK151.out 1; have hfz15_0 := yZ BK151.out 0; have hfz15_1 := yZ BK151.out 1) | ((with_reducible refine gate_builtin (b := .append) (xs := #[.tmp 8, .tmp 10]) rfl ?_); at_builtin; refine Kd.R_append_rows k42 (w0 := w) w.heap.size rfl (.tmp 8) (.tmp 10) 28 42 (.agg #[(.int .i64 0), (.string ⟨#[]⟩)]) 24 rfl Try.underlying28 info42 rfl (by decide) (by omega) v160 y159 l0_1 _ _ _ (fun _ => True) (fun _ => False) rfl rfl ?aO ?aR (fun _ _ h => h) (fun _ h => h.elim) ?aF ?aB ?aS ?aL ?_; (case aR => exact cK HR0_1.out HB.out); (case aB => exact (zH HB.out)); (case aF => exact (fun _ _ => trivial)); (case aO => exact (xH HO161.out)); (case aS => exact (zZ (zH HB.out))); (case aL => have := LMc3.out; omega); intro v163 w16 ho hb hg hat; rw [← Ny162.out] at ho; replace BK151 := aM (blk_grown (g := gb151) (o := .cells #[.slice Ao11 y156.length co11, .slice A0_1 l0_1.length c0_1] 30 (0, 0)) (yH BK151.out) hg (Kd.R_ne HO161.out BK151.out (by decide))); replace BK152 := aM (blk_grown (g := gb152) (o := .cells #[.slice none 0 0, .slice none 0 0] 30 (0, 0)) (yH BK152.out) hg (Kd.R_ne HO161.out BK152.out (by decide))); replace HO158 := aM (Kd.R_over' (xH HO158.out) (Kd.R_typed (xH HO161.out)) (by decide) hg); replace HB := aM (hb); have HO164 := aM (ho); clear HO161; clear ho hb hg hat; obtain ⟨Ao17, co17, eo17⟩ := Kd.R_slice HO164.out; subst eo17; have hcz18_0 : w16.cell? ⟨gb151, 0, none⟩ = some (.slice Ao11 y156.length co11) := yc BK151.out 0; have hcz18_1 : w16.cell? ⟨gb151, 1, none⟩ = some (.slice A0_1 l0_1.length c0_1) := yc BK151.out 1; have hfz18_0 := yZ BK151.out 0; have hfz18_1 := yZ BK151.out 1; have hcz19_0 : w16.cell? ⟨gb152, 0, none⟩ = some (.slice none 0 0) := yc BK152.out 0; have hcz19_1 : w16.cell? ⟨gb152, 1, none⟩ = some (.slice none 0 0) := yc BK152.out 1; have hfz19_0 := yZ BK152.out 0; have hfz19_1 := yZ BK152.out 1))
   refine bodyPost_ret (results_cell_row rfl _ _ gb152 30 #[.slice Ao11 y156.length co11, .slice Ao17 y162.length co17] (0, 0) _ rfl (by (with_reducible repeat (first | refine yN ?_ _ | refine yD ?_ | refine yA ?_ _)); refine yP (cs := #[.slice Ao11 y156.length co11, .slice none 0 0]) ?_ 1 _ rfl; (with_reducible repeat (first | refine yN ?_ _ | refine yD ?_ | refine yA ?_ _)); refine yP (cs := #[.slice none 0 0, .slice none 0 0]) ?_ 0 _ rfl; (with_reducible repeat (first | refine yN ?_ _ | refine yD ?_ | refine yA ?_ _)); refine yF ?_ NB152_151.out _; (with_reducible repeat (first | refine yN ?_ _ | refine yD ?_ | refine yA ?_ _)); exact BK152.out) Try.underlying30 rfl (by kernel_rfl)) rfl ?_
   exact ⟨_, _, by first | rfl | (simp [errW_none, errW_some] <;> rfl) | (simp [*, errW_none, errW_some] <;> rfl), xH (xM (xF (p := ⟨gb152, 1, none⟩) (xF (p := ⟨gb152, 0, none⟩) (xF (p := ⟨gb151, 1, none⟩) (xT (xT HO158.out BK151.out (by decide)) BK152.out (by decide)) (fun _ hk => hk.1.2) (.slice Ao17 y162.length co17)) (fun _ hk => hk.2) (.slice Ao11 y156.length co11)) (fun _ hk => hk.2) (.slice Ao17 y162.length co17)) (fun _ hk => trivial)), xH (xM (xF (p := ⟨gb152, 1, none⟩) (xF (p := ⟨gb152, 0, none⟩) (xF (p := ⟨gb151, 1, none⟩) (xT (xT HO164.out BK151.out (by decide)) BK152.out (by decide)) (fun _ hk => hk.1.2) (.slice Ao17 y162.length co17)) (fun _ hk => hk.2) (.slice Ao11 y156.length co11)) (fun _ hk => hk.2) (.slice Ao17 y162.length co17)) (fun _ hk => trivial)), zH HB.out⟩
  ·rw [if_neg c3] at H
   exact absurd H (by simp)
 ·rw [if_neg c2] at H
  exact absurd H (by simp)

/-! ### spec_WriteSector: function 23 -/
def spec_WriteSector.f (k : Nat) (l0_0 : List ByteArray) (l0_1 : List (S42)) (a1_0 : Int) (a1_1 : ByteArray) : Option (List ByteArray × (List (S42)) × Bool) := (spec_GoodDevice.f k l0_0 l0_1).bind fun t168 => (if t168 = true then ((spec_l1Write.f a1_0 a1_1 (l0_0.length : Int)).bind fun t169 => (if t169 = true then (if (l0_1.length : Int) = 60 then (some (([] : List ByteArray), ([] : List (S42)), false)) else ((spec_l1Own.f l0_0 l0_1).bind fun bt170 => (if bt170.2.length < 5864062014805 then (some (bt170.1, (bt170.2 ++ [(⟨a1_0, a1_1⟩ : S42)]), true)) else (none)))) else (some (([] : List ByteArray), ([] : List (S42)), false)))) else (some (([] : List ByteArray), ([] : List (S42)), false)))
theorem spec_WriteSector.mono : ∀ a0 a1 a2 a3 k, LeO (spec_WriteSector.f k a0 a1 a2 a3) (spec_WriteSector.f (k + 1) a0 a1 a2 a3) := by
 intro a0 a1 a2 a3 k
 unfold spec_WriteSector.f
 repeat' first
   | (with_reducible exact spec_GoodDevice.mono _ _ _)
   | (with_reducible exact LeO.refl _)
   | (with_reducible exact LeO.none _)
   | (with_reducible refine LeO.ite ?_ ?_)
   | (with_reducible refine LeO.bind ?_ (fun _ => ?_))
   | exact spec_GoodDevice.mono _ _ _
   | exact LeO.none _
   | refine LeO.ite ?_ ?_
   | refine LeO.bind ?_ (fun _ => ?_)
set_option maxHeartbeats 8000000 in
set_option maxRecDepth 100000 in
theorem spec_WriteSector.calls (k : Nat) (A0_0 : Option Addr) (c0_0 : Nat) (l0_0 : List ByteArray) (A0_1 : Option Addr) (c0_1 : Nat) (l0_1 : List (S42)) (a1_0 : Int) (a1_1 : ByteArray) (r1 : List ByteArray) (r2 : List (S42)) (r3 : Bool) (w : World) (hr0_0 : Kd.C Kd.string w A0_0 l0_0.length l0_0) (hc0_0 : l0_0.length ≤ c0_0) (hr0_1 : Kd.C k42 w A0_1 l0_1.length l0_1) (hc0_1 : l0_1.length ≤ c0_1) (h : spec_WriteSector.f k l0_0 l0_1 a1_0 a1_1 = some (r1, r2, r3)) :
  Calls Try.prog 23 #[.agg #[.slice A0_0 l0_0.length c0_0, .slice A0_1 l0_1.length c0_1], .agg #[.int .i64 a1_0, .string a1_1]] w fun e w' => ∃ v0_ v1_ : Value, e = .returned (.tuple #[.agg #[v0_, v1_], .bool r3]) ∧ Kd.R Kd.string 9 w' w.heap.size (fun _ => True) v0_ r1 ∧ Kd.R k42 42 w' w.heap.size (fun _ => True) v1_ r2 ∧ Below w.heap.size w w' := by
 have hu30 := Try.underlying30
 have hu42 := Try.underlying42
 have HR0_0 := aM hr0_0
 have HC0_0 := aM hc0_0
 clear hr0_0 hc0_0
 have HR0_1 := aM hr0_1
 have HC0_1 := aM hc0_1
 clear hr0_1 hc0_1
 have HB := aM (Below.refl w.heap.size w)
 have H : ((spec_GoodDevice.f k l0_0 l0_1).bind fun t168 => (if t168 = true then ((spec_l1Write.f a1_0 a1_1 (l0_0.length : Int)).bind fun t169 => (if t169 = true then (if (l0_1.length : Int) = 60 then (some (([] : List ByteArray), ([] : List (S42)), false)) else ((spec_l1Own.f l0_0 l0_1).bind fun bt170 => (if bt170.2.length < 5864062014805 then (some (bt170.1, (bt170.2 ++ [(⟨a1_0, a1_1⟩ : S42)]), true)) else (none)))) else (some (([] : List ByteArray), ([] : List (S42)), false)))) else (some (([] : List ByteArray), ([] : List (S42)), false)))) = some (r1, r2, r3) := h
 clear h
 replace H := Option.bind_eq_some_iff.mp H
 obtain ⟨t168, A30, H⟩ := H
 replace H : (if t168 = true then ((spec_l1Write.f a1_0 a1_1 (l0_0.length : Int)).bind fun t169 => (if t169 = true then (if (l0_1.length : Int) = 60 then (some (([] : List ByteArray), ([] : List (S42)), false)) else ((spec_l1Own.f l0_0 l0_1).bind fun bt170 => (if bt170.2.length < 5864062014805 then (some (bt170.1, (bt170.2 ++ [(⟨a1_0, a1_1⟩ : S42)]), true)) else (none)))) else (some (([] : List ByteArray), ([] : List (S42)), false)))) else (some (([] : List ByteArray), ([] : List (S42)), false))) = some (r1, r2, r3) := H
 have A3 := aM A30
 clear A30
 by_cases c4 : t168 = true
 ·subst c4
  have H1 : ((spec_l1Write.f a1_0 a1_1 (l0_0.length : Int)).bind fun t169 => (if t169 = true then (if (l0_1.length : Int) = 60 then (some (([] : List ByteArray), ([] : List (S42)), false)) else ((spec_l1Own.f l0_0 l0_1).bind fun bt170 => (if bt170.2.length < 5864062014805 then (some (bt170.1, (bt170.2 ++ [(⟨a1_0, a1_1⟩ : S42)]), true)) else (none)))) else (some (([] : List ByteArray), ([] : List (S42)), false)))) = some (r1, r2, r3) := by rw [if_pos rfl] at H; exact H
  clear H
  have H := H1
  clear H1
  replace H := Option.bind_eq_some_iff.mp H
  obtain ⟨t169, A50, H⟩ := H
  replace H : (if t169 = true then (if (l0_1.length : Int) = 60 then (some (([] : List ByteArray), ([] : List (S42)), false)) else ((spec_l1Own.f l0_0 l0_1).bind fun bt170 => (if bt170.2.length < 5864062014805 then (some (bt170.1, (bt170.2 ++ [(⟨a1_0, a1_1⟩ : S42)]), true)) else (none)))) else (some (([] : List ByteArray), ([] : List (S42)), false))) = some (r1, r2, r3) := H
  have A5 := aM A50
  clear A50
  by_cases c6 : t169 = true
  ·subst c6
   have H1 : (if (l0_1.length : Int) = 60 then (some (([] : List ByteArray), ([] : List (S42)), false)) else ((spec_l1Own.f l0_0 l0_1).bind fun bt170 => (if bt170.2.length < 5864062014805 then (some (bt170.1, (bt170.2 ++ [(⟨a1_0, a1_1⟩ : S42)]), true)) else (none)))) = some (r1, r2, r3) := by rw [if_pos rfl] at H; exact H
   clear H
   have H := H1
   clear H1
   by_cases c7 : (l0_1.length : Int) = 60
   ·rw [if_pos c7] at H
    have c7b0 : ((l0_1.length : Int) == 60) = true := beq_iff_eq.mpr c7
    have c7b1 : ((l0_1.length : Int) != 60) = false := bne_eq_false_iff_eq.mpr c7
    clear c7
    simp only [Option.some.injEq, Prod.mk.injEq] at H
    obtain ⟨rfl, rfl, rfl⟩ := H
    go_enter Try.func23, Try.ntmps23
    go_wp2_with (first | ((with_reducible refine gate_dst (N := 2) rfl ?_); (try (refine gate_guard (by rfl) ?_; dsimp only)); refine box_event ?hg (N := 2) ?hd (cs := #[.slice A0_0 l0_0.length c0_0, .slice A0_1 l0_1.length c0_1]) (t := 30) ?hr ?_; (case hd => rfl); (case hg => rfl); (case hr => first | (go_simp; done) | (go_simp; rfl)); intro gb165 hg w8 hbox hb; have BK165 := aM (hbox); have GW165 := aM ((by rw [hg]; exact (zZ (zH HB.out)) : w.heap.size ≤ gb165)); have GE165 := aM ((by rw [hg]; exact (zZ (zH HB.out)) : w.heap.size ≤ gb165)); replace HB := aM (zT (zH HB.out) hb); clear hb hbox hg) | ((with_reducible refine gate_dst (N := 3) rfl ?_); (try (refine gate_guard (by rfl) ?_; dsimp only)); refine box_event ?hg (N := 3) ?hd (cs := #[.int .i64 a1_0, .string a1_1]) (t := 42) ?hr ?_; (case hd => rfl); (case hg => rfl); (case hr => first | (go_simp; done) | (go_simp; rfl)); intro gb166 hg w9 hbox hb; have BK166 := aM (hbox); have GW166 := aM ((by rw [hg]; exact (zZ (zH HB.out)) : w.heap.size ≤ gb166)); have GE166 := aM ((by rw [hg]; exact (zZ (zH HB.out)) : w.heap.size ≤ gb166)); replace HB := aM (zT (zH HB.out) hb); have NB165_166 := nL BK165.out hg; have NB166_165 := nR BK165.out hg; replace BK165 := yK BK165.out hb; clear hb hbox hg) | ((with_reducible refine gate_dst (N := 4) rfl ?_); (try (refine gate_guard (by rfl) ?_; dsimp only)); refine box_event ?hg (N := 4) ?hd (cs := #[.slice none 0 0, .slice none 0 0]) (t := 30) ?hr ?_; (case hd => rfl); (case hg => rfl); (case hr => first | (go_simp; done) | (go_simp; rfl)); intro gb167 hg w10 hbox hb; have BK167 := aM (hbox); have GW167 := aM ((by rw [hg]; exact (zZ (zH HB.out)) : w.heap.size ≤ gb167)); have GE167 := aM ((by rw [hg]; exact (zZ (zH HB.out)) : w.heap.size ≤ gb167)); replace HB := aM (zT (zH HB.out) hb); have NB165_167 := nL BK165.out hg; have NB167_165 := nR BK165.out hg; replace BK165 := yK BK165.out hb; have NB166_167 := nL BK166.out hg; have NB167_166 := nR BK166.out hg; replace BK166 := yK BK166.out hb; clear hb hbox hg; have hnb11 := NB165_166.out; have hnc11 := NB166_165.out; have hnb12 := NB165_167.out; have hnc12 := NB167_165.out; have hcz13_0 : w10.cell? ⟨gb165, 0, none⟩ = some (.slice A0_0 l0_0.length c0_0) := yc BK165.out 0; have hcz13_1 : w10.cell? ⟨gb165, 1, none⟩ = some (.slice A0_1 l0_1.length c0_1) := yc BK165.out 1; have hfz13_0 := yZ BK165.out 0; have hfz13_1 := yZ BK165.out 1) | ((with_reducible refine gate_callee (f := 14) rfl ?_); refine goesL_ (some 7) rfl rfl Try.func14 (by kernel_rfl) rfl #[.agg #[.slice A0_0 l0_0.length c0_0, .slice A0_1 l0_1.length c0_1]] rfl (by (try simp only [List.map_toArray, List.map_cons, List.map_nil]); first | done | rfl | (simp only [List.length_drop, List.length_take]; rfl)) ?_; (with_reducible refine (spec_GoodDevice.calls k _ _ l0_0 _ _ l0_1 true _ ?side1 ?side2 ?side3 ?side4 A3.out).mono ?_); (case side1 => exact cK HR0_0.out HB.out); (case side2 => exact HC0_0.out); (case side3 => exact cK HR0_1.out HB.out); (case side4 => exact HC0_1.out); rintro e w14 ⟨rfl, hb⟩; refine ⟨_, rfl, ?_⟩; replace BK165 := yK BK165.out hb; replace BK166 := yK BK166.out hb; replace BK167 := yK BK167.out hb; replace HB := aM (zT (zH HB.out) hb); (try clear hb); have hnb15 := NB166_167.out; have hnc15 := NB167_166.out; have hcz16_0 : w14.cell? ⟨gb166, 0, none⟩ = some (.int .i64 a1_0) := yc BK166.out 0; have hcz16_1 : w14.cell? ⟨gb166, 1, none⟩ = some (.string a1_1) := yc BK166.out 1; have hfz16_0 := yZ BK166.out 0; have hfz16_1 := yZ BK166.out 1; have hcz17_0 : w14.cell? ⟨gb165, 0, none⟩ = some (.slice A0_0 l0_0.length c0_0) := yc BK165.out 0; have hcz17_1 : w14.cell? ⟨gb165, 1, none⟩ = some (.slice A0_1 l0_1.length c0_1) := yc BK165.out 1; have hfz17_0 := yZ BK165.out 0; have hfz17_1 := yZ BK165.out 1) | (go_at_call 52; (with_reducible refine (spec_l1Write.calls a1_0 a1_1 (l0_0.length : Int) true _ A5.out).mono ?_); rintro e w18 ⟨rfl, hb⟩; replace BK165 := yK BK165.out hb; replace BK166 := yK BK166.out hb; replace BK167 := yK BK167.out hb; replace HB := aM (zT (zH HB.out) hb); (try clear hb); have hcz19_0 : w18.cell? ⟨gb165, 0, none⟩ = some (.slice A0_0 l0_0.length c0_0) := yc BK165.out 0; have hcz19_1 : w18.cell? ⟨gb165, 1, none⟩ = some (.slice A0_1 l0_1.length c0_1) := yc BK165.out 1; have hfz19_0 := yZ BK165.out 0; have hfz19_1 := yZ BK165.out 1; have hcz20_0 : w18.cell? ⟨gb167, 0, none⟩ = some (.slice none 0 0) := yc BK167.out 0; have hcz20_1 : w18.cell? ⟨gb167, 1, none⟩ = some (.slice none 0 0) := yc BK167.out 1; have hfz20_0 := yZ BK167.out 0; have hfz20_1 := yZ BK167.out 1))
    refine bodyPost_ret (results_ct rfl _ _ gb167 30 #[.slice none 0 0, .slice none 0 0] (0, 0) _ rfl (by (with_reducible repeat (first | refine yN ?_ _ | refine yD ?_ | refine yA ?_ _)); refine yP (cs := #[.slice none 0 0, .slice none 0 0]) ?_ 1 _ rfl; (with_reducible repeat (first | refine yN ?_ _ | refine yD ?_ | refine yA ?_ _)); refine yP (cs := #[.slice none 0 0, .slice none 0 0]) ?_ 0 _ rfl; (with_reducible repeat (first | refine yN ?_ _ | refine yD ?_ | refine yA ?_ _)); exact BK167.out) Try.underlying30 rfl (by kernel_rfl)) rfl ?_
    exact ⟨_, _, by first | rfl | (simp [errW_none, errW_some] <;> rfl) | (simp [*, errW_none, errW_some] <;> rfl), by first | exact Kd.R_nil _ _ _ _ _ | exact Kd.N_nil _ _ _ _ _ | exact Kd.V_nil _ _ _ _ _ | exact Kd.Q_nil _ _ _ _ _ | exact Kd.S_nil _ _ _ _ _, by first | exact Kd.R_nil _ _ _ _ _ | exact Kd.N_nil _ _ _ _ _ | exact Kd.V_nil _ _ _ _ _ | exact Kd.Q_nil _ _ _ _ _ | exact Kd.S_nil _ _ _ _ _, zH HB.out⟩
   ·rw [if_neg c7] at H
    have c7b0 : ((l0_1.length : Int) == 60) = false := beq_eq_false_iff_ne.mpr c7
    have c7b1 : ((l0_1.length : Int) != 60) = true := bne_iff_ne.mpr c7
    replace H := Option.bind_eq_some_iff.mp H
    obtain ⟨⟨t170, t173⟩, A210, H⟩ := H
    replace H : (if t173.length < 5864062014805 then (some (t170, (t173 ++ [(⟨a1_0, a1_1⟩ : S42)]), true)) else (none)) = some (r1, r2, r3) := H
    have A21 := aM A210
    clear A210
    by_cases c22 : t173.length < 5864062014805
    ·rw [if_pos c22] at H
     have LMc22 := aM c22
     clear c22
     obtain ⟨y176, hy176⟩ : ∃ y_ : List (S42), y_ = (t173 ++ [(⟨a1_0, a1_1⟩ : S42)]) := ⟨_, rfl⟩
     replace H : (some (t170, y176, true)) = some (r1, r2, r3) := by first | (rw [hy176]; with_reducible exact H) | (have H2_ := (Option.bind_some _ _).symm.trans H; rw [hy176]; with_reducible exact H2_) | (have H2_ := (Option.bind_some _ _).symm.trans H; with_reducible exact H2_) | with_reducible exact H | (rw [hy176]; exact H) | exact H
     have Ny176 := aM hy176
     clear hy176
     simp only [Option.some.injEq, Prod.mk.injEq] at H
     obtain ⟨rfl, rfl, rfl⟩ := H
     go_enter Try.func23, Try.ntmps23
     go_wp2_with (first | ((with_reducible refine gate_dst (N := 2) rfl ?_); (try (refine gate_guard (by rfl) ?_; dsimp only)); refine box_event ?hg (N := 2) ?hd (cs := #[.slice A0_0 l0_0.length c0_0, .slice A0_1 l0_1.length c0_1]) (t := 30) ?hr ?_; (case hd => rfl); (case hg => rfl); (case hr => first | (go_simp; done) | (go_simp; rfl)); intro gb165 hg w23 hbox hb; have BK165 := aM (hbox); have GW165 := aM ((by rw [hg]; exact (zZ (zH HB.out)) : w.heap.size ≤ gb165)); have GE165 := aM ((by rw [hg]; exact (zZ (zH HB.out)) : w.heap.size ≤ gb165)); replace HB := aM (zT (zH HB.out) hb); clear hb hbox hg) | ((with_reducible refine gate_dst (N := 3) rfl ?_); (try (refine gate_guard (by rfl) ?_; dsimp only)); refine box_event ?hg (N := 3) ?hd (cs := #[.int .i64 a1_0, .string a1_1]) (t := 42) ?hr ?_; (case hd => rfl); (case hg => rfl); (case hr => first | (go_simp; done) | (go_simp; rfl)); intro gb166 hg w24 hbox hb; have BK166 := aM (hbox); have GW166 := aM ((by rw [hg]; exact (zZ (zH HB.out)) : w.heap.size ≤ gb166)); have GE166 := aM ((by rw [hg]; exact (zZ (zH HB.out)) : w.heap.size ≤ gb166)); replace HB := aM (zT (zH HB.out) hb); have NB165_166 := nL BK165.out hg; have NB166_165 := nR BK165.out hg; replace BK165 := yK BK165.out hb; clear hb hbox hg) | ((with_reducible refine gate_dst (N := 4) rfl ?_); (try (refine gate_guard (by rfl) ?_; dsimp only)); refine box_event ?hg (N := 4) ?hd (cs := #[.slice none 0 0, .slice none 0 0]) (t := 30) ?hr ?_; (case hd => rfl); (case hg => rfl); (case hr => first | (go_simp; done) | (go_simp; rfl)); intro gb167 hg w25 hbox hb; have BK167 := aM (hbox); have GW167 := aM ((by rw [hg]; exact (zZ (zH HB.out)) : w.heap.size ≤ gb167)); have GE167 := aM ((by rw [hg]; exact (zZ (zH HB.out)) : w.heap.size ≤ gb167)); replace HB := aM (zT (zH HB.out) hb); have NB165_167 := nL BK165.out hg; have NB167_165 := nR BK165.out hg; replace BK165 := yK BK165.out hb; have NB166_167 := nL BK166.out hg; have NB167_166 := nR BK166.out hg; replace BK166 := yK BK166.out hb; clear hb hbox hg; have hnb26 := NB165_166.out; have hnc26 := NB166_165.out; have hnb27 := NB165_167.out; have hnc27 := NB167_165.out; have hcz28_0 : w25.cell? ⟨gb165, 0, none⟩ = some (.slice A0_0 l0_0.length c0_0) := yc BK165.out 0; have hcz28_1 : w25.cell? ⟨gb165, 1, none⟩ = some (.slice A0_1 l0_1.length c0_1) := yc BK165.out 1; have hfz28_0 := yZ BK165.out 0; have hfz28_1 := yZ BK165.out 1) | ((with_reducible refine gate_callee (f := 14) rfl ?_); refine goesL_ (some 7) rfl rfl Try.func14 (by kernel_rfl) rfl #[.agg #[.slice A0_0 l0_0.length c0_0, .slice A0_1 l0_1.length c0_1]] rfl (by (try simp only [List.map_toArray, List.map_cons, List.map_nil]); first | done | rfl | (simp only [List.length_drop, List.length_take]; rfl)) ?_; (with_reducible refine (spec_GoodDevice.calls k _ _ l0_0 _ _ l0_1 true _ ?side1 ?side2 ?side3 ?side4 A3.out).mono ?_); (case side1 => exact cK HR0_0.out HB.out); (case side2 => exact HC0_0.out); (case side3 => exact cK HR0_1.out HB.out); (case side4 => exact HC0_1.out); rintro e w29 ⟨rfl, hb⟩; refine ⟨_, rfl, ?_⟩; replace BK165 := yK BK165.out hb; replace BK166 := yK BK166.out hb; replace BK167 := yK BK167.out hb; replace HB := aM (zT (zH HB.out) hb); (try clear hb); have hnb30 := NB166_167.out; have hnc30 := NB167_166.out; have hcz31_0 : w29.cell? ⟨gb166, 0, none⟩ = some (.int .i64 a1_0) := yc BK166.out 0; have hcz31_1 : w29.cell? ⟨gb166, 1, none⟩ = some (.string a1_1) := yc BK166.out 1; have hfz31_0 := yZ BK166.out 0; have hfz31_1 := yZ BK166.out 1; have hcz32_0 : w29.cell? ⟨gb165, 0, none⟩ = some (.slice A0_0 l0_0.length c0_0) := yc BK165.out 0; have hcz32_1 : w29.cell? ⟨gb165, 1, none⟩ = some (.slice A0_1 l0_1.length c0_1) := yc BK165.out 1; have hfz32_0 := yZ BK165.out 0; have hfz32_1 := yZ BK165.out 1) | (go_at_call 52; (with_reducible refine (spec_l1Write.calls a1_0 a1_1 (l0_0.length : Int) true _ A5.out).mono ?_); rintro e w33 ⟨rfl, hb⟩; replace BK165 := yK BK165.out hb; replace BK166 := yK BK166.out hb; replace BK167 := yK BK167.out hb; replace HB := aM (zT (zH HB.out) hb); (try clear hb); have hcz34_0 : w33.cell? ⟨gb165, 0, none⟩ = some (.slice A0_0 l0_0.length c0_0) := yc BK165.out 0; have hcz34_1 : w33.cell? ⟨gb165, 1, none⟩ = some (.slice A0_1 l0_1.length c0_1) := yc BK165.out 1; have hfz34_0 := yZ BK165.out 0; have hfz34_1 := yZ BK165.out 1) | ((with_reducible refine gate_callee (f := 65) rfl ?_); refine goesL_ (some 25) rfl rfl Try.func65 (by kernel_rfl) rfl #[.agg #[.slice A0_0 l0_0.length c0_0, .slice A0_1 l0_1.length c0_1]] rfl (by (try simp only [List.map_toArray, List.map_cons, List.map_nil]); first | done | rfl | (simp only [List.length_drop, List.length_take]; rfl)) ?_; (with_reducible refine (spec_l1Own.calls _ _ l0_0 _ _ l0_1 t170 t173 _ ?side1 ?side2 ?side3 ?side4 A21.out).mono ?_); (case side1 => exact cK HR0_0.out HB.out); (case side2 => exact HC0_0.out); (case side3 => exact cK HR0_1.out HB.out); (case side4 => exact HC0_1.out); rintro e w35 ⟨v171, v174, rfl, ho0, ho1, hb⟩; refine ⟨_, rfl, ?_⟩; have HO172 := aM (xL ho0 (zZ (zH HB.out))); have HO175 := aM (xL (Kd.R_newB ho1 (g := gb166) (o := .cells #[.int .i64 a1_0, .string a1_1] 42 (0, 0)) (yH BK166.out)) (zZ (zH HB.out))); replace BK165 := yK BK165.out hb; replace BK166 := yK BK166.out hb; replace BK167 := yK BK167.out hb; replace HB := aM (zT (zH HB.out) hb); (try clear hb); (try clear ho0); (try clear ho1); obtain ⟨Ao36, co36, eo36⟩ := Kd.R_slice HO172.out; subst eo36; have hcz37_0 : w35.cell? ⟨gb165, 0, none⟩ = some (.slice A0_0 l0_0.length c0_0) := yc BK165.out 0; have hcz37_1 : w35.cell? ⟨gb165, 1, none⟩ = some (.slice A0_1 l0_1.length c0_1) := yc BK165.out 1; have hfz37_0 := yZ BK165.out 0; have hfz37_1 := yZ BK165.out 1; obtain ⟨Ao38, co38, eo38⟩ := Kd.R_slice HO175.out; subst eo38; have hcz39_0 : w35.cell? ⟨gb166, 0, none⟩ = some (.int .i64 a1_0) := yc BK166.out 0; have hcz39_1 : w35.cell? ⟨gb166, 1, none⟩ = some (.string a1_1) := yc BK166.out 1; have hfz39_0 := yZ BK166.out 0; have hfz39_1 := yZ BK166.out 1) | ((with_reducible refine gate_builtin (b := .append) (xs := #[.tmp 27, .tmp 29]) rfl ?_); (try (refine gate_guard (by rfl) ?_; dsimp only)); at_builtin; refine Kd.R_append k42 (w0 := w) w.heap.size rfl (.tmp 27) (.tmp 29) 28 42 (.agg #[(.int .i64 0), (.string ⟨#[]⟩)]) 24 rfl Try.underlying28 info42 rfl (by decide) (by omega) (.slice Ao38 t173.length co38) t173 (⟨a1_0, a1_1⟩ : S42) [.int .i64 a1_0, .string a1_1] (fun k_ => k_ ≠ gb166) (fun _ => False) rfl (by first | (go_simp; done) | (go_simp; rfl)) ?aP (fun _ hk => hk.elim) ?aF ?aO ?aB ?aS ?aL ?_; (case aP => exact k42_mkM _ _ _ (⟨a1_0, a1_1⟩ : S42)); (case aB => exact (zH HB.out)); (case aF => exact (fun k_ hk => Kd.freshB (g := gb166) (o := .cells #[.int .i64 a1_0, .string a1_1] 42 (0, 0)) (by (with_reducible repeat (first | refine yN ?_ _ | refine yD ?_ | refine yA ?_ _)); refine yF ?_ NB166_165.out _; (with_reducible repeat (first | refine yN ?_ _ | refine yD ?_ | refine yA ?_ _)); refine yF ?_ NB166_165.out _; (with_reducible repeat (first | refine yN ?_ _ | refine yD ?_ | refine yA ?_ _)); exact BK166.out) k_ hk)); (case aO => exact (xH (xM (xF (p := ⟨gb165, 1, none⟩) (xF (p := ⟨gb165, 0, none⟩) (xT HO175.out BK165.out (by decide)) (fun _ hk => hk.2) (.slice Ao36 t170.length co36)) (fun _ hk => hk.2) (.slice Ao38 t173.length co38)) (fun _ hk => hk.1.2)))); (case aS => exact (zZ (zH HB.out))); (case aL => have := LMc22.out; omega); intro v177 w40 ho hb hg hat; rw [← Ny176.out] at ho; replace BK166 := aM (blk_grown (g := gb166) (o := .cells #[.int .i64 a1_0, .string a1_1] 42 (0, 0)) (by (with_reducible repeat (first | refine yN ?_ _ | refine yD ?_ | refine yA ?_ _)); refine yF ?_ NB166_165.out _; (with_reducible repeat (first | refine yN ?_ _ | refine yD ?_ | refine yA ?_ _)); refine yF ?_ NB166_165.out _; (with_reducible repeat (first | refine yN ?_ _ | refine yD ?_ | refine yA ?_ _)); exact BK166.out) hg (Kd.R_away HO175.out (fun _ hk => hk.2))); replace BK167 := aM (blk_grown (g := gb167) (o := .cells #[.slice none 0 0, .slice none 0 0] 30 (0, 0)) (by (with_reducible repeat (first | refine yN ?_ _ | refine yD ?_ | refine yA ?_ _)); refine yF ?_ NB167_165.out _; (with_reducible repeat (first | refine yN ?_ _ | refine yD ?_ | refine yA ?_ _)); refine yF ?_ NB167_165.out _; (with_reducible repeat (first | refine yN ?_ _ | refine yD ?_ | refine yA ?_ _)); exact BK167.out) hg (Kd.R_ne HO175.out BK167.out (by decide))); replace HO172 := aM (Kd.R_over' (xH ((x2 HO172.out BK165.out (by decide) (.slice Ao36 t170.length co36) (.slice Ao38 t173.length co38)))) (Kd.R_typed (xH ((x2 HO175.out BK165.out (by decide) (.slice Ao36 t170.length co36) (.slice Ao38 t173.length co38))))) (by decide) hg); replace BK165 := aM (blk_grown (g := gb165) (o := .cells #[.slice Ao36 t170.length co36, .slice Ao38 t173.length co38] 30 (0, 0)) (by (with_reducible repeat (first | refine yN ?_ _ | refine yD ?_ | refine yA ?_ _)); refine yP (cs := #[.slice Ao36 t170.length co36, .slice A0_1 l0_1.length c0_1]) ?_ 1 _ rfl; (with_reducible repeat (first | refine yN ?_ _ | refine yD ?_ | refine yA ?_ _)); refine yP (cs := #[.slice A0_0 l0_0.length c0_0, .slice A0_1 l0_1.length c0_1]) ?_ 0 _ rfl; (with_reducible repeat (first | refine yN ?_ _ | refine yD ?_ | refine yA ?_ _)); exact BK165.out) hg (Kd.R_ne HO175.out BK165.out (by decide))); replace HB := aM (hb); have HO178 := aM (ho); clear HO175; clear ho hb hg hat; obtain ⟨Ao41, co41, eo41⟩ := Kd.R_slice HO178.out; subst eo41; have hcz42_0 : w40.cell? ⟨gb165, 0, none⟩ = some (.slice Ao36 t170.length co36) := yc BK165.out 0; have hcz42_1 : w40.cell? ⟨gb165, 1, none⟩ = some (.slice Ao38 t173.length co38) := yc BK165.out 1; have hfz42_0 := yZ BK165.out 0; have hfz42_1 := yZ BK165.out 1; have hcz43_0 : w40.cell? ⟨gb167, 0, none⟩ = some (.slice none 0 0) := yc BK167.out 0; have hcz43_1 : w40.cell? ⟨gb167, 1, none⟩ = some (.slice none 0 0) := yc BK167.out 1; have hfz43_0 := yZ BK167.out 0; have hfz43_1 := yZ BK167.out 1))
     refine bodyPost_ret (results_ct rfl _ _ gb167 30 #[.slice Ao36 t170.length co36, .slice Ao41 y176.length co41] (0, 0) _ rfl (by (with_reducible repeat (first | refine yN ?_ _ | refine yD ?_ | refine yA ?_ _)); refine yP (cs := #[.slice Ao36 t170.length co36, .slice none 0 0]) ?_ 1 _ rfl; (with_reducible repeat (first | refine yN ?_ _ | refine yD ?_ | refine yA ?_ _)); refine yP (cs := #[.slice none 0 0, .slice none 0 0]) ?_ 0 _ rfl; (with_reducible repeat (first | refine yN ?_ _ | refine yD ?_ | refine yA ?_ _)); refine yF ?_ NB167_165.out _; (with_reducible repeat (first | refine yN ?_ _ | refine yD ?_ | refine yA ?_ _)); exact BK167.out) Try.underlying30 rfl (by kernel_rfl)) rfl ?_
     exact ⟨_, _, by first | rfl | (simp [errW_none, errW_some] <;> rfl) | (simp [*, errW_none, errW_some] <;> rfl), xH (xM (xF (p := ⟨gb167, 1, none⟩) (xF (p := ⟨gb167, 0, none⟩) (xF (p := ⟨gb165, 1, none⟩) (xT (xT HO172.out BK165.out (by decide)) BK167.out (by decide)) (fun _ hk => hk.1.2) (.slice Ao41 y176.length co41)) (fun _ hk => hk.2) (.slice Ao36 t170.length co36)) (fun _ hk => hk.2) (.slice Ao41 y176.length co41)) (fun _ hk => trivial)), xH (xM (xF (p := ⟨gb167, 1, none⟩) (xF (p := ⟨gb167, 0, none⟩) (xF (p := ⟨gb165, 1, none⟩) (xT (xT HO178.out BK165.out (by decide)) BK167.out (by decide)) (fun _ hk => hk.1.2) (.slice Ao41 y176.length co41)) (fun _ hk => hk.2) (.slice Ao36 t170.length co36)) (fun _ hk => hk.2) (.slice Ao41 y176.length co41)) (fun _ hk => trivial)), zH HB.out⟩
    ·rw [if_neg c22] at H
     exact absurd H (by simp)
  ·replace c6 := Bool.eq_false_iff.mpr c6
   subst c6
   have H1 : (some (([] : List ByteArray), ([] : List (S42)), false)) = some (r1, r2, r3) := by rw [if_neg (show ¬ (false = true) by decide)] at H; exact H
   clear H
   have H := H1
   clear H1
   simp only [Option.some.injEq, Prod.mk.injEq] at H
   obtain ⟨rfl, rfl, rfl⟩ := H
   go_enter Try.func23, Try.ntmps23
   go_wp2_with (first | ((with_reducible refine gate_dst (N := 2) rfl ?_); (try (refine gate_guard (by rfl) ?_; dsimp only)); refine box_event ?hg (N := 2) ?hd (cs := #[.slice A0_0 l0_0.length c0_0, .slice A0_1 l0_1.length c0_1]) (t := 30) ?hr ?_; (case hd => rfl); (case hg => rfl); (case hr => first | (go_simp; done) | (go_simp; rfl)); intro gb165 hg w44 hbox hb; have BK165 := aM (hbox); have GW165 := aM ((by rw [hg]; exact (zZ (zH HB.out)) : w.heap.size ≤ gb165)); have GE165 := aM ((by rw [hg]; exact (zZ (zH HB.out)) : w.heap.size ≤ gb165)); replace HB := aM (zT (zH HB.out) hb); clear hb hbox hg) | ((with_reducible refine gate_dst (N := 3) rfl ?_); (try (refine gate_guard (by rfl) ?_; dsimp only)); refine box_event ?hg (N := 3) ?hd (cs := #[.int .i64 a1_0, .string a1_1]) (t := 42) ?hr ?_; (case hd => rfl); (case hg => rfl); (case hr => first | (go_simp; done) | (go_simp; rfl)); intro gb166 hg w45 hbox hb; have BK166 := aM (hbox); have GW166 := aM ((by rw [hg]; exact (zZ (zH HB.out)) : w.heap.size ≤ gb166)); have GE166 := aM ((by rw [hg]; exact (zZ (zH HB.out)) : w.heap.size ≤ gb166)); replace HB := aM (zT (zH HB.out) hb); have NB165_166 := nL BK165.out hg; have NB166_165 := nR BK165.out hg; replace BK165 := yK BK165.out hb; clear hb hbox hg) | ((with_reducible refine gate_dst (N := 4) rfl ?_); (try (refine gate_guard (by rfl) ?_; dsimp only)); refine box_event ?hg (N := 4) ?hd (cs := #[.slice none 0 0, .slice none 0 0]) (t := 30) ?hr ?_; (case hd => rfl); (case hg => rfl); (case hr => first | (go_simp; done) | (go_simp; rfl)); intro gb167 hg w46 hbox hb; have BK167 := aM (hbox); have GW167 := aM ((by rw [hg]; exact (zZ (zH HB.out)) : w.heap.size ≤ gb167)); have GE167 := aM ((by rw [hg]; exact (zZ (zH HB.out)) : w.heap.size ≤ gb167)); replace HB := aM (zT (zH HB.out) hb); have NB165_167 := nL BK165.out hg; have NB167_165 := nR BK165.out hg; replace BK165 := yK BK165.out hb; have NB166_167 := nL BK166.out hg; have NB167_166 := nR BK166.out hg; replace BK166 := yK BK166.out hb; clear hb hbox hg; have hnb47 := NB165_166.out; have hnc47 := NB166_165.out; have hnb48 := NB165_167.out; have hnc48 := NB167_165.out; have hcz49_0 : w46.cell? ⟨gb165, 0, none⟩ = some (.slice A0_0 l0_0.length c0_0) := yc BK165.out 0; have hcz49_1 : w46.cell? ⟨gb165, 1, none⟩ = some (.slice A0_1 l0_1.length c0_1) := yc BK165.out 1; have hfz49_0 := yZ BK165.out 0; have hfz49_1 := yZ BK165.out 1) | ((with_reducible refine gate_callee (f := 14) rfl ?_); refine goesL_ (some 7) rfl rfl Try.func14 (by kernel_rfl) rfl #[.agg #[.slice A0_0 l0_0.length c0_0, .slice A0_1 l0_1.length c0_1]] rfl (by (try simp only [List.map_toArray, List.map_cons, List.map_nil]); first | done | rfl | (simp only [List.length_drop, List.length_take]; rfl)) ?_; (with_reducible refine (spec_GoodDevice.calls k _ _ l0_0 _ _ l0_1 true _ ?side1 ?side2 ?side3 ?side4 A3.out).mono ?_); (case side1 => exact cK HR0_0.out HB.out); (case side2 => exact HC0_0.out); (case side3 => exact cK HR0_1.out HB.out); (case side4 => exact HC0_1.out); rintro e w50 ⟨rfl, hb⟩; refine ⟨_, rfl, ?_⟩; replace BK165 := yK BK165.out hb; replace BK166 := yK BK166.out hb; replace BK167 := yK BK167.out hb; replace HB := aM (zT (zH HB.out) hb); (try clear hb); have hnb51 := NB166_167.out; have hnc51 := NB167_166.out; have hcz52_0 : w50.cell? ⟨gb166, 0, none⟩ = some (.int .i64 a1_0) := yc BK166.out 0; have hcz52_1 : w50.cell? ⟨gb166, 1, none⟩ = some (.string a1_1) := yc BK166.out 1; have hfz52_0 := yZ BK166.out 0; have hfz52_1 := yZ BK166.out 1; have hcz53_0 : w50.cell? ⟨gb165, 0, none⟩ = some (.slice A0_0 l0_0.length c0_0) := yc BK165.out 0; have hcz53_1 : w50.cell? ⟨gb165, 1, none⟩ = some (.slice A0_1 l0_1.length c0_1) := yc BK165.out 1; have hfz53_0 := yZ BK165.out 0; have hfz53_1 := yZ BK165.out 1) | (go_at_call 52; (with_reducible refine (spec_l1Write.calls a1_0 a1_1 (l0_0.length : Int) false _ A5.out).mono ?_); rintro e w54 ⟨rfl, hb⟩; replace BK165 := yK BK165.out hb; replace BK166 := yK BK166.out hb; replace BK167 := yK BK167.out hb; replace HB := aM (zT (zH HB.out) hb); (try clear hb); have hcz55_0 : w54.cell? ⟨gb167, 0, none⟩ = some (.slice none 0 0) := yc BK167.out 0; have hcz55_1 : w54.cell? ⟨gb167, 1, none⟩ = some (.slice none 0 0) := yc BK167.out 1; have hfz55_0 := yZ BK167.out 0; have hfz55_1 := yZ BK167.out 1))
   refine bodyPost_ret (results_ct rfl _ _ gb167 30 #[.slice none 0 0, .slice none 0 0] (0, 0) _ rfl (by (with_reducible repeat (first | refine yN ?_ _ | refine yD ?_ | refine yA ?_ _)); refine yP (cs := #[.slice none 0 0, .slice none 0 0]) ?_ 1 _ rfl; (with_reducible repeat (first | refine yN ?_ _ | refine yD ?_ | refine yA ?_ _)); refine yP (cs := #[.slice none 0 0, .slice none 0 0]) ?_ 0 _ rfl; (with_reducible repeat (first | refine yN ?_ _ | refine yD ?_ | refine yA ?_ _)); exact BK167.out) Try.underlying30 rfl (by kernel_rfl)) rfl ?_
   exact ⟨_, _, by first | rfl | (simp [errW_none, errW_some] <;> rfl) | (simp [*, errW_none, errW_some] <;> rfl), by first | exact Kd.R_nil _ _ _ _ _ | exact Kd.N_nil _ _ _ _ _ | exact Kd.V_nil _ _ _ _ _ | exact Kd.Q_nil _ _ _ _ _ | exact Kd.S_nil _ _ _ _ _, by first | exact Kd.R_nil _ _ _ _ _ | exact Kd.N_nil _ _ _ _ _ | exact Kd.V_nil _ _ _ _ _ | exact Kd.Q_nil _ _ _ _ _ | exact Kd.S_nil _ _ _ _ _, zH HB.out⟩
 ·replace c4 := Bool.eq_false_iff.mpr c4
  subst c4
  have H1 : (some (([] : List ByteArray), ([] : List (S42)), false)) = some (r1, r2, r3) := by rw [if_neg (show ¬ (false = true) by decide)] at H; exact H
  clear H
  have H := H1
  clear H1
  simp only [Option.some.injEq, Prod.mk.injEq] at H
  obtain ⟨rfl, rfl, rfl⟩ := H
  go_enter Try.func23, Try.ntmps23
  go_wp2_with (first | ((with_reducible refine gate_dst (N := 2) rfl ?_); (try (refine gate_guard (by rfl) ?_; dsimp only)); refine box_event ?hg (N := 2) ?hd (cs := #[.slice A0_0 l0_0.length c0_0, .slice A0_1 l0_1.length c0_1]) (t := 30) ?hr ?_; (case hd => rfl); (case hg => rfl); (case hr => first | (go_simp; done) | (go_simp; rfl)); intro gb165 hg w56 hbox hb; have BK165 := aM (hbox); have GW165 := aM ((by rw [hg]; exact (zZ (zH HB.out)) : w.heap.size ≤ gb165)); have GE165 := aM ((by rw [hg]; exact (zZ (zH HB.out)) : w.heap.size ≤ gb165)); replace HB := aM (zT (zH HB.out) hb); clear hb hbox hg) | ((with_reducible refine gate_dst (N := 3) rfl ?_); (try (refine gate_guard (by rfl) ?_; dsimp only)); refine box_event ?hg (N := 3) ?hd (cs := #[.int .i64 a1_0, .string a1_1]) (t := 42) ?hr ?_; (case hd => rfl); (case hg => rfl); (case hr => first | (go_simp; done) | (go_simp; rfl)); intro gb166 hg w57 hbox hb; have BK166 := aM (hbox); have GW166 := aM ((by rw [hg]; exact (zZ (zH HB.out)) : w.heap.size ≤ gb166)); have GE166 := aM ((by rw [hg]; exact (zZ (zH HB.out)) : w.heap.size ≤ gb166)); replace HB := aM (zT (zH HB.out) hb); have NB165_166 := nL BK165.out hg; have NB166_165 := nR BK165.out hg; replace BK165 := yK BK165.out hb; clear hb hbox hg) | ((with_reducible refine gate_dst (N := 4) rfl ?_); (try (refine gate_guard (by rfl) ?_; dsimp only)); refine box_event ?hg (N := 4) ?hd (cs := #[.slice none 0 0, .slice none 0 0]) (t := 30) ?hr ?_; (case hd => rfl); (case hg => rfl); (case hr => first | (go_simp; done) | (go_simp; rfl)); intro gb167 hg w58 hbox hb; have BK167 := aM (hbox); have GW167 := aM ((by rw [hg]; exact (zZ (zH HB.out)) : w.heap.size ≤ gb167)); have GE167 := aM ((by rw [hg]; exact (zZ (zH HB.out)) : w.heap.size ≤ gb167)); replace HB := aM (zT (zH HB.out) hb); have NB165_167 := nL BK165.out hg; have NB167_165 := nR BK165.out hg; replace BK165 := yK BK165.out hb; have NB166_167 := nL BK166.out hg; have NB167_166 := nR BK166.out hg; replace BK166 := yK BK166.out hb; clear hb hbox hg; have hnb59 := NB165_166.out; have hnc59 := NB166_165.out; have hnb60 := NB165_167.out; have hnc60 := NB167_165.out; have hcz61_0 : w58.cell? ⟨gb165, 0, none⟩ = some (.slice A0_0 l0_0.length c0_0) := yc BK165.out 0; have hcz61_1 : w58.cell? ⟨gb165, 1, none⟩ = some (.slice A0_1 l0_1.length c0_1) := yc BK165.out 1; have hfz61_0 := yZ BK165.out 0; have hfz61_1 := yZ BK165.out 1) | ((with_reducible refine gate_callee (f := 14) rfl ?_); refine goesL_ (some 7) rfl rfl Try.func14 (by kernel_rfl) rfl #[.agg #[.slice A0_0 l0_0.length c0_0, .slice A0_1 l0_1.length c0_1]] rfl (by (try simp only [List.map_toArray, List.map_cons, List.map_nil]); first | done | rfl | (simp only [List.length_drop, List.length_take]; rfl)) ?_; (with_reducible refine (spec_GoodDevice.calls k _ _ l0_0 _ _ l0_1 false _ ?side1 ?side2 ?side3 ?side4 A3.out).mono ?_); (case side1 => exact cK HR0_0.out HB.out); (case side2 => exact HC0_0.out); (case side3 => exact cK HR0_1.out HB.out); (case side4 => exact HC0_1.out); rintro e w62 ⟨rfl, hb⟩; refine ⟨_, rfl, ?_⟩; replace BK165 := yK BK165.out hb; replace BK166 := yK BK166.out hb; replace BK167 := yK BK167.out hb; replace HB := aM (zT (zH HB.out) hb); (try clear hb); have hnb63 := NB167_166.out; have hnc63 := NB166_167.out; have hcz64_0 : w62.cell? ⟨gb167, 0, none⟩ = some (.slice none 0 0) := yc BK167.out 0; have hcz64_1 : w62.cell? ⟨gb167, 1, none⟩ = some (.slice none 0 0) := yc BK167.out 1; have hfz64_0 := yZ BK167.out 0; have hfz64_1 := yZ BK167.out 1))
  refine bodyPost_ret (results_ct rfl _ _ gb167 30 #[.slice none 0 0, .slice none 0 0] (0, 0) _ rfl (by (with_reducible repeat (first | refine yN ?_ _ | refine yD ?_ | refine yA ?_ _)); refine yP (cs := #[.slice none 0 0, .slice none 0 0]) ?_ 1 _ rfl; (with_reducible repeat (first | refine yN ?_ _ | refine yD ?_ | refine yA ?_ _)); refine yP (cs := #[.slice none 0 0, .slice none 0 0]) ?_ 0 _ rfl; (with_reducible repeat (first | refine yN ?_ _ | refine yD ?_ | refine yA ?_ _)); exact BK167.out) Try.underlying30 rfl (by kernel_rfl)) rfl ?_
  exact ⟨_, _, by first | rfl | (simp [errW_none, errW_some] <;> rfl) | (simp [*, errW_none, errW_some] <;> rfl), by first | exact Kd.R_nil _ _ _ _ _ | exact Kd.N_nil _ _ _ _ _ | exact Kd.V_nil _ _ _ _ _ | exact Kd.Q_nil _ _ _ _ _ | exact Kd.S_nil _ _ _ _ _, by first | exact Kd.R_nil _ _ _ _ _ | exact Kd.N_nil _ _ _ _ _ | exact Kd.V_nil _ _ _ _ _ | exact Kd.Q_nil _ _ _ _ _ | exact Kd.S_nil _ _ _ _ _, zH HB.out⟩

/-! ### impl_within: function 55 -/
def impl_within.f (a0 : Int) (a1 : Int) (a2 : Int) : Option (Bool) := if a0 ≥ a1 then (some (decide (a0 ≤ a2))) else (some false)
set_option maxHeartbeats 8000000 in
set_option maxRecDepth 100000 in
theorem impl_within.calls (a0 : Int) (a1 : Int) (a2 : Int) (r : Bool) (w : World) (h : impl_within.f a0 a1 a2 = some r) :
  Calls Try.prog 55 #[.int .i64 a0, .int .i64 a1, .int .i64 a2] w fun e w' => e = .returned (.bool r) ∧ Drawn0 w w' := by
 have H : (if a0 ≥ a1 then (some (decide (a0 ≤ a2))) else (some false)) = some r := h
 clear h
 by_cases c4 : a0 ≥ a1
 ·rw [if_pos c4] at H
  have c4b0 : decide (a1 ≤ a0) = true := decide_eq_true c4
  clear c4
  obtain rfl := Option.some.inj H
  go_enter Try.func55, Try.ntmps55
  go_wp2
  go_ret
  exact ⟨by first | rfl | (simp; done) | (simp [*]; done), by repeat (first | exact Drawn0.refl _ | apply Drawn0.step)⟩
 ·rw [if_neg c4] at H
  have c4b0 : decide (a1 ≤ a0) = false := decide_eq_false c4
  clear c4
  obtain rfl := Option.some.inj H
  go_enter Try.func55, Try.ntmps55
  go_wp2
  go_ret
  exact ⟨by first | rfl | (simp; done) | (simp [*]; done), by repeat (first | exact Drawn0.refl _ | apply Drawn0.step)⟩

/-! ### impl_GoodDevice: function 16 (by hand) -/

def impl_GoodDevice.firstS (p : ByteArray → Bool) : List ByteArray → Int → Int
 | [], _ => -1
 | x :: l, i => if p x = true then i else impl_GoodDevice.firstS p l (i + 1)
theorem impl_GoodDevice.first_anyS (p : ByteArray → Bool) : ∀ (l : List ByteArray) (i : Int), 0 ≤ i → (decide (impl_GoodDevice.firstS p l i ≥ 0)) = l.any p
 | [], i, _ => rfl
 | x :: l, i, h => by
  have ih := impl_GoodDevice.first_anyS p l (i + 1) (by omega)
  rw [List.any_cons, ← ih]
  have e : impl_GoodDevice.firstS p (x :: l) i = if p x = true then i else impl_GoodDevice.firstS p l (i + 1) := rfl
  generalize impl_GoodDevice.firstS p (x :: l) i = u at e ⊢
  generalize impl_GoodDevice.firstS p l (i + 1) = v at e ⊢
  subst e
  cases hp : p x with
  | true => rw [if_pos rfl, decide_eq_true h]; rfl
  | false => rw [if_neg (by decide)]; rfl
theorem impl_GoodDevice.first_atS (p : ByteArray → Bool) (l : List ByteArray) (i : Nat) (h : i < l.length) : impl_GoodDevice.firstS p (l.drop i) (i : Int) = if p (rdOf ByteArray.empty l (i : Int)) = true then (i : Int) else impl_GoodDevice.firstS p (l.drop (i + 1)) ((i + 1 : Nat) : Int) := by
 rw [List.drop_eq_getElem_cons h, impl_GoodDevice.firstS]
 have e : rdOf ByteArray.empty l (i : Int) = l[i] := by simp [rdOf, List.getD_eq_getElem?_getD, h]
 rw [e]; rfl
set_option maxHeartbeats 8000000 in
set_option maxRecDepth 100000 in
theorem impl_GoodDevice.indexS (p : ByteArray → Bool) (A0 : Option Addr) (c0 : Nat) (l0 : List ByteArray) (w : World) (hr0 : Kd.C Kd.string w A0 l0.length l0)
  (hclo : ∀ (s : ByteArray) (m : Nat), Calls Try.prog 57 #[.string s] (w.drewN m) fun e w' => e = .returned (.bool (p s)) ∧ Drawn0 (w.drewN m) w') :
  Calls Try.prog 85 #[.slice A0 l0.length c0, .func (.func 57) #[] #[]] w fun e w' => e = .returned (.int .i64 (impl_GoodDevice.firstS p l0 0)) ∧ Drawn0 w w' := by
 have HR0 := aM hr0
 have HCL := aM hclo
 have HL : l0.length ≤ 9223372036854775807 := hr0.2.1
 clear hr0 hclo
 go_enter Try.func85, Try.ntmps85
 go_wp2
 go_loopw [8] (fun v8 w' => ∃ i : Nat, i ≤ l0.length ∧ v8 = .int .i64 (i : Int) ∧ Aside0 (impl_GoodDevice.firstS p l0 0 = impl_GoodDevice.firstS p (l0.drop i) (i : Int)) ∧ Drawn0 w w') (fun v8 w' => l0.length - (intOf v8).toNat)
 case atStart => exact ⟨0, Nat.zero_le _, rfl, ⟨rfl⟩, Drawn0.refl _⟩
 case round =>
  obtain ⟨i, hi, rfl, HA, ⟨m1, rfl⟩⟩ := hrel
  by_cases hlt : i < l0.length
  ·have hf := impl_GoodDevice.first_atS p l0 i hlt
   have p1 : 0 ≤ (i : Int) := by omega
   have q1 : (i : Int) < (l0.length : Int) := by omega
   obtain ⟨ad1, e1, hx1⟩ := Kd.at_string HR0.out (i : Int) p1 q1
   cases e1
   (try rw [Int.toNat_natCast] at hx1)
   have hw1 : wrap64 ((i : Int) + 1) = ((i + 1 : Nat) : Int) := by unfold wrap64; omega
   generalize hs : rdOf ByteArray.empty l0 (i : Int) = s at hx1 hf
   have cl := HCL.out s
   by_cases hp : p s = true
   ·have HF := aM (show impl_GoodDevice.firstS p l0 0 = (i : Int) by rw [HA.out, hf, if_pos hp])
    have HCS := aM cl
    have HP := aM hp
    clear hf cl hs hp HA hw1
    go_wp2_with (go_at_call 57; refine (HCS.out _).mono ?_; rintro e w2 ⟨rfl, ⟨m2, rfl⟩⟩; rw [HP.out])
    go_ret
    exact ⟨by rw [HF.out]; rfl, by repeat (first | exact Drawn0.refl _ | apply Drawn0.step)⟩
   ·have hpf : p s = false := by simpa using hp
    have HF := aM (show impl_GoodDevice.firstS p l0 0 = impl_GoodDevice.firstS p (l0.drop (i + 1)) ((i + 1 : Nat) : Int) by rw [HA.out, hf, if_neg hp])
    have HCS := aM cl
    have HP := aM hpf
    have HW1 := aM hw1
    clear hf cl hs hp hpf HA hw1
    go_wp2_with (go_at_call 57; refine (HCS.out _).mono ?_; rintro e w2 ⟨rfl, ⟨m2, rfl⟩⟩; rw [HP.out])
    go_roundw
    case rel => exact ⟨i + 1, by omega, by go_num, HF, by repeat (first | exact Drawn0.refl _ | apply Drawn0.step)⟩
    case measure => simp [intOf]; omega
  ·have hlen : i = l0.length := by omega
   have HF := aM (show impl_GoodDevice.firstS p l0 0 = -1 by rw [HA.out, hlen, List.drop_length]; rfl)
   clear HA hlen
   go_wp2
   go_ret
   exact ⟨by rw [HF.out]; rfl, by repeat (first | exact Drawn0.refl _ | apply Drawn0.step)⟩
set_option maxHeartbeats 8000000 in
theorem impl_GoodDevice.containsS (p : ByteArray → Bool) (A0 : Option Addr) (c0 : Nat) (l0 : List ByteArray) (w : World) (hr0 : Kd.C Kd.string w A0 l0.length l0)
  (hclo : ∀ (s : ByteArray) (m : Nat), Calls Try.prog 57 #[.string s] (w.drewN m) fun e w' => e = .returned (.bool (p s)) ∧ Drawn0 (w.drewN m) w') :
  Calls Try.prog 56 #[.slice A0 l0.length c0, .func (.func 57) #[] #[]] w fun e w' => e = .returned (.bool (l0.any p)) ∧ Drawn0 w w' := by
 have HI := aM (impl_GoodDevice.indexS p A0 c0 l0 w hr0 hclo)
 have HE := aM (impl_GoodDevice.first_anyS p l0 0 (by omega))
 clear hr0 hclo
 go_enter Try.func56, Try.ntmps56
 go_wp2_with (go_at_call 85; refine HI.out.mono ?_; rintro e w2 ⟨rfl, ⟨m2, rfl⟩⟩)
 go_ret
 exact ⟨by rw [← HE.out]; rfl, by repeat (first | exact Drawn0.refl _ | apply Drawn0.step)⟩

def impl_GoodDevice.firstW (p : S42 → Bool) : List S42 → Int → Int
 | [], _ => -1
 | x :: l, i => if p x = true then i else impl_GoodDevice.firstW p l (i + 1)
theorem impl_GoodDevice.first_anyW (p : S42 → Bool) : ∀ (l : List S42) (i : Int), 0 ≤ i → (decide (impl_GoodDevice.firstW p l i ≥ 0)) = l.any p
 | [], i, _ => rfl
 | x :: l, i, h => by
  have ih := impl_GoodDevice.first_anyW p l (i + 1) (by omega)
  rw [List.any_cons, ← ih]
  have e : impl_GoodDevice.firstW p (x :: l) i = if p x = true then i else impl_GoodDevice.firstW p l (i + 1) := rfl
  generalize impl_GoodDevice.firstW p (x :: l) i = u at e ⊢
  generalize impl_GoodDevice.firstW p l (i + 1) = v at e ⊢
  subst e
  cases hp : p x with
  | true => rw [if_pos rfl, decide_eq_true h]; rfl
  | false => rw [if_neg (by decide)]; rfl
theorem impl_GoodDevice.first_atW (p : S42 → Bool) (l : List S42) (i : Nat) (h : i < l.length) : impl_GoodDevice.firstW p (l.drop i) (i : Int) = if p (rd_T42 l (i : Int)) = true then (i : Int) else impl_GoodDevice.firstW p (l.drop (i + 1)) ((i + 1 : Nat) : Int) := by
 rw [List.drop_eq_getElem_cons h, impl_GoodDevice.firstW]
 have e : rd_T42 l (i : Int) = l[i] := by simp [rd_T42, List.getD_eq_getElem?_getD, h]
 rw [e]; rfl
set_option maxHeartbeats 8000000 in
set_option maxRecDepth 100000 in
theorem impl_GoodDevice.indexW (p : S42 → Bool) (A0 : Option Addr) (c0 : Nat) (l0 : List S42) (g : Nat) (w : World) (hr0 : Kd.C k42 w A0 l0.length l0)
  (hclo : ∀ (s : S42) (w1 : World), Below w.heap.size w w1 → Calls Try.prog 59 #[.agg #[.int .i64 s.f0, .string s.f1], .pointer (some ⟨g, 0, none⟩)] w1 fun e w' => e = .returned (.bool (p s)) ∧ Below w1.heap.size w1 w') :
  Calls Try.prog 86 #[.slice A0 l0.length c0, .func (.func 59) #[] #[.pointer (some ⟨g, 0, none⟩)]] w fun e w' => e = .returned (.int .i64 (impl_GoodDevice.firstW p l0 0)) ∧ Below w.heap.size w w' := by
 have HR0 := aM hr0
 have HCL := aM hclo
 have HL : l0.length ≤ 9223372036854775807 := hr0.2.1
 clear hr0 hclo
 go_enter Try.func86, Try.ntmps86
 go_wp2
 go_loopw [8] (fun v8 w' => ∃ i : Nat, i ≤ l0.length ∧ v8 = .int .i64 (i : Int) ∧ Aside0 (impl_GoodDevice.firstW p l0 0 = impl_GoodDevice.firstW p (l0.drop i) (i : Int)) ∧ Aside0 (Below w.heap.size w w')) (fun v8 w' => l0.length - (intOf v8).toNat)
 case atStart => exact ⟨0, Nat.zero_le _, rfl, ⟨rfl⟩, ⟨by repeat (first | exact Below.refl _ _ | apply zD | apply zN)⟩⟩
 case round =>
  obtain ⟨i, hi, rfl, HA, HB⟩ := hrel
  by_cases hlt : i < l0.length
  ·have hf := impl_GoodDevice.first_atW p l0 i hlt
   have p1 : 0 ≤ (i : Int) := by omega
   have q1 : (i : Int) < (l0.length : Int) := by omega
   obtain ⟨ad1, e1, hx1_0, hx1_1⟩ := at_T42 (cB HR0.out HB.out) (i : Int) p1 q1
   cases e1
   (try rw [Int.toNat_natCast] at hx1_0 hx1_1)
   have hw1 : wrap64 ((i : Int) + 1) = ((i + 1 : Nat) : Int) := by unfold wrap64; omega
   generalize hs : rd_T42 l0 (i : Int) = s at hx1_0 hx1_1 hf
   have cl := HCL.out s
   by_cases hp : p s = true
   ·have HF := aM (show impl_GoodDevice.firstW p l0 0 = (i : Int) by rw [HA.out, hf, if_pos hp])
    have HCS := aM cl
    have HP := aM hp
    clear hf cl hs hp HA hw1
    go_wp2_with (go_at_call 59; go_loud (refine (HCS.out _ (by repeat (first | exact HB.out | apply zD | apply zN))).mono ?_); rintro e w2 ⟨rfl, hb2⟩; have HB2 := aM (zT (by repeat (first | exact HB.out | apply zD | apply zN)) hb2); clear hb2; rw [HP.out])
    go_ret
    exact ⟨by rw [HF.out]; rfl, by repeat (first | exact HB2.out | exact HB.out | apply zD | apply zN)⟩
   ·have hpf : p s = false := by simpa using hp
    have HF := aM (show impl_GoodDevice.firstW p l0 0 = impl_GoodDevice.firstW p (l0.drop (i + 1)) ((i + 1 : Nat) : Int) by rw [HA.out, hf, if_neg hp])
    have HCS := aM cl
    have HP := aM hpf
    have HW1 := aM hw1
    clear hf cl hs hp hpf HA hw1
    go_wp2_with (go_at_call 59; go_loud (refine (HCS.out _ (by repeat (first | exact HB.out | apply zD | apply zN))).mono ?_); rintro e w2 ⟨rfl, hb2⟩; have HB2 := aM (zT (by repeat (first | exact HB.out | apply zD | apply zN)) hb2); clear hb2; rw [HP.out])
    go_roundw
    case rel => exact ⟨i + 1, by omega, by go_num, HF, ⟨by repeat (first | exact HB2.out | apply zD | apply zN)⟩⟩
    case measure => simp [intOf]; omega
  ·have hlen : i = l0.length := by omega
   have HF := aM (show impl_GoodDevice.firstW p l0 0 = -1 by rw [HA.out, hlen, List.drop_length]; rfl)
   clear HA hlen
   go_wp2
   go_ret
   exact ⟨by rw [HF.out]; rfl, by repeat (first | exact HB.out | apply zD | apply zN)⟩
set_option maxHeartbeats 8000000 in
theorem impl_GoodDevice.containsW (p : S42 → Bool) (A0 : Option Addr) (c0 : Nat) (l0 : List S42) (g : Nat) (w : World) (hr0 : Kd.C k42 w A0 l0.length l0)
  (hclo : ∀ (s : S42) (w1 : World), Below w.heap.size w w1 → Calls Try.prog 59 #[.agg #[.int .i64 s.f0, .string s.f1], .pointer (some ⟨g, 0, none⟩)] w1 fun e w' => e = .returned (.bool (p s)) ∧ Below w1.heap.size w1 w') :
  Calls Try.prog 58 #[.slice A0 l0.length c0, .func (.func 59) #[] #[.pointer (some ⟨g, 0, none⟩)]] w fun e w' => e = .returned (.bool (l0.any p)) ∧ Below w.heap.size w w' := by
 have HI := aM (impl_GoodDevice.indexW p A0 c0 l0 g w hr0 hclo)
 have HE := aM (impl_GoodDevice.first_anyW p l0 0 (by omega))
 clear hr0 hclo
 go_enter Try.func58, Try.ntmps58
 go_wp2_with (go_at_call 86; refine HI.out.mono ?_; rintro e w2 ⟨rfl, hb2⟩; have HB2 := aM hb2; clear hb2)
 go_ret
 exact ⟨by rw [← HE.out]; rfl, by repeat (first | exact HB2.out | apply zD | apply zN)⟩

set_option maxHeartbeats 8000000 in
theorem impl_GoodDevice.cloS (s : ByteArray) (w : World) : Calls Try.prog 57 #[.string s] w fun e w' => e = .returned (.bool ((s.size : Int) != 8)) ∧ Drawn0 w w' := by
 go_enter Try.func57, Try.ntmps57
 go_wp2
 go_ret
 exact ⟨by first | rfl | (simp; done) | (simp [*]; done), by repeat (first | exact Drawn0.refl _ | apply Drawn0.step)⟩
set_option maxHeartbeats 400000 in
theorem impl_GoodDevice.cloW0 (s : S42) (A0 : Option Addr) (c0 : Nat) (l0 : List ByteArray) (v1 : Value) (g : Nat) (w : World) (b : Bool) (hg : w.heap[g]? = some (.cells #[.slice A0 l0.length c0, v1] 30 (0, 0))) (hb : impl_within.f s.f0 0 (wrap64 ((l0.length : Int) - 1)) = some b) :
  Calls Try.prog 59 #[.agg #[.int .i64 s.f0, .string s.f1], .pointer (some ⟨g, 0, none⟩)] w fun e w' => e = .returned (.bool (!b || (s.f1.size : Int) != 8)) ∧ Below w.heap.size w w' := by
 have hlt := blk_lt hg
 have HG := aM hg
 have HW := aM hb
 clear hg hb
 cases b
 all_goals
  go_enter Try.func59, Try.ntmps59
  go_wp2_with (first | ((with_reducible refine gate_dst (N := 2) rfl ?_); refine box_event ?hg (N := 2) ?hd (cs := #[.int .i64 s.f0, .string s.f1]) (t := 42) ?hr ?_; (case hd => rfl); (case hg => rfl); (case hr => first | (go_simp; done) | (go_simp; rfl)); intro g2 hg2 w2 hb2 hbel; have HBL := aM hbel; have hcz0 : w2.cell? ⟨g2, 0, none⟩ = some (.int .i64 s.f0) := (yC hb2 0).trans rfl; have hcz1 : w2.cell? ⟨g2, 1, none⟩ = some (.string s.f1) := (yC hb2 1).trans rfl; have hcg : w2.cell? ⟨g, 0, none⟩ = some (.slice A0 l0.length c0) := (yC (yB HG.out hbel) 0).trans rfl; clear hb2 hbel hg2) | (go_at_call 55; refine (impl_within.calls _ _ _ _ _ HW.out).mono ?_; rintro e w3 ⟨rfl, ⟨m3, rfl⟩⟩))
  go_ret
  exact ⟨by first | rfl | (simp; done) | (simp [*]; done), by repeat (first | exact HBL.out | apply zA | apply zN | apply zD)⟩
/-- a write that does not fit n sectors -/
def badWrite (n : Nat) (s : S42) : Bool := !(decide (s.f0 ≥ 0 ∧ s.f0 ≤ (n : Int) - 1)) || (s.f1.size : Int) != 8
theorem impl_GoodDevice.within_w (x : Int) (n : Nat) (hl : n ≤ 9223372036854775807) : impl_within.f x 0 (wrap64 ((n : Int) - 1)) = some (decide (x ≥ 0 ∧ x ≤ (n : Int) - 1)) := by
 have w1 : wrap64 ((n : Int) - 1) = (n : Int) - 1 := by unfold wrap64; omega
 rw [w1]
 unfold impl_within.f
 by_cases h : x ≥ 0
 ·rw [if_pos h]; congr 1; rw [decide_eq_decide]; omega
 ·rw [if_neg h]; congr 1; exact (decide_eq_false (by omega)).symm
theorem impl_GoodDevice.cloW (s : S42) (A0 : Option Addr) (c0 : Nat) (l0 : List ByteArray) (v1 : Value) (g : Nat) (w : World) (hg : w.heap[g]? = some (.cells #[.slice A0 l0.length c0, v1] 30 (0, 0))) (hl : l0.length ≤ 9223372036854775807) :
  Calls Try.prog 59 #[.agg #[.int .i64 s.f0, .string s.f1], .pointer (some ⟨g, 0, none⟩)] w fun e w' => e = .returned (.bool (badWrite l0.length s)) ∧ Below w.heap.size w w' :=
 impl_GoodDevice.cloW0 s A0 c0 l0 v1 g w _ hg (impl_GoodDevice.within_w s.f0 l0.length hl)
theorem impl_GoodDevice.cont1 (A0 : Option Addr) (c0 : Nat) (l0 : List ByteArray) (w : World) (hr0 : Kd.C Kd.string w A0 l0.length l0) (b : Bool) (hb : (l0.any fun s => (s.size : Int) != 8) = b) :
  Calls Try.prog 56 #[.slice A0 l0.length c0, .func (.func 57) #[] #[]] w fun e w' => e = .returned (.bool b) ∧ Drawn0 w w' := by
 subst hb
 exact impl_GoodDevice.containsS _ A0 c0 l0 w hr0 (fun s m => impl_GoodDevice.cloS s _)
theorem impl_GoodDevice.cont2 (A0 A1 : Option Addr) (c0 c1 : Nat) (l0 : List ByteArray) (l1 : List S42) (v1 : Value) (g : Nat) (w : World) (hg : w.heap[g]? = some (.cells #[.slice A0 l0.length c0, v1] 30 (0, 0))) (hl : l0.length ≤ 9223372036854775807) (hr1 : Kd.C k42 w A1 l1.length l1) (b : Bool) (hb : l1.any (badWrite l0.length) = b) :
  Calls Try.prog 58 #[.slice A1 l1.length c1, .func (.func 59) #[] #[.pointer (some ⟨g, 0, none⟩)]] w fun e w' => e = .returned (.bool b) ∧ Below w.heap.size w w' := by
 subst hb
 exact impl_GoodDevice.containsW _ A1 c1 l1 g w hr1 (fun s w1 hw1 => impl_GoodDevice.cloW s A0 c0 l0 v1 g w1 (yB hg hw1) hl)
/-- what a device's form asks -/
def goodD (xs : List ByteArray) (ws : List S42) : Bool :=
 decide (1 ≤ xs.length ∧ xs.length ≤ 32) && (decide (ws.length ≤ 60) && (!(xs.any fun s => (s.size : Int) != 8) && !(ws.any (badWrite xs.length))))
def impl_GoodDevice.f (l0_0 : List ByteArray) (l0_1 : List (S42)) : Option (Bool) :=
 some (goodD l0_0 l0_1)
set_option maxHeartbeats 800000 in
set_option maxRecDepth 100000 in
theorem impl_GoodDevice.calls (A0_0 : Option Addr) (c0_0 : Nat) (l0_0 : List ByteArray) (A0_1 : Option Addr) (c0_1 : Nat) (l0_1 : List (S42)) (r : Bool) (w : World) (hr0_0 : Kd.C Kd.string w A0_0 l0_0.length l0_0) (hc0_0 : l0_0.length ≤ c0_0) (hr0_1 : Kd.C k42 w A0_1 l0_1.length l0_1) (hc0_1 : l0_1.length ≤ c0_1) (h : impl_GoodDevice.f l0_0 l0_1 = some r) :
  Calls Try.prog 16 #[.agg #[.slice A0_0 l0_0.length c0_0, .slice A0_1 l0_1.length c0_1]] w fun e w' => e = .returned (.bool r) ∧ Below w.heap.size w w' := by
 obtain rfl := Option.some.inj h
 clear h
 have hl0 := hr0_0.2.1
 have hl1 := hr0_1.2.1
 have HR0 := aM hr0_0
 have HR1 := aM hr0_1
 have HL0 := aM hl0
 obtain ⟨b1, e1⟩ : ∃ b, (l0_0.any fun s => (s.size : Int) != 8) = b := ⟨_, rfl⟩
 obtain ⟨b2, e2⟩ : ∃ b, l0_1.any (badWrite l0_0.length) = b := ⟨_, rfl⟩
 have HE1 := aM e1
 have HE2 := aM e2
 obtain ⟨b0, e0⟩ : ∃ b, decide (1 ≤ l0_0.length ∧ l0_0.length ≤ 32) = b := ⟨_, rfl⟩
 have HW := aM (show impl_within.f (l0_0.length : Int) 1 32 = some b0 by
  subst e0
  unfold impl_within.f
  by_cases h2 : (l0_0.length : Int) ≥ 1
  ·rw [if_pos h2]; congr 1; rw [decide_eq_decide]; omega
  ·rw [if_neg h2]; congr 1; exact (decide_eq_false (by omega)).symm)
 have HG : Aside0 (goodD l0_0 l0_1 = (b0 && (decide (l0_1.length ≤ 60) && (!b1 && !b2)))) := ⟨by unfold goodD; rw [e0, e1, e2]⟩
 rw [HG.out]
 clear e1 e2 e0 hr0_0 hr0_1 hc0_0 hc0_1 HG hl0
 by_cases h60 : l0_1.length ≤ 60
 all_goals
  first
  | (have d60 : decide ((l0_1.length : Int) > 60) = false := decide_eq_false (by omega))
  | (have d60 : decide ((l0_1.length : Int) > 60) = true := decide_eq_true (by omega))
  first | rw [decide_eq_true h60] | rw [decide_eq_false h60]
  clear h60
  cases b0
  all_goals
   cases b1
   all_goals
    go_enter Try.func16, Try.ntmps16
    go_wp2_with (first | ((with_reducible refine gate_dst (N := 1) rfl ?_); refine box_event ?hg (N := 1) ?hd (cs := #[.slice A0_0 l0_0.length c0_0, .slice A0_1 l0_1.length c0_1]) (t := 30) ?hr ?_; (case hd => rfl); (case hg => rfl); (case hr => first | (go_simp; done) | (go_simp; rfl)); intro g2 hg2 w2 hb2 hbel; have HBL := aM hbel; have HB2 := aM hb2; have hcz0 : w2.cell? ⟨g2, 0, none⟩ = some (.slice A0_0 l0_0.length c0_0) := (yC hb2 0).trans rfl; have hcz1 : w2.cell? ⟨g2, 1, none⟩ = some (.slice A0_1 l0_1.length c0_1) := (yC hb2 1).trans rfl; clear hb2 hbel hg2) | (go_at_call 55; refine (impl_within.calls _ _ _ _ _ HW.out).mono ?_; rintro e w3 ⟨rfl, ⟨m3, rfl⟩⟩) | (go_at_call 56; go_loud (refine (impl_GoodDevice.cont1 _ c0_0 l0_0 _ (cB HR0.out (by repeat (first | exact HBL.out | apply zA | apply zN | apply zD))) _ HE1.out).mono ?_); rintro e w4 ⟨rfl, ⟨m4, rfl⟩⟩) | (go_at_call 58; go_loud (refine (impl_GoodDevice.cont2 A0_0 _ c0_0 c0_1 l0_0 l0_1 _ g2 _ (by repeat (first | exact HB2.out | apply yN)) HL0.out (cB HR1.out (by repeat (first | exact HBL.out | apply zA | apply zN | apply zD))) _ HE2.out).mono ?_); rintro e w5 ⟨rfl, hbf⟩; have HBL := aM (zT (by repeat (first | exact HBL.out | apply zD | apply zN)) hbf); clear hbf))
    go_ret
    exact ⟨by first | rfl | (simp; done) | (simp [*]; done), by repeat (first | exact HBL.out | apply zA | apply zN | apply zD)⟩


/-! ### slices_Clone_string_string: function 66 (by hand) -/
/-- slices.Clone -/
def slices_Clone_string_string.f (l0 : List ByteArray) : Option (List ByteArray) :=
 if l0.length < 8796093022208 then some l0 else none
set_option maxHeartbeats 8000000 in
set_option maxRecDepth 100000 in
theorem slices_Clone_string_string.calls (A0 : Option Addr) (c0 : Nat) (l0 : List ByteArray) (r : List ByteArray) (w : World) (hr0 : Kd.C Kd.string w A0 l0.length l0) (hc0 : l0.length ≤ c0) (h : slices_Clone_string_string.f l0 = some r) :
  Calls Try.prog 66 #[.slice A0 l0.length c0] w fun e w' => ∃ v0_ : Value, e = .returned (v0_) ∧ Kd.R Kd.string 9 w' w.heap.size (fun _ => True) v0_ r ∧ Below w.heap.size w w' := by
 unfold slices_Clone_string_string.f at h
 by_cases hl : l0.length < 8796093022208
 case neg => rw [if_neg hl] at h; cases h
 rw [if_pos hl] at h
 obtain rfl := Option.some.inj h
 clear h
 have LM := aM hl
 clear hl
 have HR0 := aM hr0
 have HC0 := aM hc0
 clear hr0 hc0
 have HB := aM (Below.refl w.heap.size w)
 cases A0 with
 | none =>
  obtain rfl : l0 = [] := by
   rcases Nat.eq_zero_or_pos l0.length with h0 | h0
   ·exact List.eq_nil_of_length_eq_zero h0
   ·obtain ⟨a, ha, _⟩ := HR0.out.2.2 h0; cases ha
  have he : ∀ w : World, (binOp .eql 22 (.slice none 0 c0) (.slice none 0 0)).run Try.prog w = .ok (.bool true) w := fun _ => rfl
  go_enter Try.func66, Try.ntmps66
  go_wp2
  go_ret
  exact ⟨_, rfl, Kd.R_nil _ _ _ _ _, by repeat (first | exact HB.out | apply zA | apply zN | apply zD)⟩
 | some a_ =>
  have he : ∀ w : World, (binOp .eql 22 (.slice (some a_) l0.length c0) (.slice none 0 0)).run Try.prog w = .ok (.bool false) w := fun _ => rfl
  go_enter Try.func66, Try.ntmps66
  go_wp2_with (first | ((with_reducible refine gate_dst (N := 5) rfl ?_); refine Kd.R_lit Kd.string _ 9 ?hg (N := 5) ?hd (xs := ([] : List ByteArray)) (inner := []) (ok := fun _ => True) (okp := fun _ => True) ?hr ?hp (fun _ hk => hk) trivial (Below.refl _ _) (Nat.le_refl _) (by simp) ?_; (case hd => rfl); (case hg => rfl); (case hr => first | (go_simp; done) | (go_simp; rfl)); (case hp => exact (Reps.none _ _)); intro v158 w5 ho6 hb hg_ hnew_; clear hg_ hnew_; have HO159 := aM (xL ho6 (zZ (by repeat (first | exact HB.out | apply zA | apply zN | apply zD)))); replace HB := aM (zT (by repeat (first | exact HB.out | apply zA | apply zN | apply zD)) hb); clear hb ho6) | ((with_reducible refine gate_builtin (b := .append) (xs := #[.tmp 5, .tmp 6]) rfl ?_); at_builtin; refine Kd.R_append_rows Kd.string (w0 := w) w.heap.size rfl (.tmp 5) (.tmp 6) 22 9 ((.string ⟨#[]⟩)) 16 rfl Try.underlying22 (by kernel_rfl) rfl (by decide) (by omega) v158 [] l0 _ _ _ (fun _ => True) (fun _ => False) rfl rfl ?aO ?aR (fun _ _ h => h) (fun _ h => h.elim) ?aF ?aB ?aS ?aL ?_; (case aR => exact cK HR0.out HB.out); (case aB => exact (by repeat (first | exact HB.out | apply zA | apply zN | apply zD))); (case aF => exact (fun _ _ => trivial)); (case aO => exact (xH HO159.out)); (case aS => exact (zZ (by repeat (first | exact HB.out | apply zA | apply zN | apply zD)))); (case aL => have := LM.out; simp only [List.length_nil]; omega); intro v161 w9 ho hb hg hat; replace HB := aM (hb); have HO162 := aM (ho); clear HO159; clear ho hb hg hat; obtain ⟨Ao10, co10, eo10⟩ := Kd.R_slice HO162.out; subst eo10))
  go_ret
  exact ⟨_, rfl, xH HO162.out, by repeat (first | exact HB.out | apply zA | apply zN | apply zD)⟩


/-! ### impl_Write: function 67 (by hand) -/
/-- slices.Clone -/
def impl_Write.f (l0 : List (S42)) : Option ((List (S42))) :=
 if l0.length < 5864062014805 then some l0 else none
set_option maxHeartbeats 8000000 in
set_option maxRecDepth 100000 in
theorem impl_Write.calls (A0 : Option Addr) (c0 : Nat) (l0 : List (S42)) (r : List (S42)) (w : World) (hr0 : Kd.C k42 w A0 l0.length l0) (hc0 : l0.length ≤ c0) (h : impl_Write.f l0 = some r) :
  Calls Try.prog 67 #[.slice A0 l0.length c0] w fun e w' => ∃ v0_ : Value, e = .returned (v0_) ∧ Kd.R k42 42 w' w.heap.size (fun _ => True) v0_ r ∧ Below w.heap.size w w' := by
 unfold impl_Write.f at h
 by_cases hl : l0.length < 5864062014805
 case neg => rw [if_neg hl] at h; cases h
 rw [if_pos hl] at h
 obtain rfl := Option.some.inj h
 clear h
 have LM := aM hl
 clear hl
 have HR0 := aM hr0
 have HC0 := aM hc0
 clear hr0 hc0
 have HB := aM (Below.refl w.heap.size w)
 cases A0 with
 | none =>
  obtain rfl : l0 = [] := by
   rcases Nat.eq_zero_or_pos l0.length with h0 | h0
   ·exact List.eq_nil_of_length_eq_zero h0
   ·obtain ⟨a, ha, _⟩ := HR0.out.2.2 h0; cases ha
  have he : ∀ w : World, (binOp .eql 28 (.slice none 0 c0) (.slice none 0 0)).run Try.prog w = .ok (.bool true) w := fun _ => rfl
  go_enter Try.func67, Try.ntmps67
  go_wp2
  go_ret
  exact ⟨_, rfl, Kd.R_nil _ _ _ _ _, by repeat (first | exact HB.out | apply zA | apply zN | apply zD)⟩
 | some a_ =>
  have he : ∀ w : World, (binOp .eql 28 (.slice (some a_) l0.length c0) (.slice none 0 0)).run Try.prog w = .ok (.bool false) w := fun _ => rfl
  go_enter Try.func67, Try.ntmps67
  go_wp2_with (first | ((with_reducible refine gate_dst (N := 5) rfl ?_); refine Kd.R_lit k42 _ 42 ?hg (N := 5) ?hd (xs := ([] : List S42)) (inner := []) (ok := fun _ => True) (okp := fun _ => True) ?hr ?hp (fun _ hk => hk) trivial (Below.refl _ _) (Nat.le_refl _) (by simp) ?_; (case hd => rfl); (case hg => rfl); (case hr => first | (go_simp; done) | (go_simp; rfl)); (case hp => exact (Reps.none _ _)); intro v158 w5 ho6 hb hg_ hnew_; clear hg_ hnew_; have HO159 := aM (xL ho6 (zZ (by repeat (first | exact HB.out | apply zA | apply zN | apply zD)))); replace HB := aM (zT (by repeat (first | exact HB.out | apply zA | apply zN | apply zD)) hb); clear hb ho6) | ((with_reducible refine gate_builtin (b := .append) (xs := #[.tmp 5, .tmp 6]) rfl ?_); at_builtin; refine Kd.R_append_rows k42 (w0 := w) w.heap.size rfl (.tmp 5) (.tmp 6) 28 42 ((.agg #[(.int .i64 0), (.string ⟨#[]⟩)])) 24 rfl Try.underlying28 (by kernel_rfl) rfl (by decide) (by omega) v158 [] l0 _ _ _ (fun _ => True) (fun _ => False) rfl rfl ?aO ?aR (fun _ _ h => h) (fun _ h => h.elim) ?aF ?aB ?aS ?aL ?_; (case aR => exact cK HR0.out HB.out); (case aB => exact (by repeat (first | exact HB.out | apply zA | apply zN | apply zD))); (case aF => exact (fun _ _ => trivial)); (case aO => exact (xH HO159.out)); (case aS => exact (zZ (by repeat (first | exact HB.out | apply zA | apply zN | apply zD)))); (case aL => have := LM.out; simp only [List.length_nil]; omega); intro v161 w9 ho hb hg hat; replace HB := aM (hb); have HO162 := aM (ho); clear HO159; clear ho hb hg hat; obtain ⟨Ao10, co10, eo10⟩ := Kd.R_slice HO162.out; subst eo10))
  go_ret
  exact ⟨_, rfl, xH HO162.out, by repeat (first | exact HB.out | apply zA | apply zN | apply zD)⟩


end Go.Proofs.Ytlhgkbleciokmaa.PFnExactWriteSector
