/- The walks of FnDevice: Go's calls come to what the Lean functions beside them say; no condition. -/
import Derived.Test.YtlhgkbleciokmaaQFnDevTx0
import Derived.Test.YtlhgkbleciokmaaQFnDevTx1
import Derived.Test.YtlhgkbleciokmaaQFnDevTx2
namespace Go.Proofs.Ytlhgkbleciokmaa.PFnDevice
open Go.RowKit Go.Proofs.YtlhgkbleciokmaaW.PrintWords Go.Proofs.YtlhgkbleciokmaaW.PrintLast Go.Proofs.YtlhgkbleciokmaaW.PrintMore
attribute [local go_sem] max2_int min2_int max_two min_two max_three min_three max_four min_four   -- for this text's walks alone
set_option linter.unusedVariables false
set_option linter.unusedSimpArgs false
set_option maxRecDepth 100000

/-! ### impl_FlushDevice: function 29 (by hand) -/
theorem impl_FlushDevice.all_ (i : Nat) (W : World) : Calls Try.prog 64 (#[.int .i64 (i : Int)] ++ #[]) W fun e w' => e = .returned (.bool true) ∧ Below W.heap.size W w' := by
 show Calls Try.prog 64 #[.int .i64 (i : Int)] W _
 go_enter Try.func64, Try.ntmps64
 go_wp2
 go_ret
 exact ⟨rfl, Below.refl _ _⟩
def impl_FlushDevice.f (l0_0 : List ByteArray) (l0_1 : List (S42)) : Option (List ByteArray × (List (S42)) × Bool) :=
 if goodD l0_0 l0_1 = true then ((slices_Clone_string_string.f l0_0).bind fun t0 => (perfL (fun _ => true) l0_1 0 t0).bind fun t1 => some (t1, ([] : List S42), true)) else some (([] : List ByteArray), ([] : List S42), false)
set_option maxHeartbeats 2000000 in
set_option maxRecDepth 100000 in
theorem impl_FlushDevice.calls (A0_0 : Option Addr) (c0_0 : Nat) (l0_0 : List ByteArray) (A0_1 : Option Addr) (c0_1 : Nat) (l0_1 : List (S42)) (r1 : List ByteArray) (r2 : List (S42)) (r3 : Bool) (w : World) (hr0_0 : Kd.C Kd.string w A0_0 l0_0.length l0_0) (hc0_0 : l0_0.length ≤ c0_0) (hr0_1 : Kd.C k42 w A0_1 l0_1.length l0_1) (hc0_1 : l0_1.length ≤ c0_1) (h : impl_FlushDevice.f l0_0 l0_1 = some (r1, r2, r3)) :
  Calls Try.prog 29 #[.agg #[.slice A0_0 l0_0.length c0_0, .slice A0_1 l0_1.length c0_1]] w fun e w' => ∃ v0_ v1_ : Value, e = .returned (.tuple #[.agg #[v0_, v1_], .bool r3]) ∧ Kd.R Kd.string 9 w' w.heap.size (fun _ => True) v0_ r1 ∧ Kd.R k42 42 w' w.heap.size (fun _ => True) v1_ r2 ∧ Below w.heap.size w w' := by
 unfold impl_FlushDevice.f at h
 have HR0_0 := aM hr0_0; have HC0_0 := aM hc0_0; have HR0_1 := aM hr0_1; have HC0_1 := aM hc0_1; clear hr0_0 hc0_0 hr0_1 hc0_1; have HB := aM (Below.refl w.heap.size w)
 by_cases hg : goodD l0_0 l0_1 = true
 ·rw [if_pos hg] at h
  obtain ⟨t0, hL, h⟩ := Option.bind_eq_some_iff.mp h; obtain rfl : l0_0 = t0 := (clone_eq hL).symm; obtain ⟨t1, hP, h⟩ := Option.bind_eq_some_iff.mp h
  simp only [Option.some.injEq, Prod.mk.injEq] at h
  obtain ⟨rfl, rfl, rfl⟩ := h; have HL := aM hL; have HP := aM hP
  have HG : Aside0 (impl_GoodDevice.f l0_0 l0_1 = some true) := ⟨by rw [← hg]; rfl⟩
  clear hL hP hg
  go_enter Try.func29, Try.ntmps29
  go_wp2_with (first | ((with_reducible refine gate_dst (N := 1) rfl ?_); refine box_event ?hg (N := 1) ?hd (cs := #[.slice A0_0 l0_0.length c0_0, .slice A0_1 l0_1.length c0_1]) (t := 30) ?hr ?_; (case hd => rfl); (case hg => rfl); (case hr => first | (go_simp; done) | (go_simp; rfl)); intro gb1 hg w_2 hbox hb; have n_HB := aM (zT (zH HB.out) hb); have n_GE := aM ((by rw [hg]; exact (zZ (zH HB.out))) : w.heap.size ≤ gb1); clear HB; have HB := n_HB; clear n_HB; have BKgb1 := aM hbox; have GEgb1 := n_GE; clear n_GE; have hcq3_0 : w_2.cell? ⟨gb1, 0, none⟩ = some (.slice A0_0 l0_0.length c0_0) := yc BKgb1.out 0; have hfq3_0 := yZ BKgb1.out 0; have hcq3_1 : w_2.cell? ⟨gb1, 1, none⟩ = some (.slice A0_1 l0_1.length c0_1) := yc BKgb1.out 1; have hfq3_1 := yZ BKgb1.out 1; clear hbox hb hg) | ((with_reducible refine gate_dst (N := 2) rfl ?_); refine box_event ?hg (N := 2) ?hd (cs := #[.slice none 0 0, .slice none 0 0]) (t := 30) ?hr ?_; (case hd => rfl); (case hg => rfl); (case hr => first | (go_simp; done) | (go_simp; rfl)); intro gb4 hg w_5 hbox hb; have n_BKgb1 := aM (yB (g := gb1) (o := (.cells #[.slice A0_0 l0_0.length c0_0, .slice A0_1 l0_1.length c0_1] 30 (0, 0))) (yH BKgb1.out) hb); have n_HB := aM (zT (zH HB.out) hb); have n_GE := aM ((by rw [hg]; exact (zZ (zH HB.out))) : w.heap.size ≤ gb4); have n_NAgb1 := aM ((by rw [hg]; exact Nat.ne_of_lt (blk_lt (g := gb1) (o := (.cells #[.slice A0_0 l0_0.length c0_0, .slice A0_1 l0_1.length c0_1] 30 (0, 0))) (yH BKgb1.out))) : gb1 ≠ gb4); clear BKgb1 HB; have BKgb1 := n_BKgb1; have HB := n_HB; clear n_BKgb1 n_HB; have BKgb4 := aM hbox; have GEgb4 := n_GE; clear n_GE; have hnegb1_gb4 := n_NAgb1.out; have hnfgb1_gb4 : gb4 ≠ gb1 := fun h => n_NAgb1.out h.symm; clear n_NAgb1; have hcq6_0 : w_5.cell? ⟨gb1, 0, none⟩ = some (.slice A0_0 l0_0.length c0_0) := yc BKgb1.out 0; have hfq6_0 := yZ BKgb1.out 0; have hcq6_1 : w_5.cell? ⟨gb1, 1, none⟩ = some (.slice A0_1 l0_1.length c0_1) := yc BKgb1.out 1; have hfq6_1 := yZ BKgb1.out 1; have hcq7_0 : w_5.cell? ⟨gb4, 0, none⟩ = some (.slice none 0 0) := yc BKgb4.out 0; have hfq7_0 := yZ BKgb4.out 0; have hcq7_1 : w_5.cell? ⟨gb4, 1, none⟩ = some (.slice none 0 0) := yc BKgb4.out 1; have hfq7_1 := yZ BKgb4.out 1; clear hbox hb hg) | (go_at_call 16; go_loud (refine (impl_GoodDevice.calls _ c0_0 l0_0 _ c0_1 l0_1 _ _ ?s1 HC0_0.out ?s2 HC0_1.out HG.out).mono ?_); (case s1 => exact (cB HR0_0.out (zH HB.out))); (case s2 => exact (cB HR0_1.out (zH HB.out))); rintro e w_8 ⟨rfl, hb⟩; have n_BKgb1 := aM (yB (g := gb1) (o := (.cells #[.slice A0_0 l0_0.length c0_0, .slice A0_1 l0_1.length c0_1] 30 (0, 0))) (yH BKgb1.out) hb); have n_BKgb4 := aM (yB (g := gb4) (o := (.cells #[.slice none 0 0, .slice none 0 0] 30 (0, 0))) (yH BKgb4.out) hb); have n_HB := aM (zT (zH HB.out) hb); clear BKgb1 BKgb4 HB; have BKgb1 := n_BKgb1; have BKgb4 := n_BKgb4; have HB := n_HB; clear n_BKgb1 n_BKgb4 n_HB; clear hb; have hcq9_0 : w_8.cell? ⟨gb1, 0, none⟩ = some (.slice A0_0 l0_0.length c0_0) := yc BKgb1.out 0; have hfq9_0 := yZ BKgb1.out 0; have hcq9_1 : w_8.cell? ⟨gb1, 1, none⟩ = some (.slice A0_1 l0_1.length c0_1) := yc BKgb1.out 1; have hfq9_1 := yZ BKgb1.out 1; have hcq10_0 : w_8.cell? ⟨gb4, 0, none⟩ = some (.slice none 0 0) := yc BKgb4.out 0; have hfq10_0 := yZ BKgb4.out 0; have hcq10_1 : w_8.cell? ⟨gb4, 1, none⟩ = some (.slice none 0 0) := yc BKgb4.out 1; have hfq10_1 := yZ BKgb4.out 1) | (go_at_call 63; go_loud (refine (performed_any 64 #[] _ _ _ c0_0 c0_1 l0_0 l0_1 _ _ ?s1 HC0_0.out ?s2 HL.out (enters_of Try.func64 (by kernel_rfl) rfl) ?s3 HP.out).mono ?_); (case s1 => exact (cB HR0_0.out (zH HB.out))); (case s2 => exact (cB HR0_1.out (zH HB.out))); (case s3 => exact fun i W _ _ => impl_FlushDevice.all_ i W); rintro e w_11 ⟨v12, rfl, ho13, hb⟩; have n_BKgb1 := aM (yB (g := gb1) (o := (.cells #[.slice A0_0 l0_0.length c0_0, .slice A0_1 l0_1.length c0_1] 30 (0, 0))) (yH BKgb1.out) hb); have n_BKgb4 := aM (yB (g := gb4) (o := (.cells #[.slice none 0 0, .slice none 0 0] 30 (0, 0))) (yH BKgb4.out) hb); have n_HB := aM (zT (zH HB.out) hb); have n_HOho13 := aM (xL ho13 (zZ (zH HB.out))); clear BKgb1 BKgb4 HB; have BKgb1 := n_BKgb1; have BKgb4 := n_BKgb4; have HB := n_HB; clear n_BKgb1 n_BKgb4 n_HB; have HOho13 := n_HOho13; clear n_HOho13 ho13; clear hb; obtain ⟨Aov12, cov12, eov12⟩ := Kd.R_slice HOho13.out; subst eov12; have hcq14_0 : w_11.cell? ⟨gb1, 0, none⟩ = some (.slice A0_0 l0_0.length c0_0) := yc BKgb1.out 0; have hfq14_0 := yZ BKgb1.out 0; have hcq14_1 : w_11.cell? ⟨gb1, 1, none⟩ = some (.slice A0_1 l0_1.length c0_1) := yc BKgb1.out 1; have hfq14_1 := yZ BKgb1.out 1; have hcq15_0 : w_11.cell? ⟨gb4, 0, none⟩ = some (.slice none 0 0) := yc BKgb4.out 0; have hfq15_0 := yZ BKgb4.out 0; have hcq15_1 : w_11.cell? ⟨gb4, 1, none⟩ = some (.slice none 0 0) := yc BKgb4.out 1; have hfq15_1 := yZ BKgb4.out 1))
  refine bodyPost_ret (results_ct rfl _ _ gb4 30 #[.slice Aov12 t1.length cov12, .slice none 0 0] (0, 0) _ rfl (by refine yW ?_; refine yP (cs := #[.slice Aov12 t1.length cov12, .slice none 0 0]) ?_ 1 _ rfl; refine yW ?_; refine yP (cs := #[.slice none 0 0, .slice none 0 0]) ?_ 0 _ rfl; refine yW ?_; exact BKgb4.out) Try.underlying30 rfl (by kernel_rfl)) rfl ?_
  exact ⟨_, _, rfl, xH (xM (xF (p := ⟨gb4, 1, none⟩) (xF (p := ⟨gb4, 0, none⟩) (xT HOho13.out BKgb4.out (by decide)) (fun _ hk => hk.2) (.slice Aov12 t1.length cov12)) (fun _ hk => hk.2) (.slice none 0 0)) (fun _ hk => trivial)), Kd.R_nil _ _ _ _ _, zH HB.out⟩
 ·rw [if_neg hg] at h
  simp only [Option.some.injEq, Prod.mk.injEq] at h
  obtain ⟨rfl, rfl, rfl⟩ := h
  have hg' : goodD l0_0 l0_1 = false := by simpa using hg
  have HG : Aside0 (impl_GoodDevice.f l0_0 l0_1 = some false) := ⟨by rw [← hg']; rfl⟩
  clear hg hg'
  go_enter Try.func29, Try.ntmps29
  go_wp2_with (first | ((with_reducible refine gate_dst (N := 1) rfl ?_); refine box_event ?hg (N := 1) ?hd (cs := #[.slice A0_0 l0_0.length c0_0, .slice A0_1 l0_1.length c0_1]) (t := 30) ?hr ?_; (case hd => rfl); (case hg => rfl); (case hr => first | (go_simp; done) | (go_simp; rfl)); intro gb1 hg w_2 hbox hb; have n_HB := aM (zT (zH HB.out) hb); have n_GE := aM ((by rw [hg]; exact (zZ (zH HB.out))) : w.heap.size ≤ gb1); clear HB; have HB := n_HB; clear n_HB; have BKgb1 := aM hbox; have GEgb1 := n_GE; clear n_GE; have hcq3_0 : w_2.cell? ⟨gb1, 0, none⟩ = some (.slice A0_0 l0_0.length c0_0) := yc BKgb1.out 0; have hfq3_0 := yZ BKgb1.out 0; have hcq3_1 : w_2.cell? ⟨gb1, 1, none⟩ = some (.slice A0_1 l0_1.length c0_1) := yc BKgb1.out 1; have hfq3_1 := yZ BKgb1.out 1; clear hbox hb hg) | ((with_reducible refine gate_dst (N := 2) rfl ?_); refine box_event ?hg (N := 2) ?hd (cs := #[.slice none 0 0, .slice none 0 0]) (t := 30) ?hr ?_; (case hd => rfl); (case hg => rfl); (case hr => first | (go_simp; done) | (go_simp; rfl)); intro gb4 hg w_5 hbox hb; have n_BKgb1 := aM (yB (g := gb1) (o := (.cells #[.slice A0_0 l0_0.length c0_0, .slice A0_1 l0_1.length c0_1] 30 (0, 0))) (yH BKgb1.out) hb); have n_HB := aM (zT (zH HB.out) hb); have n_GE := aM ((by rw [hg]; exact (zZ (zH HB.out))) : w.heap.size ≤ gb4); have n_NAgb1 := aM ((by rw [hg]; exact Nat.ne_of_lt (blk_lt (g := gb1) (o := (.cells #[.slice A0_0 l0_0.length c0_0, .slice A0_1 l0_1.length c0_1] 30 (0, 0))) (yH BKgb1.out))) : gb1 ≠ gb4); clear BKgb1 HB; have BKgb1 := n_BKgb1; have HB := n_HB; clear n_BKgb1 n_HB; have BKgb4 := aM hbox; have GEgb4 := n_GE; clear n_GE; have hnegb1_gb4 := n_NAgb1.out; have hnfgb1_gb4 : gb4 ≠ gb1 := fun h => n_NAgb1.out h.symm; clear n_NAgb1; have hcq6_0 : w_5.cell? ⟨gb1, 0, none⟩ = some (.slice A0_0 l0_0.length c0_0) := yc BKgb1.out 0; have hfq6_0 := yZ BKgb1.out 0; have hcq6_1 : w_5.cell? ⟨gb1, 1, none⟩ = some (.slice A0_1 l0_1.length c0_1) := yc BKgb1.out 1; have hfq6_1 := yZ BKgb1.out 1; have hcq7_0 : w_5.cell? ⟨gb4, 0, none⟩ = some (.slice none 0 0) := yc BKgb4.out 0; have hfq7_0 := yZ BKgb4.out 0; have hcq7_1 : w_5.cell? ⟨gb4, 1, none⟩ = some (.slice none 0 0) := yc BKgb4.out 1; have hfq7_1 := yZ BKgb4.out 1; clear hbox hb hg) | (go_at_call 16; go_loud (refine (impl_GoodDevice.calls _ c0_0 l0_0 _ c0_1 l0_1 _ _ ?s1 HC0_0.out ?s2 HC0_1.out HG.out).mono ?_); (case s1 => exact (cB HR0_0.out (zH HB.out))); (case s2 => exact (cB HR0_1.out (zH HB.out))); rintro e w_8 ⟨rfl, hb⟩; have n_BKgb1 := aM (yB (g := gb1) (o := (.cells #[.slice A0_0 l0_0.length c0_0, .slice A0_1 l0_1.length c0_1] 30 (0, 0))) (yH BKgb1.out) hb); have n_BKgb4 := aM (yB (g := gb4) (o := (.cells #[.slice none 0 0, .slice none 0 0] 30 (0, 0))) (yH BKgb4.out) hb); have n_HB := aM (zT (zH HB.out) hb); clear BKgb1 BKgb4 HB; have BKgb1 := n_BKgb1; have BKgb4 := n_BKgb4; have HB := n_HB; clear n_BKgb1 n_BKgb4 n_HB; clear hb; have hcq9_0 : w_8.cell? ⟨gb1, 0, none⟩ = some (.slice A0_0 l0_0.length c0_0) := yc BKgb1.out 0; have hfq9_0 := yZ BKgb1.out 0; have hcq9_1 : w_8.cell? ⟨gb1, 1, none⟩ = some (.slice A0_1 l0_1.length c0_1) := yc BKgb1.out 1; have hfq9_1 := yZ BKgb1.out 1; have hcq10_0 : w_8.cell? ⟨gb4, 0, none⟩ = some (.slice none 0 0) := yc BKgb4.out 0; have hfq10_0 := yZ BKgb4.out 0; have hcq10_1 : w_8.cell? ⟨gb4, 1, none⟩ = some (.slice none 0 0) := yc BKgb4.out 1; have hfq10_1 := yZ BKgb4.out 1))
  refine bodyPost_ret (results_ct rfl _ _ gb4 30 #[.slice none 0 0, .slice none 0 0] (0, 0) _ rfl (by refine yW ?_; refine yP (cs := #[.slice none 0 0, .slice none 0 0]) ?_ 1 _ rfl; refine yW ?_; refine yP (cs := #[.slice none 0 0, .slice none 0 0]) ?_ 0 _ rfl; refine yW ?_; exact BKgb4.out) Try.underlying30 rfl (by kernel_rfl)) rfl ?_
  exact ⟨_, _, rfl, Kd.R_nil _ _ _ _ _, Kd.R_nil _ _ _ _ _, zH HB.out⟩


/-! ### spec_l1Done: function 62 -/
def spec_l1Done.l0 : Nat → List ByteArray → List (S42) → Int → Int → Option (List ByteArray)
 | 0, _, _, _, _ => none
 | k + 1, x5, x11, x12, x13 => if x13 < x12 then (if 0 ≤ x13 then (if x13 < (x11.length : Int) then (if 0 ≤ ((rd_T42 x11 x13).f0) then (if ((rd_T42 x11 x13).f0) < (x5.length : Int) then (spec_l1Done.l0 k (x5.set (((rd_T42 x11 x13).f0) : Int).toNat ((rd_T42 x11 x13).f1)) x11 x12 (wrap64 (x13 + 1))) else (none)) else (none)) else (none)) else (none)) else (some x5)
def spec_l1Done.f (k : Nat) (l0 : List ByteArray) (l1 : List (S42)) : Option (List ByteArray) := (some (([] : List ByteArray) : List ByteArray)).bind fun y161 => (if y161.length + l0.length < 8796093022208 then (spec_l1Done.l0 k (y161 ++ l0) l1 (l1.length : Int) 0) else (none))
theorem spec_l1Done.mono_l : ∀ k, (∀ y0 y1 y2 y3, LeO (spec_l1Done.l0 k y0 y1 y2 y3) (spec_l1Done.l0 (k + 1) y0 y1 y2 y3))
 | 0 => fun _ _ _ _ r h => by change none = some r at h; cases h
 | k + 1 => by
  have ih0 := spec_l1Done.mono_l k
  ·intro y0 y1 y2 y3
   unfold spec_l1Done.l0
   repeat' first
   | (with_reducible exact ih0 _ _ _ _)
   | (with_reducible exact LeO.refl _)
   | (with_reducible exact LeO.none _)
   | (with_reducible refine LeO.ite ?_ ?_)
   | (with_reducible refine LeO.bind ?_ (fun _ => ?_))
   | exact ih0 _ _ _ _
   | exact LeO.none _
   | refine LeO.ite ?_ ?_
   | refine LeO.bind ?_ (fun _ => ?_)
theorem spec_l1Done.mono : ∀ a0 a1 k, LeO (spec_l1Done.f k a0 a1) (spec_l1Done.f (k + 1) a0 a1) := by
 intro a0 a1 k
 have ih0 := spec_l1Done.mono_l k
 unfold spec_l1Done.f
 repeat' first
   | (with_reducible exact ih0 _ _ _ _)
   | (with_reducible exact LeO.refl _)
   | (with_reducible exact LeO.none _)
   | (with_reducible refine LeO.ite ?_ ?_)
   | (with_reducible refine LeO.bind ?_ (fun _ => ?_))
   | exact ih0 _ _ _ _
   | exact LeO.none _
   | refine LeO.ite ?_ ?_
   | refine LeO.bind ?_ (fun _ => ?_)
set_option maxHeartbeats 8000000 in
set_option maxRecDepth 100000 in
theorem spec_l1Done.calls (k : Nat) (A0 : Option Addr) (c0 : Nat) (l0 : List ByteArray) (A1 : Option Addr) (c1 : Nat) (l1 : List (S42)) (r : List ByteArray) (w : World) (hr0 : Kd.C Kd.string w A0 l0.length l0) (hc0 : l0.length ≤ c0) (hr1 : Kd.C k42 w A1 l1.length l1) (hc1 : l1.length ≤ c1) (h : spec_l1Done.f k l0 l1 = some r) :
  Calls Try.prog 62 #[.slice A0 l0.length c0, .slice A1 l1.length c1] w fun e w' => ∃ v0_ : Value, e = .returned (v0_) ∧ Kd.R Kd.string 9 w' w.heap.size (fun _ => True) v0_ r ∧ Below w.heap.size w w' := by
 have hu42 := Try.underlying42; have HR0 := aM hr0; have HC0 := aM hc0; clear hr0 hc0; have HR1 := aM hr1; have HC1 := aM hc1; clear hr1 hc1; have HB := aM (Below.refl w.heap.size w)
 have H : ((some (([] : List ByteArray) : List ByteArray)).bind fun y161 => (if y161.length + l0.length < 8796093022208 then (spec_l1Done.l0 k (y161 ++ l0) l1 (l1.length : Int) 0) else (none))) = some r := h
 clear h; obtain ⟨y161, hy161⟩ : ∃ y_ : List ByteArray, y_ = (([] : List ByteArray)) := ⟨_, rfl⟩
 replace H : (if y161.length + l0.length < 8796093022208 then (spec_l1Done.l0 k (y161 ++ l0) l1 (l1.length : Int) 0) else (none)) = some r := by first | (rw [hy161]; with_reducible exact H) | (have H2_ := (Option.bind_some _ _).symm.trans H; rw [hy161]; with_reducible exact H2_) | (have H2_ := (Option.bind_some _ _).symm.trans H; with_reducible exact H2_) | with_reducible exact H | (rw [hy161]; exact H) | exact H
 have Ny161 := aM hy161; clear hy161
 by_cases c3 : y161.length + l0.length < 8796093022208
 ·rw [if_pos c3] at H
  have LMc3 := aM c3; clear c3; obtain ⟨y164, hy164⟩ : ∃ y_ : List ByteArray, y_ = (y161 ++ l0) := ⟨_, rfl⟩
  replace H : (spec_l1Done.l0 k y164 l1 (l1.length : Int) 0) = some r := by first | (rw [hy164]; with_reducible exact H) | (have H2_ := (Option.bind_some _ _).symm.trans H; rw [hy164]; with_reducible exact H2_) | (have H2_ := (Option.bind_some _ _).symm.trans H; with_reducible exact H2_) | with_reducible exact H | (rw [hy164]; exact H) | exact H
  have Ny164 := aM hy164; clear hy164; have H' := aM H; clear H
  go_enter Try.func62, Try.ntmps62
  go_wp2_with (first | ((with_reducible refine gate_dst (N := 8) rfl ?_); refine Kd.R_lit Kd.string _ 9 ?hg (N := 8) ?hd (xs := ([] : List ByteArray)) (inner := []) (ok := fun _ => True) (okp := fun _ => True) ?hr ?hp (fun _ hk => hk) trivial (Below.refl _ _) (Nat.le_refl _) (by simp) ?_; (case hd => rfl); (case hg => rfl); (case hr => first | (go_simp; done) | (go_simp; rfl)); (case hp => exact (Reps.none _ _)); intro v162 w4 ho5 hb hg_ hnew_; clear hg_ hnew_; (first | rw [← Ny161.out] at ho5 | (simp only [Int.reduceToNat] at ho5; rw [← Ny161.out] at ho5)); have HO163 := aM (xL ho5 (zZ (zH HB.out))); replace HB := aM (zT (zH HB.out) hb); clear hb ho5) | ((with_reducible refine gate_builtin (b := .append) (xs := #[.tmp 8, .tmp 9]) rfl ?_); at_builtin; refine Kd.R_append_rows Kd.string (w0 := w) w.heap.size rfl (.tmp 8) (.tmp 9) 22 9 (.string ⟨#[]⟩) 16 rfl Try.underlying22 info9 rfl (by decide) (by omega) v162 y161 l0 _ _ _ (fun _ => True) (fun _ => False) rfl rfl ?aO ?aR (fun _ _ h => h) (fun _ h => h.elim) ?aF ?aB ?aS ?aL ?_; (case aR => exact cK HR0.out HB.out); (case aB => exact (zH HB.out)); (case aF => exact (fun _ _ => trivial)); (case aO => exact (xH HO163.out)); (case aS => exact (zZ (zH HB.out))); (case aL => have := LMc3.out; omega); intro v165 w6 ho hb hg hat; rw [← Ny164.out] at ho; replace HB := aM (hb); have HO166 := aM (ho); clear HO163; clear ho hb hg hat))
  go_loopg [13] k (fun kq v13 w' => ∃ (x5_1 : List ByteArray) (x13_1 : Int), v13 = .int .i64 x13_1 ∧ Aside0 (spec_l1Done.l0 kq x5_1 l1 (l1.length : Int) x13_1 = some r) ∧ Aside0 (kq ≤ k) ∧ Aside0 (Kd.R Kd.string 9 w' w.heap.size (fun _ => True) v165 x5_1) ∧ Aside0 (Below w.heap.size w w'))
  case atStart => exact ⟨(y164), (0), (by first | rfl | (simp; done) | (simp [*]; done)), H', ⟨Nat.le_refl _⟩, ⟨xH HO166.out⟩, ⟨zH HB.out⟩⟩
  case round =>
   clear H'
   (try clear c1); (try clear c3)
   obtain ⟨x5_1, x13_1, rfl, HA, HK1, p0', HB⟩ := hrel
   cases gk with
   | zero => exact absurd HA.out (fun h_ => by change none = some _ at h_; cases h_)
   | succ k1 =>
    have H := HA.out; clear HA
    simp only [spec_l1Done.l0] at H
    by_cases c7 : x13_1 < (l1.length : Int)
    ·rw [if_pos c7] at H
     have c7b0 : decide (x13_1 < (l1.length : Int)) = true := decide_eq_true c7; clear c7
     by_cases c8 : 0 ≤ x13_1
     ·rw [if_pos c8] at H
      have c8b0 : decide (0 ≤ x13_1) = true := decide_eq_true c8; clear c8
      by_cases c9 : x13_1 < (l1.length : Int)
      ·rw [if_pos c9] at H
       have c9b0 : decide (x13_1 < (l1.length : Int)) = true := decide_eq_true c9; clear c9
       by_cases c10 : 0 ≤ ((rd_T42 l1 x13_1).f0)
       ·rw [if_pos c10] at H
        have c10b0 : decide (0 ≤ ((rd_T42 l1 x13_1).f0)) = true := decide_eq_true c10; clear c10
        by_cases c11 : ((rd_T42 l1 x13_1).f0) < (x5_1.length : Int)
        ·rw [if_pos c11] at H
         have c11b0 : decide (((rd_T42 l1 x13_1).f0) < (x5_1.length : Int)) = true := decide_eq_true c11; clear c11; obtain ⟨y169, hy169⟩ : ∃ y_ : List ByteArray, y_ = (x5_1.set (((rd_T42 l1 x13_1).f0) : Int).toNat ((rd_T42 l1 x13_1).f1)) := ⟨_, rfl⟩
         replace H : (spec_l1Done.l0 k1 y169 l1 (l1.length : Int) (wrap64 (x13_1 + 1))) = some r := by first | (rw [hy169]; with_reducible exact H) | (have H2_ := (Option.bind_some _ _).symm.trans H; rw [hy169]; with_reducible exact H2_) | (have H2_ := (Option.bind_some _ _).symm.trans H; with_reducible exact H2_) | with_reducible exact H | (rw [hy169]; exact H) | exact H
         have Ny169 := aM hy169; clear hy169; have H' := aM H; clear H
         have p167 : 0 ≤ (x13_1 : Int) := of_decide_eq_true (by first | (with_reducible assumption) | assumption)
         have q167 : x13_1 < (l1.length : Int) := of_decide_eq_true (by first | (with_reducible assumption) | assumption)
         obtain ⟨ad167, e167, hx167_0, hx167_1⟩ := at_T42 HR1.out x13_1 p167 q167
         cases e167
         replace hx167_0 := (HB.out.cell (World.block_lt_of_cell? w _ hx167_0)).trans hx167_0; replace hx167_1 := (HB.out.cell (World.block_lt_of_cell? w _ hx167_1)).trans hx167_1; replace p167 := eq_true p167; replace q167 := eq_true q167
         go_wp2_with (first | ((with_reducible refine gate_dst (N := 7) rfl ?_); refine box_event ?hg (N := 7) ?hd (cs := #[.int .i64 0, .string (⟨#[]⟩ : ByteArray)]) (t := 42) ?hr ?_; (case hd => rfl); (case hg => rfl); (case hr => first | (go_simp; done) | (go_simp; rfl)); intro gb168 hg w13 hbox hb; replace p0' := xK p0'.out hb; have BK168 := aM (hbox); have GW168 := aM ((by rw [hg]; exact (zZ (zH HB.out)) : w.heap.size ≤ gb168)); have GE168 := aM ((by rw [hg]; exact (zZ (zH HB.out)) : w.heap.size ≤ gb168)); replace HB := aM (zT (zH HB.out) hb); clear hb hbox hg; have hcz14_0 : w13.cell? ⟨gb168, 0, none⟩ = some (.int .i64 0) := yc BK168.out 0; have hcz14_1 : w13.cell? ⟨gb168, 1, none⟩ = some (.string (⟨#[]⟩ : ByteArray)) := yc BK168.out 1; have hfz14_0 := yZ BK168.out 0; have hfz14_1 := yZ BK168.out 1) | ((with_reducible refine gate_store (t := 42) (p := 7) rfl ?_); refine store_event (t := 42) (p := 7) (v := ?vo_w15) (w1 := ((w13.setCell ⟨gb168, 0, none⟩ (.int .i64 ((rd_T42 l1 x13_1).f0))).setCell ⟨gb168, 1, none⟩ (.string ((rd_T42 l1 x13_1).f1)))) ?hg ?ho ?hn ?hr ?_; (case ho => rfl); (case hg => rfl); (case hn => rfl); (case hr => first | (go_simp; done) | (go_simp; rfl)); intro w15 hw; replace p0' : Aside0 (Kd.R Kd.string 9 w15 w.heap.size (fun _ => True) v165 x5_1) := ⟨(by rw [hw]; exact (xH (xM (xF (p := ⟨gb168, 1, none⟩) (xF (p := ⟨gb168, 0, none⟩) (xT p0'.out BK168.out (by decide)) (fun _ hk => hk.2) (.int .i64 ((rd_T42 l1 x13_1).f0))) (fun _ hk => hk.2) (.string ((rd_T42 l1 x13_1).f1))) (fun _ hk => trivial))))⟩; replace BK168 : Aside0 (w15.heap[gb168]? = some (.cells #[.int .i64 ((rd_T42 l1 x13_1).f0), .string ((rd_T42 l1 x13_1).f1)] 42 (0, 0))) := ⟨(by rw [hw]; exact (by refine yW ?_; refine yP (cs := #[.int .i64 ((rd_T42 l1 x13_1).f0), .string (⟨#[]⟩ : ByteArray)]) ?_ 1 _ rfl; refine yW ?_; refine yP (cs := #[.int .i64 0, .string (⟨#[]⟩ : ByteArray)]) ?_ 0 _ rfl; refine yW ?_; exact BK168.out))⟩; replace HB : Aside0 (Below w.heap.size w w15) := ⟨(by rw [hw]; exact (zH HB.out))⟩; clear hw; have hcz16_0 : w15.cell? ⟨gb168, 0, none⟩ = some (.int .i64 ((rd_T42 l1 x13_1).f0)) := yc BK168.out 0; have hcz16_1 : w15.cell? ⟨gb168, 1, none⟩ = some (.string ((rd_T42 l1 x13_1).f1)) := yc BK168.out 1; have hfz16_0 := yZ BK168.out 0; have hfz16_1 := yZ BK168.out 1; have p12 : 0 ≤ (((rd_T42 l1 x13_1).f0) : Int) := of_decide_eq_true (by first | (with_reducible assumption) | assumption); have q12 : (((rd_T42 l1 x13_1).f0) : Int) < ((x5_1.length : Int) : Int) := of_decide_eq_true (by first | (with_reducible assumption) | assumption); obtain ⟨go12, co12, eo12, gb12, gl12, cl12, HG12⟩ := Kd.R_form p0'.out (by omega); (first | cases eo12 | (injection eo12 with ea_ en_ ec_; (first | subst ea_ | (injection ea_ with ea_; subst ea_)); subst ec_; clear en_)); have GB12 := aM gb12; have GG12 := aM HG12; clear gb12 gl12 HG12; obtain ⟨hx12_0, hf12_0⟩ := Kd.R_celln (⟨#[]⟩ : ByteArray) p0'.out (((rd_T42 l1 x13_1).f0) : Int) p12 q12; replace p12 := eq_true p12; replace q12 := eq_true q12; obtain ⟨hy17_, hz17_⟩ := Kd.R_celln (⟨#[]⟩ : ByteArray) p0'.out (((rd_T42 l1 x13_1).f0) : Int) (of_decide_eq_true (by first | (with_reducible assumption) | assumption)) (of_decide_eq_true (by first | (with_reducible assumption) | assumption)); have HP17 := Kd.R_putg p0'.out (((rd_T42 l1 x13_1).f0) : Int) ((rd_T42 l1 x13_1).f1)) | ((with_reducible refine gate_store (t := 9) (p := 22) rfl ?_); refine store_event (t := 9) (p := 22) (v := ?vo_w18) (w1 := (w15.setCell ⟨go12, (((rd_T42 l1 x13_1).f0) : Int).toNat, none⟩ (.string ((rd_T42 l1 x13_1).f1)))) ?hg ?ho ?hn ?hr ?_; (case ho => rfl); (case hg => rfl); (case hn => rfl); (case hr => first | (go_simp; done) | (go_simp; rfl)); intro w18 hw; have hg : w15.grownBy w18 (some go12) := (by rw [hw]; exact HP17.2); have hp_ : Kd.R Kd.string 9 w18 w.heap.size (fun _ => True) (.slice (some ⟨go12, 0, none⟩) x5_1.length co12) y169 := (by rw [hw, Ny169.out]; exact HP17.1); clear HP17; replace BK168 := aM (blk_grown (g := gb168) (o := .cells #[.int .i64 ((rd_T42 l1 x13_1).f0), .string ((rd_T42 l1 x13_1).f1)] 42 (0, 0)) (yH BK168.out) hg (Kd.R_ne p0'.out BK168.out (by decide))); replace p0' := aM (hp_); replace HB := aM ((by rw [hw]; exact zS (HB.out) GB12.out : Below w.heap.size w w18)); clear hg hw hp_))
         go_roundg k1
         case measure => have := HK1.out; omega
         case rel => exact ⟨(y169), (wrap64 (x13_1 + 1)), (by first | rfl | (simp; done) | (simp [*]; done)), H', ⟨by have := HK1.out; omega⟩, ⟨xH p0'.out⟩, ⟨zH HB.out⟩⟩
        ·rw [if_neg c11] at H
         exact absurd H (by simp)
       ·rw [if_neg c10] at H
        exact absurd H (by simp)
      ·rw [if_neg c9] at H
       exact absurd H (by simp)
     ·rw [if_neg c8] at H
      exact absurd H (by simp)
    ·rw [if_neg c7] at H
     have c7b0 : decide (x13_1 < (l1.length : Int)) = false := decide_eq_false c7; clear c7; obtain rfl := Option.some.inj H
     go_wp2
     go_ret
     exact ⟨_, eW, xH p0'.out, zH HB.out⟩
 ·rw [if_neg c3] at H
  exact absurd H (by simp)

/-! ### spec_l1Kept: function 71 -/
def spec_l1Kept.l0 : Nat → List Bool → List (S42) → List (S42) → Int → Int → Option ((List (S42)))
 | 0, _, _, _, _, _ => none
 | k + 1, x1, x5, x8, x9, x10 => if x10 < x9 then (if 0 ≤ x10 then (if x10 < (x8.length : Int) then (if x10 < (x1.length : Int) then (if rdOf false x1 x10 = true then (if x5.length < 5864062014805 then (spec_l1Kept.l0 k x1 (x5 ++ [(⟨(rd_T42 x8 x10).f0, (rd_T42 x8 x10).f1⟩ : S42)]) x8 x9 (wrap64 (x10 + 1))) else (none)) else (spec_l1Kept.l0 k x1 x5 x8 x9 (wrap64 (x10 + 1)))) else (none)) else (none)) else (none)) else (some x5)
def spec_l1Kept.f (k : Nat) (l0 : List (S42)) (l1 : List Bool) : Option ((List (S42))) := spec_l1Kept.l0 k l1 ([] : List (S42)) l0 (l0.length : Int) 0
theorem spec_l1Kept.mono_l : ∀ k, (∀ y0 y1 y2 y3 y4, LeO (spec_l1Kept.l0 k y0 y1 y2 y3 y4) (spec_l1Kept.l0 (k + 1) y0 y1 y2 y3 y4))
 | 0 => fun _ _ _ _ _ r h => by change none = some r at h; cases h
 | k + 1 => by
  have ih0 := spec_l1Kept.mono_l k
  ·intro y0 y1 y2 y3 y4
   unfold spec_l1Kept.l0
   repeat' first
   | (with_reducible exact ih0 _ _ _ _ _)
   | (with_reducible exact LeO.refl _)
   | (with_reducible exact LeO.none _)
   | (with_reducible refine LeO.ite ?_ ?_)
   | (with_reducible refine LeO.bind ?_ (fun _ => ?_))
   | exact ih0 _ _ _ _ _
   | exact LeO.none _
   | refine LeO.ite ?_ ?_
   | refine LeO.bind ?_ (fun _ => ?_)
theorem spec_l1Kept.mono : ∀ a0 a1 k, LeO (spec_l1Kept.f k a0 a1) (spec_l1Kept.f (k + 1) a0 a1) := by
 intro a0 a1 k
 have ih0 := spec_l1Kept.mono_l k
 unfold spec_l1Kept.f
 repeat' first
   | (with_reducible exact ih0 _ _ _ _ _)
   | (with_reducible exact LeO.refl _)
   | (with_reducible exact LeO.none _)
   | (with_reducible refine LeO.ite ?_ ?_)
   | (with_reducible refine LeO.bind ?_ (fun _ => ?_))
   | exact ih0 _ _ _ _ _
   | exact LeO.none _
   | refine LeO.ite ?_ ?_
   | refine LeO.bind ?_ (fun _ => ?_)
set_option maxHeartbeats 8000000 in
set_option maxRecDepth 100000 in
theorem spec_l1Kept.calls (k : Nat) (A0 : Option Addr) (c0 : Nat) (l0 : List (S42)) (A1 : Option Addr) (c1 : Nat) (l1 : List Bool) (r : List (S42)) (w : World) (hr0 : Kd.C k42 w A0 l0.length l0) (hc0 : l0.length ≤ c0) (hr1 : Kd.C Kd.bool w A1 l1.length l1) (hc1 : l1.length ≤ c1) (h : spec_l1Kept.f k l0 l1 = some r) :
  Calls Try.prog 71 #[.slice A0 l0.length c0, .slice A1 l1.length c1] w fun e w' => ∃ v0_ : Value, e = .returned (v0_) ∧ Kd.R k42 42 w' w.heap.size (fun _ => True) v0_ r ∧ Below w.heap.size w w' := by
 have hu42 := Try.underlying42; have HR0 := aM hr0; have HC0 := aM hc0; clear hr0 hc0; have HR1 := aM hr1; have HC1 := aM hc1; clear hr1 hc1; have HB := aM (Below.refl w.heap.size w); have H : (spec_l1Kept.l0 k l1 ([] : List (S42)) l0 (l0.length : Int) 0) = some r := h; clear h; have H' := aM H; clear H
 go_enter Try.func71, Try.ntmps71
 go_wp2
 go_loopg [5, 10] k (fun kq v5 v10 w' => ∃ (x5_1 : List (S42)) (x10_1 : Int), v10 = .int .i64 x10_1 ∧ Aside0 (spec_l1Kept.l0 kq l1 x5_1 l0 (l0.length : Int) x10_1 = some r) ∧ Aside0 (kq ≤ k) ∧ Aside0 (Kd.R k42 42 w' w.heap.size (fun _ => True) v5 x5_1) ∧ Aside0 (Below w.heap.size w w'))
 case atStart => exact ⟨(([] : List (S42))), (0), (by first | rfl | (simp; done) | (simp [*]; done)), H', ⟨Nat.le_refl _⟩, ⟨by first | exact Kd.R_nil _ _ _ _ _ | exact Kd.N_nil _ _ _ _ _ | exact Kd.V_nil _ _ _ _ _ | exact Kd.Q_nil _ _ _ _ _ | exact Kd.S_nil _ _ _ _ _⟩, ⟨zH HB.out⟩⟩
 case round =>
  clear H'
  (try clear c1)
  obtain ⟨x5_1, x10_1, rfl, HA, HK1, p0', HB⟩ := hrel
  cases gk with
  | zero => exact absurd HA.out (fun h_ => by change none = some _ at h_; cases h_)
  | succ k1 =>
   have H := HA.out; clear HA
   simp only [spec_l1Kept.l0] at H
   by_cases c3 : x10_1 < (l0.length : Int)
   ·rw [if_pos c3] at H
    have c3b0 : decide (x10_1 < (l0.length : Int)) = true := decide_eq_true c3; clear c3
    by_cases c4 : 0 ≤ x10_1
    ·rw [if_pos c4] at H
     have c4b0 : decide (0 ≤ x10_1) = true := decide_eq_true c4; clear c4
     by_cases c5 : x10_1 < (l0.length : Int)
     ·rw [if_pos c5] at H
      have c5b0 : decide (x10_1 < (l0.length : Int)) = true := decide_eq_true c5; clear c5
      by_cases c6 : x10_1 < (l1.length : Int)
      ·rw [if_pos c6] at H
       have c6b0 : decide (x10_1 < (l1.length : Int)) = true := decide_eq_true c6; clear c6; obtain ⟨bq7, hbq7⟩ : ∃ b_ : Bool, b_ = (rdOf false l1 x10_1) := ⟨_, rfl⟩
       replace H : (if bq7 = true then (if x5_1.length < 5864062014805 then (spec_l1Kept.l0 k1 l1 (x5_1 ++ [(⟨(rd_T42 l0 x10_1).f0, (rd_T42 l0 x10_1).f1⟩ : S42)]) l0 (l0.length : Int) (wrap64 (x10_1 + 1))) else (none)) else (spec_l1Kept.l0 k1 l1 x5_1 l0 (l0.length : Int) (wrap64 (x10_1 + 1)))) = some r := by rw [← hbq7] at H; exact H
       have Nbq7 := aM hbq7; clear hbq7
       by_cases c8 : bq7 = true
       ·subst c8
        have H1 : (if x5_1.length < 5864062014805 then (spec_l1Kept.l0 k1 l1 (x5_1 ++ [(⟨(rd_T42 l0 x10_1).f0, (rd_T42 l0 x10_1).f1⟩ : S42)]) l0 (l0.length : Int) (wrap64 (x10_1 + 1))) else (none)) = some r := by rw [if_pos rfl] at H; exact H
        clear H; have H := H1; clear H1
        by_cases c9 : x5_1.length < 5864062014805
        ·rw [if_pos c9] at H
         have LMc9 := aM c9; clear c9; obtain ⟨y173, hy173⟩ : ∃ y_ : List (S42), y_ = (x5_1 ++ [(⟨(rd_T42 l0 x10_1).f0, (rd_T42 l0 x10_1).f1⟩ : S42)]) := ⟨_, rfl⟩
         replace H : (spec_l1Kept.l0 k1 l1 y173 l0 (l0.length : Int) (wrap64 (x10_1 + 1))) = some r := by first | (rw [hy173]; with_reducible exact H) | (have H2_ := (Option.bind_some _ _).symm.trans H; rw [hy173]; with_reducible exact H2_) | (have H2_ := (Option.bind_some _ _).symm.trans H; with_reducible exact H2_) | with_reducible exact H | (rw [hy173]; exact H) | exact H
         have Ny173 := aM hy173; clear hy173; have H' := aM H; clear H
         have p170 : 0 ≤ (x10_1 : Int) := of_decide_eq_true (by first | (with_reducible assumption) | assumption)
         have q170 : x10_1 < (l0.length : Int) := of_decide_eq_true (by first | (with_reducible assumption) | assumption)
         obtain ⟨ad170, e170, hx170_0, hx170_1⟩ := at_T42 HR0.out x10_1 p170 q170
         cases e170
         replace hx170_0 := (HB.out.cell (World.block_lt_of_cell? w _ hx170_0)).trans hx170_0; replace hx170_1 := (HB.out.cell (World.block_lt_of_cell? w _ hx170_1)).trans hx170_1; replace p170 := eq_true p170; replace q170 := eq_true q170
         go_wp2_with (first | ((with_reducible refine gate_dst (N := 7) rfl ?_); refine box_event ?hg (N := 7) ?hd (cs := #[.int .i64 0, .string (⟨#[]⟩ : ByteArray)]) (t := 42) ?hr ?_; (case hd => rfl); (case hg => rfl); (case hr => first | (go_simp; done) | (go_simp; rfl)); intro gb171 hg w10 hbox hb; replace p0' := aM (xB (Kd.R_elderB (xH p0'.out) gb171 (Nat.le_of_eq hg.symm)) hb); have BK171 := aM (hbox); have GW171 := aM ((by rw [hg]; exact (zZ (zH HB.out)) : w.heap.size ≤ gb171)); have GE171 := aM ((by rw [hg]; exact (zZ (zH HB.out)) : w.heap.size ≤ gb171)); replace HB := aM (zT (zH HB.out) hb); clear hb hbox hg; have hcz11_0 : w10.cell? ⟨gb171, 0, none⟩ = some (.int .i64 0) := yc BK171.out 0; have hcz11_1 : w10.cell? ⟨gb171, 1, none⟩ = some (.string (⟨#[]⟩ : ByteArray)) := yc BK171.out 1; have hfz11_0 := yZ BK171.out 0; have hfz11_1 := yZ BK171.out 1; have p172 : 0 ≤ (x10_1 : Int) := of_decide_eq_true (by first | (with_reducible assumption) | assumption); have q172 : x10_1 < (l1.length : Int) := of_decide_eq_true (by first | (with_reducible assumption) | assumption); obtain ⟨ad172, e172, hx172_0⟩ := Kd.at_bool HR1.out x10_1 p172 q172; (try rw [← Nbq7.out] at hx172_0); cases e172; have hn172_0 : ad172.block ≠ gb171 := Nat.ne_of_lt (Nat.lt_of_lt_of_le (by have := World.block_lt_of_cell? _ _ hx172_0; first | rwa [add_block] at this | exact this) GW171.out); have hn172_1 : ad172.block ≠ gb171 := Nat.ne_of_lt (Nat.lt_of_lt_of_le (by have := World.block_lt_of_cell? _ _ hx172_0; first | rwa [add_block] at this | exact this) GW171.out); replace hx172_0 := (HB.out.cell (World.block_lt_of_cell? w _ hx172_0)).trans hx172_0; replace hx172_0 := (cell_far (p := ⟨gb171, 0, none⟩) (by first | (rw [add_block]; exact hn172_0) | (show (Addr.add _ _).block ≠ _; rw [add_block]; exact hn172_0) | exact hn172_0) (.int .i64 ((rd_T42 l0 x10_1).f0))).trans hx172_0; replace hx172_0 := (cell_far (p := ⟨gb171, 1, none⟩) (by first | (rw [add_block]; exact hn172_1) | (show (Addr.add _ _).block ≠ _; rw [add_block]; exact hn172_1) | exact hn172_1) (.string ((rd_T42 l0 x10_1).f1))).trans hx172_0; clear hn172_0; clear hn172_1; replace p172 := eq_true p172; replace q172 := eq_true q172) | ((with_reducible refine gate_builtin (b := .append) (xs := #[.tmp 19, .tmp 21]) rfl ?_); at_builtin; refine Kd.R_append k42 (w0 := w) w.heap.size rfl (.tmp 19) (.tmp 21) 28 42 (.agg #[(.int .i64 0), (.string ⟨#[]⟩)]) 24 rfl Try.underlying28 info42 rfl (by decide) (by omega) u5 x5_1 (⟨(rd_T42 l0 x10_1).f0, (rd_T42 l0 x10_1).f1⟩ : S42) [.int .i64 ((rd_T42 l0 x10_1).f0), .string ((rd_T42 l0 x10_1).f1)] (fun k_ => k_ ≠ gb171) (fun _ => False) rfl (by first | (go_simp; done) | (go_simp; rfl)) ?aP (fun _ hk => hk.elim) ?aF ?aO ?aB ?aS ?aL ?_; (case aP => exact k42_mkM _ _ _ (⟨(rd_T42 l0 x10_1).f0, (rd_T42 l0 x10_1).f1⟩ : S42)); (case aB => exact (zH HB.out)); (case aF => exact (fun k_ hk => Kd.freshB (g := gb171) (o := .cells #[.int .i64 ((rd_T42 l0 x10_1).f0), .string ((rd_T42 l0 x10_1).f1)] 42 (0, 0)) (by refine yW ?_; refine yP (cs := #[.int .i64 ((rd_T42 l0 x10_1).f0), .string (⟨#[]⟩ : ByteArray)]) ?_ 1 _ rfl; refine yW ?_; refine yP (cs := #[.int .i64 0, .string (⟨#[]⟩ : ByteArray)]) ?_ 0 _ rfl; refine yW ?_; exact BK171.out) k_ hk)); (case aO => exact (xH (xM (xF (p := ⟨gb171, 1, none⟩) (xF (p := ⟨gb171, 0, none⟩) (xM p0'.out (fun k_ hk => (⟨hk, hk.2⟩ : _ ∧ k_ ≠ gb171))) (fun _ hk => hk.2) (.int .i64 ((rd_T42 l0 x10_1).f0))) (fun _ hk => hk.2) (.string ((rd_T42 l0 x10_1).f1))) (fun _ hk => hk.1.2)))); (case aS => exact (zZ (zH HB.out))); (case aL => have := LMc9.out; omega); intro v174 w12 ho hb hg hat; rw [← Ny173.out] at ho; replace BK171 := aM (blk_grown (g := gb171) (o := .cells #[.int .i64 ((rd_T42 l0 x10_1).f0), .string ((rd_T42 l0 x10_1).f1)] 42 (0, 0)) (by refine yW ?_; refine yP (cs := #[.int .i64 ((rd_T42 l0 x10_1).f0), .string (⟨#[]⟩ : ByteArray)]) ?_ 1 _ rfl; refine yW ?_; refine yP (cs := #[.int .i64 0, .string (⟨#[]⟩ : ByteArray)]) ?_ 0 _ rfl; refine yW ?_; exact BK171.out) hg (Kd.R_away p0'.out (fun _ hk => hk.2))); replace HB := aM (hb); have HO175 := aM (ho); clear p0'; clear ho hb hg hat))
         go_roundg k1
         case measure => have := HK1.out; omega
         case rel => exact ⟨(y173), (wrap64 (x10_1 + 1)), (by first | rfl | (simp; done) | (simp [*]; done)), H', ⟨by have := HK1.out; omega⟩, ⟨xH (xM HO175.out (fun _ hk => trivial))⟩, ⟨zH HB.out⟩⟩
        ·rw [if_neg c9] at H
         exact absurd H (by simp)
       ·replace c8 := Bool.eq_false_iff.mpr c8
        subst c8
        have H1 : (spec_l1Kept.l0 k1 l1 x5_1 l0 (l0.length : Int) (wrap64 (x10_1 + 1))) = some r := by rw [if_neg (show ¬ (false = true) by decide)] at H; exact H
        clear H; have H := H1; clear H1; have H' := aM H; clear H
        have p170 : 0 ≤ (x10_1 : Int) := of_decide_eq_true (by first | (with_reducible assumption) | assumption)
        have q170 : x10_1 < (l0.length : Int) := of_decide_eq_true (by first | (with_reducible assumption) | assumption)
        obtain ⟨ad170, e170, hx170_0, hx170_1⟩ := at_T42 HR0.out x10_1 p170 q170
        cases e170
        replace hx170_0 := (HB.out.cell (World.block_lt_of_cell? w _ hx170_0)).trans hx170_0; replace hx170_1 := (HB.out.cell (World.block_lt_of_cell? w _ hx170_1)).trans hx170_1; replace p170 := eq_true p170; replace q170 := eq_true q170
        go_wp2_with (first | ((with_reducible refine gate_dst (N := 7) rfl ?_); refine box_event ?hg (N := 7) ?hd (cs := #[.int .i64 0, .string (⟨#[]⟩ : ByteArray)]) (t := 42) ?hr ?_; (case hd => rfl); (case hg => rfl); (case hr => first | (go_simp; done) | (go_simp; rfl)); intro gb171 hg w13 hbox hb; replace p0' := aM (xB (Kd.R_elderB (xH p0'.out) gb171 (Nat.le_of_eq hg.symm)) hb); have BK171 := aM (hbox); have GW171 := aM ((by rw [hg]; exact (zZ (zH HB.out)) : w.heap.size ≤ gb171)); have GE171 := aM ((by rw [hg]; exact (zZ (zH HB.out)) : w.heap.size ≤ gb171)); replace HB := aM (zT (zH HB.out) hb); clear hb hbox hg; have hcz14_0 : w13.cell? ⟨gb171, 0, none⟩ = some (.int .i64 0) := yc BK171.out 0; have hcz14_1 : w13.cell? ⟨gb171, 1, none⟩ = some (.string (⟨#[]⟩ : ByteArray)) := yc BK171.out 1; have hfz14_0 := yZ BK171.out 0; have hfz14_1 := yZ BK171.out 1; have p172 : 0 ≤ (x10_1 : Int) := of_decide_eq_true (by first | (with_reducible assumption) | assumption); have q172 : x10_1 < (l1.length : Int) := of_decide_eq_true (by first | (with_reducible assumption) | assumption); obtain ⟨ad172, e172, hx172_0⟩ := Kd.at_bool HR1.out x10_1 p172 q172; (try rw [← Nbq7.out] at hx172_0); cases e172; have hn172_0 : ad172.block ≠ gb171 := Nat.ne_of_lt (Nat.lt_of_lt_of_le (by have := World.block_lt_of_cell? _ _ hx172_0; first | rwa [add_block] at this | exact this) GW171.out); have hn172_1 : ad172.block ≠ gb171 := Nat.ne_of_lt (Nat.lt_of_lt_of_le (by have := World.block_lt_of_cell? _ _ hx172_0; first | rwa [add_block] at this | exact this) GW171.out); replace hx172_0 := (HB.out.cell (World.block_lt_of_cell? w _ hx172_0)).trans hx172_0; replace hx172_0 := (cell_far (p := ⟨gb171, 0, none⟩) (by first | (rw [add_block]; exact hn172_0) | (show (Addr.add _ _).block ≠ _; rw [add_block]; exact hn172_0) | exact hn172_0) (.int .i64 ((rd_T42 l0 x10_1).f0))).trans hx172_0; replace hx172_0 := (cell_far (p := ⟨gb171, 1, none⟩) (by first | (rw [add_block]; exact hn172_1) | (show (Addr.add _ _).block ≠ _; rw [add_block]; exact hn172_1) | exact hn172_1) (.string ((rd_T42 l0 x10_1).f1))).trans hx172_0; clear hn172_0; clear hn172_1; replace p172 := eq_true p172; replace q172 := eq_true q172))
        go_roundg k1
        case measure => have := HK1.out; omega
        case rel => exact ⟨(x5_1), (wrap64 (x10_1 + 1)), (by first | rfl | (simp; done) | (simp [*]; done)), H', ⟨by have := HK1.out; omega⟩, ⟨xH (xM (xF (p := ⟨gb171, 1, none⟩) (xF (p := ⟨gb171, 0, none⟩) (xM p0'.out (fun k_ hk => (⟨hk, hk.2⟩ : _ ∧ k_ ≠ gb171))) (fun _ hk => hk.2) (.int .i64 ((rd_T42 l0 x10_1).f0))) (fun _ hk => hk.2) (.string ((rd_T42 l0 x10_1).f1))) (fun _ hk => trivial))⟩, ⟨zH HB.out⟩⟩
      ·rw [if_neg c6] at H
       exact absurd H (by simp)
     ·rw [if_neg c5] at H
      exact absurd H (by simp)
    ·rw [if_neg c4] at H
     exact absurd H (by simp)
   ·rw [if_neg c3] at H
    have c3b0 : decide (x10_1 < (l0.length : Int)) = false := decide_eq_false c3; clear c3; obtain rfl := Option.some.inj H
    go_wp2
    go_ret
    exact ⟨_, eW, xH p0'.out, zH HB.out⟩

/-! ### spec_CrashDevice: function 30 -/
def spec_CrashDevice.j0 : Nat → List Bool → Bool → List ByteArray → List (S42) → Option (List ByteArray × (List (S42)) × Bool)
 | 0, _, _, _, _ => none
 | k + 1, x1, x16, x177000, x177001 => if x16 = true then (some (([] : List ByteArray), ([] : List (S42)), false)) else ((spec_l1Kept.f k x177001 x1).bind fun t179 => ((spec_l1Done.f k x177000 t179).bind fun t182 => (some (t182, ([] : List (S42)), true))))
def spec_CrashDevice.f (k : Nat) (l0_0 : List ByteArray) (l0_1 : List (S42)) (l1 : List Bool) : Option (List ByteArray × (List (S42)) × Bool) := (spec_GoodDevice.f k l0_0 l0_1).bind fun t178 => (if t178 = true then (spec_CrashDevice.j0 k l1 ((l1.length : Int) != (l0_1.length : Int)) l0_0 l0_1) else (spec_CrashDevice.j0 k l1 true l0_0 l0_1))
theorem spec_CrashDevice.mono_l : ∀ k, (∀ y0 y1 y2 y3, LeO (spec_CrashDevice.j0 k y0 y1 y2 y3) (spec_CrashDevice.j0 (k + 1) y0 y1 y2 y3))
 | 0 => fun _ _ _ _ r h => by change none = some r at h; cases h
 | k + 1 => by
  have ih0 := spec_CrashDevice.mono_l k
  ·intro y0 y1 y2 y3
   unfold spec_CrashDevice.j0
   repeat' first
   | (with_reducible exact ih0 _ _ _ _)
   | (with_reducible exact spec_GoodDevice.mono _ _ _)
   | (with_reducible exact spec_l1Done.mono _ _ _)
   | (with_reducible exact spec_l1Kept.mono _ _ _)
   | (with_reducible exact LeO.refl _)
   | (with_reducible exact LeO.none _)
   | (with_reducible refine LeO.ite ?_ ?_)
   | (with_reducible refine LeO.bind ?_ (fun _ => ?_))
   | exact ih0 _ _ _ _
   | exact spec_GoodDevice.mono _ _ _
   | exact spec_l1Done.mono _ _ _
   | exact spec_l1Kept.mono _ _ _
   | exact LeO.none _
   | refine LeO.ite ?_ ?_
   | refine LeO.bind ?_ (fun _ => ?_)
theorem spec_CrashDevice.mono : ∀ a0 a1 a2 k, LeO (spec_CrashDevice.f k a0 a1 a2) (spec_CrashDevice.f (k + 1) a0 a1 a2) := by
 intro a0 a1 a2 k
 have ih0 := spec_CrashDevice.mono_l k
 unfold spec_CrashDevice.f
 repeat' first
   | (with_reducible exact ih0 _ _ _ _)
   | (with_reducible exact spec_GoodDevice.mono _ _ _)
   | (with_reducible exact spec_l1Done.mono _ _ _)
   | (with_reducible exact spec_l1Kept.mono _ _ _)
   | (with_reducible exact LeO.refl _)
   | (with_reducible exact LeO.none _)
   | (with_reducible refine LeO.ite ?_ ?_)
   | (with_reducible refine LeO.bind ?_ (fun _ => ?_))
   | exact ih0 _ _ _ _
   | exact spec_GoodDevice.mono _ _ _
   | exact spec_l1Done.mono _ _ _
   | exact spec_l1Kept.mono _ _ _
   | exact LeO.none _
   | refine LeO.ite ?_ ?_
   | refine LeO.bind ?_ (fun _ => ?_)
def spec_CrashDevice.T3 : Bool × List (List Nat × List Nat) := (true, [([], []), ([0], [0]), ([], []), ([2], [2]), ([], []), ([3, 4], [3, 4]), ([1, 5, 5], [1, 5]), ([6], [6]), ([7, 6, 0, 1, 2, 3, 4, 5, 6, 7], [7]), ([8, 0, 1, 2, 3, 4, 5, 6, 7, 8], [])])
def spec_CrashDevice.B3 : List Nat := [0, 1, 0, 4, 0, 28, 63, 127, 255, 511]
theorem spec_CrashDevice.tab3 : rtab .any (opsOf Try.f30 3) = spec_CrashDevice.T3 := by kernel_rfl
theorem spec_CrashDevice.bits3 : waitsOk spec_CrashDevice.T3.2 spec_CrashDevice.B3 = true := by kernel_rfl
set_option maxHeartbeats 8000000 in
set_option maxRecDepth 100000 in
theorem spec_CrashDevice.calls (k : Nat) (A0_0 : Option Addr) (c0_0 : Nat) (l0_0 : List ByteArray) (A0_1 : Option Addr) (c0_1 : Nat) (l0_1 : List (S42)) (A1 : Option Addr) (c1 : Nat) (l1 : List Bool) (r1 : List ByteArray) (r2 : List (S42)) (r3 : Bool) (w : World) (hr0_0 : Kd.C Kd.string w A0_0 l0_0.length l0_0) (hc0_0 : l0_0.length ≤ c0_0) (hr0_1 : Kd.C k42 w A0_1 l0_1.length l0_1) (hc0_1 : l0_1.length ≤ c0_1) (hr1 : Kd.C Kd.bool w A1 l1.length l1) (hc1 : l1.length ≤ c1) (h : spec_CrashDevice.f k l0_0 l0_1 l1 = some (r1, r2, r3)) :
  Calls Try.prog 30 #[.agg #[.slice A0_0 l0_0.length c0_0, .slice A0_1 l0_1.length c0_1], .slice A1 l1.length c1] w fun e w' => ∃ v0_ v1_ : Value, e = .returned (.tuple #[.agg #[v0_, v1_], .bool r3]) ∧ Kd.R Kd.string 9 w' w.heap.size (fun _ => True) v0_ r1 ∧ Kd.R k42 42 w' w.heap.size (fun _ => True) v1_ r2 ∧ Below w.heap.size w w' := by
 have hu30 := Try.underlying30; have HR0_0 := aM hr0_0; have HC0_0 := aM hc0_0; clear hr0_0 hc0_0; have HR0_1 := aM hr0_1; have HC0_1 := aM hc0_1; clear hr0_1 hc0_1; have HR1 := aM hr1; have HC1 := aM hc1; clear hr1 hc1; have HB := aM (Below.refl w.heap.size w)
 have H : ((spec_GoodDevice.f k l0_0 l0_1).bind fun t178 => (if t178 = true then (spec_CrashDevice.j0 k l1 ((l1.length : Int) != (l0_1.length : Int)) l0_0 l0_1) else (spec_CrashDevice.j0 k l1 true l0_0 l0_1))) = some (r1, r2, r3) := h
 clear h; have HC3 := aM H; clear H
 go_enter Try.func30, Try.ntmps30
 go_upto_region 1 with (first | ((with_reducible refine gate_dst (N := 2) rfl ?_); (try (refine gate_guard (by rfl) ?_; dsimp only)); refine box_event ?hg (N := 2) ?hd (cs := #[.slice A0_0 l0_0.length c0_0, .slice A0_1 l0_1.length c0_1]) (t := 30) ?hr ?_; (case hd => rfl); (case hg => rfl); (case hr => first | (go_simp; done) | (go_simp; rfl)); intro gb176 hg w4 hbox hb; have BK176 := aM (hbox); have GW176 := aM ((by rw [hg]; exact (zZ (zH HB.out)) : w.heap.size ≤ gb176)); have GE176 := aM ((by rw [hg]; exact (zZ (zH HB.out)) : w.heap.size ≤ gb176)); replace HB := aM (zT (zH HB.out) hb); clear hb hbox hg) | ((with_reducible refine gate_dst (N := 4) rfl ?_); (try (refine gate_guard (by rfl) ?_; dsimp only)); refine box_event ?hg (N := 4) ?hd (cs := #[.slice none 0 0, .slice none 0 0]) (t := 30) ?hr ?_; (case hd => rfl); (case hg => rfl); (case hr => first | (go_simp; done) | (go_simp; rfl)); intro gb177 hg w5 hbox hb; have BK177 := aM (hbox); have GW177 := aM ((by rw [hg]; exact (zZ (zH HB.out)) : w.heap.size ≤ gb177)); have GE177 := aM ((by rw [hg]; exact (zZ (zH HB.out)) : w.heap.size ≤ gb177)); replace HB := aM (zT (zH HB.out) hb); have NB176_177 := nL BK176.out hg; have NB177_176 := nR BK176.out hg; replace BK176 := yK BK176.out hb; clear hb hbox hg))
 (try simp only [Act.put, qA, qB, qC])
 go_cut [16] (fun v16 wc => ∃ (kq : Nat) (x16_2 : Bool), v16 = .bool x16_2 ∧ Aside0 (spec_CrashDevice.j0 kq l1 x16_2 l0_0 l0_1 = some (r1, r2, r3)) ∧ Aside0 (kq ≤ k) ∧ Aside0 (wc.heap[gb176]? = some (.cells #[(.slice A0_0 l0_0.length c0_0), (.slice A0_1 l0_1.length c0_1)] 30 (0, 0))) ∧ Aside0 (wc.heap[gb177]? = some (.cells #[(.slice none 0 0), (.slice none 0 0)] 30 (0, 0))) ∧ Aside0 (Below w.heap.size w wc))
 case first =>
  have H := HC3.out; clear HC3; replace H := Option.bind_eq_some_iff.mp H; obtain ⟨t178, A60, H⟩ := H; replace H : (if t178 = true then (spec_CrashDevice.j0 k l1 ((l1.length : Int) != (l0_1.length : Int)) l0_0 l0_1) else (spec_CrashDevice.j0 k l1 true l0_0 l0_1)) = some (r1, r2, r3) := H; have A6 := aM A60; clear A60
  by_cases c7 : t178 = true
  ·subst c7
   have H1 : (spec_CrashDevice.j0 k l1 ((l1.length : Int) != (l0_1.length : Int)) l0_0 l0_1) = some (r1, r2, r3) := by rw [if_pos rfl] at H; exact H
   clear H; have H := H1; clear H1; have H' := aM H; clear H; have hnb8 := NB176_177.out; have hnc8 := NB177_176.out; have hcz9_0 : w5.cell? ⟨gb176, 0, none⟩ = some (.slice A0_0 l0_0.length c0_0) := yc BK176.out 0; have hcz9_1 : w5.cell? ⟨gb176, 1, none⟩ = some (.slice A0_1 l0_1.length c0_1) := yc BK176.out 1; have hfz9_0 := yZ BK176.out 0; have hfz9_1 := yZ BK176.out 1
   go_wp2_with (first | ((with_reducible refine gate_callee (f := 14) rfl ?_); refine goesL_ (some 7) rfl rfl Try.func14 (by kernel_rfl) rfl #[.agg #[.slice A0_0 l0_0.length c0_0, .slice A0_1 l0_1.length c0_1]] rfl mA ?_; (with_reducible refine (spec_GoodDevice.calls k _ _ l0_0 _ _ l0_1 true _ ?side1 ?side2 ?side3 ?side4 A6.out).mono ?_); (case side1 => exact cK HR0_0.out HB.out); (case side2 => exact HC0_0.out); (case side3 => exact cK HR0_1.out HB.out); (case side4 => exact HC0_1.out); rintro e w10 ⟨rfl, hb⟩; refine ⟨_, rfl, ?_⟩; replace BK176 := yK BK176.out hb; replace BK177 := yK BK177.out hb; replace HB := aM (zT (zH HB.out) hb); (try clear hb); have hcz11_0 : w10.cell? ⟨gb176, 0, none⟩ = some (.slice A0_0 l0_0.length c0_0) := yc BK176.out 0; have hcz11_1 : w10.cell? ⟨gb176, 1, none⟩ = some (.slice A0_1 l0_1.length c0_1) := yc BK176.out 1; have hfz11_0 := yZ BK176.out 0; have hfz11_1 := yZ BK176.out 1))
   go_meet
   case rel => exact ⟨_, (((l1.length : Int) != (l0_1.length : Int))), (by first | rfl | (simp; done) | (simp [*]; done)), H', ⟨by first | omega | exact Nat.le_refl _⟩, ⟨yH BK176.out⟩, ⟨yH BK177.out⟩, ⟨zH HB.out⟩⟩
  ·replace c7 := Bool.eq_false_iff.mpr c7
   subst c7
   have H1 : (spec_CrashDevice.j0 k l1 true l0_0 l0_1) = some (r1, r2, r3) := by rw [if_neg (show ¬ (false = true) by decide)] at H; exact H
   clear H; have H := H1; clear H1; have H' := aM H; clear H; have hnb12 := NB176_177.out; have hnc12 := NB177_176.out; have hcz13_0 : w5.cell? ⟨gb176, 0, none⟩ = some (.slice A0_0 l0_0.length c0_0) := yc BK176.out 0; have hcz13_1 : w5.cell? ⟨gb176, 1, none⟩ = some (.slice A0_1 l0_1.length c0_1) := yc BK176.out 1; have hfz13_0 := yZ BK176.out 0; have hfz13_1 := yZ BK176.out 1
   go_wp2_with (first | ((with_reducible refine gate_callee (f := 14) rfl ?_); refine goesL_ (some 7) rfl rfl Try.func14 (by kernel_rfl) rfl #[.agg #[.slice A0_0 l0_0.length c0_0, .slice A0_1 l0_1.length c0_1]] rfl mA ?_; (with_reducible refine (spec_GoodDevice.calls k _ _ l0_0 _ _ l0_1 false _ ?side1 ?side2 ?side3 ?side4 A6.out).mono ?_); (case side1 => exact cK HR0_0.out HB.out); (case side2 => exact HC0_0.out); (case side3 => exact cK HR0_1.out HB.out); (case side4 => exact HC0_1.out); rintro e w14 ⟨rfl, hb⟩; refine ⟨_, rfl, ?_⟩; replace BK176 := yK BK176.out hb; replace BK177 := yK BK177.out hb; replace HB := aM (zT (zH HB.out) hb); (try clear hb)))
   go_meet
   case rel => exact ⟨_, (true), (by first | rfl | (simp; done) | (simp [*]; done)), H', ⟨by first | omega | exact Nat.le_refl _⟩, ⟨yH BK176.out⟩, ⟨yH BK177.out⟩, ⟨zH HB.out⟩⟩
 case rest =>
  clear HC3
  (try clear c1); (try clear c7); (try clear hcz11_0 hcz11_1 hfz11_0 hfz11_1); (try clear hcz13_0 hcz13_1 hfz13_0 hfz13_1); (try clear hcz9_0 hcz9_1 hfz9_0 hfz9_1)
  obtain ⟨kq, x16_2, rfl, HA, HJ2, BK176, BK177, HB⟩ := hcut
  cases kq with
  | zero => exact absurd HA.out (fun h_ => by change none = some _ at h_; cases h_)
  | succ kj2 =>
   have H := HA.out; clear HA
   simp only [spec_CrashDevice.j0] at H
   by_cases c15 : x16_2 = true
   ·subst c15
    have H1 : (some (([] : List ByteArray), ([] : List (S42)), false)) = some (r1, r2, r3) := by rw [if_pos rfl] at H; exact H
    clear H; have H := H1; clear H1
    simp only [Option.some.injEq, Prod.mk.injEq] at H
    obtain ⟨rfl, rfl, rfl⟩ := H; have hnb16 := NB177_176.out; have hnc16 := NB176_177.out; have hcz17_0 : wc.cell? ⟨gb177, 0, none⟩ = some (.slice none 0 0) := yc BK177.out 0; have hcz17_1 : wc.cell? ⟨gb177, 1, none⟩ = some (.slice none 0 0) := yc BK177.out 1; have hfz17_0 := yZ BK177.out 0; have hfz17_1 := yZ BK177.out 1
    go_wp2
    refine bodyPost_ret (results_ct rfl _ _ gb177 30 #[.slice none 0 0, .slice none 0 0] (0, 0) _ rfl (by refine yW ?_; refine yP (cs := #[.slice none 0 0, .slice none 0 0]) ?_ 1 _ rfl; refine yW ?_; refine yP (cs := #[.slice none 0 0, .slice none 0 0]) ?_ 0 _ rfl; refine yW ?_; exact BK177.out) Try.underlying30 rfl (by kernel_rfl)) rfl ?_
    exact ⟨_, _, eW, by first | exact Kd.R_nil _ _ _ _ _ | exact Kd.N_nil _ _ _ _ _ | exact Kd.V_nil _ _ _ _ _ | exact Kd.Q_nil _ _ _ _ _ | exact Kd.S_nil _ _ _ _ _, by first | exact Kd.R_nil _ _ _ _ _ | exact Kd.N_nil _ _ _ _ _ | exact Kd.V_nil _ _ _ _ _ | exact Kd.Q_nil _ _ _ _ _ | exact Kd.S_nil _ _ _ _ _, zH HB.out⟩
   ·replace c15 := Bool.eq_false_iff.mpr c15
    subst c15
    have H1 : ((spec_l1Kept.f kj2 l0_1 l1).bind fun t179 => ((spec_l1Done.f kj2 l0_0 t179).bind fun t182 => (some (t182, ([] : List (S42)), true)))) = some (r1, r2, r3) := by rw [if_neg (show ¬ (false = true) by decide)] at H; exact H
    clear H; have H := H1; clear H1; replace H := Option.bind_eq_some_iff.mp H; obtain ⟨t179, A180, H⟩ := H
    replace H : ((spec_l1Done.f kj2 l0_0 t179).bind fun t182 => (some (t182, ([] : List (S42)), true))) = some (r1, r2, r3) := H
    have A18 := aM A180; clear A180; replace H := Option.bind_eq_some_iff.mp H; obtain ⟨t182, A190, H⟩ := H; replace H : (some (t182, ([] : List (S42)), true)) = some (r1, r2, r3) := H; have A19 := aM A190; clear A190
    simp only [Option.some.injEq, Prod.mk.injEq] at H
    obtain ⟨rfl, rfl, rfl⟩ := H
    try go_wp2
    replace BK176 := aM (yD BK176.out); replace BK177 := aM (yD BK177.out); replace HB := aM (zD HB.out)
    refine start_ (n := 10) (S := fun w' => w'.cell? ⟨gb176, 0, none⟩ = some (.slice A0_0 l0_0.length c0_0) ∧ w'.cell? ⟨gb176, 1, none⟩ = some (.slice A0_1 l0_1.length c0_1)) (ds := []) #[fF,fF,fF,fF,fF,fF,fF,fF,fF,fF] (by kernel_rfl) rfl rfl ⟨yc BK176.out 0, yc BK176.out 1⟩ (fun hHeld => ?_); refine with_tabW spec_CrashDevice.tab3 spec_CrashDevice.bits3 (fun HT_ HW_ => ?_)
    generalize wc.drew = w20 at BK176 BK177 HB hHeld ⊢
    refine pure_ (i := 0) (N := some 18) (v := ?_) (a' := ?_) #[tT,fF,fF,fF,fF,fF,fF,fF,fF,fF] rfl rfl (any_of HT_.out (by kernel_rfl)) (fun _ _ _ h => h) (Or.inl ⟨by rfl, ?_⟩) ?_ ?_
    rotate_left
    ·intro w'
     go_simp
     with_reducible rfl
    rotate_left
    ·simp only [Act.put, qA, qB, qC, i64_w, i32_w]
     rfl
    refine pure_ (i := 2) (N := some 20) (v := ?_) (a' := ?_) #[tT,fF,tT,fF,fF,fF,fF,fF,fF,fF] rfl rfl (any_of HT_.out (by kernel_rfl)) (fun _ _ _ h => h) (Or.inl ⟨by rfl, ?_⟩) ?_ ?_
    rotate_left
    ·intro w'
     go_simp
     with_reducible rfl
    rotate_left
    ·simp only [Act.put, qA, qB, qC, i64_w, i32_w]
     rfl
    refine pure_ (i := 4) (N := some 22) (v := ?_) (a' := ?_) #[tT,fF,tT,fF,tT,fF,fF,fF,fF,fF] rfl rfl (any_of HT_.out (by kernel_rfl)) (fun _ _ _ h => h) (Or.inl ⟨by rfl, ?_⟩) ?_ ?_
    rotate_left
    ·intro w'
     go_simp
     with_reducible rfl
    rotate_left
    ·simp only [Act.put, qA, qB, qC, i64_w, i32_w]
     rfl
    refine take_ (i := 1) (N := some 19) (v := ?_) (a' := ?_) #[tT,tT,tT,fF,tT,fF,fF,fF,fF,fF] rfl rfl (take_ofW HT_.out HW_.out (by kernel_rfl)) (fun _ _ _ h => h) (Or.inl ⟨by rfl, ?_⟩) hHeld ?_ ?_
    rotate_left
    ·rintro w' ⟨s0, s1⟩
     go_simp
     with_reducible rfl
    rotate_left
    ·simp only [Act.put, qA, qB, qC, i64_w, i32_w]
     rfl
    refine take_ (i := 3) (N := some 21) (v := ?_) (a' := ?_) #[tT,tT,tT,tT,tT,fF,fF,fF,fF,fF] rfl rfl (take_ofW HT_.out HW_.out (by kernel_rfl)) (fun _ _ _ h => h) (Or.inl ⟨by rfl, ?_⟩) hHeld ?_ ?_
    rotate_left
    ·rintro w' ⟨s0, s1⟩
     go_simp
     with_reducible rfl
    rotate_left
    ·simp only [Act.put, qA, qB, qC, i64_w, i32_w]
     rfl
    refine one_ (i := 5) (N := some 23) #[tT,tT,tT,tT,tT,tT,fF,fF,fF,fF] rfl rfl (one_of HT_.out (by kernel_rfl)) (by decide) (fun K hK => ?_)
    refine gS Try.func71 (by kernel_rfl) rfl #[.slice A0_1 l0_1.length c0_1, .slice A1 l1.length c1] (by rfl) rfl rfl ?_
    with_reducible refine (spec_l1Kept.calls kj2 _ _ l0_1 _ _ l1 t179 _ ?side1 ?side2 ?side3 ?side4 A18.out).mono ?_
    (case side1 => exact cK HR0_1.out HB.out)
    (case side2 => exact HC0_1.out)
    (case side3 => exact cK HR1.out HB.out)
    (case side4 => exact HC1.out)
    rintro e w21 ⟨v180, rfl, ho0, hb⟩
    refine ⟨_, rfl, ?_⟩
    have HO181 := aM (xL ho0 (zZ (zH HB.out))); replace BK176 := yK BK176.out hb; replace BK177 := yK BK177.out hb; replace HB := aM (zT (zH HB.out) hb)
    (try clear hb); (try clear ho0)
    obtain ⟨Ao22, co22, eo22⟩ := Kd.R_slice HO181.out
    (first | subst eo22 | obtain ⟨rfl, rfl⟩ := eI eo22)
    refine hK.out _ _ ⟨yc BK176.out 0, yc BK176.out 1⟩ (fun hHeld => ?_)
    clear hK K; refine norm_ (a' := ?_) ?_ ?_; rotate_left
    ·show Act.put _ (some 23) _ = _
     simp only [Act.put, qA, qB, qC, i64_w, i32_w]
     rfl
    refine one_ (i := 6) (N := some 24) #[tT,tT,tT,tT,tT,tT,tT,fF,fF,fF] rfl rfl (one_of HT_.out (by kernel_rfl)) (by decide) (fun K hK => ?_)
    refine gS Try.func62 (by kernel_rfl) rfl #[.slice A0_0 l0_0.length c0_0, .slice Ao22 t179.length co22] (by rfl) rfl rfl ?_
    with_reducible refine (spec_l1Done.calls kj2 _ _ l0_0 _ _ t179 t182 _ ?side1 ?side2 ?side3 ?side4 A19.out).mono ?_
    (case side1 => exact cK HR0_0.out HB.out)
    (case side2 => exact HC0_0.out)
    (case side3 => exact cS (Kd.R_reads' HO181.out).2.2)
    (case side4 => exact (Kd.R_reads' HO181.out).2.1)
    rintro e w23 ⟨v183, rfl, ho0, hb⟩
    refine ⟨_, rfl, ?_⟩
    replace HO181 := xK HO181.out hb; have HO184 := aM (xL ho0 (zZ (zH HB.out))); replace BK176 := yK BK176.out hb; replace BK177 := yK BK177.out hb; replace HB := aM (zT (zH HB.out) hb)
    (try clear hb); (try clear ho0)
    obtain ⟨Ao24, co24, eo24⟩ := Kd.R_slice HO184.out
    (first | subst eo24 | obtain ⟨rfl, rfl⟩ := eI eo24)
    refine hK.out _ _ ⟨yc BK176.out 0, yc BK176.out 1⟩ (fun hHeld => ?_)
    clear hK K; refine norm_ (a' := ?_) ?_ ?_; rotate_left
    ·show Act.put _ (some 24) _ = _
     simp only [Act.put, qA, qB, qC, i64_w, i32_w]
     rfl
    refine pure_ (i := 7) (N := some 25) (v := ?_) (a' := ?_) #[tT,tT,tT,tT,tT,tT,tT,tT,fF,fF] rfl rfl (any_of HT_.out (by kernel_rfl)) (fun _ _ _ h => h) (Or.inl ⟨by rfl, ?_⟩) ?_ ?_
    rotate_left
    ·intro w'
     go_simp
     with_reducible rfl
    rotate_left
    ·simp only [Act.put, qA, qB, qC, i64_w, i32_w]
     rfl
    refine one_ (i := 8) (N := none) #[tT,tT,tT,tT,tT,tT,tT,tT,tT,fF] rfl rfl (one_of HT_.out (by kernel_rfl)) (by decide) (fun K hK => ?_)
    have hs25 : w23.cell? ⟨gb177, 0, none⟩ = some (.slice none 0 0) := yc BK177.out 0; have hfs25 := yZ BK177.out 0; have hns25_0 := NB176_177.out; have hms25_0 := NB177_176.out; have hs26 : w23.cell? ⟨gb177, 1, none⟩ = some (.slice none 0 0) := yc BK177.out 1; have hfs26 := yZ BK177.out 1; have hns26_0 := NB176_177.out; have hms26_0 := NB177_176.out
    refine skip_ (w1 := ?_) (by rfl) rfl ?_ ?_
    rotate_left
    ·go_simp
     rfl
    refine hK.out _ _ ⟨((cell_far (p := ⟨gb177, _, none⟩) NB176_177.out _).trans (((cell_far (p := ⟨gb177, _, none⟩) NB176_177.out _).trans (hHeld.1)))), ((cell_far (p := ⟨gb177, _, none⟩) NB176_177.out _).trans (((cell_far (p := ⟨gb177, _, none⟩) NB176_177.out _).trans (hHeld.2))))⟩ (fun hHeld => ?_)
    clear hK K
    refine pure_ (i := 9) (N := some 5) (v := ?_) (a' := ?_) #[tT,tT,tT,tT,tT,tT,tT,tT,tT,tT] rfl rfl (any_of HT_.out (by kernel_rfl)) (fun _ _ _ h => h) (Or.inl ⟨by rfl, ?_⟩) ?_ ?_
    rotate_left
    ·intro w'
     go_simp
     with_reducible rfl
    rotate_left
    ·simp only [Act.put, qA, qB, qC, i64_w, i32_w]
     rfl
    refine done_ (done_of HT_.out (by kernel_rfl)) ?_
    try go_wp2
    refine bodyPost_ret (results_ct rfl _ _ gb177 30 #[.slice Ao24 t182.length co24, .slice none 0 0] (0, 0) _ rfl (by refine yW ?_; refine yP (cs := #[.slice Ao24 t182.length co24, .slice none 0 0]) ?_ 1 _ rfl; refine yW ?_; refine yP (cs := #[.slice none 0 0, .slice none 0 0]) ?_ 0 _ rfl; refine yW ?_; exact BK177.out) Try.underlying30 rfl (by kernel_rfl)) rfl ?_
    exact ⟨_, _, eW, xH (xM (xF (p := ⟨gb177, 1, none⟩) (xF (p := ⟨gb177, 0, none⟩) (xT HO184.out BK177.out (by decide)) (fun _ hk => hk.2) (.slice Ao24 t182.length co24)) (fun _ hk => hk.2) (.slice none 0 0)) (fun _ hk => trivial)), by first | exact Kd.R_nil _ _ _ _ _ | exact Kd.N_nil _ _ _ _ _ | exact Kd.V_nil _ _ _ _ _ | exact Kd.Q_nil _ _ _ _ _ | exact Kd.S_nil _ _ _ _ _, zH HB.out⟩

/-! ### impl_CrashDevice: function 32 (by hand) -/
set_option maxHeartbeats 400000 in
theorem impl_CrashDevice.clo (i : Nat) (A1 : Option Addr) (c1 : Nat) (l1 : List Bool) (g : Nat) (W : World) (hg : W.heap[g]? = some (.cells #[.slice A1 l1.length c1] 47 (0, 0))) (hr : Kd.C Kd.bool W A1 l1.length l1) (hi : i < l1.length) :
  Calls Try.prog 72 (#[.int .i64 (i : Int)] ++ #[.pointer (some ⟨g, 0, none⟩)]) W fun e w' => e = .returned (.bool (rdOf false l1 (i : Int))) ∧ Below W.heap.size W w' := by
 show Calls Try.prog 72 #[.int .i64 (i : Int), .pointer (some ⟨g, 0, none⟩)] W _
 have p1 : 0 ≤ (i : Int) := by omega
 have q1 : (i : Int) < (l1.length : Int) := by omega
 obtain ⟨ad1, e1, hx1⟩ := Kd.at_bool hr (i : Int) p1 q1
 subst e1
 have hc : W.cell? ⟨g, 0, none⟩ = some (.slice (some ad1) l1.length c1) := (yC hg 0).trans rfl
 generalize rdOf false l1 (i : Int) = b at hx1 ⊢
 (try rw [Int.toNat_natCast] at hx1)
 clear hg hr
 go_enter Try.func72, Try.ntmps72
 go_wp2
 go_ret
 exact ⟨rfl, by repeat (first | exact Below.refl _ _ | apply zD | apply zN)⟩
def impl_CrashDevice.f (l0_0 : List ByteArray) (l0_1 : List (S42)) (l1 : List Bool) : Option (List ByteArray × (List (S42)) × Bool) :=
 if goodD l0_0 l0_1 = true then (if l1.length = l0_1.length then ((slices_Clone_string_string.f l0_0).bind fun t0 => (perfL (rdOf false l1) l0_1 0 t0).bind fun t1 => some (t1, ([] : List S42), true)) else some (([] : List ByteArray), ([] : List S42), false)) else some (([] : List ByteArray), ([] : List S42), false)
set_option maxHeartbeats 2000000 in
set_option maxRecDepth 100000 in
theorem impl_CrashDevice.calls (A0_0 : Option Addr) (c0_0 : Nat) (l0_0 : List ByteArray) (A0_1 : Option Addr) (c0_1 : Nat) (l0_1 : List (S42)) (A1 : Option Addr) (c1 : Nat) (l1 : List Bool) (r1 : List ByteArray) (r2 : List (S42)) (r3 : Bool) (w : World) (hr0_0 : Kd.C Kd.string w A0_0 l0_0.length l0_0) (hc0_0 : l0_0.length ≤ c0_0) (hr0_1 : Kd.C k42 w A0_1 l0_1.length l0_1) (hc0_1 : l0_1.length ≤ c0_1) (hr1 : Kd.C Kd.bool w A1 l1.length l1) (hc1 : l1.length ≤ c1) (h : impl_CrashDevice.f l0_0 l0_1 l1 = some (r1, r2, r3)) :
  Calls Try.prog 32 #[.agg #[.slice A0_0 l0_0.length c0_0, .slice A0_1 l0_1.length c0_1], .slice A1 l1.length c1] w fun e w' => ∃ v0_ v1_ : Value, e = .returned (.tuple #[.agg #[v0_, v1_], .bool r3]) ∧ Kd.R Kd.string 9 w' w.heap.size (fun _ => True) v0_ r1 ∧ Kd.R k42 42 w' w.heap.size (fun _ => True) v1_ r2 ∧ Below w.heap.size w w' := by
 unfold impl_CrashDevice.f at h
 have hl0 := hr0_1.2.1; have hl1 := hr1.2.1; have HR1 := aM hr1; clear hr1 hc1; have HR0_0 := aM hr0_0; have HC0_0 := aM hc0_0; have HR0_1 := aM hr0_1; have HC0_1 := aM hc0_1; clear hr0_0 hc0_0 hr0_1 hc0_1; have HB := aM (Below.refl w.heap.size w)
 by_cases hg : goodD l0_0 l0_1 = true
 ·rw [if_pos hg] at h
  have HG : Aside0 (impl_GoodDevice.f l0_0 l0_1 = some true) := ⟨by rw [← hg]; rfl⟩
  clear hg
  by_cases hn : l1.length = l0_1.length
  ·rw [if_pos hn] at h
   obtain ⟨t0, hL, h⟩ := Option.bind_eq_some_iff.mp h; obtain rfl : l0_0 = t0 := (clone_eq hL).symm; obtain ⟨t1, hP, h⟩ := Option.bind_eq_some_iff.mp h
   simp only [Option.some.injEq, Prod.mk.injEq] at h
   obtain ⟨rfl, rfl, rfl⟩ := h; have HL := aM hL; have HP := aM hP; have LEN := aM hn
   have dn : (l1.length != l0_1.length) = false := by rw [hn]; simp
   have dn2 : (((l1.length : Int)) != (l0_1.length : Int)) = false := by rw [hn]; simp
   clear hL hP hn
   go_enter Try.func32, Try.ntmps32
   go_wp2_with (first | ((with_reducible refine gate_dst (N := 2) rfl ?_); refine box_event ?hg (N := 2) ?hd (cs := #[.slice A0_0 l0_0.length c0_0, .slice A0_1 l0_1.length c0_1]) (t := 30) ?hr ?_; (case hd => rfl); (case hg => rfl); (case hr => first | (go_simp; done) | (go_simp; rfl)); intro gb1 hg w_2 hbox hb; have n_HB := aM (zT (zH HB.out) hb); have n_GE := aM ((by rw [hg]; exact (zZ (zH HB.out))) : w.heap.size ≤ gb1); clear HB; have HB := n_HB; clear n_HB; have BKgb1 := aM hbox; have GEgb1 := n_GE; clear n_GE; have hcq3_0 : w_2.cell? ⟨gb1, 0, none⟩ = some (.slice A0_0 l0_0.length c0_0) := yc BKgb1.out 0; have hfq3_0 := yZ BKgb1.out 0; have hcq3_1 : w_2.cell? ⟨gb1, 1, none⟩ = some (.slice A0_1 l0_1.length c0_1) := yc BKgb1.out 1; have hfq3_1 := yZ BKgb1.out 1; clear hbox hb hg) | ((with_reducible refine gate_dst (N := 3) rfl ?_); refine box_event ?hg (N := 3) ?hd (cs := #[.slice A1 l1.length c1]) (t := 47) ?hr ?_; (case hd => rfl); (case hg => rfl); (case hr => first | (go_simp; done) | (go_simp; rfl)); intro gb4 hg w_5 hbox hb; have n_BKgb1 := aM (yB (g := gb1) (o := (.cells #[.slice A0_0 l0_0.length c0_0, .slice A0_1 l0_1.length c0_1] 30 (0, 0))) (yH BKgb1.out) hb); have n_HB := aM (zT (zH HB.out) hb); have n_GE := aM ((by rw [hg]; exact (zZ (zH HB.out))) : w.heap.size ≤ gb4); have n_NAgb1 := aM ((by rw [hg]; exact Nat.ne_of_lt (blk_lt (g := gb1) (o := (.cells #[.slice A0_0 l0_0.length c0_0, .slice A0_1 l0_1.length c0_1] 30 (0, 0))) (yH BKgb1.out))) : gb1 ≠ gb4); clear BKgb1 HB; have BKgb1 := n_BKgb1; have HB := n_HB; clear n_BKgb1 n_HB; have BKgb4 := aM hbox; have GEgb4 := n_GE; clear n_GE; have hnegb1_gb4 := n_NAgb1.out; have hnfgb1_gb4 : gb4 ≠ gb1 := fun h => n_NAgb1.out h.symm; clear n_NAgb1; have hcq6_0 : w_5.cell? ⟨gb1, 0, none⟩ = some (.slice A0_0 l0_0.length c0_0) := yc BKgb1.out 0; have hfq6_0 := yZ BKgb1.out 0; have hcq6_1 : w_5.cell? ⟨gb1, 1, none⟩ = some (.slice A0_1 l0_1.length c0_1) := yc BKgb1.out 1; have hfq6_1 := yZ BKgb1.out 1; have hcq7_0 : w_5.cell? ⟨gb4, 0, none⟩ = some (.slice A1 l1.length c1) := yc BKgb4.out 0; have hfq7_0 := yZ BKgb4.out 0; clear hbox hb hg) | ((with_reducible refine gate_dst (N := 4) rfl ?_); refine box_event ?hg (N := 4) ?hd (cs := #[.slice none 0 0, .slice none 0 0]) (t := 30) ?hr ?_; (case hd => rfl); (case hg => rfl); (case hr => first | (go_simp; done) | (go_simp; rfl)); intro gb8 hg w_9 hbox hb; have n_BKgb1 := aM (yB (g := gb1) (o := (.cells #[.slice A0_0 l0_0.length c0_0, .slice A0_1 l0_1.length c0_1] 30 (0, 0))) (yH BKgb1.out) hb); have n_BKgb4 := aM (yB (g := gb4) (o := (.cells #[.slice A1 l1.length c1] 47 (0, 0))) (yH BKgb4.out) hb); have n_HB := aM (zT (zH HB.out) hb); have n_GE := aM ((by rw [hg]; exact (zZ (zH HB.out))) : w.heap.size ≤ gb8); have n_NAgb1 := aM ((by rw [hg]; exact Nat.ne_of_lt (blk_lt (g := gb1) (o := (.cells #[.slice A0_0 l0_0.length c0_0, .slice A0_1 l0_1.length c0_1] 30 (0, 0))) (yH BKgb1.out))) : gb1 ≠ gb8); have n_NAgb4 := aM ((by rw [hg]; exact Nat.ne_of_lt (blk_lt (g := gb4) (o := (.cells #[.slice A1 l1.length c1] 47 (0, 0))) (yH BKgb4.out))) : gb4 ≠ gb8); clear BKgb1 BKgb4 HB; have BKgb1 := n_BKgb1; have BKgb4 := n_BKgb4; have HB := n_HB; clear n_BKgb1 n_BKgb4 n_HB; have BKgb8 := aM hbox; have GEgb8 := n_GE; clear n_GE; have hnegb1_gb8 := n_NAgb1.out; have hnfgb1_gb8 : gb8 ≠ gb1 := fun h => n_NAgb1.out h.symm; clear n_NAgb1; have hnegb4_gb8 := n_NAgb4.out; have hnfgb4_gb8 : gb8 ≠ gb4 := fun h => n_NAgb4.out h.symm; clear n_NAgb4; have hcq10_0 : w_9.cell? ⟨gb1, 0, none⟩ = some (.slice A0_0 l0_0.length c0_0) := yc BKgb1.out 0; have hfq10_0 := yZ BKgb1.out 0; have hcq10_1 : w_9.cell? ⟨gb1, 1, none⟩ = some (.slice A0_1 l0_1.length c0_1) := yc BKgb1.out 1; have hfq10_1 := yZ BKgb1.out 1; have hcq11_0 : w_9.cell? ⟨gb4, 0, none⟩ = some (.slice A1 l1.length c1) := yc BKgb4.out 0; have hfq11_0 := yZ BKgb4.out 0; have hcq12_0 : w_9.cell? ⟨gb8, 0, none⟩ = some (.slice none 0 0) := yc BKgb8.out 0; have hfq12_0 := yZ BKgb8.out 0; have hcq12_1 : w_9.cell? ⟨gb8, 1, none⟩ = some (.slice none 0 0) := yc BKgb8.out 1; have hfq12_1 := yZ BKgb8.out 1; clear hbox hb hg) | (go_at_call 16; go_loud (refine (impl_GoodDevice.calls _ c0_0 l0_0 _ c0_1 l0_1 _ _ ?s1 HC0_0.out ?s2 HC0_1.out HG.out).mono ?_); (case s1 => exact (cB HR0_0.out (zH HB.out))); (case s2 => exact (cB HR0_1.out (zH HB.out))); rintro e w_13 ⟨rfl, hb⟩; have n_BKgb1 := aM (yB (g := gb1) (o := (.cells #[.slice A0_0 l0_0.length c0_0, .slice A0_1 l0_1.length c0_1] 30 (0, 0))) (yH BKgb1.out) hb); have n_BKgb4 := aM (yB (g := gb4) (o := (.cells #[.slice A1 l1.length c1] 47 (0, 0))) (yH BKgb4.out) hb); have n_BKgb8 := aM (yB (g := gb8) (o := (.cells #[.slice none 0 0, .slice none 0 0] 30 (0, 0))) (yH BKgb8.out) hb); have n_HB := aM (zT (zH HB.out) hb); clear BKgb1 BKgb4 BKgb8 HB; have BKgb1 := n_BKgb1; have BKgb4 := n_BKgb4; have BKgb8 := n_BKgb8; have HB := n_HB; clear n_BKgb1 n_BKgb4 n_BKgb8 n_HB; clear hb; have hcq14_0 : w_13.cell? ⟨gb1, 0, none⟩ = some (.slice A0_0 l0_0.length c0_0) := yc BKgb1.out 0; have hfq14_0 := yZ BKgb1.out 0; have hcq14_1 : w_13.cell? ⟨gb1, 1, none⟩ = some (.slice A0_1 l0_1.length c0_1) := yc BKgb1.out 1; have hfq14_1 := yZ BKgb1.out 1; have hcq15_0 : w_13.cell? ⟨gb4, 0, none⟩ = some (.slice A1 l1.length c1) := yc BKgb4.out 0; have hfq15_0 := yZ BKgb4.out 0; have hcq16_0 : w_13.cell? ⟨gb8, 0, none⟩ = some (.slice none 0 0) := yc BKgb8.out 0; have hfq16_0 := yZ BKgb8.out 0; have hcq16_1 : w_13.cell? ⟨gb8, 1, none⟩ = some (.slice none 0 0) := yc BKgb8.out 1; have hfq16_1 := yZ BKgb8.out 1) | (go_at_call 63; go_loud (refine (performed_any 72 #[.pointer (some ⟨gb4, 0, none⟩)] _ _ _ c0_0 c0_1 l0_0 l0_1 _ _ ?s1 HC0_0.out ?s2 HL.out (enters_of Try.func72 (by kernel_rfl) rfl) ?s3 HP.out).mono ?_); (case s1 => exact (cB HR0_0.out (zH HB.out))); (case s2 => exact (cB HR0_1.out (zH HB.out))); (case s3 => exact fun i W hi hW => impl_CrashDevice.clo i _ c1 l1 gb4 W (yB (g := gb4) (o := (.cells #[.slice A1 l1.length c1] 47 (0, 0))) (yH BKgb4.out) hW) (cB HR1.out (below_then (zH HB.out) (zZ (zH HB.out)) hW)) (by have := LEN.out; omega)); rintro e w_17 ⟨v18, rfl, ho19, hb⟩; have n_BKgb1 := aM (yB (g := gb1) (o := (.cells #[.slice A0_0 l0_0.length c0_0, .slice A0_1 l0_1.length c0_1] 30 (0, 0))) (yH BKgb1.out) hb); have n_BKgb4 := aM (yB (g := gb4) (o := (.cells #[.slice A1 l1.length c1] 47 (0, 0))) (yH BKgb4.out) hb); have n_BKgb8 := aM (yB (g := gb8) (o := (.cells #[.slice none 0 0, .slice none 0 0] 30 (0, 0))) (yH BKgb8.out) hb); have n_HB := aM (zT (zH HB.out) hb); have n_HOho19 := aM (xL ho19 (zZ (zH HB.out))); clear BKgb1 BKgb4 BKgb8 HB; have BKgb1 := n_BKgb1; have BKgb4 := n_BKgb4; have BKgb8 := n_BKgb8; have HB := n_HB; clear n_BKgb1 n_BKgb4 n_BKgb8 n_HB; have HOho19 := n_HOho19; clear n_HOho19 ho19; clear hb; obtain ⟨Aov18, cov18, eov18⟩ := Kd.R_slice HOho19.out; subst eov18; have hcq20_0 : w_17.cell? ⟨gb1, 0, none⟩ = some (.slice A0_0 l0_0.length c0_0) := yc BKgb1.out 0; have hfq20_0 := yZ BKgb1.out 0; have hcq20_1 : w_17.cell? ⟨gb1, 1, none⟩ = some (.slice A0_1 l0_1.length c0_1) := yc BKgb1.out 1; have hfq20_1 := yZ BKgb1.out 1; have hcq21_0 : w_17.cell? ⟨gb4, 0, none⟩ = some (.slice A1 l1.length c1) := yc BKgb4.out 0; have hfq21_0 := yZ BKgb4.out 0; have hcq22_0 : w_17.cell? ⟨gb8, 0, none⟩ = some (.slice none 0 0) := yc BKgb8.out 0; have hfq22_0 := yZ BKgb8.out 0; have hcq22_1 : w_17.cell? ⟨gb8, 1, none⟩ = some (.slice none 0 0) := yc BKgb8.out 1; have hfq22_1 := yZ BKgb8.out 1))
   refine bodyPost_ret (results_ct rfl _ _ gb8 30 #[.slice Aov18 (t1).length cov18, .slice none 0 0] (0, 0) _ rfl (by refine yW ?_; refine yP (cs := #[.slice Aov18 (t1).length cov18, .slice none 0 0]) ?_ 1 _ rfl; refine yW ?_; refine yP (cs := #[.slice none 0 0, .slice none 0 0]) ?_ 0 _ rfl; refine yW ?_; exact BKgb8.out) Try.underlying30 rfl (by kernel_rfl)) rfl ?_
   exact ⟨_, _, rfl, xH (xM (xF (p := ⟨gb8, 1, none⟩) (xF (p := ⟨gb8, 0, none⟩) (xT HOho19.out BKgb8.out (by decide)) (fun _ hk => hk.2) (.slice Aov18 (t1).length cov18)) (fun _ hk => hk.2) (.slice none 0 0)) (fun _ hk => trivial)), Kd.R_nil _ _ _ _ _, zH HB.out⟩
  ·rw [if_neg hn] at h
   simp only [Option.some.injEq, Prod.mk.injEq] at h
   obtain ⟨rfl, rfl, rfl⟩ := h
   have dn : (l1.length != l0_1.length) = true := by simpa using hn
   have dn2 : (((l1.length : Int)) != (l0_1.length : Int)) = true := by simp; omega
   clear hn
   go_enter Try.func32, Try.ntmps32
   go_wp2_with (first | ((with_reducible refine gate_dst (N := 2) rfl ?_); refine box_event ?hg (N := 2) ?hd (cs := #[.slice A0_0 l0_0.length c0_0, .slice A0_1 l0_1.length c0_1]) (t := 30) ?hr ?_; (case hd => rfl); (case hg => rfl); (case hr => first | (go_simp; done) | (go_simp; rfl)); intro gb1 hg w_2 hbox hb; have n_HB := aM (zT (zH HB.out) hb); have n_GE := aM ((by rw [hg]; exact (zZ (zH HB.out))) : w.heap.size ≤ gb1); clear HB; have HB := n_HB; clear n_HB; have BKgb1 := aM hbox; have GEgb1 := n_GE; clear n_GE; have hcq3_0 : w_2.cell? ⟨gb1, 0, none⟩ = some (.slice A0_0 l0_0.length c0_0) := yc BKgb1.out 0; have hfq3_0 := yZ BKgb1.out 0; have hcq3_1 : w_2.cell? ⟨gb1, 1, none⟩ = some (.slice A0_1 l0_1.length c0_1) := yc BKgb1.out 1; have hfq3_1 := yZ BKgb1.out 1; clear hbox hb hg) | ((with_reducible refine gate_dst (N := 3) rfl ?_); refine box_event ?hg (N := 3) ?hd (cs := #[.slice A1 l1.length c1]) (t := 47) ?hr ?_; (case hd => rfl); (case hg => rfl); (case hr => first | (go_simp; done) | (go_simp; rfl)); intro gb4 hg w_5 hbox hb; have n_BKgb1 := aM (yB (g := gb1) (o := (.cells #[.slice A0_0 l0_0.length c0_0, .slice A0_1 l0_1.length c0_1] 30 (0, 0))) (yH BKgb1.out) hb); have n_HB := aM (zT (zH HB.out) hb); have n_GE := aM ((by rw [hg]; exact (zZ (zH HB.out))) : w.heap.size ≤ gb4); have n_NAgb1 := aM ((by rw [hg]; exact Nat.ne_of_lt (blk_lt (g := gb1) (o := (.cells #[.slice A0_0 l0_0.length c0_0, .slice A0_1 l0_1.length c0_1] 30 (0, 0))) (yH BKgb1.out))) : gb1 ≠ gb4); clear BKgb1 HB; have BKgb1 := n_BKgb1; have HB := n_HB; clear n_BKgb1 n_HB; have BKgb4 := aM hbox; have GEgb4 := n_GE; clear n_GE; have hnegb1_gb4 := n_NAgb1.out; have hnfgb1_gb4 : gb4 ≠ gb1 := fun h => n_NAgb1.out h.symm; clear n_NAgb1; have hcq6_0 : w_5.cell? ⟨gb1, 0, none⟩ = some (.slice A0_0 l0_0.length c0_0) := yc BKgb1.out 0; have hfq6_0 := yZ BKgb1.out 0; have hcq6_1 : w_5.cell? ⟨gb1, 1, none⟩ = some (.slice A0_1 l0_1.length c0_1) := yc BKgb1.out 1; have hfq6_1 := yZ BKgb1.out 1; have hcq7_0 : w_5.cell? ⟨gb4, 0, none⟩ = some (.slice A1 l1.length c1) := yc BKgb4.out 0; have hfq7_0 := yZ BKgb4.out 0; clear hbox hb hg) | ((with_reducible refine gate_dst (N := 4) rfl ?_); refine box_event ?hg (N := 4) ?hd (cs := #[.slice none 0 0, .slice none 0 0]) (t := 30) ?hr ?_; (case hd => rfl); (case hg => rfl); (case hr => first | (go_simp; done) | (go_simp; rfl)); intro gb8 hg w_9 hbox hb; have n_BKgb1 := aM (yB (g := gb1) (o := (.cells #[.slice A0_0 l0_0.length c0_0, .slice A0_1 l0_1.length c0_1] 30 (0, 0))) (yH BKgb1.out) hb); have n_BKgb4 := aM (yB (g := gb4) (o := (.cells #[.slice A1 l1.length c1] 47 (0, 0))) (yH BKgb4.out) hb); have n_HB := aM (zT (zH HB.out) hb); have n_GE := aM ((by rw [hg]; exact (zZ (zH HB.out))) : w.heap.size ≤ gb8); have n_NAgb1 := aM ((by rw [hg]; exact Nat.ne_of_lt (blk_lt (g := gb1) (o := (.cells #[.slice A0_0 l0_0.length c0_0, .slice A0_1 l0_1.length c0_1] 30 (0, 0))) (yH BKgb1.out))) : gb1 ≠ gb8); have n_NAgb4 := aM ((by rw [hg]; exact Nat.ne_of_lt (blk_lt (g := gb4) (o := (.cells #[.slice A1 l1.length c1] 47 (0, 0))) (yH BKgb4.out))) : gb4 ≠ gb8); clear BKgb1 BKgb4 HB; have BKgb1 := n_BKgb1; have BKgb4 := n_BKgb4; have HB := n_HB; clear n_BKgb1 n_BKgb4 n_HB; have BKgb8 := aM hbox; have GEgb8 := n_GE; clear n_GE; have hnegb1_gb8 := n_NAgb1.out; have hnfgb1_gb8 : gb8 ≠ gb1 := fun h => n_NAgb1.out h.symm; clear n_NAgb1; have hnegb4_gb8 := n_NAgb4.out; have hnfgb4_gb8 : gb8 ≠ gb4 := fun h => n_NAgb4.out h.symm; clear n_NAgb4; have hcq10_0 : w_9.cell? ⟨gb1, 0, none⟩ = some (.slice A0_0 l0_0.length c0_0) := yc BKgb1.out 0; have hfq10_0 := yZ BKgb1.out 0; have hcq10_1 : w_9.cell? ⟨gb1, 1, none⟩ = some (.slice A0_1 l0_1.length c0_1) := yc BKgb1.out 1; have hfq10_1 := yZ BKgb1.out 1; have hcq11_0 : w_9.cell? ⟨gb4, 0, none⟩ = some (.slice A1 l1.length c1) := yc BKgb4.out 0; have hfq11_0 := yZ BKgb4.out 0; have hcq12_0 : w_9.cell? ⟨gb8, 0, none⟩ = some (.slice none 0 0) := yc BKgb8.out 0; have hfq12_0 := yZ BKgb8.out 0; have hcq12_1 : w_9.cell? ⟨gb8, 1, none⟩ = some (.slice none 0 0) := yc BKgb8.out 1; have hfq12_1 := yZ BKgb8.out 1; clear hbox hb hg) | (go_at_call 16; go_loud (refine (impl_GoodDevice.calls _ c0_0 l0_0 _ c0_1 l0_1 _ _ ?s1 HC0_0.out ?s2 HC0_1.out HG.out).mono ?_); (case s1 => exact (cB HR0_0.out (zH HB.out))); (case s2 => exact (cB HR0_1.out (zH HB.out))); rintro e w_13 ⟨rfl, hb⟩; have n_BKgb1 := aM (yB (g := gb1) (o := (.cells #[.slice A0_0 l0_0.length c0_0, .slice A0_1 l0_1.length c0_1] 30 (0, 0))) (yH BKgb1.out) hb); have n_BKgb4 := aM (yB (g := gb4) (o := (.cells #[.slice A1 l1.length c1] 47 (0, 0))) (yH BKgb4.out) hb); have n_BKgb8 := aM (yB (g := gb8) (o := (.cells #[.slice none 0 0, .slice none 0 0] 30 (0, 0))) (yH BKgb8.out) hb); have n_HB := aM (zT (zH HB.out) hb); clear BKgb1 BKgb4 BKgb8 HB; have BKgb1 := n_BKgb1; have BKgb4 := n_BKgb4; have BKgb8 := n_BKgb8; have HB := n_HB; clear n_BKgb1 n_BKgb4 n_BKgb8 n_HB; clear hb; have hcq14_0 : w_13.cell? ⟨gb1, 0, none⟩ = some (.slice A0_0 l0_0.length c0_0) := yc BKgb1.out 0; have hfq14_0 := yZ BKgb1.out 0; have hcq14_1 : w_13.cell? ⟨gb1, 1, none⟩ = some (.slice A0_1 l0_1.length c0_1) := yc BKgb1.out 1; have hfq14_1 := yZ BKgb1.out 1; have hcq15_0 : w_13.cell? ⟨gb4, 0, none⟩ = some (.slice A1 l1.length c1) := yc BKgb4.out 0; have hfq15_0 := yZ BKgb4.out 0; have hcq16_0 : w_13.cell? ⟨gb8, 0, none⟩ = some (.slice none 0 0) := yc BKgb8.out 0; have hfq16_0 := yZ BKgb8.out 0; have hcq16_1 : w_13.cell? ⟨gb8, 1, none⟩ = some (.slice none 0 0) := yc BKgb8.out 1; have hfq16_1 := yZ BKgb8.out 1))
   refine bodyPost_ret (results_ct rfl _ _ gb8 30 #[.slice none 0 0, .slice none 0 0] (0, 0) _ rfl (by refine yW ?_; refine yP (cs := #[.slice none 0 0, .slice none 0 0]) ?_ 1 _ rfl; refine yW ?_; refine yP (cs := #[.slice none 0 0, .slice none 0 0]) ?_ 0 _ rfl; refine yW ?_; exact BKgb8.out) Try.underlying30 rfl (by kernel_rfl)) rfl ?_
   exact ⟨_, _, rfl, Kd.R_nil _ _ _ _ _, Kd.R_nil _ _ _ _ _, zH HB.out⟩
 ·rw [if_neg hg] at h
  simp only [Option.some.injEq, Prod.mk.injEq] at h
  obtain ⟨rfl, rfl, rfl⟩ := h
  have hg' : goodD l0_0 l0_1 = false := by simpa using hg
  have HG : Aside0 (impl_GoodDevice.f l0_0 l0_1 = some false) := ⟨by rw [← hg']; rfl⟩
  clear hg hg'
  go_enter Try.func32, Try.ntmps32
  go_wp2_with (first | ((with_reducible refine gate_dst (N := 2) rfl ?_); refine box_event ?hg (N := 2) ?hd (cs := #[.slice A0_0 l0_0.length c0_0, .slice A0_1 l0_1.length c0_1]) (t := 30) ?hr ?_; (case hd => rfl); (case hg => rfl); (case hr => first | (go_simp; done) | (go_simp; rfl)); intro gb1 hg w_2 hbox hb; have n_HB := aM (zT (zH HB.out) hb); have n_GE := aM ((by rw [hg]; exact (zZ (zH HB.out))) : w.heap.size ≤ gb1); clear HB; have HB := n_HB; clear n_HB; have BKgb1 := aM hbox; have GEgb1 := n_GE; clear n_GE; have hcq3_0 : w_2.cell? ⟨gb1, 0, none⟩ = some (.slice A0_0 l0_0.length c0_0) := yc BKgb1.out 0; have hfq3_0 := yZ BKgb1.out 0; have hcq3_1 : w_2.cell? ⟨gb1, 1, none⟩ = some (.slice A0_1 l0_1.length c0_1) := yc BKgb1.out 1; have hfq3_1 := yZ BKgb1.out 1; clear hbox hb hg) | ((with_reducible refine gate_dst (N := 3) rfl ?_); refine box_event ?hg (N := 3) ?hd (cs := #[.slice A1 l1.length c1]) (t := 47) ?hr ?_; (case hd => rfl); (case hg => rfl); (case hr => first | (go_simp; done) | (go_simp; rfl)); intro gb4 hg w_5 hbox hb; have n_BKgb1 := aM (yB (g := gb1) (o := (.cells #[.slice A0_0 l0_0.length c0_0, .slice A0_1 l0_1.length c0_1] 30 (0, 0))) (yH BKgb1.out) hb); have n_HB := aM (zT (zH HB.out) hb); have n_GE := aM ((by rw [hg]; exact (zZ (zH HB.out))) : w.heap.size ≤ gb4); have n_NAgb1 := aM ((by rw [hg]; exact Nat.ne_of_lt (blk_lt (g := gb1) (o := (.cells #[.slice A0_0 l0_0.length c0_0, .slice A0_1 l0_1.length c0_1] 30 (0, 0))) (yH BKgb1.out))) : gb1 ≠ gb4); clear BKgb1 HB; have BKgb1 := n_BKgb1; have HB := n_HB; clear n_BKgb1 n_HB; have BKgb4 := aM hbox; have GEgb4 := n_GE; clear n_GE; have hnegb1_gb4 := n_NAgb1.out; have hnfgb1_gb4 : gb4 ≠ gb1 := fun h => n_NAgb1.out h.symm; clear n_NAgb1; have hcq6_0 : w_5.cell? ⟨gb1, 0, none⟩ = some (.slice A0_0 l0_0.length c0_0) := yc BKgb1.out 0; have hfq6_0 := yZ BKgb1.out 0; have hcq6_1 : w_5.cell? ⟨gb1, 1, none⟩ = some (.slice A0_1 l0_1.length c0_1) := yc BKgb1.out 1; have hfq6_1 := yZ BKgb1.out 1; have hcq7_0 : w_5.cell? ⟨gb4, 0, none⟩ = some (.slice A1 l1.length c1) := yc BKgb4.out 0; have hfq7_0 := yZ BKgb4.out 0; clear hbox hb hg) | ((with_reducible refine gate_dst (N := 4) rfl ?_); refine box_event ?hg (N := 4) ?hd (cs := #[.slice none 0 0, .slice none 0 0]) (t := 30) ?hr ?_; (case hd => rfl); (case hg => rfl); (case hr => first | (go_simp; done) | (go_simp; rfl)); intro gb8 hg w_9 hbox hb; have n_BKgb1 := aM (yB (g := gb1) (o := (.cells #[.slice A0_0 l0_0.length c0_0, .slice A0_1 l0_1.length c0_1] 30 (0, 0))) (yH BKgb1.out) hb); have n_BKgb4 := aM (yB (g := gb4) (o := (.cells #[.slice A1 l1.length c1] 47 (0, 0))) (yH BKgb4.out) hb); have n_HB := aM (zT (zH HB.out) hb); have n_GE := aM ((by rw [hg]; exact (zZ (zH HB.out))) : w.heap.size ≤ gb8); have n_NAgb1 := aM ((by rw [hg]; exact Nat.ne_of_lt (blk_lt (g := gb1) (o := (.cells #[.slice A0_0 l0_0.length c0_0, .slice A0_1 l0_1.length c0_1] 30 (0, 0))) (yH BKgb1.out))) : gb1 ≠ gb8); have n_NAgb4 := aM ((by rw [hg]; exact Nat.ne_of_lt (blk_lt (g := gb4) (o := (.cells #[.slice A1 l1.length c1] 47 (0, 0))) (yH BKgb4.out))) : gb4 ≠ gb8); clear BKgb1 BKgb4 HB; have BKgb1 := n_BKgb1; have BKgb4 := n_BKgb4; have HB := n_HB; clear n_BKgb1 n_BKgb4 n_HB; have BKgb8 := aM hbox; have GEgb8 := n_GE; clear n_GE; have hnegb1_gb8 := n_NAgb1.out; have hnfgb1_gb8 : gb8 ≠ gb1 := fun h => n_NAgb1.out h.symm; clear n_NAgb1; have hnegb4_gb8 := n_NAgb4.out; have hnfgb4_gb8 : gb8 ≠ gb4 := fun h => n_NAgb4.out h.symm; clear n_NAgb4; have hcq10_0 : w_9.cell? ⟨gb1, 0, none⟩ = some (.slice A0_0 l0_0.length c0_0) := yc BKgb1.out 0; have hfq10_0 := yZ BKgb1.out 0; have hcq10_1 : w_9.cell? ⟨gb1, 1, none⟩ = some (.slice A0_1 l0_1.length c0_1) := yc BKgb1.out 1; have hfq10_1 := yZ BKgb1.out 1; have hcq11_0 : w_9.cell? ⟨gb4, 0, none⟩ = some (.slice A1 l1.length c1) := yc BKgb4.out 0; have hfq11_0 := yZ BKgb4.out 0; have hcq12_0 : w_9.cell? ⟨gb8, 0, none⟩ = some (.slice none 0 0) := yc BKgb8.out 0; have hfq12_0 := yZ BKgb8.out 0; have hcq12_1 : w_9.cell? ⟨gb8, 1, none⟩ = some (.slice none 0 0) := yc BKgb8.out 1; have hfq12_1 := yZ BKgb8.out 1; clear hbox hb hg) | (go_at_call 16; go_loud (refine (impl_GoodDevice.calls _ c0_0 l0_0 _ c0_1 l0_1 _ _ ?s1 HC0_0.out ?s2 HC0_1.out HG.out).mono ?_); (case s1 => exact (cB HR0_0.out (zH HB.out))); (case s2 => exact (cB HR0_1.out (zH HB.out))); rintro e w_13 ⟨rfl, hb⟩; have n_BKgb1 := aM (yB (g := gb1) (o := (.cells #[.slice A0_0 l0_0.length c0_0, .slice A0_1 l0_1.length c0_1] 30 (0, 0))) (yH BKgb1.out) hb); have n_BKgb4 := aM (yB (g := gb4) (o := (.cells #[.slice A1 l1.length c1] 47 (0, 0))) (yH BKgb4.out) hb); have n_BKgb8 := aM (yB (g := gb8) (o := (.cells #[.slice none 0 0, .slice none 0 0] 30 (0, 0))) (yH BKgb8.out) hb); have n_HB := aM (zT (zH HB.out) hb); clear BKgb1 BKgb4 BKgb8 HB; have BKgb1 := n_BKgb1; have BKgb4 := n_BKgb4; have BKgb8 := n_BKgb8; have HB := n_HB; clear n_BKgb1 n_BKgb4 n_BKgb8 n_HB; clear hb; have hcq14_0 : w_13.cell? ⟨gb1, 0, none⟩ = some (.slice A0_0 l0_0.length c0_0) := yc BKgb1.out 0; have hfq14_0 := yZ BKgb1.out 0; have hcq14_1 : w_13.cell? ⟨gb1, 1, none⟩ = some (.slice A0_1 l0_1.length c0_1) := yc BKgb1.out 1; have hfq14_1 := yZ BKgb1.out 1; have hcq15_0 : w_13.cell? ⟨gb4, 0, none⟩ = some (.slice A1 l1.length c1) := yc BKgb4.out 0; have hfq15_0 := yZ BKgb4.out 0; have hcq16_0 : w_13.cell? ⟨gb8, 0, none⟩ = some (.slice none 0 0) := yc BKgb8.out 0; have hfq16_0 := yZ BKgb8.out 0; have hcq16_1 : w_13.cell? ⟨gb8, 1, none⟩ = some (.slice none 0 0) := yc BKgb8.out 1; have hfq16_1 := yZ BKgb8.out 1))
  refine bodyPost_ret (results_ct rfl _ _ gb8 30 #[.slice none 0 0, .slice none 0 0] (0, 0) _ rfl (by refine yW ?_; refine yP (cs := #[.slice none 0 0, .slice none 0 0]) ?_ 1 _ rfl; refine yW ?_; refine yP (cs := #[.slice none 0 0, .slice none 0 0]) ?_ 0 _ rfl; refine yW ?_; exact BKgb8.out) Try.underlying30 rfl (by kernel_rfl)) rfl ?_
  exact ⟨_, _, rfl, Kd.R_nil _ _ _ _ _, Kd.R_nil _ _ _ _ _, zH HB.out⟩


/-! ### slices_Sort_int_int: function 79 (by hand) -/


end Go.Proofs.Ytlhgkbleciokmaa.PFnDevice
