/- The walks of FnUpdated: Go's calls come to what the Lean functions beside them say; no condition. -/
import Derived.Test.YtfijnlhklfmoeaaQFnUpdatedx0
import Derived.Test.YtfijnlhklfmoeaaQFnUpdatedx4
import Derived.Test.YtfijnlhklfmoeaaQFnUpdatedx5
import Derived.Test.YtfijnlhklfmoeaaQFnUpdatedx6
namespace Go.Proofs.Ytfijnlhklfmoeaa.PFnUpdated
open Go.RowKit Go.Proofs.YtfijnlhklfmoeaaW.PrintWords Go.Proofs.YtfijnlhklfmoeaaW.PrintLast Go.Proofs.YtfijnlhklfmoeaaW.PrintMore
attribute [local go_sem] max2_int min2_int max_two min_two max_three min_three max_four min_four   -- for this text's walks alone
set_option linter.unusedVariables false
set_option linter.unusedSimpArgs false
set_option maxRecDepth 100000

/-! ### impl_UpdateStripe: function 28 -/
def impl_UpdateStripe.j0 : Nat → Int → ByteArray → Bool → List ByteArray → ByteArray → ByteArray → Option (List ByteArray × ByteArray × ByteArray × Bool)
 | 0, _, _, _, _, _, _ => none
 | k + 1, x1, x2, x28, x195000, x195001, x195002 => if x28 = true then (some (([] : List ByteArray), (⟨#[]⟩ : ByteArray), (⟨#[]⟩ : ByteArray), false)) else ((impl_without.f k x195000 x195001 x195002 ([] : List Int)).bind fun bt197 => (if 0 ≤ x1 then (if x1 < (x195000.length : Int) then ((impl_xor.f x2 (rdOf ByteArray.empty x195000 x1)).bind fun t204 => (if x1 < (bt197.1.length : Int) then ((impl_xor.f x195001 t204).bind fun t206 => ((impl_weighed.f k t204 x1).bind fun t207 => ((impl_xor.f x195002 t207).bind fun t208 => (some ((bt197.1.set (x1 : Int).toNat x2), t206, t208, true))))) else (none))) else (none)) else (none)))
def impl_UpdateStripe.f (k : Nat) (l0_0 : List ByteArray) (a0_1 : ByteArray) (a0_2 : ByteArray) (a1 : Int) (a2 : ByteArray) : Option (List ByteArray × ByteArray × ByteArray × Bool) := (impl_isDisk.f l0_0 a0_1 a0_2 a1).bind fun t196 => (if t196 = true then (if a1 ≥ (l0_0.length : Int) then (impl_UpdateStripe.j0 k a1 a2 true l0_0 a0_1 a0_2) else (impl_UpdateStripe.j0 k a1 a2 ((a2.size : Int) != (a0_1.size : Int)) l0_0 a0_1 a0_2)) else (impl_UpdateStripe.j0 k a1 a2 true l0_0 a0_1 a0_2))
theorem impl_UpdateStripe.mono_l : ∀ k, (∀ y0 y1 y2 y3 y4 y5, LeO (impl_UpdateStripe.j0 k y0 y1 y2 y3 y4 y5) (impl_UpdateStripe.j0 (k + 1) y0 y1 y2 y3 y4 y5))
 | 0 => fun _ _ _ _ _ _ r h => by change none = some r at h; cases h
 | k + 1 => by
  have ih0 := impl_UpdateStripe.mono_l k
  ·intro y0 y1 y2 y3 y4 y5
   unfold impl_UpdateStripe.j0
   repeat' first
   | (with_reducible exact ih0 _ _ _ _ _ _)
   | (with_reducible exact impl_weighed.mono _ _ _)
   | (with_reducible exact impl_without.mono _ _ _ _ _)
   | (with_reducible exact LeO.refl _)
   | (with_reducible exact LeO.none _)
   | (with_reducible refine LeO.ite ?_ ?_)
   | (with_reducible refine LeO.bind ?_ (fun _ => ?_))
   | exact ih0 _ _ _ _ _ _
   | exact impl_weighed.mono _ _ _
   | exact impl_without.mono _ _ _ _ _
   | exact LeO.none _
   | refine LeO.ite ?_ ?_
   | refine LeO.bind ?_ (fun _ => ?_)
theorem impl_UpdateStripe.mono : ∀ a0 a1 a2 a3 a4 k, LeO (impl_UpdateStripe.f k a0 a1 a2 a3 a4) (impl_UpdateStripe.f (k + 1) a0 a1 a2 a3 a4) := by
 intro a0 a1 a2 a3 a4 k
 have ih0 := impl_UpdateStripe.mono_l k
 unfold impl_UpdateStripe.f
 repeat' first
   | (with_reducible exact ih0 _ _ _ _ _ _)
   | (with_reducible exact impl_weighed.mono _ _ _)
   | (with_reducible exact impl_without.mono _ _ _ _ _)
   | (with_reducible exact LeO.refl _)
   | (with_reducible exact LeO.none _)
   | (with_reducible refine LeO.ite ?_ ?_)
   | (with_reducible refine LeO.bind ?_ (fun _ => ?_))
   | exact ih0 _ _ _ _ _ _
   | exact impl_weighed.mono _ _ _
   | exact impl_without.mono _ _ _ _ _
   | exact LeO.none _
   | refine LeO.ite ?_ ?_
   | refine LeO.bind ?_ (fun _ => ?_)
def impl_UpdateStripe.T7 : Bool × List (List Nat × List Nat) := (true, [([], []), ([0], [0]), ([], []), ([], []), ([2, 3], [2, 3]), ([1, 4, 4], [1, 4]), ([0, 1, 2, 3, 4, 5], []), ([6, 5, 5, 0, 1, 2, 3, 4, 5], [5, 6])])
def impl_UpdateStripe.B7 : List Nat := [0, 1, 0, 0, 12, 31, 63, 127]
theorem impl_UpdateStripe.tab7 : rtab .any (opsOf Try.f28 7) = impl_UpdateStripe.T7 := by kernel_rfl
theorem impl_UpdateStripe.bits7 : waitsOk impl_UpdateStripe.T7.2 impl_UpdateStripe.B7 = true := by kernel_rfl
set_option maxHeartbeats 8000000 in
set_option maxRecDepth 100000 in
theorem impl_UpdateStripe.calls (k : Nat) (A0_0 : Option Addr) (c0_0 : Nat) (l0_0 : List ByteArray) (a0_1 : ByteArray) (a0_2 : ByteArray) (a1 : Int) (a2 : ByteArray) (r1 : List ByteArray) (r2 : ByteArray) (r3 : ByteArray) (r4 : Bool) (w : World) (hr0_0 : Kd.C Kd.string w A0_0 l0_0.length l0_0) (hc0_0 : l0_0.length ≤ c0_0) (h : impl_UpdateStripe.f k l0_0 a0_1 a0_2 a1 a2 = some (r1, r2, r3, r4)) :
  Calls Try.prog 28 #[.agg #[.slice A0_0 l0_0.length c0_0, .string a0_1, .string a0_2], .int .i64 a1, .string a2] w fun e w' => ∃ v0_ : Value, e = .returned (.tuple #[.agg #[v0_, .string r2, .string r3], .bool r4]) ∧ Kd.R Kd.string 9 w' w.heap.size (fun _ => True) v0_ r1 ∧ Below w.heap.size w w' := by
 have hu27 := Try.underlying27
 have HR0_0 := aM hr0_0
 have HC0_0 := aM hc0_0
 clear hr0_0 hc0_0
 have HB := aM (Below.refl w.heap.size w)
 have H : ((impl_isDisk.f l0_0 a0_1 a0_2 a1).bind fun t196 => (if t196 = true then (if a1 ≥ (l0_0.length : Int) then (impl_UpdateStripe.j0 k a1 a2 true l0_0 a0_1 a0_2) else (impl_UpdateStripe.j0 k a1 a2 ((a2.size : Int) != (a0_1.size : Int)) l0_0 a0_1 a0_2)) else (impl_UpdateStripe.j0 k a1 a2 true l0_0 a0_1 a0_2))) = some (r1, r2, r3, r4) := h
 clear h
 have HC4 := aM H
 clear H
 go_enter Try.func28, Try.ntmps28
 go_upto_region 1 with (first | ((with_reducible refine gate_dst (N := 3) rfl ?_); (try (refine gate_guard (by rfl) ?_; dsimp only)); refine box_event ?hg (N := 3) ?hd (cs := #[.slice A0_0 l0_0.length c0_0, .string a0_1, .string a0_2]) (t := 27) ?hr ?_; (case hd => rfl); (case hg => rfl); (case hr => first | (go_simp; done) | (go_simp; rfl)); intro gb194 hg w5 hbox hb; have BK194 := aM (hbox); have GW194 := aM ((by rw [hg]; exact (zZ (zH HB.out)) : w.heap.size ≤ gb194)); have GE194 := aM ((by rw [hg]; exact (zZ (zH HB.out)) : w.heap.size ≤ gb194)); replace HB := aM (zT (zH HB.out) hb); clear hb hbox hg) | ((with_reducible refine gate_dst (N := 6) rfl ?_); (try (refine gate_guard (by rfl) ?_; dsimp only)); refine box_event ?hg (N := 6) ?hd (cs := #[.slice none 0 0, .string (⟨#[]⟩ : ByteArray), .string (⟨#[]⟩ : ByteArray)]) (t := 27) ?hr ?_; (case hd => rfl); (case hg => rfl); (case hr => first | (go_simp; done) | (go_simp; rfl)); intro gb195 hg w6 hbox hb; have BK195 := aM (hbox); have GW195 := aM ((by rw [hg]; exact (zZ (zH HB.out)) : w.heap.size ≤ gb195)); have GE195 := aM ((by rw [hg]; exact (zZ (zH HB.out)) : w.heap.size ≤ gb195)); replace HB := aM (zT (zH HB.out) hb); have NB194_195 := nL BK194.out hg; have NB195_194 := nR BK194.out hg; replace BK194 := yK BK194.out hb; clear hb hbox hg))
 (try simp only [Act.put, qA, qB, qC])
 go_cut [28] (fun v28 wc => ∃ (kq : Nat) (x28_3 : Bool), v28 = .bool x28_3 ∧ Aside0 (impl_UpdateStripe.j0 kq a1 a2 x28_3 l0_0 a0_1 a0_2 = some (r1, r2, r3, r4)) ∧ Aside0 (kq ≤ k) ∧ Aside0 (wc.heap[gb194]? = some (.cells #[(.slice A0_0 l0_0.length c0_0), .string a0_1, .string a0_2] 27 (0, 0))) ∧ Aside0 (wc.heap[gb195]? = some (.cells #[(.slice none 0 0), .string (⟨#[]⟩ : ByteArray), .string (⟨#[]⟩ : ByteArray)] 27 (0, 0))) ∧ Aside0 (Below w.heap.size w wc))
 case first =>
  have H := HC4.out
  clear HC4
  replace H := Option.bind_eq_some_iff.mp H
  obtain ⟨t196, A70, H⟩ := H
  replace H : (if t196 = true then (if a1 ≥ (l0_0.length : Int) then (impl_UpdateStripe.j0 k a1 a2 true l0_0 a0_1 a0_2) else (impl_UpdateStripe.j0 k a1 a2 ((a2.size : Int) != (a0_1.size : Int)) l0_0 a0_1 a0_2)) else (impl_UpdateStripe.j0 k a1 a2 true l0_0 a0_1 a0_2)) = some (r1, r2, r3, r4) := H
  have A7 := aM A70
  clear A70
  by_cases c8 : t196 = true
  ·subst c8
   have H1 : (if a1 ≥ (l0_0.length : Int) then (impl_UpdateStripe.j0 k a1 a2 true l0_0 a0_1 a0_2) else (impl_UpdateStripe.j0 k a1 a2 ((a2.size : Int) != (a0_1.size : Int)) l0_0 a0_1 a0_2)) = some (r1, r2, r3, r4) := by rw [if_pos rfl] at H; exact H
   clear H
   have H := H1
   clear H1
   by_cases c9 : a1 ≥ (l0_0.length : Int)
   ·rw [if_pos c9] at H
    have c9b0 : decide ((l0_0.length : Int) ≤ a1) = true := decide_eq_true c9
    clear c9
    (first | rw [c9b0] | (simp only [i64_w, i32_w]; rw [c9b0]) | skip)
    have H' := aM H
    clear H
    have hnb10 := NB194_195.out
    have hnc10 := NB195_194.out
    have hcz11_0 : w6.cell? ⟨gb194, 0, none⟩ = some (.slice A0_0 l0_0.length c0_0) := yc BK194.out 0
    have hcz11_1 : w6.cell? ⟨gb194, 1, none⟩ = some (.string a0_1) := yc BK194.out 1
    have hcz11_2 : w6.cell? ⟨gb194, 2, none⟩ = some (.string a0_2) := yc BK194.out 2
    have hfz11_0 := yZ BK194.out 0
    have hfz11_1 := yZ BK194.out 1
    have hfz11_2 := yZ BK194.out 2
    go_wp2_with (first | ((with_reducible refine gate_callee (f := 55) rfl ?_); refine goesL_ (some 12) rfl rfl Try.func55 (by kernel_rfl) rfl #[.agg #[.slice A0_0 l0_0.length c0_0, .string a0_1, .string a0_2], .int .i64 a1] rfl (by (try simp only [List.map_toArray, List.map_cons, List.map_nil]); first | done | rfl | (simp only [List.length_drop, List.length_take]; rfl)) ?_; (with_reducible refine (impl_isDisk.calls _ _ l0_0 a0_1 a0_2 a1 true _ ?side1 ?side2 A7.out).mono ?_); (case side1 => exact cK HR0_0.out HB.out); (case side2 => exact HC0_0.out); rintro e w12 ⟨rfl, hb⟩; refine ⟨_, rfl, ?_⟩; replace BK194 := yK BK194.out hb; replace BK195 := yK BK195.out hb; replace HB := aM (zT (zH HB.out) hb); (try clear hb); have hcz13_0 : w12.cell? ⟨gb194, 0, none⟩ = some (.slice A0_0 l0_0.length c0_0) := yc BK194.out 0; have hcz13_1 : w12.cell? ⟨gb194, 1, none⟩ = some (.string a0_1) := yc BK194.out 1; have hcz13_2 : w12.cell? ⟨gb194, 2, none⟩ = some (.string a0_2) := yc BK194.out 2; have hfz13_0 := yZ BK194.out 0; have hfz13_1 := yZ BK194.out 1; have hfz13_2 := yZ BK194.out 2))
    go_meet
    case rel => exact ⟨_, (true), (by first | rfl | (simp; done) | (simp [*]; done)), H', ⟨by first | omega | exact Nat.le_refl _⟩, ⟨yH BK194.out⟩, ⟨yH BK195.out⟩, ⟨zH HB.out⟩⟩
   ·rw [if_neg c9] at H
    have c9b0 : decide ((l0_0.length : Int) ≤ a1) = false := decide_eq_false c9
    clear c9
    (first | rw [c9b0] | (simp only [i64_w, i32_w]; rw [c9b0]) | skip)
    have H' := aM H
    clear H
    have hnb14 := NB194_195.out
    have hnc14 := NB195_194.out
    have hcz15_0 : w6.cell? ⟨gb194, 0, none⟩ = some (.slice A0_0 l0_0.length c0_0) := yc BK194.out 0
    have hcz15_1 : w6.cell? ⟨gb194, 1, none⟩ = some (.string a0_1) := yc BK194.out 1
    have hcz15_2 : w6.cell? ⟨gb194, 2, none⟩ = some (.string a0_2) := yc BK194.out 2
    have hfz15_0 := yZ BK194.out 0
    have hfz15_1 := yZ BK194.out 1
    have hfz15_2 := yZ BK194.out 2
    go_wp2_with (first | ((with_reducible refine gate_callee (f := 55) rfl ?_); refine goesL_ (some 12) rfl rfl Try.func55 (by kernel_rfl) rfl #[.agg #[.slice A0_0 l0_0.length c0_0, .string a0_1, .string a0_2], .int .i64 a1] rfl (by (try simp only [List.map_toArray, List.map_cons, List.map_nil]); first | done | rfl | (simp only [List.length_drop, List.length_take]; rfl)) ?_; (with_reducible refine (impl_isDisk.calls _ _ l0_0 a0_1 a0_2 a1 true _ ?side1 ?side2 A7.out).mono ?_); (case side1 => exact cK HR0_0.out HB.out); (case side2 => exact HC0_0.out); rintro e w16 ⟨rfl, hb⟩; refine ⟨_, rfl, ?_⟩; replace BK194 := yK BK194.out hb; replace BK195 := yK BK195.out hb; replace HB := aM (zT (zH HB.out) hb); (try clear hb); have hcz17_0 : w16.cell? ⟨gb194, 0, none⟩ = some (.slice A0_0 l0_0.length c0_0) := yc BK194.out 0; have hcz17_1 : w16.cell? ⟨gb194, 1, none⟩ = some (.string a0_1) := yc BK194.out 1; have hcz17_2 : w16.cell? ⟨gb194, 2, none⟩ = some (.string a0_2) := yc BK194.out 2; have hfz17_0 := yZ BK194.out 0; have hfz17_1 := yZ BK194.out 1; have hfz17_2 := yZ BK194.out 2))
    go_meet
    case rel => exact ⟨_, (((a2.size : Int) != (a0_1.size : Int))), (by first | rfl | (simp; done) | (simp [*]; done)), H', ⟨by first | omega | exact Nat.le_refl _⟩, ⟨yH BK194.out⟩, ⟨yH BK195.out⟩, ⟨zH HB.out⟩⟩
  ·replace c8 := Bool.eq_false_iff.mpr c8
   subst c8
   have H1 : (impl_UpdateStripe.j0 k a1 a2 true l0_0 a0_1 a0_2) = some (r1, r2, r3, r4) := by rw [if_neg (show ¬ (false = true) by decide)] at H; exact H
   clear H
   have H := H1
   clear H1
   have H' := aM H
   clear H
   have hnb18 := NB194_195.out
   have hnc18 := NB195_194.out
   have hcz19_0 : w6.cell? ⟨gb194, 0, none⟩ = some (.slice A0_0 l0_0.length c0_0) := yc BK194.out 0
   have hcz19_1 : w6.cell? ⟨gb194, 1, none⟩ = some (.string a0_1) := yc BK194.out 1
   have hcz19_2 : w6.cell? ⟨gb194, 2, none⟩ = some (.string a0_2) := yc BK194.out 2
   have hfz19_0 := yZ BK194.out 0
   have hfz19_1 := yZ BK194.out 1
   have hfz19_2 := yZ BK194.out 2
   go_wp2_with (first | ((with_reducible refine gate_callee (f := 55) rfl ?_); refine goesL_ (some 12) rfl rfl Try.func55 (by kernel_rfl) rfl #[.agg #[.slice A0_0 l0_0.length c0_0, .string a0_1, .string a0_2], .int .i64 a1] rfl (by (try simp only [List.map_toArray, List.map_cons, List.map_nil]); first | done | rfl | (simp only [List.length_drop, List.length_take]; rfl)) ?_; (with_reducible refine (impl_isDisk.calls _ _ l0_0 a0_1 a0_2 a1 false _ ?side1 ?side2 A7.out).mono ?_); (case side1 => exact cK HR0_0.out HB.out); (case side2 => exact HC0_0.out); rintro e w20 ⟨rfl, hb⟩; refine ⟨_, rfl, ?_⟩; replace BK194 := yK BK194.out hb; replace BK195 := yK BK195.out hb; replace HB := aM (zT (zH HB.out) hb); (try clear hb)))
   go_meet
   case rel => exact ⟨_, (true), (by first | rfl | (simp; done) | (simp [*]; done)), H', ⟨by first | omega | exact Nat.le_refl _⟩, ⟨yH BK194.out⟩, ⟨yH BK195.out⟩, ⟨zH HB.out⟩⟩
 case rest =>
  clear HC4
  (try clear c1); (try clear c2); (try clear p2); (try clear c5); (try clear c8); (try clear c9); (try clear c9b0); (try clear c10); (try clear c14); (try clear c18); (try clear hcz11_0); (try clear hcz11_1); (try clear hcz11_2); (try clear hcz13_0); (try clear hcz13_1); (try clear hcz13_2); (try clear hcz15_0); (try clear hcz15_1); (try clear hcz15_2); (try clear hcz17_0); (try clear hcz17_1); (try clear hcz17_2); (try clear hcz19_0); (try clear hcz19_1); (try clear hcz19_2); (try clear hfz11_0); (try clear hfz11_1); (try clear hfz11_2); (try clear hfz13_0); (try clear hfz13_1); (try clear hfz13_2); (try clear hfz15_0); (try clear hfz15_1); (try clear hfz15_2); (try clear hfz17_0); (try clear hfz17_1); (try clear hfz17_2); (try clear hfz19_0); (try clear hfz19_1); (try clear hfz19_2)
  obtain ⟨kq, x28_3, rfl, HA, HJ3, BK194, BK195, HB⟩ := hcut
  cases kq with
  | zero => exact absurd HA.out (fun h_ => by change none = some _ at h_; cases h_)
  | succ kj3 =>
   have H := HA.out
   clear HA
   simp only [impl_UpdateStripe.j0] at H
   by_cases c21 : x28_3 = true
   ·subst c21
    have H1 : (some (([] : List ByteArray), (⟨#[]⟩ : ByteArray), (⟨#[]⟩ : ByteArray), false)) = some (r1, r2, r3, r4) := by rw [if_pos rfl] at H; exact H
    clear H
    have H := H1
    clear H1
    simp only [Option.some.injEq, Prod.mk.injEq] at H
    obtain ⟨rfl, rfl, rfl, rfl⟩ := H
    have hnb22 := NB195_194.out
    have hnc22 := NB194_195.out
    have hcz23_0 : wc.cell? ⟨gb195, 0, none⟩ = some (.slice none 0 0) := yc BK195.out 0
    have hcz23_1 : wc.cell? ⟨gb195, 1, none⟩ = some (.string (⟨#[]⟩ : ByteArray)) := yc BK195.out 1
    have hcz23_2 : wc.cell? ⟨gb195, 2, none⟩ = some (.string (⟨#[]⟩ : ByteArray)) := yc BK195.out 2
    have hfz23_0 := yZ BK195.out 0
    have hfz23_1 := yZ BK195.out 1
    have hfz23_2 := yZ BK195.out 2
    go_wp2
    refine bodyPost_ret (results_ct rfl _ _ gb195 27 #[.slice none 0 0, .string (⟨#[]⟩ : ByteArray), .string (⟨#[]⟩ : ByteArray)] (0, 0) _ rfl (by (with_reducible repeat (first | refine yN ?_ _ | refine yD ?_ | refine yA ?_ _)); refine yP (cs := #[.slice none 0 0, .string (⟨#[]⟩ : ByteArray), .string (⟨#[]⟩ : ByteArray)]) ?_ 2 _ rfl; (with_reducible repeat (first | refine yN ?_ _ | refine yD ?_ | refine yA ?_ _)); refine yP (cs := #[.slice none 0 0, .string (⟨#[]⟩ : ByteArray), .string (⟨#[]⟩ : ByteArray)]) ?_ 1 _ rfl; (with_reducible repeat (first | refine yN ?_ _ | refine yD ?_ | refine yA ?_ _)); refine yP (cs := #[.slice none 0 0, .string (⟨#[]⟩ : ByteArray), .string (⟨#[]⟩ : ByteArray)]) ?_ 0 _ rfl; (with_reducible repeat (first | refine yN ?_ _ | refine yD ?_ | refine yA ?_ _)); exact BK195.out) Try.underlying27 rfl (by kernel_rfl)) rfl ?_
    exact ⟨_, by first | rfl | (simp [errW_none, errW_some] <;> rfl) | (simp [*, errW_none, errW_some] <;> rfl), by first | exact Kd.R_nil _ _ _ _ _ | exact Kd.N_nil _ _ _ _ _ | exact Kd.V_nil _ _ _ _ _ | exact Kd.Q_nil _ _ _ _ _ | exact Kd.S_nil _ _ _ _ _, zH HB.out⟩
   ·replace c21 := Bool.eq_false_iff.mpr c21
    subst c21
    have H1 : ((impl_without.f kj3 l0_0 a0_1 a0_2 ([] : List Int)).bind fun bt197 => (if 0 ≤ a1 then (if a1 < (l0_0.length : Int) then ((impl_xor.f a2 (rdOf ByteArray.empty l0_0 a1)).bind fun t204 => (if a1 < (bt197.1.length : Int) then ((impl_xor.f a0_1 t204).bind fun t206 => ((impl_weighed.f kj3 t204 a1).bind fun t207 => ((impl_xor.f a0_2 t207).bind fun t208 => (some ((bt197.1.set (a1 : Int).toNat a2), t206, t208, true))))) else (none))) else (none)) else (none))) = some (r1, r2, r3, r4) := by rw [if_neg (show ¬ (false = true) by decide)] at H; exact H
    clear H
    have H := H1
    clear H1
    replace H := Option.bind_eq_some_iff.mp H
    obtain ⟨⟨t197, t200, t201⟩, A240, H⟩ := H
    replace H : (if 0 ≤ a1 then (if a1 < (l0_0.length : Int) then ((impl_xor.f a2 (rdOf ByteArray.empty l0_0 a1)).bind fun t204 => (if a1 < (t197.length : Int) then ((impl_xor.f a0_1 t204).bind fun t206 => ((impl_weighed.f kj3 t204 a1).bind fun t207 => ((impl_xor.f a0_2 t207).bind fun t208 => (some ((t197.set (a1 : Int).toNat a2), t206, t208, true))))) else (none))) else (none)) else (none)) = some (r1, r2, r3, r4) := H
    have A24 := aM A240
    clear A240
    by_cases c25 : 0 ≤ a1
    ·rw [if_pos c25] at H
     have c25b0 : decide (0 ≤ a1) = true := decide_eq_true c25
     clear c25
     by_cases c26 : a1 < (l0_0.length : Int)
     ·rw [if_pos c26] at H
      have c26b0 : decide (a1 < (l0_0.length : Int)) = true := decide_eq_true c26
      clear c26
      replace H := Option.bind_eq_some_iff.mp H
      obtain ⟨t204, A270, H⟩ := H
      replace H : (if a1 < (t197.length : Int) then ((impl_xor.f a0_1 t204).bind fun t206 => ((impl_weighed.f kj3 t204 a1).bind fun t207 => ((impl_xor.f a0_2 t207).bind fun t208 => (some ((t197.set (a1 : Int).toNat a2), t206, t208, true))))) else (none)) = some (r1, r2, r3, r4) := H
      have A27 := aM A270
      clear A270
      by_cases c28 : a1 < (t197.length : Int)
      ·rw [if_pos c28] at H
       have c28b0 : decide (a1 < (t197.length : Int)) = true := decide_eq_true c28
       clear c28
       obtain ⟨y205, hy205⟩ : ∃ y_ : List ByteArray, y_ = (t197.set (a1 : Int).toNat a2) := ⟨_, rfl⟩
       replace H : ((impl_xor.f a0_1 t204).bind fun t206 => ((impl_weighed.f kj3 t204 a1).bind fun t207 => ((impl_xor.f a0_2 t207).bind fun t208 => (some (y205, t206, t208, true))))) = some (r1, r2, r3, r4) := by first | (rw [hy205]; with_reducible exact H) | (have H2_ := (Option.bind_some _ _).symm.trans H; rw [hy205]; with_reducible exact H2_) | (have H2_ := (Option.bind_some _ _).symm.trans H; with_reducible exact H2_) | with_reducible exact H | (rw [hy205]; exact H) | exact H
       have Ny205 := aM hy205
       clear hy205
       replace H := Option.bind_eq_some_iff.mp H
       obtain ⟨t206, A300, H⟩ := H
       replace H : ((impl_weighed.f kj3 t204 a1).bind fun t207 => ((impl_xor.f a0_2 t207).bind fun t208 => (some (y205, t206, t208, true)))) = some (r1, r2, r3, r4) := H
       have A30 := aM A300
       clear A300
       replace H := Option.bind_eq_some_iff.mp H
       obtain ⟨t207, A310, H⟩ := H
       replace H : ((impl_xor.f a0_2 t207).bind fun t208 => (some (y205, t206, t208, true))) = some (r1, r2, r3, r4) := H
       have A31 := aM A310
       clear A310
       replace H := Option.bind_eq_some_iff.mp H
       obtain ⟨t208, A320, H⟩ := H
       replace H : (some (y205, t206, t208, true)) = some (r1, r2, r3, r4) := H
       have A32 := aM A320
       clear A320
       simp only [Option.some.injEq, Prod.mk.injEq] at H
       obtain ⟨rfl, rfl, rfl, rfl⟩ := H
       have hnb33 := NB194_195.out
       have hnc33 := NB195_194.out
       have hcz34_0 : wc.cell? ⟨gb194, 0, none⟩ = some (.slice A0_0 l0_0.length c0_0) := yc BK194.out 0
       have hcz34_1 : wc.cell? ⟨gb194, 1, none⟩ = some (.string a0_1) := yc BK194.out 1
       have hcz34_2 : wc.cell? ⟨gb194, 2, none⟩ = some (.string a0_2) := yc BK194.out 2
       have hfz34_0 := yZ BK194.out 0
       have hfz34_1 := yZ BK194.out 1
       have hfz34_2 := yZ BK194.out 2
       try go_wp2_with (first | ((with_reducible refine gate_callee (f := 56) rfl ?_); refine goesL_ (some 31) rfl rfl Try.func56 (by kernel_rfl) rfl #[.agg #[.slice A0_0 l0_0.length c0_0, .string a0_1, .string a0_2], .slice none 0 0] rfl (by (try simp only [List.map_toArray, List.map_cons, List.map_nil]); first | done | rfl | (simp only [List.length_drop, List.length_take]; rfl)) ?_; (refine (impl_without.calls kj3 _ _ l0_0 a0_1 a0_2 _ _ ([] : List Int) t197 t200 t201 _ ?side1 ?side2 ?side3 ?side4 A24.out).mono ?_); (case side1 => exact cK HR0_0.out HB.out); (case side2 => exact HC0_0.out); (case side3 => exact Kd.C_nil _ _); (case side4 => exact Nat.le_refl _); rintro e w35 ⟨v198, rfl, ho0, hb⟩; refine ⟨_, rfl, ?_⟩; have HO199 := aM (xL ho0 (zZ (zH HB.out))); replace BK194 := yK BK194.out hb; replace BK195 := yK BK195.out hb; replace HB := aM (zT (zH HB.out) hb); (try clear hb); (try clear ho0)) | ((with_reducible refine gate_dst (N := 8) rfl ?_); (try (refine gate_guard (by rfl) ?_; dsimp only)); refine box_event ?hg (N := 8) ?hd (cs := #[.slice none 0 0, .string (⟨#[]⟩ : ByteArray), .string (⟨#[]⟩ : ByteArray)]) (t := 27) ?hr ?_; (case hd => rfl); (case hg => rfl); (case hr => first | (go_simp; done) | (go_simp; rfl)); intro gb202 hg w36 hbox hb; replace HO199 := xK HO199.out hb; have BK202 := aM (hbox); have GW202 := aM ((by rw [hg]; exact (zZ (zH HB.out)) : w.heap.size ≤ gb202)); have GE202 := aM ((by rw [hg]; exact (zZ (zH HB.out)) : w.heap.size ≤ gb202)); replace HB := aM (zT (zH HB.out) hb); have NB194_202 := nL BK194.out hg; have NB202_194 := nR BK194.out hg; replace BK194 := yK BK194.out hb; have NB195_202 := nL BK195.out hg; have NB202_195 := nR BK195.out hg; replace BK195 := yK BK195.out hb; clear hb hbox hg; obtain ⟨Ao37, co37, eo37⟩ := Kd.R_slice HO199.out; subst eo37; have hnb38 := NB202_194.out; have hnc38 := NB194_202.out; have hnb39 := NB202_195.out; have hnc39 := NB195_202.out; have hcz40_0 : w36.cell? ⟨gb202, 0, none⟩ = some (.slice none 0 0) := yc BK202.out 0; have hcz40_1 : w36.cell? ⟨gb202, 1, none⟩ = some (.string (⟨#[]⟩ : ByteArray)) := yc BK202.out 1; have hcz40_2 : w36.cell? ⟨gb202, 2, none⟩ = some (.string (⟨#[]⟩ : ByteArray)) := yc BK202.out 2; have hfz40_0 := yZ BK202.out 0; have hfz40_1 := yZ BK202.out 1; have hfz40_2 := yZ BK202.out 2; have hcz41_0 : w36.cell? ⟨gb194, 0, none⟩ = some (.slice A0_0 l0_0.length c0_0) := yc BK194.out 0; have hcz41_1 : w36.cell? ⟨gb194, 1, none⟩ = some (.string a0_1) := yc BK194.out 1; have hcz41_2 : w36.cell? ⟨gb194, 2, none⟩ = some (.string a0_2) := yc BK194.out 2; have hfz41_0 := yZ BK194.out 0; have hfz41_1 := yZ BK194.out 1; have hfz41_2 := yZ BK194.out 2; have p203 : 0 ≤ (a1 : Int) := of_decide_eq_true (by first | (with_reducible assumption) | assumption); have q203 : a1 < (l0_0.length : Int) := of_decide_eq_true (by first | (with_reducible assumption) | assumption); obtain ⟨ad203, e203, hx203_0⟩ := Kd.at_string HR0_0.out a1 p203 q203; cases e203; have hn203_0 : ad203.block ≠ gb202 := Nat.ne_of_lt (Nat.lt_of_lt_of_le (by have := World.block_lt_of_cell? _ _ hx203_0; first | rwa [add_block] at this | exact this) GW202.out); have hn203_1 : ad203.block ≠ gb202 := Nat.ne_of_lt (Nat.lt_of_lt_of_le (by have := World.block_lt_of_cell? _ _ hx203_0; first | rwa [add_block] at this | exact this) GW202.out); have hn203_2 : ad203.block ≠ gb202 := Nat.ne_of_lt (Nat.lt_of_lt_of_le (by have := World.block_lt_of_cell? _ _ hx203_0; first | rwa [add_block] at this | exact this) GW202.out); replace hx203_0 := (HB.out.cell (World.block_lt_of_cell? w _ hx203_0)).trans hx203_0; replace hx203_0 := (cell_far (p := ⟨gb202, 0, none⟩) (by first | (rw [add_block]; exact hn203_0) | (show (Addr.add _ _).block ≠ _; rw [add_block]; exact hn203_0) | exact hn203_0) (.slice Ao37 t197.length co37)).trans hx203_0; replace hx203_0 := (cell_far (p := ⟨gb202, 1, none⟩) (by first | (rw [add_block]; exact hn203_1) | (show (Addr.add _ _).block ≠ _; rw [add_block]; exact hn203_1) | exact hn203_1) (.string t200)).trans hx203_0; replace hx203_0 := (cell_far (p := ⟨gb202, 2, none⟩) (by first | (rw [add_block]; exact hn203_2) | (show (Addr.add _ _).block ≠ _; rw [add_block]; exact hn203_2) | exact hn203_2) (.string t201)).trans hx203_0; clear hn203_0; clear hn203_1; clear hn203_2; replace p203 := eq_true p203; replace q203 := eq_true q203) | ((with_reducible refine gate_callee (f := 57) rfl ?_); refine goesL_ (some 38) rfl rfl Try.func57 (by kernel_rfl) rfl #[.string a2, .string (rdOf ByteArray.empty l0_0 a1)] rfl (by (try simp only [List.map_toArray, List.map_cons, List.map_nil]); first | done | rfl | (simp only [List.length_drop, List.length_take]; rfl)) ?_; (with_reducible refine (impl_xor.calls a2 (rdOf ByteArray.empty l0_0 a1) t204 _ A27.out).mono ?_); rintro e w42 ⟨rfl, hb⟩; refine ⟨_, rfl, ?_⟩; replace HO199 := aM (xB (xH ((x3 HO199.out BK202.out (by decide) (.slice Ao37 t197.length co37) (.string t200) (.string t201)))) hb); replace BK194 := aM (yB (g := gb194) (o := .cells #[.slice (some ad203) l0_0.length c0_0, .string a0_1, .string a0_2] 27 (0, 0)) (by (with_reducible repeat (first | refine yN ?_ _ | refine yD ?_ | refine yA ?_ _)); refine yF ?_ NB194_202.out _; (with_reducible repeat (first | refine yN ?_ _ | refine yD ?_ | refine yA ?_ _)); refine yF ?_ NB194_202.out _; (with_reducible repeat (first | refine yN ?_ _ | refine yD ?_ | refine yA ?_ _)); refine yF ?_ NB194_202.out _; (with_reducible repeat (first | refine yN ?_ _ | refine yD ?_ | refine yA ?_ _)); exact BK194.out) hb); replace BK195 := aM (yB (g := gb195) (o := .cells #[.slice none 0 0, .string (⟨#[]⟩ : ByteArray), .string (⟨#[]⟩ : ByteArray)] 27 (0, 0)) (by (with_reducible repeat (first | refine yN ?_ _ | refine yD ?_ | refine yA ?_ _)); refine yF ?_ NB195_202.out _; (with_reducible repeat (first | refine yN ?_ _ | refine yD ?_ | refine yA ?_ _)); refine yF ?_ NB195_202.out _; (with_reducible repeat (first | refine yN ?_ _ | refine yD ?_ | refine yA ?_ _)); refine yF ?_ NB195_202.out _; (with_reducible repeat (first | refine yN ?_ _ | refine yD ?_ | refine yA ?_ _)); exact BK195.out) hb); replace BK202 := aM (yB (g := gb202) (o := .cells #[.slice Ao37 t197.length co37, .string t200, .string t201] 27 (0, 0)) (by (with_reducible repeat (first | refine yN ?_ _ | refine yD ?_ | refine yA ?_ _)); refine yP (cs := #[.slice Ao37 t197.length co37, .string t200, .string (⟨#[]⟩ : ByteArray)]) ?_ 2 _ rfl; (with_reducible repeat (first | refine yN ?_ _ | refine yD ?_ | refine yA ?_ _)); refine yP (cs := #[.slice Ao37 t197.length co37, .string (⟨#[]⟩ : ByteArray), .string (⟨#[]⟩ : ByteArray)]) ?_ 1 _ rfl; (with_reducible repeat (first | refine yN ?_ _ | refine yD ?_ | refine yA ?_ _)); refine yP (cs := #[.slice none 0 0, .string (⟨#[]⟩ : ByteArray), .string (⟨#[]⟩ : ByteArray)]) ?_ 0 _ rfl; (with_reducible repeat (first | refine yN ?_ _ | refine yD ?_ | refine yA ?_ _)); exact BK202.out) hb); replace HB := aM (zT (zH HB.out) hb); (try clear hb); have hcz43_0 : w42.cell? ⟨gb202, 0, none⟩ = some (.slice Ao37 t197.length co37) := yc BK202.out 0; have hcz43_1 : w42.cell? ⟨gb202, 1, none⟩ = some (.string t200) := yc BK202.out 1; have hcz43_2 : w42.cell? ⟨gb202, 2, none⟩ = some (.string t201) := yc BK202.out 2; have hfz43_0 := yZ BK202.out 0; have hfz43_1 := yZ BK202.out 1; have hfz43_2 := yZ BK202.out 2; have p29 : 0 ≤ (a1 : Int) := of_decide_eq_true (by first | (with_reducible assumption) | assumption); have q29 : (a1 : Int) < ((t197.length : Int) : Int) := of_decide_eq_true (by first | (with_reducible assumption) | assumption); obtain ⟨go29, co29, eo29, gb29, gl29, cl29, HG29⟩ := Kd.R_form HO199.out (by omega); (first | cases eo29 | (injection eo29 with ea_ en_ ec_; (first | subst ea_ | (injection ea_ with ea_; subst ea_)); subst ec_; clear en_)); have GB29 := aM gb29; have GG29 := aM HG29; clear gb29 gl29 HG29; obtain ⟨hx29_0, hf29_0⟩ := Kd.R_celln (⟨#[]⟩ : ByteArray) HO199.out (a1 : Int) p29 q29; replace p29 := eq_true p29; replace q29 := eq_true q29; obtain ⟨hy44_, hz44_⟩ := Kd.R_celln (⟨#[]⟩ : ByteArray) HO199.out (a1 : Int) (of_decide_eq_true (by first | (with_reducible assumption) | assumption)) (of_decide_eq_true (by first | (with_reducible assumption) | assumption)); have HP44 := Kd.R_putg HO199.out (a1 : Int) a2) | ((with_reducible refine gate_store (t := 9) (p := 43) rfl ?_); refine store_event (t := 9) (p := 43) (v := ?vo_w45) (w1 := (w42.setCell ⟨go29, (a1 : Int).toNat, none⟩ (.string a2))) ?hg ?ho ?hn ?hr ?_; (case ho => rfl); (case hg => rfl); (case hn => rfl); (case hr => first | (go_simp; done) | (go_simp; rfl)); intro w45 hw; have hg : w42.grownBy w45 (some go29) := (by rw [hw]; exact HP44.2); have hp_ : Kd.R Kd.string 9 w45 w.heap.size (fun _ => True) (.slice (some ⟨go29, 0, none⟩) t197.length co37) y205 := (by rw [hw, Ny205.out]; exact HP44.1); clear HP44; replace BK194 := aM (blk_grown (g := gb194) (o := .cells #[.slice (some ad203) l0_0.length c0_0, .string a0_1, .string a0_2] 27 (0, 0)) (yH BK194.out) hg (Kd.R_ne HO199.out BK194.out (by decide))); replace BK195 := aM (blk_grown (g := gb195) (o := .cells #[.slice none 0 0, .string (⟨#[]⟩ : ByteArray), .string (⟨#[]⟩ : ByteArray)] 27 (0, 0)) (yH BK195.out) hg (Kd.R_ne HO199.out BK195.out (by decide))); replace BK202 := aM (blk_grown (g := gb202) (o := .cells #[.slice (some ⟨go29, 0, none⟩) t197.length co37, .string t200, .string t201] 27 (0, 0)) (yH BK202.out) hg (Kd.R_ne HO199.out BK202.out (by decide))); replace HO199 := aM (hp_); replace HB := aM ((by rw [hw]; exact zS (HB.out) GB29.out : Below w.heap.size w w45)); clear hg hw hp_; have hcz46_0 : w45.cell? ⟨gb194, 0, none⟩ = some (.slice (some ad203) l0_0.length c0_0) := yc BK194.out 0; have hcz46_1 : w45.cell? ⟨gb194, 1, none⟩ = some (.string a0_1) := yc BK194.out 1; have hcz46_2 : w45.cell? ⟨gb194, 2, none⟩ = some (.string a0_2) := yc BK194.out 2; have hfz46_0 := yZ BK194.out 0; have hfz46_1 := yZ BK194.out 1; have hfz46_2 := yZ BK194.out 2) | ((with_reducible refine gate_callee (f := 57) rfl ?_); refine goesL_ (some 47) rfl rfl Try.func57 (by kernel_rfl) rfl #[.string a0_1, .string t204] rfl (by (try simp only [List.map_toArray, List.map_cons, List.map_nil]); first | done | rfl | (simp only [List.length_drop, List.length_take]; rfl)) ?_; (with_reducible refine (impl_xor.calls a0_1 t204 t206 _ A30.out).mono ?_); rintro e w47 ⟨rfl, hb⟩; refine ⟨_, rfl, ?_⟩; replace HO199 := xK HO199.out hb; replace BK194 := yK BK194.out hb; replace BK195 := yK BK195.out hb; replace BK202 := yK BK202.out hb; replace HB := aM (zT (zH HB.out) hb); (try clear hb); have hcz48_0 : w47.cell? ⟨gb202, 0, none⟩ = some (.slice (some ⟨go29, 0, none⟩) t197.length co37) := yc BK202.out 0; have hcz48_1 : w47.cell? ⟨gb202, 1, none⟩ = some (.string t200) := yc BK202.out 1; have hcz48_2 : w47.cell? ⟨gb202, 2, none⟩ = some (.string t201) := yc BK202.out 2; have hfz48_0 := yZ BK202.out 0; have hfz48_1 := yZ BK202.out 1; have hfz48_2 := yZ BK202.out 2))
       have n0_ : Aside0 (Kd.R Kd.string 9 (w47.setCell ⟨gb202, 1, none⟩ (.string t206)) w.heap.size (fun _ => True) (.slice (some ⟨go29, 0, none⟩) t197.length co37) y205) := ⟨xH (xM (xF (p := ⟨gb202, 1, none⟩) (xT HO199.out BK202.out (by decide)) (fun _ hk => hk.2) (.string t206)) (fun _ hk => trivial))⟩
       have n1_ : Aside0 ((w47.setCell ⟨gb202, 1, none⟩ (.string t206)).heap[gb194]? = some (.cells #[.slice (some ad203) l0_0.length c0_0, .string a0_1, .string a0_2] 27 (0, 0))) := ⟨by (with_reducible repeat (first | refine yN ?_ _ | refine yD ?_ | refine yA ?_ _)); refine yF ?_ NB194_202.out _; (with_reducible repeat (first | refine yN ?_ _ | refine yD ?_ | refine yA ?_ _)); exact BK194.out⟩
       have n2_ : Aside0 ((w47.setCell ⟨gb202, 1, none⟩ (.string t206)).heap[gb195]? = some (.cells #[.slice none 0 0, .string (⟨#[]⟩ : ByteArray), .string (⟨#[]⟩ : ByteArray)] 27 (0, 0))) := ⟨by (with_reducible repeat (first | refine yN ?_ _ | refine yD ?_ | refine yA ?_ _)); refine yF ?_ NB195_202.out _; (with_reducible repeat (first | refine yN ?_ _ | refine yD ?_ | refine yA ?_ _)); exact BK195.out⟩
       have n3_ : Aside0 ((w47.setCell ⟨gb202, 1, none⟩ (.string t206)).heap[gb202]? = some (.cells #[.slice (some ⟨go29, 0, none⟩) t197.length co37, .string t206, .string t201] 27 (0, 0))) := ⟨by (with_reducible repeat (first | refine yN ?_ _ | refine yD ?_ | refine yA ?_ _)); refine yP (cs := #[.slice (some ⟨go29, 0, none⟩) t197.length co37, .string t200, .string t201]) ?_ 1 _ rfl; (with_reducible repeat (first | refine yN ?_ _ | refine yD ?_ | refine yA ?_ _)); exact BK202.out⟩
       have n4_ : Aside0 (Below w.heap.size w (w47.setCell ⟨gb202, 1, none⟩ (.string t206))) := ⟨zH HB.out⟩
       (try clear HO199); (try clear BK194); (try clear BK195); (try clear BK202); (try clear HB)
       generalize (w47.setCell ⟨gb202, 1, none⟩ (.string t206)) = w49 at n0_ n1_ n2_ n3_ n4_ ⊢
       have HO199 := n0_
       have BK194 := n1_
       have BK195 := n2_
       have BK202 := n3_
       have HB := n4_
       clear n0_ n1_ n2_ n3_ n4_
       replace HO199 := aM (xD HO199.out)
       replace BK194 := aM (yD BK194.out)
       replace BK195 := aM (yD BK195.out)
       replace BK202 := aM (yD BK202.out)
       replace HB := aM (zD HB.out)
       refine start_ (n := 8) (S := fun w' => w'.cell? ⟨gb194, 0, none⟩ = some (.slice (some ad203) l0_0.length c0_0) ∧ w'.cell? ⟨gb194, 1, none⟩ = some (.string a0_1) ∧ w'.cell? ⟨gb194, 2, none⟩ = some (.string a0_2)) (ds := []) #[fF,fF,fF,fF,fF,fF,fF,fF] (by kernel_rfl) rfl rfl ⟨yc BK194.out 0, yc BK194.out 1, yc BK194.out 2⟩ (fun hHeld => ?_); refine with_tabW impl_UpdateStripe.tab7 impl_UpdateStripe.bits7 (fun HT_ HW_ => ?_)
       generalize w49.drew = w50 at HO199 BK194 BK195 BK202 HB hHeld ⊢
       refine pure_ (i := 0) (N := some 49) (v := ?_) (a' := ?_) #[tT,fF,fF,fF,fF,fF,fF,fF] rfl rfl (any_of HT_.out (by kernel_rfl)) (fun _ _ _ h => h) (Or.inl ⟨by rfl, ?_⟩) ?_ ?_
       rotate_left
       ·intro w'
        go_simp
        with_reducible rfl
       rotate_left
       ·simp only [Act.put, qA, qB, qC, i64_w, i32_w]
        rfl
       refine pure_ (i := 2) (N := some 51) (v := ?_) (a' := ?_) #[tT,fF,tT,fF,fF,fF,fF,fF] rfl rfl (any_of HT_.out (by kernel_rfl)) (fun _ _ _ h => h) (Or.inl ⟨by rfl, ?_⟩) ?_ ?_
       rotate_left
       ·intro w'
        go_simp
        with_reducible rfl
       rotate_left
       ·simp only [Act.put, qA, qB, qC, i64_w, i32_w]
        rfl
       refine pure_ (i := 3) (N := some 52) (v := ?_) (a' := ?_) #[tT,fF,tT,tT,fF,fF,fF,fF] rfl rfl (any_of HT_.out (by kernel_rfl)) (fun _ _ _ h => h) (Or.inl ⟨by rfl, ?_⟩) ?_ ?_
       rotate_left
       ·intro w'
        go_simp
        with_reducible rfl
       rotate_left
       ·simp only [Act.put, qA, qB, qC, i64_w, i32_w]
        rfl
       refine take_ (i := 1) (N := some 50) (v := ?_) (a' := ?_) #[tT,tT,tT,tT,fF,fF,fF,fF] rfl rfl (take_ofW HT_.out HW_.out (by kernel_rfl)) (fun _ _ _ h => h) (Or.inl ⟨by rfl, ?_⟩) hHeld ?_ ?_
       rotate_left
       ·rintro w' ⟨s0, s1, s2⟩
        go_simp
        with_reducible rfl
       rotate_left
       ·simp only [Act.put, qA, qB, qC, i64_w, i32_w]
        rfl
       refine one_ (i := 4) (N := some 53) #[tT,tT,tT,tT,tT,fF,fF,fF] rfl rfl (one_of HT_.out (by kernel_rfl)) (by decide) (fun K hK => ?_)
       refine gS Try.func58 (by kernel_rfl) rfl #[.string t204, .int .i64 a1] (by rfl) rfl rfl ?_
       with_reducible refine (impl_weighed.calls kj3 t204 a1 t207 _ A31.out).mono ?_
       rintro e w51 ⟨rfl, hb⟩
       refine ⟨_, rfl, ?_⟩
       replace HO199 := xK HO199.out hb
       replace BK194 := yK BK194.out hb
       replace BK195 := yK BK195.out hb
       replace BK202 := yK BK202.out hb
       replace HB := aM (zT (zH HB.out) hb)
       (try clear hb)
       refine hK.out _ _ ⟨yc BK194.out 0, yc BK194.out 1, yc BK194.out 2⟩ (fun hHeld => ?_)
       clear hK K
       refine norm_ (a' := ?_) ?_ ?_
       rotate_left
       ·show Act.put _ (some 53) _ = _
        simp only [Act.put, qA, qB, qC, i64_w, i32_w]
        rfl
       refine one_ (i := 5) (N := some 54) #[tT,tT,tT,tT,tT,tT,fF,fF] rfl rfl (one_of HT_.out (by kernel_rfl)) (by decide) (fun K hK => ?_)
       refine gS Try.func57 (by kernel_rfl) rfl #[.string a0_2, .string t207] (by rfl) rfl rfl ?_
       with_reducible refine (impl_xor.calls a0_2 t207 t208 _ A32.out).mono ?_
       rintro e w52 ⟨rfl, hb⟩
       refine ⟨_, rfl, ?_⟩
       replace HO199 := xK HO199.out hb
       replace BK194 := yK BK194.out hb
       replace BK195 := yK BK195.out hb
       replace BK202 := yK BK202.out hb
       replace HB := aM (zT (zH HB.out) hb)
       (try clear hb)
       refine hK.out _ _ ⟨yc BK194.out 0, yc BK194.out 1, yc BK194.out 2⟩ (fun hHeld => ?_)
       clear hK K
       refine norm_ (a' := ?_) ?_ ?_
       rotate_left
       ·show Act.put _ (some 54) _ = _
        simp only [Act.put, qA, qB, qC, i64_w, i32_w]
        rfl
       refine pure_ (i := 6) (N := some 55) (v := ?_) (a' := ?_) #[tT,tT,tT,tT,tT,tT,tT,fF] rfl rfl (any_of HT_.out (by kernel_rfl)) (fun _ _ _ h => h) (Or.inl ⟨by rfl, ?_⟩) ?_ ?_
       rotate_left
       ·intro w'
        go_simp
        with_reducible rfl
       rotate_left
       ·simp only [Act.put, qA, qB, qC, i64_w, i32_w]
        rfl
       refine one_ (i := 7) (N := none) #[tT,tT,tT,tT,tT,tT,tT,tT] rfl rfl (one_of HT_.out (by kernel_rfl)) (by decide) (fun K hK => ?_)
       have hs53 : w52.cell? ⟨gb202, 2, none⟩ = some (.string t201) := yc BK202.out 2
       have hfs53 := yZ BK202.out 2
       have hns53_0 := NB194_202.out
       have hns53_1 := NB195_202.out
       have hms53_0 := NB202_194.out
       have hms53_1 := NB202_195.out
       refine skip_ (w1 := ?_) (by rfl) rfl ?_ ?_
       rotate_left
       ·go_simp
        rfl
       refine hK.out _ _ ⟨((cell_far (p := ⟨gb202, _, none⟩) NB194_202.out _).trans (hHeld.1)), ((cell_far (p := ⟨gb202, _, none⟩) NB194_202.out _).trans (hHeld.2.1)), ((cell_far (p := ⟨gb202, _, none⟩) NB194_202.out _).trans (hHeld.2.2))⟩ (fun hHeld => ?_)
       clear hK K
       refine done_ (done_of HT_.out (by kernel_rfl)) ?_
       have hcz54_0 : w52.cell? ⟨gb202, 0, none⟩ = some (.slice (some ⟨go29, 0, none⟩) t197.length co37) := yc BK202.out 0
       have hcz54_1 : w52.cell? ⟨gb202, 1, none⟩ = some (.string t206) := yc BK202.out 1
       have hcz54_2 : w52.cell? ⟨gb202, 2, none⟩ = some (.string t201) := yc BK202.out 2
       have hfz54_0 := yZ BK202.out 0
       have hfz54_1 := yZ BK202.out 1
       have hfz54_2 := yZ BK202.out 2
       have hcz55_0 : w52.cell? ⟨gb195, 0, none⟩ = some (.slice none 0 0) := yc BK195.out 0
       have hcz55_1 : w52.cell? ⟨gb195, 1, none⟩ = some (.string (⟨#[]⟩ : ByteArray)) := yc BK195.out 1
       have hcz55_2 : w52.cell? ⟨gb195, 2, none⟩ = some (.string (⟨#[]⟩ : ByteArray)) := yc BK195.out 2
       have hfz55_0 := yZ BK195.out 0
       have hfz55_1 := yZ BK195.out 1
       have hfz55_2 := yZ BK195.out 2
       try go_wp2
       refine bodyPost_ret (results_ct rfl _ _ gb195 27 #[.slice (some ⟨go29, 0, none⟩) t197.length co37, .string t206, .string t208] (0, 0) _ rfl (by (with_reducible repeat (first | refine yN ?_ _ | refine yD ?_ | refine yA ?_ _)); refine yP (cs := #[.slice (some ⟨go29, 0, none⟩) t197.length co37, .string t206, .string (⟨#[]⟩ : ByteArray)]) ?_ 2 _ rfl; (with_reducible repeat (first | refine yN ?_ _ | refine yD ?_ | refine yA ?_ _)); refine yP (cs := #[.slice (some ⟨go29, 0, none⟩) t197.length co37, .string (⟨#[]⟩ : ByteArray), .string (⟨#[]⟩ : ByteArray)]) ?_ 1 _ rfl; (with_reducible repeat (first | refine yN ?_ _ | refine yD ?_ | refine yA ?_ _)); refine yP (cs := #[.slice none 0 0, .string (⟨#[]⟩ : ByteArray), .string (⟨#[]⟩ : ByteArray)]) ?_ 0 _ rfl; (with_reducible repeat (first | refine yN ?_ _ | refine yD ?_ | refine yA ?_ _)); refine yF ?_ NB195_202.out _; (with_reducible repeat (first | refine yN ?_ _ | refine yD ?_ | refine yA ?_ _)); exact BK195.out) Try.underlying27 rfl (by kernel_rfl)) rfl ?_
       exact ⟨_, by first | rfl | (simp [errW_none, errW_some] <;> rfl) | (simp [*, errW_none, errW_some] <;> rfl), xH (xM (xF (p := ⟨gb195, 2, none⟩) (xF (p := ⟨gb195, 1, none⟩) (xF (p := ⟨gb195, 0, none⟩) (xF (p := ⟨gb202, 2, none⟩) (xT (xT HO199.out BK202.out (by decide)) BK195.out (by decide)) (fun _ hk => hk.1.2) (.string t208)) (fun _ hk => hk.2) (.slice (some ⟨go29, 0, none⟩) t197.length co37)) (fun _ hk => hk.2) (.string t206)) (fun _ hk => hk.2) (.string t208)) (fun _ hk => trivial)), zH HB.out⟩
      ·rw [if_neg c28] at H
       exact absurd H (by simp)
     ·rw [if_neg c26] at H
      exact absurd H (by simp)
    ·rw [if_neg c25] at H
     exact absurd H (by simp)

/-! ### spec_l1Zeros: function 82 -/
def spec_l1Zeros.f (a0 : Int) : Option (ByteArray) := if 0 ≤ a0 then (if (a0 : Int).toNat ≤ 281474976710656 then (some (strOfNums (List.replicate (a0 : Int).toNat 0))) else (none)) else (none)
set_option maxHeartbeats 8000000 in
set_option maxRecDepth 100000 in
theorem spec_l1Zeros.calls (a0 : Int) (r : ByteArray) (w : World) (h : spec_l1Zeros.f a0 = some r) :
  Calls Try.prog 82 #[.int .i64 a0] w fun e w' => e = .returned (.string r) ∧ Below w.heap.size w w' := by
 have HB := aM (Below.refl w.heap.size w)
 have H : (if 0 ≤ a0 then (if (a0 : Int).toNat ≤ 281474976710656 then (some (strOfNums (List.replicate (a0 : Int).toNat 0))) else (none)) else (none)) = some r := h
 clear h
 by_cases c2 : 0 ≤ a0
 ·rw [if_pos c2] at H
  have c2b0 := eq_true c2
  have c2b1 : decide (0 ≤ a0) = true := decide_eq_true c2
  clear c2
  by_cases c3 : (a0 : Int).toNat ≤ 281474976710656
  ·rw [if_pos c3] at H
   have c3b0 := eq_true c3
   have c3b1 : decide ((a0 : Int).toNat ≤ 281474976710656) = true := decide_eq_true c3
   clear c3
   obtain ⟨y209, hy209⟩ : ∃ y_ : List Int, y_ = (List.replicate (a0 : Int).toNat 0) := ⟨_, rfl⟩
   replace H : (some (strOfNums y209)) = some r := by first | (rw [hy209]; with_reducible exact H) | (have H2_ := (Option.bind_some _ _).symm.trans H; rw [hy209]; with_reducible exact H2_) | (have H2_ := (Option.bind_some _ _).symm.trans H; with_reducible exact H2_) | with_reducible exact H | (rw [hy209]; exact H) | exact H
   have Ny209 := aM hy209
   clear hy209
   obtain rfl := Option.some.inj H
   go_enter Try.func82, Try.ntmps82
   go_wp2_with (first | ((with_reducible refine gate_dst (N := 4) rfl ?_); refine Kd.R_make (Kd.int .u8) _ 5 rfl (N := 4) rfl 48 _ _ rfl a0 rfl rfl Try.underlying48 (.int .u8 0) 1 info5 rfl (by decide) (by omega) 0 (ok := fun _ => True) (okp := fun _ => True) rfl (fun _ hk => hk) trivial (of_decide_eq_true (by first | (with_reducible assumption) | assumption)) (Nat.le_trans (Nat.mul_le_mul_right _ (of_decide_eq_true (by first | (with_reducible assumption) | assumption) : a0.toNat ≤ 281474976710656)) (by omega)) (Below.refl _ _) (Nat.le_refl _) ?_; intro v210 w4 ho5 hb hg_ hnew_; clear hg_ hnew_; (first | rw [← Ny209.out] at ho5 | (simp only [Int.reduceToNat] at ho5; rw [← Ny209.out] at ho5)); have HO211 := aM (xL ho5 (zZ (zH HB.out))); replace HB := aM (zT (zH HB.out) hb); clear hb ho5; have hcv6 := own_string (P := Try.prog) Try.underlying48 Try.underlying5 Try.underlying9 (Kd.own_of_R HO211.out)))
   go_ret
   exact ⟨by first | rfl | (simp [errW_none, errW_some] <;> rfl) | (simp [*, errW_none, errW_some] <;> rfl), zH HB.out⟩
  ·rw [if_neg c3] at H
   exact absurd H (by simp)
 ·rw [if_neg c2] at H
  exact absurd H (by simp)

/-! ### spec_l3Blank: function 75 -/
def spec_l3Blank.f (l0_0 : List ByteArray) (a0_1 : ByteArray) (a0_2 : ByteArray) (a1 : Int) : Option (List ByteArray × ByteArray × ByteArray) := (spec_l3Own.f l0_0 a0_1 a0_2).bind fun bt214 => (if a1 < (bt214.1.length : Int) then ((spec_l1Zeros.f (bt214.2.1.size : Int)).bind fun t219 => (if 0 ≤ a1 then (some ((bt214.1.set (a1 : Int).toNat t219), bt214.2.1, bt214.2.2)) else (none))) else (if a1 = (bt214.1.length : Int) then ((spec_l1Zeros.f (bt214.2.1.size : Int)).bind fun t221 => (some (bt214.1, t221, bt214.2.2))) else ((spec_l1Zeros.f (bt214.2.2.size : Int)).bind fun t222 => (some (bt214.1, bt214.2.1, t222)))))
def spec_l3Blank.T5 : Bool × List (List Nat × List Nat) := (true, [([], []), ([0], [0]), ([], []), ([], []), ([3], [3]), ([4], [4]), ([5], [5]), ([1, 2, 0, 1, 2, 3, 4, 5, 6], [1, 2]), ([7, 6, 6, 0, 1, 2, 3, 4, 5, 6], [6, 7])])
def spec_l3Blank.B5 : List Nat := [0, 1, 0, 0, 8, 24, 56, 127, 255]
theorem spec_l3Blank.tab5 : rtab .any (opsOf Try.f75 5) = spec_l3Blank.T5 := by kernel_rfl
theorem spec_l3Blank.bits5 : waitsOk spec_l3Blank.T5.2 spec_l3Blank.B5 = true := by kernel_rfl
set_option maxHeartbeats 8000000 in
set_option maxRecDepth 100000 in
theorem spec_l3Blank.calls (A0_0 : Option Addr) (c0_0 : Nat) (l0_0 : List ByteArray) (a0_1 : ByteArray) (a0_2 : ByteArray) (a1 : Int) (r1 : List ByteArray) (r2 : ByteArray) (r3 : ByteArray) (w : World) (hr0_0 : Kd.C Kd.string w A0_0 l0_0.length l0_0) (hc0_0 : l0_0.length ≤ c0_0) (h : spec_l3Blank.f l0_0 a0_1 a0_2 a1 = some (r1, r2, r3)) :
  Calls Try.prog 75 #[.agg #[.slice A0_0 l0_0.length c0_0, .string a0_1, .string a0_2], .int .i64 a1] w fun e w' => ∃ v0_ : Value, e = .returned (.agg #[v0_, .string r2, .string r3]) ∧ Kd.R Kd.string 9 w' w.heap.size (fun _ => True) v0_ r1 ∧ Below w.heap.size w w' := by
 have hu27 := Try.underlying27
 have HR0_0 := aM hr0_0
 have HC0_0 := aM hc0_0
 clear hr0_0 hc0_0
 have HB := aM (Below.refl w.heap.size w)
 have H : ((spec_l3Own.f l0_0 a0_1 a0_2).bind fun bt214 => (if a1 < (bt214.1.length : Int) then ((spec_l1Zeros.f (bt214.2.1.size : Int)).bind fun t219 => (if 0 ≤ a1 then (some ((bt214.1.set (a1 : Int).toNat t219), bt214.2.1, bt214.2.2)) else (none))) else (if a1 = (bt214.1.length : Int) then ((spec_l1Zeros.f (bt214.2.1.size : Int)).bind fun t221 => (some (bt214.1, t221, bt214.2.2))) else ((spec_l1Zeros.f (bt214.2.2.size : Int)).bind fun t222 => (some (bt214.1, bt214.2.1, t222)))))) = some (r1, r2, r3) := h
 clear h
 replace H := Option.bind_eq_some_iff.mp H
 obtain ⟨⟨t214, t217, t218⟩, A30, H⟩ := H
 replace H : (if a1 < (t214.length : Int) then ((spec_l1Zeros.f (t217.size : Int)).bind fun t219 => (if 0 ≤ a1 then (some ((t214.set (a1 : Int).toNat t219), t217, t218)) else (none))) else (if a1 = (t214.length : Int) then ((spec_l1Zeros.f (t217.size : Int)).bind fun t221 => (some (t214, t221, t218))) else ((spec_l1Zeros.f (t218.size : Int)).bind fun t222 => (some (t214, t217, t222))))) = some (r1, r2, r3) := H
 have A3 := aM A30
 clear A30
 by_cases c4 : a1 < (t214.length : Int)
 ·rw [if_pos c4] at H
  have c4b0 : decide (a1 < (t214.length : Int)) = true := decide_eq_true c4
  clear c4
  replace H := Option.bind_eq_some_iff.mp H
  obtain ⟨t219, A50, H⟩ := H
  replace H : (if 0 ≤ a1 then (some ((t214.set (a1 : Int).toNat t219), t217, t218)) else (none)) = some (r1, r2, r3) := H
  have A5 := aM A50
  clear A50
  by_cases c6 : 0 ≤ a1
  ·rw [if_pos c6] at H
   have c6b0 : decide (0 ≤ a1) = true := decide_eq_true c6
   clear c6
   obtain ⟨y220, hy220⟩ : ∃ y_ : List ByteArray, y_ = (t214.set (a1 : Int).toNat t219) := ⟨_, rfl⟩
   replace H : (some (y220, t217, t218)) = some (r1, r2, r3) := by first | (rw [hy220]; with_reducible exact H) | (have H2_ := (Option.bind_some _ _).symm.trans H; rw [hy220]; with_reducible exact H2_) | (have H2_ := (Option.bind_some _ _).symm.trans H; with_reducible exact H2_) | with_reducible exact H | (rw [hy220]; exact H) | exact H
   have Ny220 := aM hy220
   clear hy220
   simp only [Option.some.injEq, Prod.mk.injEq] at H
   obtain ⟨rfl, rfl, rfl⟩ := H
   go_enter Try.func75, Try.ntmps75
   try go_wp2_with (first | ((with_reducible refine gate_dst (N := 2) rfl ?_); refine box_event ?hg (N := 2) ?hd (cs := #[.slice A0_0 l0_0.length c0_0, .string a0_1, .string a0_2]) (t := 27) ?hr ?_; (case hd => rfl); (case hg => rfl); (case hr => first | (go_simp; done) | (go_simp; rfl)); intro gb212 hg w8 hbox hb; have BK212 := aM (hbox); have GW212 := aM ((by rw [hg]; exact (zZ (zH HB.out)) : w.heap.size ≤ gb212)); have GE212 := aM ((by rw [hg]; exact (zZ (zH HB.out)) : w.heap.size ≤ gb212)); replace HB := aM (zT (zH HB.out) hb); clear hb hbox hg) | ((with_reducible refine gate_dst (N := 4) rfl ?_); refine box_event ?hg (N := 4) ?hd (cs := #[.slice none 0 0, .string (⟨#[]⟩ : ByteArray), .string (⟨#[]⟩ : ByteArray)]) (t := 27) ?hr ?_; (case hd => rfl); (case hg => rfl); (case hr => first | (go_simp; done) | (go_simp; rfl)); intro gb213 hg w9 hbox hb; have BK213 := aM (hbox); have GW213 := aM ((by rw [hg]; exact (zZ (zH HB.out)) : w.heap.size ≤ gb213)); have GE213 := aM ((by rw [hg]; exact (zZ (zH HB.out)) : w.heap.size ≤ gb213)); replace HB := aM (zT (zH HB.out) hb); have NB212_213 := nL BK212.out hg; have NB213_212 := nR BK212.out hg; replace BK212 := yK BK212.out hb; clear hb hbox hg; have hnb10 := NB212_213.out; have hnc10 := NB213_212.out; have hcz11_0 : w9.cell? ⟨gb212, 0, none⟩ = some (.slice A0_0 l0_0.length c0_0) := yc BK212.out 0; have hcz11_1 : w9.cell? ⟨gb212, 1, none⟩ = some (.string a0_1) := yc BK212.out 1; have hcz11_2 : w9.cell? ⟨gb212, 2, none⟩ = some (.string a0_2) := yc BK212.out 2; have hfz11_0 := yZ BK212.out 0; have hfz11_1 := yZ BK212.out 1; have hfz11_2 := yZ BK212.out 2) | ((with_reducible refine gate_callee (f := 51) rfl ?_); refine goesL_ (some 7) rfl rfl Try.func51 (by kernel_rfl) rfl #[.agg #[.slice A0_0 l0_0.length c0_0, .string a0_1, .string a0_2]] rfl (by (try simp only [List.map_toArray, List.map_cons, List.map_nil]); first | done | rfl | (simp only [List.length_drop, List.length_take]; rfl)) ?_; (with_reducible refine (spec_l3Own.calls _ _ l0_0 a0_1 a0_2 t214 t217 t218 _ ?side1 ?side2 A3.out).mono ?_); (case side1 => exact cK HR0_0.out HB.out); (case side2 => exact HC0_0.out); rintro e w12 ⟨v215, rfl, ho0, hb⟩; refine ⟨_, rfl, ?_⟩; have HO216 := aM (xL ho0 (zZ (zH HB.out))); replace BK212 := yK BK212.out hb; replace BK213 := yK BK213.out hb; replace HB := aM (zT (zH HB.out) hb); (try clear hb); (try clear ho0); obtain ⟨Ao13, co13, eo13⟩ := Kd.R_slice HO216.out; subst eo13; have hcz14_0 : w12.cell? ⟨gb212, 0, none⟩ = some (.slice A0_0 l0_0.length c0_0) := yc BK212.out 0; have hcz14_1 : w12.cell? ⟨gb212, 1, none⟩ = some (.string a0_1) := yc BK212.out 1; have hcz14_2 : w12.cell? ⟨gb212, 2, none⟩ = some (.string a0_2) := yc BK212.out 2; have hfz14_0 := yZ BK212.out 0; have hfz14_1 := yZ BK212.out 1; have hfz14_2 := yZ BK212.out 2))
   have n0_ : Aside0 (Kd.R Kd.string 9 (((w12.setCell ⟨gb212, 0, none⟩ (.slice Ao13 t214.length co13)).setCell ⟨gb212, 1, none⟩ (.string t217)).setCell ⟨gb212, 2, none⟩ (.string t218)) w.heap.size (fun _ => True) (.slice Ao13 t214.length co13) t214) := ⟨xH (xM (xF (p := ⟨gb212, 2, none⟩) (xF (p := ⟨gb212, 1, none⟩) (xF (p := ⟨gb212, 0, none⟩) (xT HO216.out BK212.out (by decide)) (fun _ hk => hk.2) (.slice Ao13 t214.length co13)) (fun _ hk => hk.2) (.string t217)) (fun _ hk => hk.2) (.string t218)) (fun _ hk => trivial))⟩
   have n1_ : Aside0 ((((w12.setCell ⟨gb212, 0, none⟩ (.slice Ao13 t214.length co13)).setCell ⟨gb212, 1, none⟩ (.string t217)).setCell ⟨gb212, 2, none⟩ (.string t218)).heap[gb212]? = some (.cells #[.slice Ao13 t214.length co13, .string t217, .string t218] 27 (0, 0))) := ⟨by (with_reducible repeat (first | refine yN ?_ _ | refine yD ?_ | refine yA ?_ _)); refine yP (cs := #[.slice Ao13 t214.length co13, .string t217, .string a0_2]) ?_ 2 _ rfl; (with_reducible repeat (first | refine yN ?_ _ | refine yD ?_ | refine yA ?_ _)); refine yP (cs := #[.slice Ao13 t214.length co13, .string a0_1, .string a0_2]) ?_ 1 _ rfl; (with_reducible repeat (first | refine yN ?_ _ | refine yD ?_ | refine yA ?_ _)); refine yP (cs := #[.slice A0_0 l0_0.length c0_0, .string a0_1, .string a0_2]) ?_ 0 _ rfl; (with_reducible repeat (first | refine yN ?_ _ | refine yD ?_ | refine yA ?_ _)); exact BK212.out⟩
   have n2_ : Aside0 ((((w12.setCell ⟨gb212, 0, none⟩ (.slice Ao13 t214.length co13)).setCell ⟨gb212, 1, none⟩ (.string t217)).setCell ⟨gb212, 2, none⟩ (.string t218)).heap[gb213]? = some (.cells #[.slice none 0 0, .string (⟨#[]⟩ : ByteArray), .string (⟨#[]⟩ : ByteArray)] 27 (0, 0))) := ⟨by (with_reducible repeat (first | refine yN ?_ _ | refine yD ?_ | refine yA ?_ _)); refine yF ?_ NB213_212.out _; (with_reducible repeat (first | refine yN ?_ _ | refine yD ?_ | refine yA ?_ _)); refine yF ?_ NB213_212.out _; (with_reducible repeat (first | refine yN ?_ _ | refine yD ?_ | refine yA ?_ _)); refine yF ?_ NB213_212.out _; (with_reducible repeat (first | refine yN ?_ _ | refine yD ?_ | refine yA ?_ _)); exact BK213.out⟩
   have n3_ : Aside0 (Below w.heap.size w (((w12.setCell ⟨gb212, 0, none⟩ (.slice Ao13 t214.length co13)).setCell ⟨gb212, 1, none⟩ (.string t217)).setCell ⟨gb212, 2, none⟩ (.string t218))) := ⟨zH HB.out⟩
   (try clear HO216); (try clear BK212); (try clear BK213); (try clear HB)
   generalize (((w12.setCell ⟨gb212, 0, none⟩ (.slice Ao13 t214.length co13)).setCell ⟨gb212, 1, none⟩ (.string t217)).setCell ⟨gb212, 2, none⟩ (.string t218)) = w15 at n0_ n1_ n2_ n3_ ⊢
   have HO216 := n0_
   have BK212 := n1_
   have BK213 := n2_
   have HB := n3_
   clear n0_ n1_ n2_ n3_
   replace HO216 := aM (xD HO216.out)
   replace BK212 := aM (yD BK212.out)
   replace BK213 := aM (yD BK213.out)
   replace HB := aM (zD HB.out)
   refine start_ (n := 9) (S := fun w' => w'.cell? ⟨gb212, 0, none⟩ = some (.slice Ao13 t214.length co13) ∧ w'.cell? ⟨gb212, 1, none⟩ = some (.string t217) ∧ w'.cell? ⟨gb212, 2, none⟩ = some (.string t218)) (ds := [8]) #[fF,fF,fF,fF,fF,fF,fF,fF,fF] (by kernel_rfl) rfl rfl ⟨yc BK212.out 0, yc BK212.out 1, yc BK212.out 2⟩ (fun hHeld => ?_); refine with_tabW spec_l3Blank.tab5 spec_l3Blank.bits5 (fun HT_ HW_ => ?_)
   generalize w15.drew = w16 at HO216 BK212 BK213 HB hHeld ⊢
   refine pure_ (i := 0) (N := some 20) (v := ?_) (a' := ?_) #[tT,fF,fF,fF,fF,fF,fF,fF,fF] rfl rfl (any_of HT_.out (by kernel_rfl)) (fun _ _ _ h => h) (Or.inl ⟨by rfl, ?_⟩) ?_ ?_
   rotate_left
   ·intro w'
    go_simp
    with_reducible rfl
   rotate_left
   ·simp only [Act.put, qA, qB, qC, i64_w, i32_w]
    rfl
   refine pure_ (i := 2) (N := some 22) (v := ?_) (a' := ?_) #[tT,fF,tT,fF,fF,fF,fF,fF,fF] rfl rfl (any_of HT_.out (by kernel_rfl)) (fun _ _ _ h => h) (Or.inl ⟨by rfl, ?_⟩) ?_ ?_
   rotate_left
   ·intro w'
    go_simp
    with_reducible rfl
   rotate_left
   ·simp only [Act.put, qA, qB, qC, i64_w, i32_w]
    rfl
   refine pure_ (i := 3) (N := some 23) (v := ?_) (a' := ?_) #[tT,fF,tT,tT,fF,fF,fF,fF,fF] rfl rfl (any_of HT_.out (by kernel_rfl)) (fun _ _ _ h => h) (Or.inl ⟨by rfl, ?_⟩) ?_ ?_
   rotate_left
   ·intro w'
    go_simp
    with_reducible rfl
   rotate_left
   ·simp only [Act.put, qA, qB, qC, i64_w, i32_w]
    rfl
   refine take_ (i := 1) (N := some 21) (v := ?_) (a' := ?_) #[tT,tT,tT,tT,fF,fF,fF,fF,fF] rfl rfl (take_ofW HT_.out HW_.out (by kernel_rfl)) (fun _ _ _ h => h) (Or.inl ⟨by rfl, ?_⟩) hHeld ?_ ?_
   rotate_left
   ·rintro w' ⟨s0, s1, s2⟩
    go_simp
    with_reducible rfl
   rotate_left
   ·simp only [Act.put, qA, qB, qC, i64_w, i32_w]
    rfl
   refine take_ (i := 4) (N := some 24) (v := ?_) (a' := ?_) #[tT,tT,tT,tT,tT,fF,fF,fF,fF] rfl rfl (take_ofW HT_.out HW_.out (by kernel_rfl)) (fun _ _ _ h => h) (Or.inl ⟨by rfl, ?_⟩) hHeld ?_ ?_
   rotate_left
   ·rintro w' ⟨s0, s1, s2⟩
    go_simp
    with_reducible rfl
   rotate_left
   ·simp only [Act.put, qA, qB, qC, i64_w, i32_w]
    rfl
   refine pure_ (i := 5) (N := some 25) (v := ?_) (a' := ?_) #[tT,tT,tT,tT,tT,tT,fF,fF,fF] rfl rfl (any_of HT_.out (by kernel_rfl)) (fun _ _ _ h => h) (Or.inl ⟨by rfl, ?_⟩) ?_ ?_
   rotate_left
   ·intro w'
    go_simp
    with_reducible rfl
   rotate_left
   ·simp only [Act.put, qA, qB, qC, i64_w, i32_w]
    rfl
   refine one_ (i := 6) (N := some 26) #[tT,tT,tT,tT,tT,tT,tT,fF,fF] rfl rfl (one_of HT_.out (by kernel_rfl)) (by decide) (fun K hK => ?_)
   refine gS Try.func82 (by kernel_rfl) rfl #[.int .i64 (t217.size : Int)] (by rfl) rfl rfl ?_
   with_reducible refine (spec_l1Zeros.calls (t217.size : Int) t219 _ A5.out).mono ?_
   rintro e w17 ⟨rfl, hb⟩
   refine ⟨_, rfl, ?_⟩
   replace HO216 := xK HO216.out hb
   replace BK212 := yK BK212.out hb
   replace BK213 := yK BK213.out hb
   replace HB := aM (zT (zH HB.out) hb)
   (try clear hb)
   have p7 : 0 ≤ (a1 : Int) := of_decide_eq_true (by first | (with_reducible assumption) | assumption)
   have q7 : (a1 : Int) < ((t214.length : Int) : Int) := of_decide_eq_true (by first | (with_reducible assumption) | assumption)
   obtain ⟨go7, co7, eo7, gb7, gl7, cl7, HG7⟩ := Kd.R_form HO216.out (by omega)
   (first | cases eo7 | (injection eo7 with ea_ en_ ec_; (first | subst ea_ | (injection ea_ with ea_; subst ea_)); subst ec_; clear en_))
   have GB7 := aM gb7
   have GG7 := aM HG7
   clear gb7 gl7 HG7
   obtain ⟨hx7_0, hf7_0⟩ := Kd.R_celln (⟨#[]⟩ : ByteArray) HO216.out (a1 : Int) p7 q7
   replace p7 := eq_true p7
   replace q7 := eq_true q7
   have HP18 := Kd.R_putn HO216.out (a1 : Int) t219
   rw [← Ny220.out] at HP18
   have HQ18 := aM HP18
   clear HP18
   refine hK.out _ _ ⟨yc BK212.out 0, yc BK212.out 1, yc BK212.out 2⟩ (fun hHeld => ?_)
   clear hK K
   refine norm_ (a' := ?_) ?_ ?_
   rotate_left
   ·show Act.put _ (some 26) _ = _
    simp only [Act.put, qA, qB, qC, i64_w, i32_w]
    rfl
   refine pure_ (i := 7) (N := some 27) (v := ?_) (a' := ?_) #[tT,tT,tT,tT,tT,tT,tT,tT,fF] rfl rfl (any_of HT_.out (by kernel_rfl)) (fun _ _ _ h => h) (Or.inl ⟨by rfl, ?_⟩) ?_ ?_
   rotate_left
   ·intro w'
    go_simp
    with_reducible rfl
   rotate_left
   ·simp only [Act.put, qA, qB, qC, i64_w, i32_w]
    rfl
   refine last_ (i := 8) (N := none) #[tT,tT,tT,tT,tT,tT,tT,tT,tT] rfl rfl (one_of HT_.out (by kernel_rfl)) (by decide) (fun K hK => ?_)
   refine skip_ (w1 := ?_) (by rfl) rfl ?_ ?_
   rotate_left
   ·go_simp
    rfl
   refine hK.out _ _ ?_
   clear hK K
   refine done_ (done_of HT_.out (by kernel_rfl)) ?_
   have n0_ : Aside0 (Kd.R Kd.string 9 (w17.setCell ⟨go7, (a1 : Int).toNat, none⟩ (.string t219)) w.heap.size (fun _ => True) (.slice (some ⟨go7, 0, none⟩) t214.length co13) y220) := ⟨xH HQ18.out⟩
   have n1_ : Aside0 ((w17.setCell ⟨go7, (a1 : Int).toNat, none⟩ (.string t219)).heap[gb212]? = some (.cells #[.slice (some ⟨go7, 0, none⟩) t214.length co13, .string t217, .string t218] 27 (0, 0))) := ⟨by (with_reducible repeat (first | refine yN ?_ _ | refine yD ?_ | refine yA ?_ _)); refine yF ?_ (by have h_ := Kd.R_ne HO216.out BK212.out (by decide); intro e_; exact h_ (by rw [e_]; rfl)) _; (with_reducible repeat (first | refine yN ?_ _ | refine yD ?_ | refine yA ?_ _)); exact BK212.out⟩
   have n2_ : Aside0 ((w17.setCell ⟨go7, (a1 : Int).toNat, none⟩ (.string t219)).heap[gb213]? = some (.cells #[.slice none 0 0, .string (⟨#[]⟩ : ByteArray), .string (⟨#[]⟩ : ByteArray)] 27 (0, 0))) := ⟨by (with_reducible repeat (first | refine yN ?_ _ | refine yD ?_ | refine yA ?_ _)); refine yF ?_ (by have h_ := Kd.R_ne HO216.out BK213.out (by decide); intro e_; exact h_ (by rw [e_]; rfl)) _; (with_reducible repeat (first | refine yN ?_ _ | refine yD ?_ | refine yA ?_ _)); exact BK213.out⟩
   have n3_ : Aside0 (Below w.heap.size w (w17.setCell ⟨go7, (a1 : Int).toNat, none⟩ (.string t219))) := ⟨by repeat (first | (with_reducible first | exact HB.out | apply zA | apply zN | apply zD | refine zS ?_ GB7.out | refine zS ?_ GE212.out | refine zS ?_ GE213.out) | exact HB.out)⟩
   (try clear HO216); (try clear BK212); (try clear BK213); (try clear HB)
   generalize (w17.setCell ⟨go7, (a1 : Int).toNat, none⟩ (.string t219)) = w19 at n0_ n1_ n2_ n3_ ⊢
   have HO216 := n0_
   have BK212 := n1_
   have BK213 := n2_
   have HB := n3_
   clear n0_ n1_ n2_ n3_
   have hcz20_0 : w19.cell? ⟨gb212, 0, none⟩ = some (.slice (some ⟨go7, 0, none⟩) t214.length co13) := yc BK212.out 0
   have hcz20_1 : w19.cell? ⟨gb212, 1, none⟩ = some (.string t217) := yc BK212.out 1
   have hcz20_2 : w19.cell? ⟨gb212, 2, none⟩ = some (.string t218) := yc BK212.out 2
   have hfz20_0 := yZ BK212.out 0
   have hfz20_1 := yZ BK212.out 1
   have hfz20_2 := yZ BK212.out 2
   have hcz21_0 : w19.cell? ⟨gb213, 0, none⟩ = some (.slice none 0 0) := yc BK213.out 0
   have hcz21_1 : w19.cell? ⟨gb213, 1, none⟩ = some (.string (⟨#[]⟩ : ByteArray)) := yc BK213.out 1
   have hcz21_2 : w19.cell? ⟨gb213, 2, none⟩ = some (.string (⟨#[]⟩ : ByteArray)) := yc BK213.out 2
   have hfz21_0 := yZ BK213.out 0
   have hfz21_1 := yZ BK213.out 1
   have hfz21_2 := yZ BK213.out 2
   try go_wp2
   refine bodyPost_ret (results_cell_row rfl _ _ gb213 27 #[.slice (some ⟨go7, 0, none⟩) t214.length co13, .string t217, .string t218] (0, 0) _ rfl (by (with_reducible repeat (first | refine yN ?_ _ | refine yD ?_ | refine yA ?_ _)); refine yP (cs := #[.slice (some ⟨go7, 0, none⟩) t214.length co13, .string t217, .string (⟨#[]⟩ : ByteArray)]) ?_ 2 _ rfl; (with_reducible repeat (first | refine yN ?_ _ | refine yD ?_ | refine yA ?_ _)); refine yP (cs := #[.slice (some ⟨go7, 0, none⟩) t214.length co13, .string (⟨#[]⟩ : ByteArray), .string (⟨#[]⟩ : ByteArray)]) ?_ 1 _ rfl; (with_reducible repeat (first | refine yN ?_ _ | refine yD ?_ | refine yA ?_ _)); refine yP (cs := #[.slice none 0 0, .string (⟨#[]⟩ : ByteArray), .string (⟨#[]⟩ : ByteArray)]) ?_ 0 _ rfl; (with_reducible repeat (first | refine yN ?_ _ | refine yD ?_ | refine yA ?_ _)); exact BK213.out) Try.underlying27 rfl (by kernel_rfl)) rfl ?_
   exact ⟨_, by first | rfl | (simp [errW_none, errW_some] <;> rfl) | (simp [*, errW_none, errW_some] <;> rfl), xH (xM (xF (p := ⟨gb213, 2, none⟩) (xF (p := ⟨gb213, 1, none⟩) (xF (p := ⟨gb213, 0, none⟩) (xT HO216.out BK213.out (by decide)) (fun _ hk => hk.2) (.slice (some ⟨go7, 0, none⟩) t214.length co13)) (fun _ hk => hk.2) (.string t217)) (fun _ hk => hk.2) (.string t218)) (fun _ hk => trivial)), zH HB.out⟩
  ·rw [if_neg c6] at H
   exact absurd H (by simp)
 ·rw [if_neg c4] at H
  have c4b0 : decide (a1 < (t214.length : Int)) = false := decide_eq_false c4
  clear c4
  by_cases c22 : a1 = (t214.length : Int)
  ·rw [if_pos c22] at H
   have c22b0 : (a1 == (t214.length : Int)) = true := beq_iff_eq.mpr c22
   have c22b1 : (a1 != (t214.length : Int)) = false := bne_eq_false_iff_eq.mpr c22
   clear c22
   replace H := Option.bind_eq_some_iff.mp H
   obtain ⟨t221, A230, H⟩ := H
   replace H : (some (t214, t221, t218)) = some (r1, r2, r3) := H
   have A23 := aM A230
   clear A230
   simp only [Option.some.injEq, Prod.mk.injEq] at H
   obtain ⟨rfl, rfl, rfl⟩ := H
   go_enter Try.func75, Try.ntmps75
   go_wp2_with (first | ((with_reducible refine gate_dst (N := 2) rfl ?_); refine box_event ?hg (N := 2) ?hd (cs := #[.slice A0_0 l0_0.length c0_0, .string a0_1, .string a0_2]) (t := 27) ?hr ?_; (case hd => rfl); (case hg => rfl); (case hr => first | (go_simp; done) | (go_simp; rfl)); intro gb212 hg w24 hbox hb; have BK212 := aM (hbox); have GW212 := aM ((by rw [hg]; exact (zZ (zH HB.out)) : w.heap.size ≤ gb212)); have GE212 := aM ((by rw [hg]; exact (zZ (zH HB.out)) : w.heap.size ≤ gb212)); replace HB := aM (zT (zH HB.out) hb); clear hb hbox hg) | ((with_reducible refine gate_dst (N := 4) rfl ?_); refine box_event ?hg (N := 4) ?hd (cs := #[.slice none 0 0, .string (⟨#[]⟩ : ByteArray), .string (⟨#[]⟩ : ByteArray)]) (t := 27) ?hr ?_; (case hd => rfl); (case hg => rfl); (case hr => first | (go_simp; done) | (go_simp; rfl)); intro gb213 hg w25 hbox hb; have BK213 := aM (hbox); have GW213 := aM ((by rw [hg]; exact (zZ (zH HB.out)) : w.heap.size ≤ gb213)); have GE213 := aM ((by rw [hg]; exact (zZ (zH HB.out)) : w.heap.size ≤ gb213)); replace HB := aM (zT (zH HB.out) hb); have NB212_213 := nL BK212.out hg; have NB213_212 := nR BK212.out hg; replace BK212 := yK BK212.out hb; clear hb hbox hg; have hnb26 := NB212_213.out; have hnc26 := NB213_212.out; have hcz27_0 : w25.cell? ⟨gb212, 0, none⟩ = some (.slice A0_0 l0_0.length c0_0) := yc BK212.out 0; have hcz27_1 : w25.cell? ⟨gb212, 1, none⟩ = some (.string a0_1) := yc BK212.out 1; have hcz27_2 : w25.cell? ⟨gb212, 2, none⟩ = some (.string a0_2) := yc BK212.out 2; have hfz27_0 := yZ BK212.out 0; have hfz27_1 := yZ BK212.out 1; have hfz27_2 := yZ BK212.out 2) | ((with_reducible refine gate_callee (f := 51) rfl ?_); refine goesL_ (some 7) rfl rfl Try.func51 (by kernel_rfl) rfl #[.agg #[.slice A0_0 l0_0.length c0_0, .string a0_1, .string a0_2]] rfl (by (try simp only [List.map_toArray, List.map_cons, List.map_nil]); first | done | rfl | (simp only [List.length_drop, List.length_take]; rfl)) ?_; (with_reducible refine (spec_l3Own.calls _ _ l0_0 a0_1 a0_2 t214 t217 t218 _ ?side1 ?side2 A3.out).mono ?_); (case side1 => exact cK HR0_0.out HB.out); (case side2 => exact HC0_0.out); rintro e w28 ⟨v215, rfl, ho0, hb⟩; refine ⟨_, rfl, ?_⟩; have HO216 := aM (xL ho0 (zZ (zH HB.out))); replace BK212 := yK BK212.out hb; replace BK213 := yK BK213.out hb; replace HB := aM (zT (zH HB.out) hb); (try clear hb); (try clear ho0); obtain ⟨Ao29, co29, eo29⟩ := Kd.R_slice HO216.out; subst eo29; have hcz30_0 : w28.cell? ⟨gb212, 0, none⟩ = some (.slice A0_0 l0_0.length c0_0) := yc BK212.out 0; have hcz30_1 : w28.cell? ⟨gb212, 1, none⟩ = some (.string a0_1) := yc BK212.out 1; have hcz30_2 : w28.cell? ⟨gb212, 2, none⟩ = some (.string a0_2) := yc BK212.out 2; have hfz30_0 := yZ BK212.out 0; have hfz30_1 := yZ BK212.out 1; have hfz30_2 := yZ BK212.out 2) | ((with_reducible refine gate_callee (f := 82) rfl ?_); refine goesL_ (some 35) rfl rfl Try.func82 (by kernel_rfl) rfl #[.int .i64 (t217.size : Int)] rfl (by (try simp only [List.map_toArray, List.map_cons, List.map_nil]); first | done | rfl | (simp only [List.length_drop, List.length_take]; rfl)) ?_; (with_reducible refine (spec_l1Zeros.calls (t217.size : Int) t221 _ A23.out).mono ?_); rintro e w31 ⟨rfl, hb⟩; refine ⟨_, rfl, ?_⟩; replace HO216 := aM (xB (xH ((x3 HO216.out BK212.out (by decide) (.slice Ao29 t214.length co29) (.string t217) (.string t218)))) hb); replace BK212 := aM (yB (g := gb212) (o := .cells #[.slice Ao29 t214.length co29, .string t217, .string t218] 27 (0, 0)) (by (with_reducible repeat (first | refine yN ?_ _ | refine yD ?_ | refine yA ?_ _)); refine yP (cs := #[.slice Ao29 t214.length co29, .string t217, .string a0_2]) ?_ 2 _ rfl; (with_reducible repeat (first | refine yN ?_ _ | refine yD ?_ | refine yA ?_ _)); refine yP (cs := #[.slice Ao29 t214.length co29, .string a0_1, .string a0_2]) ?_ 1 _ rfl; (with_reducible repeat (first | refine yN ?_ _ | refine yD ?_ | refine yA ?_ _)); refine yP (cs := #[.slice A0_0 l0_0.length c0_0, .string a0_1, .string a0_2]) ?_ 0 _ rfl; (with_reducible repeat (first | refine yN ?_ _ | refine yD ?_ | refine yA ?_ _)); exact BK212.out) hb); replace BK213 := aM (yB (g := gb213) (o := .cells #[.slice none 0 0, .string (⟨#[]⟩ : ByteArray), .string (⟨#[]⟩ : ByteArray)] 27 (0, 0)) (by (with_reducible repeat (first | refine yN ?_ _ | refine yD ?_ | refine yA ?_ _)); refine yF ?_ NB213_212.out _; (with_reducible repeat (first | refine yN ?_ _ | refine yD ?_ | refine yA ?_ _)); refine yF ?_ NB213_212.out _; (with_reducible repeat (first | refine yN ?_ _ | refine yD ?_ | refine yA ?_ _)); refine yF ?_ NB213_212.out _; (with_reducible repeat (first | refine yN ?_ _ | refine yD ?_ | refine yA ?_ _)); exact BK213.out) hb); replace HB := aM (zT (zH HB.out) hb); (try clear hb); have hcz32_0 : w31.cell? ⟨gb212, 0, none⟩ = some (.slice Ao29 t214.length co29) := yc BK212.out 0; have hcz32_1 : w31.cell? ⟨gb212, 1, none⟩ = some (.string t217) := yc BK212.out 1; have hcz32_2 : w31.cell? ⟨gb212, 2, none⟩ = some (.string t218) := yc BK212.out 2; have hfz32_0 := yZ BK212.out 0; have hfz32_1 := yZ BK212.out 1; have hfz32_2 := yZ BK212.out 2; have hcz33_0 : w31.cell? ⟨gb213, 0, none⟩ = some (.slice none 0 0) := yc BK213.out 0; have hcz33_1 : w31.cell? ⟨gb213, 1, none⟩ = some (.string (⟨#[]⟩ : ByteArray)) := yc BK213.out 1; have hcz33_2 : w31.cell? ⟨gb213, 2, none⟩ = some (.string (⟨#[]⟩ : ByteArray)) := yc BK213.out 2; have hfz33_0 := yZ BK213.out 0; have hfz33_1 := yZ BK213.out 1; have hfz33_2 := yZ BK213.out 2))
   refine bodyPost_ret (results_cell_row rfl _ _ gb213 27 #[.slice Ao29 t214.length co29, .string t221, .string t218] (0, 0) _ rfl (by (with_reducible repeat (first | refine yN ?_ _ | refine yD ?_ | refine yA ?_ _)); refine yP (cs := #[.slice Ao29 t214.length co29, .string t221, .string (⟨#[]⟩ : ByteArray)]) ?_ 2 _ rfl; (with_reducible repeat (first | refine yN ?_ _ | refine yD ?_ | refine yA ?_ _)); refine yP (cs := #[.slice Ao29 t214.length co29, .string (⟨#[]⟩ : ByteArray), .string (⟨#[]⟩ : ByteArray)]) ?_ 1 _ rfl; (with_reducible repeat (first | refine yN ?_ _ | refine yD ?_ | refine yA ?_ _)); refine yP (cs := #[.slice none 0 0, .string (⟨#[]⟩ : ByteArray), .string (⟨#[]⟩ : ByteArray)]) ?_ 0 _ rfl; (with_reducible repeat (first | refine yN ?_ _ | refine yD ?_ | refine yA ?_ _)); refine yF ?_ NB213_212.out _; (with_reducible repeat (first | refine yN ?_ _ | refine yD ?_ | refine yA ?_ _)); exact BK213.out) Try.underlying27 rfl (by kernel_rfl)) rfl ?_
   exact ⟨_, by first | rfl | (simp [errW_none, errW_some] <;> rfl) | (simp [*, errW_none, errW_some] <;> rfl), xH (xM (xF (p := ⟨gb213, 2, none⟩) (xF (p := ⟨gb213, 1, none⟩) (xF (p := ⟨gb213, 0, none⟩) (xF (p := ⟨gb212, 1, none⟩) (xT (xT HO216.out BK212.out (by decide)) BK213.out (by decide)) (fun _ hk => hk.1.2) (.string t221)) (fun _ hk => hk.2) (.slice Ao29 t214.length co29)) (fun _ hk => hk.2) (.string t221)) (fun _ hk => hk.2) (.string t218)) (fun _ hk => trivial)), zH HB.out⟩
  ·rw [if_neg c22] at H
   have c22b0 : (a1 == (t214.length : Int)) = false := beq_eq_false_iff_ne.mpr c22
   have c22b1 : (a1 != (t214.length : Int)) = true := bne_iff_ne.mpr c22
   replace H := Option.bind_eq_some_iff.mp H
   obtain ⟨t222, A340, H⟩ := H
   replace H : (some (t214, t217, t222)) = some (r1, r2, r3) := H
   have A34 := aM A340
   clear A340
   simp only [Option.some.injEq, Prod.mk.injEq] at H
   obtain ⟨rfl, rfl, rfl⟩ := H
   go_enter Try.func75, Try.ntmps75
   go_wp2_with (first | ((with_reducible refine gate_dst (N := 2) rfl ?_); refine box_event ?hg (N := 2) ?hd (cs := #[.slice A0_0 l0_0.length c0_0, .string a0_1, .string a0_2]) (t := 27) ?hr ?_; (case hd => rfl); (case hg => rfl); (case hr => first | (go_simp; done) | (go_simp; rfl)); intro gb212 hg w35 hbox hb; have BK212 := aM (hbox); have GW212 := aM ((by rw [hg]; exact (zZ (zH HB.out)) : w.heap.size ≤ gb212)); have GE212 := aM ((by rw [hg]; exact (zZ (zH HB.out)) : w.heap.size ≤ gb212)); replace HB := aM (zT (zH HB.out) hb); clear hb hbox hg) | ((with_reducible refine gate_dst (N := 4) rfl ?_); refine box_event ?hg (N := 4) ?hd (cs := #[.slice none 0 0, .string (⟨#[]⟩ : ByteArray), .string (⟨#[]⟩ : ByteArray)]) (t := 27) ?hr ?_; (case hd => rfl); (case hg => rfl); (case hr => first | (go_simp; done) | (go_simp; rfl)); intro gb213 hg w36 hbox hb; have BK213 := aM (hbox); have GW213 := aM ((by rw [hg]; exact (zZ (zH HB.out)) : w.heap.size ≤ gb213)); have GE213 := aM ((by rw [hg]; exact (zZ (zH HB.out)) : w.heap.size ≤ gb213)); replace HB := aM (zT (zH HB.out) hb); have NB212_213 := nL BK212.out hg; have NB213_212 := nR BK212.out hg; replace BK212 := yK BK212.out hb; clear hb hbox hg; have hnb37 := NB212_213.out; have hnc37 := NB213_212.out; have hcz38_0 : w36.cell? ⟨gb212, 0, none⟩ = some (.slice A0_0 l0_0.length c0_0) := yc BK212.out 0; have hcz38_1 : w36.cell? ⟨gb212, 1, none⟩ = some (.string a0_1) := yc BK212.out 1; have hcz38_2 : w36.cell? ⟨gb212, 2, none⟩ = some (.string a0_2) := yc BK212.out 2; have hfz38_0 := yZ BK212.out 0; have hfz38_1 := yZ BK212.out 1; have hfz38_2 := yZ BK212.out 2) | ((with_reducible refine gate_callee (f := 51) rfl ?_); refine goesL_ (some 7) rfl rfl Try.func51 (by kernel_rfl) rfl #[.agg #[.slice A0_0 l0_0.length c0_0, .string a0_1, .string a0_2]] rfl (by (try simp only [List.map_toArray, List.map_cons, List.map_nil]); first | done | rfl | (simp only [List.length_drop, List.length_take]; rfl)) ?_; (with_reducible refine (spec_l3Own.calls _ _ l0_0 a0_1 a0_2 t214 t217 t218 _ ?side1 ?side2 A3.out).mono ?_); (case side1 => exact cK HR0_0.out HB.out); (case side2 => exact HC0_0.out); rintro e w39 ⟨v215, rfl, ho0, hb⟩; refine ⟨_, rfl, ?_⟩; have HO216 := aM (xL ho0 (zZ (zH HB.out))); replace BK212 := yK BK212.out hb; replace BK213 := yK BK213.out hb; replace HB := aM (zT (zH HB.out) hb); (try clear hb); (try clear ho0); obtain ⟨Ao40, co40, eo40⟩ := Kd.R_slice HO216.out; subst eo40; have hcz41_0 : w39.cell? ⟨gb212, 0, none⟩ = some (.slice A0_0 l0_0.length c0_0) := yc BK212.out 0; have hcz41_1 : w39.cell? ⟨gb212, 1, none⟩ = some (.string a0_1) := yc BK212.out 1; have hcz41_2 : w39.cell? ⟨gb212, 2, none⟩ = some (.string a0_2) := yc BK212.out 2; have hfz41_0 := yZ BK212.out 0; have hfz41_1 := yZ BK212.out 1; have hfz41_2 := yZ BK212.out 2) | ((with_reducible refine gate_callee (f := 82) rfl ?_); refine goesL_ (some 14) rfl rfl Try.func82 (by kernel_rfl) rfl #[.int .i64 (t218.size : Int)] rfl (by (try simp only [List.map_toArray, List.map_cons, List.map_nil]); first | done | rfl | (simp only [List.length_drop, List.length_take]; rfl)) ?_; (with_reducible refine (spec_l1Zeros.calls (t218.size : Int) t222 _ A34.out).mono ?_); rintro e w42 ⟨rfl, hb⟩; refine ⟨_, rfl, ?_⟩; replace HO216 := aM (xB (xH ((x3 HO216.out BK212.out (by decide) (.slice Ao40 t214.length co40) (.string t217) (.string t218)))) hb); replace BK212 := aM (yB (g := gb212) (o := .cells #[.slice Ao40 t214.length co40, .string t217, .string t218] 27 (0, 0)) (by (with_reducible repeat (first | refine yN ?_ _ | refine yD ?_ | refine yA ?_ _)); refine yP (cs := #[.slice Ao40 t214.length co40, .string t217, .string a0_2]) ?_ 2 _ rfl; (with_reducible repeat (first | refine yN ?_ _ | refine yD ?_ | refine yA ?_ _)); refine yP (cs := #[.slice Ao40 t214.length co40, .string a0_1, .string a0_2]) ?_ 1 _ rfl; (with_reducible repeat (first | refine yN ?_ _ | refine yD ?_ | refine yA ?_ _)); refine yP (cs := #[.slice A0_0 l0_0.length c0_0, .string a0_1, .string a0_2]) ?_ 0 _ rfl; (with_reducible repeat (first | refine yN ?_ _ | refine yD ?_ | refine yA ?_ _)); exact BK212.out) hb); replace BK213 := aM (yB (g := gb213) (o := .cells #[.slice none 0 0, .string (⟨#[]⟩ : ByteArray), .string (⟨#[]⟩ : ByteArray)] 27 (0, 0)) (by (with_reducible repeat (first | refine yN ?_ _ | refine yD ?_ | refine yA ?_ _)); refine yF ?_ NB213_212.out _; (with_reducible repeat (first | refine yN ?_ _ | refine yD ?_ | refine yA ?_ _)); refine yF ?_ NB213_212.out _; (with_reducible repeat (first | refine yN ?_ _ | refine yD ?_ | refine yA ?_ _)); refine yF ?_ NB213_212.out _; (with_reducible repeat (first | refine yN ?_ _ | refine yD ?_ | refine yA ?_ _)); exact BK213.out) hb); replace HB := aM (zT (zH HB.out) hb); (try clear hb); have hcz43_0 : w42.cell? ⟨gb212, 0, none⟩ = some (.slice Ao40 t214.length co40) := yc BK212.out 0; have hcz43_1 : w42.cell? ⟨gb212, 1, none⟩ = some (.string t217) := yc BK212.out 1; have hcz43_2 : w42.cell? ⟨gb212, 2, none⟩ = some (.string t218) := yc BK212.out 2; have hfz43_0 := yZ BK212.out 0; have hfz43_1 := yZ BK212.out 1; have hfz43_2 := yZ BK212.out 2; have hcz44_0 : w42.cell? ⟨gb213, 0, none⟩ = some (.slice none 0 0) := yc BK213.out 0; have hcz44_1 : w42.cell? ⟨gb213, 1, none⟩ = some (.string (⟨#[]⟩ : ByteArray)) := yc BK213.out 1; have hcz44_2 : w42.cell? ⟨gb213, 2, none⟩ = some (.string (⟨#[]⟩ : ByteArray)) := yc BK213.out 2; have hfz44_0 := yZ BK213.out 0; have hfz44_1 := yZ BK213.out 1; have hfz44_2 := yZ BK213.out 2))
   refine bodyPost_ret (results_cell_row rfl _ _ gb213 27 #[.slice Ao40 t214.length co40, .string t217, .string t222] (0, 0) _ rfl (by (with_reducible repeat (first | refine yN ?_ _ | refine yD ?_ | refine yA ?_ _)); refine yP (cs := #[.slice Ao40 t214.length co40, .string t217, .string (⟨#[]⟩ : ByteArray)]) ?_ 2 _ rfl; (with_reducible repeat (first | refine yN ?_ _ | refine yD ?_ | refine yA ?_ _)); refine yP (cs := #[.slice Ao40 t214.length co40, .string (⟨#[]⟩ : ByteArray), .string (⟨#[]⟩ : ByteArray)]) ?_ 1 _ rfl; (with_reducible repeat (first | refine yN ?_ _ | refine yD ?_ | refine yA ?_ _)); refine yP (cs := #[.slice none 0 0, .string (⟨#[]⟩ : ByteArray), .string (⟨#[]⟩ : ByteArray)]) ?_ 0 _ rfl; (with_reducible repeat (first | refine yN ?_ _ | refine yD ?_ | refine yA ?_ _)); refine yF ?_ NB213_212.out _; (with_reducible repeat (first | refine yN ?_ _ | refine yD ?_ | refine yA ?_ _)); exact BK213.out) Try.underlying27 rfl (by kernel_rfl)) rfl ?_
   exact ⟨_, by first | rfl | (simp [errW_none, errW_some] <;> rfl) | (simp [*, errW_none, errW_some] <;> rfl), xH (xM (xF (p := ⟨gb213, 2, none⟩) (xF (p := ⟨gb213, 1, none⟩) (xF (p := ⟨gb213, 0, none⟩) (xF (p := ⟨gb212, 2, none⟩) (xT (xT HO216.out BK212.out (by decide)) BK213.out (by decide)) (fun _ hk => hk.1.2) (.string t222)) (fun _ hk => hk.2) (.slice Ao40 t214.length co40)) (fun _ hk => hk.2) (.string t217)) (fun _ hk => hk.2) (.string t222)) (fun _ hk => trivial)), zH HB.out⟩

end Go.Proofs.Ytfijnlhklfmoeaa.PFnUpdated
