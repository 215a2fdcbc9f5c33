/- The walks of FnExactGiveRoom: Go's calls come to what the Lean functions beside them say; no condition. -/
import Derived.Test.YtfhfaeeokibhaaaQFnExactGiveRoomx0
import Derived.Test.YtfhfaeeokibhaaaQFnExactGiveRoomx5
namespace Go.Proofs.Ytfhfaeeokibhaaa.PFnExactGiveRoom
open Go.RowKit Go.Proofs.YtfhfaeeokibhaaaW.PrintWords Go.Proofs.YtfhfaeeokibhaaaW.PrintLast Go.Proofs.YtfhfaeeokibhaaaW.PrintMore
attribute [local go_sem] max2_int min2_int max_two min_two max_three min_three max_four min_four   -- for this text's walks alone
set_option linter.unusedVariables false
set_option linter.unusedSimpArgs false
set_option maxRecDepth 100000

/-! ### spec_GiveRoom: function 29 -/
mutual
def spec_GiveRoom.j0 : Nat → Bool → Int → List (S49) → List (S49) → Int → Int → Option (Int × (List (S49)) × (List (S49)) × Bool)
 | 0, _, _, _, _, _, _ => none
 | k + 1, x20, x210000, x210001, x210002, x211000, x211001 => if x20 = true then (some (0, ([] : List (S49)), ([] : List (S49)), false)) else (spec_GiveRoom.l0 k ([] : List (S49)) false x210001 (x210001.length : Int) 0 x210000 x210001 x210002 x211000 x211001)
def spec_GiveRoom.l0 : Nat → List (S49) → Bool → List (S49) → Int → Int → Int → List (S49) → List (S49) → Int → Int → Option (Int × (List (S49)) × (List (S49)) × Bool)
 | 0, _, _, _, _, _, _, _, _, _, _ => none
 | k + 1, x6, x7, x23, x24, x25, x210000, x210001, x210002, x211000, x211001 => if x25 < x24 then (if 0 ≤ x25 then (if x25 < (x23.length : Int) then (if (wrap64 (((rd_T49 x23 x25).f0) + ((rd_T49 x23 x25).f1))) < x211000 then (if x6.length < 8796093022208 then (spec_GiveRoom.l0 k (x6 ++ [(⟨(rd_T49 x23 x25).f0, (rd_T49 x23 x25).f1⟩ : S49)]) x7 x23 x24 (wrap64 (x25 + 1)) x210000 x210001 x210002 x211000 x211001) else (none)) else (if ((rd_T49 x23 x25).f0) > (wrap64 (x211000 + x211001)) then (if x7 = true then (if x6.length < 8796093022208 then (spec_GiveRoom.l0 k (x6 ++ [(⟨(rd_T49 x23 x25).f0, (rd_T49 x23 x25).f1⟩ : S49)]) x7 x23 x24 (wrap64 (x25 + 1)) x210000 x210001 x210002 x211000 x211001) else (none)) else (if x6.length < 8796093022208 then ((some (x6 ++ [(⟨x211000, x211001⟩ : S49)] : List (S49))).bind fun y222 => (if y222.length < 8796093022208 then (spec_GiveRoom.l0 k (y222 ++ [(⟨(rd_T49 x23 x25).f0, (rd_T49 x23 x25).f1⟩ : S49)]) true x23 x24 (wrap64 (x25 + 1)) x210000 x210001 x210002 x211000 x211001) else (none))) else (none))) else (if (wrap64 (((rd_T49 x23 x25).f0) + ((rd_T49 x23 x25).f1))) = x211000 then (spec_GiveRoom.l0 k x6 x7 x23 x24 (wrap64 (x25 + 1)) x210000 x210001 x210002 ((rd_T49 x23 x25).f0) (wrap64 (((rd_T49 x23 x25).f1) + x211001))) else (if ((rd_T49 x23 x25).f0) = (wrap64 (x211000 + x211001)) then (spec_GiveRoom.l0 k x6 x7 x23 x24 (wrap64 (x25 + 1)) x210000 x210001 x210002 x211000 (wrap64 (x211001 + ((rd_T49 x23 x25).f1)))) else (some (0, ([] : List (S49)), ([] : List (S49)), false)))))) else (none)) else (none)) else (if x7 = true then (spec_GiveRoom.j2 k x6 x210000 x210001 x210002) else (if x6.length < 8796093022208 then (spec_GiveRoom.j2 k (x6 ++ [(⟨x211000, x211001⟩ : S49)]) x210000 x210001 x210002) else (none)))
def spec_GiveRoom.j2 : Nat → List (S49) → Int → List (S49) → List (S49) → Option (Int × (List (S49)) × (List (S49)) × Bool)
 | 0, _, _, _, _ => none
 | k + 1, x6, x210000, x210001, x210002 => (spec_l5Of.f k x210000 x6).bind fun bt231 => ((spec_GoodFree.f k bt231.1 bt231.2.1 bt231.2.2).bind fun t239 => (if t239 = true then (some (bt231.1, bt231.2.1, bt231.2.2, true)) else (some (0, ([] : List (S49)), ([] : List (S49)), false))))
end
def spec_GiveRoom.f (k : Nat) (a0_0 : Int) (l0_1 : List (S49)) (l0_2 : List (S49)) (a1_0 : Int) (a1_1 : Int) : Option (Int × (List (S49)) × (List (S49)) × Bool) := (spec_GoodFree.f k a0_0 l0_1 l0_2).bind fun t212 => (if t212 = true then ((spec_l5Extent.f a1_0 a1_1 a0_0).bind fun t213 => (spec_GiveRoom.j0 k (!t213) a0_0 l0_1 l0_2 a1_0 a1_1)) else (spec_GiveRoom.j0 k true a0_0 l0_1 l0_2 a1_0 a1_1))
theorem spec_GiveRoom.mono_l : ∀ k, (∀ y0 y1 y2 y3 y4 y5, LeO (spec_GiveRoom.j0 k y0 y1 y2 y3 y4 y5) (spec_GiveRoom.j0 (k + 1) y0 y1 y2 y3 y4 y5)) ∧ (∀ y0 y1 y2 y3 y4 y5 y6 y7 y8 y9, LeO (spec_GiveRoom.l0 k y0 y1 y2 y3 y4 y5 y6 y7 y8 y9) (spec_GiveRoom.l0 (k + 1) y0 y1 y2 y3 y4 y5 y6 y7 y8 y9)) ∧ (∀ y0 y1 y2 y3, LeO (spec_GiveRoom.j2 k y0 y1 y2 y3) (spec_GiveRoom.j2 (k + 1) y0 y1 y2 y3))
 | 0 => ⟨fun _ _ _ _ _ _ r h => by simp [spec_GiveRoom.j0] at h, fun _ _ _ _ _ _ _ _ _ _ r h => by simp [spec_GiveRoom.l0] at h, fun _ _ _ _ r h => by simp [spec_GiveRoom.j2] at h⟩
 | k + 1 => by
  obtain ⟨ih0, ih1, ih2⟩ := spec_GiveRoom.mono_l k
  refine ⟨?_, ?_, ?_⟩
  ·intro y0 y1 y2 y3 y4 y5
   unfold spec_GiveRoom.j0
   repeat' first
   | (with_reducible exact ih0 _ _ _ _ _ _)
   | (with_reducible exact ih1 _ _ _ _ _ _ _ _ _ _)
   | (with_reducible exact ih2 _ _ _ _)
   | (with_reducible exact spec_GoodFree.mono _ _ _ _)
   | (with_reducible exact spec_l5Of.mono _ _ _)
   | (with_reducible exact LeO.refl _)
   | (with_reducible exact LeO.none _)
   | (with_reducible refine LeO.ite ?_ ?_)
   | (with_reducible refine LeO.bind ?_ (fun _ => ?_))
   | exact ih0 _ _ _ _ _ _
   | exact ih1 _ _ _ _ _ _ _ _ _ _
   | exact ih2 _ _ _ _
   | exact spec_GoodFree.mono _ _ _ _
   | exact spec_l5Of.mono _ _ _
   | exact LeO.none _
   | refine LeO.ite ?_ ?_
   | refine LeO.bind ?_ (fun _ => ?_)
  ·intro y0 y1 y2 y3 y4 y5 y6 y7 y8 y9
   unfold spec_GiveRoom.l0
   repeat' first
   | (with_reducible exact ih0 _ _ _ _ _ _)
   | (with_reducible exact ih1 _ _ _ _ _ _ _ _ _ _)
   | (with_reducible exact ih2 _ _ _ _)
   | (with_reducible exact spec_GoodFree.mono _ _ _ _)
   | (with_reducible exact spec_l5Of.mono _ _ _)
   | (with_reducible exact LeO.refl _)
   | (with_reducible exact LeO.none _)
   | (with_reducible refine LeO.ite ?_ ?_)
   | (with_reducible refine LeO.bind ?_ (fun _ => ?_))
   | exact ih0 _ _ _ _ _ _
   | exact ih1 _ _ _ _ _ _ _ _ _ _
   | exact ih2 _ _ _ _
   | exact spec_GoodFree.mono _ _ _ _
   | exact spec_l5Of.mono _ _ _
   | exact LeO.none _
   | refine LeO.ite ?_ ?_
   | refine LeO.bind ?_ (fun _ => ?_)
  ·intro y0 y1 y2 y3
   unfold spec_GiveRoom.j2
   repeat' first
   | (with_reducible exact ih0 _ _ _ _ _ _)
   | (with_reducible exact ih1 _ _ _ _ _ _ _ _ _ _)
   | (with_reducible exact ih2 _ _ _ _)
   | (with_reducible exact spec_GoodFree.mono _ _ _ _)
   | (with_reducible exact spec_l5Of.mono _ _ _)
   | (with_reducible exact LeO.refl _)
   | (with_reducible exact LeO.none _)
   | (with_reducible refine LeO.ite ?_ ?_)
   | (with_reducible refine LeO.bind ?_ (fun _ => ?_))
   | exact ih0 _ _ _ _ _ _
   | exact ih1 _ _ _ _ _ _ _ _ _ _
   | exact ih2 _ _ _ _
   | exact spec_GoodFree.mono _ _ _ _
   | exact spec_l5Of.mono _ _ _
   | exact LeO.none _
   | refine LeO.ite ?_ ?_
   | refine LeO.bind ?_ (fun _ => ?_)
theorem spec_GiveRoom.mono : ∀ a0 a1 a2 a3 a4 k, LeO (spec_GiveRoom.f k a0 a1 a2 a3 a4) (spec_GiveRoom.f (k + 1) a0 a1 a2 a3 a4) := by
 intro a0 a1 a2 a3 a4 k
 obtain ⟨ih0, ih1, ih2⟩ := spec_GiveRoom.mono_l k
 unfold spec_GiveRoom.f
 repeat' first
   | (with_reducible exact ih0 _ _ _ _ _ _)
   | (with_reducible exact ih1 _ _ _ _ _ _ _ _ _ _)
   | (with_reducible exact ih2 _ _ _ _)
   | (with_reducible exact spec_GoodFree.mono _ _ _ _)
   | (with_reducible exact spec_l5Of.mono _ _ _)
   | (with_reducible exact LeO.refl _)
   | (with_reducible exact LeO.none _)
   | (with_reducible refine LeO.ite ?_ ?_)
   | (with_reducible refine LeO.bind ?_ (fun _ => ?_))
   | exact ih0 _ _ _ _ _ _
   | exact ih1 _ _ _ _ _ _ _ _ _ _
   | exact ih2 _ _ _ _
   | exact spec_GoodFree.mono _ _ _ _
   | exact spec_l5Of.mono _ _ _
   | exact LeO.none _
   | refine LeO.ite ?_ ?_
   | refine LeO.bind ?_ (fun _ => ?_)
set_option maxHeartbeats 8000000 in
set_option maxRecDepth 100000 in
theorem spec_GiveRoom.calls (k : Nat) (a0_0 : Int) (A0_1 : Option Addr) (c0_1 : Nat) (l0_1 : List (S49)) (A0_2 : Option Addr) (c0_2 : Nat) (l0_2 : List (S49)) (a1_0 : Int) (a1_1 : Int) (r1 : Int) (r2 : List (S49)) (r3 : List (S49)) (r4 : Bool) (w : World) (hr0_1 : Kd.C k49 w A0_1 l0_1.length l0_1) (hc0_1 : l0_1.length ≤ c0_1) (hr0_2 : Kd.C k49 w A0_2 l0_2.length l0_2) (hc0_2 : l0_2.length ≤ c0_2) (h : spec_GiveRoom.f k a0_0 l0_1 l0_2 a1_0 a1_1 = some (r1, r2, r3, r4)) :
  Calls Try.prog 29 #[.agg #[.int .i64 a0_0, .slice A0_1 l0_1.length c0_1, .slice A0_2 l0_2.length c0_2], .agg #[.int .i64 a1_0, .int .i64 a1_1]] w fun e w' => ∃ v1_ v2_ : Value, e = .returned (.tuple #[.agg #[.int .i64 r1, v1_, v2_], .bool r4]) ∧ Kd.R k49 49 w' w.heap.size (fun k_ => some k_ ≠ (v2_ : Value).ownBlock) v1_ r2 ∧ Kd.R k49 49 w' w.heap.size (fun k_ => some k_ ≠ (v1_ : Value).ownBlock) v2_ r3 ∧ Below w.heap.size w w' := by
 have hu24 := Try.underlying24
 have hu49 := Try.underlying49
 have HR0_1 := aM hr0_1
 have HC0_1 := aM hc0_1
 clear hr0_1 hc0_1
 have HR0_2 := aM hr0_2
 have HC0_2 := aM hc0_2
 clear hr0_2 hc0_2
 have HB := aM (Below.refl w.heap.size w)
 have H : ((spec_GoodFree.f k a0_0 l0_1 l0_2).bind fun t212 => (if t212 = true then ((spec_l5Extent.f a1_0 a1_1 a0_0).bind fun t213 => (spec_GiveRoom.j0 k (!t213) a0_0 l0_1 l0_2 a1_0 a1_1)) else (spec_GiveRoom.j0 k true a0_0 l0_1 l0_2 a1_0 a1_1))) = some (r1, r2, r3, r4) := h
 clear h
 have HC3 := aM H
 clear H
 go_enter Try.func29, Try.ntmps29
 go_upto_region 1 with (first | ((with_reducible refine gate_dst (N := 2) rfl ?_); refine box_event ?hg (N := 2) ?hd (cs := #[.int .i64 a0_0, .slice A0_1 l0_1.length c0_1, .slice A0_2 l0_2.length c0_2]) (t := 24) ?hr ?_; (case hd => rfl); (case hg => rfl); (case hr => first | (go_simp; done) | (go_simp; rfl)); intro gb209 hg w4 hbox hb; have BK209 := aM (hbox); have GW209 := aM ((by rw [hg]; exact (zZ (zH HB.out)) : w.heap.size ≤ gb209)); have GE209 := aM ((by rw [hg]; exact (zZ (zH HB.out)) : w.heap.size ≤ gb209)); replace HB := aM (zT (zH HB.out) hb); clear hb hbox hg) | ((with_reducible refine gate_dst (N := 3) rfl ?_); refine box_event ?hg (N := 3) ?hd (cs := #[.int .i64 a1_0, .int .i64 a1_1]) (t := 49) ?hr ?_; (case hd => rfl); (case hg => rfl); (case hr => first | (go_simp; done) | (go_simp; rfl)); intro gb210 hg w5 hbox hb; have BK210 := aM (hbox); have GW210 := aM ((by rw [hg]; exact (zZ (zH HB.out)) : w.heap.size ≤ gb210)); have GE210 := aM ((by rw [hg]; exact (zZ (zH HB.out)) : w.heap.size ≤ gb210)); replace HB := aM (zT (zH HB.out) hb); have NB209_210 := nL BK209.out hg; have NB210_209 := nR BK209.out hg; replace BK209 := yK BK209.out hb; clear hb hbox hg) | ((with_reducible refine gate_dst (N := 4) rfl ?_); refine box_event ?hg (N := 4) ?hd (cs := #[.int .i64 0, .slice none 0 0, .slice none 0 0]) (t := 24) ?hr ?_; (case hd => rfl); (case hg => rfl); (case hr => first | (go_simp; done) | (go_simp; rfl)); intro gb211 hg w6 hbox hb; have BK211 := aM (hbox); have GW211 := aM ((by rw [hg]; exact (zZ (zH HB.out)) : w.heap.size ≤ gb211)); have GE211 := aM ((by rw [hg]; exact (zZ (zH HB.out)) : w.heap.size ≤ gb211)); replace HB := aM (zT (zH HB.out) hb); have NB209_211 := nL BK209.out hg; have NB211_209 := nR BK209.out hg; replace BK209 := yK BK209.out hb; have NB210_211 := nL BK210.out hg; have NB211_210 := nR BK210.out hg; replace BK210 := yK BK210.out hb; clear hb hbox hg))
 (try simp only [Act.put, qA, qB, qC])
 go_cut [20] (fun v20 wc => ∃ (kq : Nat) (x20_2 : Bool), v20 = .bool x20_2 ∧ Aside0 (spec_GiveRoom.j0 kq x20_2 a0_0 l0_1 l0_2 a1_0 a1_1 = some (r1, r2, r3, r4)) ∧ Aside0 (kq ≤ k) ∧ Aside0 (wc.heap[gb209]? = some (.cells #[.int .i64 a0_0, (.slice A0_1 l0_1.length c0_1), (.slice A0_2 l0_2.length c0_2)] 24 (0, 0))) ∧ Aside0 (wc.heap[gb210]? = some (.cells #[.int .i64 a1_0, .int .i64 a1_1] 49 (0, 0))) ∧ Aside0 (wc.heap[gb211]? = some (.cells #[.int .i64 0, (.slice none 0 0), (.slice none 0 0)] 24 (0, 0))) ∧ Aside0 (Below w.heap.size w wc))
 case first =>
  have H := HC3.out
  clear HC3
  replace H := Option.bind_eq_some_iff.mp H
  obtain ⟨t212, A70, H⟩ := H
  replace H : (if t212 = true then ((spec_l5Extent.f a1_0 a1_1 a0_0).bind fun t213 => (spec_GiveRoom.j0 k (!t213) a0_0 l0_1 l0_2 a1_0 a1_1)) else (spec_GiveRoom.j0 k true a0_0 l0_1 l0_2 a1_0 a1_1)) = some (r1, r2, r3, r4) := H
  have A7 := aM A70
  clear A70
  by_cases c8 : t212 = true
  ·subst c8
   have H1 : ((spec_l5Extent.f a1_0 a1_1 a0_0).bind fun t213 => (spec_GiveRoom.j0 k (!t213) a0_0 l0_1 l0_2 a1_0 a1_1)) = some (r1, r2, r3, r4) := by rw [if_pos rfl] at H; exact H
   clear H
   have H := H1
   clear H1
   replace H := Option.bind_eq_some_iff.mp H
   obtain ⟨t213, A90, H⟩ := H
   replace H : (spec_GiveRoom.j0 k (!t213) a0_0 l0_1 l0_2 a1_0 a1_1) = some (r1, r2, r3, r4) := H
   have A9 := aM A90
   clear A90
   have H' := aM H
   clear H
   have hnb10 := NB209_210.out
   have hnc10 := NB210_209.out
   have hnb11 := NB209_211.out
   have hnc11 := NB211_209.out
   have hcz12_0 : w6.cell? ⟨gb209, 0, none⟩ = some (.int .i64 a0_0) := yc BK209.out 0
   have hcz12_1 : w6.cell? ⟨gb209, 1, none⟩ = some (.slice A0_1 l0_1.length c0_1) := yc BK209.out 1
   have hcz12_2 : w6.cell? ⟨gb209, 2, none⟩ = some (.slice A0_2 l0_2.length c0_2) := yc BK209.out 2
   have hfz12_0 := yZ BK209.out 0
   have hfz12_1 := yZ BK209.out 1
   have hfz12_2 := yZ BK209.out 2
   go_wp2_with (first | ((with_reducible refine gate_callee (f := 17) rfl ?_); refine goesL_ (some 12) rfl rfl Try.func17 (by kernel_rfl) rfl #[.agg #[.int .i64 a0_0, .slice A0_1 l0_1.length c0_1, .slice A0_2 l0_2.length c0_2]] rfl (by (try simp only [List.map_toArray, List.map_cons, List.map_nil]); first | done | rfl | (simp only [List.length_drop, List.length_take]; rfl)) ?_; (with_reducible refine (spec_GoodFree.calls k a0_0 _ _ l0_1 _ _ l0_2 true _ ?side1 ?side2 ?side3 ?side4 A7.out).mono ?_); (case side1 => exact cK HR0_1.out HB.out); (case side2 => exact HC0_1.out); (case side3 => exact cK HR0_2.out HB.out); (case side4 => exact HC0_2.out); rintro e w13 ⟨rfl, hb⟩; refine ⟨_, rfl, ?_⟩; replace BK209 := yK BK209.out hb; replace BK210 := yK BK210.out hb; replace BK211 := yK BK211.out hb; replace HB := aM (zT (zH HB.out) hb); (try clear hb); have hnb14 := NB210_211.out; have hnc14 := NB211_210.out; have hcz15_0 : w13.cell? ⟨gb210, 0, none⟩ = some (.int .i64 a1_0) := yc BK210.out 0; have hcz15_1 : w13.cell? ⟨gb210, 1, none⟩ = some (.int .i64 a1_1) := yc BK210.out 1; have hfz15_0 := yZ BK210.out 0; have hfz15_1 := yZ BK210.out 1; have hcz16_0 : w13.cell? ⟨gb209, 0, none⟩ = some (.int .i64 a0_0) := yc BK209.out 0; have hcz16_1 : w13.cell? ⟨gb209, 1, none⟩ = some (.slice A0_1 l0_1.length c0_1) := yc BK209.out 1; have hcz16_2 : w13.cell? ⟨gb209, 2, none⟩ = some (.slice A0_2 l0_2.length c0_2) := yc BK209.out 2; have hfz16_0 := yZ BK209.out 0; have hfz16_1 := yZ BK209.out 1; have hfz16_2 := yZ BK209.out 2) | (go_at_call 52; (with_reducible refine (spec_l5Extent.calls a1_0 a1_1 a0_0 t213 _ A9.out).mono ?_); rintro e w17 ⟨rfl, hb⟩; replace BK209 := yK BK209.out hb; replace BK210 := yK BK210.out hb; replace BK211 := yK BK211.out hb; replace HB := aM (zT (zH HB.out) hb); (try clear hb)))
   go_meet
   case rel => exact ⟨_, (!t213), (by first | rfl | (simp; done) | (simp [*]; done)), H', ⟨by first | omega | exact Nat.le_refl _⟩, ⟨yH BK209.out⟩, ⟨yH BK210.out⟩, ⟨yH BK211.out⟩, ⟨zH HB.out⟩⟩
  ·replace c8 := Bool.eq_false_iff.mpr c8
   subst c8
   have H1 : (spec_GiveRoom.j0 k true a0_0 l0_1 l0_2 a1_0 a1_1) = some (r1, r2, r3, r4) := by rw [if_neg (show ¬ (false = true) by decide)] at H; exact H
   clear H
   have H := H1
   clear H1
   have H' := aM H
   clear H
   have hnb18 := NB209_210.out
   have hnc18 := NB210_209.out
   have hnb19 := NB209_211.out
   have hnc19 := NB211_209.out
   have hcz20_0 : w6.cell? ⟨gb209, 0, none⟩ = some (.int .i64 a0_0) := yc BK209.out 0
   have hcz20_1 : w6.cell? ⟨gb209, 1, none⟩ = some (.slice A0_1 l0_1.length c0_1) := yc BK209.out 1
   have hcz20_2 : w6.cell? ⟨gb209, 2, none⟩ = some (.slice A0_2 l0_2.length c0_2) := yc BK209.out 2
   have hfz20_0 := yZ BK209.out 0
   have hfz20_1 := yZ BK209.out 1
   have hfz20_2 := yZ BK209.out 2
   go_wp2_with (first | ((with_reducible refine gate_callee (f := 17) rfl ?_); refine goesL_ (some 12) rfl rfl Try.func17 (by kernel_rfl) rfl #[.agg #[.int .i64 a0_0, .slice A0_1 l0_1.length c0_1, .slice A0_2 l0_2.length c0_2]] rfl (by (try simp only [List.map_toArray, List.map_cons, List.map_nil]); first | done | rfl | (simp only [List.length_drop, List.length_take]; rfl)) ?_; (with_reducible refine (spec_GoodFree.calls k a0_0 _ _ l0_1 _ _ l0_2 false _ ?side1 ?side2 ?side3 ?side4 A7.out).mono ?_); (case side1 => exact cK HR0_1.out HB.out); (case side2 => exact HC0_1.out); (case side3 => exact cK HR0_2.out HB.out); (case side4 => exact HC0_2.out); rintro e w21 ⟨rfl, hb⟩; refine ⟨_, rfl, ?_⟩; replace BK209 := yK BK209.out hb; replace BK210 := yK BK210.out hb; replace BK211 := yK BK211.out hb; replace HB := aM (zT (zH HB.out) hb); (try clear hb)))
   go_meet
   case rel => exact ⟨_, (true), (by first | rfl | (simp; done) | (simp [*]; done)), H', ⟨by first | omega | exact Nat.le_refl _⟩, ⟨yH BK209.out⟩, ⟨yH BK210.out⟩, ⟨yH BK211.out⟩, ⟨zH HB.out⟩⟩
 case rest =>
  clear HC3
  (try clear c1); (try clear c2); (try clear p2); (try clear c8); (try clear c10); (try clear c11); (try clear c14); (try clear c17); (try clear c18); (try clear c19); (try clear hcz12_0); (try clear hcz12_1); (try clear hcz12_2); (try clear hcz15_0); (try clear hcz15_1); (try clear hcz16_0); (try clear hcz16_1); (try clear hcz16_2); (try clear hcz20_0); (try clear hcz20_1); (try clear hcz20_2); (try clear hfz12_0); (try clear hfz12_1); (try clear hfz12_2); (try clear hfz15_0); (try clear hfz15_1); (try clear hfz16_0); (try clear hfz16_1); (try clear hfz16_2); (try clear hfz20_0); (try clear hfz20_1); (try clear hfz20_2)
  obtain ⟨kq, x20_2, rfl, HA, HJ2, BK209, BK210, BK211, HB⟩ := hcut
  cases kq with
  | zero => exact absurd HA.out (fun h_ => by change none = some _ at h_; cases h_)
  | succ kj2 =>
   have H := HA.out
   clear HA
   simp only [spec_GiveRoom.j0] at H
   by_cases c22 : x20_2 = true
   ·subst c22
    have H1 : (some (0, ([] : List (S49)), ([] : List (S49)), false)) = some (r1, r2, r3, r4) := by rw [if_pos rfl] at H; exact H
    clear H
    have H := H1
    clear H1
    simp only [Option.some.injEq, Prod.mk.injEq] at H
    obtain ⟨rfl, rfl, rfl, rfl⟩ := H
    have hnb23 := NB211_209.out
    have hnc23 := NB209_211.out
    have hnb24 := NB211_210.out
    have hnc24 := NB210_211.out
    have hcz25_0 : wc.cell? ⟨gb211, 0, none⟩ = some (.int .i64 0) := yc BK211.out 0
    have hcz25_1 : wc.cell? ⟨gb211, 1, none⟩ = some (.slice none 0 0) := yc BK211.out 1
    have hcz25_2 : wc.cell? ⟨gb211, 2, none⟩ = some (.slice none 0 0) := yc BK211.out 2
    have hfz25_0 := yZ BK211.out 0
    have hfz25_1 := yZ BK211.out 1
    have hfz25_2 := yZ BK211.out 2
    go_wp2
    refine bodyPost_ret (results_ct rfl _ _ gb211 24 #[.int .i64 0, .slice none 0 0, .slice none 0 0] (0, 0) _ rfl (by (with_reducible repeat (first | refine yN ?_ _ | refine yD ?_ | refine yA ?_ _)); refine yP (cs := #[.int .i64 0, .slice none 0 0, .slice none 0 0]) ?_ 2 _ rfl; (with_reducible repeat (first | refine yN ?_ _ | refine yD ?_ | refine yA ?_ _)); refine yP (cs := #[.int .i64 0, .slice none 0 0, .slice none 0 0]) ?_ 1 _ rfl; (with_reducible repeat (first | refine yN ?_ _ | refine yD ?_ | refine yA ?_ _)); refine yP (cs := #[.int .i64 0, .slice none 0 0, .slice none 0 0]) ?_ 0 _ rfl; (with_reducible repeat (first | refine yN ?_ _ | refine yD ?_ | refine yA ?_ _)); exact BK211.out) Try.underlying24 rfl (by kernel_rfl)) rfl ?_
    exact ⟨_, _, by first | rfl | (simp [errW_none, errW_some] <;> rfl) | (simp [*, errW_none, errW_some] <;> rfl), by first | exact Kd.R_nil _ _ _ _ _ | exact Kd.N_nil _ _ _ _ _ | exact Kd.V_nil _ _ _ _ _ | exact Kd.Q_nil _ _ _ _ _ | exact Kd.S_nil _ _ _ _ _, by first | exact Kd.R_nil _ _ _ _ _ | exact Kd.N_nil _ _ _ _ _ | exact Kd.V_nil _ _ _ _ _ | exact Kd.Q_nil _ _ _ _ _ | exact Kd.S_nil _ _ _ _ _, zH HB.out⟩
   ·replace c22 := Bool.eq_false_iff.mpr c22
    subst c22
    have H1 : (spec_GiveRoom.l0 kj2 ([] : List (S49)) false l0_1 (l0_1.length : Int) 0 a0_0 l0_1 l0_2 a1_0 a1_1) = some (r1, r2, r3, r4) := by rw [if_neg (show ¬ (false = true) by decide)] at H; exact H
    clear H
    have H := H1
    clear H1
    have H' := aM H
    clear H
    have hnb26 := NB209_210.out
    have hnc26 := NB210_209.out
    have hnb27 := NB209_211.out
    have hnc27 := NB211_209.out
    have hcz28_0 : wc.cell? ⟨gb209, 0, none⟩ = some (.int .i64 a0_0) := yc BK209.out 0
    have hcz28_1 : wc.cell? ⟨gb209, 1, none⟩ = some (.slice A0_1 l0_1.length c0_1) := yc BK209.out 1
    have hcz28_2 : wc.cell? ⟨gb209, 2, none⟩ = some (.slice A0_2 l0_2.length c0_2) := yc BK209.out 2
    have hfz28_0 := yZ BK209.out 0
    have hfz28_1 := yZ BK209.out 1
    have hfz28_2 := yZ BK209.out 2
    go_wp2
    go_loopg [6, 7, 25] kj2 (fun kq v6 v7 v25 w' => ∃ (x6_2 : List (S49)) (x7_2 : Bool) (x25_2 : Int) (x211000_2 : Int) (x211001_2 : Int) (x212000_2 : Int), v7 = .bool x7_2 ∧ v25 = .int .i64 x25_2 ∧ Aside0 (spec_GiveRoom.l0 kq x6_2 x7_2 l0_1 (l0_1.length : Int) x25_2 a0_0 l0_1 l0_2 x211000_2 x211001_2 = some (r1, r2, r3, r4)) ∧ Aside0 (kq ≤ kj2) ∧ Aside0 (Kd.R k49 49 w' w.heap.size (fun k_ => k_ ≠ gb210) v6 x6_2) ∧ Aside0 (w'.heap[gb209]? = some (.cells #[.int .i64 a0_0, (.slice A0_1 l0_1.length c0_1), (.slice A0_2 l0_2.length c0_2)] 24 (0, 0))) ∧ Aside0 (w'.heap[gb210]? = some (.cells #[.int .i64 x211000_2, .int .i64 x211001_2] 49 (0, 0))) ∧ Aside0 (w'.heap[gb211]? = some (.cells #[.int .i64 x212000_2, (.slice none 0 0), (.slice none 0 0)] 24 (0, 0))) ∧ Aside0 (Below w.heap.size w w'))
    case atStart => exact ⟨(([] : List (S49))), (false), (0), (a1_0), (a1_1), (0), (by first | rfl | (simp; done) | (simp [*]; done)), (by first | rfl | (simp; done) | (simp [*]; done)), H', ⟨Nat.le_refl _⟩, ⟨by first | exact Kd.R_nil _ _ _ _ _ | exact Kd.N_nil _ _ _ _ _ | exact Kd.V_nil _ _ _ _ _ | exact Kd.Q_nil _ _ _ _ _ | exact Kd.S_nil _ _ _ _ _⟩, ⟨yH BK209.out⟩, ⟨yH BK210.out⟩, ⟨yH BK211.out⟩, ⟨zH HB.out⟩⟩
    case round =>
     clear H'
     (try clear c1); (try clear c2); (try clear p2); (try clear c8); (try clear c10); (try clear c11); (try clear c14); (try clear c17); (try clear c18); (try clear c19); (try clear c22); (try clear c23); (try clear c24); (try clear c26); (try clear c27); (try clear hcz12_0); (try clear hcz12_1); (try clear hcz12_2); (try clear hcz15_0); (try clear hcz15_1); (try clear hcz16_0); (try clear hcz16_1); (try clear hcz16_2); (try clear hcz20_0); (try clear hcz20_1); (try clear hcz20_2); (try clear hcz25_0); (try clear hcz25_1); (try clear hcz25_2); (try clear hcz28_0); (try clear hcz28_1); (try clear hcz28_2); (try clear hfz12_0); (try clear hfz12_1); (try clear hfz12_2); (try clear hfz15_0); (try clear hfz15_1); (try clear hfz16_0); (try clear hfz16_1); (try clear hfz16_2); (try clear hfz20_0); (try clear hfz20_1); (try clear hfz20_2); (try clear hfz25_0); (try clear hfz25_1); (try clear hfz25_2); (try clear hfz28_0); (try clear hfz28_1); (try clear hfz28_2); (try clear p2)
     obtain ⟨x6_2, x7_2, x25_2, x211000_2, x211001_2, x212000_2, rfl, rfl, HA, HK2, p0', BK209, BK210, BK211, HB⟩ := hrel
     cases gk with
     | zero => exact absurd HA.out (fun h_ => by change none = some _ at h_; cases h_)
     | succ k2 =>
      have H := HA.out
      clear HA
      simp only [spec_GiveRoom.l0] at H
      by_cases c29 : x25_2 < (l0_1.length : Int)
      ·rw [if_pos c29] at H
       have c29b0 : decide (x25_2 < (l0_1.length : Int)) = true := decide_eq_true c29
       clear c29
       by_cases c30 : 0 ≤ x25_2
       ·rw [if_pos c30] at H
        have c30b0 : decide (0 ≤ x25_2) = true := decide_eq_true c30
        clear c30
        by_cases c31 : x25_2 < (l0_1.length : Int)
        ·rw [if_pos c31] at H
         have c31b0 : decide (x25_2 < (l0_1.length : Int)) = true := decide_eq_true c31
         clear c31
         by_cases c32 : (wrap64 (((rd_T49 l0_1 x25_2).f0) + ((rd_T49 l0_1 x25_2).f1))) < x211000_2
         ·rw [if_pos c32] at H
          have c32b0 : decide ((wrap64 (((rd_T49 l0_1 x25_2).f0) + ((rd_T49 l0_1 x25_2).f1))) < x211000_2) = true := decide_eq_true c32
          clear c32
          by_cases c33 : x6_2.length < 8796093022208
          ·rw [if_pos c33] at H
           have LMc33 := aM c33
           clear c33
           obtain ⟨y216, hy216⟩ : ∃ y_ : List (S49), y_ = (x6_2 ++ [(⟨(rd_T49 l0_1 x25_2).f0, (rd_T49 l0_1 x25_2).f1⟩ : S49)]) := ⟨_, rfl⟩
           replace H : (spec_GiveRoom.l0 k2 y216 x7_2 l0_1 (l0_1.length : Int) (wrap64 (x25_2 + 1)) a0_0 l0_1 l0_2 x211000_2 x211001_2) = some (r1, r2, r3, r4) := by first | (rw [hy216]; with_reducible exact H) | (have H2_ := (Option.bind_some _ _).symm.trans H; rw [hy216]; with_reducible exact H2_) | (have H2_ := (Option.bind_some _ _).symm.trans H; with_reducible exact H2_) | with_reducible exact H | (rw [hy216]; exact H) | exact H
           have Ny216 := aM hy216
           clear hy216
           have H' := aM H
           clear H
           have p214 : 0 ≤ (x25_2 : Int) := of_decide_eq_true (by first | (with_reducible assumption) | assumption)
           have q214 : x25_2 < (l0_1.length : Int) := of_decide_eq_true (by first | (with_reducible assumption) | assumption)
           obtain ⟨ad214, e214, hx214_0, hx214_1⟩ := at_T49 HR0_1.out x25_2 p214 q214
           cases e214
           replace hx214_0 := (HB.out.cell (World.block_lt_of_cell? w _ hx214_0)).trans hx214_0
           replace hx214_1 := (HB.out.cell (World.block_lt_of_cell? w _ hx214_1)).trans hx214_1
           replace p214 := eq_true p214
           replace q214 := eq_true q214
           go_wp2_with (first | ((with_reducible refine gate_dst (N := 9) rfl ?_); refine box_event ?hg (N := 9) ?hd (cs := #[.int .i64 0, .int .i64 0]) (t := 49) ?hr ?_; (case hd => rfl); (case hg => rfl); (case hr => first | (go_simp; done) | (go_simp; rfl)); intro gb215 hg w34 hbox hb; replace p0' := aM (xB (Kd.R_elderB (xH p0'.out) gb215 (Nat.le_of_eq hg.symm)) hb); have BK215 := aM (hbox); have GW215 := aM ((by rw [hg]; exact (zZ (zH HB.out)) : w.heap.size ≤ gb215)); have GE215 := aM ((by rw [hg]; exact (zZ (zH HB.out)) : w.heap.size ≤ gb215)); replace HB := aM (zT (zH HB.out) hb); have NB209_215 := nL BK209.out hg; have NB215_209 := nR BK209.out hg; replace BK209 := yK BK209.out hb; have NB210_215 := nL BK210.out hg; have NB215_210 := nR BK210.out hg; replace BK210 := yK BK210.out hb; have NB211_215 := nL BK211.out hg; have NB215_211 := nR BK211.out hg; replace BK211 := yK BK211.out hb; clear hb hbox hg; have hnb35 := NB215_209.out; have hnc35 := NB209_215.out; have hnb36 := NB215_210.out; have hnc36 := NB210_215.out; have hnb37 := NB215_211.out; have hnc37 := NB211_215.out; have hcz38_0 : w34.cell? ⟨gb215, 0, none⟩ = some (.int .i64 0) := yc BK215.out 0; have hcz38_1 : w34.cell? ⟨gb215, 1, none⟩ = some (.int .i64 0) := yc BK215.out 1; have hfz38_0 := yZ BK215.out 0; have hfz38_1 := yZ BK215.out 1; have hnb39 := NB210_209.out; have hnc39 := NB209_210.out; have hnb40 := NB210_211.out; have hnc40 := NB211_210.out; have hcz41_0 : w34.cell? ⟨gb210, 0, none⟩ = some (.int .i64 x211000_2) := yc BK210.out 0; have hcz41_1 : w34.cell? ⟨gb210, 1, none⟩ = some (.int .i64 x211001_2) := yc BK210.out 1; have hfz41_0 := yZ BK210.out 0; have hfz41_1 := yZ BK210.out 1) | ((with_reducible refine gate_builtin (b := .append) (xs := #[.tmp 39, .tmp 41]) rfl ?_); at_builtin; refine Kd.R_append k49 (w0 := w) w.heap.size rfl (.tmp 39) (.tmp 41) 22 49 (.agg #[(.int .i64 0), (.int .i64 0)]) 16 rfl Try.underlying22 info49 rfl (by decide) (by omega) u6 x6_2 (⟨(rd_T49 l0_1 x25_2).f0, (rd_T49 l0_1 x25_2).f1⟩ : S49) [.int .i64 ((rd_T49 l0_1 x25_2).f0), .int .i64 ((rd_T49 l0_1 x25_2).f1)] (fun k_ => k_ ≠ gb210 ∧ k_ ≠ gb215) (fun _ => False) rfl (by first | (go_simp; done) | (go_simp; rfl)) ?aP (fun _ hk => hk.elim) ?aF ?aO ?aB ?aS ?aL ?_; (case aP => exact k49_mkM _ _ _ (⟨(rd_T49 l0_1 x25_2).f0, (rd_T49 l0_1 x25_2).f1⟩ : S49)); (case aB => exact (zH HB.out)); (case aF => exact (fun k_ hk => ⟨Kd.freshB (g := gb210) (o := .cells #[.int .i64 x211000_2, .int .i64 x211001_2] 49 (0, 0)) (by (with_reducible repeat (first | refine yN ?_ _ | refine yD ?_ | refine yA ?_ _)); refine yF ?_ NB210_215.out _; (with_reducible repeat (first | refine yN ?_ _ | refine yD ?_ | refine yA ?_ _)); refine yF ?_ NB210_215.out _; (with_reducible repeat (first | refine yN ?_ _ | refine yD ?_ | refine yA ?_ _)); exact BK210.out) k_ hk, Kd.freshB (g := gb215) (o := .cells #[.int .i64 ((rd_T49 l0_1 x25_2).f0), .int .i64 ((rd_T49 l0_1 x25_2).f1)] 49 (0, 0)) (by (with_reducible repeat (first | refine yN ?_ _ | refine yD ?_ | refine yA ?_ _)); refine yP (cs := #[.int .i64 ((rd_T49 l0_1 x25_2).f0), .int .i64 0]) ?_ 1 _ rfl; (with_reducible repeat (first | refine yN ?_ _ | refine yD ?_ | refine yA ?_ _)); refine yP (cs := #[.int .i64 0, .int .i64 0]) ?_ 0 _ rfl; (with_reducible repeat (first | refine yN ?_ _ | refine yD ?_ | refine yA ?_ _)); exact BK215.out) k_ hk⟩)); (case aO => exact (xH (xM (xF (p := ⟨gb215, 1, none⟩) (xF (p := ⟨gb215, 0, none⟩) (xM p0'.out (fun k_ hk => (⟨hk, hk.2⟩ : _ ∧ k_ ≠ gb215))) (fun _ hk => hk.2) (.int .i64 ((rd_T49 l0_1 x25_2).f0))) (fun _ hk => hk.2) (.int .i64 ((rd_T49 l0_1 x25_2).f1))) (fun _ hk => ⟨hk.1.1, hk.1.2⟩)))); (case aS => exact (zZ (zH HB.out))); (case aL => have := LMc33.out; omega); intro v217 w42 ho hb hg hat; rw [← Ny216.out] at ho; replace BK209 := aM (blk_grown (g := gb209) (o := .cells #[.int .i64 a0_0, .slice (some ad214) l0_1.length c0_1, .slice A0_2 l0_2.length c0_2] 24 (0, 0)) (by (with_reducible repeat (first | refine yN ?_ _ | refine yD ?_ | refine yA ?_ _)); refine yF ?_ NB209_215.out _; (with_reducible repeat (first | refine yN ?_ _ | refine yD ?_ | refine yA ?_ _)); refine yF ?_ NB209_215.out _; (with_reducible repeat (first | refine yN ?_ _ | refine yD ?_ | refine yA ?_ _)); exact BK209.out) hg (Kd.R_ne p0'.out BK209.out (by decide))); replace BK210 := aM (blk_grown (g := gb210) (o := .cells #[.int .i64 x211000_2, .int .i64 x211001_2] 49 (0, 0)) (by (with_reducible repeat (first | refine yN ?_ _ | refine yD ?_ | refine yA ?_ _)); refine yF ?_ NB210_215.out _; (with_reducible repeat (first | refine yN ?_ _ | refine yD ?_ | refine yA ?_ _)); refine yF ?_ NB210_215.out _; (with_reducible repeat (first | refine yN ?_ _ | refine yD ?_ | refine yA ?_ _)); exact BK210.out) hg (Kd.R_away p0'.out (fun _ hk => hk.1))); replace BK211 := aM (blk_grown (g := gb211) (o := .cells #[.int .i64 x212000_2, .slice none 0 0, .slice none 0 0] 24 (0, 0)) (by (with_reducible repeat (first | refine yN ?_ _ | refine yD ?_ | refine yA ?_ _)); refine yF ?_ NB211_215.out _; (with_reducible repeat (first | refine yN ?_ _ | refine yD ?_ | refine yA ?_ _)); refine yF ?_ NB211_215.out _; (with_reducible repeat (first | refine yN ?_ _ | refine yD ?_ | refine yA ?_ _)); exact BK211.out) hg (Kd.R_ne p0'.out BK211.out (by decide))); replace BK215 := aM (blk_grown (g := gb215) (o := .cells #[.int .i64 ((rd_T49 l0_1 x25_2).f0), .int .i64 ((rd_T49 l0_1 x25_2).f1)] 49 (0, 0)) (by (with_reducible repeat (first | refine yN ?_ _ | refine yD ?_ | refine yA ?_ _)); refine yP (cs := #[.int .i64 ((rd_T49 l0_1 x25_2).f0), .int .i64 0]) ?_ 1 _ rfl; (with_reducible repeat (first | refine yN ?_ _ | refine yD ?_ | refine yA ?_ _)); refine yP (cs := #[.int .i64 0, .int .i64 0]) ?_ 0 _ rfl; (with_reducible repeat (first | refine yN ?_ _ | refine yD ?_ | refine yA ?_ _)); exact BK215.out) hg (Kd.R_away p0'.out (fun _ hk => hk.2))); replace HB := aM (hb); have HO218 := aM (ho); clear p0'; clear ho hb hg hat))
           go_roundg k2
           case measure => have := HJ2.out; have := HK2.out; omega
           case rel => exact ⟨(y216), (x7_2), (wrap64 (x25_2 + 1)), (x211000_2), (x211001_2), (x212000_2), (by first | rfl | (simp; done) | (simp [*]; done)), (by first | rfl | (simp; done) | (simp [*]; done)), H', ⟨by have := HJ2.out; have := HK2.out; omega⟩, ⟨xH (xM HO218.out (fun _ hk => hk.1))⟩, ⟨yH BK209.out⟩, ⟨yH BK210.out⟩, ⟨yH BK211.out⟩, ⟨zH HB.out⟩⟩
          ·rw [if_neg c33] at H
           exact absurd H (by simp)
         ·rw [if_neg c32] at H
          have c32b0 : decide ((wrap64 (((rd_T49 l0_1 x25_2).f0) + ((rd_T49 l0_1 x25_2).f1))) < x211000_2) = false := decide_eq_false c32
          clear c32
          by_cases c43 : ((rd_T49 l0_1 x25_2).f0) > (wrap64 (x211000_2 + x211001_2))
          ·rw [if_pos c43] at H
           have c43b0 : decide ((wrap64 (x211000_2 + x211001_2)) < ((rd_T49 l0_1 x25_2).f0)) = true := decide_eq_true c43
           clear c43
           by_cases c44 : x7_2 = true
           ·subst c44
            have H1 : (if x6_2.length < 8796093022208 then (spec_GiveRoom.l0 k2 (x6_2 ++ [(⟨(rd_T49 l0_1 x25_2).f0, (rd_T49 l0_1 x25_2).f1⟩ : S49)]) true l0_1 (l0_1.length : Int) (wrap64 (x25_2 + 1)) a0_0 l0_1 l0_2 x211000_2 x211001_2) else (none)) = some (r1, r2, r3, r4) := by rw [if_pos rfl] at H; exact H
            clear H
            have H := H1
            clear H1
            by_cases c45 : x6_2.length < 8796093022208
            ·rw [if_pos c45] at H
             have LMc45 := aM c45
             clear c45
             obtain ⟨y219, hy219⟩ : ∃ y_ : List (S49), y_ = (x6_2 ++ [(⟨(rd_T49 l0_1 x25_2).f0, (rd_T49 l0_1 x25_2).f1⟩ : S49)]) := ⟨_, rfl⟩
             replace H : (spec_GiveRoom.l0 k2 y219 true l0_1 (l0_1.length : Int) (wrap64 (x25_2 + 1)) a0_0 l0_1 l0_2 x211000_2 x211001_2) = some (r1, r2, r3, r4) := by first | (rw [hy219]; with_reducible exact H) | (have H2_ := (Option.bind_some _ _).symm.trans H; rw [hy219]; with_reducible exact H2_) | (have H2_ := (Option.bind_some _ _).symm.trans H; with_reducible exact H2_) | with_reducible exact H | (rw [hy219]; exact H) | exact H
             have Ny219 := aM hy219
             clear hy219
             have H' := aM H
             clear H
             have p214 : 0 ≤ (x25_2 : Int) := of_decide_eq_true (by first | (with_reducible assumption) | assumption)
             have q214 : x25_2 < (l0_1.length : Int) := of_decide_eq_true (by first | (with_reducible assumption) | assumption)
             obtain ⟨ad214, e214, hx214_0, hx214_1⟩ := at_T49 HR0_1.out x25_2 p214 q214
             cases e214
             replace hx214_0 := (HB.out.cell (World.block_lt_of_cell? w _ hx214_0)).trans hx214_0
             replace hx214_1 := (HB.out.cell (World.block_lt_of_cell? w _ hx214_1)).trans hx214_1
             replace p214 := eq_true p214
             replace q214 := eq_true q214
             go_wp2_with (first | ((with_reducible refine gate_dst (N := 9) rfl ?_); refine box_event ?hg (N := 9) ?hd (cs := #[.int .i64 0, .int .i64 0]) (t := 49) ?hr ?_; (case hd => rfl); (case hg => rfl); (case hr => first | (go_simp; done) | (go_simp; rfl)); intro gb215 hg w46 hbox hb; replace p0' := aM (xB (Kd.R_elderB (xH p0'.out) gb215 (Nat.le_of_eq hg.symm)) hb); have BK215 := aM (hbox); have GW215 := aM ((by rw [hg]; exact (zZ (zH HB.out)) : w.heap.size ≤ gb215)); have GE215 := aM ((by rw [hg]; exact (zZ (zH HB.out)) : w.heap.size ≤ gb215)); replace HB := aM (zT (zH HB.out) hb); have NB209_215 := nL BK209.out hg; have NB215_209 := nR BK209.out hg; replace BK209 := yK BK209.out hb; have NB210_215 := nL BK210.out hg; have NB215_210 := nR BK210.out hg; replace BK210 := yK BK210.out hb; have NB211_215 := nL BK211.out hg; have NB215_211 := nR BK211.out hg; replace BK211 := yK BK211.out hb; clear hb hbox hg; have hnb47 := NB215_209.out; have hnc47 := NB209_215.out; have hnb48 := NB215_210.out; have hnc48 := NB210_215.out; have hnb49 := NB215_211.out; have hnc49 := NB211_215.out; have hcz50_0 : w46.cell? ⟨gb215, 0, none⟩ = some (.int .i64 0) := yc BK215.out 0; have hcz50_1 : w46.cell? ⟨gb215, 1, none⟩ = some (.int .i64 0) := yc BK215.out 1; have hfz50_0 := yZ BK215.out 0; have hfz50_1 := yZ BK215.out 1; have hnb51 := NB210_209.out; have hnc51 := NB209_210.out; have hnb52 := NB210_211.out; have hnc52 := NB211_210.out; have hcz53_0 : w46.cell? ⟨gb210, 0, none⟩ = some (.int .i64 x211000_2) := yc BK210.out 0; have hcz53_1 : w46.cell? ⟨gb210, 1, none⟩ = some (.int .i64 x211001_2) := yc BK210.out 1; have hfz53_0 := yZ BK210.out 0; have hfz53_1 := yZ BK210.out 1) | ((with_reducible refine gate_builtin (b := .append) (xs := #[.tmp 58, .tmp 60]) rfl ?_); at_builtin; refine Kd.R_append k49 (w0 := w) w.heap.size rfl (.tmp 58) (.tmp 60) 22 49 (.agg #[(.int .i64 0), (.int .i64 0)]) 16 rfl Try.underlying22 info49 rfl (by decide) (by omega) u6 x6_2 (⟨(rd_T49 l0_1 x25_2).f0, (rd_T49 l0_1 x25_2).f1⟩ : S49) [.int .i64 ((rd_T49 l0_1 x25_2).f0), .int .i64 ((rd_T49 l0_1 x25_2).f1)] (fun k_ => k_ ≠ gb210 ∧ k_ ≠ gb215) (fun _ => False) rfl (by first | (go_simp; done) | (go_simp; rfl)) ?aP (fun _ hk => hk.elim) ?aF ?aO ?aB ?aS ?aL ?_; (case aP => exact k49_mkM _ _ _ (⟨(rd_T49 l0_1 x25_2).f0, (rd_T49 l0_1 x25_2).f1⟩ : S49)); (case aB => exact (zH HB.out)); (case aF => exact (fun k_ hk => ⟨Kd.freshB (g := gb210) (o := .cells #[.int .i64 x211000_2, .int .i64 x211001_2] 49 (0, 0)) (by (with_reducible repeat (first | refine yN ?_ _ | refine yD ?_ | refine yA ?_ _)); refine yF ?_ NB210_215.out _; (with_reducible repeat (first | refine yN ?_ _ | refine yD ?_ | refine yA ?_ _)); refine yF ?_ NB210_215.out _; (with_reducible repeat (first | refine yN ?_ _ | refine yD ?_ | refine yA ?_ _)); exact BK210.out) k_ hk, Kd.freshB (g := gb215) (o := .cells #[.int .i64 ((rd_T49 l0_1 x25_2).f0), .int .i64 ((rd_T49 l0_1 x25_2).f1)] 49 (0, 0)) (by (with_reducible repeat (first | refine yN ?_ _ | refine yD ?_ | refine yA ?_ _)); refine yP (cs := #[.int .i64 ((rd_T49 l0_1 x25_2).f0), .int .i64 0]) ?_ 1 _ rfl; (with_reducible repeat (first | refine yN ?_ _ | refine yD ?_ | refine yA ?_ _)); refine yP (cs := #[.int .i64 0, .int .i64 0]) ?_ 0 _ rfl; (with_reducible repeat (first | refine yN ?_ _ | refine yD ?_ | refine yA ?_ _)); exact BK215.out) k_ hk⟩)); (case aO => exact (xH (xM (xF (p := ⟨gb215, 1, none⟩) (xF (p := ⟨gb215, 0, none⟩) (xM p0'.out (fun k_ hk => (⟨hk, hk.2⟩ : _ ∧ k_ ≠ gb215))) (fun _ hk => hk.2) (.int .i64 ((rd_T49 l0_1 x25_2).f0))) (fun _ hk => hk.2) (.int .i64 ((rd_T49 l0_1 x25_2).f1))) (fun _ hk => ⟨hk.1.1, hk.1.2⟩)))); (case aS => exact (zZ (zH HB.out))); (case aL => have := LMc45.out; omega); intro v220 w54 ho hb hg hat; rw [← Ny219.out] at ho; replace BK209 := aM (blk_grown (g := gb209) (o := .cells #[.int .i64 a0_0, .slice (some ad214) l0_1.length c0_1, .slice A0_2 l0_2.length c0_2] 24 (0, 0)) (by (with_reducible repeat (first | refine yN ?_ _ | refine yD ?_ | refine yA ?_ _)); refine yF ?_ NB209_215.out _; (with_reducible repeat (first | refine yN ?_ _ | refine yD ?_ | refine yA ?_ _)); refine yF ?_ NB209_215.out _; (with_reducible repeat (first | refine yN ?_ _ | refine yD ?_ | refine yA ?_ _)); exact BK209.out) hg (Kd.R_ne p0'.out BK209.out (by decide))); replace BK210 := aM (blk_grown (g := gb210) (o := .cells #[.int .i64 x211000_2, .int .i64 x211001_2] 49 (0, 0)) (by (with_reducible repeat (first | refine yN ?_ _ | refine yD ?_ | refine yA ?_ _)); refine yF ?_ NB210_215.out _; (with_reducible repeat (first | refine yN ?_ _ | refine yD ?_ | refine yA ?_ _)); refine yF ?_ NB210_215.out _; (with_reducible repeat (first | refine yN ?_ _ | refine yD ?_ | refine yA ?_ _)); exact BK210.out) hg (Kd.R_away p0'.out (fun _ hk => hk.1))); replace BK211 := aM (blk_grown (g := gb211) (o := .cells #[.int .i64 x212000_2, .slice none 0 0, .slice none 0 0] 24 (0, 0)) (by (with_reducible repeat (first | refine yN ?_ _ | refine yD ?_ | refine yA ?_ _)); refine yF ?_ NB211_215.out _; (with_reducible repeat (first | refine yN ?_ _ | refine yD ?_ | refine yA ?_ _)); refine yF ?_ NB211_215.out _; (with_reducible repeat (first | refine yN ?_ _ | refine yD ?_ | refine yA ?_ _)); exact BK211.out) hg (Kd.R_ne p0'.out BK211.out (by decide))); replace BK215 := aM (blk_grown (g := gb215) (o := .cells #[.int .i64 ((rd_T49 l0_1 x25_2).f0), .int .i64 ((rd_T49 l0_1 x25_2).f1)] 49 (0, 0)) (by (with_reducible repeat (first | refine yN ?_ _ | refine yD ?_ | refine yA ?_ _)); refine yP (cs := #[.int .i64 ((rd_T49 l0_1 x25_2).f0), .int .i64 0]) ?_ 1 _ rfl; (with_reducible repeat (first | refine yN ?_ _ | refine yD ?_ | refine yA ?_ _)); refine yP (cs := #[.int .i64 0, .int .i64 0]) ?_ 0 _ rfl; (with_reducible repeat (first | refine yN ?_ _ | refine yD ?_ | refine yA ?_ _)); exact BK215.out) hg (Kd.R_away p0'.out (fun _ hk => hk.2))); replace HB := aM (hb); have HO221 := aM (ho); clear p0'; clear ho hb hg hat))
             go_roundg k2
             case measure => have := HJ2.out; have := HK2.out; omega
             case rel => exact ⟨(y219), (true), (wrap64 (x25_2 + 1)), (x211000_2), (x211001_2), (x212000_2), (by first | rfl | (simp; done) | (simp [*]; done)), (by first | rfl | (simp; done) | (simp [*]; done)), H', ⟨by have := HJ2.out; have := HK2.out; omega⟩, ⟨xH (xM HO221.out (fun _ hk => hk.1))⟩, ⟨yH BK209.out⟩, ⟨yH BK210.out⟩, ⟨yH BK211.out⟩, ⟨zH HB.out⟩⟩
            ·rw [if_neg c45] at H
             exact absurd H (by simp)
           ·replace c44 := Bool.eq_false_iff.mpr c44
            subst c44
            have H1 : (if x6_2.length < 8796093022208 then ((some (x6_2 ++ [(⟨x211000_2, x211001_2⟩ : S49)] : List (S49))).bind fun y222 => (if y222.length < 8796093022208 then (spec_GiveRoom.l0 k2 (y222 ++ [(⟨(rd_T49 l0_1 x25_2).f0, (rd_T49 l0_1 x25_2).f1⟩ : S49)]) true l0_1 (l0_1.length : Int) (wrap64 (x25_2 + 1)) a0_0 l0_1 l0_2 x211000_2 x211001_2) else (none))) else (none)) = some (r1, r2, r3, r4) := by rw [if_neg (show ¬ (false = true) by decide)] at H; exact H
            clear H
            have H := H1
            clear H1
            by_cases c55 : x6_2.length < 8796093022208
            ·rw [if_pos c55] at H
             have LMc55 := aM c55
             clear c55
             obtain ⟨y222, hy222⟩ : ∃ y_ : List (S49), y_ = (x6_2 ++ [(⟨x211000_2, x211001_2⟩ : S49)]) := ⟨_, rfl⟩
             replace H : (if y222.length < 8796093022208 then (spec_GiveRoom.l0 k2 (y222 ++ [(⟨(rd_T49 l0_1 x25_2).f0, (rd_T49 l0_1 x25_2).f1⟩ : S49)]) true l0_1 (l0_1.length : Int) (wrap64 (x25_2 + 1)) a0_0 l0_1 l0_2 x211000_2 x211001_2) else (none)) = some (r1, r2, r3, r4) := by first | (rw [hy222]; with_reducible exact H) | (have H2_ := (Option.bind_some _ _).symm.trans H; rw [hy222]; with_reducible exact H2_) | (have H2_ := (Option.bind_some _ _).symm.trans H; with_reducible exact H2_) | with_reducible exact H | (rw [hy222]; exact H) | exact H
             have Ny222 := aM hy222
             clear hy222
             by_cases c56 : y222.length < 8796093022208
             ·rw [if_pos c56] at H
              have LMc56 := aM c56
              clear c56
              obtain ⟨y225, hy225⟩ : ∃ y_ : List (S49), y_ = (y222 ++ [(⟨(rd_T49 l0_1 x25_2).f0, (rd_T49 l0_1 x25_2).f1⟩ : S49)]) := ⟨_, rfl⟩
              replace H : (spec_GiveRoom.l0 k2 y225 true l0_1 (l0_1.length : Int) (wrap64 (x25_2 + 1)) a0_0 l0_1 l0_2 x211000_2 x211001_2) = some (r1, r2, r3, r4) := by first | (rw [hy225]; with_reducible exact H) | (have H2_ := (Option.bind_some _ _).symm.trans H; rw [hy225]; with_reducible exact H2_) | (have H2_ := (Option.bind_some _ _).symm.trans H; with_reducible exact H2_) | with_reducible exact H | (rw [hy225]; exact H) | exact H
              have Ny225 := aM hy225
              clear hy225
              have H' := aM H
              clear H
              have p214 : 0 ≤ (x25_2 : Int) := of_decide_eq_true (by first | (with_reducible assumption) | assumption)
              have q214 : x25_2 < (l0_1.length : Int) := of_decide_eq_true (by first | (with_reducible assumption) | assumption)
              obtain ⟨ad214, e214, hx214_0, hx214_1⟩ := at_T49 HR0_1.out x25_2 p214 q214
              cases e214
              replace hx214_0 := (HB.out.cell (World.block_lt_of_cell? w _ hx214_0)).trans hx214_0
              replace hx214_1 := (HB.out.cell (World.block_lt_of_cell? w _ hx214_1)).trans hx214_1
              replace p214 := eq_true p214
              replace q214 := eq_true q214
              go_wp2_with (first | ((with_reducible refine gate_dst (N := 9) rfl ?_); refine box_event ?hg (N := 9) ?hd (cs := #[.int .i64 0, .int .i64 0]) (t := 49) ?hr ?_; (case hd => rfl); (case hg => rfl); (case hr => first | (go_simp; done) | (go_simp; rfl)); intro gb215 hg w57 hbox hb; replace p0' := aM (xB (Kd.R_elderB (xH p0'.out) gb215 (Nat.le_of_eq hg.symm)) hb); have BK215 := aM (hbox); have GW215 := aM ((by rw [hg]; exact (zZ (zH HB.out)) : w.heap.size ≤ gb215)); have GE215 := aM ((by rw [hg]; exact (zZ (zH HB.out)) : w.heap.size ≤ gb215)); replace HB := aM (zT (zH HB.out) hb); have NB209_215 := nL BK209.out hg; have NB215_209 := nR BK209.out hg; replace BK209 := yK BK209.out hb; have NB210_215 := nL BK210.out hg; have NB215_210 := nR BK210.out hg; replace BK210 := yK BK210.out hb; have NB211_215 := nL BK211.out hg; have NB215_211 := nR BK211.out hg; replace BK211 := yK BK211.out hb; clear hb hbox hg; have hnb58 := NB215_209.out; have hnc58 := NB209_215.out; have hnb59 := NB215_210.out; have hnc59 := NB210_215.out; have hnb60 := NB215_211.out; have hnc60 := NB211_215.out; have hcz61_0 : w57.cell? ⟨gb215, 0, none⟩ = some (.int .i64 0) := yc BK215.out 0; have hcz61_1 : w57.cell? ⟨gb215, 1, none⟩ = some (.int .i64 0) := yc BK215.out 1; have hfz61_0 := yZ BK215.out 0; have hfz61_1 := yZ BK215.out 1; have hnb62 := NB210_209.out; have hnc62 := NB209_210.out; have hnb63 := NB210_211.out; have hnc63 := NB211_210.out; have hcz64_0 : w57.cell? ⟨gb210, 0, none⟩ = some (.int .i64 x211000_2) := yc BK210.out 0; have hcz64_1 : w57.cell? ⟨gb210, 1, none⟩ = some (.int .i64 x211001_2) := yc BK210.out 1; have hfz64_0 := yZ BK210.out 0; have hfz64_1 := yZ BK210.out 1) | ((with_reducible refine gate_builtin (b := .append) (xs := #[.tmp 54, .tmp 56]) rfl ?_); at_builtin; refine Kd.R_append k49 (w0 := w) w.heap.size rfl (.tmp 54) (.tmp 56) 22 49 (.agg #[(.int .i64 0), (.int .i64 0)]) 16 rfl Try.underlying22 info49 rfl (by decide) (by omega) u6 x6_2 (⟨x211000_2, x211001_2⟩ : S49) [.int .i64 x211000_2, .int .i64 x211001_2] (fun k_ => k_ ≠ gb210 ∧ k_ ≠ gb215) (fun _ => False) rfl (by first | (go_simp; done) | (go_simp; rfl)) ?aP (fun _ hk => hk.elim) ?aF ?aO ?aB ?aS ?aL ?_; (case aP => exact k49_mkM _ _ _ (⟨x211000_2, x211001_2⟩ : S49)); (case aB => exact (zH HB.out)); (case aF => exact (fun k_ hk => ⟨Kd.freshB (g := gb210) (o := .cells #[.int .i64 x211000_2, .int .i64 x211001_2] 49 (0, 0)) (by (with_reducible repeat (first | refine yN ?_ _ | refine yD ?_ | refine yA ?_ _)); refine yF ?_ NB210_215.out _; (with_reducible repeat (first | refine yN ?_ _ | refine yD ?_ | refine yA ?_ _)); refine yF ?_ NB210_215.out _; (with_reducible repeat (first | refine yN ?_ _ | refine yD ?_ | refine yA ?_ _)); exact BK210.out) k_ hk, Kd.freshB (g := gb215) (o := .cells #[.int .i64 ((rd_T49 l0_1 x25_2).f0), .int .i64 ((rd_T49 l0_1 x25_2).f1)] 49 (0, 0)) (by (with_reducible repeat (first | refine yN ?_ _ | refine yD ?_ | refine yA ?_ _)); refine yP (cs := #[.int .i64 ((rd_T49 l0_1 x25_2).f0), .int .i64 0]) ?_ 1 _ rfl; (with_reducible repeat (first | refine yN ?_ _ | refine yD ?_ | refine yA ?_ _)); refine yP (cs := #[.int .i64 0, .int .i64 0]) ?_ 0 _ rfl; (with_reducible repeat (first | refine yN ?_ _ | refine yD ?_ | refine yA ?_ _)); exact BK215.out) k_ hk⟩)); (case aO => exact (xH (xM (xF (p := ⟨gb215, 1, none⟩) (xF (p := ⟨gb215, 0, none⟩) (xM p0'.out (fun k_ hk => (⟨hk, hk.2⟩ : _ ∧ k_ ≠ gb215))) (fun _ hk => hk.2) (.int .i64 ((rd_T49 l0_1 x25_2).f0))) (fun _ hk => hk.2) (.int .i64 ((rd_T49 l0_1 x25_2).f1))) (fun _ hk => ⟨hk.1.1, hk.1.2⟩)))); (case aS => exact (zZ (zH HB.out))); (case aL => have := LMc55.out; omega); intro v223 w65 ho hb hg hat; rw [← Ny222.out] at ho; replace BK209 := aM (blk_grown (g := gb209) (o := .cells #[.int .i64 a0_0, .slice (some ad214) l0_1.length c0_1, .slice A0_2 l0_2.length c0_2] 24 (0, 0)) (by (with_reducible repeat (first | refine yN ?_ _ | refine yD ?_ | refine yA ?_ _)); refine yF ?_ NB209_215.out _; (with_reducible repeat (first | refine yN ?_ _ | refine yD ?_ | refine yA ?_ _)); refine yF ?_ NB209_215.out _; (with_reducible repeat (first | refine yN ?_ _ | refine yD ?_ | refine yA ?_ _)); exact BK209.out) hg (Kd.R_ne p0'.out BK209.out (by decide))); replace BK210 := aM (blk_grown (g := gb210) (o := .cells #[.int .i64 x211000_2, .int .i64 x211001_2] 49 (0, 0)) (by (with_reducible repeat (first | refine yN ?_ _ | refine yD ?_ | refine yA ?_ _)); refine yF ?_ NB210_215.out _; (with_reducible repeat (first | refine yN ?_ _ | refine yD ?_ | refine yA ?_ _)); refine yF ?_ NB210_215.out _; (with_reducible repeat (first | refine yN ?_ _ | refine yD ?_ | refine yA ?_ _)); exact BK210.out) hg (Kd.R_away p0'.out (fun _ hk => hk.1))); replace BK211 := aM (blk_grown (g := gb211) (o := .cells #[.int .i64 x212000_2, .slice none 0 0, .slice none 0 0] 24 (0, 0)) (by (with_reducible repeat (first | refine yN ?_ _ | refine yD ?_ | refine yA ?_ _)); refine yF ?_ NB211_215.out _; (with_reducible repeat (first | refine yN ?_ _ | refine yD ?_ | refine yA ?_ _)); refine yF ?_ NB211_215.out _; (with_reducible repeat (first | refine yN ?_ _ | refine yD ?_ | refine yA ?_ _)); exact BK211.out) hg (Kd.R_ne p0'.out BK211.out (by decide))); replace BK215 := aM (blk_grown (g := gb215) (o := .cells #[.int .i64 ((rd_T49 l0_1 x25_2).f0), .int .i64 ((rd_T49 l0_1 x25_2).f1)] 49 (0, 0)) (by (with_reducible repeat (first | refine yN ?_ _ | refine yD ?_ | refine yA ?_ _)); refine yP (cs := #[.int .i64 ((rd_T49 l0_1 x25_2).f0), .int .i64 0]) ?_ 1 _ rfl; (with_reducible repeat (first | refine yN ?_ _ | refine yD ?_ | refine yA ?_ _)); refine yP (cs := #[.int .i64 0, .int .i64 0]) ?_ 0 _ rfl; (with_reducible repeat (first | refine yN ?_ _ | refine yD ?_ | refine yA ?_ _)); exact BK215.out) hg (Kd.R_away p0'.out (fun _ hk => hk.2))); replace HB := aM (hb); have HO224 := aM (ho); clear p0'; clear ho hb hg hat; have hcz66_0 : w65.cell? ⟨gb215, 0, none⟩ = some (.int .i64 ((rd_T49 l0_1 x25_2).f0)) := yc BK215.out 0; have hcz66_1 : w65.cell? ⟨gb215, 1, none⟩ = some (.int .i64 ((rd_T49 l0_1 x25_2).f1)) := yc BK215.out 1; have hfz66_0 := yZ BK215.out 0; have hfz66_1 := yZ BK215.out 1) | ((with_reducible refine gate_builtin (b := .append) (xs := #[.tmp 58, .tmp 60]) rfl ?_); at_builtin; refine Kd.R_append k49 (w0 := w) w.heap.size rfl (.tmp 58) (.tmp 60) 22 49 (.agg #[(.int .i64 0), (.int .i64 0)]) 16 rfl Try.underlying22 info49 rfl (by decide) (by omega) v223 y222 (⟨(rd_T49 l0_1 x25_2).f0, (rd_T49 l0_1 x25_2).f1⟩ : S49) [.int .i64 ((rd_T49 l0_1 x25_2).f0), .int .i64 ((rd_T49 l0_1 x25_2).f1)] (fun k_ => k_ ≠ gb210 ∧ k_ ≠ gb215) (fun _ => False) rfl rfl ?aP (fun _ hk => hk.elim) ?aF ?aO ?aB ?aS ?aL ?_; (case aP => exact k49_mkM _ _ _ (⟨(rd_T49 l0_1 x25_2).f0, (rd_T49 l0_1 x25_2).f1⟩ : S49)); (case aB => exact (zH HB.out)); (case aF => exact (fun k_ hk => ⟨Kd.freshB (g := gb210) (o := .cells #[.int .i64 x211000_2, .int .i64 x211001_2] 49 (0, 0)) (yH BK210.out) k_ hk, Kd.freshB (g := gb215) (o := .cells #[.int .i64 ((rd_T49 l0_1 x25_2).f0), .int .i64 ((rd_T49 l0_1 x25_2).f1)] 49 (0, 0)) (yH BK215.out) k_ hk⟩)); (case aO => exact (xH HO224.out)); (case aS => exact (zZ (zH HB.out))); (case aL => have := LMc56.out; omega); intro v226 w67 ho hb hg hat; rw [← Ny225.out] at ho; replace BK209 := aM (blk_grown (g := gb209) (o := .cells #[.int .i64 a0_0, .slice (some ad214) l0_1.length c0_1, .slice A0_2 l0_2.length c0_2] 24 (0, 0)) (yH BK209.out) hg (Kd.R_ne HO224.out BK209.out (by decide))); replace BK210 := aM (blk_grown (g := gb210) (o := .cells #[.int .i64 x211000_2, .int .i64 x211001_2] 49 (0, 0)) (yH BK210.out) hg (Kd.R_away HO224.out (fun _ hk => hk.1))); replace BK211 := aM (blk_grown (g := gb211) (o := .cells #[.int .i64 x212000_2, .slice none 0 0, .slice none 0 0] 24 (0, 0)) (yH BK211.out) hg (Kd.R_ne HO224.out BK211.out (by decide))); replace BK215 := aM (blk_grown (g := gb215) (o := .cells #[.int .i64 ((rd_T49 l0_1 x25_2).f0), .int .i64 ((rd_T49 l0_1 x25_2).f1)] 49 (0, 0)) (yH BK215.out) hg (Kd.R_away HO224.out (fun _ hk => hk.2))); replace HB := aM (hb); have HO227 := aM (ho); clear HO224; clear ho hb hg hat))
              go_roundg k2
              case measure => have := HJ2.out; have := HK2.out; omega
              case rel => exact ⟨(y225), (true), (wrap64 (x25_2 + 1)), (x211000_2), (x211001_2), (x212000_2), (by first | rfl | (simp; done) | (simp [*]; done)), (by first | rfl | (simp; done) | (simp [*]; done)), H', ⟨by have := HJ2.out; have := HK2.out; omega⟩, ⟨xH (xM HO227.out (fun _ hk => hk.1))⟩, ⟨yH BK209.out⟩, ⟨yH BK210.out⟩, ⟨yH BK211.out⟩, ⟨zH HB.out⟩⟩
             ·rw [if_neg c56] at H
              exact absurd H (by simp)
            ·rw [if_neg c55] at H
             exact absurd H (by simp)
          ·rw [if_neg c43] at H
           have c43b0 : decide ((wrap64 (x211000_2 + x211001_2)) < ((rd_T49 l0_1 x25_2).f0)) = false := decide_eq_false c43
           clear c43
           by_cases c68 : (wrap64 (((rd_T49 l0_1 x25_2).f0) + ((rd_T49 l0_1 x25_2).f1))) = x211000_2
           ·rw [if_pos c68] at H
            have c68b0 : ((wrap64 (((rd_T49 l0_1 x25_2).f0) + ((rd_T49 l0_1 x25_2).f1))) == x211000_2) = true := beq_iff_eq.mpr c68
            have c68b1 : ((wrap64 (((rd_T49 l0_1 x25_2).f0) + ((rd_T49 l0_1 x25_2).f1))) != x211000_2) = false := bne_eq_false_iff_eq.mpr c68
            clear c68
            have H' := aM H
            clear H
            have p214 : 0 ≤ (x25_2 : Int) := of_decide_eq_true (by first | (with_reducible assumption) | assumption)
            have q214 : x25_2 < (l0_1.length : Int) := of_decide_eq_true (by first | (with_reducible assumption) | assumption)
            obtain ⟨ad214, e214, hx214_0, hx214_1⟩ := at_T49 HR0_1.out x25_2 p214 q214
            cases e214
            replace hx214_0 := (HB.out.cell (World.block_lt_of_cell? w _ hx214_0)).trans hx214_0
            replace hx214_1 := (HB.out.cell (World.block_lt_of_cell? w _ hx214_1)).trans hx214_1
            replace p214 := eq_true p214
            replace q214 := eq_true q214
            go_wp2_with (first | ((with_reducible refine gate_dst (N := 9) rfl ?_); refine box_event ?hg (N := 9) ?hd (cs := #[.int .i64 0, .int .i64 0]) (t := 49) ?hr ?_; (case hd => rfl); (case hg => rfl); (case hr => first | (go_simp; done) | (go_simp; rfl)); intro gb215 hg w69 hbox hb; replace p0' := aM (xB (Kd.R_elderB (xH p0'.out) gb215 (Nat.le_of_eq hg.symm)) hb); have BK215 := aM (hbox); have GW215 := aM ((by rw [hg]; exact (zZ (zH HB.out)) : w.heap.size ≤ gb215)); have GE215 := aM ((by rw [hg]; exact (zZ (zH HB.out)) : w.heap.size ≤ gb215)); replace HB := aM (zT (zH HB.out) hb); have NB209_215 := nL BK209.out hg; have NB215_209 := nR BK209.out hg; replace BK209 := yK BK209.out hb; have NB210_215 := nL BK210.out hg; have NB215_210 := nR BK210.out hg; replace BK210 := yK BK210.out hb; have NB211_215 := nL BK211.out hg; have NB215_211 := nR BK211.out hg; replace BK211 := yK BK211.out hb; clear hb hbox hg; have hnb70 := NB215_209.out; have hnc70 := NB209_215.out; have hnb71 := NB215_210.out; have hnc71 := NB210_215.out; have hnb72 := NB215_211.out; have hnc72 := NB211_215.out; have hcz73_0 : w69.cell? ⟨gb215, 0, none⟩ = some (.int .i64 0) := yc BK215.out 0; have hcz73_1 : w69.cell? ⟨gb215, 1, none⟩ = some (.int .i64 0) := yc BK215.out 1; have hfz73_0 := yZ BK215.out 0; have hfz73_1 := yZ BK215.out 1; have hnb74 := NB210_209.out; have hnc74 := NB209_210.out; have hnb75 := NB210_211.out; have hnc75 := NB211_210.out; have hcz76_0 : w69.cell? ⟨gb210, 0, none⟩ = some (.int .i64 x211000_2) := yc BK210.out 0; have hcz76_1 : w69.cell? ⟨gb210, 1, none⟩ = some (.int .i64 x211001_2) := yc BK210.out 1; have hfz76_0 := yZ BK210.out 0; have hfz76_1 := yZ BK210.out 1))
            go_roundg k2
            case measure => have := HJ2.out; have := HK2.out; omega
            case rel => exact ⟨(x6_2), (x7_2), (wrap64 (x25_2 + 1)), ((rd_T49 l0_1 x25_2).f0), (wrap64 (((rd_T49 l0_1 x25_2).f1) + x211001_2)), (x212000_2), (by first | rfl | (simp; done) | (simp [*]; done)), (by first | rfl | (simp; done) | (simp [*]; done)), H', ⟨by have := HJ2.out; have := HK2.out; omega⟩, ⟨xH (xM (xF (p := ⟨gb210, 1, none⟩) (xF (p := ⟨gb210, 0, none⟩) (xF (p := ⟨gb215, 1, none⟩) (xF (p := ⟨gb215, 0, none⟩) (xM (xM p0'.out (fun k_ hk => (⟨hk, hk.2⟩ : _ ∧ k_ ≠ gb215))) (fun k_ hk => (⟨hk, hk.1.1⟩ : _ ∧ k_ ≠ gb210))) (fun _ hk => hk.1.2) (.int .i64 ((rd_T49 l0_1 x25_2).f0))) (fun _ hk => hk.1.2) (.int .i64 ((rd_T49 l0_1 x25_2).f1))) (fun _ hk => hk.2) (.int .i64 ((rd_T49 l0_1 x25_2).f0))) (fun _ hk => hk.2) (.int .i64 (wrap64 (((rd_T49 l0_1 x25_2).f1) + x211001_2)))) (fun _ hk => hk.1.1.1))⟩, ⟨by (with_reducible repeat (first | refine yN ?_ _ | refine yD ?_ | refine yA ?_ _)); refine yF ?_ NB209_210.out _; (with_reducible repeat (first | refine yN ?_ _ | refine yD ?_ | refine yA ?_ _)); refine yF ?_ NB209_210.out _; (with_reducible repeat (first | refine yN ?_ _ | refine yD ?_ | refine yA ?_ _)); refine yF ?_ NB209_215.out _; (with_reducible repeat (first | refine yN ?_ _ | refine yD ?_ | refine yA ?_ _)); refine yF ?_ NB209_215.out _; (with_reducible repeat (first | refine yN ?_ _ | refine yD ?_ | refine yA ?_ _)); exact BK209.out⟩, ⟨by (with_reducible repeat (first | refine yN ?_ _ | refine yD ?_ | refine yA ?_ _)); refine yP (cs := #[.int .i64 ((rd_T49 l0_1 x25_2).f0), .int .i64 x211001_2]) ?_ 1 _ rfl; (with_reducible repeat (first | refine yN ?_ _ | refine yD ?_ | refine yA ?_ _)); refine yP (cs := #[.int .i64 x211000_2, .int .i64 x211001_2]) ?_ 0 _ rfl; (with_reducible repeat (first | refine yN ?_ _ | refine yD ?_ | refine yA ?_ _)); refine yF ?_ NB210_215.out _; (with_reducible repeat (first | refine yN ?_ _ | refine yD ?_ | refine yA ?_ _)); refine yF ?_ NB210_215.out _; (with_reducible repeat (first | refine yN ?_ _ | refine yD ?_ | refine yA ?_ _)); exact BK210.out⟩, ⟨by (with_reducible repeat (first | refine yN ?_ _ | refine yD ?_ | refine yA ?_ _)); refine yF ?_ NB211_210.out _; (with_reducible repeat (first | refine yN ?_ _ | refine yD ?_ | refine yA ?_ _)); refine yF ?_ NB211_210.out _; (with_reducible repeat (first | refine yN ?_ _ | refine yD ?_ | refine yA ?_ _)); refine yF ?_ NB211_215.out _; (with_reducible repeat (first | refine yN ?_ _ | refine yD ?_ | refine yA ?_ _)); refine yF ?_ NB211_215.out _; (with_reducible repeat (first | refine yN ?_ _ | refine yD ?_ | refine yA ?_ _)); exact BK211.out⟩, ⟨zH HB.out⟩⟩
           ·rw [if_neg c68] at H
            have c68b0 : ((wrap64 (((rd_T49 l0_1 x25_2).f0) + ((rd_T49 l0_1 x25_2).f1))) == x211000_2) = false := beq_eq_false_iff_ne.mpr c68
            have c68b1 : ((wrap64 (((rd_T49 l0_1 x25_2).f0) + ((rd_T49 l0_1 x25_2).f1))) != x211000_2) = true := bne_iff_ne.mpr c68
            by_cases c77 : ((rd_T49 l0_1 x25_2).f0) = (wrap64 (x211000_2 + x211001_2))
            ·rw [if_pos c77] at H
             have c77b0 : (((rd_T49 l0_1 x25_2).f0) == (wrap64 (x211000_2 + x211001_2))) = true := beq_iff_eq.mpr c77
             have c77b1 : (((rd_T49 l0_1 x25_2).f0) != (wrap64 (x211000_2 + x211001_2))) = false := bne_eq_false_iff_eq.mpr c77
             clear c77
             have H' := aM H
             clear H
             have p214 : 0 ≤ (x25_2 : Int) := of_decide_eq_true (by first | (with_reducible assumption) | assumption)
             have q214 : x25_2 < (l0_1.length : Int) := of_decide_eq_true (by first | (with_reducible assumption) | assumption)
             obtain ⟨ad214, e214, hx214_0, hx214_1⟩ := at_T49 HR0_1.out x25_2 p214 q214
             cases e214
             replace hx214_0 := (HB.out.cell (World.block_lt_of_cell? w _ hx214_0)).trans hx214_0
             replace hx214_1 := (HB.out.cell (World.block_lt_of_cell? w _ hx214_1)).trans hx214_1
             replace p214 := eq_true p214
             replace q214 := eq_true q214
             go_wp2_with (first | ((with_reducible refine gate_dst (N := 9) rfl ?_); refine box_event ?hg (N := 9) ?hd (cs := #[.int .i64 0, .int .i64 0]) (t := 49) ?hr ?_; (case hd => rfl); (case hg => rfl); (case hr => first | (go_simp; done) | (go_simp; rfl)); intro gb215 hg w78 hbox hb; replace p0' := aM (xB (Kd.R_elderB (xH p0'.out) gb215 (Nat.le_of_eq hg.symm)) hb); have BK215 := aM (hbox); have GW215 := aM ((by rw [hg]; exact (zZ (zH HB.out)) : w.heap.size ≤ gb215)); have GE215 := aM ((by rw [hg]; exact (zZ (zH HB.out)) : w.heap.size ≤ gb215)); replace HB := aM (zT (zH HB.out) hb); have NB209_215 := nL BK209.out hg; have NB215_209 := nR BK209.out hg; replace BK209 := yK BK209.out hb; have NB210_215 := nL BK210.out hg; have NB215_210 := nR BK210.out hg; replace BK210 := yK BK210.out hb; have NB211_215 := nL BK211.out hg; have NB215_211 := nR BK211.out hg; replace BK211 := yK BK211.out hb; clear hb hbox hg; have hnb79 := NB215_209.out; have hnc79 := NB209_215.out; have hnb80 := NB215_210.out; have hnc80 := NB210_215.out; have hnb81 := NB215_211.out; have hnc81 := NB211_215.out; have hcz82_0 : w78.cell? ⟨gb215, 0, none⟩ = some (.int .i64 0) := yc BK215.out 0; have hcz82_1 : w78.cell? ⟨gb215, 1, none⟩ = some (.int .i64 0) := yc BK215.out 1; have hfz82_0 := yZ BK215.out 0; have hfz82_1 := yZ BK215.out 1; have hnb83 := NB210_209.out; have hnc83 := NB209_210.out; have hnb84 := NB210_211.out; have hnc84 := NB211_210.out; have hcz85_0 : w78.cell? ⟨gb210, 0, none⟩ = some (.int .i64 x211000_2) := yc BK210.out 0; have hcz85_1 : w78.cell? ⟨gb210, 1, none⟩ = some (.int .i64 x211001_2) := yc BK210.out 1; have hfz85_0 := yZ BK210.out 0; have hfz85_1 := yZ BK210.out 1))
             go_roundg k2
             case measure => have := HJ2.out; have := HK2.out; omega
             case rel => exact ⟨(x6_2), (x7_2), (wrap64 (x25_2 + 1)), (x211000_2), (wrap64 (x211001_2 + ((rd_T49 l0_1 x25_2).f1))), (x212000_2), (by first | rfl | (simp; done) | (simp [*]; done)), (by first | rfl | (simp; done) | (simp [*]; done)), H', ⟨by have := HJ2.out; have := HK2.out; omega⟩, ⟨xH (xM (xF (p := ⟨gb210, 1, none⟩) (xF (p := ⟨gb215, 1, none⟩) (xF (p := ⟨gb215, 0, none⟩) (xM (xM p0'.out (fun k_ hk => (⟨hk, hk.2⟩ : _ ∧ k_ ≠ gb215))) (fun k_ hk => (⟨hk, hk.1.1⟩ : _ ∧ k_ ≠ gb210))) (fun _ hk => hk.1.2) (.int .i64 ((rd_T49 l0_1 x25_2).f0))) (fun _ hk => hk.1.2) (.int .i64 ((rd_T49 l0_1 x25_2).f1))) (fun _ hk => hk.2) (.int .i64 (wrap64 (x211001_2 + ((rd_T49 l0_1 x25_2).f1))))) (fun _ hk => hk.1.1.1))⟩, ⟨by (with_reducible repeat (first | refine yN ?_ _ | refine yD ?_ | refine yA ?_ _)); refine yF ?_ NB209_210.out _; (with_reducible repeat (first | refine yN ?_ _ | refine yD ?_ | refine yA ?_ _)); refine yF ?_ NB209_215.out _; (with_reducible repeat (first | refine yN ?_ _ | refine yD ?_ | refine yA ?_ _)); refine yF ?_ NB209_215.out _; (with_reducible repeat (first | refine yN ?_ _ | refine yD ?_ | refine yA ?_ _)); exact BK209.out⟩, ⟨by (with_reducible repeat (first | refine yN ?_ _ | refine yD ?_ | refine yA ?_ _)); refine yP (cs := #[.int .i64 x211000_2, .int .i64 x211001_2]) ?_ 1 _ rfl; (with_reducible repeat (first | refine yN ?_ _ | refine yD ?_ | refine yA ?_ _)); refine yF ?_ NB210_215.out _; (with_reducible repeat (first | refine yN ?_ _ | refine yD ?_ | refine yA ?_ _)); refine yF ?_ NB210_215.out _; (with_reducible repeat (first | refine yN ?_ _ | refine yD ?_ | refine yA ?_ _)); exact BK210.out⟩, ⟨by (with_reducible repeat (first | refine yN ?_ _ | refine yD ?_ | refine yA ?_ _)); refine yF ?_ NB211_210.out _; (with_reducible repeat (first | refine yN ?_ _ | refine yD ?_ | refine yA ?_ _)); refine yF ?_ NB211_215.out _; (with_reducible repeat (first | refine yN ?_ _ | refine yD ?_ | refine yA ?_ _)); refine yF ?_ NB211_215.out _; (with_reducible repeat (first | refine yN ?_ _ | refine yD ?_ | refine yA ?_ _)); exact BK211.out⟩, ⟨zH HB.out⟩⟩
            ·rw [if_neg c77] at H
             have c77b0 : (((rd_T49 l0_1 x25_2).f0) == (wrap64 (x211000_2 + x211001_2))) = false := beq_eq_false_iff_ne.mpr c77
             have c77b1 : (((rd_T49 l0_1 x25_2).f0) != (wrap64 (x211000_2 + x211001_2))) = true := bne_iff_ne.mpr c77
             simp only [Option.some.injEq, Prod.mk.injEq] at H
             obtain ⟨rfl, rfl, rfl, rfl⟩ := H
             have p214 : 0 ≤ (x25_2 : Int) := of_decide_eq_true (by first | (with_reducible assumption) | assumption)
             have q214 : x25_2 < (l0_1.length : Int) := of_decide_eq_true (by first | (with_reducible assumption) | assumption)
             obtain ⟨ad214, e214, hx214_0, hx214_1⟩ := at_T49 HR0_1.out x25_2 p214 q214
             cases e214
             replace hx214_0 := (HB.out.cell (World.block_lt_of_cell? w _ hx214_0)).trans hx214_0
             replace hx214_1 := (HB.out.cell (World.block_lt_of_cell? w _ hx214_1)).trans hx214_1
             replace p214 := eq_true p214
             replace q214 := eq_true q214
             go_wp2_with (first | ((with_reducible refine gate_dst (N := 9) rfl ?_); refine box_event ?hg (N := 9) ?hd (cs := #[.int .i64 0, .int .i64 0]) (t := 49) ?hr ?_; (case hd => rfl); (case hg => rfl); (case hr => first | (go_simp; done) | (go_simp; rfl)); intro gb215 hg w86 hbox hb; replace p0' := aM (xB (Kd.R_elderB (xH p0'.out) gb215 (Nat.le_of_eq hg.symm)) hb); have BK215 := aM (hbox); have GW215 := aM ((by rw [hg]; exact (zZ (zH HB.out)) : w.heap.size ≤ gb215)); have GE215 := aM ((by rw [hg]; exact (zZ (zH HB.out)) : w.heap.size ≤ gb215)); replace HB := aM (zT (zH HB.out) hb); have NB209_215 := nL BK209.out hg; have NB215_209 := nR BK209.out hg; replace BK209 := yK BK209.out hb; have NB210_215 := nL BK210.out hg; have NB215_210 := nR BK210.out hg; replace BK210 := yK BK210.out hb; have NB211_215 := nL BK211.out hg; have NB215_211 := nR BK211.out hg; replace BK211 := yK BK211.out hb; clear hb hbox hg; have hnb87 := NB215_209.out; have hnc87 := NB209_215.out; have hnb88 := NB215_210.out; have hnc88 := NB210_215.out; have hnb89 := NB215_211.out; have hnc89 := NB211_215.out; have hcz90_0 : w86.cell? ⟨gb215, 0, none⟩ = some (.int .i64 0) := yc BK215.out 0; have hcz90_1 : w86.cell? ⟨gb215, 1, none⟩ = some (.int .i64 0) := yc BK215.out 1; have hfz90_0 := yZ BK215.out 0; have hfz90_1 := yZ BK215.out 1; have hnb91 := NB210_209.out; have hnc91 := NB209_210.out; have hnb92 := NB210_211.out; have hnc92 := NB211_210.out; have hcz93_0 : w86.cell? ⟨gb210, 0, none⟩ = some (.int .i64 x211000_2) := yc BK210.out 0; have hcz93_1 : w86.cell? ⟨gb210, 1, none⟩ = some (.int .i64 x211001_2) := yc BK210.out 1; have hfz93_0 := yZ BK210.out 0; have hfz93_1 := yZ BK210.out 1; have hnb94 := NB211_209.out; have hnc94 := NB209_211.out; have hcz95_0 : w86.cell? ⟨gb211, 0, none⟩ = some (.int .i64 x212000_2) := yc BK211.out 0; have hcz95_1 : w86.cell? ⟨gb211, 1, none⟩ = some (.slice none 0 0) := yc BK211.out 1; have hcz95_2 : w86.cell? ⟨gb211, 2, none⟩ = some (.slice none 0 0) := yc BK211.out 2; have hfz95_0 := yZ BK211.out 0; have hfz95_1 := yZ BK211.out 1; have hfz95_2 := yZ BK211.out 2))
             refine bodyPost_ret (results_ct rfl _ _ gb211 24 #[.int .i64 0, .slice none 0 0, .slice none 0 0] (0, 0) _ rfl (by (with_reducible repeat (first | refine yN ?_ _ | refine yD ?_ | refine yA ?_ _)); refine yP (cs := #[.int .i64 0, .slice none 0 0, .slice none 0 0]) ?_ 2 _ rfl; (with_reducible repeat (first | refine yN ?_ _ | refine yD ?_ | refine yA ?_ _)); refine yP (cs := #[.int .i64 0, .slice none 0 0, .slice none 0 0]) ?_ 1 _ rfl; (with_reducible repeat (first | refine yN ?_ _ | refine yD ?_ | refine yA ?_ _)); refine yP (cs := #[.int .i64 x212000_2, .slice none 0 0, .slice none 0 0]) ?_ 0 _ rfl; (with_reducible repeat (first | refine yN ?_ _ | refine yD ?_ | refine yA ?_ _)); refine yF ?_ NB211_215.out _; (with_reducible repeat (first | refine yN ?_ _ | refine yD ?_ | refine yA ?_ _)); refine yF ?_ NB211_215.out _; (with_reducible repeat (first | refine yN ?_ _ | refine yD ?_ | refine yA ?_ _)); exact BK211.out) Try.underlying24 rfl (by kernel_rfl)) rfl ?_
             exact ⟨_, _, by first | rfl | (simp [errW_none, errW_some] <;> rfl) | (simp [*, errW_none, errW_some] <;> rfl), by first | exact Kd.R_nil _ _ _ _ _ | exact Kd.N_nil _ _ _ _ _ | exact Kd.V_nil _ _ _ _ _ | exact Kd.Q_nil _ _ _ _ _ | exact Kd.S_nil _ _ _ _ _, by first | exact Kd.R_nil _ _ _ _ _ | exact Kd.N_nil _ _ _ _ _ | exact Kd.V_nil _ _ _ _ _ | exact Kd.Q_nil _ _ _ _ _ | exact Kd.S_nil _ _ _ _ _, zH HB.out⟩
        ·rw [if_neg c31] at H
         exact absurd H (by simp)
       ·rw [if_neg c30] at H
        exact absurd H (by simp)
      ·rw [if_neg c29] at H
       have c29b0 : decide (x25_2 < (l0_1.length : Int)) = false := decide_eq_false c29
       clear c29
       have HC96 := aM H
       clear H
       go_upto_if 96 with (fail)
       go_cut [6] (fun v6 wc => ∃ (kq : Nat) (x6_95 : List (S49)), Aside0 (spec_GiveRoom.j2 kq x6_95 a0_0 l0_1 l0_2 = some (r1, r2, r3, r4)) ∧ Aside0 (kq ≤ k2) ∧ Aside0 (Kd.R k49 49 wc w.heap.size (fun k_ => k_ ≠ gb210) v6 x6_95) ∧ Aside0 (wc.heap[gb209]? = some (.cells #[.int .i64 a0_0, (.slice A0_1 l0_1.length c0_1), (.slice A0_2 l0_2.length c0_2)] 24 (0, 0))) ∧ Aside0 (wc.heap[gb210]? = some (.cells #[.int .i64 x211000_2, .int .i64 x211001_2] 49 (0, 0))) ∧ Aside0 (wc.heap[gb211]? = some (.cells #[.int .i64 x212000_2, (.slice none 0 0), (.slice none 0 0)] 24 (0, 0))) ∧ Aside0 (Below w.heap.size w wc))
       case first =>
        have H := HC96.out
        clear HC96
        by_cases c97 : x7_2 = true
        ·subst c97
         have H1 : (spec_GiveRoom.j2 k2 x6_2 a0_0 l0_1 l0_2) = some (r1, r2, r3, r4) := by rw [if_pos rfl] at H; exact H
         clear H
         have H := H1
         clear H1
         have H' := aM H
         clear H
         go_wp2
         go_meet
         case rel => exact ⟨_, (x6_2), H', ⟨by have := HJ2.out; have := HK2.out; first | omega | exact Nat.le_refl _⟩, ⟨xH p0'.out⟩, ⟨yH BK209.out⟩, ⟨yH BK210.out⟩, ⟨yH BK211.out⟩, ⟨zH HB.out⟩⟩
        ·replace c97 := Bool.eq_false_iff.mpr c97
         subst c97
         have H1 : (if x6_2.length < 8796093022208 then (spec_GiveRoom.j2 k2 (x6_2 ++ [(⟨x211000_2, x211001_2⟩ : S49)]) a0_0 l0_1 l0_2) else (none)) = some (r1, r2, r3, r4) := by rw [if_neg (show ¬ (false = true) by decide)] at H; exact H
         clear H
         have H := H1
         clear H1
         by_cases c98 : x6_2.length < 8796093022208
         ·rw [if_pos c98] at H
          have LMc98 := aM c98
          clear c98
          obtain ⟨y228, hy228⟩ : ∃ y_ : List (S49), y_ = (x6_2 ++ [(⟨x211000_2, x211001_2⟩ : S49)]) := ⟨_, rfl⟩
          replace H : (spec_GiveRoom.j2 k2 y228 a0_0 l0_1 l0_2) = some (r1, r2, r3, r4) := by first | (rw [hy228]; with_reducible exact H) | (have H2_ := (Option.bind_some _ _).symm.trans H; rw [hy228]; with_reducible exact H2_) | (have H2_ := (Option.bind_some _ _).symm.trans H; with_reducible exact H2_) | with_reducible exact H | (rw [hy228]; exact H) | exact H
          have Ny228 := aM hy228
          clear hy228
          have H' := aM H
          clear H
          have hnb99 := NB210_209.out
          have hnc99 := NB209_210.out
          have hnb100 := NB210_211.out
          have hnc100 := NB211_210.out
          have hcz101_0 : wr.cell? ⟨gb210, 0, none⟩ = some (.int .i64 x211000_2) := yc BK210.out 0
          have hcz101_1 : wr.cell? ⟨gb210, 1, none⟩ = some (.int .i64 x211001_2) := yc BK210.out 1
          have hfz101_0 := yZ BK210.out 0
          have hfz101_1 := yZ BK210.out 1
          go_wp2_with (first | ((with_reducible refine gate_builtin (b := .append) (xs := #[.tmp 97, .tmp 99]) rfl ?_); at_builtin; refine Kd.R_append k49 (w0 := w) w.heap.size rfl (.tmp 97) (.tmp 99) 22 49 (.agg #[(.int .i64 0), (.int .i64 0)]) 16 rfl Try.underlying22 info49 rfl (by decide) (by omega) u6 x6_2 (⟨x211000_2, x211001_2⟩ : S49) [.int .i64 x211000_2, .int .i64 x211001_2] (fun k_ => k_ ≠ gb210) (fun _ => False) rfl rfl ?aP (fun _ hk => hk.elim) ?aF ?aO ?aB ?aS ?aL ?_; (case aP => exact k49_mkM _ _ _ (⟨x211000_2, x211001_2⟩ : S49)); (case aB => exact (zH HB.out)); (case aF => exact (fun k_ hk => Kd.freshB (g := gb210) (o := .cells #[.int .i64 x211000_2, .int .i64 x211001_2] 49 (0, 0)) (yH BK210.out) k_ hk)); (case aO => exact (xH p0'.out)); (case aS => exact (zZ (zH HB.out))); (case aL => have := LMc98.out; omega); intro v229 w102 ho hb hg hat; rw [← Ny228.out] at ho; replace BK209 := aM (blk_grown (g := gb209) (o := .cells #[.int .i64 a0_0, .slice A0_1 l0_1.length c0_1, .slice A0_2 l0_2.length c0_2] 24 (0, 0)) (yH BK209.out) hg (Kd.R_ne p0'.out BK209.out (by decide))); replace BK210 := aM (blk_grown (g := gb210) (o := .cells #[.int .i64 x211000_2, .int .i64 x211001_2] 49 (0, 0)) (yH BK210.out) hg (Kd.R_away p0'.out (fun _ hk => hk))); replace BK211 := aM (blk_grown (g := gb211) (o := .cells #[.int .i64 x212000_2, .slice none 0 0, .slice none 0 0] 24 (0, 0)) (yH BK211.out) hg (Kd.R_ne p0'.out BK211.out (by decide))); replace HB := aM (hb); have HO230 := aM (ho); clear p0'; clear ho hb hg hat))
          go_meet
          case rel => exact ⟨_, (y228), H', ⟨by have := HJ2.out; have := HK2.out; first | omega | exact Nat.le_refl _⟩, ⟨xH HO230.out⟩, ⟨yH BK209.out⟩, ⟨yH BK210.out⟩, ⟨yH BK211.out⟩, ⟨zH HB.out⟩⟩
         ·rw [if_neg c98] at H
          exact absurd H (by simp)
       case rest =>
        clear HC96
        (try clear c1); (try clear c2); (try clear p2); (try clear q2); (try clear hx2); (try clear c3); (try clear c4); (try clear c5); (try clear c6); (try clear p6); (try clear c7); (try clear c8); (try clear c9); (try clear c10); (try clear c11); (try clear c14); (try clear c17); (try clear c18); (try clear c19); (try clear p21); (try clear q21); (try clear hx21); (try clear c22); (try clear c23); (try clear c24); (try clear c26); (try clear c27); (try clear c29); (try clear c29b0); (try clear c30); (try clear c30b0); (try clear c31); (try clear c31b0); (try clear c32); (try clear c32b0); (try clear c33); (try clear c35); (try clear c36); (try clear c37); (try clear c39); (try clear c40); (try clear c43); (try clear c43b0); (try clear c44); (try clear c45); (try clear c47); (try clear c48); (try clear c49); (try clear c51); (try clear c52); (try clear c55); (try clear c56); (try clear c58); (try clear c59); (try clear c60); (try clear c62); (try clear c63); (try clear p64); (try clear c68); (try clear c68b0); (try clear c68b1); (try clear c70); (try clear c71); (try clear c72); (try clear c74); (try clear c75); (try clear c77); (try clear c77b0); (try clear c77b1); (try clear c79); (try clear c80); (try clear c81); (try clear c83); (try clear c84); (try clear c87); (try clear c88); (try clear c89); (try clear c91); (try clear c92); (try clear c94); (try clear c97); (try clear c98); (try clear c99); (try clear c100); (try clear hcz101_0); (try clear hcz101_1); (try clear hcz12_0); (try clear hcz12_1); (try clear hcz12_2); (try clear hcz15_0); (try clear hcz15_1); (try clear hcz16_0); (try clear hcz16_1); (try clear hcz16_2); (try clear hcz20_0); (try clear hcz20_1); (try clear hcz20_2); (try clear hcz25_0); (try clear hcz25_1); (try clear hcz25_2); (try clear hcz28_0); (try clear hcz28_1); (try clear hcz28_2); (try clear hcz38_0); (try clear hcz38_1); (try clear hcz41_0); (try clear hcz41_1); (try clear hcz50_0); (try clear hcz50_1); (try clear hcz53_0); (try clear hcz53_1); (try clear hcz61_0); (try clear hcz61_1); (try clear hcz64_0); (try clear hcz64_1); (try clear hcz66_0); (try clear hcz66_1); (try clear hcz73_0); (try clear hcz73_1); (try clear hcz76_0); (try clear hcz76_1); (try clear hcz82_0); (try clear hcz82_1); (try clear hcz85_0); (try clear hcz85_1); (try clear hcz90_0); (try clear hcz90_1); (try clear hcz93_0); (try clear hcz93_1); (try clear hcz95_0); (try clear hcz95_1); (try clear hcz95_2); (try clear hfz101_0); (try clear hfz101_1); (try clear hfz12_0); (try clear hfz12_1); (try clear hfz12_2); (try clear hfz15_0); (try clear hfz15_1); (try clear hfz16_0); (try clear hfz16_1); (try clear hfz16_2); (try clear hfz20_0); (try clear hfz20_1); (try clear hfz20_2); (try clear hfz25_0); (try clear hfz25_1); (try clear hfz25_2); (try clear hfz28_0); (try clear hfz28_1); (try clear hfz28_2); (try clear hfz38_0); (try clear hfz38_1); (try clear hfz41_0); (try clear hfz41_1); (try clear hfz50_0); (try clear hfz50_1); (try clear hfz53_0); (try clear hfz53_1); (try clear hfz61_0); (try clear hfz61_1); (try clear hfz64_0); (try clear hfz64_1); (try clear hfz66_0); (try clear hfz66_1); (try clear hfz73_0); (try clear hfz73_1); (try clear hfz76_0); (try clear hfz76_1); (try clear hfz82_0); (try clear hfz82_1); (try clear hfz85_0); (try clear hfz85_1); (try clear hfz90_0); (try clear hfz90_1); (try clear hfz93_0); (try clear hfz93_1); (try clear hfz95_0); (try clear hfz95_1); (try clear hfz95_2); (try clear hx214_0); (try clear hx214_1); (try clear p2); (try clear p214); (try clear q214)
        obtain ⟨kq, x6_95, HA, HJ95, p0', BK209, BK210, BK211, HB⟩ := hcut
        cases kq with
        | zero => exact absurd HA.out (fun h_ => by change none = some _ at h_; cases h_)
        | succ kj95 =>
         have H := HA.out
         clear HA
         simp only [spec_GiveRoom.j2] at H
         replace H := Option.bind_eq_some_iff.mp H
         obtain ⟨⟨t231, t232, t235⟩, A1030, H⟩ := H
         replace H : ((spec_GoodFree.f kj95 t231 t232 t235).bind fun t239 => (if t239 = true then (some (t231, t232, t235, true)) else (some (0, ([] : List (S49)), ([] : List (S49)), false)))) = some (r1, r2, r3, r4) := H
         have A103 := aM A1030
         clear A1030
         replace H := Option.bind_eq_some_iff.mp H
         obtain ⟨t239, A1040, H⟩ := H
         replace H : (if t239 = true then (some (t231, t232, t235, true)) else (some (0, ([] : List (S49)), ([] : List (S49)), false))) = some (r1, r2, r3, r4) := H
         have A104 := aM A1040
         clear A1040
         by_cases c105 : t239 = true
         ·subst c105
          have H1 : (some (t231, t232, t235, true)) = some (r1, r2, r3, r4) := by rw [if_pos rfl] at H; exact H
          clear H
          have H := H1
          clear H1
          simp only [Option.some.injEq, Prod.mk.injEq] at H
          obtain ⟨rfl, rfl, rfl, rfl⟩ := H
          have hnb106 := NB209_210.out
          have hnc106 := NB210_209.out
          have hnb107 := NB209_211.out
          have hnc107 := NB211_209.out
          have hcz108_0 : wc.cell? ⟨gb209, 0, none⟩ = some (.int .i64 a0_0) := yc BK209.out 0
          have hcz108_1 : wc.cell? ⟨gb209, 1, none⟩ = some (.slice A0_1 l0_1.length c0_1) := yc BK209.out 1
          have hcz108_2 : wc.cell? ⟨gb209, 2, none⟩ = some (.slice A0_2 l0_2.length c0_2) := yc BK209.out 2
          have hfz108_0 := yZ BK209.out 0
          have hfz108_1 := yZ BK209.out 1
          have hfz108_2 := yZ BK209.out 2
          obtain ⟨Ao109, co109, eo109⟩ := Kd.R_slice p0'.out
          subst eo109
          go_wp2_with (first | ((with_reducible refine gate_callee (f := 37) rfl ?_); refine goesL_ (some 104) rfl rfl Try.func37 (by kernel_rfl) rfl #[.int .i64 a0_0, .slice Ao109 x6_95.length co109] rfl (by (try simp only [List.map_toArray, List.map_cons, List.map_nil]); first | done | rfl | (simp only [List.length_drop, List.length_take]; rfl)) ?_; (with_reducible refine (spec_l5Of.calls kj95 a0_0 _ _ x6_95 t231 t232 t235 _ ?side1 ?side2 A103.out).mono ?_); (case side1 => repeat (first | exact (Kd.R_reads' p0'.out).2.2 | (with_reducible refine cA ?_ _) | (with_reducible refine cN ?_ _) | (with_reducible refine cD ?_))); (case side2 => exact (Kd.R_reads' p0'.out).2.1); rintro e w110 ⟨v233, v236, rfl, ho0, ho1, hb⟩; refine ⟨_, rfl, ?_⟩; have HO234 := aM (xL (Kd.R_newB (Kd.R_new' ho0 (Kd.R_lt (xH p0'.out))) (g := gb210) (o := .cells #[.int .i64 x211000_2, .int .i64 x211001_2] 49 (0, 0)) (yH BK210.out)) (zZ (zH HB.out))); have HO237 := aM (xL (Kd.R_newB (Kd.R_new' ho1 (Kd.R_lt (xH p0'.out))) (g := gb210) (o := .cells #[.int .i64 x211000_2, .int .i64 x211001_2] 49 (0, 0)) (yH BK210.out)) (zZ (zH HB.out))); replace p0' := aM (xM (Kd.R_told (Kd.R_told (Kd.R_old (xH p0'.out) hb) (Kd.R_base ho0)) (Kd.R_base ho1)) (fun _ h_ => h_.1)); replace BK209 := yK BK209.out hb; replace BK210 := yK BK210.out hb; replace BK211 := yK BK211.out hb; replace HB := aM (zT (zH HB.out) hb); (try clear hb); (try clear ho0); (try clear ho1)) | ((with_reducible refine gate_dst (N := 10) rfl ?_); refine box_event ?hg (N := 10) ?hd (cs := #[.int .i64 0, .slice none 0 0, .slice none 0 0]) (t := 24) ?hr ?_; (case hd => rfl); (case hg => rfl); (case hr => first | (go_simp; done) | (go_simp; rfl)); intro gb238 hg w111 hbox hb; replace p0' := xK p0'.out hb; replace HO234 := xK HO234.out hb; replace HO237 := xK HO237.out hb; have BK238 := aM (hbox); have GW238 := aM ((by rw [hg]; exact (zZ (zH HB.out)) : w.heap.size ≤ gb238)); have GE238 := aM ((by rw [hg]; exact (zZ (zH HB.out)) : w.heap.size ≤ gb238)); replace HB := aM (zT (zH HB.out) hb); have NB209_238 := nL BK209.out hg; have NB238_209 := nR BK209.out hg; replace BK209 := yK BK209.out hb; have NB210_238 := nL BK210.out hg; have NB238_210 := nR BK210.out hg; replace BK210 := yK BK210.out hb; have NB211_238 := nL BK211.out hg; have NB238_211 := nR BK211.out hg; replace BK211 := yK BK211.out hb; clear hb hbox hg; have hnb112 := NB238_209.out; have hnc112 := NB209_238.out; have hnb113 := NB238_210.out; have hnc113 := NB210_238.out; have hnb114 := NB238_211.out; have hnc114 := NB211_238.out; have hcz115_0 : w111.cell? ⟨gb238, 0, none⟩ = some (.int .i64 0) := yc BK238.out 0; have hcz115_1 : w111.cell? ⟨gb238, 1, none⟩ = some (.slice none 0 0) := yc BK238.out 1; have hcz115_2 : w111.cell? ⟨gb238, 2, none⟩ = some (.slice none 0 0) := yc BK238.out 2; have hfz115_0 := yZ BK238.out 0; have hfz115_1 := yZ BK238.out 1; have hfz115_2 := yZ BK238.out 2; obtain ⟨Ao116, co116, eo116⟩ := Kd.R_slice HO234.out; subst eo116; obtain ⟨Ao117, co117, eo117⟩ := Kd.R_slice HO237.out; subst eo117) | ((with_reducible refine gate_callee (f := 17) rfl ?_); refine goesL_ (some 106) rfl rfl Try.func17 (by kernel_rfl) rfl #[.agg #[.int .i64 t231, .slice Ao116 t232.length co116, .slice Ao117 t235.length co117]] rfl (by (try simp only [List.map_toArray, List.map_cons, List.map_nil]); first | done | rfl | (simp only [List.length_drop, List.length_take]; rfl)) ?_; (with_reducible refine (spec_GoodFree.calls kj95 t231 _ _ t232 _ _ t235 true _ ?side1 ?side2 ?side3 ?side4 A104.out).mono ?_); (case side1 => exact rC (n := t232.length) (c := co116) ((x3 HO234.out BK238.out (by decide) (.int .i64 t231) (.slice Ao116 t232.length co116) (.slice Ao117 t235.length co117)))); (case side2 => exact (Kd.R_reads' HO234.out).2.1); (case side3 => exact rC (n := t235.length) (c := co117) ((x3 HO237.out BK238.out (by decide) (.int .i64 t231) (.slice Ao116 t232.length co116) (.slice Ao117 t235.length co117)))); (case side4 => exact (Kd.R_reads' HO237.out).2.1); rintro e w118 ⟨rfl, hb⟩; refine ⟨_, rfl, ?_⟩; replace p0' := aM (xB (xH ((x3 p0'.out BK238.out (by decide) (.int .i64 t231) (.slice Ao116 t232.length co116) (.slice Ao117 t235.length co117)))) hb); replace HO234 := aM (xB (xH ((x3 HO234.out BK238.out (by decide) (.int .i64 t231) (.slice Ao116 t232.length co116) (.slice Ao117 t235.length co117)))) hb); replace HO237 := aM (xB (xH ((x3 HO237.out BK238.out (by decide) (.int .i64 t231) (.slice Ao116 t232.length co116) (.slice Ao117 t235.length co117)))) hb); replace BK209 := aM (yB (g := gb209) (o := .cells #[.int .i64 a0_0, .slice A0_1 l0_1.length c0_1, .slice A0_2 l0_2.length c0_2] 24 (0, 0)) (by (with_reducible repeat (first | refine yN ?_ _ | refine yD ?_ | refine yA ?_ _)); refine yF ?_ NB209_238.out _; (with_reducible repeat (first | refine yN ?_ _ | refine yD ?_ | refine yA ?_ _)); refine yF ?_ NB209_238.out _; (with_reducible repeat (first | refine yN ?_ _ | refine yD ?_ | refine yA ?_ _)); refine yF ?_ NB209_238.out _; (with_reducible repeat (first | refine yN ?_ _ | refine yD ?_ | refine yA ?_ _)); exact BK209.out) hb); replace BK210 := aM (yB (g := gb210) (o := .cells #[.int .i64 x211000_2, .int .i64 x211001_2] 49 (0, 0)) (by (with_reducible repeat (first | refine yN ?_ _ | refine yD ?_ | refine yA ?_ _)); refine yF ?_ NB210_238.out _; (with_reducible repeat (first | refine yN ?_ _ | refine yD ?_ | refine yA ?_ _)); refine yF ?_ NB210_238.out _; (with_reducible repeat (first | refine yN ?_ _ | refine yD ?_ | refine yA ?_ _)); refine yF ?_ NB210_238.out _; (with_reducible repeat (first | refine yN ?_ _ | refine yD ?_ | refine yA ?_ _)); exact BK210.out) hb); replace BK211 := aM (yB (g := gb211) (o := .cells #[.int .i64 x212000_2, .slice none 0 0, .slice none 0 0] 24 (0, 0)) (by (with_reducible repeat (first | refine yN ?_ _ | refine yD ?_ | refine yA ?_ _)); refine yF ?_ NB211_238.out _; (with_reducible repeat (first | refine yN ?_ _ | refine yD ?_ | refine yA ?_ _)); refine yF ?_ NB211_238.out _; (with_reducible repeat (first | refine yN ?_ _ | refine yD ?_ | refine yA ?_ _)); refine yF ?_ NB211_238.out _; (with_reducible repeat (first | refine yN ?_ _ | refine yD ?_ | refine yA ?_ _)); exact BK211.out) hb); replace BK238 := aM (yB (g := gb238) (o := .cells #[.int .i64 t231, .slice Ao116 t232.length co116, .slice Ao117 t235.length co117] 24 (0, 0)) (by (with_reducible repeat (first | refine yN ?_ _ | refine yD ?_ | refine yA ?_ _)); refine yP (cs := #[.int .i64 t231, .slice Ao116 t232.length co116, .slice none 0 0]) ?_ 2 _ rfl; (with_reducible repeat (first | refine yN ?_ _ | refine yD ?_ | refine yA ?_ _)); refine yP (cs := #[.int .i64 t231, .slice none 0 0, .slice none 0 0]) ?_ 1 _ rfl; (with_reducible repeat (first | refine yN ?_ _ | refine yD ?_ | refine yA ?_ _)); refine yP (cs := #[.int .i64 0, .slice none 0 0, .slice none 0 0]) ?_ 0 _ rfl; (with_reducible repeat (first | refine yN ?_ _ | refine yD ?_ | refine yA ?_ _)); exact BK238.out) hb); replace HB := aM (zT (zH HB.out) hb); (try clear hb); have hcz119_0 : w118.cell? ⟨gb238, 0, none⟩ = some (.int .i64 t231) := yc BK238.out 0; have hcz119_1 : w118.cell? ⟨gb238, 1, none⟩ = some (.slice Ao116 t232.length co116) := yc BK238.out 1; have hcz119_2 : w118.cell? ⟨gb238, 2, none⟩ = some (.slice Ao117 t235.length co117) := yc BK238.out 2; have hfz119_0 := yZ BK238.out 0; have hfz119_1 := yZ BK238.out 1; have hfz119_2 := yZ BK238.out 2; have hnb120 := NB211_210.out; have hnc120 := NB210_211.out; have hcz121_0 : w118.cell? ⟨gb211, 0, none⟩ = some (.int .i64 x212000_2) := yc BK211.out 0; have hcz121_1 : w118.cell? ⟨gb211, 1, none⟩ = some (.slice none 0 0) := yc BK211.out 1; have hcz121_2 : w118.cell? ⟨gb211, 2, none⟩ = some (.slice none 0 0) := yc BK211.out 2; have hfz121_0 := yZ BK211.out 0; have hfz121_1 := yZ BK211.out 1; have hfz121_2 := yZ BK211.out 2))
          refine bodyPost_ret (results_ct rfl _ _ gb211 24 #[.int .i64 t231, .slice Ao116 t232.length co116, .slice Ao117 t235.length co117] (0, 0) _ rfl (by (with_reducible repeat (first | refine yN ?_ _ | refine yD ?_ | refine yA ?_ _)); refine yP (cs := #[.int .i64 t231, .slice Ao116 t232.length co116, .slice none 0 0]) ?_ 2 _ rfl; (with_reducible repeat (first | refine yN ?_ _ | refine yD ?_ | refine yA ?_ _)); refine yP (cs := #[.int .i64 t231, .slice none 0 0, .slice none 0 0]) ?_ 1 _ rfl; (with_reducible repeat (first | refine yN ?_ _ | refine yD ?_ | refine yA ?_ _)); refine yP (cs := #[.int .i64 x212000_2, .slice none 0 0, .slice none 0 0]) ?_ 0 _ rfl; (with_reducible repeat (first | refine yN ?_ _ | refine yD ?_ | refine yA ?_ _)); exact BK211.out) Try.underlying24 rfl (by kernel_rfl)) rfl ?_
          exact ⟨_, _, by first | rfl | (simp [errW_none, errW_some] <;> rfl) | (simp [*, errW_none, errW_some] <;> rfl), xH (xM (xF (p := ⟨gb211, 2, none⟩) (xF (p := ⟨gb211, 1, none⟩) (xF (p := ⟨gb211, 0, none⟩) (xT HO234.out BK211.out (by decide)) (fun _ hk => hk.2) (.int .i64 t231)) (fun _ hk => hk.2) (.slice Ao116 t232.length co116)) (fun _ hk => hk.2) (.slice Ao117 t235.length co117)) (fun _ hk => hk.1.1.1)), xH (xM (xF (p := ⟨gb211, 2, none⟩) (xF (p := ⟨gb211, 1, none⟩) (xF (p := ⟨gb211, 0, none⟩) (xT HO237.out BK211.out (by decide)) (fun _ hk => hk.2) (.int .i64 t231)) (fun _ hk => hk.2) (.slice Ao116 t232.length co116)) (fun _ hk => hk.2) (.slice Ao117 t235.length co117)) (fun _ hk => hk.1.1.1)), zH HB.out⟩
         ·replace c105 := Bool.eq_false_iff.mpr c105
          subst c105
          have H1 : (some (0, ([] : List (S49)), ([] : List (S49)), false)) = some (r1, r2, r3, r4) := by rw [if_neg (show ¬ (false = true) by decide)] at H; exact H
          clear H
          have H := H1
          clear H1
          simp only [Option.some.injEq, Prod.mk.injEq] at H
          obtain ⟨rfl, rfl, rfl, rfl⟩ := H
          have hnb122 := NB209_210.out
          have hnc122 := NB210_209.out
          have hnb123 := NB209_211.out
          have hnc123 := NB211_209.out
          have hcz124_0 : wc.cell? ⟨gb209, 0, none⟩ = some (.int .i64 a0_0) := yc BK209.out 0
          have hcz124_1 : wc.cell? ⟨gb209, 1, none⟩ = some (.slice A0_1 l0_1.length c0_1) := yc BK209.out 1
          have hcz124_2 : wc.cell? ⟨gb209, 2, none⟩ = some (.slice A0_2 l0_2.length c0_2) := yc BK209.out 2
          have hfz124_0 := yZ BK209.out 0
          have hfz124_1 := yZ BK209.out 1
          have hfz124_2 := yZ BK209.out 2
          obtain ⟨Ao125, co125, eo125⟩ := Kd.R_slice p0'.out
          subst eo125
          go_wp2_with (first | ((with_reducible refine gate_callee (f := 37) rfl ?_); refine goesL_ (some 104) rfl rfl Try.func37 (by kernel_rfl) rfl #[.int .i64 a0_0, .slice Ao125 x6_95.length co125] rfl (by (try simp only [List.map_toArray, List.map_cons, List.map_nil]); first | done | rfl | (simp only [List.length_drop, List.length_take]; rfl)) ?_; (with_reducible refine (spec_l5Of.calls kj95 a0_0 _ _ x6_95 t231 t232 t235 _ ?side1 ?side2 A103.out).mono ?_); (case side1 => repeat (first | exact (Kd.R_reads' p0'.out).2.2 | (with_reducible refine cA ?_ _) | (with_reducible refine cN ?_ _) | (with_reducible refine cD ?_))); (case side2 => exact (Kd.R_reads' p0'.out).2.1); rintro e w126 ⟨v233, v236, rfl, ho0, ho1, hb⟩; refine ⟨_, rfl, ?_⟩; have HO234 := aM (xL (Kd.R_newB (Kd.R_new' ho0 (Kd.R_lt (xH p0'.out))) (g := gb210) (o := .cells #[.int .i64 x211000_2, .int .i64 x211001_2] 49 (0, 0)) (yH BK210.out)) (zZ (zH HB.out))); have HO237 := aM (xL (Kd.R_newB (Kd.R_new' ho1 (Kd.R_lt (xH p0'.out))) (g := gb210) (o := .cells #[.int .i64 x211000_2, .int .i64 x211001_2] 49 (0, 0)) (yH BK210.out)) (zZ (zH HB.out))); replace p0' := aM (xM (Kd.R_told (Kd.R_told (Kd.R_old (xH p0'.out) hb) (Kd.R_base ho0)) (Kd.R_base ho1)) (fun _ h_ => h_.1)); replace BK209 := yK BK209.out hb; replace BK210 := yK BK210.out hb; replace BK211 := yK BK211.out hb; replace HB := aM (zT (zH HB.out) hb); (try clear hb); (try clear ho0); (try clear ho1)) | ((with_reducible refine gate_dst (N := 10) rfl ?_); refine box_event ?hg (N := 10) ?hd (cs := #[.int .i64 0, .slice none 0 0, .slice none 0 0]) (t := 24) ?hr ?_; (case hd => rfl); (case hg => rfl); (case hr => first | (go_simp; done) | (go_simp; rfl)); intro gb238 hg w127 hbox hb; replace p0' := xK p0'.out hb; replace HO234 := xK HO234.out hb; replace HO237 := xK HO237.out hb; have BK238 := aM (hbox); have GW238 := aM ((by rw [hg]; exact (zZ (zH HB.out)) : w.heap.size ≤ gb238)); have GE238 := aM ((by rw [hg]; exact (zZ (zH HB.out)) : w.heap.size ≤ gb238)); replace HB := aM (zT (zH HB.out) hb); have NB209_238 := nL BK209.out hg; have NB238_209 := nR BK209.out hg; replace BK209 := yK BK209.out hb; have NB210_238 := nL BK210.out hg; have NB238_210 := nR BK210.out hg; replace BK210 := yK BK210.out hb; have NB211_238 := nL BK211.out hg; have NB238_211 := nR BK211.out hg; replace BK211 := yK BK211.out hb; clear hb hbox hg; have hnb128 := NB238_209.out; have hnc128 := NB209_238.out; have hnb129 := NB238_210.out; have hnc129 := NB210_238.out; have hnb130 := NB238_211.out; have hnc130 := NB211_238.out; have hcz131_0 : w127.cell? ⟨gb238, 0, none⟩ = some (.int .i64 0) := yc BK238.out 0; have hcz131_1 : w127.cell? ⟨gb238, 1, none⟩ = some (.slice none 0 0) := yc BK238.out 1; have hcz131_2 : w127.cell? ⟨gb238, 2, none⟩ = some (.slice none 0 0) := yc BK238.out 2; have hfz131_0 := yZ BK238.out 0; have hfz131_1 := yZ BK238.out 1; have hfz131_2 := yZ BK238.out 2; obtain ⟨Ao132, co132, eo132⟩ := Kd.R_slice HO234.out; subst eo132; obtain ⟨Ao133, co133, eo133⟩ := Kd.R_slice HO237.out; subst eo133) | ((with_reducible refine gate_callee (f := 17) rfl ?_); refine goesL_ (some 106) rfl rfl Try.func17 (by kernel_rfl) rfl #[.agg #[.int .i64 t231, .slice Ao132 t232.length co132, .slice Ao133 t235.length co133]] rfl (by (try simp only [List.map_toArray, List.map_cons, List.map_nil]); first | done | rfl | (simp only [List.length_drop, List.length_take]; rfl)) ?_; (with_reducible refine (spec_GoodFree.calls kj95 t231 _ _ t232 _ _ t235 false _ ?side1 ?side2 ?side3 ?side4 A104.out).mono ?_); (case side1 => exact rC (n := t232.length) (c := co132) ((x3 HO234.out BK238.out (by decide) (.int .i64 t231) (.slice Ao132 t232.length co132) (.slice Ao133 t235.length co133)))); (case side2 => exact (Kd.R_reads' HO234.out).2.1); (case side3 => exact rC (n := t235.length) (c := co133) ((x3 HO237.out BK238.out (by decide) (.int .i64 t231) (.slice Ao132 t232.length co132) (.slice Ao133 t235.length co133)))); (case side4 => exact (Kd.R_reads' HO237.out).2.1); rintro e w134 ⟨rfl, hb⟩; refine ⟨_, rfl, ?_⟩; replace p0' := aM (xB (xH ((x3 p0'.out BK238.out (by decide) (.int .i64 t231) (.slice Ao132 t232.length co132) (.slice Ao133 t235.length co133)))) hb); replace HO234 := aM (xB (xH ((x3 HO234.out BK238.out (by decide) (.int .i64 t231) (.slice Ao132 t232.length co132) (.slice Ao133 t235.length co133)))) hb); replace HO237 := aM (xB (xH ((x3 HO237.out BK238.out (by decide) (.int .i64 t231) (.slice Ao132 t232.length co132) (.slice Ao133 t235.length co133)))) hb); replace BK209 := aM (yB (g := gb209) (o := .cells #[.int .i64 a0_0, .slice A0_1 l0_1.length c0_1, .slice A0_2 l0_2.length c0_2] 24 (0, 0)) (by (with_reducible repeat (first | refine yN ?_ _ | refine yD ?_ | refine yA ?_ _)); refine yF ?_ NB209_238.out _; (with_reducible repeat (first | refine yN ?_ _ | refine yD ?_ | refine yA ?_ _)); refine yF ?_ NB209_238.out _; (with_reducible repeat (first | refine yN ?_ _ | refine yD ?_ | refine yA ?_ _)); refine yF ?_ NB209_238.out _; (with_reducible repeat (first | refine yN ?_ _ | refine yD ?_ | refine yA ?_ _)); exact BK209.out) hb); replace BK210 := aM (yB (g := gb210) (o := .cells #[.int .i64 x211000_2, .int .i64 x211001_2] 49 (0, 0)) (by (with_reducible repeat (first | refine yN ?_ _ | refine yD ?_ | refine yA ?_ _)); refine yF ?_ NB210_238.out _; (with_reducible repeat (first | refine yN ?_ _ | refine yD ?_ | refine yA ?_ _)); refine yF ?_ NB210_238.out _; (with_reducible repeat (first | refine yN ?_ _ | refine yD ?_ | refine yA ?_ _)); refine yF ?_ NB210_238.out _; (with_reducible repeat (first | refine yN ?_ _ | refine yD ?_ | refine yA ?_ _)); exact BK210.out) hb); replace BK211 := aM (yB (g := gb211) (o := .cells #[.int .i64 x212000_2, .slice none 0 0, .slice none 0 0] 24 (0, 0)) (by (with_reducible repeat (first | refine yN ?_ _ | refine yD ?_ | refine yA ?_ _)); refine yF ?_ NB211_238.out _; (with_reducible repeat (first | refine yN ?_ _ | refine yD ?_ | refine yA ?_ _)); refine yF ?_ NB211_238.out _; (with_reducible repeat (first | refine yN ?_ _ | refine yD ?_ | refine yA ?_ _)); refine yF ?_ NB211_238.out _; (with_reducible repeat (first | refine yN ?_ _ | refine yD ?_ | refine yA ?_ _)); exact BK211.out) hb); replace BK238 := aM (yB (g := gb238) (o := .cells #[.int .i64 t231, .slice Ao132 t232.length co132, .slice Ao133 t235.length co133] 24 (0, 0)) (by (with_reducible repeat (first | refine yN ?_ _ | refine yD ?_ | refine yA ?_ _)); refine yP (cs := #[.int .i64 t231, .slice Ao132 t232.length co132, .slice none 0 0]) ?_ 2 _ rfl; (with_reducible repeat (first | refine yN ?_ _ | refine yD ?_ | refine yA ?_ _)); refine yP (cs := #[.int .i64 t231, .slice none 0 0, .slice none 0 0]) ?_ 1 _ rfl; (with_reducible repeat (first | refine yN ?_ _ | refine yD ?_ | refine yA ?_ _)); refine yP (cs := #[.int .i64 0, .slice none 0 0, .slice none 0 0]) ?_ 0 _ rfl; (with_reducible repeat (first | refine yN ?_ _ | refine yD ?_ | refine yA ?_ _)); exact BK238.out) hb); replace HB := aM (zT (zH HB.out) hb); (try clear hb); have hnb135 := NB211_210.out; have hnc135 := NB210_211.out; have hcz136_0 : w134.cell? ⟨gb211, 0, none⟩ = some (.int .i64 x212000_2) := yc BK211.out 0; have hcz136_1 : w134.cell? ⟨gb211, 1, none⟩ = some (.slice none 0 0) := yc BK211.out 1; have hcz136_2 : w134.cell? ⟨gb211, 2, none⟩ = some (.slice none 0 0) := yc BK211.out 2; have hfz136_0 := yZ BK211.out 0; have hfz136_1 := yZ BK211.out 1; have hfz136_2 := yZ BK211.out 2))
          refine bodyPost_ret (results_ct rfl _ _ gb211 24 #[.int .i64 0, .slice none 0 0, .slice none 0 0] (0, 0) _ rfl (by (with_reducible repeat (first | refine yN ?_ _ | refine yD ?_ | refine yA ?_ _)); refine yP (cs := #[.int .i64 0, .slice none 0 0, .slice none 0 0]) ?_ 2 _ rfl; (with_reducible repeat (first | refine yN ?_ _ | refine yD ?_ | refine yA ?_ _)); refine yP (cs := #[.int .i64 0, .slice none 0 0, .slice none 0 0]) ?_ 1 _ rfl; (with_reducible repeat (first | refine yN ?_ _ | refine yD ?_ | refine yA ?_ _)); refine yP (cs := #[.int .i64 x212000_2, .slice none 0 0, .slice none 0 0]) ?_ 0 _ rfl; (with_reducible repeat (first | refine yN ?_ _ | refine yD ?_ | refine yA ?_ _)); exact BK211.out) Try.underlying24 rfl (by kernel_rfl)) rfl ?_
          exact ⟨_, _, by first | rfl | (simp [errW_none, errW_some] <;> rfl) | (simp [*, errW_none, errW_some] <;> rfl), by first | exact Kd.R_nil _ _ _ _ _ | exact Kd.N_nil _ _ _ _ _ | exact Kd.V_nil _ _ _ _ _ | exact Kd.Q_nil _ _ _ _ _ | exact Kd.S_nil _ _ _ _ _, by first | exact Kd.R_nil _ _ _ _ _ | exact Kd.N_nil _ _ _ _ _ | exact Kd.V_nil _ _ _ _ _ | exact Kd.Q_nil _ _ _ _ _ | exact Kd.S_nil _ _ _ _ _, zH HB.out⟩

/-! ### impl_within: function 38 -/
def impl_within.f (a0 : Int) (a1 : Int) (a2 : Int) : Option (Bool) := if a0 ≥ a1 then (some (decide (a0 ≤ a2))) else (some false)
set_option maxHeartbeats 8000000 in
set_option maxRecDepth 100000 in
theorem impl_within.calls (a0 : Int) (a1 : Int) (a2 : Int) (r : Bool) (w : World) (h : impl_within.f a0 a1 a2 = some r) :
  Calls Try.prog 38 #[.int .i64 a0, .int .i64 a1, .int .i64 a2] w fun e w' => e = .returned (.bool r) ∧ Drawn0 w w' := by
 have H : (if a0 ≥ a1 then (some (decide (a0 ≤ a2))) else (some false)) = some r := h
 clear h
 by_cases c4 : a0 ≥ a1
 ·rw [if_pos c4] at H
  have c4b0 : decide (a1 ≤ a0) = true := decide_eq_true c4
  clear c4
  obtain rfl := Option.some.inj H
  go_enter Try.func38, Try.ntmps38
  go_wp2
  go_ret
  exact ⟨by first | rfl | (simp; done) | (simp [*]; done), by repeat (first | exact Drawn0.refl _ | apply Drawn0.step)⟩
 ·rw [if_neg c4] at H
  have c4b0 : decide (a1 ≤ a0) = false := decide_eq_false c4
  clear c4
  obtain rfl := Option.some.inj H
  go_enter Try.func38, Try.ntmps38
  go_wp2
  go_ret
  exact ⟨by first | rfl | (simp; done) | (simp [*]; done), by repeat (first | exact Drawn0.refl _ | apply Drawn0.step)⟩

/-! ### impl_Extent_57: function 57 (by hand) -/
/-- slices.Clone -/
def impl_Extent_57.f (l0 : List (S49)) : Option ((List (S49))) :=
 if l0.length < 8796093022208 then some l0 else none
set_option maxHeartbeats 8000000 in
set_option maxRecDepth 100000 in
theorem impl_Extent_57.calls (A0 : Option Addr) (c0 : Nat) (l0 : List (S49)) (r : List (S49)) (w : World) (hr0 : Kd.C k49 w A0 l0.length l0) (hc0 : l0.length ≤ c0) (h : impl_Extent_57.f l0 = some r) :
  Calls Try.prog 57 #[.slice A0 l0.length c0] w fun e w' => ∃ v0_ : Value, e = .returned (v0_) ∧ Kd.R k49 49 w' w.heap.size (fun _ => True) v0_ r ∧ Below w.heap.size w w' := by
 unfold impl_Extent_57.f at h
 by_cases hl : l0.length < 8796093022208
 case neg => rw [if_neg hl] at h; cases h
 rw [if_pos hl] at h
 obtain rfl := Option.some.inj h
 clear h
 have LM := aM hl
 clear hl
 have HR0 := aM hr0
 have HC0 := aM hc0
 clear hr0 hc0
 have HB := aM (Below.refl w.heap.size w)
 cases A0 with
 | none =>
  obtain rfl : l0 = [] := by
   rcases Nat.eq_zero_or_pos l0.length with h0 | h0
   ·exact List.eq_nil_of_length_eq_zero h0
   ·obtain ⟨a, ha, _⟩ := HR0.out.2.2 h0; cases ha
  have he : ∀ w : World, (binOp .eql 22 (.slice none 0 c0) (.slice none 0 0)).run Try.prog w = .ok (.bool true) w := fun _ => rfl
  go_enter Try.func57, Try.ntmps57
  go_wp2
  go_ret
  exact ⟨_, rfl, Kd.R_nil _ _ _ _ _, by repeat (first | exact HB.out | apply zA | apply zN | apply zD)⟩
 | some a_ =>
  have he : ∀ w : World, (binOp .eql 22 (.slice (some a_) l0.length c0) (.slice none 0 0)).run Try.prog w = .ok (.bool false) w := fun _ => rfl
  go_enter Try.func57, Try.ntmps57
  go_wp2_with (first | ((with_reducible refine gate_dst (N := 5) rfl ?_); refine Kd.R_lit k49 _ 49 ?hg (N := 5) ?hd (xs := ([] : List S49)) (inner := []) (ok := fun _ => True) (okp := fun _ => True) ?hr ?hp (fun _ hk => hk) trivial (Below.refl _ _) (Nat.le_refl _) (by simp) ?_; (case hd => rfl); (case hg => rfl); (case hr => first | (go_simp; done) | (go_simp; rfl)); (case hp => exact (Reps.none _ _)); intro v158 w5 ho6 hb hg_ hnew_; clear hg_ hnew_; have HO159 := aM (xL ho6 (zZ (by repeat (first | exact HB.out | apply zA | apply zN | apply zD)))); replace HB := aM (zT (by repeat (first | exact HB.out | apply zA | apply zN | apply zD)) hb); clear hb ho6) | ((with_reducible refine gate_builtin (b := .append) (xs := #[.tmp 5, .tmp 6]) rfl ?_); at_builtin; refine Kd.R_append_rows k49 (w0 := w) w.heap.size rfl (.tmp 5) (.tmp 6) 22 49 ((.agg #[(.int .i64 0), (.int .i64 0)])) 16 rfl Try.underlying22 (by kernel_rfl) rfl (by decide) (by omega) v158 [] l0 _ _ _ (fun _ => True) (fun _ => False) rfl rfl ?aO ?aR (fun _ _ h => h) (fun _ h => h.elim) ?aF ?aB ?aS ?aL ?_; (case aR => exact cK HR0.out HB.out); (case aB => exact (by repeat (first | exact HB.out | apply zA | apply zN | apply zD))); (case aF => exact (fun _ _ => trivial)); (case aO => exact (xH HO159.out)); (case aS => exact (zZ (by repeat (first | exact HB.out | apply zA | apply zN | apply zD)))); (case aL => have := LM.out; simp only [List.length_nil]; omega); intro v161 w9 ho hb hg hat; replace HB := aM (hb); have HO162 := aM (ho); clear HO159; clear ho hb hg hat; obtain ⟨Ao10, co10, eo10⟩ := Kd.R_slice HO162.out; subst eo10))
  go_ret
  exact ⟨_, rfl, xH HO162.out, by repeat (first | exact HB.out | apply zA | apply zN | apply zD)⟩


end Go.Proofs.Ytfhfaeeokibhaaa.PFnExactGiveRoom
