/- The walks of FnExactTakeRoom: Go's calls come to what the Lean functions beside them say; no condition. -/
import Derived.Test.YtfhfaeeokibhaaaQFnExactTakeRoomx0
import Derived.Test.YtfhfaeeokibhaaaQFnExactTakeRoomx8
import Derived.Test.YtfhfaeeokibhaaaQFnExactTakeRoomx10
import Derived.Test.YtfhfaeeokibhaaaQFnExactTakeRoomx12
namespace Go.Proofs.Ytfhfaeeokibhaaa.PFnExactTakeRoom
open Go.RowKit Go.Proofs.YtfhfaeeokibhaaaW.PrintWords Go.Proofs.YtfhfaeeokibhaaaW.PrintLast Go.Proofs.YtfhfaeeokibhaaaW.PrintMore
attribute [local go_sem] max2_int min2_int max_two min_two max_three min_three max_four min_four   -- for this text's walks alone
set_option linter.unusedVariables false
set_option linter.unusedSimpArgs false
set_option maxRecDepth 100000

/-! ### impl_Free_placeFor: function 56 (by hand) -/
def impl_Free_placeFor.at_ (n q : Int) (x : S49) : Int := mn (mx q x.f0) (wrap64 (wrap64 (x.f0 + x.f1) - n))
def impl_Free_placeFor.gap (a q : Int) : Int := mx (wrap64 (a - q)) (wrap64 (q - a))
/-- the nearest place -/
def impl_Free_placeFor.near (n q : Int) : List S49 → Int → Bool → Int × Bool
 | [], b, f => (b, f)
 | x :: l, b, f => if x.f1 ≥ n then (if f = false then impl_Free_placeFor.near n q l (impl_Free_placeFor.at_ n q x) true else if impl_Free_placeFor.gap (impl_Free_placeFor.at_ n q x) q < impl_Free_placeFor.gap b q then impl_Free_placeFor.near n q l (impl_Free_placeFor.at_ n q x) true else impl_Free_placeFor.near n q l b f) else impl_Free_placeFor.near n q l b f
theorem impl_Free_placeFor.near_at (n q : Int) (l : List S49) (i : Nat) (h : i < l.length) (b : Int) (f : Bool) : impl_Free_placeFor.near n q (l.drop i) b f = if (rd_T49 l (i : Int)).f1 ≥ n then (if f = false then impl_Free_placeFor.near n q (l.drop (i + 1)) (impl_Free_placeFor.at_ n q (rd_T49 l (i : Int))) true else if impl_Free_placeFor.gap (impl_Free_placeFor.at_ n q (rd_T49 l (i : Int))) q < impl_Free_placeFor.gap b q then impl_Free_placeFor.near n q (l.drop (i + 1)) (impl_Free_placeFor.at_ n q (rd_T49 l (i : Int))) true else impl_Free_placeFor.near n q (l.drop (i + 1)) b f) else impl_Free_placeFor.near n q (l.drop (i + 1)) b f := by
 rw [List.drop_eq_getElem_cons h, impl_Free_placeFor.near]
 have e : rd_T49 l (i : Int) = l[i] := by simp [rd_T49, List.getD_eq_getElem?_getD, h]
 rw [e]
/-- the list that is looked through -/
def impl_Free_placeFor.list (how : Int) (p s : List S49) : List S49 := if how = 3 then s.drop (mx 0 (wrap64 ((s.length : Int) - 1))).toNat else if how = 2 then s else p
def impl_Free_placeFor.pick (n : Int) (l : List S49) : Option (Int × Bool) := if firstLong (fun x => decide (x.f1 ≥ n)) l 0 < 0 then some (0, false) else if firstLong (fun x => decide (x.f1 ≥ n)) l 0 < (l.length : Int) then some ((rd_T49 l (firstLong (fun x => decide (x.f1 ≥ n)) l 0)).f0, true) else none
def impl_Free_placeFor.f (a0_0 : Int) (l0_1 : List (S49)) (l0_2 : List (S49)) (a1 : Int) (a2 : Int) (a3 : Int) : Option (Int × Bool) :=
 if a2 = 4 then some (impl_Free_placeFor.near a1 a3 l0_1 0 false) else impl_Free_placeFor.pick a1 (impl_Free_placeFor.list a2 l0_1 l0_2)
set_option maxHeartbeats 8000000 in
set_option maxRecDepth 100000 in
theorem impl_Free_placeFor.calls (a0_0 : Int) (A0_1 : Option Addr) (c0_1 : Nat) (l0_1 : List (S49)) (A0_2 : Option Addr) (c0_2 : Nat) (l0_2 : List (S49)) (a1 : Int) (a2 : Int) (a3 : Int) (r1 : Int) (r2 : Bool) (w : World) (hr0_1 : Kd.C k49 w A0_1 l0_1.length l0_1) (hc0_1 : l0_1.length ≤ c0_1) (hr0_2 : Kd.C k49 w A0_2 l0_2.length l0_2) (hc0_2 : l0_2.length ≤ c0_2) (h : impl_Free_placeFor.f a0_0 l0_1 l0_2 a1 a2 a3 = some (r1, r2)) :
  Calls Try.prog 56 #[.agg #[.int .i64 a0_0, .slice A0_1 l0_1.length c0_1, .slice A0_2 l0_2.length c0_2], .int .i64 a1, .int .i64 a2, .int .i64 a3] w fun e w' => e = .returned (.tuple #[.int .i64 r1, .bool r2]) ∧ Below w.heap.size w w' := by
 unfold impl_Free_placeFor.f at h
 have HR0_1 := aM hr0_1
 have HC0_1 := aM hc0_1
 have HR0_2 := aM hr0_2
 have HC0_2 := aM hc0_2
 clear hr0_1 hc0_1 hr0_2 hc0_2
 have HB := aM (Below.refl w.heap.size w)
 by_cases c4_ : a2 = 4
 ·rw [if_pos c4_] at h
  have HN := aM (Option.some.inj h)
  clear h
  have e40 : (a2 == 4) = true := by subst c4_; rfl
  have e41 : decide (a2 = 4) = true := decide_eq_true c4_
  clear c4_
  go_enter Try.func56, Try.ntmps56
  go_wp2_with (first | ((with_reducible refine gate_dst (N := 4) rfl ?_); refine box_event ?hg (N := 4) ?hd (cs := #[.int .i64 a0_0, .slice A0_1 l0_1.length c0_1, .slice A0_2 l0_2.length c0_2]) (t := 24) ?hr ?_; (case hd => rfl); (case hg => rfl); (case hr => first | (go_simp; done) | (go_simp; rfl)); intro gb1 hg w_2 hbox hb; have n_HB := aM (zT (zH HB.out) hb); have n_GE := aM ((by rw [hg]; exact (zZ (zH HB.out))) : w.heap.size ≤ gb1); clear HB; have HB := n_HB; clear n_HB; have BKgb1 := aM hbox; have GEgb1 := n_GE; clear n_GE; have hcq3_0 : w_2.cell? ⟨gb1, 0, none⟩ = some (.int .i64 a0_0) := yc BKgb1.out 0; have hfq3_0 := yZ BKgb1.out 0; have hcq3_1 : w_2.cell? ⟨gb1, 1, none⟩ = some (.slice A0_1 l0_1.length c0_1) := yc BKgb1.out 1; have hfq3_1 := yZ BKgb1.out 1; have hcq3_2 : w_2.cell? ⟨gb1, 2, none⟩ = some (.slice A0_2 l0_2.length c0_2) := yc BKgb1.out 2; have hfq3_2 := yZ BKgb1.out 2; clear hbox hb hg) | ((with_reducible refine gate_dst (N := 5) rfl ?_); refine box_event ?hg (N := 5) ?hd (cs := #[.int .i64 a1]) (t := 3) ?hr ?_; (case hd => rfl); (case hg => rfl); (case hr => first | (go_simp; done) | (go_simp; rfl)); intro gb4 hg w_5 hbox hb; have n_BKgb1 := aM (yB (g := gb1) (o := (.cells #[.int .i64 a0_0, .slice A0_1 l0_1.length c0_1, .slice A0_2 l0_2.length c0_2] 24 (0, 0))) (yH BKgb1.out) hb); have n_HB := aM (zT (zH HB.out) hb); have n_GE := aM ((by rw [hg]; exact (zZ (zH HB.out))) : w.heap.size ≤ gb4); have n_NAgb1 := aM ((by rw [hg]; exact Nat.ne_of_lt (blk_lt (g := gb1) (o := (.cells #[.int .i64 a0_0, .slice A0_1 l0_1.length c0_1, .slice A0_2 l0_2.length c0_2] 24 (0, 0))) (yH BKgb1.out))) : gb1 ≠ gb4); clear BKgb1 HB; have BKgb1 := n_BKgb1; have HB := n_HB; clear n_BKgb1 n_HB; have BKgb4 := aM hbox; have GEgb4 := n_GE; clear n_GE; have hnegb1_gb4 := n_NAgb1.out; have hnfgb1_gb4 : gb4 ≠ gb1 := fun h => n_NAgb1.out h.symm; clear n_NAgb1; have hcq6_0 : w_5.cell? ⟨gb1, 0, none⟩ = some (.int .i64 a0_0) := yc BKgb1.out 0; have hfq6_0 := yZ BKgb1.out 0; have hcq6_1 : w_5.cell? ⟨gb1, 1, none⟩ = some (.slice A0_1 l0_1.length c0_1) := yc BKgb1.out 1; have hfq6_1 := yZ BKgb1.out 1; have hcq6_2 : w_5.cell? ⟨gb1, 2, none⟩ = some (.slice A0_2 l0_2.length c0_2) := yc BKgb1.out 2; have hfq6_2 := yZ BKgb1.out 2; have hcq7_0 : w_5.cell? ⟨gb4, 0, none⟩ = some (.int .i64 a1) := yc BKgb4.out 0; have hfq7_0 := yZ BKgb4.out 0; clear hbox hb hg))
  go_loopw [12, 13, 27] (fun v12 v13 v27 w' => ∃ (i : Nat) (b : Int) (f : Bool), i ≤ l0_1.length ∧ v12 = .int .i64 b ∧ v13 = .bool f ∧ v27 = .int .i64 (i : Int) ∧ Aside0 (impl_Free_placeFor.near a1 a3 (l0_1.drop i) b f = (r1, r2)) ∧ Aside0 (w'.heap[gb1]? = some (.cells #[.int .i64 a0_0, .slice A0_1 l0_1.length c0_1, .slice A0_2 l0_2.length c0_2] 24 (0, 0))) ∧ Aside0 (w'.heap[gb4]? = some (.cells #[.int .i64 a1] 3 (0, 0))) ∧ Aside0 (Below w.heap.size w w')) (fun v12 v13 v27 w' => l0_1.length - (intOf v27).toNat)
  case atStart => exact ⟨0, 0, false, Nat.zero_le _, rfl, rfl, rfl, HN, ⟨yH BKgb1.out⟩, ⟨yH BKgb4.out⟩, ⟨zH HB.out⟩⟩
  case round =>
   clear HN BKgb1 BKgb4 HB
   (try clear hcq3_0); (try clear hcq3_1); (try clear hcq3_2); (try clear hcq6_0); (try clear hcq6_1); (try clear hcq6_2); (try clear hcq7_0); (try clear hfq3_0); (try clear hfq3_1); (try clear hfq3_2); (try clear hfq6_0); (try clear hfq6_1); (try clear hfq6_2); (try clear hfq7_0)
   obtain ⟨i, b, f, hi, rfl, rfl, rfl, HA, BKgb1, BKgb4, HB⟩ := hrel
   have HL1 : l0_1.length ≤ 9223372036854775807 := HR0_1.out.2.1
   by_cases hlt : i < l0_1.length
   ·have hf := impl_Free_placeFor.near_at a1 a3 l0_1 i hlt b f
    have p1 : 0 ≤ (i : Int) := by omega
    have q1 : (i : Int) < (l0_1.length : Int) := by omega
    obtain ⟨ad1, e1, hx1_0, hx1_1⟩ := at_T49 (cB HR0_1.out HB.out) (i : Int) p1 q1
    cases e1
    (try rw [Int.toNat_natCast] at hx1_0 hx1_1)
    have hw1 : wrap64 ((i : Int) + 1) = ((i + 1 : Nat) : Int) := by unfold wrap64; omega
    have H1 := HA.out
    rw [hf] at H1
    generalize rd_T49 l0_1 (i : Int) = s at hx1_0 hx1_1 H1
    clear hf HA
    have hcq10_0 : wr.cell? ⟨gb1, 0, none⟩ = some (.int .i64 a0_0) := yc BKgb1.out 0
    have hfq10_0 := yZ BKgb1.out 0
    have hcq10_1 : wr.cell? ⟨gb1, 1, none⟩ = some (.slice (some ad1) l0_1.length c0_1) := yc BKgb1.out 1
    have hfq10_1 := yZ BKgb1.out 1
    have hcq10_2 : wr.cell? ⟨gb1, 2, none⟩ = some (.slice A0_2 l0_2.length c0_2) := yc BKgb1.out 2
    have hfq10_2 := yZ BKgb1.out 2
    have hcq11_0 : wr.cell? ⟨gb4, 0, none⟩ = some (.int .i64 a1) := yc BKgb4.out 0
    have hfq11_0 := yZ BKgb4.out 0
    by_cases hp : s.f1 ≥ a1
    case neg =>
     rw [if_neg hp] at H1
     have DP : decide (s.f1 ≥ a1) = false := decide_eq_false hp
     have H2 := aM H1
     clear H1 hp
     go_wp2_with (first | ((with_reducible refine gate_dst (N := 15) rfl ?_); refine box_event ?hg (N := 15) ?hd (cs := #[.int .i64 0, .int .i64 0]) (t := 49) ?hr ?_; (case hd => rfl); (case hg => rfl); (case hr => first | (go_simp; done) | (go_simp; rfl)); intro gb12 hg w_13 hbox hb; have n_BKgb1 := aM (yB (g := gb1) (o := (.cells #[.int .i64 a0_0, .slice (some ad1) l0_1.length c0_1, .slice A0_2 l0_2.length c0_2] 24 (0, 0))) (yH BKgb1.out) hb); have n_BKgb4 := aM (yB (g := gb4) (o := (.cells #[.int .i64 a1] 3 (0, 0))) (yH BKgb4.out) hb); have n_HB := aM (zT (zH HB.out) hb); have n_GE := aM ((by rw [hg]; exact (zZ (zH HB.out))) : w.heap.size ≤ gb12); have n_NAgb1 := aM ((by rw [hg]; exact Nat.ne_of_lt (blk_lt (g := gb1) (o := (.cells #[.int .i64 a0_0, .slice (some ad1) l0_1.length c0_1, .slice A0_2 l0_2.length c0_2] 24 (0, 0))) (yH BKgb1.out))) : gb1 ≠ gb12); have n_NAgb4 := aM ((by rw [hg]; exact Nat.ne_of_lt (blk_lt (g := gb4) (o := (.cells #[.int .i64 a1] 3 (0, 0))) (yH BKgb4.out))) : gb4 ≠ gb12); clear BKgb1 BKgb4 HB; have BKgb1 := n_BKgb1; have BKgb4 := n_BKgb4; have HB := n_HB; clear n_BKgb1 n_BKgb4 n_HB; have BKgb12 := aM hbox; have GEgb12 := n_GE; clear n_GE; have hnegb1_gb12 := n_NAgb1.out; have hnfgb1_gb12 : gb12 ≠ gb1 := fun h => n_NAgb1.out h.symm; clear n_NAgb1; have hnegb4_gb12 := n_NAgb4.out; have hnfgb4_gb12 : gb12 ≠ gb4 := fun h => n_NAgb4.out h.symm; clear n_NAgb4; have hcq14_0 : w_13.cell? ⟨gb1, 0, none⟩ = some (.int .i64 a0_0) := yc BKgb1.out 0; have hfq14_0 := yZ BKgb1.out 0; have hcq14_1 : w_13.cell? ⟨gb1, 1, none⟩ = some (.slice (some ad1) l0_1.length c0_1) := yc BKgb1.out 1; have hfq14_1 := yZ BKgb1.out 1; have hcq14_2 : w_13.cell? ⟨gb1, 2, none⟩ = some (.slice A0_2 l0_2.length c0_2) := yc BKgb1.out 2; have hfq14_2 := yZ BKgb1.out 2; have hcq15_0 : w_13.cell? ⟨gb4, 0, none⟩ = some (.int .i64 a1) := yc BKgb4.out 0; have hfq15_0 := yZ BKgb4.out 0; have hcq16_0 : w_13.cell? ⟨gb12, 0, none⟩ = some (.int .i64 0) := yc BKgb12.out 0; have hfq16_0 := yZ BKgb12.out 0; have hcq16_1 : w_13.cell? ⟨gb12, 1, none⟩ = some (.int .i64 0) := yc BKgb12.out 1; have hfq16_1 := yZ BKgb12.out 1; clear hbox hb hg) | ((with_reducible refine gate_store (t := 49) (p := 15) rfl ?_); refine store_event (t := 49) (p := 15) (v := ?vo_w_17) (w1 := ((w_13.setCell ⟨gb12, 0, none⟩ (.int .i64 s.f0)).setCell ⟨gb12, 1, none⟩ (.int .i64 s.f1))) ?hg ?ho ?hn ?hr ?_; (case ho => rfl); (case hg => rfl); (case hn => rfl); (case hr => first | (go_simp; done) | (go_simp; rfl)); intro w_17 hw; have n_BKgb1 : Aside0 (w_17.heap[gb1]? = some (.cells #[.int .i64 a0_0, .slice (some ad1) l0_1.length c0_1, .slice A0_2 l0_2.length c0_2] 24 (0, 0))) := ⟨(by rw [hw]; exact (by (with_reducible repeat (first | refine yN ?_ _ | refine yD ?_ | refine yA ?_ _)); refine yF ?_ hnegb1_gb12 _; (with_reducible repeat (first | refine yN ?_ _ | refine yD ?_ | refine yA ?_ _)); refine yF ?_ hnegb1_gb12 _; (with_reducible repeat (first | refine yN ?_ _ | refine yD ?_ | refine yA ?_ _)); exact BKgb1.out))⟩; have n_BKgb4 : Aside0 (w_17.heap[gb4]? = some (.cells #[.int .i64 a1] 3 (0, 0))) := ⟨(by rw [hw]; exact (by (with_reducible repeat (first | refine yN ?_ _ | refine yD ?_ | refine yA ?_ _)); refine yF ?_ hnegb4_gb12 _; (with_reducible repeat (first | refine yN ?_ _ | refine yD ?_ | refine yA ?_ _)); refine yF ?_ hnegb4_gb12 _; (with_reducible repeat (first | refine yN ?_ _ | refine yD ?_ | refine yA ?_ _)); exact BKgb4.out))⟩; have n_BKgb12 : Aside0 (w_17.heap[gb12]? = some (.cells #[.int .i64 s.f0, .int .i64 s.f1] 49 (0, 0))) := ⟨(by rw [hw]; exact (by (with_reducible repeat (first | refine yN ?_ _ | refine yD ?_ | refine yA ?_ _)); refine yP (cs := #[.int .i64 s.f0, .int .i64 0]) ?_ 1 _ rfl; (with_reducible repeat (first | refine yN ?_ _ | refine yD ?_ | refine yA ?_ _)); refine yP (cs := #[.int .i64 0, .int .i64 0]) ?_ 0 _ rfl; (with_reducible repeat (first | refine yN ?_ _ | refine yD ?_ | refine yA ?_ _)); exact BKgb12.out))⟩; have n_HB : Aside0 (Below w.heap.size w w_17) := ⟨(by rw [hw]; exact (zH HB.out))⟩; clear hw; clear BKgb1 BKgb4 BKgb12 HB; have BKgb1 := n_BKgb1; have BKgb4 := n_BKgb4; have BKgb12 := n_BKgb12; have HB := n_HB; clear n_BKgb1 n_BKgb4 n_BKgb12 n_HB; have hcq18_0 : w_17.cell? ⟨gb1, 0, none⟩ = some (.int .i64 a0_0) := yc BKgb1.out 0; have hfq18_0 := yZ BKgb1.out 0; have hcq18_1 : w_17.cell? ⟨gb1, 1, none⟩ = some (.slice (some ad1) l0_1.length c0_1) := yc BKgb1.out 1; have hfq18_1 := yZ BKgb1.out 1; have hcq18_2 : w_17.cell? ⟨gb1, 2, none⟩ = some (.slice A0_2 l0_2.length c0_2) := yc BKgb1.out 2; have hfq18_2 := yZ BKgb1.out 2; have hcq19_0 : w_17.cell? ⟨gb4, 0, none⟩ = some (.int .i64 a1) := yc BKgb4.out 0; have hfq19_0 := yZ BKgb4.out 0; have hcq20_0 : w_17.cell? ⟨gb12, 0, none⟩ = some (.int .i64 s.f0) := yc BKgb12.out 0; have hfq20_0 := yZ BKgb12.out 0; have hcq20_1 : w_17.cell? ⟨gb12, 1, none⟩ = some (.int .i64 s.f1) := yc BKgb12.out 1; have hfq20_1 := yZ BKgb12.out 1) | (go_at_call 63; go_loud (refine (impl_Free_placeFor_1.clo1 s a1 gb4 _ ?s1).mono ?_); (case s1 => exact (yH BKgb4.out)); rw [DP]; rintro e w_21 ⟨rfl, hb⟩; have n_BKgb1 := aM (yB (g := gb1) (o := (.cells #[.int .i64 a0_0, .slice (some ad1) l0_1.length c0_1, .slice A0_2 l0_2.length c0_2] 24 (0, 0))) (yH BKgb1.out) hb); have n_BKgb4 := aM (yB (g := gb4) (o := (.cells #[.int .i64 a1] 3 (0, 0))) (yH BKgb4.out) hb); have n_BKgb12 := aM (yB (g := gb12) (o := (.cells #[.int .i64 s.f0, .int .i64 s.f1] 49 (0, 0))) (yH BKgb12.out) hb); have n_HB := aM (zT (zH HB.out) hb); clear BKgb1 BKgb4 BKgb12 HB; have BKgb1 := n_BKgb1; have BKgb4 := n_BKgb4; have BKgb12 := n_BKgb12; have HB := n_HB; clear n_BKgb1 n_BKgb4 n_BKgb12 n_HB; clear hb; have hcq22_0 : w_21.cell? ⟨gb1, 0, none⟩ = some (.int .i64 a0_0) := yc BKgb1.out 0; have hfq22_0 := yZ BKgb1.out 0; have hcq22_1 : w_21.cell? ⟨gb1, 1, none⟩ = some (.slice (some ad1) l0_1.length c0_1) := yc BKgb1.out 1; have hfq22_1 := yZ BKgb1.out 1; have hcq22_2 : w_21.cell? ⟨gb1, 2, none⟩ = some (.slice A0_2 l0_2.length c0_2) := yc BKgb1.out 2; have hfq22_2 := yZ BKgb1.out 2; have hcq23_0 : w_21.cell? ⟨gb4, 0, none⟩ = some (.int .i64 a1) := yc BKgb4.out 0; have hfq23_0 := yZ BKgb4.out 0; have hcq24_0 : w_21.cell? ⟨gb12, 0, none⟩ = some (.int .i64 s.f0) := yc BKgb12.out 0; have hfq24_0 := yZ BKgb12.out 0; have hcq24_1 : w_21.cell? ⟨gb12, 1, none⟩ = some (.int .i64 s.f1) := yc BKgb12.out 1; have hfq24_1 := yZ BKgb12.out 1))
     go_roundw
     case rel => exact ⟨i + 1, b, f, by omega, rfl, rfl, by go_num, H2, ⟨yH BKgb1.out⟩, ⟨yH BKgb4.out⟩, ⟨zH HB.out⟩⟩
     case measure => simp [intOf]; omega
    rw [if_pos hp] at H1
    have DP : decide (s.f1 ≥ a1) = true := decide_eq_true hp
    clear hp
    obtain ⟨J, hJ⟩ : ∃ J : Int, impl_Free_placeFor.at_ a1 a3 s = J := ⟨_, rfl⟩
    rw [hJ] at H1
    obtain ⟨j1, h1⟩ : ∃ j : Int, mx a3 s.f0 = j := ⟨_, rfl⟩
    obtain ⟨j2, h2⟩ : ∃ j : Int, wrap64 (s.f0 + s.f1) = j := ⟨_, rfl⟩
    obtain ⟨j3, h3⟩ : ∃ j : Int, wrap64 (j2 - a1) = j := ⟨_, rfl⟩
    have h4 : mn j1 j3 = J := by rw [← hJ]; unfold impl_Free_placeFor.at_; rw [h1, h2, h3]
    have k1 : (if a3 < s.f0 then s.f0 else a3) = j1 := h1
    have k4 : (if j3 < j1 then j3 else j1) = J := h4
    have k2 : IntKind.i64.wrap (s.f0 + s.f1) = j2 := (i64_w _).trans h2
    have k3 : IntKind.i64.wrap (j2 - a1) = j3 := (i64_w _).trans h3
    clear h1 h4 hJ
    cases f with
    | false =>
     rw [if_pos rfl] at H1
     have H2 := aM H1
     clear H1
     go_wp2_with (first | ((with_reducible refine gate_dst (N := 15) rfl ?_); refine box_event ?hg (N := 15) ?hd (cs := #[.int .i64 0, .int .i64 0]) (t := 49) ?hr ?_; (case hd => rfl); (case hg => rfl); (case hr => first | (go_simp; done) | (go_simp; rfl)); intro gb12 hg w_13 hbox hb; have n_BKgb1 := aM (yB (g := gb1) (o := (.cells #[.int .i64 a0_0, .slice (some ad1) l0_1.length c0_1, .slice A0_2 l0_2.length c0_2] 24 (0, 0))) (yH BKgb1.out) hb); have n_BKgb4 := aM (yB (g := gb4) (o := (.cells #[.int .i64 a1] 3 (0, 0))) (yH BKgb4.out) hb); have n_HB := aM (zT (zH HB.out) hb); have n_GE := aM ((by rw [hg]; exact (zZ (zH HB.out))) : w.heap.size ≤ gb12); have n_NAgb1 := aM ((by rw [hg]; exact Nat.ne_of_lt (blk_lt (g := gb1) (o := (.cells #[.int .i64 a0_0, .slice (some ad1) l0_1.length c0_1, .slice A0_2 l0_2.length c0_2] 24 (0, 0))) (yH BKgb1.out))) : gb1 ≠ gb12); have n_NAgb4 := aM ((by rw [hg]; exact Nat.ne_of_lt (blk_lt (g := gb4) (o := (.cells #[.int .i64 a1] 3 (0, 0))) (yH BKgb4.out))) : gb4 ≠ gb12); clear BKgb1 BKgb4 HB; have BKgb1 := n_BKgb1; have BKgb4 := n_BKgb4; have HB := n_HB; clear n_BKgb1 n_BKgb4 n_HB; have BKgb12 := aM hbox; have GEgb12 := n_GE; clear n_GE; have hnegb1_gb12 := n_NAgb1.out; have hnfgb1_gb12 : gb12 ≠ gb1 := fun h => n_NAgb1.out h.symm; clear n_NAgb1; have hnegb4_gb12 := n_NAgb4.out; have hnfgb4_gb12 : gb12 ≠ gb4 := fun h => n_NAgb4.out h.symm; clear n_NAgb4; have hcq14_0 : w_13.cell? ⟨gb1, 0, none⟩ = some (.int .i64 a0_0) := yc BKgb1.out 0; have hfq14_0 := yZ BKgb1.out 0; have hcq14_1 : w_13.cell? ⟨gb1, 1, none⟩ = some (.slice (some ad1) l0_1.length c0_1) := yc BKgb1.out 1; have hfq14_1 := yZ BKgb1.out 1; have hcq14_2 : w_13.cell? ⟨gb1, 2, none⟩ = some (.slice A0_2 l0_2.length c0_2) := yc BKgb1.out 2; have hfq14_2 := yZ BKgb1.out 2; have hcq15_0 : w_13.cell? ⟨gb4, 0, none⟩ = some (.int .i64 a1) := yc BKgb4.out 0; have hfq15_0 := yZ BKgb4.out 0; have hcq16_0 : w_13.cell? ⟨gb12, 0, none⟩ = some (.int .i64 0) := yc BKgb12.out 0; have hfq16_0 := yZ BKgb12.out 0; have hcq16_1 : w_13.cell? ⟨gb12, 1, none⟩ = some (.int .i64 0) := yc BKgb12.out 1; have hfq16_1 := yZ BKgb12.out 1; clear hbox hb hg) | ((with_reducible refine gate_store (t := 49) (p := 15) rfl ?_); refine store_event (t := 49) (p := 15) (v := ?vo_w_17) (w1 := ((w_13.setCell ⟨gb12, 0, none⟩ (.int .i64 s.f0)).setCell ⟨gb12, 1, none⟩ (.int .i64 s.f1))) ?hg ?ho ?hn ?hr ?_; (case ho => rfl); (case hg => rfl); (case hn => rfl); (case hr => first | (go_simp; done) | (go_simp; rfl)); intro w_17 hw; have n_BKgb1 : Aside0 (w_17.heap[gb1]? = some (.cells #[.int .i64 a0_0, .slice (some ad1) l0_1.length c0_1, .slice A0_2 l0_2.length c0_2] 24 (0, 0))) := ⟨(by rw [hw]; exact (by (with_reducible repeat (first | refine yN ?_ _ | refine yD ?_ | refine yA ?_ _)); refine yF ?_ hnegb1_gb12 _; (with_reducible repeat (first | refine yN ?_ _ | refine yD ?_ | refine yA ?_ _)); refine yF ?_ hnegb1_gb12 _; (with_reducible repeat (first | refine yN ?_ _ | refine yD ?_ | refine yA ?_ _)); exact BKgb1.out))⟩; have n_BKgb4 : Aside0 (w_17.heap[gb4]? = some (.cells #[.int .i64 a1] 3 (0, 0))) := ⟨(by rw [hw]; exact (by (with_reducible repeat (first | refine yN ?_ _ | refine yD ?_ | refine yA ?_ _)); refine yF ?_ hnegb4_gb12 _; (with_reducible repeat (first | refine yN ?_ _ | refine yD ?_ | refine yA ?_ _)); refine yF ?_ hnegb4_gb12 _; (with_reducible repeat (first | refine yN ?_ _ | refine yD ?_ | refine yA ?_ _)); exact BKgb4.out))⟩; have n_BKgb12 : Aside0 (w_17.heap[gb12]? = some (.cells #[.int .i64 s.f0, .int .i64 s.f1] 49 (0, 0))) := ⟨(by rw [hw]; exact (by (with_reducible repeat (first | refine yN ?_ _ | refine yD ?_ | refine yA ?_ _)); refine yP (cs := #[.int .i64 s.f0, .int .i64 0]) ?_ 1 _ rfl; (with_reducible repeat (first | refine yN ?_ _ | refine yD ?_ | refine yA ?_ _)); refine yP (cs := #[.int .i64 0, .int .i64 0]) ?_ 0 _ rfl; (with_reducible repeat (first | refine yN ?_ _ | refine yD ?_ | refine yA ?_ _)); exact BKgb12.out))⟩; have n_HB : Aside0 (Below w.heap.size w w_17) := ⟨(by rw [hw]; exact (zH HB.out))⟩; clear hw; clear BKgb1 BKgb4 BKgb12 HB; have BKgb1 := n_BKgb1; have BKgb4 := n_BKgb4; have BKgb12 := n_BKgb12; have HB := n_HB; clear n_BKgb1 n_BKgb4 n_BKgb12 n_HB; have hcq18_0 : w_17.cell? ⟨gb1, 0, none⟩ = some (.int .i64 a0_0) := yc BKgb1.out 0; have hfq18_0 := yZ BKgb1.out 0; have hcq18_1 : w_17.cell? ⟨gb1, 1, none⟩ = some (.slice (some ad1) l0_1.length c0_1) := yc BKgb1.out 1; have hfq18_1 := yZ BKgb1.out 1; have hcq18_2 : w_17.cell? ⟨gb1, 2, none⟩ = some (.slice A0_2 l0_2.length c0_2) := yc BKgb1.out 2; have hfq18_2 := yZ BKgb1.out 2; have hcq19_0 : w_17.cell? ⟨gb4, 0, none⟩ = some (.int .i64 a1) := yc BKgb4.out 0; have hfq19_0 := yZ BKgb4.out 0; have hcq20_0 : w_17.cell? ⟨gb12, 0, none⟩ = some (.int .i64 s.f0) := yc BKgb12.out 0; have hfq20_0 := yZ BKgb12.out 0; have hcq20_1 : w_17.cell? ⟨gb12, 1, none⟩ = some (.int .i64 s.f1) := yc BKgb12.out 1; have hfq20_1 := yZ BKgb12.out 1) | (go_at_call 63; go_loud (refine (impl_Free_placeFor_1.clo1 s a1 gb4 _ ?s1).mono ?_); (case s1 => exact (yH BKgb4.out)); rw [DP]; rintro e w_21 ⟨rfl, hb⟩; have n_BKgb1 := aM (yB (g := gb1) (o := (.cells #[.int .i64 a0_0, .slice (some ad1) l0_1.length c0_1, .slice A0_2 l0_2.length c0_2] 24 (0, 0))) (yH BKgb1.out) hb); have n_BKgb4 := aM (yB (g := gb4) (o := (.cells #[.int .i64 a1] 3 (0, 0))) (yH BKgb4.out) hb); have n_BKgb12 := aM (yB (g := gb12) (o := (.cells #[.int .i64 s.f0, .int .i64 s.f1] 49 (0, 0))) (yH BKgb12.out) hb); have n_HB := aM (zT (zH HB.out) hb); clear BKgb1 BKgb4 BKgb12 HB; have BKgb1 := n_BKgb1; have BKgb4 := n_BKgb4; have BKgb12 := n_BKgb12; have HB := n_HB; clear n_BKgb1 n_BKgb4 n_BKgb12 n_HB; clear hb; have hcq22_0 : w_21.cell? ⟨gb1, 0, none⟩ = some (.int .i64 a0_0) := yc BKgb1.out 0; have hfq22_0 := yZ BKgb1.out 0; have hcq22_1 : w_21.cell? ⟨gb1, 1, none⟩ = some (.slice (some ad1) l0_1.length c0_1) := yc BKgb1.out 1; have hfq22_1 := yZ BKgb1.out 1; have hcq22_2 : w_21.cell? ⟨gb1, 2, none⟩ = some (.slice A0_2 l0_2.length c0_2) := yc BKgb1.out 2; have hfq22_2 := yZ BKgb1.out 2; have hcq23_0 : w_21.cell? ⟨gb4, 0, none⟩ = some (.int .i64 a1) := yc BKgb4.out 0; have hfq23_0 := yZ BKgb4.out 0; have hcq24_0 : w_21.cell? ⟨gb12, 0, none⟩ = some (.int .i64 s.f0) := yc BKgb12.out 0; have hfq24_0 := yZ BKgb12.out 0; have hcq24_1 : w_21.cell? ⟨gb12, 1, none⟩ = some (.int .i64 s.f1) := yc BKgb12.out 1; have hfq24_1 := yZ BKgb12.out 1))
     go_roundw
     case rel => exact ⟨i + 1, J, true, by omega, rfl, rfl, by go_num, H2, ⟨yH BKgb1.out⟩, ⟨yH BKgb4.out⟩, ⟨zH HB.out⟩⟩
     case measure => simp [intOf]; omega
    | true =>
     rw [if_neg (by decide)] at H1
     obtain ⟨m1, n1⟩ : ∃ j : Int, wrap64 (J - a3) = j := ⟨_, rfl⟩
     obtain ⟨m2, n2⟩ : ∃ j : Int, wrap64 (a3 - J) = j := ⟨_, rfl⟩
     obtain ⟨m3, n3⟩ : ∃ j : Int, wrap64 (b - a3) = j := ⟨_, rfl⟩
     obtain ⟨m4, n4⟩ : ∃ j : Int, wrap64 (a3 - b) = j := ⟨_, rfl⟩
     obtain ⟨u1, v1⟩ : ∃ j : Int, mx m1 m2 = j := ⟨_, rfl⟩
     obtain ⟨u2, v2⟩ : ∃ j : Int, mx m3 m4 = j := ⟨_, rfl⟩
     have g1 : impl_Free_placeFor.gap J a3 = u1 := by unfold impl_Free_placeFor.gap; rw [n1, n2, v1]
     have g2 : impl_Free_placeFor.gap b a3 = u2 := by unfold impl_Free_placeFor.gap; rw [n3, n4, v2]
     rw [g1, g2] at H1
     have k5 : IntKind.i64.wrap (J - a3) = m1 := (i64_w _).trans n1
     have k6 : IntKind.i64.wrap (a3 - J) = m2 := (i64_w _).trans n2
     have k7 : IntKind.i64.wrap (b - a3) = m3 := (i64_w _).trans n3
     have k8 : IntKind.i64.wrap (a3 - b) = m4 := (i64_w _).trans n4
     have k9 : (if m1 < m2 then m2 else m1) = u1 := v1
     have k10 : (if m3 < m4 then m4 else m3) = u2 := v2
     clear g1 g2 v1 v2
     by_cases hu : u1 < u2
     ·rw [if_pos hu] at H1
      have H2 := aM H1
      have du : decide (u1 < u2) = true := decide_eq_true hu
      clear H1 hu
      go_wp2_with (first | ((with_reducible refine gate_dst (N := 15) rfl ?_); refine box_event ?hg (N := 15) ?hd (cs := #[.int .i64 0, .int .i64 0]) (t := 49) ?hr ?_; (case hd => rfl); (case hg => rfl); (case hr => first | (go_simp; done) | (go_simp; rfl)); intro gb12 hg w_13 hbox hb; have n_BKgb1 := aM (yB (g := gb1) (o := (.cells #[.int .i64 a0_0, .slice (some ad1) l0_1.length c0_1, .slice A0_2 l0_2.length c0_2] 24 (0, 0))) (yH BKgb1.out) hb); have n_BKgb4 := aM (yB (g := gb4) (o := (.cells #[.int .i64 a1] 3 (0, 0))) (yH BKgb4.out) hb); have n_HB := aM (zT (zH HB.out) hb); have n_GE := aM ((by rw [hg]; exact (zZ (zH HB.out))) : w.heap.size ≤ gb12); have n_NAgb1 := aM ((by rw [hg]; exact Nat.ne_of_lt (blk_lt (g := gb1) (o := (.cells #[.int .i64 a0_0, .slice (some ad1) l0_1.length c0_1, .slice A0_2 l0_2.length c0_2] 24 (0, 0))) (yH BKgb1.out))) : gb1 ≠ gb12); have n_NAgb4 := aM ((by rw [hg]; exact Nat.ne_of_lt (blk_lt (g := gb4) (o := (.cells #[.int .i64 a1] 3 (0, 0))) (yH BKgb4.out))) : gb4 ≠ gb12); clear BKgb1 BKgb4 HB; have BKgb1 := n_BKgb1; have BKgb4 := n_BKgb4; have HB := n_HB; clear n_BKgb1 n_BKgb4 n_HB; have BKgb12 := aM hbox; have GEgb12 := n_GE; clear n_GE; have hnegb1_gb12 := n_NAgb1.out; have hnfgb1_gb12 : gb12 ≠ gb1 := fun h => n_NAgb1.out h.symm; clear n_NAgb1; have hnegb4_gb12 := n_NAgb4.out; have hnfgb4_gb12 : gb12 ≠ gb4 := fun h => n_NAgb4.out h.symm; clear n_NAgb4; have hcq14_0 : w_13.cell? ⟨gb1, 0, none⟩ = some (.int .i64 a0_0) := yc BKgb1.out 0; have hfq14_0 := yZ BKgb1.out 0; have hcq14_1 : w_13.cell? ⟨gb1, 1, none⟩ = some (.slice (some ad1) l0_1.length c0_1) := yc BKgb1.out 1; have hfq14_1 := yZ BKgb1.out 1; have hcq14_2 : w_13.cell? ⟨gb1, 2, none⟩ = some (.slice A0_2 l0_2.length c0_2) := yc BKgb1.out 2; have hfq14_2 := yZ BKgb1.out 2; have hcq15_0 : w_13.cell? ⟨gb4, 0, none⟩ = some (.int .i64 a1) := yc BKgb4.out 0; have hfq15_0 := yZ BKgb4.out 0; have hcq16_0 : w_13.cell? ⟨gb12, 0, none⟩ = some (.int .i64 0) := yc BKgb12.out 0; have hfq16_0 := yZ BKgb12.out 0; have hcq16_1 : w_13.cell? ⟨gb12, 1, none⟩ = some (.int .i64 0) := yc BKgb12.out 1; have hfq16_1 := yZ BKgb12.out 1; clear hbox hb hg) | ((with_reducible refine gate_store (t := 49) (p := 15) rfl ?_); refine store_event (t := 49) (p := 15) (v := ?vo_w_17) (w1 := ((w_13.setCell ⟨gb12, 0, none⟩ (.int .i64 s.f0)).setCell ⟨gb12, 1, none⟩ (.int .i64 s.f1))) ?hg ?ho ?hn ?hr ?_; (case ho => rfl); (case hg => rfl); (case hn => rfl); (case hr => first | (go_simp; done) | (go_simp; rfl)); intro w_17 hw; have n_BKgb1 : Aside0 (w_17.heap[gb1]? = some (.cells #[.int .i64 a0_0, .slice (some ad1) l0_1.length c0_1, .slice A0_2 l0_2.length c0_2] 24 (0, 0))) := ⟨(by rw [hw]; exact (by (with_reducible repeat (first | refine yN ?_ _ | refine yD ?_ | refine yA ?_ _)); refine yF ?_ hnegb1_gb12 _; (with_reducible repeat (first | refine yN ?_ _ | refine yD ?_ | refine yA ?_ _)); refine yF ?_ hnegb1_gb12 _; (with_reducible repeat (first | refine yN ?_ _ | refine yD ?_ | refine yA ?_ _)); exact BKgb1.out))⟩; have n_BKgb4 : Aside0 (w_17.heap[gb4]? = some (.cells #[.int .i64 a1] 3 (0, 0))) := ⟨(by rw [hw]; exact (by (with_reducible repeat (first | refine yN ?_ _ | refine yD ?_ | refine yA ?_ _)); refine yF ?_ hnegb4_gb12 _; (with_reducible repeat (first | refine yN ?_ _ | refine yD ?_ | refine yA ?_ _)); refine yF ?_ hnegb4_gb12 _; (with_reducible repeat (first | refine yN ?_ _ | refine yD ?_ | refine yA ?_ _)); exact BKgb4.out))⟩; have n_BKgb12 : Aside0 (w_17.heap[gb12]? = some (.cells #[.int .i64 s.f0, .int .i64 s.f1] 49 (0, 0))) := ⟨(by rw [hw]; exact (by (with_reducible repeat (first | refine yN ?_ _ | refine yD ?_ | refine yA ?_ _)); refine yP (cs := #[.int .i64 s.f0, .int .i64 0]) ?_ 1 _ rfl; (with_reducible repeat (first | refine yN ?_ _ | refine yD ?_ | refine yA ?_ _)); refine yP (cs := #[.int .i64 0, .int .i64 0]) ?_ 0 _ rfl; (with_reducible repeat (first | refine yN ?_ _ | refine yD ?_ | refine yA ?_ _)); exact BKgb12.out))⟩; have n_HB : Aside0 (Below w.heap.size w w_17) := ⟨(by rw [hw]; exact (zH HB.out))⟩; clear hw; clear BKgb1 BKgb4 BKgb12 HB; have BKgb1 := n_BKgb1; have BKgb4 := n_BKgb4; have BKgb12 := n_BKgb12; have HB := n_HB; clear n_BKgb1 n_BKgb4 n_BKgb12 n_HB; have hcq18_0 : w_17.cell? ⟨gb1, 0, none⟩ = some (.int .i64 a0_0) := yc BKgb1.out 0; have hfq18_0 := yZ BKgb1.out 0; have hcq18_1 : w_17.cell? ⟨gb1, 1, none⟩ = some (.slice (some ad1) l0_1.length c0_1) := yc BKgb1.out 1; have hfq18_1 := yZ BKgb1.out 1; have hcq18_2 : w_17.cell? ⟨gb1, 2, none⟩ = some (.slice A0_2 l0_2.length c0_2) := yc BKgb1.out 2; have hfq18_2 := yZ BKgb1.out 2; have hcq19_0 : w_17.cell? ⟨gb4, 0, none⟩ = some (.int .i64 a1) := yc BKgb4.out 0; have hfq19_0 := yZ BKgb4.out 0; have hcq20_0 : w_17.cell? ⟨gb12, 0, none⟩ = some (.int .i64 s.f0) := yc BKgb12.out 0; have hfq20_0 := yZ BKgb12.out 0; have hcq20_1 : w_17.cell? ⟨gb12, 1, none⟩ = some (.int .i64 s.f1) := yc BKgb12.out 1; have hfq20_1 := yZ BKgb12.out 1) | (go_at_call 63; go_loud (refine (impl_Free_placeFor_1.clo1 s a1 gb4 _ ?s1).mono ?_); (case s1 => exact (yH BKgb4.out)); rw [DP]; rintro e w_21 ⟨rfl, hb⟩; have n_BKgb1 := aM (yB (g := gb1) (o := (.cells #[.int .i64 a0_0, .slice (some ad1) l0_1.length c0_1, .slice A0_2 l0_2.length c0_2] 24 (0, 0))) (yH BKgb1.out) hb); have n_BKgb4 := aM (yB (g := gb4) (o := (.cells #[.int .i64 a1] 3 (0, 0))) (yH BKgb4.out) hb); have n_BKgb12 := aM (yB (g := gb12) (o := (.cells #[.int .i64 s.f0, .int .i64 s.f1] 49 (0, 0))) (yH BKgb12.out) hb); have n_HB := aM (zT (zH HB.out) hb); clear BKgb1 BKgb4 BKgb12 HB; have BKgb1 := n_BKgb1; have BKgb4 := n_BKgb4; have BKgb12 := n_BKgb12; have HB := n_HB; clear n_BKgb1 n_BKgb4 n_BKgb12 n_HB; clear hb; have hcq22_0 : w_21.cell? ⟨gb1, 0, none⟩ = some (.int .i64 a0_0) := yc BKgb1.out 0; have hfq22_0 := yZ BKgb1.out 0; have hcq22_1 : w_21.cell? ⟨gb1, 1, none⟩ = some (.slice (some ad1) l0_1.length c0_1) := yc BKgb1.out 1; have hfq22_1 := yZ BKgb1.out 1; have hcq22_2 : w_21.cell? ⟨gb1, 2, none⟩ = some (.slice A0_2 l0_2.length c0_2) := yc BKgb1.out 2; have hfq22_2 := yZ BKgb1.out 2; have hcq23_0 : w_21.cell? ⟨gb4, 0, none⟩ = some (.int .i64 a1) := yc BKgb4.out 0; have hfq23_0 := yZ BKgb4.out 0; have hcq24_0 : w_21.cell? ⟨gb12, 0, none⟩ = some (.int .i64 s.f0) := yc BKgb12.out 0; have hfq24_0 := yZ BKgb12.out 0; have hcq24_1 : w_21.cell? ⟨gb12, 1, none⟩ = some (.int .i64 s.f1) := yc BKgb12.out 1; have hfq24_1 := yZ BKgb12.out 1))
      go_roundw
      case rel => exact ⟨i + 1, J, true, by omega, rfl, rfl, by go_num, H2, ⟨yH BKgb1.out⟩, ⟨yH BKgb4.out⟩, ⟨zH HB.out⟩⟩
      case measure => simp [intOf]; omega
     ·rw [if_neg hu] at H1
      have H2 := aM H1
      have du : decide (u1 < u2) = false := decide_eq_false hu
      clear H1 hu
      go_wp2_with (first | ((with_reducible refine gate_dst (N := 15) rfl ?_); refine box_event ?hg (N := 15) ?hd (cs := #[.int .i64 0, .int .i64 0]) (t := 49) ?hr ?_; (case hd => rfl); (case hg => rfl); (case hr => first | (go_simp; done) | (go_simp; rfl)); intro gb12 hg w_13 hbox hb; have n_BKgb1 := aM (yB (g := gb1) (o := (.cells #[.int .i64 a0_0, .slice (some ad1) l0_1.length c0_1, .slice A0_2 l0_2.length c0_2] 24 (0, 0))) (yH BKgb1.out) hb); have n_BKgb4 := aM (yB (g := gb4) (o := (.cells #[.int .i64 a1] 3 (0, 0))) (yH BKgb4.out) hb); have n_HB := aM (zT (zH HB.out) hb); have n_GE := aM ((by rw [hg]; exact (zZ (zH HB.out))) : w.heap.size ≤ gb12); have n_NAgb1 := aM ((by rw [hg]; exact Nat.ne_of_lt (blk_lt (g := gb1) (o := (.cells #[.int .i64 a0_0, .slice (some ad1) l0_1.length c0_1, .slice A0_2 l0_2.length c0_2] 24 (0, 0))) (yH BKgb1.out))) : gb1 ≠ gb12); have n_NAgb4 := aM ((by rw [hg]; exact Nat.ne_of_lt (blk_lt (g := gb4) (o := (.cells #[.int .i64 a1] 3 (0, 0))) (yH BKgb4.out))) : gb4 ≠ gb12); clear BKgb1 BKgb4 HB; have BKgb1 := n_BKgb1; have BKgb4 := n_BKgb4; have HB := n_HB; clear n_BKgb1 n_BKgb4 n_HB; have BKgb12 := aM hbox; have GEgb12 := n_GE; clear n_GE; have hnegb1_gb12 := n_NAgb1.out; have hnfgb1_gb12 : gb12 ≠ gb1 := fun h => n_NAgb1.out h.symm; clear n_NAgb1; have hnegb4_gb12 := n_NAgb4.out; have hnfgb4_gb12 : gb12 ≠ gb4 := fun h => n_NAgb4.out h.symm; clear n_NAgb4; have hcq14_0 : w_13.cell? ⟨gb1, 0, none⟩ = some (.int .i64 a0_0) := yc BKgb1.out 0; have hfq14_0 := yZ BKgb1.out 0; have hcq14_1 : w_13.cell? ⟨gb1, 1, none⟩ = some (.slice (some ad1) l0_1.length c0_1) := yc BKgb1.out 1; have hfq14_1 := yZ BKgb1.out 1; have hcq14_2 : w_13.cell? ⟨gb1, 2, none⟩ = some (.slice A0_2 l0_2.length c0_2) := yc BKgb1.out 2; have hfq14_2 := yZ BKgb1.out 2; have hcq15_0 : w_13.cell? ⟨gb4, 0, none⟩ = some (.int .i64 a1) := yc BKgb4.out 0; have hfq15_0 := yZ BKgb4.out 0; have hcq16_0 : w_13.cell? ⟨gb12, 0, none⟩ = some (.int .i64 0) := yc BKgb12.out 0; have hfq16_0 := yZ BKgb12.out 0; have hcq16_1 : w_13.cell? ⟨gb12, 1, none⟩ = some (.int .i64 0) := yc BKgb12.out 1; have hfq16_1 := yZ BKgb12.out 1; clear hbox hb hg) | ((with_reducible refine gate_store (t := 49) (p := 15) rfl ?_); refine store_event (t := 49) (p := 15) (v := ?vo_w_17) (w1 := ((w_13.setCell ⟨gb12, 0, none⟩ (.int .i64 s.f0)).setCell ⟨gb12, 1, none⟩ (.int .i64 s.f1))) ?hg ?ho ?hn ?hr ?_; (case ho => rfl); (case hg => rfl); (case hn => rfl); (case hr => first | (go_simp; done) | (go_simp; rfl)); intro w_17 hw; have n_BKgb1 : Aside0 (w_17.heap[gb1]? = some (.cells #[.int .i64 a0_0, .slice (some ad1) l0_1.length c0_1, .slice A0_2 l0_2.length c0_2] 24 (0, 0))) := ⟨(by rw [hw]; exact (by (with_reducible repeat (first | refine yN ?_ _ | refine yD ?_ | refine yA ?_ _)); refine yF ?_ hnegb1_gb12 _; (with_reducible repeat (first | refine yN ?_ _ | refine yD ?_ | refine yA ?_ _)); refine yF ?_ hnegb1_gb12 _; (with_reducible repeat (first | refine yN ?_ _ | refine yD ?_ | refine yA ?_ _)); exact BKgb1.out))⟩; have n_BKgb4 : Aside0 (w_17.heap[gb4]? = some (.cells #[.int .i64 a1] 3 (0, 0))) := ⟨(by rw [hw]; exact (by (with_reducible repeat (first | refine yN ?_ _ | refine yD ?_ | refine yA ?_ _)); refine yF ?_ hnegb4_gb12 _; (with_reducible repeat (first | refine yN ?_ _ | refine yD ?_ | refine yA ?_ _)); refine yF ?_ hnegb4_gb12 _; (with_reducible repeat (first | refine yN ?_ _ | refine yD ?_ | refine yA ?_ _)); exact BKgb4.out))⟩; have n_BKgb12 : Aside0 (w_17.heap[gb12]? = some (.cells #[.int .i64 s.f0, .int .i64 s.f1] 49 (0, 0))) := ⟨(by rw [hw]; exact (by (with_reducible repeat (first | refine yN ?_ _ | refine yD ?_ | refine yA ?_ _)); refine yP (cs := #[.int .i64 s.f0, .int .i64 0]) ?_ 1 _ rfl; (with_reducible repeat (first | refine yN ?_ _ | refine yD ?_ | refine yA ?_ _)); refine yP (cs := #[.int .i64 0, .int .i64 0]) ?_ 0 _ rfl; (with_reducible repeat (first | refine yN ?_ _ | refine yD ?_ | refine yA ?_ _)); exact BKgb12.out))⟩; have n_HB : Aside0 (Below w.heap.size w w_17) := ⟨(by rw [hw]; exact (zH HB.out))⟩; clear hw; clear BKgb1 BKgb4 BKgb12 HB; have BKgb1 := n_BKgb1; have BKgb4 := n_BKgb4; have BKgb12 := n_BKgb12; have HB := n_HB; clear n_BKgb1 n_BKgb4 n_BKgb12 n_HB; have hcq18_0 : w_17.cell? ⟨gb1, 0, none⟩ = some (.int .i64 a0_0) := yc BKgb1.out 0; have hfq18_0 := yZ BKgb1.out 0; have hcq18_1 : w_17.cell? ⟨gb1, 1, none⟩ = some (.slice (some ad1) l0_1.length c0_1) := yc BKgb1.out 1; have hfq18_1 := yZ BKgb1.out 1; have hcq18_2 : w_17.cell? ⟨gb1, 2, none⟩ = some (.slice A0_2 l0_2.length c0_2) := yc BKgb1.out 2; have hfq18_2 := yZ BKgb1.out 2; have hcq19_0 : w_17.cell? ⟨gb4, 0, none⟩ = some (.int .i64 a1) := yc BKgb4.out 0; have hfq19_0 := yZ BKgb4.out 0; have hcq20_0 : w_17.cell? ⟨gb12, 0, none⟩ = some (.int .i64 s.f0) := yc BKgb12.out 0; have hfq20_0 := yZ BKgb12.out 0; have hcq20_1 : w_17.cell? ⟨gb12, 1, none⟩ = some (.int .i64 s.f1) := yc BKgb12.out 1; have hfq20_1 := yZ BKgb12.out 1) | (go_at_call 63; go_loud (refine (impl_Free_placeFor_1.clo1 s a1 gb4 _ ?s1).mono ?_); (case s1 => exact (yH BKgb4.out)); rw [DP]; rintro e w_21 ⟨rfl, hb⟩; have n_BKgb1 := aM (yB (g := gb1) (o := (.cells #[.int .i64 a0_0, .slice (some ad1) l0_1.length c0_1, .slice A0_2 l0_2.length c0_2] 24 (0, 0))) (yH BKgb1.out) hb); have n_BKgb4 := aM (yB (g := gb4) (o := (.cells #[.int .i64 a1] 3 (0, 0))) (yH BKgb4.out) hb); have n_BKgb12 := aM (yB (g := gb12) (o := (.cells #[.int .i64 s.f0, .int .i64 s.f1] 49 (0, 0))) (yH BKgb12.out) hb); have n_HB := aM (zT (zH HB.out) hb); clear BKgb1 BKgb4 BKgb12 HB; have BKgb1 := n_BKgb1; have BKgb4 := n_BKgb4; have BKgb12 := n_BKgb12; have HB := n_HB; clear n_BKgb1 n_BKgb4 n_BKgb12 n_HB; clear hb; have hcq22_0 : w_21.cell? ⟨gb1, 0, none⟩ = some (.int .i64 a0_0) := yc BKgb1.out 0; have hfq22_0 := yZ BKgb1.out 0; have hcq22_1 : w_21.cell? ⟨gb1, 1, none⟩ = some (.slice (some ad1) l0_1.length c0_1) := yc BKgb1.out 1; have hfq22_1 := yZ BKgb1.out 1; have hcq22_2 : w_21.cell? ⟨gb1, 2, none⟩ = some (.slice A0_2 l0_2.length c0_2) := yc BKgb1.out 2; have hfq22_2 := yZ BKgb1.out 2; have hcq23_0 : w_21.cell? ⟨gb4, 0, none⟩ = some (.int .i64 a1) := yc BKgb4.out 0; have hfq23_0 := yZ BKgb4.out 0; have hcq24_0 : w_21.cell? ⟨gb12, 0, none⟩ = some (.int .i64 s.f0) := yc BKgb12.out 0; have hfq24_0 := yZ BKgb12.out 0; have hcq24_1 : w_21.cell? ⟨gb12, 1, none⟩ = some (.int .i64 s.f1) := yc BKgb12.out 1; have hfq24_1 := yZ BKgb12.out 1))
      go_roundw
      case rel => exact ⟨i + 1, b, true, by omega, rfl, rfl, by go_num, H2, ⟨yH BKgb1.out⟩, ⟨yH BKgb4.out⟩, ⟨zH HB.out⟩⟩
      case measure => simp [intOf]; omega
   ·have hlen : i = l0_1.length := by omega
    have H1 := HA.out
    rw [hlen, List.drop_length, impl_Free_placeFor.near] at H1
    simp only [Prod.mk.injEq] at H1
    obtain ⟨rfl, rfl⟩ := H1
    clear HA hlen
    have hcq8_0 : wr.cell? ⟨gb1, 0, none⟩ = some (.int .i64 a0_0) := yc BKgb1.out 0
    have hfq8_0 := yZ BKgb1.out 0
    have hcq8_1 : wr.cell? ⟨gb1, 1, none⟩ = some (.slice A0_1 l0_1.length c0_1) := yc BKgb1.out 1
    have hfq8_1 := yZ BKgb1.out 1
    have hcq8_2 : wr.cell? ⟨gb1, 2, none⟩ = some (.slice A0_2 l0_2.length c0_2) := yc BKgb1.out 2
    have hfq8_2 := yZ BKgb1.out 2
    have hcq9_0 : wr.cell? ⟨gb4, 0, none⟩ = some (.int .i64 a1) := yc BKgb4.out 0
    have hfq9_0 := yZ BKgb4.out 0
    go_wp2
    go_ret2
    exact ⟨rfl, zH HB.out⟩
 ·rw [if_neg c4_] at h
  have e40 : (a2 == 4) = false := by exact beq_eq_false_iff_ne.mpr c4_
  have e41 : decide (a2 = 4) = false := decide_eq_false c4_
  clear c4_
  by_cases c3_ : a2 = 3
  ·have hl : impl_Free_placeFor.list a2 l0_1 l0_2 = l0_2.drop (mx 0 (wrap64 ((l0_2.length : Int) - 1))).toNat := by unfold impl_Free_placeFor.list; rw [if_pos c3_]
   rw [hl] at h
   clear hl
   have e30 : (a2 == 3) = true := by subst c3_; rfl
   have e31 : decide (a2 = 3) = true := decide_eq_true c3_
   clear c3_
   have HL2 : l0_2.length ≤ 9223372036854775807 := HR0_2.out.2.1
   obtain ⟨m, hm⟩ : ∃ m : Int, mx 0 (wrap64 ((l0_2.length : Int) - 1)) = m := ⟨_, rfl⟩
   have hw2 : wrap64 ((l0_2.length : Int) - 1) = (l0_2.length : Int) - 1 := by unfold wrap64; omega
   have hm0 : 0 ≤ m ∧ m ≤ (l0_2.length : Int) := by rw [← hm, hw2]; unfold mx; split <;> omega
   rw [hm] at h
   obtain ⟨d0, hd0⟩ : ∃ d : Int, wrap64 ((l0_2.length : Int) - 1) = d := ⟨_, rfl⟩
   rw [hd0] at hm
   have k1 : IntKind.i64.wrap ((l0_2.length : Int) - 1) = d0 := (i64_w _).trans hd0
   have k2 : (if 0 < d0 then d0 else 0) = m := hm
   clear hm hw2 hd0 HL2
   obtain ⟨i0_, hi0_, _, hsz0_, _⟩ := info_parts info49
   have hcut := cut_from (P := Try.prog) 22 49 .i64 Try.underlying22 hi0_ 2 hsz0_ A0_2 l0_2.length c0_2 m hm0.1 hm0.2
   have hr30 := Kd.C_drop (m := m.toNat) (c := c0_2) HR0_2.out (by omega) HC0_2.out
   obtain ⟨A3, hA3⟩ : ∃ A3 : Option Addr, A3 = (if c0_2 = m.toNat then A0_2 else A0_2.map (·.add (m.toNat * 2))) := ⟨_, rfl⟩
   obtain ⟨c3, hc3⟩ : ∃ c3, c3 = c0_2 - m.toNat := ⟨_, rfl⟩
   obtain ⟨l3, hl3⟩ : ∃ l3, l3 = l0_2.drop m.toNat := ⟨_, rfl⟩
   have hy3 : l3.length = l0_2.length - m.toNat := by rw [hl3, List.length_drop]
   rw [← hl3] at hr30 h
   replace hr30 : Kd.C k49 w A3 l3.length l3 := by rw [hA3]; exact hr30
   rw [← hy3, ← hA3, ← hc3] at hcut
   have HR3 := aM hr30
   have dm0 := eq_true hm0.1
   have dm1 := eq_true hm0.2
   clear hr30 hi0_ hsz0_ hc3 hy3 hl3 hm0 hA3
   unfold impl_Free_placeFor.pick at h
   obtain ⟨q, hq⟩ : ∃ q : Int, firstLong (fun x => decide (x.f1 ≥ a1)) l3 0 = q := ⟨_, rfl⟩
   rw [hq] at h
   have HQ := aM hq
   clear hq
   by_cases h1 : q < 0
   ·rw [if_pos h1] at h
    simp only [Option.some.injEq, Prod.mk.injEq] at h
    obtain ⟨rfl, rfl⟩ := h
    have d1 : decide (q < 0) = true := decide_eq_true h1
    clear h1
    go_enter Try.func56, Try.ntmps56
    go_wp2_with (first | ((with_reducible refine gate_dst (N := 4) rfl ?_); refine box_event ?hg (N := 4) ?hd (cs := #[.int .i64 a0_0, .slice A0_1 l0_1.length c0_1, .slice A0_2 l0_2.length c0_2]) (t := 24) ?hr ?_; (case hd => rfl); (case hg => rfl); (case hr => first | (go_simp; done) | (go_simp; rfl)); intro gb1 hg w_2 hbox hb; have n_HB := aM (zT (zH HB.out) hb); have n_GE := aM ((by rw [hg]; exact (zZ (zH HB.out))) : w.heap.size ≤ gb1); clear HB; have HB := n_HB; clear n_HB; have BKgb1 := aM hbox; have GEgb1 := n_GE; clear n_GE; have hcq3_0 : w_2.cell? ⟨gb1, 0, none⟩ = some (.int .i64 a0_0) := yc BKgb1.out 0; have hfq3_0 := yZ BKgb1.out 0; have hcq3_1 : w_2.cell? ⟨gb1, 1, none⟩ = some (.slice A0_1 l0_1.length c0_1) := yc BKgb1.out 1; have hfq3_1 := yZ BKgb1.out 1; have hcq3_2 : w_2.cell? ⟨gb1, 2, none⟩ = some (.slice A0_2 l0_2.length c0_2) := yc BKgb1.out 2; have hfq3_2 := yZ BKgb1.out 2; clear hbox hb hg) | ((with_reducible refine gate_dst (N := 5) rfl ?_); refine box_event ?hg (N := 5) ?hd (cs := #[.int .i64 a1]) (t := 3) ?hr ?_; (case hd => rfl); (case hg => rfl); (case hr => first | (go_simp; done) | (go_simp; rfl)); intro gb4 hg w_5 hbox hb; have n_BKgb1 := aM (yB (g := gb1) (o := (.cells #[.int .i64 a0_0, .slice A0_1 l0_1.length c0_1, .slice A0_2 l0_2.length c0_2] 24 (0, 0))) (yH BKgb1.out) hb); have n_HB := aM (zT (zH HB.out) hb); have n_GE := aM ((by rw [hg]; exact (zZ (zH HB.out))) : w.heap.size ≤ gb4); have n_NAgb1 := aM ((by rw [hg]; exact Nat.ne_of_lt (blk_lt (g := gb1) (o := (.cells #[.int .i64 a0_0, .slice A0_1 l0_1.length c0_1, .slice A0_2 l0_2.length c0_2] 24 (0, 0))) (yH BKgb1.out))) : gb1 ≠ gb4); clear BKgb1 HB; have BKgb1 := n_BKgb1; have HB := n_HB; clear n_BKgb1 n_HB; have BKgb4 := aM hbox; have GEgb4 := n_GE; clear n_GE; have hnegb1_gb4 := n_NAgb1.out; have hnfgb1_gb4 : gb4 ≠ gb1 := fun h => n_NAgb1.out h.symm; clear n_NAgb1; have hcq6_0 : w_5.cell? ⟨gb1, 0, none⟩ = some (.int .i64 a0_0) := yc BKgb1.out 0; have hfq6_0 := yZ BKgb1.out 0; have hcq6_1 : w_5.cell? ⟨gb1, 1, none⟩ = some (.slice A0_1 l0_1.length c0_1) := yc BKgb1.out 1; have hfq6_1 := yZ BKgb1.out 1; have hcq6_2 : w_5.cell? ⟨gb1, 2, none⟩ = some (.slice A0_2 l0_2.length c0_2) := yc BKgb1.out 2; have hfq6_2 := yZ BKgb1.out 2; have hcq7_0 : w_5.cell? ⟨gb4, 0, none⟩ = some (.int .i64 a1) := yc BKgb4.out 0; have hfq7_0 := yZ BKgb4.out 0; clear hbox hb hg) | (go_at_call 64; go_loud (refine (impl_Extent_64.index (fun x => decide (x.f1 ≥ a1)) 63 #[.pointer (some ⟨gb4, 0, none⟩)] _ c3 l3 _ ?s1 (enters_of Try.func63 (by kernel_rfl) rfl) ?s2).mono ?_); (case s1 => exact (cB HR3.out (zH HB.out))); (case s2 => exact (fun s_ w_ hb_ => impl_Free_placeFor_1.clo s_ a1 gb4 w_ (yB (g := gb4) (o := (.cells #[.int .i64 a1] 3 (0, 0))) (yH BKgb4.out) hb_))); rw [HQ.out]; rintro e w_8 ⟨rfl, hb⟩; have n_BKgb1 := aM (yB (g := gb1) (o := (.cells #[.int .i64 a0_0, .slice A0_1 l0_1.length c0_1, .slice A0_2 l0_2.length c0_2] 24 (0, 0))) (yH BKgb1.out) hb); have n_BKgb4 := aM (yB (g := gb4) (o := (.cells #[.int .i64 a1] 3 (0, 0))) (yH BKgb4.out) hb); have n_HB := aM (zT (zH HB.out) hb); clear BKgb1 BKgb4 HB; have BKgb1 := n_BKgb1; have BKgb4 := n_BKgb4; have HB := n_HB; clear n_BKgb1 n_BKgb4 n_HB; clear hb; have hcq9_0 : w_8.cell? ⟨gb1, 0, none⟩ = some (.int .i64 a0_0) := yc BKgb1.out 0; have hfq9_0 := yZ BKgb1.out 0; have hcq9_1 : w_8.cell? ⟨gb1, 1, none⟩ = some (.slice A0_1 l0_1.length c0_1) := yc BKgb1.out 1; have hfq9_1 := yZ BKgb1.out 1; have hcq9_2 : w_8.cell? ⟨gb1, 2, none⟩ = some (.slice A0_2 l0_2.length c0_2) := yc BKgb1.out 2; have hfq9_2 := yZ BKgb1.out 2; have hcq10_0 : w_8.cell? ⟨gb4, 0, none⟩ = some (.int .i64 a1) := yc BKgb4.out 0; have hfq10_0 := yZ BKgb4.out 0))
    go_ret2
    exact ⟨rfl, zH HB.out⟩
   ·rw [if_neg h1] at h
    by_cases h2 : q < (l3.length : Int)
    case neg => rw [if_neg h2] at h; cases h
    rw [if_pos h2] at h
    simp only [Option.some.injEq, Prod.mk.injEq] at h
    obtain ⟨rfl, rfl⟩ := h
    have d1 : decide (q < 0) = false := decide_eq_false h1
    have p1 : 0 ≤ q := by omega
    have P1 := aM p1
    have Q1 := aM h2
    clear h1 h2 p1
    go_enter Try.func56, Try.ntmps56
    go_wp2_with (first | ((with_reducible refine gate_dst (N := 4) rfl ?_); refine box_event ?hg (N := 4) ?hd (cs := #[.int .i64 a0_0, .slice A0_1 l0_1.length c0_1, .slice A0_2 l0_2.length c0_2]) (t := 24) ?hr ?_; (case hd => rfl); (case hg => rfl); (case hr => first | (go_simp; done) | (go_simp; rfl)); intro gb1 hg w_2 hbox hb; have n_HB := aM (zT (zH HB.out) hb); have n_GE := aM ((by rw [hg]; exact (zZ (zH HB.out))) : w.heap.size ≤ gb1); clear HB; have HB := n_HB; clear n_HB; have BKgb1 := aM hbox; have GEgb1 := n_GE; clear n_GE; have hcq3_0 : w_2.cell? ⟨gb1, 0, none⟩ = some (.int .i64 a0_0) := yc BKgb1.out 0; have hfq3_0 := yZ BKgb1.out 0; have hcq3_1 : w_2.cell? ⟨gb1, 1, none⟩ = some (.slice A0_1 l0_1.length c0_1) := yc BKgb1.out 1; have hfq3_1 := yZ BKgb1.out 1; have hcq3_2 : w_2.cell? ⟨gb1, 2, none⟩ = some (.slice A0_2 l0_2.length c0_2) := yc BKgb1.out 2; have hfq3_2 := yZ BKgb1.out 2; clear hbox hb hg) | ((with_reducible refine gate_dst (N := 5) rfl ?_); refine box_event ?hg (N := 5) ?hd (cs := #[.int .i64 a1]) (t := 3) ?hr ?_; (case hd => rfl); (case hg => rfl); (case hr => first | (go_simp; done) | (go_simp; rfl)); intro gb4 hg w_5 hbox hb; have n_BKgb1 := aM (yB (g := gb1) (o := (.cells #[.int .i64 a0_0, .slice A0_1 l0_1.length c0_1, .slice A0_2 l0_2.length c0_2] 24 (0, 0))) (yH BKgb1.out) hb); have n_HB := aM (zT (zH HB.out) hb); have n_GE := aM ((by rw [hg]; exact (zZ (zH HB.out))) : w.heap.size ≤ gb4); have n_NAgb1 := aM ((by rw [hg]; exact Nat.ne_of_lt (blk_lt (g := gb1) (o := (.cells #[.int .i64 a0_0, .slice A0_1 l0_1.length c0_1, .slice A0_2 l0_2.length c0_2] 24 (0, 0))) (yH BKgb1.out))) : gb1 ≠ gb4); clear BKgb1 HB; have BKgb1 := n_BKgb1; have HB := n_HB; clear n_BKgb1 n_HB; have BKgb4 := aM hbox; have GEgb4 := n_GE; clear n_GE; have hnegb1_gb4 := n_NAgb1.out; have hnfgb1_gb4 : gb4 ≠ gb1 := fun h => n_NAgb1.out h.symm; clear n_NAgb1; have hcq6_0 : w_5.cell? ⟨gb1, 0, none⟩ = some (.int .i64 a0_0) := yc BKgb1.out 0; have hfq6_0 := yZ BKgb1.out 0; have hcq6_1 : w_5.cell? ⟨gb1, 1, none⟩ = some (.slice A0_1 l0_1.length c0_1) := yc BKgb1.out 1; have hfq6_1 := yZ BKgb1.out 1; have hcq6_2 : w_5.cell? ⟨gb1, 2, none⟩ = some (.slice A0_2 l0_2.length c0_2) := yc BKgb1.out 2; have hfq6_2 := yZ BKgb1.out 2; have hcq7_0 : w_5.cell? ⟨gb4, 0, none⟩ = some (.int .i64 a1) := yc BKgb4.out 0; have hfq7_0 := yZ BKgb4.out 0; clear hbox hb hg) | (go_at_call 64; go_loud (refine (impl_Extent_64.index (fun x => decide (x.f1 ≥ a1)) 63 #[.pointer (some ⟨gb4, 0, none⟩)] _ c3 l3 _ ?s1 (enters_of Try.func63 (by kernel_rfl) rfl) ?s2).mono ?_); (case s1 => exact (cB HR3.out (zH HB.out))); (case s2 => exact (fun s_ w_ hb_ => impl_Free_placeFor_1.clo s_ a1 gb4 w_ (yB (g := gb4) (o := (.cells #[.int .i64 a1] 3 (0, 0))) (yH BKgb4.out) hb_))); rw [HQ.out]; rintro e w_8 ⟨rfl, hb⟩; have n_BKgb1 := aM (yB (g := gb1) (o := (.cells #[.int .i64 a0_0, .slice A0_1 l0_1.length c0_1, .slice A0_2 l0_2.length c0_2] 24 (0, 0))) (yH BKgb1.out) hb); have n_BKgb4 := aM (yB (g := gb4) (o := (.cells #[.int .i64 a1] 3 (0, 0))) (yH BKgb4.out) hb); have n_HB := aM (zT (zH HB.out) hb); clear BKgb1 BKgb4 HB; have BKgb1 := n_BKgb1; have BKgb4 := n_BKgb4; have HB := n_HB; clear n_BKgb1 n_BKgb4 n_HB; clear hb; have hcq9_0 : w_8.cell? ⟨gb1, 0, none⟩ = some (.int .i64 a0_0) := yc BKgb1.out 0; have hfq9_0 := yZ BKgb1.out 0; have hcq9_1 : w_8.cell? ⟨gb1, 1, none⟩ = some (.slice A0_1 l0_1.length c0_1) := yc BKgb1.out 1; have hfq9_1 := yZ BKgb1.out 1; have hcq9_2 : w_8.cell? ⟨gb1, 2, none⟩ = some (.slice A0_2 l0_2.length c0_2) := yc BKgb1.out 2; have hfq9_2 := yZ BKgb1.out 2; have hcq10_0 : w_8.cell? ⟨gb4, 0, none⟩ = some (.int .i64 a1) := yc BKgb4.out 0; have hfq10_0 := yZ BKgb4.out 0; obtain ⟨ad1, e1, hx1_0, hx1_1⟩ := at_T49 (cB HR3.out HB.out) q P1.out Q1.out; rw [e1] at *; have p1 := eq_true P1.out; have q1 := eq_true Q1.out))
    go_ret2
    exact ⟨rfl, zH HB.out⟩
  ·by_cases c2_ : a2 = 2
   ·have hl : impl_Free_placeFor.list a2 l0_1 l0_2 = l0_2 := by unfold impl_Free_placeFor.list; rw [if_neg c3_, if_pos c2_]
    rw [hl] at h
    clear hl
    have e30 : (a2 == 3) = false := by exact beq_eq_false_iff_ne.mpr c3_
    have e31 : decide (a2 = 3) = false := decide_eq_false c3_
    have e20 : (a2 == 2) = true := by subst c2_; rfl
    have e21 : decide (a2 = 2) = true := decide_eq_true c2_
    clear c3_ c2_
    unfold impl_Free_placeFor.pick at h
    obtain ⟨q, hq⟩ : ∃ q : Int, firstLong (fun x => decide (x.f1 ≥ a1)) l0_2 0 = q := ⟨_, rfl⟩
    rw [hq] at h
    have HQ := aM hq
    clear hq
    by_cases h1 : q < 0
    ·rw [if_pos h1] at h
     simp only [Option.some.injEq, Prod.mk.injEq] at h
     obtain ⟨rfl, rfl⟩ := h
     have d1 : decide (q < 0) = true := decide_eq_true h1
     clear h1
     go_enter Try.func56, Try.ntmps56
     go_wp2_with (first | ((with_reducible refine gate_dst (N := 4) rfl ?_); refine box_event ?hg (N := 4) ?hd (cs := #[.int .i64 a0_0, .slice A0_1 l0_1.length c0_1, .slice A0_2 l0_2.length c0_2]) (t := 24) ?hr ?_; (case hd => rfl); (case hg => rfl); (case hr => first | (go_simp; done) | (go_simp; rfl)); intro gb1 hg w_2 hbox hb; have n_HB := aM (zT (zH HB.out) hb); have n_GE := aM ((by rw [hg]; exact (zZ (zH HB.out))) : w.heap.size ≤ gb1); clear HB; have HB := n_HB; clear n_HB; have BKgb1 := aM hbox; have GEgb1 := n_GE; clear n_GE; have hcq3_0 : w_2.cell? ⟨gb1, 0, none⟩ = some (.int .i64 a0_0) := yc BKgb1.out 0; have hfq3_0 := yZ BKgb1.out 0; have hcq3_1 : w_2.cell? ⟨gb1, 1, none⟩ = some (.slice A0_1 l0_1.length c0_1) := yc BKgb1.out 1; have hfq3_1 := yZ BKgb1.out 1; have hcq3_2 : w_2.cell? ⟨gb1, 2, none⟩ = some (.slice A0_2 l0_2.length c0_2) := yc BKgb1.out 2; have hfq3_2 := yZ BKgb1.out 2; clear hbox hb hg) | ((with_reducible refine gate_dst (N := 5) rfl ?_); refine box_event ?hg (N := 5) ?hd (cs := #[.int .i64 a1]) (t := 3) ?hr ?_; (case hd => rfl); (case hg => rfl); (case hr => first | (go_simp; done) | (go_simp; rfl)); intro gb4 hg w_5 hbox hb; have n_BKgb1 := aM (yB (g := gb1) (o := (.cells #[.int .i64 a0_0, .slice A0_1 l0_1.length c0_1, .slice A0_2 l0_2.length c0_2] 24 (0, 0))) (yH BKgb1.out) hb); have n_HB := aM (zT (zH HB.out) hb); have n_GE := aM ((by rw [hg]; exact (zZ (zH HB.out))) : w.heap.size ≤ gb4); have n_NAgb1 := aM ((by rw [hg]; exact Nat.ne_of_lt (blk_lt (g := gb1) (o := (.cells #[.int .i64 a0_0, .slice A0_1 l0_1.length c0_1, .slice A0_2 l0_2.length c0_2] 24 (0, 0))) (yH BKgb1.out))) : gb1 ≠ gb4); clear BKgb1 HB; have BKgb1 := n_BKgb1; have HB := n_HB; clear n_BKgb1 n_HB; have BKgb4 := aM hbox; have GEgb4 := n_GE; clear n_GE; have hnegb1_gb4 := n_NAgb1.out; have hnfgb1_gb4 : gb4 ≠ gb1 := fun h => n_NAgb1.out h.symm; clear n_NAgb1; have hcq6_0 : w_5.cell? ⟨gb1, 0, none⟩ = some (.int .i64 a0_0) := yc BKgb1.out 0; have hfq6_0 := yZ BKgb1.out 0; have hcq6_1 : w_5.cell? ⟨gb1, 1, none⟩ = some (.slice A0_1 l0_1.length c0_1) := yc BKgb1.out 1; have hfq6_1 := yZ BKgb1.out 1; have hcq6_2 : w_5.cell? ⟨gb1, 2, none⟩ = some (.slice A0_2 l0_2.length c0_2) := yc BKgb1.out 2; have hfq6_2 := yZ BKgb1.out 2; have hcq7_0 : w_5.cell? ⟨gb4, 0, none⟩ = some (.int .i64 a1) := yc BKgb4.out 0; have hfq7_0 := yZ BKgb4.out 0; clear hbox hb hg) | (go_at_call 64; go_loud (refine (impl_Extent_64.index (fun x => decide (x.f1 ≥ a1)) 63 #[.pointer (some ⟨gb4, 0, none⟩)] _ c0_2 l0_2 _ ?s1 (enters_of Try.func63 (by kernel_rfl) rfl) ?s2).mono ?_); (case s1 => exact (cB HR0_2.out (zH HB.out))); (case s2 => exact (fun s_ w_ hb_ => impl_Free_placeFor_1.clo s_ a1 gb4 w_ (yB (g := gb4) (o := (.cells #[.int .i64 a1] 3 (0, 0))) (yH BKgb4.out) hb_))); rw [HQ.out]; rintro e w_8 ⟨rfl, hb⟩; have n_BKgb1 := aM (yB (g := gb1) (o := (.cells #[.int .i64 a0_0, .slice A0_1 l0_1.length c0_1, .slice A0_2 l0_2.length c0_2] 24 (0, 0))) (yH BKgb1.out) hb); have n_BKgb4 := aM (yB (g := gb4) (o := (.cells #[.int .i64 a1] 3 (0, 0))) (yH BKgb4.out) hb); have n_HB := aM (zT (zH HB.out) hb); clear BKgb1 BKgb4 HB; have BKgb1 := n_BKgb1; have BKgb4 := n_BKgb4; have HB := n_HB; clear n_BKgb1 n_BKgb4 n_HB; clear hb; have hcq9_0 : w_8.cell? ⟨gb1, 0, none⟩ = some (.int .i64 a0_0) := yc BKgb1.out 0; have hfq9_0 := yZ BKgb1.out 0; have hcq9_1 : w_8.cell? ⟨gb1, 1, none⟩ = some (.slice A0_1 l0_1.length c0_1) := yc BKgb1.out 1; have hfq9_1 := yZ BKgb1.out 1; have hcq9_2 : w_8.cell? ⟨gb1, 2, none⟩ = some (.slice A0_2 l0_2.length c0_2) := yc BKgb1.out 2; have hfq9_2 := yZ BKgb1.out 2; have hcq10_0 : w_8.cell? ⟨gb4, 0, none⟩ = some (.int .i64 a1) := yc BKgb4.out 0; have hfq10_0 := yZ BKgb4.out 0))
     go_ret2
     exact ⟨rfl, zH HB.out⟩
    ·rw [if_neg h1] at h
     by_cases h2 : q < (l0_2.length : Int)
     case neg => rw [if_neg h2] at h; cases h
     rw [if_pos h2] at h
     simp only [Option.some.injEq, Prod.mk.injEq] at h
     obtain ⟨rfl, rfl⟩ := h
     have d1 : decide (q < 0) = false := decide_eq_false h1
     have p1 : 0 ≤ q := by omega
     have P1 := aM p1
     have Q1 := aM h2
     clear h1 h2 p1
     go_enter Try.func56, Try.ntmps56
     go_wp2_with (first | ((with_reducible refine gate_dst (N := 4) rfl ?_); refine box_event ?hg (N := 4) ?hd (cs := #[.int .i64 a0_0, .slice A0_1 l0_1.length c0_1, .slice A0_2 l0_2.length c0_2]) (t := 24) ?hr ?_; (case hd => rfl); (case hg => rfl); (case hr => first | (go_simp; done) | (go_simp; rfl)); intro gb1 hg w_2 hbox hb; have n_HB := aM (zT (zH HB.out) hb); have n_GE := aM ((by rw [hg]; exact (zZ (zH HB.out))) : w.heap.size ≤ gb1); clear HB; have HB := n_HB; clear n_HB; have BKgb1 := aM hbox; have GEgb1 := n_GE; clear n_GE; have hcq3_0 : w_2.cell? ⟨gb1, 0, none⟩ = some (.int .i64 a0_0) := yc BKgb1.out 0; have hfq3_0 := yZ BKgb1.out 0; have hcq3_1 : w_2.cell? ⟨gb1, 1, none⟩ = some (.slice A0_1 l0_1.length c0_1) := yc BKgb1.out 1; have hfq3_1 := yZ BKgb1.out 1; have hcq3_2 : w_2.cell? ⟨gb1, 2, none⟩ = some (.slice A0_2 l0_2.length c0_2) := yc BKgb1.out 2; have hfq3_2 := yZ BKgb1.out 2; clear hbox hb hg) | ((with_reducible refine gate_dst (N := 5) rfl ?_); refine box_event ?hg (N := 5) ?hd (cs := #[.int .i64 a1]) (t := 3) ?hr ?_; (case hd => rfl); (case hg => rfl); (case hr => first | (go_simp; done) | (go_simp; rfl)); intro gb4 hg w_5 hbox hb; have n_BKgb1 := aM (yB (g := gb1) (o := (.cells #[.int .i64 a0_0, .slice A0_1 l0_1.length c0_1, .slice A0_2 l0_2.length c0_2] 24 (0, 0))) (yH BKgb1.out) hb); have n_HB := aM (zT (zH HB.out) hb); have n_GE := aM ((by rw [hg]; exact (zZ (zH HB.out))) : w.heap.size ≤ gb4); have n_NAgb1 := aM ((by rw [hg]; exact Nat.ne_of_lt (blk_lt (g := gb1) (o := (.cells #[.int .i64 a0_0, .slice A0_1 l0_1.length c0_1, .slice A0_2 l0_2.length c0_2] 24 (0, 0))) (yH BKgb1.out))) : gb1 ≠ gb4); clear BKgb1 HB; have BKgb1 := n_BKgb1; have HB := n_HB; clear n_BKgb1 n_HB; have BKgb4 := aM hbox; have GEgb4 := n_GE; clear n_GE; have hnegb1_gb4 := n_NAgb1.out; have hnfgb1_gb4 : gb4 ≠ gb1 := fun h => n_NAgb1.out h.symm; clear n_NAgb1; have hcq6_0 : w_5.cell? ⟨gb1, 0, none⟩ = some (.int .i64 a0_0) := yc BKgb1.out 0; have hfq6_0 := yZ BKgb1.out 0; have hcq6_1 : w_5.cell? ⟨gb1, 1, none⟩ = some (.slice A0_1 l0_1.length c0_1) := yc BKgb1.out 1; have hfq6_1 := yZ BKgb1.out 1; have hcq6_2 : w_5.cell? ⟨gb1, 2, none⟩ = some (.slice A0_2 l0_2.length c0_2) := yc BKgb1.out 2; have hfq6_2 := yZ BKgb1.out 2; have hcq7_0 : w_5.cell? ⟨gb4, 0, none⟩ = some (.int .i64 a1) := yc BKgb4.out 0; have hfq7_0 := yZ BKgb4.out 0; clear hbox hb hg) | (go_at_call 64; go_loud (refine (impl_Extent_64.index (fun x => decide (x.f1 ≥ a1)) 63 #[.pointer (some ⟨gb4, 0, none⟩)] _ c0_2 l0_2 _ ?s1 (enters_of Try.func63 (by kernel_rfl) rfl) ?s2).mono ?_); (case s1 => exact (cB HR0_2.out (zH HB.out))); (case s2 => exact (fun s_ w_ hb_ => impl_Free_placeFor_1.clo s_ a1 gb4 w_ (yB (g := gb4) (o := (.cells #[.int .i64 a1] 3 (0, 0))) (yH BKgb4.out) hb_))); rw [HQ.out]; rintro e w_8 ⟨rfl, hb⟩; have n_BKgb1 := aM (yB (g := gb1) (o := (.cells #[.int .i64 a0_0, .slice A0_1 l0_1.length c0_1, .slice A0_2 l0_2.length c0_2] 24 (0, 0))) (yH BKgb1.out) hb); have n_BKgb4 := aM (yB (g := gb4) (o := (.cells #[.int .i64 a1] 3 (0, 0))) (yH BKgb4.out) hb); have n_HB := aM (zT (zH HB.out) hb); clear BKgb1 BKgb4 HB; have BKgb1 := n_BKgb1; have BKgb4 := n_BKgb4; have HB := n_HB; clear n_BKgb1 n_BKgb4 n_HB; clear hb; have hcq9_0 : w_8.cell? ⟨gb1, 0, none⟩ = some (.int .i64 a0_0) := yc BKgb1.out 0; have hfq9_0 := yZ BKgb1.out 0; have hcq9_1 : w_8.cell? ⟨gb1, 1, none⟩ = some (.slice A0_1 l0_1.length c0_1) := yc BKgb1.out 1; have hfq9_1 := yZ BKgb1.out 1; have hcq9_2 : w_8.cell? ⟨gb1, 2, none⟩ = some (.slice A0_2 l0_2.length c0_2) := yc BKgb1.out 2; have hfq9_2 := yZ BKgb1.out 2; have hcq10_0 : w_8.cell? ⟨gb4, 0, none⟩ = some (.int .i64 a1) := yc BKgb4.out 0; have hfq10_0 := yZ BKgb4.out 0; obtain ⟨ad1, e1, hx1_0, hx1_1⟩ := at_T49 (cB HR0_2.out HB.out) q P1.out Q1.out; cases e1; have p1 := eq_true P1.out; have q1 := eq_true Q1.out))
     go_ret2
     exact ⟨rfl, zH HB.out⟩
   ·have hl : impl_Free_placeFor.list a2 l0_1 l0_2 = l0_1 := by unfold impl_Free_placeFor.list; rw [if_neg c3_, if_neg c2_]
    rw [hl] at h
    clear hl
    have e30 : (a2 == 3) = false := by exact beq_eq_false_iff_ne.mpr c3_
    have e31 : decide (a2 = 3) = false := decide_eq_false c3_
    have e20 : (a2 == 2) = false := by exact beq_eq_false_iff_ne.mpr c2_
    have e21 : decide (a2 = 2) = false := decide_eq_false c2_
    clear c3_ c2_
    unfold impl_Free_placeFor.pick at h
    obtain ⟨q, hq⟩ : ∃ q : Int, firstLong (fun x => decide (x.f1 ≥ a1)) l0_1 0 = q := ⟨_, rfl⟩
    rw [hq] at h
    have HQ := aM hq
    clear hq
    by_cases h1 : q < 0
    ·rw [if_pos h1] at h
     simp only [Option.some.injEq, Prod.mk.injEq] at h
     obtain ⟨rfl, rfl⟩ := h
     have d1 : decide (q < 0) = true := decide_eq_true h1
     clear h1
     go_enter Try.func56, Try.ntmps56
     go_wp2_with (first | ((with_reducible refine gate_dst (N := 4) rfl ?_); refine box_event ?hg (N := 4) ?hd (cs := #[.int .i64 a0_0, .slice A0_1 l0_1.length c0_1, .slice A0_2 l0_2.length c0_2]) (t := 24) ?hr ?_; (case hd => rfl); (case hg => rfl); (case hr => first | (go_simp; done) | (go_simp; rfl)); intro gb1 hg w_2 hbox hb; have n_HB := aM (zT (zH HB.out) hb); have n_GE := aM ((by rw [hg]; exact (zZ (zH HB.out))) : w.heap.size ≤ gb1); clear HB; have HB := n_HB; clear n_HB; have BKgb1 := aM hbox; have GEgb1 := n_GE; clear n_GE; have hcq3_0 : w_2.cell? ⟨gb1, 0, none⟩ = some (.int .i64 a0_0) := yc BKgb1.out 0; have hfq3_0 := yZ BKgb1.out 0; have hcq3_1 : w_2.cell? ⟨gb1, 1, none⟩ = some (.slice A0_1 l0_1.length c0_1) := yc BKgb1.out 1; have hfq3_1 := yZ BKgb1.out 1; have hcq3_2 : w_2.cell? ⟨gb1, 2, none⟩ = some (.slice A0_2 l0_2.length c0_2) := yc BKgb1.out 2; have hfq3_2 := yZ BKgb1.out 2; clear hbox hb hg) | ((with_reducible refine gate_dst (N := 5) rfl ?_); refine box_event ?hg (N := 5) ?hd (cs := #[.int .i64 a1]) (t := 3) ?hr ?_; (case hd => rfl); (case hg => rfl); (case hr => first | (go_simp; done) | (go_simp; rfl)); intro gb4 hg w_5 hbox hb; have n_BKgb1 := aM (yB (g := gb1) (o := (.cells #[.int .i64 a0_0, .slice A0_1 l0_1.length c0_1, .slice A0_2 l0_2.length c0_2] 24 (0, 0))) (yH BKgb1.out) hb); have n_HB := aM (zT (zH HB.out) hb); have n_GE := aM ((by rw [hg]; exact (zZ (zH HB.out))) : w.heap.size ≤ gb4); have n_NAgb1 := aM ((by rw [hg]; exact Nat.ne_of_lt (blk_lt (g := gb1) (o := (.cells #[.int .i64 a0_0, .slice A0_1 l0_1.length c0_1, .slice A0_2 l0_2.length c0_2] 24 (0, 0))) (yH BKgb1.out))) : gb1 ≠ gb4); clear BKgb1 HB; have BKgb1 := n_BKgb1; have HB := n_HB; clear n_BKgb1 n_HB; have BKgb4 := aM hbox; have GEgb4 := n_GE; clear n_GE; have hnegb1_gb4 := n_NAgb1.out; have hnfgb1_gb4 : gb4 ≠ gb1 := fun h => n_NAgb1.out h.symm; clear n_NAgb1; have hcq6_0 : w_5.cell? ⟨gb1, 0, none⟩ = some (.int .i64 a0_0) := yc BKgb1.out 0; have hfq6_0 := yZ BKgb1.out 0; have hcq6_1 : w_5.cell? ⟨gb1, 1, none⟩ = some (.slice A0_1 l0_1.length c0_1) := yc BKgb1.out 1; have hfq6_1 := yZ BKgb1.out 1; have hcq6_2 : w_5.cell? ⟨gb1, 2, none⟩ = some (.slice A0_2 l0_2.length c0_2) := yc BKgb1.out 2; have hfq6_2 := yZ BKgb1.out 2; have hcq7_0 : w_5.cell? ⟨gb4, 0, none⟩ = some (.int .i64 a1) := yc BKgb4.out 0; have hfq7_0 := yZ BKgb4.out 0; clear hbox hb hg) | (go_at_call 64; go_loud (refine (impl_Extent_64.index (fun x => decide (x.f1 ≥ a1)) 63 #[.pointer (some ⟨gb4, 0, none⟩)] _ c0_1 l0_1 _ ?s1 (enters_of Try.func63 (by kernel_rfl) rfl) ?s2).mono ?_); (case s1 => exact (cB HR0_1.out (zH HB.out))); (case s2 => exact (fun s_ w_ hb_ => impl_Free_placeFor_1.clo s_ a1 gb4 w_ (yB (g := gb4) (o := (.cells #[.int .i64 a1] 3 (0, 0))) (yH BKgb4.out) hb_))); rw [HQ.out]; rintro e w_8 ⟨rfl, hb⟩; have n_BKgb1 := aM (yB (g := gb1) (o := (.cells #[.int .i64 a0_0, .slice A0_1 l0_1.length c0_1, .slice A0_2 l0_2.length c0_2] 24 (0, 0))) (yH BKgb1.out) hb); have n_BKgb4 := aM (yB (g := gb4) (o := (.cells #[.int .i64 a1] 3 (0, 0))) (yH BKgb4.out) hb); have n_HB := aM (zT (zH HB.out) hb); clear BKgb1 BKgb4 HB; have BKgb1 := n_BKgb1; have BKgb4 := n_BKgb4; have HB := n_HB; clear n_BKgb1 n_BKgb4 n_HB; clear hb; have hcq9_0 : w_8.cell? ⟨gb1, 0, none⟩ = some (.int .i64 a0_0) := yc BKgb1.out 0; have hfq9_0 := yZ BKgb1.out 0; have hcq9_1 : w_8.cell? ⟨gb1, 1, none⟩ = some (.slice A0_1 l0_1.length c0_1) := yc BKgb1.out 1; have hfq9_1 := yZ BKgb1.out 1; have hcq9_2 : w_8.cell? ⟨gb1, 2, none⟩ = some (.slice A0_2 l0_2.length c0_2) := yc BKgb1.out 2; have hfq9_2 := yZ BKgb1.out 2; have hcq10_0 : w_8.cell? ⟨gb4, 0, none⟩ = some (.int .i64 a1) := yc BKgb4.out 0; have hfq10_0 := yZ BKgb4.out 0))
     go_ret2
     exact ⟨rfl, zH HB.out⟩
    ·rw [if_neg h1] at h
     by_cases h2 : q < (l0_1.length : Int)
     case neg => rw [if_neg h2] at h; cases h
     rw [if_pos h2] at h
     simp only [Option.some.injEq, Prod.mk.injEq] at h
     obtain ⟨rfl, rfl⟩ := h
     have d1 : decide (q < 0) = false := decide_eq_false h1
     have p1 : 0 ≤ q := by omega
     have P1 := aM p1
     have Q1 := aM h2
     clear h1 h2 p1
     go_enter Try.func56, Try.ntmps56
     go_wp2_with (first | ((with_reducible refine gate_dst (N := 4) rfl ?_); refine box_event ?hg (N := 4) ?hd (cs := #[.int .i64 a0_0, .slice A0_1 l0_1.length c0_1, .slice A0_2 l0_2.length c0_2]) (t := 24) ?hr ?_; (case hd => rfl); (case hg => rfl); (case hr => first | (go_simp; done) | (go_simp; rfl)); intro gb1 hg w_2 hbox hb; have n_HB := aM (zT (zH HB.out) hb); have n_GE := aM ((by rw [hg]; exact (zZ (zH HB.out))) : w.heap.size ≤ gb1); clear HB; have HB := n_HB; clear n_HB; have BKgb1 := aM hbox; have GEgb1 := n_GE; clear n_GE; have hcq3_0 : w_2.cell? ⟨gb1, 0, none⟩ = some (.int .i64 a0_0) := yc BKgb1.out 0; have hfq3_0 := yZ BKgb1.out 0; have hcq3_1 : w_2.cell? ⟨gb1, 1, none⟩ = some (.slice A0_1 l0_1.length c0_1) := yc BKgb1.out 1; have hfq3_1 := yZ BKgb1.out 1; have hcq3_2 : w_2.cell? ⟨gb1, 2, none⟩ = some (.slice A0_2 l0_2.length c0_2) := yc BKgb1.out 2; have hfq3_2 := yZ BKgb1.out 2; clear hbox hb hg) | ((with_reducible refine gate_dst (N := 5) rfl ?_); refine box_event ?hg (N := 5) ?hd (cs := #[.int .i64 a1]) (t := 3) ?hr ?_; (case hd => rfl); (case hg => rfl); (case hr => first | (go_simp; done) | (go_simp; rfl)); intro gb4 hg w_5 hbox hb; have n_BKgb1 := aM (yB (g := gb1) (o := (.cells #[.int .i64 a0_0, .slice A0_1 l0_1.length c0_1, .slice A0_2 l0_2.length c0_2] 24 (0, 0))) (yH BKgb1.out) hb); have n_HB := aM (zT (zH HB.out) hb); have n_GE := aM ((by rw [hg]; exact (zZ (zH HB.out))) : w.heap.size ≤ gb4); have n_NAgb1 := aM ((by rw [hg]; exact Nat.ne_of_lt (blk_lt (g := gb1) (o := (.cells #[.int .i64 a0_0, .slice A0_1 l0_1.length c0_1, .slice A0_2 l0_2.length c0_2] 24 (0, 0))) (yH BKgb1.out))) : gb1 ≠ gb4); clear BKgb1 HB; have BKgb1 := n_BKgb1; have HB := n_HB; clear n_BKgb1 n_HB; have BKgb4 := aM hbox; have GEgb4 := n_GE; clear n_GE; have hnegb1_gb4 := n_NAgb1.out; have hnfgb1_gb4 : gb4 ≠ gb1 := fun h => n_NAgb1.out h.symm; clear n_NAgb1; have hcq6_0 : w_5.cell? ⟨gb1, 0, none⟩ = some (.int .i64 a0_0) := yc BKgb1.out 0; have hfq6_0 := yZ BKgb1.out 0; have hcq6_1 : w_5.cell? ⟨gb1, 1, none⟩ = some (.slice A0_1 l0_1.length c0_1) := yc BKgb1.out 1; have hfq6_1 := yZ BKgb1.out 1; have hcq6_2 : w_5.cell? ⟨gb1, 2, none⟩ = some (.slice A0_2 l0_2.length c0_2) := yc BKgb1.out 2; have hfq6_2 := yZ BKgb1.out 2; have hcq7_0 : w_5.cell? ⟨gb4, 0, none⟩ = some (.int .i64 a1) := yc BKgb4.out 0; have hfq7_0 := yZ BKgb4.out 0; clear hbox hb hg) | (go_at_call 64; go_loud (refine (impl_Extent_64.index (fun x => decide (x.f1 ≥ a1)) 63 #[.pointer (some ⟨gb4, 0, none⟩)] _ c0_1 l0_1 _ ?s1 (enters_of Try.func63 (by kernel_rfl) rfl) ?s2).mono ?_); (case s1 => exact (cB HR0_1.out (zH HB.out))); (case s2 => exact (fun s_ w_ hb_ => impl_Free_placeFor_1.clo s_ a1 gb4 w_ (yB (g := gb4) (o := (.cells #[.int .i64 a1] 3 (0, 0))) (yH BKgb4.out) hb_))); rw [HQ.out]; rintro e w_8 ⟨rfl, hb⟩; have n_BKgb1 := aM (yB (g := gb1) (o := (.cells #[.int .i64 a0_0, .slice A0_1 l0_1.length c0_1, .slice A0_2 l0_2.length c0_2] 24 (0, 0))) (yH BKgb1.out) hb); have n_BKgb4 := aM (yB (g := gb4) (o := (.cells #[.int .i64 a1] 3 (0, 0))) (yH BKgb4.out) hb); have n_HB := aM (zT (zH HB.out) hb); clear BKgb1 BKgb4 HB; have BKgb1 := n_BKgb1; have BKgb4 := n_BKgb4; have HB := n_HB; clear n_BKgb1 n_BKgb4 n_HB; clear hb; have hcq9_0 : w_8.cell? ⟨gb1, 0, none⟩ = some (.int .i64 a0_0) := yc BKgb1.out 0; have hfq9_0 := yZ BKgb1.out 0; have hcq9_1 : w_8.cell? ⟨gb1, 1, none⟩ = some (.slice A0_1 l0_1.length c0_1) := yc BKgb1.out 1; have hfq9_1 := yZ BKgb1.out 1; have hcq9_2 : w_8.cell? ⟨gb1, 2, none⟩ = some (.slice A0_2 l0_2.length c0_2) := yc BKgb1.out 2; have hfq9_2 := yZ BKgb1.out 2; have hcq10_0 : w_8.cell? ⟨gb4, 0, none⟩ = some (.int .i64 a1) := yc BKgb4.out 0; have hfq10_0 := yZ BKgb4.out 0; obtain ⟨ad1, e1, hx1_0, hx1_1⟩ := at_T49 (cB HR0_1.out HB.out) q P1.out Q1.out; cases e1; have p1 := eq_true P1.out; have q1 := eq_true Q1.out))
     go_ret2
     exact ⟨rfl, zH HB.out⟩


/-! ### impl_TakeRoom: function 35 -/
def impl_TakeRoom.j0 : Nat → Int → Int → Int → Bool → Int → List (S49) → List (S49) → Option (Int × (List (S49)) × (List (S49)) × Int × Bool)
 | 0, _, _, _, _, _, _, _ => none
 | k + 1, x1, x2, x3, x36, x338000, x338001, x338002 => if x36 = true then (some (0, ([] : List (S49)), ([] : List (S49)), 0, false)) else ((impl_Free_placeFor.f x338000 x338001 x338002 x1 x2 x3).bind fun bt343 => (if bt343.2 = true then ((impl_Free_changed.f k x338000 x338001 x338002 bt343.1 x1 false).bind fun bt345 => (if bt345.2.2.2 = true then (some (bt345.1, bt345.2.1, bt345.2.2.1, bt343.1, true)) else (some (0, ([] : List (S49)), ([] : List (S49)), 0, false)))) else (some (0, ([] : List (S49)), ([] : List (S49)), 0, false))))
def impl_TakeRoom.f (k : Nat) (a0_0 : Int) (l0_1 : List (S49)) (l0_2 : List (S49)) (a1 : Int) (a2 : Int) (a3 : Int) : Option (Int × (List (S49)) × (List (S49)) × Int × Bool) := (impl_GoodFree.f k a0_0 l0_1 l0_2).bind fun t339 => (if t339 = true then ((impl_within.f a1 1 a0_0).bind fun t340 => (if t340 = true then ((impl_within.f a2 1 4).bind fun t341 => (if t341 = true then ((impl_within.f a3 0 (wrap64 (a0_0 - 1))).bind fun t342 => (impl_TakeRoom.j0 k a1 a2 a3 (!t342) a0_0 l0_1 l0_2)) else (impl_TakeRoom.j0 k a1 a2 a3 true a0_0 l0_1 l0_2))) else (impl_TakeRoom.j0 k a1 a2 a3 true a0_0 l0_1 l0_2))) else (impl_TakeRoom.j0 k a1 a2 a3 true a0_0 l0_1 l0_2))
theorem impl_TakeRoom.mono_l : ∀ k, (∀ y0 y1 y2 y3 y4 y5 y6, LeO (impl_TakeRoom.j0 k y0 y1 y2 y3 y4 y5 y6) (impl_TakeRoom.j0 (k + 1) y0 y1 y2 y3 y4 y5 y6))
 | 0 => fun _ _ _ _ _ _ _ r h => by change none = some r at h; cases h
 | k + 1 => by
  have ih0 := impl_TakeRoom.mono_l k
  ·intro y0 y1 y2 y3 y4 y5 y6
   unfold impl_TakeRoom.j0
   repeat' first
   | (with_reducible exact ih0 _ _ _ _ _ _ _)
   | (with_reducible exact impl_Free_changed.mono _ _ _ _ _ _ _)
   | (with_reducible exact impl_GoodFree.mono _ _ _ _)
   | (with_reducible exact LeO.refl _)
   | (with_reducible exact LeO.none _)
   | (with_reducible refine LeO.ite ?_ ?_)
   | (with_reducible refine LeO.bind ?_ (fun _ => ?_))
   | exact ih0 _ _ _ _ _ _ _
   | exact impl_Free_changed.mono _ _ _ _ _ _ _
   | exact impl_GoodFree.mono _ _ _ _
   | exact LeO.none _
   | refine LeO.ite ?_ ?_
   | refine LeO.bind ?_ (fun _ => ?_)
theorem impl_TakeRoom.mono : ∀ a0 a1 a2 a3 a4 a5 k, LeO (impl_TakeRoom.f k a0 a1 a2 a3 a4 a5) (impl_TakeRoom.f (k + 1) a0 a1 a2 a3 a4 a5) := by
 intro a0 a1 a2 a3 a4 a5 k
 have ih0 := impl_TakeRoom.mono_l k
 unfold impl_TakeRoom.f
 repeat' first
   | (with_reducible exact ih0 _ _ _ _ _ _ _)
   | (with_reducible exact impl_Free_changed.mono _ _ _ _ _ _ _)
   | (with_reducible exact impl_GoodFree.mono _ _ _ _)
   | (with_reducible exact LeO.refl _)
   | (with_reducible exact LeO.none _)
   | (with_reducible refine LeO.ite ?_ ?_)
   | (with_reducible refine LeO.bind ?_ (fun _ => ?_))
   | exact ih0 _ _ _ _ _ _ _
   | exact impl_Free_changed.mono _ _ _ _ _ _ _
   | exact impl_GoodFree.mono _ _ _ _
   | exact LeO.none _
   | refine LeO.ite ?_ ?_
   | refine LeO.bind ?_ (fun _ => ?_)
set_option maxHeartbeats 8000000 in
set_option maxRecDepth 100000 in
theorem impl_TakeRoom.calls (k : Nat) (a0_0 : Int) (A0_1 : Option Addr) (c0_1 : Nat) (l0_1 : List (S49)) (A0_2 : Option Addr) (c0_2 : Nat) (l0_2 : List (S49)) (a1 : Int) (a2 : Int) (a3 : Int) (r1 : Int) (r2 : List (S49)) (r3 : List (S49)) (r4 : Int) (r5 : Bool) (w : World) (hr0_1 : Kd.C k49 w A0_1 l0_1.length l0_1) (hc0_1 : l0_1.length ≤ c0_1) (hr0_2 : Kd.C k49 w A0_2 l0_2.length l0_2) (hc0_2 : l0_2.length ≤ c0_2) (h : impl_TakeRoom.f k a0_0 l0_1 l0_2 a1 a2 a3 = some (r1, r2, r3, r4, r5)) :
  Calls Try.prog 35 #[.agg #[.int .i64 a0_0, .slice A0_1 l0_1.length c0_1, .slice A0_2 l0_2.length c0_2], .int .i64 a1, .int .i64 a2, .int .i64 a3] w fun e w' => ∃ v1_ v2_ : Value, e = .returned (.tuple #[.agg #[.int .i64 r1, v1_, v2_], .int .i64 r4, .bool r5]) ∧ Kd.R k49 49 w' w.heap.size (fun k_ => some k_ ≠ (v2_ : Value).ownBlock) v1_ r2 ∧ Kd.R k49 49 w' w.heap.size (fun k_ => some k_ ≠ (v1_ : Value).ownBlock) v2_ r3 ∧ Below w.heap.size w w' := by
 have hu24 := Try.underlying24
 have hu49 := Try.underlying49
 have HR0_1 := aM hr0_1
 have HC0_1 := aM hc0_1
 clear hr0_1 hc0_1
 have HR0_2 := aM hr0_2
 have HC0_2 := aM hc0_2
 clear hr0_2 hc0_2
 have HB := aM (Below.refl w.heap.size w)
 have H : ((impl_GoodFree.f k a0_0 l0_1 l0_2).bind fun t339 => (if t339 = true then ((impl_within.f a1 1 a0_0).bind fun t340 => (if t340 = true then ((impl_within.f a2 1 4).bind fun t341 => (if t341 = true then ((impl_within.f a3 0 (wrap64 (a0_0 - 1))).bind fun t342 => (impl_TakeRoom.j0 k a1 a2 a3 (!t342) a0_0 l0_1 l0_2)) else (impl_TakeRoom.j0 k a1 a2 a3 true a0_0 l0_1 l0_2))) else (impl_TakeRoom.j0 k a1 a2 a3 true a0_0 l0_1 l0_2))) else (impl_TakeRoom.j0 k a1 a2 a3 true a0_0 l0_1 l0_2))) = some (r1, r2, r3, r4, r5) := h
 clear h
 have HC5 := aM H
 clear H
 go_enter Try.func35, Try.ntmps35
 go_upto_region 1 with (first | ((with_reducible refine gate_dst (N := 4) rfl ?_); refine box_event ?hg (N := 4) ?hd (cs := #[.int .i64 a0_0, .slice A0_1 l0_1.length c0_1, .slice A0_2 l0_2.length c0_2]) (t := 24) ?hr ?_; (case hd => rfl); (case hg => rfl); (case hr => first | (go_simp; done) | (go_simp; rfl)); intro gb337 hg w6 hbox hb; have BK337 := aM (hbox); have GW337 := aM ((by rw [hg]; exact (zZ (zH HB.out)) : w.heap.size ≤ gb337)); have GE337 := aM ((by rw [hg]; exact (zZ (zH HB.out)) : w.heap.size ≤ gb337)); replace HB := aM (zT (zH HB.out) hb); clear hb hbox hg) | ((with_reducible refine gate_dst (N := 8) rfl ?_); refine box_event ?hg (N := 8) ?hd (cs := #[.int .i64 0, .slice none 0 0, .slice none 0 0]) (t := 24) ?hr ?_; (case hd => rfl); (case hg => rfl); (case hr => first | (go_simp; done) | (go_simp; rfl)); intro gb338 hg w7 hbox hb; have BK338 := aM (hbox); have GW338 := aM ((by rw [hg]; exact (zZ (zH HB.out)) : w.heap.size ≤ gb338)); have GE338 := aM ((by rw [hg]; exact (zZ (zH HB.out)) : w.heap.size ≤ gb338)); replace HB := aM (zT (zH HB.out) hb); have NB337_338 := nL BK337.out hg; have NB338_337 := nR BK337.out hg; replace BK337 := yK BK337.out hb; clear hb hbox hg))
 (try simp only [Act.put, qA, qB, qC])
 go_cut [36] (fun v36 wc => ∃ (kq : Nat) (x36_4 : Bool), v36 = .bool x36_4 ∧ Aside0 (impl_TakeRoom.j0 kq a1 a2 a3 x36_4 a0_0 l0_1 l0_2 = some (r1, r2, r3, r4, r5)) ∧ Aside0 (kq ≤ k) ∧ Aside0 (wc.heap[gb337]? = some (.cells #[.int .i64 a0_0, (.slice A0_1 l0_1.length c0_1), (.slice A0_2 l0_2.length c0_2)] 24 (0, 0))) ∧ Aside0 (wc.heap[gb338]? = some (.cells #[.int .i64 0, (.slice none 0 0), (.slice none 0 0)] 24 (0, 0))) ∧ Aside0 (Below w.heap.size w wc))
 case first =>
  have H := HC5.out
  clear HC5
  replace H := Option.bind_eq_some_iff.mp H
  obtain ⟨t339, A80, H⟩ := H
  replace H : (if t339 = true then ((impl_within.f a1 1 a0_0).bind fun t340 => (if t340 = true then ((impl_within.f a2 1 4).bind fun t341 => (if t341 = true then ((impl_within.f a3 0 (wrap64 (a0_0 - 1))).bind fun t342 => (impl_TakeRoom.j0 k a1 a2 a3 (!t342) a0_0 l0_1 l0_2)) else (impl_TakeRoom.j0 k a1 a2 a3 true a0_0 l0_1 l0_2))) else (impl_TakeRoom.j0 k a1 a2 a3 true a0_0 l0_1 l0_2))) else (impl_TakeRoom.j0 k a1 a2 a3 true a0_0 l0_1 l0_2)) = some (r1, r2, r3, r4, r5) := H
  have A8 := aM A80
  clear A80
  by_cases c9 : t339 = true
  ·subst c9
   have H1 : ((impl_within.f a1 1 a0_0).bind fun t340 => (if t340 = true then ((impl_within.f a2 1 4).bind fun t341 => (if t341 = true then ((impl_within.f a3 0 (wrap64 (a0_0 - 1))).bind fun t342 => (impl_TakeRoom.j0 k a1 a2 a3 (!t342) a0_0 l0_1 l0_2)) else (impl_TakeRoom.j0 k a1 a2 a3 true a0_0 l0_1 l0_2))) else (impl_TakeRoom.j0 k a1 a2 a3 true a0_0 l0_1 l0_2))) = some (r1, r2, r3, r4, r5) := by rw [if_pos rfl] at H; exact H
   clear H
   have H := H1
   clear H1
   replace H := Option.bind_eq_some_iff.mp H
   obtain ⟨t340, A100, H⟩ := H
   replace H : (if t340 = true then ((impl_within.f a2 1 4).bind fun t341 => (if t341 = true then ((impl_within.f a3 0 (wrap64 (a0_0 - 1))).bind fun t342 => (impl_TakeRoom.j0 k a1 a2 a3 (!t342) a0_0 l0_1 l0_2)) else (impl_TakeRoom.j0 k a1 a2 a3 true a0_0 l0_1 l0_2))) else (impl_TakeRoom.j0 k a1 a2 a3 true a0_0 l0_1 l0_2)) = some (r1, r2, r3, r4, r5) := H
   have A10 := aM A100
   clear A100
   by_cases c11 : t340 = true
   ·subst c11
    have H1 : ((impl_within.f a2 1 4).bind fun t341 => (if t341 = true then ((impl_within.f a3 0 (wrap64 (a0_0 - 1))).bind fun t342 => (impl_TakeRoom.j0 k a1 a2 a3 (!t342) a0_0 l0_1 l0_2)) else (impl_TakeRoom.j0 k a1 a2 a3 true a0_0 l0_1 l0_2))) = some (r1, r2, r3, r4, r5) := by rw [if_pos rfl] at H; exact H
    clear H
    have H := H1
    clear H1
    replace H := Option.bind_eq_some_iff.mp H
    obtain ⟨t341, A120, H⟩ := H
    replace H : (if t341 = true then ((impl_within.f a3 0 (wrap64 (a0_0 - 1))).bind fun t342 => (impl_TakeRoom.j0 k a1 a2 a3 (!t342) a0_0 l0_1 l0_2)) else (impl_TakeRoom.j0 k a1 a2 a3 true a0_0 l0_1 l0_2)) = some (r1, r2, r3, r4, r5) := H
    have A12 := aM A120
    clear A120
    by_cases c13 : t341 = true
    ·subst c13
     have H1 : ((impl_within.f a3 0 (wrap64 (a0_0 - 1))).bind fun t342 => (impl_TakeRoom.j0 k a1 a2 a3 (!t342) a0_0 l0_1 l0_2)) = some (r1, r2, r3, r4, r5) := by rw [if_pos rfl] at H; exact H
     clear H
     have H := H1
     clear H1
     replace H := Option.bind_eq_some_iff.mp H
     obtain ⟨t342, A140, H⟩ := H
     replace H : (impl_TakeRoom.j0 k a1 a2 a3 (!t342) a0_0 l0_1 l0_2) = some (r1, r2, r3, r4, r5) := H
     have A14 := aM A140
     clear A140
     have H' := aM H
     clear H
     have hnb15 := NB337_338.out
     have hnc15 := NB338_337.out
     have hcz16_0 : w7.cell? ⟨gb337, 0, none⟩ = some (.int .i64 a0_0) := yc BK337.out 0
     have hcz16_1 : w7.cell? ⟨gb337, 1, none⟩ = some (.slice A0_1 l0_1.length c0_1) := yc BK337.out 1
     have hcz16_2 : w7.cell? ⟨gb337, 2, none⟩ = some (.slice A0_2 l0_2.length c0_2) := yc BK337.out 2
     have hfz16_0 := yZ BK337.out 0
     have hfz16_1 := yZ BK337.out 1
     have hfz16_2 := yZ BK337.out 2
     go_wp2_with (first | ((with_reducible refine gate_callee (f := 19) rfl ?_); refine goesL_ (some 15) rfl rfl Try.func19 (by kernel_rfl) rfl #[.agg #[.int .i64 a0_0, .slice A0_1 l0_1.length c0_1, .slice A0_2 l0_2.length c0_2]] rfl (by (try simp only [List.map_toArray, List.map_cons, List.map_nil]); first | done | rfl | (simp only [List.length_drop, List.length_take]; rfl)) ?_; (with_reducible refine (impl_GoodFree.calls k a0_0 _ _ l0_1 _ _ l0_2 true _ ?side1 ?side2 ?side3 ?side4 A8.out).mono ?_); (case side1 => exact cK HR0_1.out HB.out); (case side2 => exact HC0_1.out); (case side3 => exact cK HR0_2.out HB.out); (case side4 => exact HC0_2.out); rintro e w17 ⟨rfl, hb⟩; refine ⟨_, rfl, ?_⟩; replace BK337 := yK BK337.out hb; replace BK338 := yK BK338.out hb; replace HB := aM (zT (zH HB.out) hb); (try clear hb); have hcz18_0 : w17.cell? ⟨gb337, 0, none⟩ = some (.int .i64 a0_0) := yc BK337.out 0; have hcz18_1 : w17.cell? ⟨gb337, 1, none⟩ = some (.slice A0_1 l0_1.length c0_1) := yc BK337.out 1; have hcz18_2 : w17.cell? ⟨gb337, 2, none⟩ = some (.slice A0_2 l0_2.length c0_2) := yc BK337.out 2; have hfz18_0 := yZ BK337.out 0; have hfz18_1 := yZ BK337.out 1; have hfz18_2 := yZ BK337.out 2) | (go_at_call 38; (with_reducible refine (impl_within.calls a1 1 a0_0 true _ A10.out).mono ?_); rintro e w' ⟨rfl, ⟨nd, rfl⟩⟩) | (go_at_call 38; (with_reducible refine (impl_within.calls a2 1 4 true _ A12.out).mono ?_); rintro e w' ⟨rfl, ⟨nd, rfl⟩⟩) | (go_at_call 38; (with_reducible refine (impl_within.calls a3 0 (wrap64 (a0_0 - 1)) t342 _ A14.out).mono ?_); rintro e w' ⟨rfl, ⟨nd, rfl⟩⟩))
     go_meet
     case rel => exact ⟨_, (!t342), (by first | rfl | (simp; done) | (simp [*]; done)), H', ⟨by first | omega | exact Nat.le_refl _⟩, ⟨yH BK337.out⟩, ⟨yH BK338.out⟩, ⟨zH HB.out⟩⟩
    ·replace c13 := Bool.eq_false_iff.mpr c13
     subst c13
     have H1 : (impl_TakeRoom.j0 k a1 a2 a3 true a0_0 l0_1 l0_2) = some (r1, r2, r3, r4, r5) := by rw [if_neg (show ¬ (false = true) by decide)] at H; exact H
     clear H
     have H := H1
     clear H1
     have H' := aM H
     clear H
     have hnb19 := NB337_338.out
     have hnc19 := NB338_337.out
     have hcz20_0 : w7.cell? ⟨gb337, 0, none⟩ = some (.int .i64 a0_0) := yc BK337.out 0
     have hcz20_1 : w7.cell? ⟨gb337, 1, none⟩ = some (.slice A0_1 l0_1.length c0_1) := yc BK337.out 1
     have hcz20_2 : w7.cell? ⟨gb337, 2, none⟩ = some (.slice A0_2 l0_2.length c0_2) := yc BK337.out 2
     have hfz20_0 := yZ BK337.out 0
     have hfz20_1 := yZ BK337.out 1
     have hfz20_2 := yZ BK337.out 2
     go_wp2_with (first | ((with_reducible refine gate_callee (f := 19) rfl ?_); refine goesL_ (some 15) rfl rfl Try.func19 (by kernel_rfl) rfl #[.agg #[.int .i64 a0_0, .slice A0_1 l0_1.length c0_1, .slice A0_2 l0_2.length c0_2]] rfl (by (try simp only [List.map_toArray, List.map_cons, List.map_nil]); first | done | rfl | (simp only [List.length_drop, List.length_take]; rfl)) ?_; (with_reducible refine (impl_GoodFree.calls k a0_0 _ _ l0_1 _ _ l0_2 true _ ?side1 ?side2 ?side3 ?side4 A8.out).mono ?_); (case side1 => exact cK HR0_1.out HB.out); (case side2 => exact HC0_1.out); (case side3 => exact cK HR0_2.out HB.out); (case side4 => exact HC0_2.out); rintro e w21 ⟨rfl, hb⟩; refine ⟨_, rfl, ?_⟩; replace BK337 := yK BK337.out hb; replace BK338 := yK BK338.out hb; replace HB := aM (zT (zH HB.out) hb); (try clear hb); have hcz22_0 : w21.cell? ⟨gb337, 0, none⟩ = some (.int .i64 a0_0) := yc BK337.out 0; have hcz22_1 : w21.cell? ⟨gb337, 1, none⟩ = some (.slice A0_1 l0_1.length c0_1) := yc BK337.out 1; have hcz22_2 : w21.cell? ⟨gb337, 2, none⟩ = some (.slice A0_2 l0_2.length c0_2) := yc BK337.out 2; have hfz22_0 := yZ BK337.out 0; have hfz22_1 := yZ BK337.out 1; have hfz22_2 := yZ BK337.out 2) | (go_at_call 38; (with_reducible refine (impl_within.calls a1 1 a0_0 true _ A10.out).mono ?_); rintro e w' ⟨rfl, ⟨nd, rfl⟩⟩) | (go_at_call 38; (with_reducible refine (impl_within.calls a2 1 4 false _ A12.out).mono ?_); rintro e w' ⟨rfl, ⟨nd, rfl⟩⟩))
     go_meet
     case rel => exact ⟨_, (true), (by first | rfl | (simp; done) | (simp [*]; done)), H', ⟨by first | omega | exact Nat.le_refl _⟩, ⟨yH BK337.out⟩, ⟨yH BK338.out⟩, ⟨zH HB.out⟩⟩
   ·replace c11 := Bool.eq_false_iff.mpr c11
    subst c11
    have H1 : (impl_TakeRoom.j0 k a1 a2 a3 true a0_0 l0_1 l0_2) = some (r1, r2, r3, r4, r5) := by rw [if_neg (show ¬ (false = true) by decide)] at H; exact H
    clear H
    have H := H1
    clear H1
    have H' := aM H
    clear H
    have hnb23 := NB337_338.out
    have hnc23 := NB338_337.out
    have hcz24_0 : w7.cell? ⟨gb337, 0, none⟩ = some (.int .i64 a0_0) := yc BK337.out 0
    have hcz24_1 : w7.cell? ⟨gb337, 1, none⟩ = some (.slice A0_1 l0_1.length c0_1) := yc BK337.out 1
    have hcz24_2 : w7.cell? ⟨gb337, 2, none⟩ = some (.slice A0_2 l0_2.length c0_2) := yc BK337.out 2
    have hfz24_0 := yZ BK337.out 0
    have hfz24_1 := yZ BK337.out 1
    have hfz24_2 := yZ BK337.out 2
    go_wp2_with (first | ((with_reducible refine gate_callee (f := 19) rfl ?_); refine goesL_ (some 15) rfl rfl Try.func19 (by kernel_rfl) rfl #[.agg #[.int .i64 a0_0, .slice A0_1 l0_1.length c0_1, .slice A0_2 l0_2.length c0_2]] rfl (by (try simp only [List.map_toArray, List.map_cons, List.map_nil]); first | done | rfl | (simp only [List.length_drop, List.length_take]; rfl)) ?_; (with_reducible refine (impl_GoodFree.calls k a0_0 _ _ l0_1 _ _ l0_2 true _ ?side1 ?side2 ?side3 ?side4 A8.out).mono ?_); (case side1 => exact cK HR0_1.out HB.out); (case side2 => exact HC0_1.out); (case side3 => exact cK HR0_2.out HB.out); (case side4 => exact HC0_2.out); rintro e w25 ⟨rfl, hb⟩; refine ⟨_, rfl, ?_⟩; replace BK337 := yK BK337.out hb; replace BK338 := yK BK338.out hb; replace HB := aM (zT (zH HB.out) hb); (try clear hb); have hcz26_0 : w25.cell? ⟨gb337, 0, none⟩ = some (.int .i64 a0_0) := yc BK337.out 0; have hcz26_1 : w25.cell? ⟨gb337, 1, none⟩ = some (.slice A0_1 l0_1.length c0_1) := yc BK337.out 1; have hcz26_2 : w25.cell? ⟨gb337, 2, none⟩ = some (.slice A0_2 l0_2.length c0_2) := yc BK337.out 2; have hfz26_0 := yZ BK337.out 0; have hfz26_1 := yZ BK337.out 1; have hfz26_2 := yZ BK337.out 2) | (go_at_call 38; (with_reducible refine (impl_within.calls a1 1 a0_0 false _ A10.out).mono ?_); rintro e w' ⟨rfl, ⟨nd, rfl⟩⟩))
    go_meet
    case rel => exact ⟨_, (true), (by first | rfl | (simp; done) | (simp [*]; done)), H', ⟨by first | omega | exact Nat.le_refl _⟩, ⟨yH BK337.out⟩, ⟨yH BK338.out⟩, ⟨zH HB.out⟩⟩
  ·replace c9 := Bool.eq_false_iff.mpr c9
   subst c9
   have H1 : (impl_TakeRoom.j0 k a1 a2 a3 true a0_0 l0_1 l0_2) = some (r1, r2, r3, r4, r5) := by rw [if_neg (show ¬ (false = true) by decide)] at H; exact H
   clear H
   have H := H1
   clear H1
   have H' := aM H
   clear H
   have hnb27 := NB337_338.out
   have hnc27 := NB338_337.out
   have hcz28_0 : w7.cell? ⟨gb337, 0, none⟩ = some (.int .i64 a0_0) := yc BK337.out 0
   have hcz28_1 : w7.cell? ⟨gb337, 1, none⟩ = some (.slice A0_1 l0_1.length c0_1) := yc BK337.out 1
   have hcz28_2 : w7.cell? ⟨gb337, 2, none⟩ = some (.slice A0_2 l0_2.length c0_2) := yc BK337.out 2
   have hfz28_0 := yZ BK337.out 0
   have hfz28_1 := yZ BK337.out 1
   have hfz28_2 := yZ BK337.out 2
   go_wp2_with (first | ((with_reducible refine gate_callee (f := 19) rfl ?_); refine goesL_ (some 15) rfl rfl Try.func19 (by kernel_rfl) rfl #[.agg #[.int .i64 a0_0, .slice A0_1 l0_1.length c0_1, .slice A0_2 l0_2.length c0_2]] rfl (by (try simp only [List.map_toArray, List.map_cons, List.map_nil]); first | done | rfl | (simp only [List.length_drop, List.length_take]; rfl)) ?_; (with_reducible refine (impl_GoodFree.calls k a0_0 _ _ l0_1 _ _ l0_2 false _ ?side1 ?side2 ?side3 ?side4 A8.out).mono ?_); (case side1 => exact cK HR0_1.out HB.out); (case side2 => exact HC0_1.out); (case side3 => exact cK HR0_2.out HB.out); (case side4 => exact HC0_2.out); rintro e w29 ⟨rfl, hb⟩; refine ⟨_, rfl, ?_⟩; replace BK337 := yK BK337.out hb; replace BK338 := yK BK338.out hb; replace HB := aM (zT (zH HB.out) hb); (try clear hb)))
   go_meet
   case rel => exact ⟨_, (true), (by first | rfl | (simp; done) | (simp [*]; done)), H', ⟨by first | omega | exact Nat.le_refl _⟩, ⟨yH BK337.out⟩, ⟨yH BK338.out⟩, ⟨zH HB.out⟩⟩
 case rest =>
  clear HC5
  (try clear c1); (try clear c2); (try clear p2); (try clear c3); (try clear p6); (try clear c9); (try clear c11); (try clear c13); (try clear c15); (try clear c19); (try clear c23); (try clear c27); (try clear hcz16_0); (try clear hcz16_1); (try clear hcz16_2); (try clear hcz18_0); (try clear hcz18_1); (try clear hcz18_2); (try clear hcz20_0); (try clear hcz20_1); (try clear hcz20_2); (try clear hcz22_0); (try clear hcz22_1); (try clear hcz22_2); (try clear hcz24_0); (try clear hcz24_1); (try clear hcz24_2); (try clear hcz26_0); (try clear hcz26_1); (try clear hcz26_2); (try clear hcz28_0); (try clear hcz28_1); (try clear hcz28_2); (try clear hfz16_0); (try clear hfz16_1); (try clear hfz16_2); (try clear hfz18_0); (try clear hfz18_1); (try clear hfz18_2); (try clear hfz20_0); (try clear hfz20_1); (try clear hfz20_2); (try clear hfz22_0); (try clear hfz22_1); (try clear hfz22_2); (try clear hfz24_0); (try clear hfz24_1); (try clear hfz24_2); (try clear hfz26_0); (try clear hfz26_1); (try clear hfz26_2); (try clear hfz28_0); (try clear hfz28_1); (try clear hfz28_2)
  obtain ⟨kq, x36_4, rfl, HA, HJ4, BK337, BK338, HB⟩ := hcut
  cases kq with
  | zero => exact absurd HA.out (fun h_ => by change none = some _ at h_; cases h_)
  | succ kj4 =>
   have H := HA.out
   clear HA
   simp only [impl_TakeRoom.j0] at H
   by_cases c30 : x36_4 = true
   ·subst c30
    have H1 : (some (0, ([] : List (S49)), ([] : List (S49)), 0, false)) = some (r1, r2, r3, r4, r5) := by rw [if_pos rfl] at H; exact H
    clear H
    have H := H1
    clear H1
    simp only [Option.some.injEq, Prod.mk.injEq] at H
    obtain ⟨rfl, rfl, rfl, rfl, rfl⟩ := H
    have hnb31 := NB338_337.out
    have hnc31 := NB337_338.out
    have hcz32_0 : wc.cell? ⟨gb338, 0, none⟩ = some (.int .i64 0) := yc BK338.out 0
    have hcz32_1 : wc.cell? ⟨gb338, 1, none⟩ = some (.slice none 0 0) := yc BK338.out 1
    have hcz32_2 : wc.cell? ⟨gb338, 2, none⟩ = some (.slice none 0 0) := yc BK338.out 2
    have hfz32_0 := yZ BK338.out 0
    have hfz32_1 := yZ BK338.out 1
    have hfz32_2 := yZ BK338.out 2
    go_wp2
    refine bodyPost_ret (results_ctt rfl _ _ gb338 24 #[.int .i64 0, .slice none 0 0, .slice none 0 0] (0, 0) _ rfl (by (with_reducible repeat (first | refine yN ?_ _ | refine yD ?_ | refine yA ?_ _)); refine yP (cs := #[.int .i64 0, .slice none 0 0, .slice none 0 0]) ?_ 2 _ rfl; (with_reducible repeat (first | refine yN ?_ _ | refine yD ?_ | refine yA ?_ _)); refine yP (cs := #[.int .i64 0, .slice none 0 0, .slice none 0 0]) ?_ 1 _ rfl; (with_reducible repeat (first | refine yN ?_ _ | refine yD ?_ | refine yA ?_ _)); refine yP (cs := #[.int .i64 0, .slice none 0 0, .slice none 0 0]) ?_ 0 _ rfl; (with_reducible repeat (first | refine yN ?_ _ | refine yD ?_ | refine yA ?_ _)); exact BK338.out) Try.underlying24 rfl (by kernel_rfl)) rfl ?_
    exact ⟨_, _, by first | rfl | (simp [errW_none, errW_some] <;> rfl) | (simp [*, errW_none, errW_some] <;> rfl), by first | exact Kd.R_nil _ _ _ _ _ | exact Kd.N_nil _ _ _ _ _ | exact Kd.V_nil _ _ _ _ _ | exact Kd.Q_nil _ _ _ _ _ | exact Kd.S_nil _ _ _ _ _, by first | exact Kd.R_nil _ _ _ _ _ | exact Kd.N_nil _ _ _ _ _ | exact Kd.V_nil _ _ _ _ _ | exact Kd.Q_nil _ _ _ _ _ | exact Kd.S_nil _ _ _ _ _, zH HB.out⟩
   ·replace c30 := Bool.eq_false_iff.mpr c30
    subst c30
    have H1 : ((impl_Free_placeFor.f a0_0 l0_1 l0_2 a1 a2 a3).bind fun bt343 => (if bt343.2 = true then ((impl_Free_changed.f kj4 a0_0 l0_1 l0_2 bt343.1 a1 false).bind fun bt345 => (if bt345.2.2.2 = true then (some (bt345.1, bt345.2.1, bt345.2.2.1, bt343.1, true)) else (some (0, ([] : List (S49)), ([] : List (S49)), 0, false)))) else (some (0, ([] : List (S49)), ([] : List (S49)), 0, false)))) = some (r1, r2, r3, r4, r5) := by rw [if_neg (show ¬ (false = true) by decide)] at H; exact H
    clear H
    have H := H1
    clear H1
    replace H := Option.bind_eq_some_iff.mp H
    obtain ⟨⟨t343, t344⟩, A330, H⟩ := H
    replace H : (if t344 = true then ((impl_Free_changed.f kj4 a0_0 l0_1 l0_2 t343 a1 false).bind fun bt345 => (if bt345.2.2.2 = true then (some (bt345.1, bt345.2.1, bt345.2.2.1, t343, true)) else (some (0, ([] : List (S49)), ([] : List (S49)), 0, false)))) else (some (0, ([] : List (S49)), ([] : List (S49)), 0, false))) = some (r1, r2, r3, r4, r5) := H
    have A33 := aM A330
    clear A330
    by_cases c34 : t344 = true
    ·subst c34
     have H1 : ((impl_Free_changed.f kj4 a0_0 l0_1 l0_2 t343 a1 false).bind fun bt345 => (if bt345.2.2.2 = true then (some (bt345.1, bt345.2.1, bt345.2.2.1, t343, true)) else (some (0, ([] : List (S49)), ([] : List (S49)), 0, false)))) = some (r1, r2, r3, r4, r5) := by rw [if_pos rfl] at H; exact H
     clear H
     have H := H1
     clear H1
     replace H := Option.bind_eq_some_iff.mp H
     obtain ⟨⟨t345, t346, t349, t352⟩, A350, H⟩ := H
     replace H : (if t352 = true then (some (t345, t346, t349, t343, true)) else (some (0, ([] : List (S49)), ([] : List (S49)), 0, false))) = some (r1, r2, r3, r4, r5) := H
     have A35 := aM A350
     clear A350
     by_cases c36 : t352 = true
     ·subst c36
      have H1 : (some (t345, t346, t349, t343, true)) = some (r1, r2, r3, r4, r5) := by rw [if_pos rfl] at H; exact H
      clear H
      have H := H1
      clear H1
      simp only [Option.some.injEq, Prod.mk.injEq] at H
      obtain ⟨rfl, rfl, rfl, rfl, rfl⟩ := H
      have hnb37 := NB337_338.out
      have hnc37 := NB338_337.out
      have hcz38_0 : wc.cell? ⟨gb337, 0, none⟩ = some (.int .i64 a0_0) := yc BK337.out 0
      have hcz38_1 : wc.cell? ⟨gb337, 1, none⟩ = some (.slice A0_1 l0_1.length c0_1) := yc BK337.out 1
      have hcz38_2 : wc.cell? ⟨gb337, 2, none⟩ = some (.slice A0_2 l0_2.length c0_2) := yc BK337.out 2
      have hfz38_0 := yZ BK337.out 0
      have hfz38_1 := yZ BK337.out 1
      have hfz38_2 := yZ BK337.out 2
      go_wp2_with (first | ((with_reducible refine gate_callee (f := 56) rfl ?_); refine goesL_ (some 43) rfl rfl Try.func56 (by kernel_rfl) rfl #[.agg #[.int .i64 a0_0, .slice A0_1 l0_1.length c0_1, .slice A0_2 l0_2.length c0_2], .int .i64 a1, .int .i64 a2, .int .i64 a3] rfl (by (try simp only [List.map_toArray, List.map_cons, List.map_nil]); first | done | rfl | (simp only [List.length_drop, List.length_take]; rfl)) ?_; (with_reducible refine (impl_Free_placeFor.calls a0_0 _ _ l0_1 _ _ l0_2 a1 a2 a3 t343 true _ ?side1 ?side2 ?side3 ?side4 A33.out).mono ?_); (case side1 => exact cK HR0_1.out HB.out); (case side2 => exact HC0_1.out); (case side3 => exact cK HR0_2.out HB.out); (case side4 => exact HC0_2.out); rintro e w39 ⟨rfl, hb⟩; refine ⟨_, rfl, ?_⟩; replace BK337 := yK BK337.out hb; replace BK338 := yK BK338.out hb; replace HB := aM (zT (zH HB.out) hb); (try clear hb); have hcz40_0 : w39.cell? ⟨gb337, 0, none⟩ = some (.int .i64 a0_0) := yc BK337.out 0; have hcz40_1 : w39.cell? ⟨gb337, 1, none⟩ = some (.slice A0_1 l0_1.length c0_1) := yc BK337.out 1; have hcz40_2 : w39.cell? ⟨gb337, 2, none⟩ = some (.slice A0_2 l0_2.length c0_2) := yc BK337.out 2; have hfz40_0 := yZ BK337.out 0; have hfz40_1 := yZ BK337.out 1; have hfz40_2 := yZ BK337.out 2) | ((with_reducible refine gate_callee (f := 53) rfl ?_); refine goesL_ (some 54) rfl rfl Try.func53 (by kernel_rfl) rfl #[.agg #[.int .i64 a0_0, .slice A0_1 l0_1.length c0_1, .slice A0_2 l0_2.length c0_2], .agg #[.int .i64 t343, .int .i64 a1], .bool false] rfl (by (try simp only [List.map_toArray, List.map_cons, List.map_nil]); first | done | rfl | (simp only [List.length_drop, List.length_take]; rfl)) ?_; (with_reducible refine (impl_Free_changed.calls kj4 a0_0 _ _ l0_1 _ _ l0_2 t343 a1 false t345 t346 t349 true _ ?side1 ?side2 ?side3 ?side4 A35.out).mono ?_); (case side1 => exact cK HR0_1.out HB.out); (case side2 => exact HC0_1.out); (case side3 => exact cK HR0_2.out HB.out); (case side4 => exact HC0_2.out); rintro e w41 ⟨v347, v350, rfl, ho0, ho1, hb⟩; refine ⟨_, rfl, ?_⟩; have HO348 := aM (xL ho0 (zZ (zH HB.out))); have HO351 := aM (xL ho1 (zZ (zH HB.out))); replace BK337 := yK BK337.out hb; replace BK338 := yK BK338.out hb; replace HB := aM (zT (zH HB.out) hb); (try clear hb); (try clear ho0); (try clear ho1)) | ((with_reducible refine gate_dst (N := 13) rfl ?_); refine box_event ?hg (N := 13) ?hd (cs := #[.int .i64 0, .slice none 0 0, .slice none 0 0]) (t := 24) ?hr ?_; (case hd => rfl); (case hg => rfl); (case hr => first | (go_simp; done) | (go_simp; rfl)); intro gb353 hg w42 hbox hb; replace HO348 := xK HO348.out hb; replace HO351 := xK HO351.out hb; have BK353 := aM (hbox); have GW353 := aM ((by rw [hg]; exact (zZ (zH HB.out)) : w.heap.size ≤ gb353)); have GE353 := aM ((by rw [hg]; exact (zZ (zH HB.out)) : w.heap.size ≤ gb353)); replace HB := aM (zT (zH HB.out) hb); have NB337_353 := nL BK337.out hg; have NB353_337 := nR BK337.out hg; replace BK337 := yK BK337.out hb; have NB338_353 := nL BK338.out hg; have NB353_338 := nR BK338.out hg; replace BK338 := yK BK338.out hb; clear hb hbox hg; have hnb43 := NB353_337.out; have hnc43 := NB337_353.out; have hnb44 := NB353_338.out; have hnc44 := NB338_353.out; have hcz45_0 : w42.cell? ⟨gb353, 0, none⟩ = some (.int .i64 0) := yc BK353.out 0; have hcz45_1 : w42.cell? ⟨gb353, 1, none⟩ = some (.slice none 0 0) := yc BK353.out 1; have hcz45_2 : w42.cell? ⟨gb353, 2, none⟩ = some (.slice none 0 0) := yc BK353.out 2; have hfz45_0 := yZ BK353.out 0; have hfz45_1 := yZ BK353.out 1; have hfz45_2 := yZ BK353.out 2; obtain ⟨Ao46, co46, eo46⟩ := Kd.R_slice HO348.out; subst eo46; obtain ⟨Ao47, co47, eo47⟩ := Kd.R_slice HO351.out; subst eo47; have hcz48_0 : w42.cell? ⟨gb338, 0, none⟩ = some (.int .i64 0) := yc BK338.out 0; have hcz48_1 : w42.cell? ⟨gb338, 1, none⟩ = some (.slice none 0 0) := yc BK338.out 1; have hcz48_2 : w42.cell? ⟨gb338, 2, none⟩ = some (.slice none 0 0) := yc BK338.out 2; have hfz48_0 := yZ BK338.out 0; have hfz48_1 := yZ BK338.out 1; have hfz48_2 := yZ BK338.out 2))
      refine bodyPost_ret (results_ctt rfl _ _ gb338 24 #[.int .i64 t345, .slice Ao46 t346.length co46, .slice Ao47 t349.length co47] (0, 0) _ rfl (by (with_reducible repeat (first | refine yN ?_ _ | refine yD ?_ | refine yA ?_ _)); refine yP (cs := #[.int .i64 t345, .slice Ao46 t346.length co46, .slice none 0 0]) ?_ 2 _ rfl; (with_reducible repeat (first | refine yN ?_ _ | refine yD ?_ | refine yA ?_ _)); refine yP (cs := #[.int .i64 t345, .slice none 0 0, .slice none 0 0]) ?_ 1 _ rfl; (with_reducible repeat (first | refine yN ?_ _ | refine yD ?_ | refine yA ?_ _)); refine yP (cs := #[.int .i64 0, .slice none 0 0, .slice none 0 0]) ?_ 0 _ rfl; (with_reducible repeat (first | refine yN ?_ _ | refine yD ?_ | refine yA ?_ _)); refine yF ?_ NB338_353.out _; (with_reducible repeat (first | refine yN ?_ _ | refine yD ?_ | refine yA ?_ _)); refine yF ?_ NB338_353.out _; (with_reducible repeat (first | refine yN ?_ _ | refine yD ?_ | refine yA ?_ _)); refine yF ?_ NB338_353.out _; (with_reducible repeat (first | refine yN ?_ _ | refine yD ?_ | refine yA ?_ _)); exact BK338.out) Try.underlying24 rfl (by kernel_rfl)) rfl ?_
      exact ⟨_, _, by first | rfl | (simp [errW_none, errW_some] <;> rfl) | (simp [*, errW_none, errW_some] <;> rfl), xH (xM (xF (p := ⟨gb338, 2, none⟩) (xF (p := ⟨gb338, 1, none⟩) (xF (p := ⟨gb338, 0, none⟩) (xF (p := ⟨gb353, 2, none⟩) (xF (p := ⟨gb353, 1, none⟩) (xF (p := ⟨gb353, 0, none⟩) (xT (xT HO348.out BK353.out (by decide)) BK338.out (by decide)) (fun _ hk => hk.1.2) (.int .i64 t345)) (fun _ hk => hk.1.2) (.slice Ao46 t346.length co46)) (fun _ hk => hk.1.2) (.slice Ao47 t349.length co47)) (fun _ hk => hk.2) (.int .i64 t345)) (fun _ hk => hk.2) (.slice Ao46 t346.length co46)) (fun _ hk => hk.2) (.slice Ao47 t349.length co47)) (fun _ hk => hk.1.1)), xH (xM (xF (p := ⟨gb338, 2, none⟩) (xF (p := ⟨gb338, 1, none⟩) (xF (p := ⟨gb338, 0, none⟩) (xF (p := ⟨gb353, 2, none⟩) (xF (p := ⟨gb353, 1, none⟩) (xF (p := ⟨gb353, 0, none⟩) (xT (xT HO351.out BK353.out (by decide)) BK338.out (by decide)) (fun _ hk => hk.1.2) (.int .i64 t345)) (fun _ hk => hk.1.2) (.slice Ao46 t346.length co46)) (fun _ hk => hk.1.2) (.slice Ao47 t349.length co47)) (fun _ hk => hk.2) (.int .i64 t345)) (fun _ hk => hk.2) (.slice Ao46 t346.length co46)) (fun _ hk => hk.2) (.slice Ao47 t349.length co47)) (fun _ hk => hk.1.1)), zH HB.out⟩
     ·replace c36 := Bool.eq_false_iff.mpr c36
      subst c36
      have H1 : (some (0, ([] : List (S49)), ([] : List (S49)), 0, false)) = some (r1, r2, r3, r4, r5) := by rw [if_neg (show ¬ (false = true) by decide)] at H; exact H
      clear H
      have H := H1
      clear H1
      simp only [Option.some.injEq, Prod.mk.injEq] at H
      obtain ⟨rfl, rfl, rfl, rfl, rfl⟩ := H
      have hnb49 := NB337_338.out
      have hnc49 := NB338_337.out
      have hcz50_0 : wc.cell? ⟨gb337, 0, none⟩ = some (.int .i64 a0_0) := yc BK337.out 0
      have hcz50_1 : wc.cell? ⟨gb337, 1, none⟩ = some (.slice A0_1 l0_1.length c0_1) := yc BK337.out 1
      have hcz50_2 : wc.cell? ⟨gb337, 2, none⟩ = some (.slice A0_2 l0_2.length c0_2) := yc BK337.out 2
      have hfz50_0 := yZ BK337.out 0
      have hfz50_1 := yZ BK337.out 1
      have hfz50_2 := yZ BK337.out 2
      go_wp2_with (first | ((with_reducible refine gate_callee (f := 56) rfl ?_); refine goesL_ (some 43) rfl rfl Try.func56 (by kernel_rfl) rfl #[.agg #[.int .i64 a0_0, .slice A0_1 l0_1.length c0_1, .slice A0_2 l0_2.length c0_2], .int .i64 a1, .int .i64 a2, .int .i64 a3] rfl (by (try simp only [List.map_toArray, List.map_cons, List.map_nil]); first | done | rfl | (simp only [List.length_drop, List.length_take]; rfl)) ?_; (with_reducible refine (impl_Free_placeFor.calls a0_0 _ _ l0_1 _ _ l0_2 a1 a2 a3 t343 true _ ?side1 ?side2 ?side3 ?side4 A33.out).mono ?_); (case side1 => exact cK HR0_1.out HB.out); (case side2 => exact HC0_1.out); (case side3 => exact cK HR0_2.out HB.out); (case side4 => exact HC0_2.out); rintro e w51 ⟨rfl, hb⟩; refine ⟨_, rfl, ?_⟩; replace BK337 := yK BK337.out hb; replace BK338 := yK BK338.out hb; replace HB := aM (zT (zH HB.out) hb); (try clear hb); have hcz52_0 : w51.cell? ⟨gb337, 0, none⟩ = some (.int .i64 a0_0) := yc BK337.out 0; have hcz52_1 : w51.cell? ⟨gb337, 1, none⟩ = some (.slice A0_1 l0_1.length c0_1) := yc BK337.out 1; have hcz52_2 : w51.cell? ⟨gb337, 2, none⟩ = some (.slice A0_2 l0_2.length c0_2) := yc BK337.out 2; have hfz52_0 := yZ BK337.out 0; have hfz52_1 := yZ BK337.out 1; have hfz52_2 := yZ BK337.out 2) | ((with_reducible refine gate_callee (f := 53) rfl ?_); refine goesL_ (some 54) rfl rfl Try.func53 (by kernel_rfl) rfl #[.agg #[.int .i64 a0_0, .slice A0_1 l0_1.length c0_1, .slice A0_2 l0_2.length c0_2], .agg #[.int .i64 t343, .int .i64 a1], .bool false] rfl (by (try simp only [List.map_toArray, List.map_cons, List.map_nil]); first | done | rfl | (simp only [List.length_drop, List.length_take]; rfl)) ?_; (with_reducible refine (impl_Free_changed.calls kj4 a0_0 _ _ l0_1 _ _ l0_2 t343 a1 false t345 t346 t349 false _ ?side1 ?side2 ?side3 ?side4 A35.out).mono ?_); (case side1 => exact cK HR0_1.out HB.out); (case side2 => exact HC0_1.out); (case side3 => exact cK HR0_2.out HB.out); (case side4 => exact HC0_2.out); rintro e w53 ⟨v347, v350, rfl, ho0, ho1, hb⟩; refine ⟨_, rfl, ?_⟩; have HO348 := aM (xL ho0 (zZ (zH HB.out))); have HO351 := aM (xL ho1 (zZ (zH HB.out))); replace BK337 := yK BK337.out hb; replace BK338 := yK BK338.out hb; replace HB := aM (zT (zH HB.out) hb); (try clear hb); (try clear ho0); (try clear ho1)) | ((with_reducible refine gate_dst (N := 13) rfl ?_); refine box_event ?hg (N := 13) ?hd (cs := #[.int .i64 0, .slice none 0 0, .slice none 0 0]) (t := 24) ?hr ?_; (case hd => rfl); (case hg => rfl); (case hr => first | (go_simp; done) | (go_simp; rfl)); intro gb353 hg w54 hbox hb; replace HO348 := xK HO348.out hb; replace HO351 := xK HO351.out hb; have BK353 := aM (hbox); have GW353 := aM ((by rw [hg]; exact (zZ (zH HB.out)) : w.heap.size ≤ gb353)); have GE353 := aM ((by rw [hg]; exact (zZ (zH HB.out)) : w.heap.size ≤ gb353)); replace HB := aM (zT (zH HB.out) hb); have NB337_353 := nL BK337.out hg; have NB353_337 := nR BK337.out hg; replace BK337 := yK BK337.out hb; have NB338_353 := nL BK338.out hg; have NB353_338 := nR BK338.out hg; replace BK338 := yK BK338.out hb; clear hb hbox hg; have hnb55 := NB353_337.out; have hnc55 := NB337_353.out; have hnb56 := NB353_338.out; have hnc56 := NB338_353.out; have hcz57_0 : w54.cell? ⟨gb353, 0, none⟩ = some (.int .i64 0) := yc BK353.out 0; have hcz57_1 : w54.cell? ⟨gb353, 1, none⟩ = some (.slice none 0 0) := yc BK353.out 1; have hcz57_2 : w54.cell? ⟨gb353, 2, none⟩ = some (.slice none 0 0) := yc BK353.out 2; have hfz57_0 := yZ BK353.out 0; have hfz57_1 := yZ BK353.out 1; have hfz57_2 := yZ BK353.out 2; obtain ⟨Ao58, co58, eo58⟩ := Kd.R_slice HO348.out; subst eo58; obtain ⟨Ao59, co59, eo59⟩ := Kd.R_slice HO351.out; subst eo59; have hcz60_0 : w54.cell? ⟨gb338, 0, none⟩ = some (.int .i64 0) := yc BK338.out 0; have hcz60_1 : w54.cell? ⟨gb338, 1, none⟩ = some (.slice none 0 0) := yc BK338.out 1; have hcz60_2 : w54.cell? ⟨gb338, 2, none⟩ = some (.slice none 0 0) := yc BK338.out 2; have hfz60_0 := yZ BK338.out 0; have hfz60_1 := yZ BK338.out 1; have hfz60_2 := yZ BK338.out 2))
      refine bodyPost_ret (results_ctt rfl _ _ gb338 24 #[.int .i64 0, .slice none 0 0, .slice none 0 0] (0, 0) _ rfl (by (with_reducible repeat (first | refine yN ?_ _ | refine yD ?_ | refine yA ?_ _)); refine yP (cs := #[.int .i64 0, .slice none 0 0, .slice none 0 0]) ?_ 2 _ rfl; (with_reducible repeat (first | refine yN ?_ _ | refine yD ?_ | refine yA ?_ _)); refine yP (cs := #[.int .i64 0, .slice none 0 0, .slice none 0 0]) ?_ 1 _ rfl; (with_reducible repeat (first | refine yN ?_ _ | refine yD ?_ | refine yA ?_ _)); refine yP (cs := #[.int .i64 0, .slice none 0 0, .slice none 0 0]) ?_ 0 _ rfl; (with_reducible repeat (first | refine yN ?_ _ | refine yD ?_ | refine yA ?_ _)); refine yF ?_ NB338_353.out _; (with_reducible repeat (first | refine yN ?_ _ | refine yD ?_ | refine yA ?_ _)); refine yF ?_ NB338_353.out _; (with_reducible repeat (first | refine yN ?_ _ | refine yD ?_ | refine yA ?_ _)); refine yF ?_ NB338_353.out _; (with_reducible repeat (first | refine yN ?_ _ | refine yD ?_ | refine yA ?_ _)); exact BK338.out) Try.underlying24 rfl (by kernel_rfl)) rfl ?_
      exact ⟨_, _, by first | rfl | (simp [errW_none, errW_some] <;> rfl) | (simp [*, errW_none, errW_some] <;> rfl), by first | exact Kd.R_nil _ _ _ _ _ | exact Kd.N_nil _ _ _ _ _ | exact Kd.V_nil _ _ _ _ _ | exact Kd.Q_nil _ _ _ _ _ | exact Kd.S_nil _ _ _ _ _, by first | exact Kd.R_nil _ _ _ _ _ | exact Kd.N_nil _ _ _ _ _ | exact Kd.V_nil _ _ _ _ _ | exact Kd.Q_nil _ _ _ _ _ | exact Kd.S_nil _ _ _ _ _, zH HB.out⟩
    ·replace c34 := Bool.eq_false_iff.mpr c34
     subst c34
     have H1 : (some (0, ([] : List (S49)), ([] : List (S49)), 0, false)) = some (r1, r2, r3, r4, r5) := by rw [if_neg (show ¬ (false = true) by decide)] at H; exact H
     clear H
     have H := H1
     clear H1
     simp only [Option.some.injEq, Prod.mk.injEq] at H
     obtain ⟨rfl, rfl, rfl, rfl, rfl⟩ := H
     have hnb61 := NB337_338.out
     have hnc61 := NB338_337.out
     have hcz62_0 : wc.cell? ⟨gb337, 0, none⟩ = some (.int .i64 a0_0) := yc BK337.out 0
     have hcz62_1 : wc.cell? ⟨gb337, 1, none⟩ = some (.slice A0_1 l0_1.length c0_1) := yc BK337.out 1
     have hcz62_2 : wc.cell? ⟨gb337, 2, none⟩ = some (.slice A0_2 l0_2.length c0_2) := yc BK337.out 2
     have hfz62_0 := yZ BK337.out 0
     have hfz62_1 := yZ BK337.out 1
     have hfz62_2 := yZ BK337.out 2
     go_wp2_with (first | ((with_reducible refine gate_callee (f := 56) rfl ?_); refine goesL_ (some 43) rfl rfl Try.func56 (by kernel_rfl) rfl #[.agg #[.int .i64 a0_0, .slice A0_1 l0_1.length c0_1, .slice A0_2 l0_2.length c0_2], .int .i64 a1, .int .i64 a2, .int .i64 a3] rfl (by (try simp only [List.map_toArray, List.map_cons, List.map_nil]); first | done | rfl | (simp only [List.length_drop, List.length_take]; rfl)) ?_; (with_reducible refine (impl_Free_placeFor.calls a0_0 _ _ l0_1 _ _ l0_2 a1 a2 a3 t343 false _ ?side1 ?side2 ?side3 ?side4 A33.out).mono ?_); (case side1 => exact cK HR0_1.out HB.out); (case side2 => exact HC0_1.out); (case side3 => exact cK HR0_2.out HB.out); (case side4 => exact HC0_2.out); rintro e w63 ⟨rfl, hb⟩; refine ⟨_, rfl, ?_⟩; replace BK337 := yK BK337.out hb; replace BK338 := yK BK338.out hb; replace HB := aM (zT (zH HB.out) hb); (try clear hb); have hcz64_0 : w63.cell? ⟨gb338, 0, none⟩ = some (.int .i64 0) := yc BK338.out 0; have hcz64_1 : w63.cell? ⟨gb338, 1, none⟩ = some (.slice none 0 0) := yc BK338.out 1; have hcz64_2 : w63.cell? ⟨gb338, 2, none⟩ = some (.slice none 0 0) := yc BK338.out 2; have hfz64_0 := yZ BK338.out 0; have hfz64_1 := yZ BK338.out 1; have hfz64_2 := yZ BK338.out 2))
     refine bodyPost_ret (results_ctt rfl _ _ gb338 24 #[.int .i64 0, .slice none 0 0, .slice none 0 0] (0, 0) _ rfl (by (with_reducible repeat (first | refine yN ?_ _ | refine yD ?_ | refine yA ?_ _)); refine yP (cs := #[.int .i64 0, .slice none 0 0, .slice none 0 0]) ?_ 2 _ rfl; (with_reducible repeat (first | refine yN ?_ _ | refine yD ?_ | refine yA ?_ _)); refine yP (cs := #[.int .i64 0, .slice none 0 0, .slice none 0 0]) ?_ 1 _ rfl; (with_reducible repeat (first | refine yN ?_ _ | refine yD ?_ | refine yA ?_ _)); refine yP (cs := #[.int .i64 0, .slice none 0 0, .slice none 0 0]) ?_ 0 _ rfl; (with_reducible repeat (first | refine yN ?_ _ | refine yD ?_ | refine yA ?_ _)); exact BK338.out) Try.underlying24 rfl (by kernel_rfl)) rfl ?_
     exact ⟨_, _, by first | rfl | (simp [errW_none, errW_some] <;> rfl) | (simp [*, errW_none, errW_some] <;> rfl), by first | exact Kd.R_nil _ _ _ _ _ | exact Kd.N_nil _ _ _ _ _ | exact Kd.V_nil _ _ _ _ _ | exact Kd.Q_nil _ _ _ _ _ | exact Kd.S_nil _ _ _ _ _, by first | exact Kd.R_nil _ _ _ _ _ | exact Kd.N_nil _ _ _ _ _ | exact Kd.V_nil _ _ _ _ _ | exact Kd.Q_nil _ _ _ _ _ | exact Kd.S_nil _ _ _ _ _, zH HB.out⟩

end Go.Proofs.Ytfhfaeeokibhaaa.PFnExactTakeRoom
