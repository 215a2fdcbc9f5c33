/- What this law wants beside; no condition. -/
import Derived.Test.YtmgbfbpolmbnfaaQFnExactDepthOft6
namespace Go.Proofs.Ytmgbfbpolmbnfaa.PFnExactDepthOf
open Go.RowKit Go.Proofs.YtmgbfbpolmbnfaaW.PrintWords Go.Proofs.YtmgbfbpolmbnfaaW.PrintLast Go.Proofs.YtmgbfbpolmbnfaaW.PrintMore
set_option linter.unusedVariables false
set_option linter.unusedSimpArgs false
set_option maxRecDepth 100000

/-! #### DepthOf -/
def depthI (ns : List S73) (root : Int) : Int × Bool := match goodF ns root with
  | some x => (depthF ns.length x, true)
  | none => (0, false)
def depthS (ns : List S73) (root : Int) : Int × Bool := match ofF ns root with
  | some x => (((deepF 20 x true : Nat) : Int), true)
  | none => (0, false)
theorem depth_same (ns : List S73) (root : Int) : depthI ns root = depthS ns root := by
  unfold depthI depthS
  rw [good_of]
  cases h : ofF ns root with
  | none => rfl
  | some x =>
    obtain ⟨d, h1, h2, h3, h4, h5, h6, h7, h8, h9, h10⟩ := (ofF_fine ns root x).mp h
    show (depthF ns.length x, true) = (((deepF 20 x true : Nat) : Int), true)
    rw [depthF_bal d ns.length true x h7 h5 (by omega), bal_deepF 20 d x true h7 h4]
set_option maxHeartbeats 2000000 in
theorem impl_depth_w (A : Option Addr) (c : Nat) (ns : List S73) (root : Int) (w : World) (hr : Kd.C k73 w A ns.length ns) (hc : ns.length ≤ c) (hs : szT ns = true) : Calls Try.prog 13 #[.agg #[.slice A ns.length c, .int .i64 root]] w fun e w' => e = .returned (.tuple #[.int .i64 (depthI ns root).1, .bool (depthI ns root).2]) ∧ Below w.heap.size w w' := by
  have BR : Aside0 (∀ W : World, Below w.heap.size w W → Calls Try.prog 25 #[.agg #[.slice A ns.length c, .int .i64 root]] W fun e w' => (∃ v, e = .returned (.tuple #[v, .bool (goodF ns root).isSome]) ∧ ∀ x, goodF ns root = some x → RepB ns.length w' x v) ∧ Below W.heap.size W w') := ⟨fun W hb => goodbr_w A c ns root w hr hc hs hb⟩
  have HB := Aside0.mk (Below.refl w.heap.size w)
  unfold depthI
  clear hr hc hs
  cases hg : goodF ns root with
  | none =>
    rw [hg] at BR
    clear hg
    go_enter Try.func13, Try.ntmps13
    go_wp2_with (first | ((with_reducible refine gate_dst (N := 1) rfl ?_); go_loud (refine box_event ?hg (N := 1) ?hd (cs := #[.slice A ns.length c, .int .i64 root]) (t := 29) ?hr ?_; (case hd => rfl); (case hg => rfl); (case hr => first | (go_simp; done) | (go_simp; rfl)); intro gb hg w1 hbox hb; have HB1 := Aside0.mk (below_step HB.out hb); have hcz0 : w1.cell? ⟨gb, 0, none⟩ = some (.slice A ns.length c) := (blk_cell hbox 0).trans rfl; have hcz1 : w1.cell? ⟨gb, 1, none⟩ = some (.int .i64 root) := (blk_cell hbox 1).trans rfl; clear HB; clear hb hbox hg)) | (go_at_call 25; go_loud (refine (BR.out _ HB1.out).mono ?_; rintro e w2 ⟨⟨v, rfl, _⟩, hb2⟩; have HB2 := Aside0.mk (below_step HB1.out hb2); clear hb2 hcz0 hcz1)))
    go_ret2
    exact ⟨rfl, HB2.out⟩
  | some x =>
    rw [hg] at BR
    clear hg
    have DW : Aside0 (∀ (W : World) (v : Value), RepB ns.length W x v → Calls Try.prog 28 #[v] W fun e w' => e = .returned (.int .i64 (depthF ns.length x)) ∧ Below W.heap.size W w') := ⟨fun W v h => depth_walk ns.length h⟩
    obtain ⟨DF, hDF⟩ : ∃ DF, depthF ns.length x = DF := ⟨_, rfl⟩
    rw [hDF] at DW
    show Calls Try.prog 13 _ w fun e w' => e = .returned (.tuple #[.int .i64 (depthF ns.length x), .bool true]) ∧ Below w.heap.size w w'
    rw [hDF]
    clear hDF
    go_enter Try.func13, Try.ntmps13
    go_wp2_with (first | ((with_reducible refine gate_dst (N := 1) rfl ?_); go_loud (refine box_event ?hg (N := 1) ?hd (cs := #[.slice A ns.length c, .int .i64 root]) (t := 29) ?hr ?_; (case hd => rfl); (case hg => rfl); (case hr => first | (go_simp; done) | (go_simp; rfl)); intro gb hg w1 hbox hb; have HB1 := Aside0.mk (below_step HB.out hb); have hcz0 : w1.cell? ⟨gb, 0, none⟩ = some (.slice A ns.length c) := (blk_cell hbox 0).trans rfl; have hcz1 : w1.cell? ⟨gb, 1, none⟩ = some (.int .i64 root) := (blk_cell hbox 1).trans rfl; clear HB; clear hb hbox hg)) | (go_at_call 25; go_loud (refine (BR.out _ HB1.out).mono ?_; rintro e w2 ⟨⟨v, rfl, hv⟩, hb2⟩; have hv2 := hv x rfl; obtain ⟨gv, rfl⟩ := RepB_ptr hv2; have HR2 := Aside0.mk hv2; have HB2 := Aside0.mk (below_step HB1.out hb2); clear hb2 hv hv2 hcz0 hcz1)) | (go_at_call 28; go_loud (refine (DW.out _ _ HR2.out).mono ?_; rintro e w3 ⟨rfl, hb3⟩; have HR3 := Aside0.mk (RepB_below _ HR2.out hb3); have HB3 := Aside0.mk (below_step HB2.out hb3); clear hb3)))
    go_ret2
    exact ⟨rfl, HB3.out⟩
set_option maxHeartbeats 2000000 in
theorem spec_depth_w (A : Option Addr) (c : Nat) (ns : List S73) (root : Int) (w : World) (hr : Kd.C k73 w A ns.length ns) (hc : ns.length ≤ c) (hs : szT ns = true) : Calls Try.prog 12 #[.agg #[.slice A ns.length c, .int .i64 root]] w fun e w' => e = .returned (.tuple #[.int .i64 (depthS ns root).1, .bool (depthS ns root).2]) ∧ Below w.heap.size w w' := by
  have BR : Aside0 (∀ W : World, Below w.heap.size w W → Calls Try.prog 23 #[.agg #[.slice A ns.length c, .int .i64 root]] W fun e w' => (∃ A0 n0 c0 A1 n1 c1, e = .returned (.tuple #[.agg #[.slice A0 n0 c0, .slice A1 n1 c1], .bool (ofF ns root).isSome]) ∧ ∀ x, ofF ns root = some x → n0 = x.f0.length ∧ n1 = x.f1.length ∧ k47.K w' x [.slice A0 n0 c0, .slice A1 n1 c1]) ∧ Below W.heap.size W w') := ⟨fun W hb => l7of_w A c ns root w hr hc hs hb⟩
  have HB := Aside0.mk (Below.refl w.heap.size w)
  have hfine := ofF_fine ns root
  unfold depthS
  clear hr hc hs
  cases hg : ofF ns root with
  | none =>
    rw [hg] at BR
    clear hg hfine
    go_enter Try.func12, Try.ntmps12
    go_wp2_with (first | ((with_reducible refine gate_dst (N := 1) rfl ?_); go_loud (refine box_event ?hg (N := 1) ?hd (cs := #[.slice A ns.length c, .int .i64 root]) (t := 29) ?hr ?_; (case hd => rfl); (case hg => rfl); (case hr => first | (go_simp; done) | (go_simp; rfl)); intro gb hg w1 hbox hb; have HB1 := Aside0.mk (below_step HB.out hb); have hcz0 : w1.cell? ⟨gb, 0, none⟩ = some (.slice A ns.length c) := (blk_cell hbox 0).trans rfl; have hcz1 : w1.cell? ⟨gb, 1, none⟩ = some (.int .i64 root) := (blk_cell hbox 1).trans rfl; clear HB; clear hb hbox hg)) | (go_at_call 23; go_loud (refine (BR.out _ HB1.out).mono ?_; rintro e w2 ⟨⟨Ay0, ny0, cy0, Ay1, ny1, cy1, rfl, _⟩, hb2⟩; have HB2 := Aside0.mk (below_step HB1.out hb2); clear hb2 hcz0 hcz1)) | ((with_reducible refine gate_dst (N := 4) rfl ?_); go_loud (refine box_event ?hg (N := 4) ?hd (cs := #[.slice none 0 0, .slice none 0 0]) (t := 47) ?hr ?_; (case hd => rfl); (case hg => rfl); (case hr => first | (go_simp; done) | (go_simp; rfl)); intro g4 hg w3 hbox hb; have HB3 := Aside0.mk (below_step HB2.out hb); have HR3 := Aside0.mk hb; have BK4 := Aside0.mk hbox; have GE3 := Aside0.mk (show w.heap.size ≤ g4 by have := below_size HB2.out; omega); have GR3 := Aside0.mk (show w2.heap.size ≤ g4 by omega); have hg4_0 : w3.cell? ⟨g4, 0, none⟩ = some (.slice none 0 0) := (blk_cell hbox 0).trans rfl; have fg4_0 := blk_frozen hbox 0; have hg4_1 : w3.cell? ⟨g4, 1, none⟩ = some (.slice none 0 0) := (blk_cell hbox 1).trans rfl; have fg4_1 := blk_frozen hbox 1; clear hb hbox hg)))
    go_ret2
    exact ⟨rfl, below_set (below_set HB3.out GE3.out) GE3.out⟩
  | some x =>
    rw [hg] at BR
    have HSH := Aside0.mk (show ShapeF 20 x by
      obtain ⟨d, h1, h2, h3, h4, h5, h6, h7, _⟩ := (hfine x).mp hg
      exact ShapeF_bal 20 d x true h7 h4)
    clear hg hfine
    obtain ⟨DN, hDN⟩ : ∃ DN, deepF 20 x true = DN := ⟨_, rfl⟩
    show Calls Try.prog 12 _ w fun e w' => e = .returned (.tuple #[.int .i64 ((deepF 20 x true : Nat) : Int), .bool true]) ∧ Below w.heap.size w w'
    rw [hDN]
    have HDN := Aside0.mk hDN
    clear hDN
    go_enter Try.func12, Try.ntmps12
    go_wp2_with (first | ((with_reducible refine gate_dst (N := 1) rfl ?_); go_loud (refine box_event ?hg (N := 1) ?hd (cs := #[.slice A ns.length c, .int .i64 root]) (t := 29) ?hr ?_; (case hd => rfl); (case hg => rfl); (case hr => first | (go_simp; done) | (go_simp; rfl)); intro gb hg w1 hbox hb; have HB1 := Aside0.mk (below_step HB.out hb); have hcz0 : w1.cell? ⟨gb, 0, none⟩ = some (.slice A ns.length c) := (blk_cell hbox 0).trans rfl; have hcz1 : w1.cell? ⟨gb, 1, none⟩ = some (.int .i64 root) := (blk_cell hbox 1).trans rfl; clear HB; clear hb hbox hg)) | (go_at_call 23; go_loud (refine (BR.out _ HB1.out).mono ?_; rintro e w2 ⟨⟨Ay0, ny0, cy0, Ay1, ny1, cy1, rfl, hk⟩, hb2⟩; obtain ⟨rfl, rfl, hk2⟩ := hk x rfl; have HK2 := Aside0.mk hk2; have HB2 := Aside0.mk (below_step HB1.out hb2); clear hb2 hk hk2 hcz0 hcz1)) | ((with_reducible refine gate_dst (N := 4) rfl ?_); go_loud (refine box_event ?hg (N := 4) ?hd (cs := #[.slice none 0 0, .slice none 0 0]) (t := 47) ?hr ?_; (case hd => rfl); (case hg => rfl); (case hr => first | (go_simp; done) | (go_simp; rfl)); intro g4 hg w3 hbox hb; have HB3 := Aside0.mk (below_step HB2.out hb); have HR3 := Aside0.mk hb; have BK4 := Aside0.mk hbox; have GE3 := Aside0.mk (show w.heap.size ≤ g4 by have := below_size HB2.out; omega); have GR3 := Aside0.mk (show w2.heap.size ≤ g4 by omega); have hg4_0 : w3.cell? ⟨g4, 0, none⟩ = some (.slice none 0 0) := (blk_cell hbox 0).trans rfl; have fg4_0 := blk_frozen hbox 0; have hg4_1 : w3.cell? ⟨g4, 1, none⟩ = some (.slice none 0 0) := (blk_cell hbox 1).trans rfl; have fg4_1 := blk_frozen hbox 1; clear hb hbox hg)) | ((with_reducible refine gate_store (t := 47) (p := 4) rfl ?_); go_loud (refine store_event (t := 47) (p := 4) (v := ?vo) (w1 := ((w3.setCell ⟨g4, 0, none⟩ (.slice Ay0 x.f0.length cy0)).setCell ⟨g4, 1, none⟩ (.slice Ay1 x.f1.length cy1))) ?hg ?ho ?hn ?hr ?_; (case ho => rfl); (case hg => rfl); (case hn => rfl); (case hr => first | (go_simp; done) | (go_simp; rfl)); intro w5 hw; have HB5 := Aside0.mk (show Below w.heap.size w w5 by rw [hw]; exact below_set (below_set HB3.out GE3.out) GE3.out); have C5 := Aside0.mk (show Below w2.heap.size w2 w5 by rw [hw]; exact below_set (below_set HR3.out GR3.out) GR3.out); have BK4' := Aside0.mk (show w5.heap[g4]? = some (.cells #[.slice Ay0 x.f0.length cy0, .slice Ay1 x.f1.length cy1] 47 (0, 0)) by rw [hw]; refine blk_put (cs := #[.slice Ay0 x.f0.length cy0, .slice none 0 0]) ?_ 1 _ rfl; refine blk_put (cs := #[.slice none 0 0, .slice none 0 0]) ?_ 0 _ rfl; exact BK4.out); clear hg4_0 hg4_1 fg4_0 fg4_1; have hg4_0 : w5.cell? ⟨g4, 0, none⟩ = some (.slice Ay0 x.f0.length cy0) := (blk_cell BK4'.out 0).trans rfl; have hg4_1 : w5.cell? ⟨g4, 1, none⟩ = some (.slice Ay1 x.f1.length cy1) := (blk_cell BK4'.out 1).trans rfl; clear hw)) | (go_at_call 27; go_loud (refine (deep_w 20 (by decide) HSH.out (k47.K_below C5.out HK2.out)).mono ?_; rw [HDN.out]; rintro e w6 ⟨rfl, hb6⟩; have HB6 := Aside0.mk (below_step HB5.out hb6); clear hb6)))
    go_ret2
    exact ⟨rfl, HB6.out⟩

end Go.Proofs.Ytmgbfbpolmbnfaa.PFnExactDepthOf
