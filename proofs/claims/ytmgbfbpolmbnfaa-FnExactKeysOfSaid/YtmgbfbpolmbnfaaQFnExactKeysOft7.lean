/- What this law wants beside; no condition. -/
import Derived.Test.YtmgbfbpolmbnfaaQFnExactKeysOft6
namespace Go.Proofs.Ytmgbfbpolmbnfaa.PFnExactKeysOf
open Go.RowKit Go.Proofs.YtmgbfbpolmbnfaaW.PrintWords Go.Proofs.YtmgbfbpolmbnfaaW.PrintLast Go.Proofs.YtmgbfbpolmbnfaaW.PrintMore
set_option linter.unusedVariables false
set_option linter.unusedSimpArgs false
set_option maxRecDepth 100000

/-! #### KeysOf -/
def keysV (o : Option S47) : List Int × Bool := match o with
  | some x => (keysF 20 x, true)
  | none => ([], false)
set_option maxHeartbeats 4000000 in
theorem impl_keys_w (A : Option Addr) (c : Nat) (ns : List S73) (root : Int) (w : World) (hr : Kd.C k73 w A ns.length ns) (hc : ns.length ≤ c) (hs : szT ns = true) : Calls Try.prog 15 #[.agg #[.slice A ns.length c, .int .i64 root]] w fun e w' => ∃ v0, e = .returned (.tuple #[v0, .bool (keysV (goodF ns root)).2]) ∧ Kd.R (Kd.int .i64) 3 w' w.heap.size (fun _ => True) v0 (keysV (goodF ns root)).1 ∧ Below w.heap.size w w' := by
  have BR : Aside0 (∀ W : World, Below w.heap.size w W → Calls Try.prog 25 #[.agg #[.slice A ns.length c, .int .i64 root]] W fun e w' => (∃ v, e = .returned (.tuple #[v, .bool (goodF ns root).isSome]) ∧ ∀ x, goodF ns root = some x → RepB ns.length w' x v) ∧ Below W.heap.size W w') := ⟨fun W hb => goodbr_w A c ns root w hr hc hs hb⟩
  have HB := Aside0.mk (Below.refl w.heap.size w)
  have hfine := goodF_fine ns root
  clear hr hc hs
  cases hg : goodF ns root with
  | none =>
    rw [hg] at BR
    clear hg hfine
    unfold keysV
    go_enter Try.func15, Try.ntmps15
    go_wp2_with (first | ((with_reducible refine gate_dst (N := 1) rfl ?_); go_loud (refine box_event ?hg (N := 1) ?hd (cs := #[.slice A ns.length c, .int .i64 root]) (t := 29) ?hr ?_; (case hd => rfl); (case hg => rfl); (case hr => first | (go_simp; done) | (go_simp; rfl)); intro gb hg w1 hbox hb; have HB1 := Aside0.mk (below_step HB.out hb); have hcz0 : w1.cell? ⟨gb, 0, none⟩ = some (.slice A ns.length c) := (blk_cell hbox 0).trans rfl; have hcz1 : w1.cell? ⟨gb, 1, none⟩ = some (.int .i64 root) := (blk_cell hbox 1).trans rfl; clear HB; clear hb hbox hg)) | (go_at_call 25; go_loud (refine (BR.out _ HB1.out).mono ?_; rintro e w2 ⟨⟨v, rfl, _⟩, hb2⟩; have HB2 := Aside0.mk (below_step HB1.out hb2); clear hb2 hcz0 hcz1)))
    go_ret2
    exact ⟨_, rfl, Kd.R_nil _ _ _ _ _, HB2.out⟩
  | some x =>
    rw [hg] at BR
    have hp : ShapeF ns.length x ∧ (keysF ns.length x).length < 1099511627776 ∧ keysF ns.length x = keysF 20 x := by
      obtain ⟨d, h1, h2, h3, h4, h5, h6, h7, h8, h9, h10⟩ := (hfine x).mp hg
      have e1 := keysF_bal d ns.length d true x h7 h5 (Nat.le_refl _)
      have e2 := keysF_bal d 20 d true x h7 h4 (Nat.le_refl _)
      exact ⟨ShapeF_bal ns.length d x true h7 h5, by rw [e1]; omega, by rw [e1, e2]⟩
    have KW : Aside0 (∀ (W : World) (v : Value), RepB ns.length W x v → Calls Try.prog 30 #[v] W fun e w' => ∃ v1, e = .returned v1 ∧ Kd.R (Kd.int .i64) 3 w' W.heap.size (fun _ => True) v1 (keysF 20 x) ∧ Below W.heap.size W w') := ⟨fun W v h => by rw [← hp.2.2]; exact keys_walk ns.length h hp.1 hp.2.1⟩
    clear hg hfine hp
    show Calls Try.prog 15 _ w fun e w' => ∃ v0, e = .returned (.tuple #[v0, .bool true]) ∧ Kd.R (Kd.int .i64) 3 w' w.heap.size (fun _ => True) v0 (keysF 20 x) ∧ Below w.heap.size w w'
    obtain ⟨KL, hKL⟩ : ∃ KL, keysF 20 x = KL := ⟨_, rfl⟩
    rw [hKL] at KW ⊢
    clear hKL
    go_enter Try.func15, Try.ntmps15
    go_wp2_with (first | ((with_reducible refine gate_dst (N := 1) rfl ?_); go_loud (refine box_event ?hg (N := 1) ?hd (cs := #[.slice A ns.length c, .int .i64 root]) (t := 29) ?hr ?_; (case hd => rfl); (case hg => rfl); (case hr => first | (go_simp; done) | (go_simp; rfl)); intro gb hg w1 hbox hb; have HB1 := Aside0.mk (below_step HB.out hb); have hcz0 : w1.cell? ⟨gb, 0, none⟩ = some (.slice A ns.length c) := (blk_cell hbox 0).trans rfl; have hcz1 : w1.cell? ⟨gb, 1, none⟩ = some (.int .i64 root) := (blk_cell hbox 1).trans rfl; clear HB; clear hb hbox hg)) | (go_at_call 25; go_loud (refine (BR.out _ HB1.out).mono ?_; rintro e w2 ⟨⟨v, rfl, hv⟩, hb2⟩; have hv2 := hv x rfl; obtain ⟨gv, rfl⟩ := RepB_ptr hv2; have HR2 := Aside0.mk hv2; have HB2 := Aside0.mk (below_step HB1.out hb2); clear hb2 hv hv2 hcz0 hcz1)) | (go_at_call 30; go_loud (refine (KW.out _ _ HR2.out).mono ?_; rintro e w5 ⟨v5, rfl, hv5, hb5⟩; obtain ⟨A5, c5, e5⟩ := Kd.R_slice hv5; subst e5; have HO5 := Aside0.mk (Kd.R_lower hv5 (below_size HB2.out)); have HB5 := Aside0.mk (below_step HB2.out hb5); clear hb5 hv5)))
    go_ret2
    exact ⟨_, rfl, HO5.out, HB5.out⟩
set_option maxHeartbeats 4000000 in
theorem spec_keys_w (A : Option Addr) (c : Nat) (ns : List S73) (root : Int) (w : World) (hr : Kd.C k73 w A ns.length ns) (hc : ns.length ≤ c) (hs : szT ns = true) : Calls Try.prog 14 #[.agg #[.slice A ns.length c, .int .i64 root]] w fun e w' => ∃ v0, e = .returned (.tuple #[v0, .bool (keysV (ofF ns root)).2]) ∧ Kd.R (Kd.int .i64) 3 w' w.heap.size (fun _ => True) v0 (keysV (ofF ns root)).1 ∧ Below w.heap.size w w' := by
  have BR : Aside0 (∀ W : World, Below w.heap.size w W → Calls Try.prog 23 #[.agg #[.slice A ns.length c, .int .i64 root]] W fun e w' => (∃ A0 n0 c0 A1 n1 c1, e = .returned (.tuple #[.agg #[.slice A0 n0 c0, .slice A1 n1 c1], .bool (ofF ns root).isSome]) ∧ ∀ x, ofF ns root = some x → n0 = x.f0.length ∧ n1 = x.f1.length ∧ k47.K w' x [.slice A0 n0 c0, .slice A1 n1 c1]) ∧ Below W.heap.size W w') := ⟨fun W hb => l7of_w A c ns root w hr hc hs hb⟩
  have HB := Aside0.mk (Below.refl w.heap.size w)
  have hfine := ofF_fine ns root
  clear hr hc hs
  cases hg : ofF ns root with
  | none =>
    rw [hg] at BR
    clear hg hfine
    unfold keysV
    go_enter Try.func14, Try.ntmps14
    go_wp2_with (first | ((with_reducible refine gate_dst (N := 1) rfl ?_); go_loud (refine box_event ?hg (N := 1) ?hd (cs := #[.slice A ns.length c, .int .i64 root]) (t := 29) ?hr ?_; (case hd => rfl); (case hg => rfl); (case hr => first | (go_simp; done) | (go_simp; rfl)); intro gb hg w1 hbox hb; have HB1 := Aside0.mk (below_step HB.out hb); have hcz0 : w1.cell? ⟨gb, 0, none⟩ = some (.slice A ns.length c) := (blk_cell hbox 0).trans rfl; have hcz1 : w1.cell? ⟨gb, 1, none⟩ = some (.int .i64 root) := (blk_cell hbox 1).trans rfl; clear HB; clear hb hbox hg)) | (go_at_call 23; go_loud (refine (BR.out _ HB1.out).mono ?_; rintro e w2 ⟨⟨Ay0, ny0, cy0, Ay1, ny1, cy1, rfl, _⟩, hb2⟩; have HB2 := Aside0.mk (below_step HB1.out hb2); clear hb2 hcz0 hcz1)) | ((with_reducible refine gate_dst (N := 4) rfl ?_); go_loud (refine box_event ?hg (N := 4) ?hd (cs := #[.slice none 0 0, .slice none 0 0]) (t := 47) ?hr ?_; (case hd => rfl); (case hg => rfl); (case hr => first | (go_simp; done) | (go_simp; rfl)); intro g4 hg w3 hbox hb; have HB3 := Aside0.mk (below_step HB2.out hb); have HR3 := Aside0.mk hb; have BK4 := Aside0.mk hbox; have GE3 := Aside0.mk (show w.heap.size ≤ g4 by have := below_size HB2.out; omega); have GR3 := Aside0.mk (show w2.heap.size ≤ g4 by omega); have hg4_0 : w3.cell? ⟨g4, 0, none⟩ = some (.slice none 0 0) := (blk_cell hbox 0).trans rfl; have fg4_0 := blk_frozen hbox 0; have hg4_1 : w3.cell? ⟨g4, 1, none⟩ = some (.slice none 0 0) := (blk_cell hbox 1).trans rfl; have fg4_1 := blk_frozen hbox 1; clear hb hbox hg)))
    go_ret2
    exact ⟨_, rfl, Kd.R_nil _ _ _ _ _, below_set (below_set HB3.out GE3.out) GE3.out⟩
  | some x =>
    rw [hg] at BR
    have hp : ShapeF 20 x ∧ (keysF 20 x).length ≤ 200 := by
      obtain ⟨d, h1, h2, h3, h4, h5, h6, h7, h8, h9, h10⟩ := (hfine x).mp hg
      exact ⟨ShapeF_bal 20 d x true h7 h4, by rw [keysF_bal d 20 d true x h7 h4 (Nat.le_refl _)]; exact h10⟩
    have KW : Aside0 (∀ (W : World) (A0 : Option Addr) (c0 : Nat) (A1 : Option Addr) (c1 : Nat), k47.K W x [.slice A0 x.f0.length c0, .slice A1 x.f1.length c1] → Calls Try.prog 29 #[.agg #[.slice A0 x.f0.length c0, .slice A1 x.f1.length c1]] W fun e w' => KeysOut (keysF 20 x) e w' ∧ Below W.heap.size W w') := ⟨fun W A0 c0 A1 c1 hk => keys_w 20 hp.1 (by omega) hk⟩
    have HLK := Aside0.mk hp.2
    clear hg hfine hp
    show Calls Try.prog 14 _ w fun e w' => ∃ v0, e = .returned (.tuple #[v0, .bool true]) ∧ Kd.R (Kd.int .i64) 3 w' w.heap.size (fun _ => True) v0 (keysF 20 x) ∧ Below w.heap.size w w'
    obtain ⟨KL, hKL⟩ : ∃ KL, keysF 20 x = KL := ⟨_, rfl⟩
    rw [hKL] at KW HLK ⊢
    clear hKL
    go_enter Try.func14, Try.ntmps14
    go_wp2_with (first | ((with_reducible refine gate_dst (N := 1) rfl ?_); go_loud (refine box_event ?hg (N := 1) ?hd (cs := #[.slice A ns.length c, .int .i64 root]) (t := 29) ?hr ?_; (case hd => rfl); (case hg => rfl); (case hr => first | (go_simp; done) | (go_simp; rfl)); intro gb hg w1 hbox hb; have HB1 := Aside0.mk (below_step HB.out hb); have hcz0 : w1.cell? ⟨gb, 0, none⟩ = some (.slice A ns.length c) := (blk_cell hbox 0).trans rfl; have hcz1 : w1.cell? ⟨gb, 1, none⟩ = some (.int .i64 root) := (blk_cell hbox 1).trans rfl; clear HB; clear hb hbox hg)) | (go_at_call 23; go_loud (refine (BR.out _ HB1.out).mono ?_; rintro e w2 ⟨⟨Ay0, ny0, cy0, Ay1, ny1, cy1, rfl, hk⟩, hb2⟩; obtain ⟨rfl, rfl, hk2⟩ := hk x rfl; have HK2 := Aside0.mk hk2; have HB2 := Aside0.mk (below_step HB1.out hb2); clear hb2 hk hk2 hcz0 hcz1)) | ((with_reducible refine gate_dst (N := 4) rfl ?_); go_loud (refine box_event ?hg (N := 4) ?hd (cs := #[.slice none 0 0, .slice none 0 0]) (t := 47) ?hr ?_; (case hd => rfl); (case hg => rfl); (case hr => first | (go_simp; done) | (go_simp; rfl)); intro g4 hg w3 hbox hb; have HB3 := Aside0.mk (below_step HB2.out hb); have HR3 := Aside0.mk hb; have BK4 := Aside0.mk hbox; have GE3 := Aside0.mk (show w.heap.size ≤ g4 by have := below_size HB2.out; omega); have GR3 := Aside0.mk (show w2.heap.size ≤ g4 by omega); have hg4_0 : w3.cell? ⟨g4, 0, none⟩ = some (.slice none 0 0) := (blk_cell hbox 0).trans rfl; have fg4_0 := blk_frozen hbox 0; have hg4_1 : w3.cell? ⟨g4, 1, none⟩ = some (.slice none 0 0) := (blk_cell hbox 1).trans rfl; have fg4_1 := blk_frozen hbox 1; clear hb hbox hg)) | ((with_reducible refine gate_store (t := 47) (p := 4) rfl ?_); go_loud (refine store_event (t := 47) (p := 4) (v := ?vo) (w1 := ((w3.setCell ⟨g4, 0, none⟩ (.slice Ay0 x.f0.length cy0)).setCell ⟨g4, 1, none⟩ (.slice Ay1 x.f1.length cy1))) ?hg ?ho ?hn ?hr ?_; (case ho => rfl); (case hg => rfl); (case hn => rfl); (case hr => first | (go_simp; done) | (go_simp; rfl)); intro w5 hw; have HB5 := Aside0.mk (show Below w.heap.size w w5 by rw [hw]; exact below_set (below_set HB3.out GE3.out) GE3.out); have C5 := Aside0.mk (show Below w2.heap.size w2 w5 by rw [hw]; exact below_set (below_set HR3.out GR3.out) GR3.out); have BK4' := Aside0.mk (show w5.heap[g4]? = some (.cells #[.slice Ay0 x.f0.length cy0, .slice Ay1 x.f1.length cy1] 47 (0, 0)) by rw [hw]; refine blk_put (cs := #[.slice Ay0 x.f0.length cy0, .slice none 0 0]) ?_ 1 _ rfl; refine blk_put (cs := #[.slice none 0 0, .slice none 0 0]) ?_ 0 _ rfl; exact BK4.out); clear hg4_0 hg4_1 fg4_0 fg4_1; have hg4_0 : w5.cell? ⟨g4, 0, none⟩ = some (.slice Ay0 x.f0.length cy0) := (blk_cell BK4'.out 0).trans rfl; have hg4_1 : w5.cell? ⟨g4, 1, none⟩ = some (.slice Ay1 x.f1.length cy1) := (blk_cell BK4'.out 1).trans rfl; clear hw)) | ((with_reducible refine gate_dst (N := 13) rfl ?_); go_loud (refine Kd.R_lit (Kd.int .i64) _ 3 ?hg (N := 13) ?hd (xs := ([] : List Int)) (inner := []) (ok := fun _ => True) (okp := fun _ => True) ?hr ?hp (fun _ hk => hk) trivial (Below.refl _ _) (Nat.le_refl _) (by simp) ?_; (case hd => rfl); (case hg => rfl); (case hr => first | (go_simp; done) | (go_simp; rfl)); (case hp => exact (Reps.none _ _)); intro vl wl hol hbl hgl hnl; obtain ⟨Al, cl, el⟩ := Kd.R_slice hol; subst el; have HOL := Aside0.mk (Kd.R_lower hol (below_size HB5.out)); have HBL := Aside0.mk (below_step HB5.out hbl); have C6 := Aside0.mk (below_step C5.out hbl); clear hg4_0 hg4_1; have hg4_0 : wl.cell? ⟨g4, 0, none⟩ = some (.slice Ay0 x.f0.length cy0) := (blk_cell (blk_below BK4'.out hbl) 0).trans rfl; have hg4_1 : wl.cell? ⟨g4, 1, none⟩ = some (.slice Ay1 x.f1.length cy1) := (blk_cell (blk_below BK4'.out hbl) 1).trans rfl; clear hol hbl hgl hnl)) | (go_at_call 29; go_loud (refine (KW.out _ _ _ _ _ (k47.K_below C6.out HK2.out)).mono ?_; rintro e w7 ⟨⟨Ak, ck, rfl, hkl, hkc⟩, hb7⟩; have HB7 := Aside0.mk (below_step HBL.out hb7); have HO7 := Aside0.mk (Kd.R_below HOL.out hb7); have HKC := Aside0.mk hkc; clear hb7 hkl hkc hg4_0 hg4_1)) | ((with_reducible refine gate_builtin (b := .append) (xs := #[.tmp 13, .tmp 15]) rfl ?_); go_loud (at_builtin; refine Kd.R_append_rows (Kd.int .i64) (w0 := w) w.heap.size rfl (.tmp 13) (.tmp 15) 35 3 (.int .i64 0) 8 rfl Try.underlying35 info_int rfl (by decide) (by omega) (.slice Al ([] : List Int).length cl) [] KL _ _ _ (fun _ => True) (fun _ => False) rfl rfl ?aO ?aR (fun _ _ h => h) (fun _ h => h.elim) ?aF ?aB ?aS ?aL ?_; (case aR => exact HKC.out); (case aB => exact HB7.out); (case aF => exact (fun _ _ => trivial)); (case aO => exact HO7.out); (case aS => exact (below_size HB7.out)); (case aL => have := HLK.out; simp; omega); intro v9 w9 ho hb hg hat; have HO9 := Aside0.mk ho; have HB9 := Aside0.mk hb; clear ho hb hg hat)))
    obtain ⟨A9, c9, e9⟩ := Kd.R_slice HO9.out
    subst e9
    go_ret2
    exact ⟨_, rfl, HO9.out, HB9.out⟩
/-! #### what the marking of a tree leaves -/
def RowN (N1 N2 : Nat) (w : World) (v : Value) (m : Nat) : Prop := ∃ A c, v = .slice A m c ∧ (0 < m → ∃ b cur, A = some ⟨b, 0, none⟩ ∧ N1 ≤ b ∧ b < N2 ∧ w.heap[b]? = some (.cells cur 3 (0, 0)) ∧ m ≤ cur.size ∧ ∀ j, j < m → ∃ i, cur[j]? = some (.int .i64 i))
/-- only blocks from N1 to N2 have changed -/
def MkB (N1 N2 : Nat) (w w' : World) : Prop := Below N1 w w' ∧ ∀ k, N2 ≤ k → k < w.heap.size → w'.heap[k]? = w.heap[k]?
theorem MkB.refl (N1 N2 : Nat) (w : World) : MkB N1 N2 w w := ⟨Below.refl _ _, fun _ _ _ => rfl⟩
theorem MkB.trans {N1 N2 : Nat} {w w1 w2 : World} (h : MkB N1 N2 w w1) (k : MkB N1 N2 w1 w2) : MkB N1 N2 w w2 :=
  ⟨⟨k.1.os.trans h.1.os, k.1.tape.trans h.1.tape, k.1.output.trans h.1.output, Nat.le_trans h.1.size k.1.size, fun i hi => (k.1.block i hi).trans (h.1.block i hi)⟩, fun i hi hl => (k.2 i hi (Nat.lt_of_lt_of_le hl h.1.size)).trans (h.2 i hi hl)⟩
theorem MkB_set {N1 N2 : Nat} {w w' : World} (h : MkB N1 N2 w w') {b : Nat} (h1 : N1 ≤ b) (h2 : b < N2) (j : Nat) (u : Value) : MkB N1 N2 w (w'.setCell ⟨b, j, none⟩ u) :=
  h.trans ⟨⟨rfl, rfl, rfl, by simp [World.setCell], fun k hk => Below.heap_setCell w' ⟨b, j, none⟩ u k (show k ≠ b by omega)⟩, fun k hk _ => Below.heap_setCell w' ⟨b, j, none⟩ u k (show k ≠ b by omega)⟩
def Mrk (N1 N2 : Nat) (w w' : World) : Prop := MkB N1 N2 w w' ∧ (∀ v m, RowN N1 N2 w v m → RowN N1 N2 w' v m) ∧ ∀ (g : Nat) (cs : Array Value), w.heap[g]? = some (.cells cs 73 (0, 0)) → w'.heap[g]? = some (.cells cs 73 (0, 0))
theorem Mrk.refl (N1 N2 : Nat) (w : World) : Mrk N1 N2 w w := ⟨MkB.refl _ _ _, fun _ _ h => h, fun _ _ h => h⟩
theorem Mrk.trans {N1 N2 : Nat} {w w1 w2 : World} (h : Mrk N1 N2 w w1) (k : Mrk N1 N2 w1 w2) : Mrk N1 N2 w w2 :=
  ⟨h.1.trans k.1, fun v m q => k.2.1 v m (h.2.1 v m q), fun g cs q => k.2.2 g cs (h.2.2 g cs q)⟩
theorem Mrk_set {N1 N2 : Nat} {w w' : World} (h : Mrk N1 N2 w w') {b : Nat} {cur : Array Value} (hb : w'.heap[b]? = some (.cells cur 3 (0, 0))) (h1 : N1 ≤ b) (h2 : b < N2) (j : Nat) (i : Int) : Mrk N1 N2 w (w'.setCell ⟨b, j, none⟩ (.int .i64 i)) := by
  refine h.trans ⟨MkB_set (MkB.refl _ _ _) h1 h2 j _, ?_, fun g cs q => blk_far q (fun e => by
    have e2 : g = b := e
    rw [e2, hb] at q
    cases q) _⟩
  rintro v m ⟨A, c, rfl, hm⟩
  refine ⟨A, c, rfl, fun h0 => ?_⟩
  obtain ⟨b', cur', rfl, h3, h4, h5, h6, h7⟩ := hm h0
  by_cases e : b' = b
  · subst e
    rw [hb] at h5
    cases h5
    refine ⟨b', _, rfl, h3, h4, blk_put hb j (.int .i64 i) rfl, by rw [Array.size_setIfInBounds]; exact h6, fun q hq => ?_⟩
    rw [Array.getElem?_setIfInBounds]
    by_cases e2 : j = q
    · rw [if_pos e2, if_pos (by omega)]; exact ⟨i, rfl⟩
    · rw [if_neg e2]; exact h7 q hq
  · exact ⟨b', cur', rfl, h3, h4, blk_far h5 (p := ⟨b, j, none⟩) e _, h6, h7⟩
set_option maxHeartbeats 2000000 in
theorem markRow_w (N1 N2 : Nat) (w : World) (v : Value) (m a : Nat) (hr : RowN N1 N2 w v m) (hm : m ≤ 1048576) (ha : a < 1152921504606846976) : Calls Try.prog 18 #[v, .int .i64 (a : Int)] w fun e w' => e = .returned (.int .i64 ((a + m : Nat) : Int)) ∧ Mrk N1 N2 w w' := by
  obtain ⟨A, c, rfl, hm0⟩ := hr
  have HR := Aside0.mk (show RowN N1 N2 w (.slice A m c) m from ⟨A, c, rfl, hm0⟩)
  obtain ⟨fin, hfin⟩ : ∃ fin, ((a + m : Nat) : Int) = fin := ⟨_, rfl⟩
  obtain ⟨st, hst⟩ : ∃ st, (a : Int) = st := ⟨_, rfl⟩
  rw [hfin, hst]
  have HFI := Aside0.mk hfin
  have HST := Aside0.mk hst
  clear hfin hst
  have HM := Aside0.mk hm
  have HA := Aside0.mk ha
  clear hm0 hm ha
  go_enter Try.func18, Try.ntmps18
  go_wp2
  go_loopg [1, 5] m (fun kq v1 v5 w' => ∃ (i : Nat) (ai : Int), v1 = .int .i64 ai ∧ v5 = .int .i64 (i : Int) ∧ i ≤ m ∧ m - i ≤ kq ∧ Aside0 (ai = ((a + i : Nat) : Int)) ∧ Aside0 (Mrk N1 N2 w w'))
  case atStart => exact ⟨0, st, rfl, rfl, Nat.zero_le _, Nat.le_of_eq (Nat.sub_zero _), ⟨HST.out.symm⟩, ⟨Mrk.refl _ _ _⟩⟩
  case round =>
    obtain ⟨i, ai, rfl, rfl, hin, hkq, HAI, HK⟩ := hrel
    by_cases hlt : i < m
    · obtain ⟨A', c', e, hrow⟩ := HK.out.2.1 _ _ HR.out
      cases e
      obtain ⟨b, cur, rfl, h1, h2, h3, h4, h5⟩ := hrow (by omega)
      obtain ⟨x0, hx0⟩ := h5 i hlt
      have pi : 0 ≤ (i : Int) := Int.natCast_nonneg i
      have qi : (i : Int) < (m : Int) := Int.ofNat_lt.mpr hlt
      have hcell : wr.cell? ⟨b, i, none⟩ = some (.int .i64 x0) := (blk_cell h3 i).trans hx0
      have hfz := blk_frozen h3 i
      have HME := Aside0.mk (meas_dec hkq hlt)
      have HLT := Aside0.mk hlt
      have HW := Aside0.mk (wrap_inc i (by have := HM.out; omega))
      have HW2 := Aside0.mk (show wrap64 (ai + 1) = ((a + (i + 1) : Nat) : Int) by rw [HAI.out]; unfold wrap64; have := HM.out; have := HA.out; omega)
      have HKN := Aside0.mk (Mrk_set HK.out h3 h1 h2 i ai)
      clear h1 h2 h3 h4 h5 hx0 hrow hkq hlt hin HK HAI
      go_wp2
      go_roundg (m - (i + 1))
      case measure => exact HME.out
      case rel => exact ⟨i + 1, wrap64 (ai + 1), rfl, by first | (rw [HW.out]; done) | rfl, HLT.out, Nat.le_refl _, HW2, HKN⟩
    · obtain rfl : i = m := Nat.le_antisymm hin (Nat.not_lt.mp hlt)
      have hnl : ¬ ((i : Int) < (i : Int)) := Int.lt_irrefl _
      clear hkq hlt hin
      go_wp2
      go_ret
      exact ⟨by rw [show ai = fin from HAI.out.trans HFI.out]; rfl, HK.out⟩
/-- a row of nodes, as the marking wants it -/
def NodesN (N1 N2 : Nat) (w : World) (v : Value) (n : Nat) : Prop := ∃ A c, v = .slice A n c ∧ (0 < n → ∃ g cur, A = some ⟨g, 0, none⟩ ∧ N1 ≤ g ∧ g < N2 ∧ w.heap[g]? = some (.cells cur 73 (0, 0)) ∧ n * 3 ≤ cur.size ∧ ∀ i, i < n → ∃ b0 r1 r2 m1 m2, cur[i * 3]? = some (.bool b0) ∧ cur[i * 3 + 1]? = some r1 ∧ cur[i * 3 + 2]? = some r2 ∧ RowN N1 N2 w r1 m1 ∧ RowN N1 N2 w r2 m2 ∧ m1 ≤ 1048576 ∧ m2 ≤ 1048576)
theorem NodesN_mrk {N1 N2 : Nat} {w w' : World} {v : Value} {n : Nat} (h : NodesN N1 N2 w v n) (hk : Mrk N1 N2 w w') : NodesN N1 N2 w' v n := by
  obtain ⟨A, c, e, h⟩ := h
  refine ⟨A, c, e, fun h0 => ?_⟩
  obtain ⟨g, cur, e2, h1, h2, h3, h4, h5⟩ := h h0
  refine ⟨g, cur, e2, h1, h2, hk.2.2 g cur h3, h4, fun i hi => ?_⟩
  obtain ⟨b0, r1, r2, m1, m2, q1, q2, q3, q4, q5, q6⟩ := h5 i hi
  exact ⟨b0, r1, r2, m1, m2, q1, q2, q3, hk.2.1 _ _ q4, hk.2.1 _ _ q5, q6⟩
theorem RowN_bool {N1 N2 : Nat} {w : World} {g : Nat} {cur : Array Value} (hg : w.heap[g]? = some (.cells cur 73 (0, 0))) (j : Nat) (u : Value) {v : Value} {m : Nat} (h : RowN N1 N2 w v m) : RowN N1 N2 (w.setCell ⟨g, j, none⟩ u) v m := by
  obtain ⟨A, c, e, h⟩ := h
  refine ⟨A, c, e, fun h0 => ?_⟩
  obtain ⟨b, cur', e2, h1, h2, h3, h4⟩ := h h0
  refine ⟨b, cur', e2, h1, h2, blk_far h3 (p := ⟨g, j, none⟩) (fun e3 => ?_) _, h4⟩
  have e4 : b = g := e3
  rw [e4, hg] at h3
  cases h3
theorem NodesN_bool {N1 N2 : Nat} {w : World} {g : Nat} {cur : Array Value} {n c : Nat} (h : NodesN N1 N2 w (.slice (some ⟨g, 0, none⟩) n c) n) (hg : w.heap[g]? = some (.cells cur 73 (0, 0))) (i : Nat) (hi : i < n) (b : Bool) : NodesN N1 N2 (w.setCell ⟨g, i * 3, none⟩ (.bool b)) (.slice (some ⟨g, 0, none⟩) n c) n := by
  obtain ⟨A, c, e, h⟩ := h
  cases e
  refine ⟨_, c, rfl, fun h0 => ?_⟩
  obtain ⟨g', cur', e2, h1, h2, h3, h4, h5⟩ := h h0
  cases e2
  rw [hg] at h3
  cases h3
  refine ⟨g, _, rfl, h1, h2, blk_put hg (i * 3) (.bool b) rfl, by rw [Array.size_setIfInBounds]; exact h4, fun q hq => ?_⟩
  obtain ⟨b0, r1, r2, m1, m2, q1, q2, q3, q4, q5, q6⟩ := h5 q hq
  by_cases e : q = i
  · subst e
    refine ⟨b, r1, r2, m1, m2, ?_, ?_, ?_, RowN_bool hg _ _ q4, RowN_bool hg _ _ q5, q6⟩
    · rw [Array.getElem?_setIfInBounds, if_pos rfl, if_pos (by omega)]
    · rw [Array.getElem?_setIfInBounds, if_neg (by omega)]; exact q2
    · rw [Array.getElem?_setIfInBounds, if_neg (by omega)]; exact q3
  · refine ⟨b0, r1, r2, m1, m2, ?_, ?_, ?_, RowN_bool hg _ _ q4, RowN_bool hg _ _ q5, q6⟩
    · rw [Array.getElem?_setIfInBounds, if_neg (by omega)]; exact q1
    · rw [Array.getElem?_setIfInBounds, if_neg (by omega)]; exact q2
    · rw [Array.getElem?_setIfInBounds, if_neg (by omega)]; exact q3
set_option maxHeartbeats 4000000 in
theorem markNodes_w (N1 N2 : Nat) (w : World) (v : Value) (n : Nat) (hv : NodesN N1 N2 w v n) (hn : n ≤ 1048576) : Calls Try.prog 31 #[v, .int .i64 1] w fun e w' => (∃ r : Int, 0 ≤ r ∧ e = .returned (.int .i64 r)) ∧ MkB N1 N2 w w' := by
  obtain ⟨A, c, rfl, hm0⟩ := hv
  have HV := Aside0.mk (show NodesN N1 N2 w (.slice A n c) n from ⟨A, c, rfl, hm0⟩)
  have HN := Aside0.mk hn
  clear hm0 hn
  go_enter Try.func31, Try.ntmps31
  go_wp2
  go_loopg [1, 5] n (fun kq v1 v5 w' => ∃ (i : Nat) (a : Int), v1 = .int .i64 a ∧ v5 = .int .i64 (i : Int) ∧ i ≤ n ∧ n - i ≤ kq ∧ Aside0 (0 ≤ a ∧ a ≤ 1 + (i : Int) * 2097153) ∧ Aside0 (NodesN N1 N2 w' (.slice A n c) n) ∧ Aside0 (MkB N1 N2 w w'))
  case atStart => exact ⟨0, 1, rfl, rfl, Nat.zero_le _, Nat.le_of_eq (Nat.sub_zero _), ⟨by decide⟩, HV, ⟨MkB.refl _ _ _⟩⟩
  case round =>
    clear HV
    obtain ⟨i, a, rfl, rfl, hin, hkq, HA, HV, HK⟩ := hrel
    by_cases hlt : i < n
    · obtain ⟨A', c', e, hrow⟩ := HV.out
      cases e
      obtain ⟨g, cur, rfl, h1, h2, h3, h4, h5⟩ := hrow (by omega)
      obtain ⟨b0, r1, r2, m1, m2, q1, q2, q3, q4, q5, q6, q7⟩ := h5 i hlt
      have pi : 0 ≤ (i : Int) := Int.natCast_nonneg i
      have qi : (i : Int) < (n : Int) := Int.ofNat_lt.mpr hlt
      have hcell : wr.cell? ⟨g, i * 3, none⟩ = some (.bool b0) := (blk_cell h3 (i * 3)).trans q1
      have hfz := blk_frozen h3 (i * 3)
      have HME := Aside0.mk (meas_dec hkq hlt)
      have HLT := Aside0.mk hlt
      have HW := Aside0.mk (wrap_inc i (by have := HN.out; omega))
      obtain ⟨an, han⟩ : ∃ an : Nat, a = (an : Int) := ⟨a.toNat, by have := HA.out; omega⟩
      have hb3 : an ≤ 1 + i * 2097153 := by have := HA.out; omega
      have HB3 := Aside0.mk hb3
      have HW1 := Aside0.mk (show wrap64 (a + 1) = ((an + 1 : Nat) : Int) by rw [han]; unfold wrap64; have := HN.out; omega)
      -- the world behind the mark of the leaf flag, and the rows there
      have HGN : Aside0 (∀ b : Bool, NodesN N1 N2 (wr.setCell ⟨g, i * 3, none⟩ (.bool b)) (.slice (some ⟨g, 0, none⟩) n c) n ∧ RowN N1 N2 (wr.setCell ⟨g, i * 3, none⟩ (.bool b)) r1 m1 ∧ RowN N1 N2 (wr.setCell ⟨g, i * 3, none⟩ (.bool b)) r2 m2 ∧ (wr.setCell ⟨g, i * 3, none⟩ (.bool b)).heap[g]? = some (.cells (cur.setIfInBounds (i * 3) (.bool b)) 73 (0, 0)) ∧ MkB N1 N2 w (wr.setCell ⟨g, i * 3, none⟩ (.bool b))) := ⟨fun b => ⟨NodesN_bool HV.out h3 i hlt b, RowN_bool h3 _ _ q4, RowN_bool h3 _ _ q5, blk_put h3 (i * 3) (.bool b) rfl, MkB_set HK.out h1 h2 _ _⟩⟩
      have Q2 : Aside0 (∀ b : Bool, (cur.setIfInBounds (i * 3) (.bool b))[i * 3 + 1]? = some r1 ∧ (cur.setIfInBounds (i * 3) (.bool b))[i * 3 + 2]? = some r2) := ⟨fun b => ⟨by rw [Array.getElem?_setIfInBounds, if_neg (by omega)]; exact q2, by rw [Array.getElem?_setIfInBounds, if_neg (by omega)]; exact q3⟩⟩
      obtain ⟨A1, c1, rfl, _⟩ : ∃ A1 c1, r1 = .slice A1 m1 c1 ∧ True := by obtain ⟨A1, c1, e, _⟩ := q4; exact ⟨A1, c1, e, trivial⟩
      obtain ⟨A2, c2, rfl, _⟩ : ∃ A2 c2, r2 = .slice A2 m2 c2 ∧ True := by obtain ⟨A2, c2, e, _⟩ := q5; exact ⟨A2, c2, e, trivial⟩
      have HM := Aside0.mk (show m1 ≤ 1048576 ∧ m2 ≤ 1048576 from ⟨q6, q7⟩)
      obtain ⟨bb, hbb⟩ : ∃ bb, (Int.tmod a 3 == 0) = bb := ⟨_, rfl⟩
      have HAN := Aside0.mk han
      clear han
      obtain ⟨W1, hW1⟩ : ∃ W1, wr.setCell ⟨g, i * 3, none⟩ (.bool bb) = W1 := ⟨_, rfl⟩
      have G1 := HGN.out bb
      have G2 := Q2.out bb
      rw [hW1] at G1
      obtain ⟨k1, k2, k3, k4, k5⟩ := G1
      have HN1 := Aside0.mk k1
      have HR1 := Aside0.mk k2
      have HR2 := Aside0.mk k3
      have HH1 := Aside0.mk k4
      have HK1 := Aside0.mk k5
      have HQ := Aside0.mk G2
      clear h1 h2 h3 h4 h5 q1 q2 q3 q4 q5 q6 q7 hrow hkq hlt hin hb3 HV HK HGN Q2 k1 k2 k3 k4 k5 G2
      have HWE := Aside0.mk hW1
      clear hW1 HA
      have hh1 : W1.cell? ⟨g, i * 3 + 1, none⟩ = some (.slice A1 m1 c1) := (blk_cell HH1.out (i * 3 + 1)).trans HQ.out.1
      go_wp2_with (first | ((with_reducible refine gate_store (t := 4) (p := 18) rfl ?_); go_loud (refine store_event (t := 4) (p := 18) (v := ?vo) (w1 := wr.setCell ⟨g, i * 3, none⟩ (.bool bb)) ?hg ?ho ?hn ?hr ?_; (case ho => rfl); (case hg => rfl); (case hn => rfl); (case hr => first | (go_simp; done) | (go_simp; rfl)); rw [HWE.out]; intro w1_ hw1_; subst hw1_)) | (go_at_call 18; go_loud (first | (rw [HW1.out]; refine (markRow_w N1 N2 _ _ m1 (an + 1) HR1.out HM.out.1 (by have := HB3.out; have := HN.out; have := HLT.out; omega)).mono ?_; rintro e w2 ⟨rfl, hk2⟩; have HK2 := Aside0.mk hk2; clear hk2 hh1; have hh2 : w2.cell? ⟨g, i * 3 + 2, none⟩ = some (.slice A2 m2 c2) := (blk_cell (HK2.out.2.2 _ _ HH1.out) (i * 3 + 2)).trans HQ.out.2) | (refine (markRow_w N1 N2 _ _ m2 (an + 1 + m1) (HK2.out.2.1 _ _ HR2.out) HM.out.2 (by have := HB3.out; have := HN.out; have := HLT.out; have := HM.out.1; omega)).mono ?_; rintro e w3 ⟨rfl, hk3⟩; have HK3 := Aside0.mk hk3; clear hk3 hh2))))
      go_roundg (n - (i + 1))
      case measure => exact HME.out
      case rel => exact ⟨i + 1, ((an + 1 + m1 + m2 : Nat) : Int), by first | rfl | (simp; done), by first | (rw [HW.out]; done) | rfl, HLT.out, Nat.le_refl _, ⟨by have := HB3.out; have := HM.out; omega⟩, ⟨NodesN_mrk (NodesN_mrk HN1.out HK2.out) HK3.out⟩, ⟨HK1.out.trans (HK2.out.trans HK3.out).1⟩⟩
    · obtain rfl : i = n := Nat.le_antisymm hin (Nat.not_lt.mp hlt)
      have hnl : ¬ ((i : Int) < (i : Int)) := Int.lt_irrefl _
      clear hkq hlt hin
      go_wp2
      go_ret
      exact ⟨⟨a, HA.out.1, rfl⟩, HK.out⟩
set_option maxHeartbeats 2000000 in
theorem markTree_w (N1 N2 : Nat) (w : World) (A : Option Addr) (n c : Nat) (a : Int) (h12 : N1 ≤ N2) (h2 : N2 ≤ w.heap.size) (hv : ∀ W : World, Below w.heap.size w W → NodesN N1 N2 W (.slice A n c) n) (hn : n ≤ 1048576) : Calls Try.prog 17 #[.agg #[.slice A n c, .int .i64 a], .int .i64 1] w fun e w' => (∃ r : Int, 0 ≤ r ∧ e = .returned (.int .i64 r)) ∧ MkB N1 N2 w w' := by
  have MN : Aside0 (∀ W : World, Below w.heap.size w W → Calls Try.prog 31 #[.slice A n c, .int .i64 1] W fun e w' => (∃ r : Int, 0 ≤ r ∧ e = .returned (.int .i64 r)) ∧ MkB N1 N2 W w') := ⟨fun W hb => markNodes_w N1 N2 W _ n (hv W hb) hn⟩
  have HN := Aside0.mk (show N1 ≤ N2 ∧ N2 ≤ w.heap.size from ⟨h12, h2⟩)
  have HB := Aside0.mk (Below.refl w.heap.size w)
  clear hv hn h2 h12
  go_enter Try.func17, Try.ntmps17
  go_wp2_with (first | ((with_reducible refine gate_dst (N := 2) rfl ?_); go_loud (refine box_event ?hg (N := 2) ?hd (cs := #[.slice A n c, .int .i64 a]) (t := 29) ?hr ?_; (case hd => rfl); (case hg => rfl); (case hr => first | (go_simp; done) | (go_simp; rfl)); intro gt hg w1 hbox hb; have HB1 := Aside0.mk (below_step HB.out hb); have hgt_0 : w1.cell? ⟨gt, 0, none⟩ = some (.slice A n c) := (blk_cell hbox 0).trans rfl; have hgt_1 : w1.cell? ⟨gt, 1, none⟩ = some (.int .i64 a) := (blk_cell hbox 1).trans rfl; clear hb hbox hg)) | (go_at_call 31; go_loud (refine (MN.out _ HB1.out).mono ?_; rintro e w2 ⟨⟨r, hr, rfl⟩, hk2⟩; have HK := Aside0.mk hk2; have HRR := Aside0.mk hr; clear hk2 hr hgt_0 hgt_1)))
  go_ret
  refine ⟨⟨r, HRR.out, rfl⟩, ⟨⟨HK.out.1.os.trans HB1.out.os, HK.out.1.tape.trans HB1.out.tape, HK.out.1.output.trans HB1.out.output, Nat.le_trans (below_size HB1.out) HK.out.1.size, fun k hk => ?_⟩, fun k hk hl => ?_⟩⟩
  · by_cases h : k < w.heap.size
    · exact (HK.out.1.block k hk).trans (HB1.out.block k h)
    · have := HN.out; omega
  · exact (HK.out.2 k hk (Nat.lt_of_lt_of_le hl (below_size HB1.out))).trans (HB1.out.block k hl)

end Go.Proofs.Ytmgbfbpolmbnfaa.PFnExactKeysOf
