/- The walks of FnParity: Go's calls come to what the Lean functions beside them say; no condition. -/
import Derived.Test.YtfijnlhklfmoeaaQFnParityx0
import Derived.Test.YtfijnlhklfmoeaaQFnParityx10
import Derived.Test.YtfijnlhklfmoeaaQFnParityx11
namespace Go.Proofs.Ytfijnlhklfmoeaa.PFnParity
open Go.RowKit Go.Proofs.YtfijnlhklfmoeaaW.PrintWords Go.Proofs.YtfijnlhklfmoeaaW.PrintLast Go.Proofs.YtfijnlhklfmoeaaW.PrintMore
attribute [local go_sem] max2_int min2_int max_two min_two max_three min_three max_four min_four   -- for this text's walks alone
set_option linter.unusedVariables false
set_option linter.unusedSimpArgs false
set_option maxRecDepth 100000

/-! ### spec_DrawRecoverTwo: function 40 -/
def spec_DrawRecoverTwo.f (k : Nat) (l0 : List Int) : Option (List ByteArray × ByteArray × ByteArray × Int × Int) := (spec_l1Cur_stripe.f k l0 0 0).bind fun bt449 => ((spec_l1Cur_pick.f l0 bt449.2.2.2.1 bt449.2.2.2.2 (wrap64 ((bt449.1.length : Int) + 3))).bind fun bt457 => ((spec_l1Cur_pick.f l0 bt457.2.1 bt457.2.2 2).bind fun bt460 => ((spec_l1Cur_pick.f l0 bt460.2.1 bt460.2.2 2).bind fun bt463 => ((spec_l1Cur_pick.f l0 bt463.2.1 bt463.2.2 (wrap64 ((bt449.1.length : Int) + 2))).bind fun bt466 => (some (bt449.1, bt449.2.1, bt449.2.2.1, wrap64 (bt457.1 - (wrap64 (bt460.1 * bt463.1))), bt466.1))))))
theorem spec_DrawRecoverTwo.mono : ∀ a0 k, LeO (spec_DrawRecoverTwo.f k a0) (spec_DrawRecoverTwo.f (k + 1) a0) := by
 intro a0 k
 unfold spec_DrawRecoverTwo.f
 repeat' first
   | (with_reducible exact spec_l1Cur_stripe.mono _ _ _ _)
   | (with_reducible exact LeO.refl _)
   | (with_reducible exact LeO.none _)
   | (with_reducible refine LeO.ite ?_ ?_)
   | (with_reducible refine LeO.bind ?_ (fun _ => ?_))
   | exact spec_l1Cur_stripe.mono _ _ _ _
   | exact LeO.none _
   | refine LeO.ite ?_ ?_
   | refine LeO.bind ?_ (fun _ => ?_)
def spec_DrawRecoverTwo.T3 : Bool × List (List Nat × List Nat) := (true, [([], []), ([], []), ([], []), ([2], [2]), ([3], [3]), ([4], [4]), ([1, 5], [1, 5]), ([], []), ([7, 6], [7]), ([], []), ([9, 8], [9]), ([8, 10], [8, 10]), ([6, 11], [6, 11]), ([], []), ([], []), ([14], [14]), ([15], [15]), ([16], [16]), ([13, 17, 10], [13, 17]), ([0, 18, 0], [0]), ([12, 19, 0, 1, 2, 3, 4, 5, 6, 7, 8, 9, 10, 11, 12, 19], [12]), ([18, 20, 0, 1, 2, 3, 4, 5, 6, 7, 8, 9, 10, 11, 12, 13, 14, 15, 16, 17, 18, 19, 20], [18])])
def spec_DrawRecoverTwo.B3 : List Nat := [0, 0, 0, 4, 12, 28, 62, 0, 254, 0, 1022, 2046, 4094, 0, 0, 16384, 49152, 114688, 255998, 518143, 1048575, 2097151]
theorem spec_DrawRecoverTwo.tab3 : rtab .any (opsOf Try.f40 3) = spec_DrawRecoverTwo.T3 := by kernel_rfl
theorem spec_DrawRecoverTwo.bits3 : waitsOk spec_DrawRecoverTwo.T3.2 spec_DrawRecoverTwo.B3 = true := by kernel_rfl
set_option maxHeartbeats 8000000 in
set_option maxRecDepth 100000 in
theorem spec_DrawRecoverTwo.calls (k : Nat) (A0 : Option Addr) (c0 : Nat) (l0 : List Int) (r1 : List ByteArray) (r2 : ByteArray) (r3 : ByteArray) (r4 : Int) (r5 : Int) (w : World) (hr0 : Kd.C (Kd.int .u8) w A0 l0.length l0) (hc0 : l0.length ≤ c0) (h : spec_DrawRecoverTwo.f k l0 = some (r1, r2, r3, r4, r5)) :
  Calls Try.prog 40 #[.slice A0 l0.length c0] w fun e w' => ∃ v0_ : Value, e = .returned (.tuple #[.agg #[v0_, .string r2, .string r3], .int .i64 r4, .int .i64 r5]) ∧ Kd.R Kd.string 9 w' w.heap.size (fun _ => True) v0_ r1 ∧ Below w.heap.size w w' := by
 have hu27 := Try.underlying27; have hu75 := Try.underlying75; have HR0 := aM hr0; have HC0 := aM hc0; clear hr0 hc0; have HB := aM (Below.refl w.heap.size w)
 have H : ((spec_l1Cur_stripe.f k l0 0 0).bind fun bt449 => ((spec_l1Cur_pick.f l0 bt449.2.2.2.1 bt449.2.2.2.2 (wrap64 ((bt449.1.length : Int) + 3))).bind fun bt457 => ((spec_l1Cur_pick.f l0 bt457.2.1 bt457.2.2 2).bind fun bt460 => ((spec_l1Cur_pick.f l0 bt460.2.1 bt460.2.2 2).bind fun bt463 => ((spec_l1Cur_pick.f l0 bt463.2.1 bt463.2.2 (wrap64 ((bt449.1.length : Int) + 2))).bind fun bt466 => (some (bt449.1, bt449.2.1, bt449.2.2.1, wrap64 (bt457.1 - (wrap64 (bt460.1 * bt463.1))), bt466.1))))))) = some (r1, r2, r3, r4, r5) := h
 clear h; replace H := Option.bind_eq_some_iff.mp H; obtain ⟨⟨t449, t452, t453, t454, t455⟩, A20, H⟩ := H
 replace H : ((spec_l1Cur_pick.f l0 t454 t455 (wrap64 ((t449.length : Int) + 3))).bind fun bt457 => ((spec_l1Cur_pick.f l0 bt457.2.1 bt457.2.2 2).bind fun bt460 => ((spec_l1Cur_pick.f l0 bt460.2.1 bt460.2.2 2).bind fun bt463 => ((spec_l1Cur_pick.f l0 bt463.2.1 bt463.2.2 (wrap64 ((t449.length : Int) + 2))).bind fun bt466 => (some (t449, t452, t453, wrap64 (bt457.1 - (wrap64 (bt460.1 * bt463.1))), bt466.1)))))) = some (r1, r2, r3, r4, r5) := H
 have A2 := aM A20; clear A20; replace H := Option.bind_eq_some_iff.mp H; obtain ⟨⟨t457, t458, t459⟩, A30, H⟩ := H
 replace H : ((spec_l1Cur_pick.f l0 t458 t459 2).bind fun bt460 => ((spec_l1Cur_pick.f l0 bt460.2.1 bt460.2.2 2).bind fun bt463 => ((spec_l1Cur_pick.f l0 bt463.2.1 bt463.2.2 (wrap64 ((t449.length : Int) + 2))).bind fun bt466 => (some (t449, t452, t453, wrap64 (t457 - (wrap64 (bt460.1 * bt463.1))), bt466.1))))) = some (r1, r2, r3, r4, r5) := H
 have A3 := aM A30; clear A30; replace H := Option.bind_eq_some_iff.mp H; obtain ⟨⟨t460, t461, t462⟩, A40, H⟩ := H
 replace H : ((spec_l1Cur_pick.f l0 t461 t462 2).bind fun bt463 => ((spec_l1Cur_pick.f l0 bt463.2.1 bt463.2.2 (wrap64 ((t449.length : Int) + 2))).bind fun bt466 => (some (t449, t452, t453, wrap64 (t457 - (wrap64 (t460 * bt463.1))), bt466.1)))) = some (r1, r2, r3, r4, r5) := H
 have A4 := aM A40; clear A40; replace H := Option.bind_eq_some_iff.mp H; obtain ⟨⟨t463, t464, t465⟩, A50, H⟩ := H
 replace H : ((spec_l1Cur_pick.f l0 t464 t465 (wrap64 ((t449.length : Int) + 2))).bind fun bt466 => (some (t449, t452, t453, wrap64 (t457 - (wrap64 (t460 * t463))), bt466.1))) = some (r1, r2, r3, r4, r5) := H
 have A5 := aM A50; clear A50; replace H := Option.bind_eq_some_iff.mp H; obtain ⟨⟨t466, t467, t468⟩, A60, H⟩ := H; replace H : (some (t449, t452, t453, wrap64 (t457 - (wrap64 (t460 * t463))), t466)) = some (r1, r2, r3, r4, r5) := H; have A6 := aM A60; clear A60
 simp only [Option.some.injEq, Prod.mk.injEq] at H
 obtain ⟨rfl, rfl, rfl, rfl, rfl⟩ := H
 go_enter Try.func40, Try.ntmps40
 try go_wp2_with (first | ((with_reducible refine gate_dst (N := 2) rfl ?_); refine box_event ?hg (N := 2) ?hd (cs := #[.slice none 0 0, .string (⟨#[]⟩ : ByteArray), .string (⟨#[]⟩ : ByteArray)]) (t := 27) ?hr ?_; (case hd => rfl); (case hg => rfl); (case hr => first | (go_simp; done) | (go_simp; rfl)); intro gb447 hg w7 hbox hb; have BK447 := aM (hbox); have GW447 := aM ((by rw [hg]; exact (zZ (zH HB.out)) : w.heap.size ≤ gb447)); have GE447 := aM ((by rw [hg]; exact (zZ (zH HB.out)) : w.heap.size ≤ gb447)); replace HB := aM (zT (zH HB.out) hb); clear hb hbox hg) | ((with_reducible refine gate_dst (N := 9) rfl ?_); refine box_event ?hg (N := 9) ?hd (cs := #[.slice A0 l0.length c0, .int .i64 0, .int .u64 0]) (t := 75) ?hr ?_; (case hd => rfl); (case hg => rfl); (case hr => first | (go_simp; done) | (go_simp; rfl)); intro gb448 hg w8 hbox hb; have GW448 := aM ((by rw [hg]; exact (zZ (zH HB.out)) : w.heap.size ≤ gb448)); have GE448 := aM ((by rw [hg]; exact (zZ (zH HB.out)) : w.heap.size ≤ gb448)); have NB447_448 := nL BK447.out hg; have NB448_447 := nR BK447.out hg; replace BK447 := yK BK447.out hb; have HI448 := aM ((⟨_, _, hbox, (by rw [hg]; exact (zZ (zH HB.out))), HR0.out⟩ : IsS75 w _ gb448 l0 0 0)); replace HB := aM (zT (zH HB.out) hb); clear hb hbox hg) | ((with_reducible refine gate_callee (f := 64) rfl ?_); refine goesL_ (some 11) rfl rfl Try.func64 (by kernel_rfl) rfl #[.pointer (some ⟨gb448, 0, none⟩)] rfl mA ?_; (with_reducible refine (spec_l1Cur_stripe.calls k gb448 l0 0 0 t449 t452 t453 t454 t455 w _ ?side1 ?side2 A2.out).mono ?_); (case side1 => exact iA); (case side2 => exact bA); rintro e w9 ⟨v450, rfl, ho0, hi, hb, hk⟩; refine ⟨_, rfl, ?_⟩; replace BK447 := aM (KeepBut.blk hk (g' := gb447) (o := .cells #[.slice none 0 0, .string (⟨#[]⟩ : ByteArray), .string (⟨#[]⟩ : ByteArray)] 27 (0, 0)) (yH BK447.out) NB447_448.out (by simp)); have HO451 := aM (xL ho0 (zZ bA)); replace HB := aM (hb); replace HI448 := aM (hi); (try clear hb); (try clear ho0)) | ((with_reducible refine gate_dst (N := 6) rfl ?_); refine box_event ?hg (N := 6) ?hd (cs := #[.slice none 0 0, .string (⟨#[]⟩ : ByteArray), .string (⟨#[]⟩ : ByteArray)]) (t := 27) ?hr ?_; (case hd => rfl); (case hg => rfl); (case hr => first | (go_simp; done) | (go_simp; rfl)); intro gb456 hg w10 hbox hb; replace HO451 := xK HO451.out hb; have BK456 := aM (hbox); have GW456 := aM ((by rw [hg]; exact (zZ bA) : w.heap.size ≤ gb456)); have GE456 := aM ((by rw [hg]; exact (zZ bA) : w.heap.size ≤ gb456)); replace HB := aM (zT bA hb); have NB447_456 := nL BK447.out hg; have NB456_447 := nR BK447.out hg; replace BK447 := yK BK447.out hb; have NB448_456 := aM ((by rw [hg]; exact Nat.ne_of_lt (IsS75.lt (show IsS75 w _ gb448 l0 t454 t455 from by (try simp only [Int.add_zero]); repeat (first | (with_reducible first | exact HI448.out | apply IsS75.alloc | apply IsS75.drewN | apply IsS75.drew | apply IsS75.set_1 | apply IsS75.set_2 | refine IsS75.far ?_ NB448_447.out _) | exact HI448.out))) : gb448 ≠ gb456)); have NB456_448 := aM ((by rw [hg]; exact Nat.ne_of_gt (IsS75.lt (show IsS75 w _ gb448 l0 t454 t455 from by (try simp only [Int.add_zero]); repeat (first | (with_reducible first | exact HI448.out | apply IsS75.alloc | apply IsS75.drewN | apply IsS75.drew | apply IsS75.set_1 | apply IsS75.set_2 | refine IsS75.far ?_ NB448_447.out _) | exact HI448.out))) : gb456 ≠ gb448)); replace HI448 := aM (IsS75.below (by (try simp only [Int.add_zero]); repeat (first | (with_reducible first | exact HI448.out | apply IsS75.alloc | apply IsS75.drewN | apply IsS75.drew | apply IsS75.set_1 | apply IsS75.set_2 | refine IsS75.far ?_ NB448_447.out _) | exact HI448.out)) hb); clear hb hbox hg; obtain ⟨Ao11, co11, eo11⟩ := Kd.R_slice HO451.out; subst eo11; have hnb12 := NB456_447.out; have hnc12 := NB447_456.out; have hnb13 := NB456_448.out; have hnc13 := NB448_456.out; have hcz14_0 : w10.cell? ⟨gb456, 0, none⟩ = some (.slice none 0 0) := yc BK456.out 0; have hcz14_1 : w10.cell? ⟨gb456, 1, none⟩ = some (.string (⟨#[]⟩ : ByteArray)) := yc BK456.out 1; have hcz14_2 : w10.cell? ⟨gb456, 2, none⟩ = some (.string (⟨#[]⟩ : ByteArray)) := yc BK456.out 2; have hfz14_0 := yZ BK456.out 0; have hfz14_1 := yZ BK456.out 1; have hfz14_2 := yZ BK456.out 2))
 have n0_ : Aside0 (Kd.R Kd.string 9 (((w10.setCell ⟨gb456, 0, none⟩ (.slice Ao11 t449.length co11)).setCell ⟨gb456, 1, none⟩ (.string t452)).setCell ⟨gb456, 2, none⟩ (.string t453)) w.heap.size (fun _ => True) (.slice Ao11 t449.length co11) t449) := ⟨xH (xM (xF (p := ⟨gb456, 2, none⟩) (xF (p := ⟨gb456, 1, none⟩) (xF (p := ⟨gb456, 0, none⟩) (xT HO451.out BK456.out (by decide)) (fun _ hk => hk.2) (.slice Ao11 t449.length co11)) (fun _ hk => hk.2) (.string t452)) (fun _ hk => hk.2) (.string t453)) (fun _ hk => trivial))⟩
 have n1_ : Aside0 ((((w10.setCell ⟨gb456, 0, none⟩ (.slice Ao11 t449.length co11)).setCell ⟨gb456, 1, none⟩ (.string t452)).setCell ⟨gb456, 2, none⟩ (.string t453)).heap[gb447]? = some (.cells #[.slice none 0 0, .string (⟨#[]⟩ : ByteArray), .string (⟨#[]⟩ : ByteArray)] 27 (0, 0))) := ⟨by refine yW ?_; refine yF ?_ NB447_456.out _; refine yW ?_; refine yF ?_ NB447_456.out _; refine yW ?_; refine yF ?_ NB447_456.out _; refine yW ?_; exact BK447.out⟩
 have n2_ : Aside0 ((((w10.setCell ⟨gb456, 0, none⟩ (.slice Ao11 t449.length co11)).setCell ⟨gb456, 1, none⟩ (.string t452)).setCell ⟨gb456, 2, none⟩ (.string t453)).heap[gb456]? = some (.cells #[.slice Ao11 t449.length co11, .string t452, .string t453] 27 (0, 0))) := ⟨by refine yW ?_; refine yP (cs := #[.slice Ao11 t449.length co11, .string t452, .string (⟨#[]⟩ : ByteArray)]) ?_ 2 _ rfl; refine yW ?_; refine yP (cs := #[.slice Ao11 t449.length co11, .string (⟨#[]⟩ : ByteArray), .string (⟨#[]⟩ : ByteArray)]) ?_ 1 _ rfl; refine yW ?_; refine yP (cs := #[.slice none 0 0, .string (⟨#[]⟩ : ByteArray), .string (⟨#[]⟩ : ByteArray)]) ?_ 0 _ rfl; refine yW ?_; exact BK456.out⟩
 have n3_ : Aside0 (IsS75 w (((w10.setCell ⟨gb456, 0, none⟩ (.slice Ao11 t449.length co11)).setCell ⟨gb456, 1, none⟩ (.string t452)).setCell ⟨gb456, 2, none⟩ (.string t453)) gb448 l0 t454 t455) := ⟨by (try simp only [Int.add_zero]); repeat (first | (with_reducible first | exact HI448.out | apply IsS75.alloc | apply IsS75.drewN | apply IsS75.drew | apply IsS75.set_1 | apply IsS75.set_2 | refine IsS75.far ?_ NB448_447.out _ | refine IsS75.far ?_ NB448_456.out _) | exact HI448.out)⟩
 have n4_ : Aside0 (Below w.heap.size w (((w10.setCell ⟨gb456, 0, none⟩ (.slice Ao11 t449.length co11)).setCell ⟨gb456, 1, none⟩ (.string t452)).setCell ⟨gb456, 2, none⟩ (.string t453))) := ⟨bA⟩
 (try clear HO451); (try clear BK447); (try clear BK456); (try clear HI448); (try clear HB)
 generalize (((w10.setCell ⟨gb456, 0, none⟩ (.slice Ao11 t449.length co11)).setCell ⟨gb456, 1, none⟩ (.string t452)).setCell ⟨gb456, 2, none⟩ (.string t453)) = w15 at n0_ n1_ n2_ n3_ n4_ ⊢
 have HO451 := n0_; have BK447 := n1_; have BK456 := n2_; have HI448 := n3_; have HB := n4_; clear n0_ n1_ n2_ n3_ n4_; replace HO451 := aM (xD HO451.out); replace BK447 := aM (yD BK447.out); replace BK456 := aM (yD BK456.out); replace HI448 := aM (IsS75.drew HI448.out); replace HB := aM (zD HB.out)
 refine start_ (n := 22) (S := fun w' => w'.cell? ⟨gb456, 0, none⟩ = some (.slice Ao11 t449.length co11) ∧ w'.cell? ⟨gb456, 1, none⟩ = some (.string t452) ∧ w'.cell? ⟨gb456, 2, none⟩ = some (.string t453)) (ds := []) #[fF,fF,fF,fF,fF,fF,fF,fF,fF,fF,fF,fF,fF,fF,fF,fF,fF,fF,fF,fF,fF,fF] (by kernel_rfl) rfl rfl ⟨yc BK456.out 0, yc BK456.out 1, yc BK456.out 2⟩ (fun hHeld => ?_); refine with_tabW spec_DrawRecoverTwo.tab3 spec_DrawRecoverTwo.bits3 (fun HT_ HW_ => ?_)
 generalize w15.drew = w16 at HO451 BK447 BK456 HI448 HB hHeld ⊢
 refine pure_ (i := 1) (N := some 13) (v := ?_) (a' := ?_) #[fF,tT,fF,fF,fF,fF,fF,fF,fF,fF,fF,fF,fF,fF,fF,fF,fF,fF,fF,fF,fF,fF] rfl rfl (any_of HT_.out (by kernel_rfl)) (fun _ _ _ h => h) (Or.inl ⟨by rfl, ?_⟩) ?_ ?_
 rotate_left
 ·intro w'
  go_simp
  with_reducible rfl
 rotate_left
 ·simp only [Act.put, qA, qB, qC, i64_w, i32_w]
  rfl
 refine pure_ (i := 2) (N := some 14) (v := ?_) (a' := ?_) #[fF,tT,tT,fF,fF,fF,fF,fF,fF,fF,fF,fF,fF,fF,fF,fF,fF,fF,fF,fF,fF,fF] rfl rfl (any_of HT_.out (by kernel_rfl)) (fun _ _ _ h => h) (Or.inl ⟨by rfl, ?_⟩) ?_ ?_
 rotate_left
 ·intro w'
  go_simp
  with_reducible rfl
 rotate_left
 ·simp only [Act.put, qA, qB, qC, i64_w, i32_w]
  rfl
 refine pure_ (i := 7) (N := some 19) (v := ?_) (a' := ?_) #[fF,tT,tT,fF,fF,fF,fF,tT,fF,fF,fF,fF,fF,fF,fF,fF,fF,fF,fF,fF,fF,fF] rfl rfl (any_of HT_.out (by kernel_rfl)) (fun _ _ _ h => h) (Or.inl ⟨by rfl, ?_⟩) ?_ ?_
 rotate_left
 ·intro w'
  go_simp
  with_reducible rfl
 rotate_left
 ·simp only [Act.put, qA, qB, qC, i64_w, i32_w]
  rfl
 refine pure_ (i := 9) (N := some 21) (v := ?_) (a' := ?_) #[fF,tT,tT,fF,fF,fF,fF,tT,fF,tT,fF,fF,fF,fF,fF,fF,fF,fF,fF,fF,fF,fF] rfl rfl (any_of HT_.out (by kernel_rfl)) (fun _ _ _ h => h) (Or.inl ⟨by rfl, ?_⟩) ?_ ?_
 rotate_left
 ·intro w'
  go_simp
  with_reducible rfl
 rotate_left
 ·simp only [Act.put, qA, qB, qC, i64_w, i32_w]
  rfl
 refine pure_ (i := 13) (N := some 25) (v := ?_) (a' := ?_) #[fF,tT,tT,fF,fF,fF,fF,tT,fF,tT,fF,fF,fF,tT,fF,fF,fF,fF,fF,fF,fF,fF] rfl rfl (any_of HT_.out (by kernel_rfl)) (fun _ _ _ h => h) (Or.inl ⟨by rfl, ?_⟩) ?_ ?_
 rotate_left
 ·intro w'
  go_simp
  with_reducible rfl
 rotate_left
 ·simp only [Act.put, qA, qB, qC, i64_w, i32_w]
  rfl
 refine pure_ (i := 14) (N := some 26) (v := ?_) (a' := ?_) #[fF,tT,tT,fF,fF,fF,fF,tT,fF,tT,fF,fF,fF,tT,tT,fF,fF,fF,fF,fF,fF,fF] rfl rfl (any_of HT_.out (by kernel_rfl)) (fun _ _ _ h => h) (Or.inl ⟨by rfl, ?_⟩) ?_ ?_
 rotate_left
 ·intro w'
  go_simp
  with_reducible rfl
 rotate_left
 ·simp only [Act.put, qA, qB, qC, i64_w, i32_w]
  rfl
 refine take_ (i := 0) (N := some 12) (v := ?_) (a' := ?_) #[tT,tT,tT,fF,fF,fF,fF,tT,fF,tT,fF,fF,fF,tT,tT,fF,fF,fF,fF,fF,fF,fF] rfl rfl (take_ofW HT_.out HW_.out (by kernel_rfl)) (fun _ _ _ h => h) (Or.inl ⟨by rfl, ?_⟩) hHeld ?_ ?_
 rotate_left
 ·rintro w' ⟨s0, s1, s2⟩
  go_simp
  with_reducible rfl
 rotate_left
 ·simp only [Act.put, qA, qB, qC, i64_w, i32_w]
  rfl
 refine take_ (i := 3) (N := some 15) (v := ?_) (a' := ?_) #[tT,tT,tT,tT,fF,fF,fF,tT,fF,tT,fF,fF,fF,tT,tT,fF,fF,fF,fF,fF,fF,fF] rfl rfl (take_ofW HT_.out HW_.out (by kernel_rfl)) (fun _ _ _ h => h) (Or.inl ⟨by rfl, ?_⟩) hHeld ?_ ?_
 rotate_left
 ·rintro w' ⟨s0, s1, s2⟩
  go_simp
  with_reducible rfl
 rotate_left
 ·simp only [Act.put, qA, qB, qC, i64_w, i32_w]
  rfl
 refine pure_ (i := 4) (N := some 16) (v := ?_) (a' := ?_) #[tT,tT,tT,tT,tT,fF,fF,tT,fF,tT,fF,fF,fF,tT,tT,fF,fF,fF,fF,fF,fF,fF] rfl rfl (any_of HT_.out (by kernel_rfl)) (fun _ _ _ h => h) (Or.inl ⟨by rfl, ?_⟩) ?_ ?_
 rotate_left
 ·intro w'
  go_simp
  with_reducible rfl
 rotate_left
 ·simp only [Act.put, qA, qB, qC, i64_w, i32_w]
  rfl
 refine pure_ (i := 5) (N := some 17) (v := ?_) (a' := ?_) #[tT,tT,tT,tT,tT,tT,fF,tT,fF,tT,fF,fF,fF,tT,tT,fF,fF,fF,fF,fF,fF,fF] rfl rfl (any_of HT_.out (by kernel_rfl)) (fun _ _ _ h => h) (Or.inl ⟨by rfl, ?_⟩) ?_ ?_
 rotate_left
 ·intro w'
  go_simp
  with_reducible rfl
 rotate_left
 ·simp only [Act.put, qA, qB, qC, i64_w, i32_w]
  rfl
 refine take_ (i := 15) (N := some 27) (v := ?_) (a' := ?_) #[tT,tT,tT,tT,tT,tT,fF,tT,fF,tT,fF,fF,fF,tT,tT,tT,fF,fF,fF,fF,fF,fF] rfl rfl (take_ofW HT_.out HW_.out (by kernel_rfl)) (fun _ _ _ h => h) (Or.inl ⟨by rfl, ?_⟩) hHeld ?_ ?_
 rotate_left
 ·rintro w' ⟨s0, s1, s2⟩
  go_simp
  with_reducible rfl
 rotate_left
 ·simp only [Act.put, qA, qB, qC, i64_w, i32_w]
  rfl
 refine pure_ (i := 16) (N := some 28) (v := ?_) (a' := ?_) #[tT,tT,tT,tT,tT,tT,fF,tT,fF,tT,fF,fF,fF,tT,tT,tT,tT,fF,fF,fF,fF,fF] rfl rfl (any_of HT_.out (by kernel_rfl)) (fun _ _ _ h => h) (Or.inl ⟨by rfl, ?_⟩) ?_ ?_
 rotate_left
 ·intro w'
  go_simp
  with_reducible rfl
 rotate_left
 ·simp only [Act.put, qA, qB, qC, i64_w, i32_w]
  rfl
 refine pure_ (i := 17) (N := some 29) (v := ?_) (a' := ?_) #[tT,tT,tT,tT,tT,tT,fF,tT,fF,tT,fF,fF,fF,tT,tT,tT,tT,tT,fF,fF,fF,fF] rfl rfl (any_of HT_.out (by kernel_rfl)) (fun _ _ _ h => h) (Or.inl ⟨by rfl, ?_⟩) ?_ ?_
 rotate_left
 ·intro w'
  go_simp
  with_reducible rfl
 rotate_left
 ·simp only [Act.put, qA, qB, qC, i64_w, i32_w]
  rfl
 refine one_ (i := 6) (N := some 18) #[tT,tT,tT,tT,tT,tT,tT,tT,fF,tT,fF,fF,fF,tT,tT,tT,tT,tT,fF,fF,fF,fF] rfl rfl (one_of HT_.out (by kernel_rfl)) (by decide) (fun K hK => ?_)
 refine gS Try.func65 (by kernel_rfl) rfl #[.pointer (some ⟨gb448, 0, none⟩), .int .i64 (wrap64 ((t449.length : Int) + 3))] (by rfl) rfl rfl ?_
 with_reducible refine (spec_l1Cur_pick.calls gb448 l0 t454 t455 (wrap64 ((t449.length : Int) + 3)) t457 t458 t459 w _ ?side1 ?side2 A3.out).mono ?_
 (case side1 => exact iA)
 (case side2 => exact bA)
 rintro e w17 ⟨rfl, hi, hb, hk⟩
 refine ⟨_, rfl, ?_⟩
 replace BK447 := aM (KeepBut.blk hk (g' := gb447) (o := .cells #[.slice none 0 0, .string (⟨#[]⟩ : ByteArray), .string (⟨#[]⟩ : ByteArray)] 27 (0, 0)) (yH BK447.out) NB447_448.out (by simp))
 replace HO451 := aM (xM (Kd.R_keep (IsS75.apart (show IsS75 w _ gb448 l0 t454 t455 from by (try simp only [Int.add_zero]); repeat (first | (with_reducible first | exact HI448.out | apply IsS75.alloc | apply IsS75.drewN | apply IsS75.drew | apply IsS75.set_1 | apply IsS75.set_2 | refine IsS75.far ?_ NB448_447.out _ | refine IsS75.far ?_ NB448_456.out _) | exact HI448.out)) (xH HO451.out) (by decide)) hk (fun _ h => h.2)) (fun _ h => h.1))
 replace BK456 := aM (KeepBut.blk hk (g' := gb456) (o := .cells #[.slice Ao11 t449.length co11, .string t452, .string t453] 27 (0, 0)) (yH BK456.out) NB456_448.out (by simp))
 replace HB := aM (hb); replace HI448 := aM (hi)
 (try clear hb)
 refine hK.out _ _ ⟨yc BK456.out 0, yc BK456.out 1, yc BK456.out 2⟩ (fun hHeld => ?_)
 clear hK K; refine norm_ (a' := ?_) ?_ ?_; rotate_left
 ·show Act.put _ (some 18) _ = _
  simp only [Act.put, qA, qB, qC, i64_w, i32_w]
  rfl
 refine one_ (i := 8) (N := some 20) #[tT,tT,tT,tT,tT,tT,tT,tT,tT,tT,fF,fF,fF,tT,tT,tT,tT,tT,fF,fF,fF,fF] rfl rfl (one_of HT_.out (by kernel_rfl)) (by decide) (fun K hK => ?_)
 refine gS Try.func65 (by kernel_rfl) rfl #[.pointer (some ⟨gb448, 0, none⟩), .int .i64 2] (by rfl) rfl rfl ?_
 with_reducible refine (spec_l1Cur_pick.calls gb448 l0 t458 t459 2 t460 t461 t462 w _ ?side1 ?side2 A4.out).mono ?_
 (case side1 => exact iA)
 (case side2 => exact bA)
 rintro e w18 ⟨rfl, hi, hb, hk⟩
 refine ⟨_, rfl, ?_⟩
 replace BK447 := aM (KeepBut.blk hk (g' := gb447) (o := .cells #[.slice none 0 0, .string (⟨#[]⟩ : ByteArray), .string (⟨#[]⟩ : ByteArray)] 27 (0, 0)) (yH BK447.out) NB447_448.out (by simp))
 replace HO451 := aM (xM (Kd.R_keep (IsS75.apart (show IsS75 w _ gb448 l0 t458 t459 from by (try simp only [Int.add_zero]); repeat (first | (with_reducible first | exact HI448.out | apply IsS75.alloc | apply IsS75.drewN | apply IsS75.drew | apply IsS75.set_1 | apply IsS75.set_2 | refine IsS75.far ?_ NB448_447.out _ | refine IsS75.far ?_ NB448_456.out _) | exact HI448.out)) (xH HO451.out) (by decide)) hk (fun _ h => h.2)) (fun _ h => h.1))
 replace BK456 := aM (KeepBut.blk hk (g' := gb456) (o := .cells #[.slice Ao11 t449.length co11, .string t452, .string t453] 27 (0, 0)) (yH BK456.out) NB456_448.out (by simp))
 replace HB := aM (hb); replace HI448 := aM (hi)
 (try clear hb)
 refine hK.out _ _ ⟨yc BK456.out 0, yc BK456.out 1, yc BK456.out 2⟩ (fun hHeld => ?_)
 clear hK K; refine norm_ (a' := ?_) ?_ ?_; rotate_left
 ·show Act.put _ (some 20) _ = _
  simp only [Act.put, qA, qB, qC, i64_w, i32_w]
  rfl
 refine one_ (i := 10) (N := some 22) #[tT,tT,tT,tT,tT,tT,tT,tT,tT,tT,tT,fF,fF,tT,tT,tT,tT,tT,fF,fF,fF,fF] rfl rfl (one_of HT_.out (by kernel_rfl)) (by decide) (fun K hK => ?_)
 refine gS Try.func65 (by kernel_rfl) rfl #[.pointer (some ⟨gb448, 0, none⟩), .int .i64 2] (by rfl) rfl rfl ?_
 with_reducible refine (spec_l1Cur_pick.calls gb448 l0 t461 t462 2 t463 t464 t465 w _ ?side1 ?side2 A5.out).mono ?_
 (case side1 => exact iA)
 (case side2 => exact bA)
 rintro e w19 ⟨rfl, hi, hb, hk⟩
 refine ⟨_, rfl, ?_⟩
 replace BK447 := aM (KeepBut.blk hk (g' := gb447) (o := .cells #[.slice none 0 0, .string (⟨#[]⟩ : ByteArray), .string (⟨#[]⟩ : ByteArray)] 27 (0, 0)) (yH BK447.out) NB447_448.out (by simp))
 replace HO451 := aM (xM (Kd.R_keep (IsS75.apart (show IsS75 w _ gb448 l0 t461 t462 from by (try simp only [Int.add_zero]); repeat (first | (with_reducible first | exact HI448.out | apply IsS75.alloc | apply IsS75.drewN | apply IsS75.drew | apply IsS75.set_1 | apply IsS75.set_2 | refine IsS75.far ?_ NB448_447.out _ | refine IsS75.far ?_ NB448_456.out _) | exact HI448.out)) (xH HO451.out) (by decide)) hk (fun _ h => h.2)) (fun _ h => h.1))
 replace BK456 := aM (KeepBut.blk hk (g' := gb456) (o := .cells #[.slice Ao11 t449.length co11, .string t452, .string t453] 27 (0, 0)) (yH BK456.out) NB456_448.out (by simp))
 replace HB := aM (hb); replace HI448 := aM (hi)
 (try clear hb)
 refine hK.out _ _ ⟨yc BK456.out 0, yc BK456.out 1, yc BK456.out 2⟩ (fun hHeld => ?_)
 clear hK K; refine norm_ (a' := ?_) ?_ ?_; rotate_left
 ·show Act.put _ (some 22) _ = _
  simp only [Act.put, qA, qB, qC, i64_w, i32_w]
  rfl
 refine pure_ (i := 11) (N := some 23) (v := ?_) (a' := ?_) #[tT,tT,tT,tT,tT,tT,tT,tT,tT,tT,tT,tT,fF,tT,tT,tT,tT,tT,fF,fF,fF,fF] rfl rfl (any_of HT_.out (by kernel_rfl)) (fun _ _ _ h => h) (Or.inl ⟨by rfl, ?_⟩) ?_ ?_
 rotate_left
 ·intro w'
  go_simp
  with_reducible rfl
 rotate_left
 ·simp only [Act.put, qA, qB, qC, i64_w, i32_w]
  rfl
 refine pure_ (i := 12) (N := some 24) (v := ?_) (a' := ?_) #[tT,tT,tT,tT,tT,tT,tT,tT,tT,tT,tT,tT,tT,tT,tT,tT,tT,tT,fF,fF,fF,fF] rfl rfl (any_of HT_.out (by kernel_rfl)) (fun _ _ _ h => h) (Or.inl ⟨by rfl, ?_⟩) ?_ ?_
 rotate_left
 ·intro w'
  go_simp
  with_reducible rfl
 rotate_left
 ·simp only [Act.put, qA, qB, qC, i64_w, i32_w]
  rfl
 refine one_ (i := 18) (N := some 30) #[tT,tT,tT,tT,tT,tT,tT,tT,tT,tT,tT,tT,tT,tT,tT,tT,tT,tT,tT,fF,fF,fF] rfl rfl (one_of HT_.out (by kernel_rfl)) (by decide) (fun K hK => ?_)
 refine gS Try.func65 (by kernel_rfl) rfl #[.pointer (some ⟨gb448, 0, none⟩), .int .i64 (wrap64 ((t449.length : Int) + 2))] (by rfl) rfl rfl ?_
 with_reducible refine (spec_l1Cur_pick.calls gb448 l0 t464 t465 (wrap64 ((t449.length : Int) + 2)) t466 t467 t468 w _ ?side1 ?side2 A6.out).mono ?_
 (case side1 => exact iA)
 (case side2 => exact bA)
 rintro e w20 ⟨rfl, hi, hb, hk⟩
 refine ⟨_, rfl, ?_⟩
 replace BK447 := aM (KeepBut.blk hk (g' := gb447) (o := .cells #[.slice none 0 0, .string (⟨#[]⟩ : ByteArray), .string (⟨#[]⟩ : ByteArray)] 27 (0, 0)) (yH BK447.out) NB447_448.out (by simp))
 replace HO451 := aM (xM (Kd.R_keep (IsS75.apart (show IsS75 w _ gb448 l0 t464 t465 from by (try simp only [Int.add_zero]); repeat (first | (with_reducible first | exact HI448.out | apply IsS75.alloc | apply IsS75.drewN | apply IsS75.drew | apply IsS75.set_1 | apply IsS75.set_2 | refine IsS75.far ?_ NB448_447.out _ | refine IsS75.far ?_ NB448_456.out _) | exact HI448.out)) (xH HO451.out) (by decide)) hk (fun _ h => h.2)) (fun _ h => h.1))
 replace BK456 := aM (KeepBut.blk hk (g' := gb456) (o := .cells #[.slice Ao11 t449.length co11, .string t452, .string t453] 27 (0, 0)) (yH BK456.out) NB456_448.out (by simp))
 replace HB := aM (hb); replace HI448 := aM (hi)
 (try clear hb)
 refine hK.out _ _ ⟨yc BK456.out 0, yc BK456.out 1, yc BK456.out 2⟩ (fun hHeld => ?_)
 clear hK K; refine norm_ (a' := ?_) ?_ ?_; rotate_left
 ·show Act.put _ (some 30) _ = _
  simp only [Act.put, qA, qB, qC, i64_w, i32_w]
  rfl
 refine one_ (i := 19) (N := none) #[tT,tT,tT,tT,tT,tT,tT,tT,tT,tT,tT,tT,tT,tT,tT,tT,tT,tT,tT,tT,fF,fF] rfl rfl (one_of HT_.out (by kernel_rfl)) (by decide) (fun K hK => ?_)
 have hs21 : w20.cell? ⟨gb447, 0, none⟩ = some (.slice none 0 0) := yc BK447.out 0; have hfs21 := yZ BK447.out 0; have hns21_1 := NB456_447.out; have hms21_1 := NB447_456.out; have hs22 : w20.cell? ⟨gb447, 1, none⟩ = some (.string (⟨#[]⟩ : ByteArray)) := yc BK447.out 1; have hfs22 := yZ BK447.out 1; have hns22_1 := NB456_447.out; have hms22_1 := NB447_456.out; have hs23 : w20.cell? ⟨gb447, 2, none⟩ = some (.string (⟨#[]⟩ : ByteArray)) := yc BK447.out 2; have hfs23 := yZ BK447.out 2; have hns23_1 := NB456_447.out; have hms23_1 := NB447_456.out
 refine skip_ (w1 := ?_) (by rfl) rfl ?_ ?_
 rotate_left
 ·go_simp
  rfl
 refine hK.out _ _ ⟨((cell_far (p := ⟨gb447, _, none⟩) NB456_447.out _).trans (((cell_far (p := ⟨gb447, _, none⟩) NB456_447.out _).trans (((cell_far (p := ⟨gb447, _, none⟩) NB456_447.out _).trans (hHeld.1)))))), ((cell_far (p := ⟨gb447, _, none⟩) NB456_447.out _).trans (((cell_far (p := ⟨gb447, _, none⟩) NB456_447.out _).trans (((cell_far (p := ⟨gb447, _, none⟩) NB456_447.out _).trans (hHeld.2.1)))))), ((cell_far (p := ⟨gb447, _, none⟩) NB456_447.out _).trans (((cell_far (p := ⟨gb447, _, none⟩) NB456_447.out _).trans (((cell_far (p := ⟨gb447, _, none⟩) NB456_447.out _).trans (hHeld.2.2))))))⟩ (fun hHeld => ?_)
 clear hK K
 refine pure_ (i := 20) (N := some 3) (v := ?_) (a' := ?_) #[tT,tT,tT,tT,tT,tT,tT,tT,tT,tT,tT,tT,tT,tT,tT,tT,tT,tT,tT,tT,tT,fF] rfl rfl (any_of HT_.out (by kernel_rfl)) (fun _ _ _ h => h) (Or.inl ⟨by rfl, ?_⟩) ?_ ?_
 rotate_left
 ·intro w'
  go_simp
  with_reducible rfl
 rotate_left
 ·simp only [Act.put, qA, qB, qC, i64_w, i32_w]
  rfl
 refine pure_ (i := 21) (N := some 4) (v := ?_) (a' := ?_) #[tT,tT,tT,tT,tT,tT,tT,tT,tT,tT,tT,tT,tT,tT,tT,tT,tT,tT,tT,tT,tT,tT] rfl rfl (any_of HT_.out (by kernel_rfl)) (fun _ _ _ h => h) (Or.inl ⟨by rfl, ?_⟩) ?_ ?_
 rotate_left
 ·intro w'
  go_simp
  with_reducible rfl
 rotate_left
 ·simp only [Act.put, qA, qB, qC, i64_w, i32_w]
  rfl
 refine done_ (done_of HT_.out (by kernel_rfl)) ?_
 try go_wp2
 refine bodyPost_ret (results_ctt rfl _ _ gb447 27 #[.slice Ao11 t449.length co11, .string t452, .string t453] (0, 0) _ rfl (by refine yW ?_; refine yP (cs := #[.slice Ao11 t449.length co11, .string t452, .string (⟨#[]⟩ : ByteArray)]) ?_ 2 _ rfl; refine yW ?_; refine yP (cs := #[.slice Ao11 t449.length co11, .string (⟨#[]⟩ : ByteArray), .string (⟨#[]⟩ : ByteArray)]) ?_ 1 _ rfl; refine yW ?_; refine yP (cs := #[.slice none 0 0, .string (⟨#[]⟩ : ByteArray), .string (⟨#[]⟩ : ByteArray)]) ?_ 0 _ rfl; refine yW ?_; exact BK447.out) Try.underlying27 rfl (by kernel_rfl)) rfl ?_
 exact ⟨_, eW, xH (xM (xF (p := ⟨gb447, 2, none⟩) (xF (p := ⟨gb447, 1, none⟩) (xF (p := ⟨gb447, 0, none⟩) (xT HO451.out BK447.out (by decide)) (fun _ hk => hk.2) (.slice Ao11 t449.length co11)) (fun _ hk => hk.2) (.string t452)) (fun _ hk => hk.2) (.string t453)) (fun _ hk => trivial)), bA⟩

end Go.Proofs.Ytfijnlhklfmoeaa.PFnParity
