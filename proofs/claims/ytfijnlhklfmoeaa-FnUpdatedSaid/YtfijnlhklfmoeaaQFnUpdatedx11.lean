/- The walks of FnUpdated: Go's calls come to what the Lean functions beside them say; no condition. -/
import Derived.Test.YtfijnlhklfmoeaaQFnUpdatedx0
import Derived.Test.YtfijnlhklfmoeaaQFnUpdatedx9
import Derived.Test.YtfijnlhklfmoeaaQFnUpdatedx10
namespace Go.Proofs.Ytfijnlhklfmoeaa.PFnUpdated
open Go.RowKit Go.Proofs.YtfijnlhklfmoeaaW.PrintWords Go.Proofs.YtfijnlhklfmoeaaW.PrintLast Go.Proofs.YtfijnlhklfmoeaaW.PrintMore
attribute [local go_sem] max2_int min2_int max_two min_two max_three min_three max_four min_four   -- for this text's walks alone
set_option linter.unusedVariables false
set_option linter.unusedSimpArgs false
set_option maxRecDepth 100000

/-! ### spec_DrawUpdateStripe: function 35 -/
def spec_DrawUpdateStripe.f (k : Nat) (l0 : List Int) : Option (List ByteArray × ByteArray × ByteArray × Int × ByteArray) := (spec_l1Cur_stripe.f k l0 0 0).bind fun bt382 => ((spec_l1Cur_pick.f l0 bt382.2.2.2.1 bt382.2.2.2.2 (wrap64 ((bt382.1.length : Int) + 1))).bind fun bt390 => ((spec_l1Cur_text.f k l0 bt390.2.1 bt390.2.2 (bt382.2.1.size : Int)).bind fun bt393 => (some (bt382.1, bt382.2.1, bt382.2.2.1, bt390.1, bt393.1))))
theorem spec_DrawUpdateStripe.mono : ∀ a0 k, LeO (spec_DrawUpdateStripe.f k a0) (spec_DrawUpdateStripe.f (k + 1) a0) := by
 intro a0 k
 unfold spec_DrawUpdateStripe.f
 repeat' first
   | (with_reducible exact spec_l1Cur_stripe.mono _ _ _ _)
   | (with_reducible exact spec_l1Cur_text.mono _ _ _ _ _)
   | (with_reducible exact LeO.refl _)
   | (with_reducible exact LeO.none _)
   | (with_reducible refine LeO.ite ?_ ?_)
   | (with_reducible refine LeO.bind ?_ (fun _ => ?_))
   | exact spec_l1Cur_stripe.mono _ _ _ _
   | exact spec_l1Cur_text.mono _ _ _ _ _
   | exact LeO.none _
   | refine LeO.ite ?_ ?_
   | refine LeO.bind ?_ (fun _ => ?_)
def spec_DrawUpdateStripe.T3 : Bool × List (List Nat × List Nat) := (true, [([], []), ([], []), ([], []), ([2], [2]), ([3], [3]), ([4], [4]), ([1, 5], [1, 5]), ([], []), ([], []), ([8], [8]), ([9], [9]), ([7, 10, 6], [7, 10]), ([0, 11, 0], [0]), ([6, 12, 0, 1, 2, 3, 4, 5, 6, 12], [6]), ([11, 13, 0, 1, 2, 3, 4, 5, 6, 7, 8, 9, 10, 11, 12, 13], [11])])
def spec_DrawUpdateStripe.B3 : List Nat := [0, 0, 0, 4, 12, 28, 62, 0, 0, 256, 768, 2046, 4095, 8191, 16383]
theorem spec_DrawUpdateStripe.tab3 : rtab .any (opsOf Try.f35 3) = spec_DrawUpdateStripe.T3 := by kernel_rfl
theorem spec_DrawUpdateStripe.bits3 : waitsOk spec_DrawUpdateStripe.T3.2 spec_DrawUpdateStripe.B3 = true := by kernel_rfl
set_option maxHeartbeats 8000000 in
set_option maxRecDepth 100000 in
theorem spec_DrawUpdateStripe.calls (k : Nat) (A0 : Option Addr) (c0 : Nat) (l0 : List Int) (r1 : List ByteArray) (r2 : ByteArray) (r3 : ByteArray) (r4 : Int) (r5 : ByteArray) (w : World) (hr0 : Kd.C (Kd.int .u8) w A0 l0.length l0) (hc0 : l0.length ≤ c0) (h : spec_DrawUpdateStripe.f k l0 = some (r1, r2, r3, r4, r5)) :
  Calls Try.prog 35 #[.slice A0 l0.length c0] w fun e w' => ∃ v0_ : Value, e = .returned (.tuple #[.agg #[v0_, .string r2, .string r3], .int .i64 r4, .string r5]) ∧ Kd.R Kd.string 9 w' w.heap.size (fun _ => True) v0_ r1 ∧ Below w.heap.size w w' := by
 have hu27 := Try.underlying27
 have hu75 := Try.underlying75
 have HR0 := aM hr0
 have HC0 := aM hc0
 clear hr0 hc0
 have HB := aM (Below.refl w.heap.size w)
 have H : ((spec_l1Cur_stripe.f k l0 0 0).bind fun bt382 => ((spec_l1Cur_pick.f l0 bt382.2.2.2.1 bt382.2.2.2.2 (wrap64 ((bt382.1.length : Int) + 1))).bind fun bt390 => ((spec_l1Cur_text.f k l0 bt390.2.1 bt390.2.2 (bt382.2.1.size : Int)).bind fun bt393 => (some (bt382.1, bt382.2.1, bt382.2.2.1, bt390.1, bt393.1))))) = some (r1, r2, r3, r4, r5) := h
 clear h
 replace H := Option.bind_eq_some_iff.mp H
 obtain ⟨⟨t382, t385, t386, t387, t388⟩, A20, H⟩ := H
 replace H : ((spec_l1Cur_pick.f l0 t387 t388 (wrap64 ((t382.length : Int) + 1))).bind fun bt390 => ((spec_l1Cur_text.f k l0 bt390.2.1 bt390.2.2 (t385.size : Int)).bind fun bt393 => (some (t382, t385, t386, bt390.1, bt393.1)))) = some (r1, r2, r3, r4, r5) := H
 have A2 := aM A20
 clear A20
 replace H := Option.bind_eq_some_iff.mp H
 obtain ⟨⟨t390, t391, t392⟩, A30, H⟩ := H
 replace H : ((spec_l1Cur_text.f k l0 t391 t392 (t385.size : Int)).bind fun bt393 => (some (t382, t385, t386, t390, bt393.1))) = some (r1, r2, r3, r4, r5) := H
 have A3 := aM A30
 clear A30
 replace H := Option.bind_eq_some_iff.mp H
 obtain ⟨⟨t393, t394, t395⟩, A40, H⟩ := H
 replace H : (some (t382, t385, t386, t390, t393)) = some (r1, r2, r3, r4, r5) := H
 have A4 := aM A40
 clear A40
 simp only [Option.some.injEq, Prod.mk.injEq] at H
 obtain ⟨rfl, rfl, rfl, rfl, rfl⟩ := H
 go_enter Try.func35, Try.ntmps35
 try go_wp2_with (first | ((with_reducible refine gate_dst (N := 2) rfl ?_); refine box_event ?hg (N := 2) ?hd (cs := #[.slice none 0 0, .string (⟨#[]⟩ : ByteArray), .string (⟨#[]⟩ : ByteArray)]) (t := 27) ?hr ?_; (case hd => rfl); (case hg => rfl); (case hr => first | (go_simp; done) | (go_simp; rfl)); intro gb380 hg w5 hbox hb; have BK380 := aM (hbox); have GW380 := aM ((by rw [hg]; exact (zZ (zH HB.out)) : w.heap.size ≤ gb380)); have GE380 := aM ((by rw [hg]; exact (zZ (zH HB.out)) : w.heap.size ≤ gb380)); replace HB := aM (zT (zH HB.out) hb); clear hb hbox hg) | ((with_reducible refine gate_dst (N := 9) rfl ?_); refine box_event ?hg (N := 9) ?hd (cs := #[.slice A0 l0.length c0, .int .i64 0, .int .u64 0]) (t := 75) ?hr ?_; (case hd => rfl); (case hg => rfl); (case hr => first | (go_simp; done) | (go_simp; rfl)); intro gb381 hg w6 hbox hb; have GW381 := aM ((by rw [hg]; exact (zZ (zH HB.out)) : w.heap.size ≤ gb381)); have GE381 := aM ((by rw [hg]; exact (zZ (zH HB.out)) : w.heap.size ≤ gb381)); have NB380_381 := nL BK380.out hg; have NB381_380 := nR BK380.out hg; replace BK380 := yK BK380.out hb; have HI381 := aM ((⟨_, _, hbox, (by rw [hg]; exact (zZ (zH HB.out))), HR0.out⟩ : IsS75 w _ gb381 l0 0 0)); replace HB := aM (zT (zH HB.out) hb); clear hb hbox hg) | ((with_reducible refine gate_callee (f := 64) rfl ?_); refine goesL_ (some 11) rfl rfl Try.func64 (by kernel_rfl) rfl #[.pointer (some ⟨gb381, 0, none⟩)] rfl (by (try simp only [List.map_toArray, List.map_cons, List.map_nil]); first | done | rfl | (simp only [List.length_drop, List.length_take]; rfl)) ?_; (with_reducible refine (spec_l1Cur_stripe.calls k gb381 l0 0 0 t382 t385 t386 t387 t388 w _ ?side1 ?side2 A2.out).mono ?_); (case side1 => repeat (first | (with_reducible first | exact HI381.out | apply IsS75.alloc | apply IsS75.drewN | apply IsS75.drew | apply IsS75.set_1 | apply IsS75.set_2 | refine IsS75.far ?_ NB381_380.out _) | exact HI381.out)); (case side2 => repeat (first | (with_reducible first | exact HB.out | apply zA | apply zN | apply zD | refine zS ?_ (IsS75.ge HI381.out) | refine zS ?_ GE380.out) | exact HB.out)); rintro e w7 ⟨v383, rfl, ho0, hi, hb, hk⟩; refine ⟨_, rfl, ?_⟩; replace BK380 := aM (KeepBut.blk hk (g' := gb380) (o := .cells #[.slice none 0 0, .string (⟨#[]⟩ : ByteArray), .string (⟨#[]⟩ : ByteArray)] 27 (0, 0)) (yH BK380.out) NB380_381.out (by simp)); have HO384 := aM (xL ho0 (zZ (by repeat (first | (with_reducible first | exact HB.out | apply zA | apply zN | apply zD | refine zS ?_ (IsS75.ge HI381.out) | refine zS ?_ GE380.out) | exact HB.out)))); replace HB := aM (hb); replace HI381 := aM (hi); (try clear hb); (try clear ho0)) | ((with_reducible refine gate_dst (N := 6) rfl ?_); refine box_event ?hg (N := 6) ?hd (cs := #[.slice none 0 0, .string (⟨#[]⟩ : ByteArray), .string (⟨#[]⟩ : ByteArray)]) (t := 27) ?hr ?_; (case hd => rfl); (case hg => rfl); (case hr => first | (go_simp; done) | (go_simp; rfl)); intro gb389 hg w8 hbox hb; replace HO384 := xK HO384.out hb; have BK389 := aM (hbox); have GW389 := aM ((by rw [hg]; exact (zZ (by repeat (first | (with_reducible first | exact HB.out | apply zA | apply zN | apply zD | refine zS ?_ (IsS75.ge HI381.out) | refine zS ?_ GE380.out) | exact HB.out))) : w.heap.size ≤ gb389)); have GE389 := aM ((by rw [hg]; exact (zZ (by repeat (first | (with_reducible first | exact HB.out | apply zA | apply zN | apply zD | refine zS ?_ (IsS75.ge HI381.out) | refine zS ?_ GE380.out) | exact HB.out))) : w.heap.size ≤ gb389)); replace HB := aM (zT (by repeat (first | (with_reducible first | exact HB.out | apply zA | apply zN | apply zD | refine zS ?_ (IsS75.ge HI381.out) | refine zS ?_ GE380.out) | exact HB.out)) hb); have NB380_389 := nL BK380.out hg; have NB389_380 := nR BK380.out hg; replace BK380 := yK BK380.out hb; have NB381_389 := aM ((by rw [hg]; exact Nat.ne_of_lt (IsS75.lt (show IsS75 w _ gb381 l0 t387 t388 from by (try simp only [Int.add_zero]); repeat (first | (with_reducible first | exact HI381.out | apply IsS75.alloc | apply IsS75.drewN | apply IsS75.drew | apply IsS75.set_1 | apply IsS75.set_2 | refine IsS75.far ?_ NB381_380.out _) | exact HI381.out))) : gb381 ≠ gb389)); have NB389_381 := aM ((by rw [hg]; exact Nat.ne_of_gt (IsS75.lt (show IsS75 w _ gb381 l0 t387 t388 from by (try simp only [Int.add_zero]); repeat (first | (with_reducible first | exact HI381.out | apply IsS75.alloc | apply IsS75.drewN | apply IsS75.drew | apply IsS75.set_1 | apply IsS75.set_2 | refine IsS75.far ?_ NB381_380.out _) | exact HI381.out))) : gb389 ≠ gb381)); replace HI381 := aM (IsS75.below (by (try simp only [Int.add_zero]); repeat (first | (with_reducible first | exact HI381.out | apply IsS75.alloc | apply IsS75.drewN | apply IsS75.drew | apply IsS75.set_1 | apply IsS75.set_2 | refine IsS75.far ?_ NB381_380.out _) | exact HI381.out)) hb); clear hb hbox hg; obtain ⟨Ao9, co9, eo9⟩ := Kd.R_slice HO384.out; subst eo9; have hnb10 := NB389_380.out; have hnc10 := NB380_389.out; have hnb11 := NB389_381.out; have hnc11 := NB381_389.out; have hcz12_0 : w8.cell? ⟨gb389, 0, none⟩ = some (.slice none 0 0) := yc BK389.out 0; have hcz12_1 : w8.cell? ⟨gb389, 1, none⟩ = some (.string (⟨#[]⟩ : ByteArray)) := yc BK389.out 1; have hcz12_2 : w8.cell? ⟨gb389, 2, none⟩ = some (.string (⟨#[]⟩ : ByteArray)) := yc BK389.out 2; have hfz12_0 := yZ BK389.out 0; have hfz12_1 := yZ BK389.out 1; have hfz12_2 := yZ BK389.out 2))
 have n0_ : Aside0 (Kd.R Kd.string 9 (((w8.setCell ⟨gb389, 0, none⟩ (.slice Ao9 t382.length co9)).setCell ⟨gb389, 1, none⟩ (.string t385)).setCell ⟨gb389, 2, none⟩ (.string t386)) w.heap.size (fun _ => True) (.slice Ao9 t382.length co9) t382) := ⟨xH (xM (xF (p := ⟨gb389, 2, none⟩) (xF (p := ⟨gb389, 1, none⟩) (xF (p := ⟨gb389, 0, none⟩) (xT HO384.out BK389.out (by decide)) (fun _ hk => hk.2) (.slice Ao9 t382.length co9)) (fun _ hk => hk.2) (.string t385)) (fun _ hk => hk.2) (.string t386)) (fun _ hk => trivial))⟩
 have n1_ : Aside0 ((((w8.setCell ⟨gb389, 0, none⟩ (.slice Ao9 t382.length co9)).setCell ⟨gb389, 1, none⟩ (.string t385)).setCell ⟨gb389, 2, none⟩ (.string t386)).heap[gb380]? = some (.cells #[.slice none 0 0, .string (⟨#[]⟩ : ByteArray), .string (⟨#[]⟩ : ByteArray)] 27 (0, 0))) := ⟨by (with_reducible repeat (first | refine yN ?_ _ | refine yD ?_ | refine yA ?_ _)); refine yF ?_ NB380_389.out _; (with_reducible repeat (first | refine yN ?_ _ | refine yD ?_ | refine yA ?_ _)); refine yF ?_ NB380_389.out _; (with_reducible repeat (first | refine yN ?_ _ | refine yD ?_ | refine yA ?_ _)); refine yF ?_ NB380_389.out _; (with_reducible repeat (first | refine yN ?_ _ | refine yD ?_ | refine yA ?_ _)); exact BK380.out⟩
 have n2_ : Aside0 ((((w8.setCell ⟨gb389, 0, none⟩ (.slice Ao9 t382.length co9)).setCell ⟨gb389, 1, none⟩ (.string t385)).setCell ⟨gb389, 2, none⟩ (.string t386)).heap[gb389]? = some (.cells #[.slice Ao9 t382.length co9, .string t385, .string t386] 27 (0, 0))) := ⟨by (with_reducible repeat (first | refine yN ?_ _ | refine yD ?_ | refine yA ?_ _)); refine yP (cs := #[.slice Ao9 t382.length co9, .string t385, .string (⟨#[]⟩ : ByteArray)]) ?_ 2 _ rfl; (with_reducible repeat (first | refine yN ?_ _ | refine yD ?_ | refine yA ?_ _)); refine yP (cs := #[.slice Ao9 t382.length co9, .string (⟨#[]⟩ : ByteArray), .string (⟨#[]⟩ : ByteArray)]) ?_ 1 _ rfl; (with_reducible repeat (first | refine yN ?_ _ | refine yD ?_ | refine yA ?_ _)); refine yP (cs := #[.slice none 0 0, .string (⟨#[]⟩ : ByteArray), .string (⟨#[]⟩ : ByteArray)]) ?_ 0 _ rfl; (with_reducible repeat (first | refine yN ?_ _ | refine yD ?_ | refine yA ?_ _)); exact BK389.out⟩
 have n3_ : Aside0 (IsS75 w (((w8.setCell ⟨gb389, 0, none⟩ (.slice Ao9 t382.length co9)).setCell ⟨gb389, 1, none⟩ (.string t385)).setCell ⟨gb389, 2, none⟩ (.string t386)) gb381 l0 t387 t388) := ⟨by (try simp only [Int.add_zero]); repeat (first | (with_reducible first | exact HI381.out | apply IsS75.alloc | apply IsS75.drewN | apply IsS75.drew | apply IsS75.set_1 | apply IsS75.set_2 | refine IsS75.far ?_ NB381_380.out _ | refine IsS75.far ?_ NB381_389.out _) | exact HI381.out)⟩
 have n4_ : Aside0 (Below w.heap.size w (((w8.setCell ⟨gb389, 0, none⟩ (.slice Ao9 t382.length co9)).setCell ⟨gb389, 1, none⟩ (.string t385)).setCell ⟨gb389, 2, none⟩ (.string t386))) := ⟨by repeat (first | (with_reducible first | exact HB.out | apply zA | apply zN | apply zD | refine zS ?_ (IsS75.ge HI381.out) | refine zS ?_ GE380.out | refine zS ?_ GE389.out) | exact HB.out)⟩
 (try clear HO384); (try clear BK380); (try clear BK389); (try clear HI381); (try clear HB)
 generalize (((w8.setCell ⟨gb389, 0, none⟩ (.slice Ao9 t382.length co9)).setCell ⟨gb389, 1, none⟩ (.string t385)).setCell ⟨gb389, 2, none⟩ (.string t386)) = w13 at n0_ n1_ n2_ n3_ n4_ ⊢
 have HO384 := n0_
 have BK380 := n1_
 have BK389 := n2_
 have HI381 := n3_
 have HB := n4_
 clear n0_ n1_ n2_ n3_ n4_
 replace HO384 := aM (xD HO384.out)
 replace BK380 := aM (yD BK380.out)
 replace BK389 := aM (yD BK389.out)
 replace HI381 := aM (IsS75.drew HI381.out)
 replace HB := aM (zD HB.out)
 refine start_ (n := 15) (S := fun w' => w'.cell? ⟨gb389, 0, none⟩ = some (.slice Ao9 t382.length co9) ∧ w'.cell? ⟨gb389, 1, none⟩ = some (.string t385) ∧ w'.cell? ⟨gb389, 2, none⟩ = some (.string t386)) (ds := []) #[fF,fF,fF,fF,fF,fF,fF,fF,fF,fF,fF,fF,fF,fF,fF] (by kernel_rfl) rfl rfl ⟨yc BK389.out 0, yc BK389.out 1, yc BK389.out 2⟩ (fun hHeld => ?_); refine with_tabW spec_DrawUpdateStripe.tab3 spec_DrawUpdateStripe.bits3 (fun HT_ HW_ => ?_)
 generalize w13.drew = w14 at HO384 BK380 BK389 HI381 HB hHeld ⊢
 refine pure_ (i := 1) (N := some 13) (v := ?_) (a' := ?_) #[fF,tT,fF,fF,fF,fF,fF,fF,fF,fF,fF,fF,fF,fF,fF] rfl rfl (any_of HT_.out (by kernel_rfl)) (fun _ _ _ h => h) (Or.inl ⟨by rfl, ?_⟩) ?_ ?_
 rotate_left
 ·intro w'
  go_simp
  with_reducible rfl
 rotate_left
 ·simp only [Act.put, qA, qB, qC, i64_w, i32_w]
  rfl
 refine pure_ (i := 2) (N := some 14) (v := ?_) (a' := ?_) #[fF,tT,tT,fF,fF,fF,fF,fF,fF,fF,fF,fF,fF,fF,fF] rfl rfl (any_of HT_.out (by kernel_rfl)) (fun _ _ _ h => h) (Or.inl ⟨by rfl, ?_⟩) ?_ ?_
 rotate_left
 ·intro w'
  go_simp
  with_reducible rfl
 rotate_left
 ·simp only [Act.put, qA, qB, qC, i64_w, i32_w]
  rfl
 refine pure_ (i := 7) (N := some 19) (v := ?_) (a' := ?_) #[fF,tT,tT,fF,fF,fF,fF,tT,fF,fF,fF,fF,fF,fF,fF] rfl rfl (any_of HT_.out (by kernel_rfl)) (fun _ _ _ h => h) (Or.inl ⟨by rfl, ?_⟩) ?_ ?_
 rotate_left
 ·intro w'
  go_simp
  with_reducible rfl
 rotate_left
 ·simp only [Act.put, qA, qB, qC, i64_w, i32_w]
  rfl
 refine pure_ (i := 8) (N := some 20) (v := ?_) (a' := ?_) #[fF,tT,tT,fF,fF,fF,fF,tT,tT,fF,fF,fF,fF,fF,fF] rfl rfl (any_of HT_.out (by kernel_rfl)) (fun _ _ _ h => h) (Or.inl ⟨by rfl, ?_⟩) ?_ ?_
 rotate_left
 ·intro w'
  go_simp
  with_reducible rfl
 rotate_left
 ·simp only [Act.put, qA, qB, qC, i64_w, i32_w]
  rfl
 refine take_ (i := 0) (N := some 12) (v := ?_) (a' := ?_) #[tT,tT,tT,fF,fF,fF,fF,tT,tT,fF,fF,fF,fF,fF,fF] rfl rfl (take_ofW HT_.out HW_.out (by kernel_rfl)) (fun _ _ _ h => h) (Or.inl ⟨by rfl, ?_⟩) hHeld ?_ ?_
 rotate_left
 ·rintro w' ⟨s0, s1, s2⟩
  go_simp
  with_reducible rfl
 rotate_left
 ·simp only [Act.put, qA, qB, qC, i64_w, i32_w]
  rfl
 refine take_ (i := 3) (N := some 15) (v := ?_) (a' := ?_) #[tT,tT,tT,tT,fF,fF,fF,tT,tT,fF,fF,fF,fF,fF,fF] rfl rfl (take_ofW HT_.out HW_.out (by kernel_rfl)) (fun _ _ _ h => h) (Or.inl ⟨by rfl, ?_⟩) hHeld ?_ ?_
 rotate_left
 ·rintro w' ⟨s0, s1, s2⟩
  go_simp
  with_reducible rfl
 rotate_left
 ·simp only [Act.put, qA, qB, qC, i64_w, i32_w]
  rfl
 refine pure_ (i := 4) (N := some 16) (v := ?_) (a' := ?_) #[tT,tT,tT,tT,tT,fF,fF,tT,tT,fF,fF,fF,fF,fF,fF] rfl rfl (any_of HT_.out (by kernel_rfl)) (fun _ _ _ h => h) (Or.inl ⟨by rfl, ?_⟩) ?_ ?_
 rotate_left
 ·intro w'
  go_simp
  with_reducible rfl
 rotate_left
 ·simp only [Act.put, qA, qB, qC, i64_w, i32_w]
  rfl
 refine pure_ (i := 5) (N := some 17) (v := ?_) (a' := ?_) #[tT,tT,tT,tT,tT,tT,fF,tT,tT,fF,fF,fF,fF,fF,fF] rfl rfl (any_of HT_.out (by kernel_rfl)) (fun _ _ _ h => h) (Or.inl ⟨by rfl, ?_⟩) ?_ ?_
 rotate_left
 ·intro w'
  go_simp
  with_reducible rfl
 rotate_left
 ·simp only [Act.put, qA, qB, qC, i64_w, i32_w]
  rfl
 refine take_ (i := 9) (N := some 21) (v := ?_) (a' := ?_) #[tT,tT,tT,tT,tT,tT,fF,tT,tT,tT,fF,fF,fF,fF,fF] rfl rfl (take_ofW HT_.out HW_.out (by kernel_rfl)) (fun _ _ _ h => h) (Or.inl ⟨by rfl, ?_⟩) hHeld ?_ ?_
 rotate_left
 ·rintro w' ⟨s0, s1, s2⟩
  go_simp
  with_reducible rfl
 rotate_left
 ·simp only [Act.put, qA, qB, qC, i64_w, i32_w]
  rfl
 refine pure_ (i := 10) (N := some 22) (v := ?_) (a' := ?_) #[tT,tT,tT,tT,tT,tT,fF,tT,tT,tT,tT,fF,fF,fF,fF] rfl rfl (any_of HT_.out (by kernel_rfl)) (fun _ _ _ h => h) (Or.inl ⟨by rfl, ?_⟩) ?_ ?_
 rotate_left
 ·intro w'
  go_simp
  with_reducible rfl
 rotate_left
 ·simp only [Act.put, qA, qB, qC, i64_w, i32_w]
  rfl
 refine one_ (i := 6) (N := some 18) #[tT,tT,tT,tT,tT,tT,tT,tT,tT,tT,tT,fF,fF,fF,fF] rfl rfl (one_of HT_.out (by kernel_rfl)) (by decide) (fun K hK => ?_)
 refine gS Try.func65 (by kernel_rfl) rfl #[.pointer (some ⟨gb381, 0, none⟩), .int .i64 (wrap64 ((t382.length : Int) + 1))] (by rfl) rfl rfl ?_
 with_reducible refine (spec_l1Cur_pick.calls gb381 l0 t387 t388 (wrap64 ((t382.length : Int) + 1)) t390 t391 t392 w _ ?side1 ?side2 A3.out).mono ?_
 (case side1 => repeat (first | (with_reducible first | exact HI381.out | apply IsS75.alloc | apply IsS75.drewN | apply IsS75.drew | apply IsS75.set_1 | apply IsS75.set_2 | refine IsS75.far ?_ NB381_380.out _ | refine IsS75.far ?_ NB381_389.out _) | exact HI381.out))
 (case side2 => repeat (first | (with_reducible first | exact HB.out | apply zA | apply zN | apply zD | refine zS ?_ (IsS75.ge HI381.out) | refine zS ?_ GE380.out | refine zS ?_ GE389.out) | exact HB.out))
 rintro e w15 ⟨rfl, hi, hb, hk⟩
 refine ⟨_, rfl, ?_⟩
 replace BK380 := aM (KeepBut.blk hk (g' := gb380) (o := .cells #[.slice none 0 0, .string (⟨#[]⟩ : ByteArray), .string (⟨#[]⟩ : ByteArray)] 27 (0, 0)) (yH BK380.out) NB380_381.out (by simp))
 replace HO384 := aM (xM (Kd.R_keep (IsS75.apart (show IsS75 w _ gb381 l0 t387 t388 from by (try simp only [Int.add_zero]); repeat (first | (with_reducible first | exact HI381.out | apply IsS75.alloc | apply IsS75.drewN | apply IsS75.drew | apply IsS75.set_1 | apply IsS75.set_2 | refine IsS75.far ?_ NB381_380.out _ | refine IsS75.far ?_ NB381_389.out _) | exact HI381.out)) (xH HO384.out) (by decide)) hk (fun _ h => h.2)) (fun _ h => h.1))
 replace BK389 := aM (KeepBut.blk hk (g' := gb389) (o := .cells #[.slice Ao9 t382.length co9, .string t385, .string t386] 27 (0, 0)) (yH BK389.out) NB389_381.out (by simp))
 replace HB := aM (hb)
 replace HI381 := aM (hi)
 (try clear hb)
 refine hK.out _ _ ⟨yc BK389.out 0, yc BK389.out 1, yc BK389.out 2⟩ (fun hHeld => ?_)
 clear hK K
 refine norm_ (a' := ?_) ?_ ?_
 rotate_left
 ·show Act.put _ (some 18) _ = _
  simp only [Act.put, qA, qB, qC, i64_w, i32_w]
  rfl
 refine one_ (i := 11) (N := some 23) #[tT,tT,tT,tT,tT,tT,tT,tT,tT,tT,tT,tT,fF,fF,fF] rfl rfl (one_of HT_.out (by kernel_rfl)) (by decide) (fun K hK => ?_)
 refine gS Try.func66 (by kernel_rfl) rfl #[.pointer (some ⟨gb381, 0, none⟩), .int .i64 (t385.size : Int)] (by rfl) rfl rfl ?_
 with_reducible refine (spec_l1Cur_text.calls k gb381 l0 t391 t392 (t385.size : Int) t393 t394 t395 w _ ?side1 ?side2 A4.out).mono ?_
 (case side1 => repeat (first | (with_reducible first | exact HI381.out | apply IsS75.alloc | apply IsS75.drewN | apply IsS75.drew | apply IsS75.set_1 | apply IsS75.set_2 | refine IsS75.far ?_ NB381_380.out _ | refine IsS75.far ?_ NB381_389.out _) | exact HI381.out))
 (case side2 => repeat (first | (with_reducible first | exact HB.out | apply zA | apply zN | apply zD | refine zS ?_ (IsS75.ge HI381.out) | refine zS ?_ GE380.out | refine zS ?_ GE389.out) | exact HB.out))
 rintro e w16 ⟨rfl, hi, hb, hk⟩
 refine ⟨_, rfl, ?_⟩
 replace BK380 := aM (KeepBut.blk hk (g' := gb380) (o := .cells #[.slice none 0 0, .string (⟨#[]⟩ : ByteArray), .string (⟨#[]⟩ : ByteArray)] 27 (0, 0)) (yH BK380.out) NB380_381.out (by simp))
 replace HO384 := aM (xM (Kd.R_keep (IsS75.apart (show IsS75 w _ gb381 l0 t391 t392 from by (try simp only [Int.add_zero]); repeat (first | (with_reducible first | exact HI381.out | apply IsS75.alloc | apply IsS75.drewN | apply IsS75.drew | apply IsS75.set_1 | apply IsS75.set_2 | refine IsS75.far ?_ NB381_380.out _ | refine IsS75.far ?_ NB381_389.out _) | exact HI381.out)) (xH HO384.out) (by decide)) hk (fun _ h => h.2)) (fun _ h => h.1))
 replace BK389 := aM (KeepBut.blk hk (g' := gb389) (o := .cells #[.slice Ao9 t382.length co9, .string t385, .string t386] 27 (0, 0)) (yH BK389.out) NB389_381.out (by simp))
 replace HB := aM (hb)
 replace HI381 := aM (hi)
 (try clear hb)
 refine hK.out _ _ ⟨yc BK389.out 0, yc BK389.out 1, yc BK389.out 2⟩ (fun hHeld => ?_)
 clear hK K
 refine norm_ (a' := ?_) ?_ ?_
 rotate_left
 ·show Act.put _ (some 23) _ = _
  simp only [Act.put, qA, qB, qC, i64_w, i32_w]
  rfl
 refine one_ (i := 12) (N := none) #[tT,tT,tT,tT,tT,tT,tT,tT,tT,tT,tT,tT,tT,fF,fF] rfl rfl (one_of HT_.out (by kernel_rfl)) (by decide) (fun K hK => ?_)
 have hs17 : w16.cell? ⟨gb380, 0, none⟩ = some (.slice none 0 0) := yc BK380.out 0
 have hfs17 := yZ BK380.out 0
 have hns17_1 := NB389_380.out
 have hms17_1 := NB380_389.out
 have hs18 : w16.cell? ⟨gb380, 1, none⟩ = some (.string (⟨#[]⟩ : ByteArray)) := yc BK380.out 1
 have hfs18 := yZ BK380.out 1
 have hns18_1 := NB389_380.out
 have hms18_1 := NB380_389.out
 have hs19 : w16.cell? ⟨gb380, 2, none⟩ = some (.string (⟨#[]⟩ : ByteArray)) := yc BK380.out 2
 have hfs19 := yZ BK380.out 2
 have hns19_1 := NB389_380.out
 have hms19_1 := NB380_389.out
 refine skip_ (w1 := ?_) (by rfl) rfl ?_ ?_
 rotate_left
 ·go_simp
  rfl
 refine hK.out _ _ ⟨((cell_far (p := ⟨gb380, _, none⟩) NB389_380.out _).trans (((cell_far (p := ⟨gb380, _, none⟩) NB389_380.out _).trans (((cell_far (p := ⟨gb380, _, none⟩) NB389_380.out _).trans (hHeld.1)))))), ((cell_far (p := ⟨gb380, _, none⟩) NB389_380.out _).trans (((cell_far (p := ⟨gb380, _, none⟩) NB389_380.out _).trans (((cell_far (p := ⟨gb380, _, none⟩) NB389_380.out _).trans (hHeld.2.1)))))), ((cell_far (p := ⟨gb380, _, none⟩) NB389_380.out _).trans (((cell_far (p := ⟨gb380, _, none⟩) NB389_380.out _).trans (((cell_far (p := ⟨gb380, _, none⟩) NB389_380.out _).trans (hHeld.2.2))))))⟩ (fun hHeld => ?_)
 clear hK K
 refine pure_ (i := 13) (N := some 3) (v := ?_) (a' := ?_) #[tT,tT,tT,tT,tT,tT,tT,tT,tT,tT,tT,tT,tT,tT,fF] rfl rfl (any_of HT_.out (by kernel_rfl)) (fun _ _ _ h => h) (Or.inl ⟨by rfl, ?_⟩) ?_ ?_
 rotate_left
 ·intro w'
  go_simp
  with_reducible rfl
 rotate_left
 ·simp only [Act.put, qA, qB, qC, i64_w, i32_w]
  rfl
 refine pure_ (i := 14) (N := some 4) (v := ?_) (a' := ?_) #[tT,tT,tT,tT,tT,tT,tT,tT,tT,tT,tT,tT,tT,tT,tT] rfl rfl (any_of HT_.out (by kernel_rfl)) (fun _ _ _ h => h) (Or.inl ⟨by rfl, ?_⟩) ?_ ?_
 rotate_left
 ·intro w'
  go_simp
  with_reducible rfl
 rotate_left
 ·simp only [Act.put, qA, qB, qC, i64_w, i32_w]
  rfl
 refine done_ (done_of HT_.out (by kernel_rfl)) ?_
 try go_wp2
 refine bodyPost_ret (results_ctt rfl _ _ gb380 27 #[.slice Ao9 t382.length co9, .string t385, .string t386] (0, 0) _ rfl (by (with_reducible repeat (first | refine yN ?_ _ | refine yD ?_ | refine yA ?_ _)); refine yP (cs := #[.slice Ao9 t382.length co9, .string t385, .string (⟨#[]⟩ : ByteArray)]) ?_ 2 _ rfl; (with_reducible repeat (first | refine yN ?_ _ | refine yD ?_ | refine yA ?_ _)); refine yP (cs := #[.slice Ao9 t382.length co9, .string (⟨#[]⟩ : ByteArray), .string (⟨#[]⟩ : ByteArray)]) ?_ 1 _ rfl; (with_reducible repeat (first | refine yN ?_ _ | refine yD ?_ | refine yA ?_ _)); refine yP (cs := #[.slice none 0 0, .string (⟨#[]⟩ : ByteArray), .string (⟨#[]⟩ : ByteArray)]) ?_ 0 _ rfl; (with_reducible repeat (first | refine yN ?_ _ | refine yD ?_ | refine yA ?_ _)); exact BK380.out) Try.underlying27 rfl (by kernel_rfl)) rfl ?_
 exact ⟨_, by first | rfl | (simp [errW_none, errW_some] <;> rfl) | (simp [*, errW_none, errW_some] <;> rfl), xH (xM (xF (p := ⟨gb380, 2, none⟩) (xF (p := ⟨gb380, 1, none⟩) (xF (p := ⟨gb380, 0, none⟩) (xT HO384.out BK380.out (by decide)) (fun _ hk => hk.2) (.slice Ao9 t382.length co9)) (fun _ hk => hk.2) (.string t385)) (fun _ hk => hk.2) (.string t386)) (fun _ hk => trivial)), by repeat (first | (with_reducible first | exact HB.out | apply zA | apply zN | apply zD | refine zS ?_ (IsS75.ge HI381.out) | refine zS ?_ GE380.out | refine zS ?_ GE389.out) | exact HB.out)⟩

/-! ### laws_sameTexts: function 67 -/
def laws_sameTexts.l0 : Nat → List ByteArray → List ByteArray → Int → Int → Option (Bool)
 | 0, _, _, _, _ => none
 | k + 1, x0, x1, x12, x13 => if x13 < x12 then (if 0 ≤ x13 then (if x13 < (x0.length : Int) then (if x13 < (x1.length : Int) then (if (rdOf ByteArray.empty x0 x13).toList = (rdOf ByteArray.empty x1 x13).toList then (laws_sameTexts.l0 k x0 x1 x12 (wrap64 (x13 + 1))) else (some false)) else (none)) else (none)) else (none)) else (some true)
def laws_sameTexts.f (k : Nat) (l0 : List ByteArray) (l1 : List ByteArray) : Option (Bool) := if (l0.length : Int) = (l1.length : Int) then (laws_sameTexts.l0 k l0 l1 (l0.length : Int) 0) else (some false)
theorem laws_sameTexts.mono_l : ∀ k, (∀ y0 y1 y2 y3, LeO (laws_sameTexts.l0 k y0 y1 y2 y3) (laws_sameTexts.l0 (k + 1) y0 y1 y2 y3))
 | 0 => fun _ _ _ _ r h => by change none = some r at h; cases h
 | k + 1 => by
  have ih0 := laws_sameTexts.mono_l k
  ·intro y0 y1 y2 y3
   unfold laws_sameTexts.l0
   repeat' first
   | (with_reducible exact ih0 _ _ _ _)
   | (with_reducible exact LeO.refl _)
   | (with_reducible exact LeO.none _)
   | (with_reducible refine LeO.ite ?_ ?_)
   | (with_reducible refine LeO.bind ?_ (fun _ => ?_))
   | exact ih0 _ _ _ _
   | exact LeO.none _
   | refine LeO.ite ?_ ?_
   | refine LeO.bind ?_ (fun _ => ?_)
theorem laws_sameTexts.mono : ∀ a0 a1 k, LeO (laws_sameTexts.f k a0 a1) (laws_sameTexts.f (k + 1) a0 a1) := by
 intro a0 a1 k
 have ih0 := laws_sameTexts.mono_l k
 unfold laws_sameTexts.f
 repeat' first
   | (with_reducible exact ih0 _ _ _ _)
   | (with_reducible exact LeO.refl _)
   | (with_reducible exact LeO.none _)
   | (with_reducible refine LeO.ite ?_ ?_)
   | (with_reducible refine LeO.bind ?_ (fun _ => ?_))
   | exact ih0 _ _ _ _
   | exact LeO.none _
   | refine LeO.ite ?_ ?_
   | refine LeO.bind ?_ (fun _ => ?_)
set_option maxHeartbeats 8000000 in
set_option maxRecDepth 100000 in
theorem laws_sameTexts.calls (k : Nat) (A0 : Option Addr) (c0 : Nat) (l0 : List ByteArray) (A1 : Option Addr) (c1 : Nat) (l1 : List ByteArray) (r : Bool) (w : World) (hr0 : Kd.C Kd.string w A0 l0.length l0) (hc0 : l0.length ≤ c0) (hr1 : Kd.C Kd.string w A1 l1.length l1) (hc1 : l1.length ≤ c1) (h : laws_sameTexts.f k l0 l1 = some r) :
  Calls Try.prog 67 #[.slice A0 l0.length c0, .slice A1 l1.length c1] w fun e w' => e = .returned (.bool r) ∧ Drawn0 w w' := by
 have HR0 := aM hr0
 have HC0 := aM hc0
 clear hr0 hc0
 have HR1 := aM hr1
 have HC1 := aM hc1
 clear hr1 hc1
 have H : (if (l0.length : Int) = (l1.length : Int) then (laws_sameTexts.l0 k l0 l1 (l0.length : Int) 0) else (some false)) = some r := h
 clear h
 by_cases c3 : (l0.length : Int) = (l1.length : Int)
 ·rw [if_pos c3] at H
  have c3b0 : ((l0.length : Int) == (l1.length : Int)) = true := beq_iff_eq.mpr c3
  have c3b1 : ((l0.length : Int) != (l1.length : Int)) = false := bne_eq_false_iff_eq.mpr c3
  have c3b2 : (l0.length == l1.length) = true := by first | simpa using c3 | (simp at c3 ⊢; omega)
  clear c3
  have H' := aM H
  clear H
  go_enter Try.func67, Try.ntmps67
  go_wp2
  repeat (go_quiet (fail); try go_wp2)
  go_loopg [13] k (fun kq v13 w' => ∃ (x13_1 : Int), v13 = .int .i64 x13_1 ∧ Aside0 (laws_sameTexts.l0 kq l0 l1 (l0.length : Int) x13_1 = some r) ∧ Aside0 (kq ≤ k) ∧ Drawn0 w w')
  case atStart => exact ⟨(0), (by first | rfl | (simp; done) | (simp [*]; done)), H', ⟨Nat.le_refl _⟩, by repeat (first | exact Drawn0.refl _ | apply Drawn0.step)⟩
  case round =>
   clear H'
   (try clear c1); (try clear p2); (try clear c3); (try clear c3b0); (try clear c3b1); (try clear c3b2)
   obtain ⟨x13_1, rfl, HA, HK1, ⟨m1, rfl⟩⟩ := hrel
   cases gk with
   | zero => exact absurd HA.out (fun h_ => by change none = some _ at h_; cases h_)
   | succ k1 =>
    have H := HA.out
    clear HA
    simp only [laws_sameTexts.l0] at H
    by_cases c4 : x13_1 < (l0.length : Int)
    ·rw [if_pos c4] at H
     have c4b0 : decide (x13_1 < (l0.length : Int)) = true := decide_eq_true c4
     clear c4
     by_cases c5 : 0 ≤ x13_1
     ·rw [if_pos c5] at H
      have c5b0 : decide (0 ≤ x13_1) = true := decide_eq_true c5
      clear c5
      by_cases c6 : x13_1 < (l0.length : Int)
      ·rw [if_pos c6] at H
       have c6b0 : decide (x13_1 < (l0.length : Int)) = true := decide_eq_true c6
       clear c6
       by_cases c7 : x13_1 < (l1.length : Int)
       ·rw [if_pos c7] at H
        have c7b0 : decide (x13_1 < (l1.length : Int)) = true := decide_eq_true c7
        clear c7
        by_cases c8 : (rdOf ByteArray.empty l0 x13_1).toList = (rdOf ByteArray.empty l1 x13_1).toList
        ·rw [if_pos c8] at H
         have c8b0 : ((rdOf ByteArray.empty l0 x13_1).toList == (rdOf ByteArray.empty l1 x13_1).toList) = true := beq_iff_eq.mpr c8
         have c8b1 : ((rdOf ByteArray.empty l0 x13_1).toList != (rdOf ByteArray.empty l1 x13_1).toList) = false := bne_eq_false_iff_eq.mpr c8
         clear c8
         have H' := aM H
         clear H
         have p396 : 0 ≤ (x13_1 : Int) := of_decide_eq_true (by first | (with_reducible assumption) | assumption)
         have q396 : x13_1 < (l0.length : Int) := of_decide_eq_true (by first | (with_reducible assumption) | assumption)
         obtain ⟨ad396, e396, hx396_0⟩ := Kd.at_string HR0.out x13_1 p396 q396
         cases e396
         replace p396 := eq_true p396
         replace q396 := eq_true q396
         have p397 : 0 ≤ (x13_1 : Int) := of_decide_eq_true (by first | (with_reducible assumption) | assumption)
         have q397 : x13_1 < (l1.length : Int) := of_decide_eq_true (by first | (with_reducible assumption) | assumption)
         obtain ⟨ad397, e397, hx397_0⟩ := Kd.at_string HR1.out x13_1 p397 q397
         cases e397
         replace p397 := eq_true p397
         replace q397 := eq_true q397
         go_wp2
         repeat (go_quiet (fail); try go_wp2)
         go_roundg k1
         case measure => have := HK1.out; omega
         case rel => exact ⟨(wrap64 (x13_1 + 1)), (by first | rfl | (simp; done) | (simp [*]; done)), H', ⟨by have := HK1.out; omega⟩, by repeat (first | exact Drawn0.refl _ | apply Drawn0.step)⟩
        ·rw [if_neg c8] at H
         have c8b0 : ((rdOf ByteArray.empty l0 x13_1).toList == (rdOf ByteArray.empty l1 x13_1).toList) = false := beq_eq_false_iff_ne.mpr c8
         have c8b1 : ((rdOf ByteArray.empty l0 x13_1).toList != (rdOf ByteArray.empty l1 x13_1).toList) = true := bne_iff_ne.mpr c8
         obtain rfl := Option.some.inj H
         have p396 : 0 ≤ (x13_1 : Int) := of_decide_eq_true (by first | (with_reducible assumption) | assumption)
         have q396 : x13_1 < (l0.length : Int) := of_decide_eq_true (by first | (with_reducible assumption) | assumption)
         obtain ⟨ad396, e396, hx396_0⟩ := Kd.at_string HR0.out x13_1 p396 q396
         cases e396
         replace p396 := eq_true p396
         replace q396 := eq_true q396
         have p397 : 0 ≤ (x13_1 : Int) := of_decide_eq_true (by first | (with_reducible assumption) | assumption)
         have q397 : x13_1 < (l1.length : Int) := of_decide_eq_true (by first | (with_reducible assumption) | assumption)
         obtain ⟨ad397, e397, hx397_0⟩ := Kd.at_string HR1.out x13_1 p397 q397
         cases e397
         replace p397 := eq_true p397
         replace q397 := eq_true q397
         go_wp2
         repeat (go_quiet (fail); try go_wp2)
         go_ret
         exact ⟨by first | rfl | (simp; done) | (simp [*]; done), by repeat (first | exact Drawn0.refl _ | apply Drawn0.step)⟩
       ·rw [if_neg c7] at H
        exact absurd H (by simp)
      ·rw [if_neg c6] at H
       exact absurd H (by simp)
     ·rw [if_neg c5] at H
      exact absurd H (by simp)
    ·rw [if_neg c4] at H
     have c4b0 : decide (x13_1 < (l0.length : Int)) = false := decide_eq_false c4
     clear c4
     obtain rfl := Option.some.inj H
     go_wp2
     repeat (go_quiet (fail); try go_wp2)
     go_ret
     exact ⟨by first | rfl | (simp; done) | (simp [*]; done), by repeat (first | exact Drawn0.refl _ | apply Drawn0.step)⟩
 ·rw [if_neg c3] at H
  have c3b0 : ((l0.length : Int) == (l1.length : Int)) = false := beq_eq_false_iff_ne.mpr c3
  have c3b1 : ((l0.length : Int) != (l1.length : Int)) = true := bne_iff_ne.mpr c3
  have c3b2 : (l0.length == l1.length) = false := by first | simpa using c3 | (simp at c3 ⊢; omega)
  obtain rfl := Option.some.inj H
  go_enter Try.func67, Try.ntmps67
  go_wp2
  repeat (go_quiet (fail); try go_wp2)
  go_ret
  exact ⟨by first | rfl | (simp; done) | (simp [*]; done), by repeat (first | exact Drawn0.refl _ | apply Drawn0.step)⟩

/-! ### laws_sameStripes: function 36 -/
def laws_sameStripes.f (k : Nat) (l0_0 : List ByteArray) (a0_1 : ByteArray) (a0_2 : ByteArray) (l1_0 : List ByteArray) (a1_1 : ByteArray) (a1_2 : ByteArray) : Option (Bool) := if a0_1.toList = a1_1.toList then (if a0_2.toList = a1_2.toList then ((laws_sameTexts.f k l0_0 l1_0).bind fun t400 => (some t400)) else (some false)) else (some false)
theorem laws_sameStripes.mono : ∀ a0 a1 a2 a3 a4 a5 k, LeO (laws_sameStripes.f k a0 a1 a2 a3 a4 a5) (laws_sameStripes.f (k + 1) a0 a1 a2 a3 a4 a5) := by
 intro a0 a1 a2 a3 a4 a5 k
 unfold laws_sameStripes.f
 repeat' first
   | (with_reducible exact laws_sameTexts.mono _ _ _)
   | (with_reducible exact LeO.refl _)
   | (with_reducible exact LeO.none _)
   | (with_reducible refine LeO.ite ?_ ?_)
   | (with_reducible refine LeO.bind ?_ (fun _ => ?_))
   | exact laws_sameTexts.mono _ _ _
   | exact LeO.none _
   | refine LeO.ite ?_ ?_
   | refine LeO.bind ?_ (fun _ => ?_)
set_option maxHeartbeats 8000000 in
set_option maxRecDepth 100000 in
theorem laws_sameStripes.calls (k : Nat) (A0_0 : Option Addr) (c0_0 : Nat) (l0_0 : List ByteArray) (a0_1 : ByteArray) (a0_2 : ByteArray) (A1_0 : Option Addr) (c1_0 : Nat) (l1_0 : List ByteArray) (a1_1 : ByteArray) (a1_2 : ByteArray) (r : Bool) (w : World) (hr0_0 : Kd.C Kd.string w A0_0 l0_0.length l0_0) (hc0_0 : l0_0.length ≤ c0_0) (hr1_0 : Kd.C Kd.string w A1_0 l1_0.length l1_0) (hc1_0 : l1_0.length ≤ c1_0) (h : laws_sameStripes.f k l0_0 a0_1 a0_2 l1_0 a1_1 a1_2 = some r) :
  Calls Try.prog 36 #[.agg #[.slice A0_0 l0_0.length c0_0, .string a0_1, .string a0_2], .agg #[.slice A1_0 l1_0.length c1_0, .string a1_1, .string a1_2]] w fun e w' => e = .returned (.bool r) ∧ Below w.heap.size w w' := by
 have hu27 := Try.underlying27
 have HR0_0 := aM hr0_0
 have HC0_0 := aM hc0_0
 clear hr0_0 hc0_0
 have HR1_0 := aM hr1_0
 have HC1_0 := aM hc1_0
 clear hr1_0 hc1_0
 have HB := aM (Below.refl w.heap.size w)
 have H : (if a0_1.toList = a1_1.toList then (if a0_2.toList = a1_2.toList then ((laws_sameTexts.f k l0_0 l1_0).bind fun t400 => (some t400)) else (some false)) else (some false)) = some r := h
 clear h
 by_cases c3 : a0_1.toList = a1_1.toList
 ·rw [if_pos c3] at H
  have c3b0 : (a0_1.toList == a1_1.toList) = true := beq_iff_eq.mpr c3
  have c3b1 : (a0_1.toList != a1_1.toList) = false := bne_eq_false_iff_eq.mpr c3
  clear c3
  by_cases c4 : a0_2.toList = a1_2.toList
  ·rw [if_pos c4] at H
   have c4b0 : (a0_2.toList == a1_2.toList) = true := beq_iff_eq.mpr c4
   have c4b1 : (a0_2.toList != a1_2.toList) = false := bne_eq_false_iff_eq.mpr c4
   clear c4
   replace H := Option.bind_eq_some_iff.mp H
   obtain ⟨t400, A50, H⟩ := H
   replace H : (some t400) = some r := H
   have A5 := aM A50
   clear A50
   obtain rfl := Option.some.inj H
   go_enter Try.func36, Try.ntmps36
   go_wp2_with (first | ((with_reducible refine gate_dst (N := 2) rfl ?_); refine box_event ?hg (N := 2) ?hd (cs := #[.slice A0_0 l0_0.length c0_0, .string a0_1, .string a0_2]) (t := 27) ?hr ?_; (case hd => rfl); (case hg => rfl); (case hr => first | (go_simp; done) | (go_simp; rfl)); intro gb398 hg w6 hbox hb; have BK398 := aM (hbox); have GW398 := aM ((by rw [hg]; exact (zZ (zH HB.out)) : w.heap.size ≤ gb398)); have GE398 := aM ((by rw [hg]; exact (zZ (zH HB.out)) : w.heap.size ≤ gb398)); replace HB := aM (zT (zH HB.out) hb); clear hb hbox hg) | ((with_reducible refine gate_dst (N := 3) rfl ?_); refine box_event ?hg (N := 3) ?hd (cs := #[.slice A1_0 l1_0.length c1_0, .string a1_1, .string a1_2]) (t := 27) ?hr ?_; (case hd => rfl); (case hg => rfl); (case hr => first | (go_simp; done) | (go_simp; rfl)); intro gb399 hg w7 hbox hb; have BK399 := aM (hbox); have GW399 := aM ((by rw [hg]; exact (zZ (zH HB.out)) : w.heap.size ≤ gb399)); have GE399 := aM ((by rw [hg]; exact (zZ (zH HB.out)) : w.heap.size ≤ gb399)); replace HB := aM (zT (zH HB.out) hb); have NB398_399 := nL BK398.out hg; have NB399_398 := nR BK398.out hg; replace BK398 := yK BK398.out hb; clear hb hbox hg; have hnb8 := NB398_399.out; have hnc8 := NB399_398.out; have hcz9_0 : w7.cell? ⟨gb398, 0, none⟩ = some (.slice A0_0 l0_0.length c0_0) := yc BK398.out 0; have hcz9_1 : w7.cell? ⟨gb398, 1, none⟩ = some (.string a0_1) := yc BK398.out 1; have hcz9_2 : w7.cell? ⟨gb398, 2, none⟩ = some (.string a0_2) := yc BK398.out 2; have hfz9_0 := yZ BK398.out 0; have hfz9_1 := yZ BK398.out 1; have hfz9_2 := yZ BK398.out 2; have hcz10_0 : w7.cell? ⟨gb399, 0, none⟩ = some (.slice A1_0 l1_0.length c1_0) := yc BK399.out 0; have hcz10_1 : w7.cell? ⟨gb399, 1, none⟩ = some (.string a1_1) := yc BK399.out 1; have hcz10_2 : w7.cell? ⟨gb399, 2, none⟩ = some (.string a1_2) := yc BK399.out 2; have hfz10_0 := yZ BK399.out 0; have hfz10_1 := yZ BK399.out 1; have hfz10_2 := yZ BK399.out 2) | (go_at_call 67; (with_reducible refine (laws_sameTexts.calls k _ _ l0_0 _ _ l1_0 t400 _ ?side1 ?side2 ?side3 ?side4 A5.out).mono ?_); (case side1 => exact cK HR0_0.out HB.out); (case side2 => exact HC0_0.out); (case side3 => exact cK HR1_0.out HB.out); (case side4 => exact HC1_0.out); rintro e w' ⟨rfl, ⟨nd, rfl⟩⟩))
   go_ret
   exact ⟨by first | rfl | (simp [errW_none, errW_some] <;> rfl) | (simp [*, errW_none, errW_some] <;> rfl), zH HB.out⟩
  ·rw [if_neg c4] at H
   have c4b0 : (a0_2.toList == a1_2.toList) = false := beq_eq_false_iff_ne.mpr c4
   have c4b1 : (a0_2.toList != a1_2.toList) = true := bne_iff_ne.mpr c4
   obtain rfl := Option.some.inj H
   go_enter Try.func36, Try.ntmps36
   go_wp2_with (first | ((with_reducible refine gate_dst (N := 2) rfl ?_); refine box_event ?hg (N := 2) ?hd (cs := #[.slice A0_0 l0_0.length c0_0, .string a0_1, .string a0_2]) (t := 27) ?hr ?_; (case hd => rfl); (case hg => rfl); (case hr => first | (go_simp; done) | (go_simp; rfl)); intro gb398 hg w11 hbox hb; have BK398 := aM (hbox); have GW398 := aM ((by rw [hg]; exact (zZ (zH HB.out)) : w.heap.size ≤ gb398)); have GE398 := aM ((by rw [hg]; exact (zZ (zH HB.out)) : w.heap.size ≤ gb398)); replace HB := aM (zT (zH HB.out) hb); clear hb hbox hg) | ((with_reducible refine gate_dst (N := 3) rfl ?_); refine box_event ?hg (N := 3) ?hd (cs := #[.slice A1_0 l1_0.length c1_0, .string a1_1, .string a1_2]) (t := 27) ?hr ?_; (case hd => rfl); (case hg => rfl); (case hr => first | (go_simp; done) | (go_simp; rfl)); intro gb399 hg w12 hbox hb; have BK399 := aM (hbox); have GW399 := aM ((by rw [hg]; exact (zZ (zH HB.out)) : w.heap.size ≤ gb399)); have GE399 := aM ((by rw [hg]; exact (zZ (zH HB.out)) : w.heap.size ≤ gb399)); replace HB := aM (zT (zH HB.out) hb); have NB398_399 := nL BK398.out hg; have NB399_398 := nR BK398.out hg; replace BK398 := yK BK398.out hb; clear hb hbox hg; have hnb13 := NB398_399.out; have hnc13 := NB399_398.out; have hcz14_0 : w12.cell? ⟨gb398, 0, none⟩ = some (.slice A0_0 l0_0.length c0_0) := yc BK398.out 0; have hcz14_1 : w12.cell? ⟨gb398, 1, none⟩ = some (.string a0_1) := yc BK398.out 1; have hcz14_2 : w12.cell? ⟨gb398, 2, none⟩ = some (.string a0_2) := yc BK398.out 2; have hfz14_0 := yZ BK398.out 0; have hfz14_1 := yZ BK398.out 1; have hfz14_2 := yZ BK398.out 2; have hcz15_0 : w12.cell? ⟨gb399, 0, none⟩ = some (.slice A1_0 l1_0.length c1_0) := yc BK399.out 0; have hcz15_1 : w12.cell? ⟨gb399, 1, none⟩ = some (.string a1_1) := yc BK399.out 1; have hcz15_2 : w12.cell? ⟨gb399, 2, none⟩ = some (.string a1_2) := yc BK399.out 2; have hfz15_0 := yZ BK399.out 0; have hfz15_1 := yZ BK399.out 1; have hfz15_2 := yZ BK399.out 2))
   go_ret
   exact ⟨by first | rfl | (simp [errW_none, errW_some] <;> rfl) | (simp [*, errW_none, errW_some] <;> rfl), zH HB.out⟩
 ·rw [if_neg c3] at H
  have c3b0 : (a0_1.toList == a1_1.toList) = false := beq_eq_false_iff_ne.mpr c3
  have c3b1 : (a0_1.toList != a1_1.toList) = true := bne_iff_ne.mpr c3
  obtain rfl := Option.some.inj H
  go_enter Try.func36, Try.ntmps36
  go_wp2_with (first | ((with_reducible refine gate_dst (N := 2) rfl ?_); refine box_event ?hg (N := 2) ?hd (cs := #[.slice A0_0 l0_0.length c0_0, .string a0_1, .string a0_2]) (t := 27) ?hr ?_; (case hd => rfl); (case hg => rfl); (case hr => first | (go_simp; done) | (go_simp; rfl)); intro gb398 hg w16 hbox hb; have BK398 := aM (hbox); have GW398 := aM ((by rw [hg]; exact (zZ (zH HB.out)) : w.heap.size ≤ gb398)); have GE398 := aM ((by rw [hg]; exact (zZ (zH HB.out)) : w.heap.size ≤ gb398)); replace HB := aM (zT (zH HB.out) hb); clear hb hbox hg) | ((with_reducible refine gate_dst (N := 3) rfl ?_); refine box_event ?hg (N := 3) ?hd (cs := #[.slice A1_0 l1_0.length c1_0, .string a1_1, .string a1_2]) (t := 27) ?hr ?_; (case hd => rfl); (case hg => rfl); (case hr => first | (go_simp; done) | (go_simp; rfl)); intro gb399 hg w17 hbox hb; have BK399 := aM (hbox); have GW399 := aM ((by rw [hg]; exact (zZ (zH HB.out)) : w.heap.size ≤ gb399)); have GE399 := aM ((by rw [hg]; exact (zZ (zH HB.out)) : w.heap.size ≤ gb399)); replace HB := aM (zT (zH HB.out) hb); have NB398_399 := nL BK398.out hg; have NB399_398 := nR BK398.out hg; replace BK398 := yK BK398.out hb; clear hb hbox hg; have hnb18 := NB398_399.out; have hnc18 := NB399_398.out; have hcz19_0 : w17.cell? ⟨gb398, 0, none⟩ = some (.slice A0_0 l0_0.length c0_0) := yc BK398.out 0; have hcz19_1 : w17.cell? ⟨gb398, 1, none⟩ = some (.string a0_1) := yc BK398.out 1; have hcz19_2 : w17.cell? ⟨gb398, 2, none⟩ = some (.string a0_2) := yc BK398.out 2; have hfz19_0 := yZ BK398.out 0; have hfz19_1 := yZ BK398.out 1; have hfz19_2 := yZ BK398.out 2; have hcz20_0 : w17.cell? ⟨gb399, 0, none⟩ = some (.slice A1_0 l1_0.length c1_0) := yc BK399.out 0; have hcz20_1 : w17.cell? ⟨gb399, 1, none⟩ = some (.string a1_1) := yc BK399.out 1; have hcz20_2 : w17.cell? ⟨gb399, 2, none⟩ = some (.string a1_2) := yc BK399.out 2; have hfz20_0 := yZ BK399.out 0; have hfz20_1 := yZ BK399.out 1; have hfz20_2 := yZ BK399.out 2))
  go_ret
  exact ⟨by first | rfl | (simp [errW_none, errW_some] <;> rfl) | (simp [*, errW_none, errW_some] <;> rfl), zH HB.out⟩

/-! ### spec_DrawGoodStripe: function 68 -/
def spec_DrawGoodStripe.f (k : Nat) (l0 : List Int) : Option (List ByteArray × ByteArray × ByteArray) := (spec_l1Cur_stripe.f k l0 0 0).bind fun bt403 => (some (bt403.1, bt403.2.1, bt403.2.2.1))
theorem spec_DrawGoodStripe.mono : ∀ a0 k, LeO (spec_DrawGoodStripe.f k a0) (spec_DrawGoodStripe.f (k + 1) a0) := by
 intro a0 k
 unfold spec_DrawGoodStripe.f
 repeat' first
   | (with_reducible exact spec_l1Cur_stripe.mono _ _ _ _)
   | (with_reducible exact LeO.refl _)
   | (with_reducible exact LeO.none _)
   | (with_reducible refine LeO.ite ?_ ?_)
   | (with_reducible refine LeO.bind ?_ (fun _ => ?_))
   | exact spec_l1Cur_stripe.mono _ _ _ _
   | exact LeO.none _
   | refine LeO.ite ?_ ?_
   | refine LeO.bind ?_ (fun _ => ?_)
set_option maxHeartbeats 8000000 in
set_option maxRecDepth 100000 in
theorem spec_DrawGoodStripe.calls (k : Nat) (A0 : Option Addr) (c0 : Nat) (l0 : List Int) (r1 : List ByteArray) (r2 : ByteArray) (r3 : ByteArray) (w : World) (hr0 : Kd.C (Kd.int .u8) w A0 l0.length l0) (hc0 : l0.length ≤ c0) (h : spec_DrawGoodStripe.f k l0 = some (r1, r2, r3)) :
  Calls Try.prog 68 #[.slice A0 l0.length c0] w fun e w' => ∃ v0_ : Value, e = .returned (.agg #[v0_, .string r2, .string r3]) ∧ Kd.R Kd.string 9 w' w.heap.size (fun _ => True) v0_ r1 ∧ Below w.heap.size w w' := by
 have hu27 := Try.underlying27
 have hu75 := Try.underlying75
 have HR0 := aM hr0
 have HC0 := aM hc0
 clear hr0 hc0
 have HB := aM (Below.refl w.heap.size w)
 have H : ((spec_l1Cur_stripe.f k l0 0 0).bind fun bt403 => (some (bt403.1, bt403.2.1, bt403.2.2.1))) = some (r1, r2, r3) := h
 clear h
 replace H := Option.bind_eq_some_iff.mp H
 obtain ⟨⟨t403, t406, t407, t408, t409⟩, A20, H⟩ := H
 replace H : (some (t403, t406, t407)) = some (r1, r2, r3) := H
 have A2 := aM A20
 clear A20
 simp only [Option.some.injEq, Prod.mk.injEq] at H
 obtain ⟨rfl, rfl, rfl⟩ := H
 go_enter Try.func68, Try.ntmps68
 go_wp2_with (first | ((with_reducible refine gate_dst (N := 2) rfl ?_); refine box_event ?hg (N := 2) ?hd (cs := #[.slice none 0 0, .string (⟨#[]⟩ : ByteArray), .string (⟨#[]⟩ : ByteArray)]) (t := 27) ?hr ?_; (case hd => rfl); (case hg => rfl); (case hr => first | (go_simp; done) | (go_simp; rfl)); intro gb401 hg w3 hbox hb; have BK401 := aM (hbox); have GW401 := aM ((by rw [hg]; exact (zZ (zH HB.out)) : w.heap.size ≤ gb401)); have GE401 := aM ((by rw [hg]; exact (zZ (zH HB.out)) : w.heap.size ≤ gb401)); replace HB := aM (zT (zH HB.out) hb); clear hb hbox hg) | ((with_reducible refine gate_dst (N := 6) rfl ?_); refine box_event ?hg (N := 6) ?hd (cs := #[.slice A0 l0.length c0, .int .i64 0, .int .u64 0]) (t := 75) ?hr ?_; (case hd => rfl); (case hg => rfl); (case hr => first | (go_simp; done) | (go_simp; rfl)); intro gb402 hg w4 hbox hb; have GW402 := aM ((by rw [hg]; exact (zZ (zH HB.out)) : w.heap.size ≤ gb402)); have GE402 := aM ((by rw [hg]; exact (zZ (zH HB.out)) : w.heap.size ≤ gb402)); have NB401_402 := nL BK401.out hg; have NB402_401 := nR BK401.out hg; replace BK401 := yK BK401.out hb; have HI402 := aM ((⟨_, _, hbox, (by rw [hg]; exact (zZ (zH HB.out))), HR0.out⟩ : IsS75 w _ gb402 l0 0 0)); replace HB := aM (zT (zH HB.out) hb); clear hb hbox hg) | ((with_reducible refine gate_callee (f := 64) rfl ?_); refine goesL_ (some 8) rfl rfl Try.func64 (by kernel_rfl) rfl #[.pointer (some ⟨gb402, 0, none⟩)] rfl (by (try simp only [List.map_toArray, List.map_cons, List.map_nil]); first | done | rfl | (simp only [List.length_drop, List.length_take]; rfl)) ?_; (with_reducible refine (spec_l1Cur_stripe.calls k gb402 l0 0 0 t403 t406 t407 t408 t409 w _ ?side1 ?side2 A2.out).mono ?_); (case side1 => repeat (first | (with_reducible first | exact HI402.out | apply IsS75.alloc | apply IsS75.drewN | apply IsS75.drew | apply IsS75.set_1 | apply IsS75.set_2 | refine IsS75.far ?_ NB402_401.out _) | exact HI402.out)); (case side2 => repeat (first | (with_reducible first | exact HB.out | apply zA | apply zN | apply zD | refine zS ?_ (IsS75.ge HI402.out) | refine zS ?_ GE401.out) | exact HB.out)); rintro e w5 ⟨v404, rfl, ho0, hi, hb, hk⟩; refine ⟨_, rfl, ?_⟩; replace BK401 := aM (KeepBut.blk hk (g' := gb401) (o := .cells #[.slice none 0 0, .string (⟨#[]⟩ : ByteArray), .string (⟨#[]⟩ : ByteArray)] 27 (0, 0)) (yH BK401.out) NB401_402.out (by simp)); have HO405 := aM (xL ho0 (zZ (by repeat (first | (with_reducible first | exact HB.out | apply zA | apply zN | apply zD | refine zS ?_ (IsS75.ge HI402.out) | refine zS ?_ GE401.out) | exact HB.out)))); replace HB := aM (hb); replace HI402 := aM (hi); (try clear hb); (try clear ho0); obtain ⟨Ao6, co6, eo6⟩ := Kd.R_slice HO405.out; subst eo6; have hnb7 := NB401_402.out; have hnc7 := NB402_401.out; have hcz8_0 : w5.cell? ⟨gb401, 0, none⟩ = some (.slice none 0 0) := yc BK401.out 0; have hcz8_1 : w5.cell? ⟨gb401, 1, none⟩ = some (.string (⟨#[]⟩ : ByteArray)) := yc BK401.out 1; have hcz8_2 : w5.cell? ⟨gb401, 2, none⟩ = some (.string (⟨#[]⟩ : ByteArray)) := yc BK401.out 2; have hfz8_0 := yZ BK401.out 0; have hfz8_1 := yZ BK401.out 1; have hfz8_2 := yZ BK401.out 2))
 refine bodyPost_ret (results_cell_row rfl _ _ gb401 27 #[.slice Ao6 t403.length co6, .string t406, .string t407] (0, 0) _ rfl (by (with_reducible repeat (first | refine yN ?_ _ | refine yD ?_ | refine yA ?_ _)); refine yP (cs := #[.slice Ao6 t403.length co6, .string t406, .string (⟨#[]⟩ : ByteArray)]) ?_ 2 _ rfl; (with_reducible repeat (first | refine yN ?_ _ | refine yD ?_ | refine yA ?_ _)); refine yP (cs := #[.slice Ao6 t403.length co6, .string (⟨#[]⟩ : ByteArray), .string (⟨#[]⟩ : ByteArray)]) ?_ 1 _ rfl; (with_reducible repeat (first | refine yN ?_ _ | refine yD ?_ | refine yA ?_ _)); refine yP (cs := #[.slice none 0 0, .string (⟨#[]⟩ : ByteArray), .string (⟨#[]⟩ : ByteArray)]) ?_ 0 _ rfl; (with_reducible repeat (first | refine yN ?_ _ | refine yD ?_ | refine yA ?_ _)); exact BK401.out) Try.underlying27 rfl (by kernel_rfl)) rfl ?_
 exact ⟨_, by first | rfl | (simp [errW_none, errW_some] <;> rfl) | (simp [*, errW_none, errW_some] <;> rfl), xH (xM (xF (p := ⟨gb401, 2, none⟩) (xF (p := ⟨gb401, 1, none⟩) (xF (p := ⟨gb401, 0, none⟩) (xT HO405.out BK401.out (by decide)) (fun _ hk => hk.2) (.slice Ao6 t403.length co6)) (fun _ hk => hk.2) (.string t406)) (fun _ hk => hk.2) (.string t407)) (fun _ hk => trivial)), by repeat (first | (with_reducible first | exact HB.out | apply zA | apply zN | apply zD | refine zS ?_ (IsS75.ge HI402.out) | refine zS ?_ GE401.out) | exact HB.out)⟩

/-! ### spec_DrawFindWrong: function 37 -/
def spec_DrawFindWrong.f (k : Nat) (l0 : List Int) : Option (List ByteArray × ByteArray × ByteArray) := (spec_DrawGoodStripe.f k l0).bind fun bt411 => (some (bt411.1, bt411.2.1, bt411.2.2))
theorem spec_DrawFindWrong.mono : ∀ a0 k, LeO (spec_DrawFindWrong.f k a0) (spec_DrawFindWrong.f (k + 1) a0) := by
 intro a0 k
 unfold spec_DrawFindWrong.f
 repeat' first
   | (with_reducible exact spec_DrawGoodStripe.mono _ _)
   | (with_reducible exact LeO.refl _)
   | (with_reducible exact LeO.none _)
   | (with_reducible refine LeO.ite ?_ ?_)
   | (with_reducible refine LeO.bind ?_ (fun _ => ?_))
   | exact spec_DrawGoodStripe.mono _ _
   | exact LeO.none _
   | refine LeO.ite ?_ ?_
   | refine LeO.bind ?_ (fun _ => ?_)
set_option maxHeartbeats 8000000 in
set_option maxRecDepth 100000 in
theorem spec_DrawFindWrong.calls (k : Nat) (A0 : Option Addr) (c0 : Nat) (l0 : List Int) (r1 : List ByteArray) (r2 : ByteArray) (r3 : ByteArray) (w : World) (hr0 : Kd.C (Kd.int .u8) w A0 l0.length l0) (hc0 : l0.length ≤ c0) (h : spec_DrawFindWrong.f k l0 = some (r1, r2, r3)) :
  Calls Try.prog 37 #[.slice A0 l0.length c0] w fun e w' => ∃ v0_ : Value, e = .returned (.agg #[v0_, .string r2, .string r3]) ∧ Kd.R Kd.string 9 w' w.heap.size (fun _ => True) v0_ r1 ∧ Below w.heap.size w w' := by
 have hu27 := Try.underlying27
 have HR0 := aM hr0
 have HC0 := aM hc0
 clear hr0 hc0
 have HB := aM (Below.refl w.heap.size w)
 have H : ((spec_DrawGoodStripe.f k l0).bind fun bt411 => (some (bt411.1, bt411.2.1, bt411.2.2))) = some (r1, r2, r3) := h
 clear h
 replace H := Option.bind_eq_some_iff.mp H
 obtain ⟨⟨t411, t414, t415⟩, A20, H⟩ := H
 replace H : (some (t411, t414, t415)) = some (r1, r2, r3) := H
 have A2 := aM A20
 clear A20
 simp only [Option.some.injEq, Prod.mk.injEq] at H
 obtain ⟨rfl, rfl, rfl⟩ := H
 go_enter Try.func37, Try.ntmps37
 go_wp2_with (first | ((with_reducible refine gate_dst (N := 2) rfl ?_); refine box_event ?hg (N := 2) ?hd (cs := #[.slice none 0 0, .string (⟨#[]⟩ : ByteArray), .string (⟨#[]⟩ : ByteArray)]) (t := 27) ?hr ?_; (case hd => rfl); (case hg => rfl); (case hr => first | (go_simp; done) | (go_simp; rfl)); intro gb410 hg w3 hbox hb; have BK410 := aM (hbox); have GW410 := aM ((by rw [hg]; exact (zZ (zH HB.out)) : w.heap.size ≤ gb410)); have GE410 := aM ((by rw [hg]; exact (zZ (zH HB.out)) : w.heap.size ≤ gb410)); replace HB := aM (zT (zH HB.out) hb); clear hb hbox hg) | ((with_reducible refine gate_callee (f := 68) rfl ?_); refine goesL_ (some 4) rfl rfl Try.func68 (by kernel_rfl) rfl #[.slice A0 l0.length c0] rfl (by (try simp only [List.map_toArray, List.map_cons, List.map_nil]); first | done | rfl | (simp only [List.length_drop, List.length_take]; rfl)) ?_; (with_reducible refine (spec_DrawGoodStripe.calls k _ _ l0 t411 t414 t415 _ ?side1 ?side2 A2.out).mono ?_); (case side1 => exact cK HR0.out HB.out); (case side2 => exact HC0.out); rintro e w4 ⟨v412, rfl, ho0, hb⟩; refine ⟨_, rfl, ?_⟩; have HO413 := aM (xL ho0 (zZ (zH HB.out))); replace BK410 := yK BK410.out hb; replace HB := aM (zT (zH HB.out) hb); (try clear hb); (try clear ho0); obtain ⟨Ao5, co5, eo5⟩ := Kd.R_slice HO413.out; subst eo5; have hcz6_0 : w4.cell? ⟨gb410, 0, none⟩ = some (.slice none 0 0) := yc BK410.out 0; have hcz6_1 : w4.cell? ⟨gb410, 1, none⟩ = some (.string (⟨#[]⟩ : ByteArray)) := yc BK410.out 1; have hcz6_2 : w4.cell? ⟨gb410, 2, none⟩ = some (.string (⟨#[]⟩ : ByteArray)) := yc BK410.out 2; have hfz6_0 := yZ BK410.out 0; have hfz6_1 := yZ BK410.out 1; have hfz6_2 := yZ BK410.out 2))
 refine bodyPost_ret (results_cell_row rfl _ _ gb410 27 #[.slice Ao5 t411.length co5, .string t414, .string t415] (0, 0) _ rfl (by (with_reducible repeat (first | refine yN ?_ _ | refine yD ?_ | refine yA ?_ _)); refine yP (cs := #[.slice Ao5 t411.length co5, .string t414, .string (⟨#[]⟩ : ByteArray)]) ?_ 2 _ rfl; (with_reducible repeat (first | refine yN ?_ _ | refine yD ?_ | refine yA ?_ _)); refine yP (cs := #[.slice Ao5 t411.length co5, .string (⟨#[]⟩ : ByteArray), .string (⟨#[]⟩ : ByteArray)]) ?_ 1 _ rfl; (with_reducible repeat (first | refine yN ?_ _ | refine yD ?_ | refine yA ?_ _)); refine yP (cs := #[.slice none 0 0, .string (⟨#[]⟩ : ByteArray), .string (⟨#[]⟩ : ByteArray)]) ?_ 0 _ rfl; (with_reducible repeat (first | refine yN ?_ _ | refine yD ?_ | refine yA ?_ _)); exact BK410.out) Try.underlying27 rfl (by kernel_rfl)) rfl ?_
 exact ⟨_, by first | rfl | (simp [errW_none, errW_some] <;> rfl) | (simp [*, errW_none, errW_some] <;> rfl), xH (xM (xF (p := ⟨gb410, 2, none⟩) (xF (p := ⟨gb410, 1, none⟩) (xF (p := ⟨gb410, 0, none⟩) (xT HO413.out BK410.out (by decide)) (fun _ hk => hk.2) (.slice Ao5 t411.length co5)) (fun _ hk => hk.2) (.string t414)) (fun _ hk => hk.2) (.string t415)) (fun _ hk => trivial)), zH HB.out⟩

end Go.Proofs.Ytfijnlhklfmoeaa.PFnUpdated
