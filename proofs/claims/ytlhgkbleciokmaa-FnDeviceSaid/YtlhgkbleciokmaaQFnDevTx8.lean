/- The walks of FnDevice: Go's calls come to what the Lean functions beside them say; no condition. -/
import Derived.Test.YtlhgkbleciokmaaQFnDevTx0
import Derived.Test.YtlhgkbleciokmaaQFnDevTx5
import Derived.Test.YtlhgkbleciokmaaQFnDevTx6
import Derived.Test.YtlhgkbleciokmaaQFnDevTx7
namespace Go.Proofs.Ytlhgkbleciokmaa.PFnDevice
open Go.RowKit Go.Proofs.YtlhgkbleciokmaaW.PrintWords Go.Proofs.YtlhgkbleciokmaaW.PrintLast Go.Proofs.YtlhgkbleciokmaaW.PrintMore
attribute [local go_sem] max2_int min2_int max_two min_two max_three min_three max_four min_four   -- for this text's walks alone
set_option linter.unusedVariables false
set_option linter.unusedSimpArgs false
set_option maxRecDepth 100000

/-! ### spec_DrawWriteSector: function 48 -/
def spec_DrawWriteSector.f (k : Nat) (l0 : List Int) : Option (List ByteArray × (List (S42)) × Int × ByteArray) := (spec_l1Cur_device.f k l0 0 0).bind fun bt305 => ((spec_l1Cur_write.f k l0 bt305.2.2.1 bt305.2.2.2 (bt305.1.length : Int)).bind fun bt314 => (some (bt305.1, bt305.2.1, bt314.1, bt314.2.1)))
theorem spec_DrawWriteSector.mono : ∀ a0 k, LeO (spec_DrawWriteSector.f k a0) (spec_DrawWriteSector.f (k + 1) a0) := by
 intro a0 k
 unfold spec_DrawWriteSector.f
 repeat' first
   | (with_reducible exact spec_l1Cur_device.mono _ _ _ _)
   | (with_reducible exact spec_l1Cur_write.mono _ _ _ _ _)
   | (with_reducible exact LeO.refl _)
   | (with_reducible exact LeO.none _)
   | (with_reducible refine LeO.ite ?_ ?_)
   | (with_reducible refine LeO.bind ?_ (fun _ => ?_))
   | exact spec_l1Cur_device.mono _ _ _ _
   | exact spec_l1Cur_write.mono _ _ _ _ _
   | exact LeO.none _
   | refine LeO.ite ?_ ?_
   | refine LeO.bind ?_ (fun _ => ?_)
def spec_DrawWriteSector.T3 : Bool × List (List Nat × List Nat) := (true, [([], []), ([], []), ([], []), ([2], [2]), ([3], [3]), ([1, 4], [1, 4]), ([0, 5, 0], [0]), ([5, 6, 0, 1, 2, 3, 4, 5, 6], [5])])
def spec_DrawWriteSector.B3 : List Nat := [0, 0, 0, 4, 12, 30, 63, 127]
theorem spec_DrawWriteSector.tab3 : rtab .any (opsOf Try.f48 3) = spec_DrawWriteSector.T3 := by kernel_rfl
theorem spec_DrawWriteSector.bits3 : waitsOk spec_DrawWriteSector.T3.2 spec_DrawWriteSector.B3 = true := by kernel_rfl
set_option maxHeartbeats 8000000 in
set_option maxRecDepth 100000 in
theorem spec_DrawWriteSector.calls (k : Nat) (A0 : Option Addr) (c0 : Nat) (l0 : List Int) (r1 : List ByteArray) (r2 : List (S42)) (r3 : Int) (r4 : ByteArray) (w : World) (hr0 : Kd.C (Kd.int .u8) w A0 l0.length l0) (hc0 : l0.length ≤ c0) (h : spec_DrawWriteSector.f k l0 = some (r1, r2, r3, r4)) :
  Calls Try.prog 48 #[.slice A0 l0.length c0] w fun e w' => ∃ v0_ v1_ : Value, e = .returned (.tuple #[.agg #[v0_, v1_], .agg #[.int .i64 r3, .string r4]]) ∧ Kd.R Kd.string 9 w' w.heap.size (fun _ => True) v0_ r1 ∧ Kd.R k42 42 w' w.heap.size (fun _ => True) v1_ r2 ∧ Below w.heap.size w w' := by
 have hu30 := Try.underlying30; have hu42 := Try.underlying42; have hu97 := Try.underlying97; have HR0 := aM hr0; have HC0 := aM hc0; clear hr0 hc0; have HB := aM (Below.refl w.heap.size w)
 have H : ((spec_l1Cur_device.f k l0 0 0).bind fun bt305 => ((spec_l1Cur_write.f k l0 bt305.2.2.1 bt305.2.2.2 (bt305.1.length : Int)).bind fun bt314 => (some (bt305.1, bt305.2.1, bt314.1, bt314.2.1)))) = some (r1, r2, r3, r4) := h
 clear h; replace H := Option.bind_eq_some_iff.mp H; obtain ⟨⟨t305, t308, t311, t312⟩, A20, H⟩ := H
 replace H : ((spec_l1Cur_write.f k l0 t311 t312 (t305.length : Int)).bind fun bt314 => (some (t305, t308, bt314.1, bt314.2.1))) = some (r1, r2, r3, r4) := H
 have A2 := aM A20; clear A20; replace H := Option.bind_eq_some_iff.mp H; obtain ⟨⟨t314, t315, t316, t317⟩, A30, H⟩ := H; replace H : (some (t305, t308, t314, t315)) = some (r1, r2, r3, r4) := H; have A3 := aM A30; clear A30
 simp only [Option.some.injEq, Prod.mk.injEq] at H
 obtain ⟨rfl, rfl, rfl, rfl⟩ := H
 go_enter Try.func48, Try.ntmps48
 try go_wp2_with (first | ((with_reducible refine gate_dst (N := 2) rfl ?_); refine box_event ?hg (N := 2) ?hd (cs := #[.slice none 0 0, .slice none 0 0]) (t := 30) ?hr ?_; (case hd => rfl); (case hg => rfl); (case hr => first | (go_simp; done) | (go_simp; rfl)); intro gb302 hg w4 hbox hb; have BK302 := aM (hbox); have GW302 := aM ((by rw [hg]; exact (zZ (zH HB.out)) : w.heap.size ≤ gb302)); have GE302 := aM ((by rw [hg]; exact (zZ (zH HB.out)) : w.heap.size ≤ gb302)); replace HB := aM (zT (zH HB.out) hb); clear hb hbox hg) | ((with_reducible refine gate_dst (N := 3) rfl ?_); refine box_event ?hg (N := 3) ?hd (cs := #[.int .i64 0, .string (⟨#[]⟩ : ByteArray)]) (t := 42) ?hr ?_; (case hd => rfl); (case hg => rfl); (case hr => first | (go_simp; done) | (go_simp; rfl)); intro gb303 hg w5 hbox hb; have BK303 := aM (hbox); have GW303 := aM ((by rw [hg]; exact (zZ (zH HB.out)) : w.heap.size ≤ gb303)); have GE303 := aM ((by rw [hg]; exact (zZ (zH HB.out)) : w.heap.size ≤ gb303)); replace HB := aM (zT (zH HB.out) hb); have NB302_303 := nL BK302.out hg; have NB303_302 := nR BK302.out hg; replace BK302 := yK BK302.out hb; clear hb hbox hg) | ((with_reducible refine gate_dst (N := 8) rfl ?_); refine box_event ?hg (N := 8) ?hd (cs := #[.slice A0 l0.length c0, .int .i64 0, .int .u64 0]) (t := 97) ?hr ?_; (case hd => rfl); (case hg => rfl); (case hr => first | (go_simp; done) | (go_simp; rfl)); intro gb304 hg w6 hbox hb; have GW304 := aM ((by rw [hg]; exact (zZ (zH HB.out)) : w.heap.size ≤ gb304)); have GE304 := aM ((by rw [hg]; exact (zZ (zH HB.out)) : w.heap.size ≤ gb304)); have NB302_304 := nL BK302.out hg; have NB304_302 := nR BK302.out hg; replace BK302 := yK BK302.out hb; have NB303_304 := nL BK303.out hg; have NB304_303 := nR BK303.out hg; replace BK303 := yK BK303.out hb; have HI304 := aM ((⟨_, _, hbox, (by rw [hg]; exact (zZ (zH HB.out))), HR0.out⟩ : IsS97 w _ gb304 l0 0 0)); replace HB := aM (zT (zH HB.out) hb); clear hb hbox hg) | ((with_reducible refine gate_callee (f := 81) rfl ?_); refine goesL_ (some 10) rfl rfl Try.func81 (by kernel_rfl) rfl #[.pointer (some ⟨gb304, 0, none⟩)] rfl mA ?_; (with_reducible refine (spec_l1Cur_device.calls k gb304 l0 0 0 t305 t308 t311 t312 w _ ?side1 ?side2 A2.out).mono ?_); (case side1 => repeat (first | (with_reducible first | exact HI304.out | apply IsS97.alloc | apply IsS97.drewN | apply IsS97.drew | apply IsS97.set_1 | apply IsS97.set_2 | refine IsS97.far ?_ NB304_302.out _ | refine IsS97.far ?_ NB304_303.out _) | exact HI304.out)); (case side2 => repeat (first | (with_reducible first | exact HB.out | apply zA | apply zN | apply zD | refine zS ?_ (IsS97.ge HI304.out) | refine zS ?_ GE302.out | refine zS ?_ GE303.out) | exact HB.out)); rintro e w7 ⟨v306, v309, rfl, ho0, ho1, hi, hb, hk⟩; refine ⟨_, rfl, ?_⟩; replace BK302 := aM (KeepBut.blk hk (g' := gb302) (o := .cells #[.slice none 0 0, .slice none 0 0] 30 (0, 0)) (yH BK302.out) NB302_304.out (by simp)); have HO307 := aM (xL ho0 (zZ (by repeat (first | (with_reducible first | exact HB.out | apply zA | apply zN | apply zD | refine zS ?_ (IsS97.ge HI304.out) | refine zS ?_ GE302.out | refine zS ?_ GE303.out) | exact HB.out)))); have HO310 := aM (xL (Kd.R_newB ho1 (g := gb303) (o := .cells #[.int .i64 0, .string (⟨#[]⟩ : ByteArray)] 42 (0, 0)) (yH BK303.out)) (zZ (by repeat (first | (with_reducible first | exact HB.out | apply zA | apply zN | apply zD | refine zS ?_ (IsS97.ge HI304.out) | refine zS ?_ GE302.out | refine zS ?_ GE303.out) | exact HB.out)))); replace BK303 := aM (KeepBut.blk hk (g' := gb303) (o := .cells #[.int .i64 0, .string (⟨#[]⟩ : ByteArray)] 42 (0, 0)) (yH BK303.out) NB303_304.out (by simp)); replace HB := aM (hb); replace HI304 := aM (hi); (try clear hb); (try clear ho0); (try clear ho1)) | ((with_reducible refine gate_dst (N := 5) rfl ?_); refine box_event ?hg (N := 5) ?hd (cs := #[.slice none 0 0, .slice none 0 0]) (t := 30) ?hr ?_; (case hd => rfl); (case hg => rfl); (case hr => first | (go_simp; done) | (go_simp; rfl)); intro gb313 hg w8 hbox hb; replace HO307 := xK HO307.out hb; replace HO310 := xK HO310.out hb; have BK313 := aM (hbox); have GW313 := aM ((by rw [hg]; exact (zZ (by repeat (first | (with_reducible first | exact HB.out | apply zA | apply zN | apply zD | refine zS ?_ (IsS97.ge HI304.out) | refine zS ?_ GE302.out | refine zS ?_ GE303.out) | exact HB.out))) : w.heap.size ≤ gb313)); have GE313 := aM ((by rw [hg]; exact (zZ (by repeat (first | (with_reducible first | exact HB.out | apply zA | apply zN | apply zD | refine zS ?_ (IsS97.ge HI304.out) | refine zS ?_ GE302.out | refine zS ?_ GE303.out) | exact HB.out))) : w.heap.size ≤ gb313)); replace HB := aM (zT (by repeat (first | (with_reducible first | exact HB.out | apply zA | apply zN | apply zD | refine zS ?_ (IsS97.ge HI304.out) | refine zS ?_ GE302.out | refine zS ?_ GE303.out) | exact HB.out)) hb); have NB302_313 := nL BK302.out hg; have NB313_302 := nR BK302.out hg; replace BK302 := yK BK302.out hb; have NB303_313 := nL BK303.out hg; have NB313_303 := nR BK303.out hg; replace BK303 := yK BK303.out hb; have NB304_313 := aM ((by rw [hg]; exact Nat.ne_of_lt (IsS97.lt (show IsS97 w _ gb304 l0 t311 t312 from by (try simp only [Int.add_zero]); repeat (first | (with_reducible first | exact HI304.out | apply IsS97.alloc | apply IsS97.drewN | apply IsS97.drew | apply IsS97.set_1 | apply IsS97.set_2 | refine IsS97.far ?_ NB304_302.out _ | refine IsS97.far ?_ NB304_303.out _) | exact HI304.out))) : gb304 ≠ gb313)); have NB313_304 := aM ((by rw [hg]; exact Nat.ne_of_gt (IsS97.lt (show IsS97 w _ gb304 l0 t311 t312 from by (try simp only [Int.add_zero]); repeat (first | (with_reducible first | exact HI304.out | apply IsS97.alloc | apply IsS97.drewN | apply IsS97.drew | apply IsS97.set_1 | apply IsS97.set_2 | refine IsS97.far ?_ NB304_302.out _ | refine IsS97.far ?_ NB304_303.out _) | exact HI304.out))) : gb313 ≠ gb304)); replace HI304 := aM (IsS97.below (by (try simp only [Int.add_zero]); repeat (first | (with_reducible first | exact HI304.out | apply IsS97.alloc | apply IsS97.drewN | apply IsS97.drew | apply IsS97.set_1 | apply IsS97.set_2 | refine IsS97.far ?_ NB304_302.out _ | refine IsS97.far ?_ NB304_303.out _) | exact HI304.out)) hb); clear hb hbox hg; obtain ⟨Ao9, co9, eo9⟩ := Kd.R_slice HO307.out; subst eo9; have hnb10 := NB313_302.out; have hnc10 := NB302_313.out; have hnb11 := NB313_303.out; have hnc11 := NB303_313.out; have hnb12 := NB313_304.out; have hnc12 := NB304_313.out; have hcz13_0 : w8.cell? ⟨gb313, 0, none⟩ = some (.slice none 0 0) := yc BK313.out 0; have hcz13_1 : w8.cell? ⟨gb313, 1, none⟩ = some (.slice none 0 0) := yc BK313.out 1; have hfz13_0 := yZ BK313.out 0; have hfz13_1 := yZ BK313.out 1; obtain ⟨Ao14, co14, eo14⟩ := Kd.R_slice HO310.out; subst eo14))
 have n0_ : Aside0 (Kd.R Kd.string 9 ((w8.setCell ⟨gb313, 0, none⟩ (.slice Ao9 t305.length co9)).setCell ⟨gb313, 1, none⟩ (.slice Ao14 t308.length co14)) w.heap.size (fun _ => True) (.slice Ao9 t305.length co9) t305) := ⟨xH (xM (xF (p := ⟨gb313, 1, none⟩) (xF (p := ⟨gb313, 0, none⟩) (xT HO307.out BK313.out (by decide)) (fun _ hk => hk.2) (.slice Ao9 t305.length co9)) (fun _ hk => hk.2) (.slice Ao14 t308.length co14)) (fun _ hk => trivial))⟩
 have n1_ : Aside0 (Kd.R k42 42 ((w8.setCell ⟨gb313, 0, none⟩ (.slice Ao9 t305.length co9)).setCell ⟨gb313, 1, none⟩ (.slice Ao14 t308.length co14)) w.heap.size (fun k_ => k_ ≠ gb303) (.slice Ao14 t308.length co14) t308) := ⟨by refine xW ?_; first | exact xM (xF (p := ⟨gb313, 1, none⟩) (xF (p := ⟨gb313, 0, none⟩) (xT HO310.out BK313.out (by decide)) (fun _ hk => hk.2) (.slice Ao9 t305.length co9)) (fun _ hk => hk.2) (.slice Ao14 t308.length co14)) (fun _ hk => hk.1.2) | exact xM (xF (p := ⟨gb313, 1, none⟩) (xF (p := ⟨gb313, 0, none⟩) (xT HO310.out BK313.out (by decide)) (fun _ hk => hk.2) (.slice Ao9 t305.length co9)) (fun _ hk => hk.2) (.slice Ao14 t308.length co14)) (fun _ hk => hk.1)⟩
 have n2_ : Aside0 (((w8.setCell ⟨gb313, 0, none⟩ (.slice Ao9 t305.length co9)).setCell ⟨gb313, 1, none⟩ (.slice Ao14 t308.length co14)).heap[gb302]? = some (.cells #[.slice none 0 0, .slice none 0 0] 30 (0, 0))) := ⟨by refine yW ?_; refine yF ?_ NB302_313.out _; refine yW ?_; refine yF ?_ NB302_313.out _; refine yW ?_; exact BK302.out⟩
 have n3_ : Aside0 (((w8.setCell ⟨gb313, 0, none⟩ (.slice Ao9 t305.length co9)).setCell ⟨gb313, 1, none⟩ (.slice Ao14 t308.length co14)).heap[gb303]? = some (.cells #[.int .i64 0, .string (⟨#[]⟩ : ByteArray)] 42 (0, 0))) := ⟨by refine yW ?_; refine yF ?_ NB303_313.out _; refine yW ?_; refine yF ?_ NB303_313.out _; refine yW ?_; exact BK303.out⟩
 have n4_ : Aside0 (((w8.setCell ⟨gb313, 0, none⟩ (.slice Ao9 t305.length co9)).setCell ⟨gb313, 1, none⟩ (.slice Ao14 t308.length co14)).heap[gb313]? = some (.cells #[.slice Ao9 t305.length co9, .slice Ao14 t308.length co14] 30 (0, 0))) := ⟨by refine yW ?_; refine yP (cs := #[.slice Ao9 t305.length co9, .slice none 0 0]) ?_ 1 _ rfl; refine yW ?_; refine yP (cs := #[.slice none 0 0, .slice none 0 0]) ?_ 0 _ rfl; refine yW ?_; exact BK313.out⟩
 have n5_ : Aside0 (IsS97 w ((w8.setCell ⟨gb313, 0, none⟩ (.slice Ao9 t305.length co9)).setCell ⟨gb313, 1, none⟩ (.slice Ao14 t308.length co14)) gb304 l0 t311 t312) := ⟨by (try simp only [Int.add_zero]); repeat (first | (with_reducible first | exact HI304.out | apply IsS97.alloc | apply IsS97.drewN | apply IsS97.drew | apply IsS97.set_1 | apply IsS97.set_2 | refine IsS97.far ?_ NB304_302.out _ | refine IsS97.far ?_ NB304_303.out _ | refine IsS97.far ?_ NB304_313.out _) | exact HI304.out)⟩
 have n6_ : Aside0 (Below w.heap.size w ((w8.setCell ⟨gb313, 0, none⟩ (.slice Ao9 t305.length co9)).setCell ⟨gb313, 1, none⟩ (.slice Ao14 t308.length co14))) := ⟨by repeat (first | (with_reducible first | exact HB.out | apply zA | apply zN | apply zD | refine zS ?_ (IsS97.ge HI304.out) | refine zS ?_ GE302.out | refine zS ?_ GE303.out | refine zS ?_ GE313.out) | exact HB.out)⟩
 (try clear HO307); (try clear HO310); (try clear BK302); (try clear BK303); (try clear BK313); (try clear HI304); (try clear HB)
 generalize ((w8.setCell ⟨gb313, 0, none⟩ (.slice Ao9 t305.length co9)).setCell ⟨gb313, 1, none⟩ (.slice Ao14 t308.length co14)) = w15 at n0_ n1_ n2_ n3_ n4_ n5_ n6_ ⊢
 have HO307 := n0_; have HO310 := n1_; have BK302 := n2_; have BK303 := n3_; have BK313 := n4_; have HI304 := n5_; have HB := n6_; clear n0_ n1_ n2_ n3_ n4_ n5_ n6_; replace HO307 := aM (xD HO307.out); replace HO310 := aM (xD HO310.out); replace BK302 := aM (yD BK302.out); replace BK303 := aM (yD BK303.out); replace BK313 := aM (yD BK313.out); replace HI304 := aM (IsS97.drew HI304.out); replace HB := aM (zD HB.out)
 refine start_ (n := 8) (S := fun w' => w'.cell? ⟨gb313, 0, none⟩ = some (.slice Ao9 t305.length co9) ∧ w'.cell? ⟨gb313, 1, none⟩ = some (.slice Ao14 t308.length co14)) (ds := []) #[fF,fF,fF,fF,fF,fF,fF,fF] (by kernel_rfl) rfl rfl ⟨yc BK313.out 0, yc BK313.out 1⟩ (fun hHeld => ?_); refine with_tabW spec_DrawWriteSector.tab3 spec_DrawWriteSector.bits3 (fun HT_ HW_ => ?_)
 generalize w15.drew = w16 at HO307 HO310 BK302 BK303 BK313 HI304 HB hHeld ⊢
 refine pure_ (i := 1) (N := some 12) (v := ?_) (a' := ?_) #[fF,tT,fF,fF,fF,fF,fF,fF] rfl rfl (any_of HT_.out (by kernel_rfl)) (fun _ _ _ h => h) (Or.inl ⟨by rfl, ?_⟩) ?_ ?_
 rotate_left
 ·intro w'
  go_simp
  with_reducible rfl
 rotate_left
 ·simp only [Act.put, qA, qB, qC, i64_w, i32_w]
  rfl
 refine pure_ (i := 2) (N := some 13) (v := ?_) (a' := ?_) #[fF,tT,tT,fF,fF,fF,fF,fF] rfl rfl (any_of HT_.out (by kernel_rfl)) (fun _ _ _ h => h) (Or.inl ⟨by rfl, ?_⟩) ?_ ?_
 rotate_left
 ·intro w'
  go_simp
  with_reducible rfl
 rotate_left
 ·simp only [Act.put, qA, qB, qC, i64_w, i32_w]
  rfl
 refine take_ (i := 0) (N := some 11) (v := ?_) (a' := ?_) #[tT,tT,tT,fF,fF,fF,fF,fF] rfl rfl (take_ofW HT_.out HW_.out (by kernel_rfl)) (fun _ _ _ h => h) (Or.inl ⟨by rfl, ?_⟩) hHeld ?_ ?_
 rotate_left
 ·rintro w' ⟨s0, s1⟩
  go_simp
  with_reducible rfl
 rotate_left
 ·simp only [Act.put, qA, qB, qC, i64_w, i32_w]
  rfl
 refine take_ (i := 3) (N := some 14) (v := ?_) (a' := ?_) #[tT,tT,tT,tT,fF,fF,fF,fF] rfl rfl (take_ofW HT_.out HW_.out (by kernel_rfl)) (fun _ _ _ h => h) (Or.inl ⟨by rfl, ?_⟩) hHeld ?_ ?_
 rotate_left
 ·rintro w' ⟨s0, s1⟩
  go_simp
  with_reducible rfl
 rotate_left
 ·simp only [Act.put, qA, qB, qC, i64_w, i32_w]
  rfl
 refine pure_ (i := 4) (N := some 15) (v := ?_) (a' := ?_) #[tT,tT,tT,tT,tT,fF,fF,fF] rfl rfl (any_of HT_.out (by kernel_rfl)) (fun _ _ _ h => h) (Or.inl ⟨by rfl, ?_⟩) ?_ ?_
 rotate_left
 ·intro w'
  go_simp
  with_reducible rfl
 rotate_left
 ·simp only [Act.put, qA, qB, qC, i64_w, i32_w]
  rfl
 refine one_ (i := 5) (N := some 16) #[tT,tT,tT,tT,tT,tT,fF,fF] rfl rfl (one_of HT_.out (by kernel_rfl)) (by decide) (fun K hK => ?_)
 refine gS Try.func82 (by kernel_rfl) rfl #[.pointer (some ⟨gb304, 0, none⟩), .int .i64 (t305.length : Int)] (by rfl) rfl rfl ?_
 with_reducible refine (spec_l1Cur_write.calls k gb304 l0 t311 t312 (t305.length : Int) t314 t315 t316 t317 w _ ?side1 ?side2 A3.out).mono ?_
 (case side1 => repeat (first | (with_reducible first | exact HI304.out | apply IsS97.alloc | apply IsS97.drewN | apply IsS97.drew | apply IsS97.set_1 | apply IsS97.set_2 | refine IsS97.far ?_ NB304_302.out _ | refine IsS97.far ?_ NB304_303.out _ | refine IsS97.far ?_ NB304_313.out _) | exact HI304.out))
 (case side2 => repeat (first | (with_reducible first | exact HB.out | apply zA | apply zN | apply zD | refine zS ?_ (IsS97.ge HI304.out) | refine zS ?_ GE302.out | refine zS ?_ GE303.out | refine zS ?_ GE313.out) | exact HB.out))
 rintro e w17 ⟨rfl, hi, hb, hk⟩
 refine ⟨_, rfl, ?_⟩
 replace BK302 := aM (KeepBut.blk hk (g' := gb302) (o := .cells #[.slice none 0 0, .slice none 0 0] 30 (0, 0)) (yH BK302.out) NB302_304.out (by simp))
 replace BK303 := aM (KeepBut.blk hk (g' := gb303) (o := .cells #[.int .i64 0, .string (⟨#[]⟩ : ByteArray)] 42 (0, 0)) (yH BK303.out) NB303_304.out (by simp))
 replace HO307 := aM (xM (Kd.R_keep (IsS97.apart (show IsS97 w _ gb304 l0 t311 t312 from by (try simp only [Int.add_zero]); repeat (first | (with_reducible first | exact HI304.out | apply IsS97.alloc | apply IsS97.drewN | apply IsS97.drew | apply IsS97.set_1 | apply IsS97.set_2 | refine IsS97.far ?_ NB304_302.out _ | refine IsS97.far ?_ NB304_303.out _ | refine IsS97.far ?_ NB304_313.out _) | exact HI304.out)) (xH HO307.out) (by decide)) hk (fun _ h => h.2)) (fun _ h => h.1))
 replace HO310 := aM (xM (Kd.R_keep (IsS97.apart (show IsS97 w _ gb304 l0 t311 t312 from by (try simp only [Int.add_zero]); repeat (first | (with_reducible first | exact HI304.out | apply IsS97.alloc | apply IsS97.drewN | apply IsS97.drew | apply IsS97.set_1 | apply IsS97.set_2 | refine IsS97.far ?_ NB304_302.out _ | refine IsS97.far ?_ NB304_303.out _ | refine IsS97.far ?_ NB304_313.out _) | exact HI304.out)) (xH HO310.out) (by decide)) hk (fun _ h => h.2)) (fun _ h => h.1))
 replace BK313 := aM (KeepBut.blk hk (g' := gb313) (o := .cells #[.slice Ao9 t305.length co9, .slice Ao14 t308.length co14] 30 (0, 0)) (yH BK313.out) NB313_304.out (by simp))
 replace HB := aM (hb); replace HI304 := aM (hi)
 (try clear hb)
 refine hK.out _ _ ⟨yc BK313.out 0, yc BK313.out 1⟩ (fun hHeld => ?_)
 clear hK K; refine norm_ (a' := ?_) ?_ ?_; rotate_left
 ·show Act.put _ (some 16) _ = _
  simp only [Act.put, qA, qB, qC, i64_w, i32_w]
  rfl
 refine one_ (i := 6) (N := none) #[tT,tT,tT,tT,tT,tT,tT,fF] rfl rfl (one_of HT_.out (by kernel_rfl)) (by decide) (fun K hK => ?_)
 have hs18 : w17.cell? ⟨gb302, 0, none⟩ = some (.slice none 0 0) := yc BK302.out 0; have hfs18 := yZ BK302.out 0; have hns18_1 := NB303_302.out; have hns18_2 := NB313_302.out; have hms18_1 := NB302_303.out; have hms18_2 := NB302_313.out; have hs19 : w17.cell? ⟨gb302, 1, none⟩ = some (.slice none 0 0) := yc BK302.out 1; have hfs19 := yZ BK302.out 1; have hns19_1 := NB303_302.out; have hns19_2 := NB313_302.out; have hms19_1 := NB302_303.out; have hms19_2 := NB302_313.out
 refine skip_ (w1 := ?_) (by rfl) rfl ?_ ?_
 rotate_left
 ·go_simp
  rfl
 refine hK.out _ _ ⟨((cell_far (p := ⟨gb302, _, none⟩) NB313_302.out _).trans (((cell_far (p := ⟨gb302, _, none⟩) NB313_302.out _).trans (hHeld.1)))), ((cell_far (p := ⟨gb302, _, none⟩) NB313_302.out _).trans (((cell_far (p := ⟨gb302, _, none⟩) NB313_302.out _).trans (hHeld.2))))⟩ (fun hHeld => ?_)
 clear hK K
 refine one_ (i := 7) (N := none) #[tT,tT,tT,tT,tT,tT,tT,tT] rfl rfl (one_of HT_.out (by kernel_rfl)) (by decide) (fun K hK => ?_)
 have hs20 : w17.cell? ⟨gb303, 0, none⟩ = some (.int .i64 0) := yc BK303.out 0; have hfs20 := yZ BK303.out 0; have hns20_0 := NB302_303.out; have hns20_2 := NB313_303.out; have hms20_0 := NB303_302.out; have hms20_2 := NB303_313.out; have hs21 : w17.cell? ⟨gb303, 1, none⟩ = some (.string (⟨#[]⟩ : ByteArray)) := yc BK303.out 1; have hfs21 := yZ BK303.out 1; have hns21_0 := NB302_303.out; have hns21_2 := NB313_303.out; have hms21_0 := NB303_302.out; have hms21_2 := NB303_313.out
 refine skip_ (w1 := ?_) (by rfl) rfl ?_ ?_
 rotate_left
 ·go_simp
  rfl
 refine hK.out _ _ ⟨((cell_far (p := ⟨gb303, _, none⟩) NB313_303.out _).trans (((cell_far (p := ⟨gb303, _, none⟩) NB313_303.out _).trans (hHeld.1)))), ((cell_far (p := ⟨gb303, _, none⟩) NB313_303.out _).trans (((cell_far (p := ⟨gb303, _, none⟩) NB313_303.out _).trans (hHeld.2))))⟩ (fun hHeld => ?_)
 clear hK K
 refine done_ (done_of HT_.out (by kernel_rfl)) ?_
 try go_wp2
 refine bodyPost_ret (results_cc rfl _ _ gb302 gb303 30 42 #[.slice Ao9 t305.length co9, .slice Ao14 t308.length co14] #[.int .i64 t314, .string t315] (0, 0) (0, 0) _ _ rfl (by refine yW ?_; refine yF ?_ NB302_303.out _; refine yW ?_; refine yF ?_ NB302_303.out _; refine yW ?_; refine yP (cs := #[.slice Ao9 t305.length co9, .slice none 0 0]) ?_ 1 _ rfl; refine yW ?_; refine yP (cs := #[.slice none 0 0, .slice none 0 0]) ?_ 0 _ rfl; refine yW ?_; exact BK302.out) Try.underlying30 rfl (by kernel_rfl) rfl (by refine yW ?_; refine yP (cs := #[.int .i64 t314, .string (⟨#[]⟩ : ByteArray)]) ?_ 1 _ rfl; refine yW ?_; refine yP (cs := #[.int .i64 0, .string (⟨#[]⟩ : ByteArray)]) ?_ 0 _ rfl; refine yW ?_; refine yF ?_ NB303_302.out _; refine yW ?_; refine yF ?_ NB303_302.out _; refine yW ?_; exact BK303.out) Try.underlying42 rfl (by kernel_rfl)) rfl ?_
 exact ⟨_, _, eW, xH (xM (xF (p := ⟨gb303, 1, none⟩) (xF (p := ⟨gb303, 0, none⟩) (xF (p := ⟨gb302, 1, none⟩) (xF (p := ⟨gb302, 0, none⟩) (xT (xT HO307.out BK302.out (by decide)) BK303.out (by decide)) (fun _ hk => hk.1.2) (.slice Ao9 t305.length co9)) (fun _ hk => hk.1.2) (.slice Ao14 t308.length co14)) (fun _ hk => hk.2) (.int .i64 t314)) (fun _ hk => hk.2) (.string t315)) (fun _ hk => trivial)), xH (xM (xF (p := ⟨gb303, 1, none⟩) (xF (p := ⟨gb303, 0, none⟩) (xF (p := ⟨gb302, 1, none⟩) (xF (p := ⟨gb302, 0, none⟩) (xM (xT HO310.out BK302.out (by decide)) (fun k_ hk => (⟨hk, hk.1⟩ : _ ∧ k_ ≠ gb303))) (fun _ hk => hk.1.2) (.slice Ao9 t305.length co9)) (fun _ hk => hk.1.2) (.slice Ao14 t308.length co14)) (fun _ hk => hk.2) (.int .i64 t314)) (fun _ hk => hk.2) (.string t315)) (fun _ hk => trivial)), by repeat (first | (with_reducible first | exact HB.out | apply zA | apply zN | apply zD | refine zS ?_ (IsS97.ge HI304.out) | refine zS ?_ GE302.out | refine zS ?_ GE303.out | refine zS ?_ GE313.out) | exact HB.out)⟩

/-! ### spec_l1Cur_bools: function 84 -/
def spec_l1Cur_bools.l0 : Nat → Int → List Bool → List Int → Int → Int → Option (List Bool × Int × Int)
 | 0, _, _, _, _, _ => none
 | k + 1, x1, x5, x1000, x1001, x1002 => if x1 > 0 then ((spec_l1Cur_one.f x1000 x1001 x1002 2).bind fun bt318 => (if x5.length < 140737488355328 then (spec_l1Cur_bools.l0 k (wrap64 (x1 - 1)) (x5 ++ [bt318.1]) x1000 bt318.2.1 bt318.2.2) else (none))) else (some (x5, x1001, x1002))
def spec_l1Cur_bools.f (k : Nat) (s0_0 : List Int) (s0_1 : Int) (s0_2 : Int) (a1 : Int) : Option (List Bool × Int × Int) := spec_l1Cur_bools.l0 k a1 ([] : List Bool) s0_0 s0_1 s0_2
theorem spec_l1Cur_bools.mono_l : ∀ k, (∀ y0 y1 y2 y3 y4, LeO (spec_l1Cur_bools.l0 k y0 y1 y2 y3 y4) (spec_l1Cur_bools.l0 (k + 1) y0 y1 y2 y3 y4))
 | 0 => fun _ _ _ _ _ r h => by change none = some r at h; cases h
 | k + 1 => by
  have ih0 := spec_l1Cur_bools.mono_l k
  ·intro y0 y1 y2 y3 y4
   unfold spec_l1Cur_bools.l0
   repeat' first
   | (with_reducible exact ih0 _ _ _ _ _)
   | (with_reducible exact LeO.refl _)
   | (with_reducible exact LeO.none _)
   | (with_reducible refine LeO.ite ?_ ?_)
   | (with_reducible refine LeO.bind ?_ (fun _ => ?_))
   | exact ih0 _ _ _ _ _
   | exact LeO.none _
   | refine LeO.ite ?_ ?_
   | refine LeO.bind ?_ (fun _ => ?_)
theorem spec_l1Cur_bools.mono : ∀ a0 a1 a2 a3 k, LeO (spec_l1Cur_bools.f k a0 a1 a2 a3) (spec_l1Cur_bools.f (k + 1) a0 a1 a2 a3) := by
 intro a0 a1 a2 a3 k
 have ih0 := spec_l1Cur_bools.mono_l k
 unfold spec_l1Cur_bools.f
 repeat' first
   | (with_reducible exact ih0 _ _ _ _ _)
   | (with_reducible exact LeO.refl _)
   | (with_reducible exact LeO.none _)
   | (with_reducible refine LeO.ite ?_ ?_)
   | (with_reducible refine LeO.bind ?_ (fun _ => ?_))
   | exact ih0 _ _ _ _ _
   | exact LeO.none _
   | refine LeO.ite ?_ ?_
   | refine LeO.bind ?_ (fun _ => ?_)
set_option maxHeartbeats 8000000 in
set_option maxRecDepth 100000 in
theorem spec_l1Cur_bools.calls (k : Nat) (g : Nat) (s0_0 : List Int) (s0_1 : Int) (s0_2 : Int) (a1 : Int) (r1 : List Bool) (r2 : Int) (r3 : Int) (w0 w : World) (hI : IsS97 w0 w g s0_0 s0_1 s0_2) (hB : Below w0.heap.size w0 w) (h : spec_l1Cur_bools.f k s0_0 s0_1 s0_2 a1 = some (r1, r2, r3)) :
  Calls Try.prog 84 #[.pointer (some ⟨g, 0, none⟩), .int .i64 a1] w fun e w' => ∃ v0_ : Value, e = .returned (v0_) ∧ Kd.R Kd.bool 4 w' w.heap.size (fun _ => True) v0_ r1 ∧ IsS97 w0 w' g s0_0 r2 r3 ∧ Below w0.heap.size w0 w' ∧ KeepBut w w' g none := by
 have HI0 := aM hI; have HK := aM (KeepBut.refl w g none); have HL := aM hB.size; clear hI; have HW0 := aM hB.size; have HB := aM hB; clear hB; have H : (spec_l1Cur_bools.l0 k a1 ([] : List Bool) s0_0 s0_1 s0_2) = some (r1, r2, r3) := h; clear h; have H' := aM H; clear H
 go_enter Try.func84, Try.ntmps84
 go_wp2
 go_loopg [1, 5] k (fun kq v1 v5 w' => ∃ (x1_1 : Int) (x5_1 : List Bool) (x1001_1 : Int) (x1002_1 : Int), v1 = .int .i64 x1_1 ∧ Aside0 (spec_l1Cur_bools.l0 kq x1_1 x5_1 s0_0 x1001_1 x1002_1 = some (r1, r2, r3)) ∧ Aside0 (kq ≤ k) ∧ Aside0 (Kd.R Kd.bool 4 w' w.heap.size (fun _ => True) v5 x5_1) ∧ Aside0 (IsS97 w0 w' g s0_0 x1001_1 x1002_1) ∧ Aside0 (KeepBut w w' g none) ∧ Aside0 (Below w0.heap.size w0 w'))
 case atStart => exact ⟨(a1), (([] : List Bool)), (s0_1), (s0_2), (by first | rfl | (simp; done) | (simp [*]; done)), H', ⟨Nat.le_refl _⟩, ⟨by first | exact Kd.R_nil _ _ _ _ _ | exact Kd.N_nil _ _ _ _ _ | exact Kd.V_nil _ _ _ _ _ | exact Kd.Q_nil _ _ _ _ _ | exact Kd.S_nil _ _ _ _ _⟩, ⟨by (try simp only [Int.add_zero]); repeat (first | (with_reducible first | exact HI0.out | apply IsS97.alloc | apply IsS97.drewN | apply IsS97.drew | apply IsS97.set_1 | apply IsS97.set_2) | exact HI0.out)⟩, ⟨by repeat (first | (with_reducible first | exact HK.out | apply KeepBut.set_ | apply keep_drewN | apply keep_drew | apply keep_alloc) | exact HK.out)⟩, ⟨by repeat (first | (with_reducible first | exact HB.out | apply zA | apply zN | apply zD | refine zS ?_ (IsS97.ge HI0.out)) | exact HB.out)⟩⟩
 case round =>
  clear H'; obtain ⟨x1_1, x5_1, x1001_1, x1002_1, rfl, HA, HK1, p0', HI0, HK, HB⟩ := hrel
  cases gk with
  | zero => exact absurd HA.out (fun h_ => by change none = some _ at h_; cases h_)
  | succ k1 =>
   have H := HA.out; clear HA
   simp only [spec_l1Cur_bools.l0] at H
   by_cases c3 : x1_1 > 0
   ·rw [if_pos c3] at H
    have c3b0 : decide (0 < x1_1) = true := decide_eq_true c3; clear c3; replace H := Option.bind_eq_some_iff.mp H; obtain ⟨⟨t318, t319, t320⟩, A40, H⟩ := H; replace H : (if x5_1.length < 140737488355328 then (spec_l1Cur_bools.l0 k1 (wrap64 (x1_1 - 1)) (x5_1 ++ [t318]) s0_0 t319 t320) else (none)) = some (r1, r2, r3) := H; have A4 := aM A40; clear A40
    by_cases c5 : x5_1.length < 140737488355328
    ·rw [if_pos c5] at H
     have LMc5 := aM c5; clear c5; obtain ⟨y321, hy321⟩ : ∃ y_ : List Bool, y_ = (x5_1 ++ [t318]) := ⟨_, rfl⟩
     replace H : (spec_l1Cur_bools.l0 k1 (wrap64 (x1_1 - 1)) y321 s0_0 t319 t320) = some (r1, r2, r3) := by first | (rw [hy321]; with_reducible exact H) | (have H2_ := (Option.bind_some _ _).symm.trans H; rw [hy321]; with_reducible exact H2_) | (have H2_ := (Option.bind_some _ _).symm.trans H; with_reducible exact H2_) | with_reducible exact H | (rw [hy321]; exact H) | exact H
     have Ny321 := aM hy321; clear hy321; have H' := aM H; clear H
     go_wp2_with (first | ((with_reducible refine gate_callee (f := 83) rfl ?_); refine goesL_ (some 12) rfl rfl Try.func83 (by kernel_rfl) rfl #[.pointer (some ⟨g, 0, none⟩), .int .i64 2] rfl mA ?_; (with_reducible refine (spec_l1Cur_one.calls g s0_0 x1001_1 x1002_1 2 t318 t319 t320 w0 _ ?side1 ?side2 A4.out).mono ?_); (case side1 => repeat (first | (with_reducible first | exact HI0.out | apply IsS97.alloc | apply IsS97.drewN | apply IsS97.drew | apply IsS97.set_1 | apply IsS97.set_2) | exact HI0.out)); (case side2 => repeat (first | (with_reducible first | exact HB.out | apply zA | apply zN | apply zD | refine zS ?_ (IsS97.ge HI0.out)) | exact HB.out)); rintro e w6 ⟨rfl, hi, hb, hk⟩; refine ⟨_, rfl, ?_⟩; replace p0' := aM (xM (Kd.R_keep (IsS97.apart (show IsS97 w0 _ g s0_0 x1001_1 x1002_1 from by (try simp only [Int.add_zero]); repeat (first | (with_reducible first | exact HI0.out | apply IsS97.alloc | apply IsS97.drewN | apply IsS97.drew | apply IsS97.set_1 | apply IsS97.set_2) | exact HI0.out)) (xH p0'.out) (by decide)) hk (fun _ h => h.2)) (fun _ h => h.1)); replace HK := aM (KeepBut.trans (by repeat (first | (with_reducible first | exact HK.out | apply KeepBut.set_ | apply keep_drewN | apply keep_drew | apply keep_alloc) | exact HK.out)) hk (.inl rfl)); replace HB := aM (hb); replace HI0 := aM (hi); (try clear hb)) | ((with_reducible refine gate_builtin (b := .append) (xs := #[.tmp 10, .tmp 13]) rfl ?_); at_builtin; refine Kd.R_append Kd.bool w.heap.size rfl (.tmp 10) (.tmp 13) 47 4 (.bool false) 1 rfl Try.underlying47 info4 rfl (by decide) (by omega) u5 x5_1 t318 [.bool t318] (fun _ => True) (fun _ => False) rfl rfl ?aP (fun _ hk => hk.elim) ?aF ?aO (Below.refl _ _) ?aS ?aL ?_; (case aP => exact rfl); (case aF => exact (fun _ _ => trivial)); (case aO => exact (xH p0'.out)); (case aS => exact (keep_size (w := w) (g := g) (row := none) (by repeat (first | (with_reducible first | exact HK.out | apply KeepBut.set_ | apply keep_drewN | apply keep_drew | apply keep_alloc) | exact HK.out)))); (case aL => have := LMc5.out; omega); intro v322 w7 ho hb hg hat; rw [← Ny321.out] at ho; replace HB := aM (below_weaken (by repeat (first | (with_reducible first | exact HB.out | apply zA | apply zN | apply zD | refine zS ?_ (IsS97.ge HI0.out)) | exact HB.out)) HL.out hb); replace HI0 := aM (IsS97.grown (by (try simp only [Int.add_zero]); repeat (first | (with_reducible first | exact HI0.out | apply IsS97.alloc | apply IsS97.drewN | apply IsS97.drew | apply IsS97.set_1 | apply IsS97.set_2) | exact HI0.out)) hg (IsS97.own_ne HI0.out p0'.out (by decide))); replace HK := aM (KeepBut.trans (by repeat (first | (with_reducible first | exact HK.out | apply KeepBut.set_ | apply keep_drewN | apply keep_drew | apply keep_alloc) | exact HK.out)) (KeepBut.of_grown hg g) (Kd.R_base2 p0'.out)); have HO323 := aM (ho); clear p0'; clear ho hb hg hat))
     go_roundg k1
     case measure => have := HK1.out; omega
     case rel => exact ⟨(wrap64 (x1_1 - 1)), (y321), (t319), (t320), (by first | rfl | (simp; done) | (simp [*]; done)), H', ⟨by have := HK1.out; omega⟩, ⟨xH HO323.out⟩, ⟨by (try simp only [Int.add_zero]); repeat (first | (with_reducible first | exact HI0.out | apply IsS97.alloc | apply IsS97.drewN | apply IsS97.drew | apply IsS97.set_1 | apply IsS97.set_2) | exact HI0.out)⟩, ⟨by repeat (first | (with_reducible first | exact HK.out | apply KeepBut.set_ | apply keep_drewN | apply keep_drew | apply keep_alloc) | exact HK.out)⟩, ⟨by repeat (first | (with_reducible first | exact HB.out | apply zA | apply zN | apply zD | refine zS ?_ (IsS97.ge HI0.out)) | exact HB.out)⟩⟩
    ·rw [if_neg c5] at H
     exact absurd H (by simp)
   ·rw [if_neg c3] at H
    have c3b0 : decide (0 < x1_1) = false := decide_eq_false c3; clear c3
    simp only [Option.some.injEq, Prod.mk.injEq] at H
    obtain ⟨rfl, rfl, rfl⟩ := H
    go_wp2
    go_ret
    exact ⟨_, eW, xH p0'.out, by (try simp only [Int.add_zero]); repeat (first | (with_reducible first | exact HI0.out | apply IsS97.alloc | apply IsS97.drewN | apply IsS97.drew | apply IsS97.set_1 | apply IsS97.set_2) | exact HI0.out), by repeat (first | (with_reducible first | exact HB.out | apply zA | apply zN | apply zD | refine zS ?_ (IsS97.ge HI0.out)) | exact HB.out), by repeat (first | (with_reducible first | exact HK.out | apply KeepBut.set_ | apply keep_drewN | apply keep_drew | apply keep_alloc) | exact HK.out)⟩

/-! ### spec_DrawCrashDevice: function 49 -/
def spec_DrawCrashDevice.f (k : Nat) (l0 : List Int) : Option (List ByteArray × (List (S42)) × List Bool) := (spec_l1Cur_device.f k l0 0 0).bind fun bt326 => ((spec_l1Cur_one.f l0 bt326.2.2.1 bt326.2.2.2 20).bind fun bt335 => (if bt335.1 = true then ((spec_l1Cur_bools.f k l0 bt335.2.1 bt335.2.2 (wrap64 ((bt326.2.1.length : Int) + 1))).bind fun bt338 => (some (bt326.1, bt326.2.1, bt338.1))) else ((spec_l1Cur_bools.f k l0 bt335.2.1 bt335.2.2 (bt326.2.1.length : Int)).bind fun bt343 => (some (bt326.1, bt326.2.1, bt343.1)))))
theorem spec_DrawCrashDevice.mono : ∀ a0 k, LeO (spec_DrawCrashDevice.f k a0) (spec_DrawCrashDevice.f (k + 1) a0) := by
 intro a0 k
 unfold spec_DrawCrashDevice.f
 repeat' first
   | (with_reducible exact spec_l1Cur_bools.mono _ _ _ _ _)
   | (with_reducible exact spec_l1Cur_device.mono _ _ _ _)
   | (with_reducible exact LeO.refl _)
   | (with_reducible exact LeO.none _)
   | (with_reducible refine LeO.ite ?_ ?_)
   | (with_reducible refine LeO.bind ?_ (fun _ => ?_))
   | exact spec_l1Cur_bools.mono _ _ _ _ _
   | exact spec_l1Cur_device.mono _ _ _ _
   | exact LeO.none _
   | refine LeO.ite ?_ ?_
   | refine LeO.bind ?_ (fun _ => ?_)
set_option maxHeartbeats 8000000 in
set_option maxRecDepth 100000 in
theorem spec_DrawCrashDevice.calls (k : Nat) (A0 : Option Addr) (c0 : Nat) (l0 : List Int) (r1 : List ByteArray) (r2 : List (S42)) (r3 : List Bool) (w : World) (hr0 : Kd.C (Kd.int .u8) w A0 l0.length l0) (hc0 : l0.length ≤ c0) (h : spec_DrawCrashDevice.f k l0 = some (r1, r2, r3)) :
  Calls Try.prog 49 #[.slice A0 l0.length c0] w fun e w' => ∃ v0_ v1_ v2_ : Value, e = .returned (.tuple #[.agg #[v0_, v1_], v2_]) ∧ Kd.R Kd.string 9 w' w.heap.size (fun _ => True) v0_ r1 ∧ Kd.R k42 42 w' w.heap.size (fun _ => True) v1_ r2 ∧ Kd.R Kd.bool 4 w' w.heap.size (fun _ => True) v2_ r3 ∧ Below w.heap.size w w' := by
 have hu30 := Try.underlying30; have hu97 := Try.underlying97; have HR0 := aM hr0; have HC0 := aM hc0; clear hr0 hc0; have HB := aM (Below.refl w.heap.size w)
 have H : ((spec_l1Cur_device.f k l0 0 0).bind fun bt326 => ((spec_l1Cur_one.f l0 bt326.2.2.1 bt326.2.2.2 20).bind fun bt335 => (if bt335.1 = true then ((spec_l1Cur_bools.f k l0 bt335.2.1 bt335.2.2 (wrap64 ((bt326.2.1.length : Int) + 1))).bind fun bt338 => (some (bt326.1, bt326.2.1, bt338.1))) else ((spec_l1Cur_bools.f k l0 bt335.2.1 bt335.2.2 (bt326.2.1.length : Int)).bind fun bt343 => (some (bt326.1, bt326.2.1, bt343.1)))))) = some (r1, r2, r3) := h
 clear h; replace H := Option.bind_eq_some_iff.mp H; obtain ⟨⟨t326, t329, t332, t333⟩, A20, H⟩ := H
 replace H : ((spec_l1Cur_one.f l0 t332 t333 20).bind fun bt335 => (if bt335.1 = true then ((spec_l1Cur_bools.f k l0 bt335.2.1 bt335.2.2 (wrap64 ((t329.length : Int) + 1))).bind fun bt338 => (some (t326, t329, bt338.1))) else ((spec_l1Cur_bools.f k l0 bt335.2.1 bt335.2.2 (t329.length : Int)).bind fun bt343 => (some (t326, t329, bt343.1))))) = some (r1, r2, r3) := H
 have A2 := aM A20; clear A20; replace H := Option.bind_eq_some_iff.mp H; obtain ⟨⟨t335, t336, t337⟩, A30, H⟩ := H
 replace H : (if t335 = true then ((spec_l1Cur_bools.f k l0 t336 t337 (wrap64 ((t329.length : Int) + 1))).bind fun bt338 => (some (t326, t329, bt338.1))) else ((spec_l1Cur_bools.f k l0 t336 t337 (t329.length : Int)).bind fun bt343 => (some (t326, t329, bt343.1)))) = some (r1, r2, r3) := H
 have A3 := aM A30; clear A30
 by_cases c4 : t335 = true
 ·subst c4
  have H1 : ((spec_l1Cur_bools.f k l0 t336 t337 (wrap64 ((t329.length : Int) + 1))).bind fun bt338 => (some (t326, t329, bt338.1))) = some (r1, r2, r3) := by rw [if_pos rfl] at H; exact H
  clear H; have H := H1; clear H1; replace H := Option.bind_eq_some_iff.mp H; obtain ⟨⟨t338, t341, t342⟩, A50, H⟩ := H; replace H : (some (t326, t329, t338)) = some (r1, r2, r3) := H; have A5 := aM A50; clear A50
  simp only [Option.some.injEq, Prod.mk.injEq] at H
  obtain ⟨rfl, rfl, rfl⟩ := H
  go_enter Try.func49, Try.ntmps49
  try go_wp2_with (first | ((with_reducible refine gate_dst (N := 2) rfl ?_); refine box_event ?hg (N := 2) ?hd (cs := #[.slice none 0 0, .slice none 0 0]) (t := 30) ?hr ?_; (case hd => rfl); (case hg => rfl); (case hr => first | (go_simp; done) | (go_simp; rfl)); intro gb324 hg w6 hbox hb; have BK324 := aM (hbox); have GW324 := aM ((by rw [hg]; exact (zZ (zH HB.out)) : w.heap.size ≤ gb324)); have GE324 := aM ((by rw [hg]; exact (zZ (zH HB.out)) : w.heap.size ≤ gb324)); replace HB := aM (zT (zH HB.out) hb); clear hb hbox hg) | ((with_reducible refine gate_dst (N := 9) rfl ?_); refine box_event ?hg (N := 9) ?hd (cs := #[.slice A0 l0.length c0, .int .i64 0, .int .u64 0]) (t := 97) ?hr ?_; (case hd => rfl); (case hg => rfl); (case hr => first | (go_simp; done) | (go_simp; rfl)); intro gb325 hg w7 hbox hb; have GW325 := aM ((by rw [hg]; exact (zZ (zH HB.out)) : w.heap.size ≤ gb325)); have GE325 := aM ((by rw [hg]; exact (zZ (zH HB.out)) : w.heap.size ≤ gb325)); have NB324_325 := nL BK324.out hg; have NB325_324 := nR BK324.out hg; replace BK324 := yK BK324.out hb; have HI325 := aM ((⟨_, _, hbox, (by rw [hg]; exact (zZ (zH HB.out))), HR0.out⟩ : IsS97 w _ gb325 l0 0 0)); replace HB := aM (zT (zH HB.out) hb); clear hb hbox hg) | ((with_reducible refine gate_callee (f := 81) rfl ?_); refine goesL_ (some 11) rfl rfl Try.func81 (by kernel_rfl) rfl #[.pointer (some ⟨gb325, 0, none⟩)] rfl mA ?_; (with_reducible refine (spec_l1Cur_device.calls k gb325 l0 0 0 t326 t329 t332 t333 w _ ?side1 ?side2 A2.out).mono ?_); (case side1 => repeat (first | (with_reducible first | exact HI325.out | apply IsS97.alloc | apply IsS97.drewN | apply IsS97.drew | apply IsS97.set_1 | apply IsS97.set_2 | refine IsS97.far ?_ NB325_324.out _) | exact HI325.out)); (case side2 => repeat (first | (with_reducible first | exact HB.out | apply zA | apply zN | apply zD | refine zS ?_ (IsS97.ge HI325.out) | refine zS ?_ GE324.out) | exact HB.out)); rintro e w8 ⟨v327, v330, rfl, ho0, ho1, hi, hb, hk⟩; refine ⟨_, rfl, ?_⟩; replace BK324 := aM (KeepBut.blk hk (g' := gb324) (o := .cells #[.slice none 0 0, .slice none 0 0] 30 (0, 0)) (yH BK324.out) NB324_325.out (by simp)); have HO328 := aM (xL ho0 (zZ (by repeat (first | (with_reducible first | exact HB.out | apply zA | apply zN | apply zD | refine zS ?_ (IsS97.ge HI325.out) | refine zS ?_ GE324.out) | exact HB.out)))); have HO331 := aM (xL ho1 (zZ (by repeat (first | (with_reducible first | exact HB.out | apply zA | apply zN | apply zD | refine zS ?_ (IsS97.ge HI325.out) | refine zS ?_ GE324.out) | exact HB.out)))); replace HB := aM (hb); replace HI325 := aM (hi); (try clear hb); (try clear ho0); (try clear ho1)) | ((with_reducible refine gate_dst (N := 5) rfl ?_); refine box_event ?hg (N := 5) ?hd (cs := #[.slice none 0 0, .slice none 0 0]) (t := 30) ?hr ?_; (case hd => rfl); (case hg => rfl); (case hr => first | (go_simp; done) | (go_simp; rfl)); intro gb334 hg w9 hbox hb; replace HO328 := xK HO328.out hb; replace HO331 := xK HO331.out hb; have BK334 := aM (hbox); have GW334 := aM ((by rw [hg]; exact (zZ (by repeat (first | (with_reducible first | exact HB.out | apply zA | apply zN | apply zD | refine zS ?_ (IsS97.ge HI325.out) | refine zS ?_ GE324.out) | exact HB.out))) : w.heap.size ≤ gb334)); have GE334 := aM ((by rw [hg]; exact (zZ (by repeat (first | (with_reducible first | exact HB.out | apply zA | apply zN | apply zD | refine zS ?_ (IsS97.ge HI325.out) | refine zS ?_ GE324.out) | exact HB.out))) : w.heap.size ≤ gb334)); replace HB := aM (zT (by repeat (first | (with_reducible first | exact HB.out | apply zA | apply zN | apply zD | refine zS ?_ (IsS97.ge HI325.out) | refine zS ?_ GE324.out) | exact HB.out)) hb); have NB324_334 := nL BK324.out hg; have NB334_324 := nR BK324.out hg; replace BK324 := yK BK324.out hb; have NB325_334 := aM ((by rw [hg]; exact Nat.ne_of_lt (IsS97.lt (show IsS97 w _ gb325 l0 t332 t333 from by (try simp only [Int.add_zero]); repeat (first | (with_reducible first | exact HI325.out | apply IsS97.alloc | apply IsS97.drewN | apply IsS97.drew | apply IsS97.set_1 | apply IsS97.set_2 | refine IsS97.far ?_ NB325_324.out _) | exact HI325.out))) : gb325 ≠ gb334)); have NB334_325 := aM ((by rw [hg]; exact Nat.ne_of_gt (IsS97.lt (show IsS97 w _ gb325 l0 t332 t333 from by (try simp only [Int.add_zero]); repeat (first | (with_reducible first | exact HI325.out | apply IsS97.alloc | apply IsS97.drewN | apply IsS97.drew | apply IsS97.set_1 | apply IsS97.set_2 | refine IsS97.far ?_ NB325_324.out _) | exact HI325.out))) : gb334 ≠ gb325)); replace HI325 := aM (IsS97.below (by (try simp only [Int.add_zero]); repeat (first | (with_reducible first | exact HI325.out | apply IsS97.alloc | apply IsS97.drewN | apply IsS97.drew | apply IsS97.set_1 | apply IsS97.set_2 | refine IsS97.far ?_ NB325_324.out _) | exact HI325.out)) hb); clear hb hbox hg; obtain ⟨Ao10, co10, eo10⟩ := Kd.R_slice HO328.out; subst eo10; have hnb11 := NB334_324.out; have hnc11 := NB324_334.out; have hnb12 := NB334_325.out; have hnc12 := NB325_334.out; have hcz13_0 : w9.cell? ⟨gb334, 0, none⟩ = some (.slice none 0 0) := yc BK334.out 0; have hcz13_1 : w9.cell? ⟨gb334, 1, none⟩ = some (.slice none 0 0) := yc BK334.out 1; have hfz13_0 := yZ BK334.out 0; have hfz13_1 := yZ BK334.out 1; obtain ⟨Ao14, co14, eo14⟩ := Kd.R_slice HO331.out; subst eo14) | ((with_reducible refine gate_callee (f := 83) rfl ?_); refine goesL_ (some 16) rfl rfl Try.func83 (by kernel_rfl) rfl #[.pointer (some ⟨gb325, 0, none⟩), .int .i64 20] rfl mA ?_; (with_reducible refine (spec_l1Cur_one.calls gb325 l0 t332 t333 20 true t336 t337 w _ ?side1 ?side2 A3.out).mono ?_); (case side1 => repeat (first | (with_reducible first | exact HI325.out | apply IsS97.alloc | apply IsS97.drewN | apply IsS97.drew | apply IsS97.set_1 | apply IsS97.set_2 | refine IsS97.far ?_ NB325_324.out _ | refine IsS97.far ?_ NB325_334.out _) | exact HI325.out)); (case side2 => repeat (first | (with_reducible first | exact HB.out | apply zA | apply zN | apply zD | refine zS ?_ (IsS97.ge HI325.out) | refine zS ?_ GE324.out | refine zS ?_ GE334.out) | exact HB.out)); rintro e w15 ⟨rfl, hi, hb, hk⟩; refine ⟨_, rfl, ?_⟩; replace BK324 := aM (KeepBut.blk hk (g' := gb324) (o := .cells #[.slice none 0 0, .slice none 0 0] 30 (0, 0)) (by refine yW ?_; refine yF ?_ NB324_334.out _; refine yW ?_; refine yF ?_ NB324_334.out _; refine yW ?_; exact BK324.out) NB324_325.out (by simp)); replace HO328 := aM (xM (Kd.R_keep (IsS97.apart (show IsS97 w _ gb325 l0 t332 t333 from by (try simp only [Int.add_zero]); repeat (first | (with_reducible first | exact HI325.out | apply IsS97.alloc | apply IsS97.drewN | apply IsS97.drew | apply IsS97.set_1 | apply IsS97.set_2 | refine IsS97.far ?_ NB325_324.out _ | refine IsS97.far ?_ NB325_334.out _) | exact HI325.out)) (xH ((x2 HO328.out BK334.out (by decide) (.slice Ao10 t326.length co10) (.slice Ao14 t329.length co14)))) (by decide)) hk (fun _ h => h.2)) (fun _ h => h.1)); replace HO331 := aM (xM (Kd.R_keep (IsS97.apart (show IsS97 w _ gb325 l0 t332 t333 from by (try simp only [Int.add_zero]); repeat (first | (with_reducible first | exact HI325.out | apply IsS97.alloc | apply IsS97.drewN | apply IsS97.drew | apply IsS97.set_1 | apply IsS97.set_2 | refine IsS97.far ?_ NB325_324.out _ | refine IsS97.far ?_ NB325_334.out _) | exact HI325.out)) (xH ((x2 HO331.out BK334.out (by decide) (.slice Ao10 t326.length co10) (.slice Ao14 t329.length co14)))) (by decide)) hk (fun _ h => h.2)) (fun _ h => h.1)); replace BK334 := aM (KeepBut.blk hk (g' := gb334) (o := .cells #[.slice Ao10 t326.length co10, .slice Ao14 t329.length co14] 30 (0, 0)) (by refine yW ?_; refine yP (cs := #[.slice Ao10 t326.length co10, .slice none 0 0]) ?_ 1 _ rfl; refine yW ?_; refine yP (cs := #[.slice none 0 0, .slice none 0 0]) ?_ 0 _ rfl; refine yW ?_; exact BK334.out) NB334_325.out (by simp)); replace HB := aM (hb); replace HI325 := aM (hi); (try clear hb)))
  replace HO328 := aM (xD HO328.out); replace HO331 := aM (xD HO331.out); replace BK324 := aM (yD BK324.out); replace BK334 := aM (yD BK334.out); replace HI325 := aM (IsS97.drew HI325.out); replace HB := aM (zD HB.out)
  refine start_ (n := 6) (S := fun w' => w'.cell? ⟨gb334, 0, none⟩ = some (.slice Ao10 t326.length co10) ∧ w'.cell? ⟨gb334, 1, none⟩ = some (.slice Ao14 t329.length co14)) (ds := []) #[fF,fF,fF,fF,fF,fF] (by kernel_rfl) rfl rfl ⟨yc BK334.out 0, yc BK334.out 1⟩ (fun hHeld => ?_)
  generalize w15.drew = w16 at HO328 HO331 BK324 BK334 HI325 HB hHeld ⊢
  refine pure_ (i := 1) (N := some 20) (v := ?_) (a' := ?_) #[fF,tT,fF,fF,fF,fF] rfl rfl (by kernel_rfl) (fun _ _ _ h => h) (Or.inl ⟨by rfl, ?_⟩) ?_ ?_
  rotate_left
  ·intro w'
   go_simp
   with_reducible rfl
  rotate_left
  ·simp only [Act.put, qA, qB, qC, i64_w, i32_w]
   rfl
  refine pure_ (i := 2) (N := some 21) (v := ?_) (a' := ?_) #[fF,tT,tT,fF,fF,fF] rfl rfl (by kernel_rfl) (fun _ _ _ h => h) (Or.inl ⟨by rfl, ?_⟩) ?_ ?_
  rotate_left
  ·intro w'
   go_simp
   with_reducible rfl
  rotate_left
  ·simp only [Act.put, qA, qB, qC, i64_w, i32_w]
   rfl
  refine take_ (i := 0) (N := some 19) (v := ?_) (a' := ?_) #[tT,tT,tT,fF,fF,fF] rfl rfl (by kernel_rfl) (fun _ _ _ h => h) (Or.inl ⟨by rfl, ?_⟩) hHeld ?_ ?_
  rotate_left
  ·rintro w' ⟨s0, s1⟩
   go_simp
   with_reducible rfl
  rotate_left
  ·simp only [Act.put, qA, qB, qC, i64_w, i32_w]
   rfl
  refine one_ (i := 3) (N := some 22) #[tT,tT,tT,tT,fF,fF] rfl rfl (by kernel_rfl) (by decide) (fun K hK => ?_)
  refine gS Try.func84 (by kernel_rfl) rfl #[.pointer (some ⟨gb325, 0, none⟩), .int .i64 (wrap64 ((t329.length : Int) + 1))] (by rfl) rfl rfl ?_
  with_reducible refine (spec_l1Cur_bools.calls k gb325 l0 t336 t337 (wrap64 ((t329.length : Int) + 1)) t338 t341 t342 w _ ?side1 ?side2 A5.out).mono ?_
  (case side1 => repeat (first | (with_reducible first | exact HI325.out | apply IsS97.alloc | apply IsS97.drewN | apply IsS97.drew | apply IsS97.set_1 | apply IsS97.set_2 | refine IsS97.far ?_ NB325_324.out _ | refine IsS97.far ?_ NB325_334.out _) | exact HI325.out))
  (case side2 => repeat (first | (with_reducible first | exact HB.out | apply zA | apply zN | apply zD | refine zS ?_ (IsS97.ge HI325.out) | refine zS ?_ GE324.out | refine zS ?_ GE334.out) | exact HB.out))
  rintro e w17 ⟨v339, rfl, ho0, hi, hb, hk⟩
  refine ⟨_, rfl, ?_⟩
  replace BK324 := aM (KeepBut.blk hk (g' := gb324) (o := .cells #[.slice none 0 0, .slice none 0 0] 30 (0, 0)) (yH BK324.out) NB324_325.out (by simp))
  replace HO328 := aM (xM (Kd.R_keep (IsS97.apart (show IsS97 w _ gb325 l0 t336 t337 from by (try simp only [Int.add_zero]); repeat (first | (with_reducible first | exact HI325.out | apply IsS97.alloc | apply IsS97.drewN | apply IsS97.drew | apply IsS97.set_1 | apply IsS97.set_2 | refine IsS97.far ?_ NB325_324.out _ | refine IsS97.far ?_ NB325_334.out _) | exact HI325.out)) (xH HO328.out) (by decide)) hk (fun _ h => h.2)) (fun _ h => h.1))
  replace HO331 := aM (xM (Kd.R_keep (IsS97.apart (show IsS97 w _ gb325 l0 t336 t337 from by (try simp only [Int.add_zero]); repeat (first | (with_reducible first | exact HI325.out | apply IsS97.alloc | apply IsS97.drewN | apply IsS97.drew | apply IsS97.set_1 | apply IsS97.set_2 | refine IsS97.far ?_ NB325_324.out _ | refine IsS97.far ?_ NB325_334.out _) | exact HI325.out)) (xH HO331.out) (by decide)) hk (fun _ h => h.2)) (fun _ h => h.1))
  replace BK334 := aM (KeepBut.blk hk (g' := gb334) (o := .cells #[.slice Ao10 t326.length co10, .slice Ao14 t329.length co14] 30 (0, 0)) (yH BK334.out) NB334_325.out (by simp))
  have HO340 := aM (xL ho0 (zZ (by repeat (first | (with_reducible first | exact HB.out | apply zA | apply zN | apply zD | refine zS ?_ (IsS97.ge HI325.out) | refine zS ?_ GE324.out | refine zS ?_ GE334.out) | exact HB.out))))
  replace HB := aM (hb); replace HI325 := aM (hi)
  (try clear hb); (try clear ho0)
  refine hK.out _ _ ⟨yc BK334.out 0, yc BK334.out 1⟩ (fun hHeld => ?_)
  clear hK K; refine norm_ (a' := ?_) ?_ ?_; rotate_left
  ·show Act.put _ (some 22) _ = _
   simp only [Act.put, qA, qB, qC, i64_w, i32_w]
   rfl
  refine one_ (i := 4) (N := none) #[tT,tT,tT,tT,tT,fF] rfl rfl (by kernel_rfl) (by decide) (fun K hK => ?_)
  have hs18 : w17.cell? ⟨gb324, 0, none⟩ = some (.slice none 0 0) := yc BK324.out 0; have hfs18 := yZ BK324.out 0; have hns18_1 := NB334_324.out; have hms18_1 := NB324_334.out; have hs19 : w17.cell? ⟨gb324, 1, none⟩ = some (.slice none 0 0) := yc BK324.out 1; have hfs19 := yZ BK324.out 1; have hns19_1 := NB334_324.out; have hms19_1 := NB324_334.out
  refine skip_ (w1 := ?_) (by rfl) rfl ?_ ?_
  rotate_left
  ·go_simp
   rfl
  refine hK.out _ _ ⟨((cell_far (p := ⟨gb324, _, none⟩) NB334_324.out _).trans (((cell_far (p := ⟨gb324, _, none⟩) NB334_324.out _).trans (hHeld.1)))), ((cell_far (p := ⟨gb324, _, none⟩) NB334_324.out _).trans (((cell_far (p := ⟨gb324, _, none⟩) NB334_324.out _).trans (hHeld.2))))⟩ (fun hHeld => ?_)
  clear hK K
  refine pure_ (i := 5) (N := some 3) (v := ?_) (a' := ?_) #[tT,tT,tT,tT,tT,tT] rfl rfl (by kernel_rfl) (fun _ _ _ h => h) (Or.inl ⟨by rfl, ?_⟩) ?_ ?_
  rotate_left
  ·intro w'
   go_simp
   with_reducible rfl
  rotate_left
  ·simp only [Act.put, qA, qB, qC, i64_w, i32_w]
   rfl
  refine done_ (by kernel_rfl) ?_
  try go_wp2
  refine bodyPost_ret (results_ct rfl _ _ gb324 30 #[.slice Ao10 t326.length co10, .slice Ao14 t329.length co14] (0, 0) _ rfl (by refine yW ?_; refine yP (cs := #[.slice Ao10 t326.length co10, .slice none 0 0]) ?_ 1 _ rfl; refine yW ?_; refine yP (cs := #[.slice none 0 0, .slice none 0 0]) ?_ 0 _ rfl; refine yW ?_; exact BK324.out) Try.underlying30 rfl (by kernel_rfl)) rfl ?_
  exact ⟨_, _, _, eW, xH (xM (xF (p := ⟨gb324, 1, none⟩) (xF (p := ⟨gb324, 0, none⟩) (xT HO328.out BK324.out (by decide)) (fun _ hk => hk.2) (.slice Ao10 t326.length co10)) (fun _ hk => hk.2) (.slice Ao14 t329.length co14)) (fun _ hk => trivial)), xH (xM (xF (p := ⟨gb324, 1, none⟩) (xF (p := ⟨gb324, 0, none⟩) (xT HO331.out BK324.out (by decide)) (fun _ hk => hk.2) (.slice Ao10 t326.length co10)) (fun _ hk => hk.2) (.slice Ao14 t329.length co14)) (fun _ hk => trivial)), xH (xM (xF (p := ⟨gb324, 1, none⟩) (xF (p := ⟨gb324, 0, none⟩) (xT HO340.out BK324.out (by decide)) (fun _ hk => hk.2) (.slice Ao10 t326.length co10)) (fun _ hk => hk.2) (.slice Ao14 t329.length co14)) (fun _ hk => trivial)), by repeat (first | (with_reducible first | exact HB.out | apply zA | apply zN | apply zD | refine zS ?_ (IsS97.ge HI325.out) | refine zS ?_ GE324.out | refine zS ?_ GE334.out) | exact HB.out)⟩
 ·replace c4 := Bool.eq_false_iff.mpr c4
  subst c4
  have H1 : ((spec_l1Cur_bools.f k l0 t336 t337 (t329.length : Int)).bind fun bt343 => (some (t326, t329, bt343.1))) = some (r1, r2, r3) := by rw [if_neg (show ¬ (false = true) by decide)] at H; exact H
  clear H; have H := H1; clear H1; replace H := Option.bind_eq_some_iff.mp H; obtain ⟨⟨t343, t346, t347⟩, A200, H⟩ := H; replace H : (some (t326, t329, t343)) = some (r1, r2, r3) := H; have A20 := aM A200; clear A200
  simp only [Option.some.injEq, Prod.mk.injEq] at H
  obtain ⟨rfl, rfl, rfl⟩ := H
  go_enter Try.func49, Try.ntmps49
  try go_wp2_with (first | ((with_reducible refine gate_dst (N := 2) rfl ?_); refine box_event ?hg (N := 2) ?hd (cs := #[.slice none 0 0, .slice none 0 0]) (t := 30) ?hr ?_; (case hd => rfl); (case hg => rfl); (case hr => first | (go_simp; done) | (go_simp; rfl)); intro gb324 hg w21 hbox hb; have BK324 := aM (hbox); have GW324 := aM ((by rw [hg]; exact (zZ (zH HB.out)) : w.heap.size ≤ gb324)); have GE324 := aM ((by rw [hg]; exact (zZ (zH HB.out)) : w.heap.size ≤ gb324)); replace HB := aM (zT (zH HB.out) hb); clear hb hbox hg) | ((with_reducible refine gate_dst (N := 9) rfl ?_); refine box_event ?hg (N := 9) ?hd (cs := #[.slice A0 l0.length c0, .int .i64 0, .int .u64 0]) (t := 97) ?hr ?_; (case hd => rfl); (case hg => rfl); (case hr => first | (go_simp; done) | (go_simp; rfl)); intro gb325 hg w22 hbox hb; have GW325 := aM ((by rw [hg]; exact (zZ (zH HB.out)) : w.heap.size ≤ gb325)); have GE325 := aM ((by rw [hg]; exact (zZ (zH HB.out)) : w.heap.size ≤ gb325)); have NB324_325 := nL BK324.out hg; have NB325_324 := nR BK324.out hg; replace BK324 := yK BK324.out hb; have HI325 := aM ((⟨_, _, hbox, (by rw [hg]; exact (zZ (zH HB.out))), HR0.out⟩ : IsS97 w _ gb325 l0 0 0)); replace HB := aM (zT (zH HB.out) hb); clear hb hbox hg) | ((with_reducible refine gate_callee (f := 81) rfl ?_); refine goesL_ (some 11) rfl rfl Try.func81 (by kernel_rfl) rfl #[.pointer (some ⟨gb325, 0, none⟩)] rfl mA ?_; (with_reducible refine (spec_l1Cur_device.calls k gb325 l0 0 0 t326 t329 t332 t333 w _ ?side1 ?side2 A2.out).mono ?_); (case side1 => repeat (first | (with_reducible first | exact HI325.out | apply IsS97.alloc | apply IsS97.drewN | apply IsS97.drew | apply IsS97.set_1 | apply IsS97.set_2 | refine IsS97.far ?_ NB325_324.out _) | exact HI325.out)); (case side2 => repeat (first | (with_reducible first | exact HB.out | apply zA | apply zN | apply zD | refine zS ?_ (IsS97.ge HI325.out) | refine zS ?_ GE324.out) | exact HB.out)); rintro e w23 ⟨v327, v330, rfl, ho0, ho1, hi, hb, hk⟩; refine ⟨_, rfl, ?_⟩; replace BK324 := aM (KeepBut.blk hk (g' := gb324) (o := .cells #[.slice none 0 0, .slice none 0 0] 30 (0, 0)) (yH BK324.out) NB324_325.out (by simp)); have HO328 := aM (xL ho0 (zZ (by repeat (first | (with_reducible first | exact HB.out | apply zA | apply zN | apply zD | refine zS ?_ (IsS97.ge HI325.out) | refine zS ?_ GE324.out) | exact HB.out)))); have HO331 := aM (xL ho1 (zZ (by repeat (first | (with_reducible first | exact HB.out | apply zA | apply zN | apply zD | refine zS ?_ (IsS97.ge HI325.out) | refine zS ?_ GE324.out) | exact HB.out)))); replace HB := aM (hb); replace HI325 := aM (hi); (try clear hb); (try clear ho0); (try clear ho1)) | ((with_reducible refine gate_dst (N := 5) rfl ?_); refine box_event ?hg (N := 5) ?hd (cs := #[.slice none 0 0, .slice none 0 0]) (t := 30) ?hr ?_; (case hd => rfl); (case hg => rfl); (case hr => first | (go_simp; done) | (go_simp; rfl)); intro gb334 hg w24 hbox hb; replace HO328 := xK HO328.out hb; replace HO331 := xK HO331.out hb; have BK334 := aM (hbox); have GW334 := aM ((by rw [hg]; exact (zZ (by repeat (first | (with_reducible first | exact HB.out | apply zA | apply zN | apply zD | refine zS ?_ (IsS97.ge HI325.out) | refine zS ?_ GE324.out) | exact HB.out))) : w.heap.size ≤ gb334)); have GE334 := aM ((by rw [hg]; exact (zZ (by repeat (first | (with_reducible first | exact HB.out | apply zA | apply zN | apply zD | refine zS ?_ (IsS97.ge HI325.out) | refine zS ?_ GE324.out) | exact HB.out))) : w.heap.size ≤ gb334)); replace HB := aM (zT (by repeat (first | (with_reducible first | exact HB.out | apply zA | apply zN | apply zD | refine zS ?_ (IsS97.ge HI325.out) | refine zS ?_ GE324.out) | exact HB.out)) hb); have NB324_334 := nL BK324.out hg; have NB334_324 := nR BK324.out hg; replace BK324 := yK BK324.out hb; have NB325_334 := aM ((by rw [hg]; exact Nat.ne_of_lt (IsS97.lt (show IsS97 w _ gb325 l0 t332 t333 from by (try simp only [Int.add_zero]); repeat (first | (with_reducible first | exact HI325.out | apply IsS97.alloc | apply IsS97.drewN | apply IsS97.drew | apply IsS97.set_1 | apply IsS97.set_2 | refine IsS97.far ?_ NB325_324.out _) | exact HI325.out))) : gb325 ≠ gb334)); have NB334_325 := aM ((by rw [hg]; exact Nat.ne_of_gt (IsS97.lt (show IsS97 w _ gb325 l0 t332 t333 from by (try simp only [Int.add_zero]); repeat (first | (with_reducible first | exact HI325.out | apply IsS97.alloc | apply IsS97.drewN | apply IsS97.drew | apply IsS97.set_1 | apply IsS97.set_2 | refine IsS97.far ?_ NB325_324.out _) | exact HI325.out))) : gb334 ≠ gb325)); replace HI325 := aM (IsS97.below (by (try simp only [Int.add_zero]); repeat (first | (with_reducible first | exact HI325.out | apply IsS97.alloc | apply IsS97.drewN | apply IsS97.drew | apply IsS97.set_1 | apply IsS97.set_2 | refine IsS97.far ?_ NB325_324.out _) | exact HI325.out)) hb); clear hb hbox hg; obtain ⟨Ao25, co25, eo25⟩ := Kd.R_slice HO328.out; subst eo25; have hnb26 := NB334_324.out; have hnc26 := NB324_334.out; have hnb27 := NB334_325.out; have hnc27 := NB325_334.out; have hcz28_0 : w24.cell? ⟨gb334, 0, none⟩ = some (.slice none 0 0) := yc BK334.out 0; have hcz28_1 : w24.cell? ⟨gb334, 1, none⟩ = some (.slice none 0 0) := yc BK334.out 1; have hfz28_0 := yZ BK334.out 0; have hfz28_1 := yZ BK334.out 1; obtain ⟨Ao29, co29, eo29⟩ := Kd.R_slice HO331.out; subst eo29) | ((with_reducible refine gate_callee (f := 83) rfl ?_); refine goesL_ (some 16) rfl rfl Try.func83 (by kernel_rfl) rfl #[.pointer (some ⟨gb325, 0, none⟩), .int .i64 20] rfl mA ?_; (with_reducible refine (spec_l1Cur_one.calls gb325 l0 t332 t333 20 false t336 t337 w _ ?side1 ?side2 A3.out).mono ?_); (case side1 => repeat (first | (with_reducible first | exact HI325.out | apply IsS97.alloc | apply IsS97.drewN | apply IsS97.drew | apply IsS97.set_1 | apply IsS97.set_2 | refine IsS97.far ?_ NB325_324.out _ | refine IsS97.far ?_ NB325_334.out _) | exact HI325.out)); (case side2 => repeat (first | (with_reducible first | exact HB.out | apply zA | apply zN | apply zD | refine zS ?_ (IsS97.ge HI325.out) | refine zS ?_ GE324.out | refine zS ?_ GE334.out) | exact HB.out)); rintro e w30 ⟨rfl, hi, hb, hk⟩; refine ⟨_, rfl, ?_⟩; replace BK324 := aM (KeepBut.blk hk (g' := gb324) (o := .cells #[.slice none 0 0, .slice none 0 0] 30 (0, 0)) (by refine yW ?_; refine yF ?_ NB324_334.out _; refine yW ?_; refine yF ?_ NB324_334.out _; refine yW ?_; exact BK324.out) NB324_325.out (by simp)); replace HO328 := aM (xM (Kd.R_keep (IsS97.apart (show IsS97 w _ gb325 l0 t332 t333 from by (try simp only [Int.add_zero]); repeat (first | (with_reducible first | exact HI325.out | apply IsS97.alloc | apply IsS97.drewN | apply IsS97.drew | apply IsS97.set_1 | apply IsS97.set_2 | refine IsS97.far ?_ NB325_324.out _ | refine IsS97.far ?_ NB325_334.out _) | exact HI325.out)) (xH ((x2 HO328.out BK334.out (by decide) (.slice Ao25 t326.length co25) (.slice Ao29 t329.length co29)))) (by decide)) hk (fun _ h => h.2)) (fun _ h => h.1)); replace HO331 := aM (xM (Kd.R_keep (IsS97.apart (show IsS97 w _ gb325 l0 t332 t333 from by (try simp only [Int.add_zero]); repeat (first | (with_reducible first | exact HI325.out | apply IsS97.alloc | apply IsS97.drewN | apply IsS97.drew | apply IsS97.set_1 | apply IsS97.set_2 | refine IsS97.far ?_ NB325_324.out _ | refine IsS97.far ?_ NB325_334.out _) | exact HI325.out)) (xH ((x2 HO331.out BK334.out (by decide) (.slice Ao25 t326.length co25) (.slice Ao29 t329.length co29)))) (by decide)) hk (fun _ h => h.2)) (fun _ h => h.1)); replace BK334 := aM (KeepBut.blk hk (g' := gb334) (o := .cells #[.slice Ao25 t326.length co25, .slice Ao29 t329.length co29] 30 (0, 0)) (by refine yW ?_; refine yP (cs := #[.slice Ao25 t326.length co25, .slice none 0 0]) ?_ 1 _ rfl; refine yW ?_; refine yP (cs := #[.slice none 0 0, .slice none 0 0]) ?_ 0 _ rfl; refine yW ?_; exact BK334.out) NB334_325.out (by simp)); replace HB := aM (hb); replace HI325 := aM (hi); (try clear hb)))
  replace HO328 := aM (xD HO328.out); replace HO331 := aM (xD HO331.out); replace BK324 := aM (yD BK324.out); replace BK334 := aM (yD BK334.out); replace HI325 := aM (IsS97.drew HI325.out); replace HB := aM (zD HB.out)
  refine start_ (n := 6) (S := fun w' => w'.cell? ⟨gb334, 0, none⟩ = some (.slice Ao25 t326.length co25) ∧ w'.cell? ⟨gb334, 1, none⟩ = some (.slice Ao29 t329.length co29)) (ds := []) #[fF,fF,fF,fF,fF,fF] (by kernel_rfl) rfl rfl ⟨yc BK334.out 0, yc BK334.out 1⟩ (fun hHeld => ?_)
  generalize w30.drew = w31 at HO328 HO331 BK324 BK334 HI325 HB hHeld ⊢
  refine pure_ (i := 1) (N := some 20) (v := ?_) (a' := ?_) #[fF,tT,fF,fF,fF,fF] rfl rfl (by kernel_rfl) (fun _ _ _ h => h) (Or.inl ⟨by rfl, ?_⟩) ?_ ?_
  rotate_left
  ·intro w'
   go_simp
   with_reducible rfl
  rotate_left
  ·simp only [Act.put, qA, qB, qC, i64_w, i32_w]
   rfl
  refine pure_ (i := 2) (N := some 21) (v := ?_) (a' := ?_) #[fF,tT,tT,fF,fF,fF] rfl rfl (by kernel_rfl) (fun _ _ _ h => h) (Or.inl ⟨by rfl, ?_⟩) ?_ ?_
  rotate_left
  ·intro w'
   go_simp
   with_reducible rfl
  rotate_left
  ·simp only [Act.put, qA, qB, qC, i64_w, i32_w]
   rfl
  refine take_ (i := 0) (N := some 19) (v := ?_) (a' := ?_) #[tT,tT,tT,fF,fF,fF] rfl rfl (by kernel_rfl) (fun _ _ _ h => h) (Or.inl ⟨by rfl, ?_⟩) hHeld ?_ ?_
  rotate_left
  ·rintro w' ⟨s0, s1⟩
   go_simp
   with_reducible rfl
  rotate_left
  ·simp only [Act.put, qA, qB, qC, i64_w, i32_w]
   rfl
  refine one_ (i := 3) (N := some 22) #[tT,tT,tT,tT,fF,fF] rfl rfl (by kernel_rfl) (by decide) (fun K hK => ?_)
  refine gS Try.func84 (by kernel_rfl) rfl #[.pointer (some ⟨gb325, 0, none⟩), .int .i64 (t329.length : Int)] (by rfl) rfl rfl ?_
  with_reducible refine (spec_l1Cur_bools.calls k gb325 l0 t336 t337 (t329.length : Int) t343 t346 t347 w _ ?side1 ?side2 A20.out).mono ?_
  (case side1 => repeat (first | (with_reducible first | exact HI325.out | apply IsS97.alloc | apply IsS97.drewN | apply IsS97.drew | apply IsS97.set_1 | apply IsS97.set_2 | refine IsS97.far ?_ NB325_324.out _ | refine IsS97.far ?_ NB325_334.out _) | exact HI325.out))
  (case side2 => repeat (first | (with_reducible first | exact HB.out | apply zA | apply zN | apply zD | refine zS ?_ (IsS97.ge HI325.out) | refine zS ?_ GE324.out | refine zS ?_ GE334.out) | exact HB.out))
  rintro e w32 ⟨v344, rfl, ho0, hi, hb, hk⟩
  refine ⟨_, rfl, ?_⟩
  replace BK324 := aM (KeepBut.blk hk (g' := gb324) (o := .cells #[.slice none 0 0, .slice none 0 0] 30 (0, 0)) (yH BK324.out) NB324_325.out (by simp))
  replace HO328 := aM (xM (Kd.R_keep (IsS97.apart (show IsS97 w _ gb325 l0 t336 t337 from by (try simp only [Int.add_zero]); repeat (first | (with_reducible first | exact HI325.out | apply IsS97.alloc | apply IsS97.drewN | apply IsS97.drew | apply IsS97.set_1 | apply IsS97.set_2 | refine IsS97.far ?_ NB325_324.out _ | refine IsS97.far ?_ NB325_334.out _) | exact HI325.out)) (xH HO328.out) (by decide)) hk (fun _ h => h.2)) (fun _ h => h.1))
  replace HO331 := aM (xM (Kd.R_keep (IsS97.apart (show IsS97 w _ gb325 l0 t336 t337 from by (try simp only [Int.add_zero]); repeat (first | (with_reducible first | exact HI325.out | apply IsS97.alloc | apply IsS97.drewN | apply IsS97.drew | apply IsS97.set_1 | apply IsS97.set_2 | refine IsS97.far ?_ NB325_324.out _ | refine IsS97.far ?_ NB325_334.out _) | exact HI325.out)) (xH HO331.out) (by decide)) hk (fun _ h => h.2)) (fun _ h => h.1))
  replace BK334 := aM (KeepBut.blk hk (g' := gb334) (o := .cells #[.slice Ao25 t326.length co25, .slice Ao29 t329.length co29] 30 (0, 0)) (yH BK334.out) NB334_325.out (by simp))
  have HO345 := aM (xL ho0 (zZ (by repeat (first | (with_reducible first | exact HB.out | apply zA | apply zN | apply zD | refine zS ?_ (IsS97.ge HI325.out) | refine zS ?_ GE324.out | refine zS ?_ GE334.out) | exact HB.out))))
  replace HB := aM (hb); replace HI325 := aM (hi)
  (try clear hb); (try clear ho0)
  refine hK.out _ _ ⟨yc BK334.out 0, yc BK334.out 1⟩ (fun hHeld => ?_)
  clear hK K; refine norm_ (a' := ?_) ?_ ?_; rotate_left
  ·show Act.put _ (some 22) _ = _
   simp only [Act.put, qA, qB, qC, i64_w, i32_w]
   rfl
  refine one_ (i := 4) (N := none) #[tT,tT,tT,tT,tT,fF] rfl rfl (by kernel_rfl) (by decide) (fun K hK => ?_)
  have hs33 : w32.cell? ⟨gb324, 0, none⟩ = some (.slice none 0 0) := yc BK324.out 0; have hfs33 := yZ BK324.out 0; have hns33_1 := NB334_324.out; have hms33_1 := NB324_334.out; have hs34 : w32.cell? ⟨gb324, 1, none⟩ = some (.slice none 0 0) := yc BK324.out 1; have hfs34 := yZ BK324.out 1; have hns34_1 := NB334_324.out; have hms34_1 := NB324_334.out
  refine skip_ (w1 := ?_) (by rfl) rfl ?_ ?_
  rotate_left
  ·go_simp
   rfl
  refine hK.out _ _ ⟨((cell_far (p := ⟨gb324, _, none⟩) NB334_324.out _).trans (((cell_far (p := ⟨gb324, _, none⟩) NB334_324.out _).trans (hHeld.1)))), ((cell_far (p := ⟨gb324, _, none⟩) NB334_324.out _).trans (((cell_far (p := ⟨gb324, _, none⟩) NB334_324.out _).trans (hHeld.2))))⟩ (fun hHeld => ?_)
  clear hK K
  refine pure_ (i := 5) (N := some 3) (v := ?_) (a' := ?_) #[tT,tT,tT,tT,tT,tT] rfl rfl (by kernel_rfl) (fun _ _ _ h => h) (Or.inl ⟨by rfl, ?_⟩) ?_ ?_
  rotate_left
  ·intro w'
   go_simp
   with_reducible rfl
  rotate_left
  ·simp only [Act.put, qA, qB, qC, i64_w, i32_w]
   rfl
  refine done_ (by kernel_rfl) ?_
  try go_wp2
  refine bodyPost_ret (results_ct rfl _ _ gb324 30 #[.slice Ao25 t326.length co25, .slice Ao29 t329.length co29] (0, 0) _ rfl (by refine yW ?_; refine yP (cs := #[.slice Ao25 t326.length co25, .slice none 0 0]) ?_ 1 _ rfl; refine yW ?_; refine yP (cs := #[.slice none 0 0, .slice none 0 0]) ?_ 0 _ rfl; refine yW ?_; exact BK324.out) Try.underlying30 rfl (by kernel_rfl)) rfl ?_
  exact ⟨_, _, _, eW, xH (xM (xF (p := ⟨gb324, 1, none⟩) (xF (p := ⟨gb324, 0, none⟩) (xT HO328.out BK324.out (by decide)) (fun _ hk => hk.2) (.slice Ao25 t326.length co25)) (fun _ hk => hk.2) (.slice Ao29 t329.length co29)) (fun _ hk => trivial)), xH (xM (xF (p := ⟨gb324, 1, none⟩) (xF (p := ⟨gb324, 0, none⟩) (xT HO331.out BK324.out (by decide)) (fun _ hk => hk.2) (.slice Ao25 t326.length co25)) (fun _ hk => hk.2) (.slice Ao29 t329.length co29)) (fun _ hk => trivial)), xH (xM (xF (p := ⟨gb324, 1, none⟩) (xF (p := ⟨gb324, 0, none⟩) (xT HO345.out BK324.out (by decide)) (fun _ hk => hk.2) (.slice Ao25 t326.length co25)) (fun _ hk => hk.2) (.slice Ao29 t329.length co29)) (fun _ hk => trivial)), by repeat (first | (with_reducible first | exact HB.out | apply zA | apply zN | apply zD | refine zS ?_ (IsS97.ge HI325.out) | refine zS ?_ GE324.out | refine zS ?_ GE334.out) | exact HB.out)⟩

/-! ### laws_sameTexts: function 50 -/
def laws_sameTexts.l0 : Nat → List ByteArray → List ByteArray → Int → Int → Option (Bool)
 | 0, _, _, _, _ => none
 | k + 1, x0, x1, x12, x13 => if x13 < x12 then (if 0 ≤ x13 then (if x13 < (x0.length : Int) then (if x13 < (x1.length : Int) then (if (rdOf ByteArray.empty x0 x13).toList = (rdOf ByteArray.empty x1 x13).toList then (laws_sameTexts.l0 k x0 x1 x12 (wrap64 (x13 + 1))) else (some false)) else (none)) else (none)) else (none)) else (some true)
def laws_sameTexts.f (k : Nat) (l0 : List ByteArray) (l1 : List ByteArray) : Option (Bool) := if (l0.length : Int) = (l1.length : Int) then (laws_sameTexts.l0 k l0 l1 (l0.length : Int) 0) else (some false)
theorem laws_sameTexts.mono_l : ∀ k, (∀ y0 y1 y2 y3, LeO (laws_sameTexts.l0 k y0 y1 y2 y3) (laws_sameTexts.l0 (k + 1) y0 y1 y2 y3))
 | 0 => fun _ _ _ _ r h => by change none = some r at h; cases h
 | k + 1 => by
  have ih0 := laws_sameTexts.mono_l k
  ·intro y0 y1 y2 y3
   unfold laws_sameTexts.l0
   repeat' first
   | (with_reducible exact ih0 _ _ _ _)
   | (with_reducible exact LeO.refl _)
   | (with_reducible exact LeO.none _)
   | (with_reducible refine LeO.ite ?_ ?_)
   | (with_reducible refine LeO.bind ?_ (fun _ => ?_))
   | exact ih0 _ _ _ _
   | exact LeO.none _
   | refine LeO.ite ?_ ?_
   | refine LeO.bind ?_ (fun _ => ?_)
theorem laws_sameTexts.mono : ∀ a0 a1 k, LeO (laws_sameTexts.f k a0 a1) (laws_sameTexts.f (k + 1) a0 a1) := by
 intro a0 a1 k
 have ih0 := laws_sameTexts.mono_l k
 unfold laws_sameTexts.f
 repeat' first
   | (with_reducible exact ih0 _ _ _ _)
   | (with_reducible exact LeO.refl _)
   | (with_reducible exact LeO.none _)
   | (with_reducible refine LeO.ite ?_ ?_)
   | (with_reducible refine LeO.bind ?_ (fun _ => ?_))
   | exact ih0 _ _ _ _
   | exact LeO.none _
   | refine LeO.ite ?_ ?_
   | refine LeO.bind ?_ (fun _ => ?_)
set_option maxHeartbeats 8000000 in
set_option maxRecDepth 100000 in
theorem laws_sameTexts.calls (k : Nat) (A0 : Option Addr) (c0 : Nat) (l0 : List ByteArray) (A1 : Option Addr) (c1 : Nat) (l1 : List ByteArray) (r : Bool) (w : World) (hr0 : Kd.C Kd.string w A0 l0.length l0) (hc0 : l0.length ≤ c0) (hr1 : Kd.C Kd.string w A1 l1.length l1) (hc1 : l1.length ≤ c1) (h : laws_sameTexts.f k l0 l1 = some r) :
  Calls Try.prog 50 #[.slice A0 l0.length c0, .slice A1 l1.length c1] w fun e w' => e = .returned (.bool r) ∧ Drawn0 w w' := by
 have HR0 := aM hr0; have HC0 := aM hc0; clear hr0 hc0; have HR1 := aM hr1; have HC1 := aM hc1; clear hr1 hc1; have H : (if (l0.length : Int) = (l1.length : Int) then (laws_sameTexts.l0 k l0 l1 (l0.length : Int) 0) else (some false)) = some r := h; clear h
 by_cases c3 : (l0.length : Int) = (l1.length : Int)
 ·rw [if_pos c3] at H
  have c3b0 : ((l0.length : Int) == (l1.length : Int)) = true := beq_iff_eq.mpr c3; have c3b1 : ((l0.length : Int) != (l1.length : Int)) = false := bne_eq_false_iff_eq.mpr c3
  have c3b2 : (l0.length == l1.length) = true := by first | simpa using c3 | (simp at c3 ⊢; omega)
  clear c3; have H' := aM H; clear H
  go_enter Try.func50, Try.ntmps50
  go_wp2
  repeat (go_quiet (fail); try go_wp2)
  go_loopg [13] k (fun kq v13 w' => ∃ (x13_1 : Int), v13 = .int .i64 x13_1 ∧ Aside0 (laws_sameTexts.l0 kq l0 l1 (l0.length : Int) x13_1 = some r) ∧ Aside0 (kq ≤ k) ∧ Drawn0 w w')
  case atStart => exact ⟨(0), (by first | rfl | (simp; done) | (simp [*]; done)), H', ⟨Nat.le_refl _⟩, by repeat (first | exact Drawn0.refl _ | apply Drawn0.step)⟩
  case round =>
   clear H'
   (try clear c1); (try clear c3); (try clear c3b0); (try clear c3b1); (try clear c3b2)
   obtain ⟨x13_1, rfl, HA, HK1, ⟨m1, rfl⟩⟩ := hrel
   cases gk with
   | zero => exact absurd HA.out (fun h_ => by change none = some _ at h_; cases h_)
   | succ k1 =>
    have H := HA.out; clear HA
    simp only [laws_sameTexts.l0] at H
    by_cases c4 : x13_1 < (l0.length : Int)
    ·rw [if_pos c4] at H
     have c4b0 : decide (x13_1 < (l0.length : Int)) = true := decide_eq_true c4; clear c4
     by_cases c5 : 0 ≤ x13_1
     ·rw [if_pos c5] at H
      have c5b0 : decide (0 ≤ x13_1) = true := decide_eq_true c5; clear c5
      by_cases c6 : x13_1 < (l0.length : Int)
      ·rw [if_pos c6] at H
       have c6b0 : decide (x13_1 < (l0.length : Int)) = true := decide_eq_true c6; clear c6
       by_cases c7 : x13_1 < (l1.length : Int)
       ·rw [if_pos c7] at H
        have c7b0 : decide (x13_1 < (l1.length : Int)) = true := decide_eq_true c7; clear c7
        by_cases c8 : (rdOf ByteArray.empty l0 x13_1).toList = (rdOf ByteArray.empty l1 x13_1).toList
        ·rw [if_pos c8] at H
         have c8b0 : ((rdOf ByteArray.empty l0 x13_1).toList == (rdOf ByteArray.empty l1 x13_1).toList) = true := beq_iff_eq.mpr c8; have c8b1 : ((rdOf ByteArray.empty l0 x13_1).toList != (rdOf ByteArray.empty l1 x13_1).toList) = false := bne_eq_false_iff_eq.mpr c8; clear c8; have H' := aM H; clear H
         have p348 : 0 ≤ (x13_1 : Int) := of_decide_eq_true (by first | (with_reducible assumption) | assumption)
         have q348 : x13_1 < (l0.length : Int) := of_decide_eq_true (by first | (with_reducible assumption) | assumption)
         obtain ⟨ad348, e348, hx348_0⟩ := Kd.at_string HR0.out x13_1 p348 q348
         cases e348
         replace p348 := eq_true p348; replace q348 := eq_true q348
         have p349 : 0 ≤ (x13_1 : Int) := of_decide_eq_true (by first | (with_reducible assumption) | assumption)
         have q349 : x13_1 < (l1.length : Int) := of_decide_eq_true (by first | (with_reducible assumption) | assumption)
         obtain ⟨ad349, e349, hx349_0⟩ := Kd.at_string HR1.out x13_1 p349 q349
         cases e349
         replace p349 := eq_true p349; replace q349 := eq_true q349
         go_wp2
         repeat (go_quiet (fail); try go_wp2)
         go_roundg k1
         case measure => have := HK1.out; omega
         case rel => exact ⟨(wrap64 (x13_1 + 1)), (by first | rfl | (simp; done) | (simp [*]; done)), H', ⟨by have := HK1.out; omega⟩, by repeat (first | exact Drawn0.refl _ | apply Drawn0.step)⟩
        ·rw [if_neg c8] at H
         have c8b0 : ((rdOf ByteArray.empty l0 x13_1).toList == (rdOf ByteArray.empty l1 x13_1).toList) = false := beq_eq_false_iff_ne.mpr c8; have c8b1 : ((rdOf ByteArray.empty l0 x13_1).toList != (rdOf ByteArray.empty l1 x13_1).toList) = true := bne_iff_ne.mpr c8; obtain rfl := Option.some.inj H
         have p348 : 0 ≤ (x13_1 : Int) := of_decide_eq_true (by first | (with_reducible assumption) | assumption)
         have q348 : x13_1 < (l0.length : Int) := of_decide_eq_true (by first | (with_reducible assumption) | assumption)
         obtain ⟨ad348, e348, hx348_0⟩ := Kd.at_string HR0.out x13_1 p348 q348
         cases e348
         replace p348 := eq_true p348; replace q348 := eq_true q348
         have p349 : 0 ≤ (x13_1 : Int) := of_decide_eq_true (by first | (with_reducible assumption) | assumption)
         have q349 : x13_1 < (l1.length : Int) := of_decide_eq_true (by first | (with_reducible assumption) | assumption)
         obtain ⟨ad349, e349, hx349_0⟩ := Kd.at_string HR1.out x13_1 p349 q349
         cases e349
         replace p349 := eq_true p349; replace q349 := eq_true q349
         go_wp2
         repeat (go_quiet (fail); try go_wp2)
         go_ret
         exact ⟨by first | rfl | (simp; done) | (simp [*]; done), by repeat (first | exact Drawn0.refl _ | apply Drawn0.step)⟩
       ·rw [if_neg c7] at H
        exact absurd H (by simp)
      ·rw [if_neg c6] at H
       exact absurd H (by simp)
     ·rw [if_neg c5] at H
      exact absurd H (by simp)
    ·rw [if_neg c4] at H
     have c4b0 : decide (x13_1 < (l0.length : Int)) = false := decide_eq_false c4; clear c4; obtain rfl := Option.some.inj H
     go_wp2
     repeat (go_quiet (fail); try go_wp2)
     go_ret
     exact ⟨by first | rfl | (simp; done) | (simp [*]; done), by repeat (first | exact Drawn0.refl _ | apply Drawn0.step)⟩
 ·rw [if_neg c3] at H
  have c3b0 : ((l0.length : Int) == (l1.length : Int)) = false := beq_eq_false_iff_ne.mpr c3; have c3b1 : ((l0.length : Int) != (l1.length : Int)) = true := bne_iff_ne.mpr c3
  have c3b2 : (l0.length == l1.length) = false := by first | simpa using c3 | (simp at c3 ⊢; omega)
  obtain rfl := Option.some.inj H
  go_enter Try.func50, Try.ntmps50
  go_wp2
  repeat (go_quiet (fail); try go_wp2)
  go_ret
  exact ⟨by first | rfl | (simp; done) | (simp [*]; done), by repeat (first | exact Drawn0.refl _ | apply Drawn0.step)⟩

end Go.Proofs.Ytlhgkbleciokmaa.PFnDevice
