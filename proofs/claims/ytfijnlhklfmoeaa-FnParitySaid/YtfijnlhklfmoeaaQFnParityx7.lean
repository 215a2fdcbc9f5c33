/- The walks of FnParity: Go's calls come to what the Lean functions beside them say; no condition. -/
import Derived.Test.YtfijnlhklfmoeaaQFnParityx0
import Derived.Test.YtfijnlhklfmoeaaQFnParityx3
import Derived.Test.YtfijnlhklfmoeaaQFnParityx5
import Derived.Test.YtfijnlhklfmoeaaQFnParityx6
namespace Go.Proofs.Ytfijnlhklfmoeaa.PFnParity
open Go.RowKit Go.Proofs.YtfijnlhklfmoeaaW.PrintWords Go.Proofs.YtfijnlhklfmoeaaW.PrintLast Go.Proofs.YtfijnlhklfmoeaaW.PrintMore
attribute [local go_sem] max2_int min2_int max_two min_two max_three min_three max_four min_four   -- for this text's walks alone
set_option linter.unusedVariables false
set_option linter.unusedSimpArgs false
set_option maxRecDepth 100000

/-! ### spec_l3Two: function 61 -/
def spec_l3Two.f (k : Nat) (l0_0 : List ByteArray) (a0_1 : ByteArray) (a0_2 : ByteArray) (a1 : Int) (a2 : Int) : Option (List ByteArray × ByteArray × ByteArray) := (spec_l3Blank.f l0_0 a0_1 a0_2 a1).bind fun bt249 => ((spec_l3Blank.f bt249.1 bt249.2.1 bt249.2.2 a2).bind fun bt254 => (if a2 = (wrap64 ((l0_0.length : Int) + 1)) then ((spec_l3One.f k bt254.1 bt254.2.1 bt254.2.2 a1).bind fun bt259 => ((spec_l3One.f k bt259.1 bt259.2.1 bt259.2.2 a2).bind fun bt264 => (some (bt264.1, bt264.2.1, bt264.2.2)))) else (if a2 = (l0_0.length : Int) then ((spec_l3Parities.f k bt254.1).bind fun bt269 => ((spec_l2Pow.f k 2 a1).bind fun t271 => ((spec_l2Inv.f k t271).bind fun t272 => ((spec_l3Xor.f bt269.2 bt254.2.2).bind fun t273 => ((spec_l3Times.f k t272 t273).bind fun t274 => (if 0 ≤ a1 then (if a1 < (bt254.1.length : Int) then ((spec_l3One.f k (bt254.1.set (a1 : Int).toNat t274) bt254.2.1 bt254.2.2 a2).bind fun bt276 => (some (bt276.1, bt276.2.1, bt276.2.2))) else (none)) else (none))))))) else ((spec_l3Parities.f k bt254.1).bind fun bt281 => ((spec_l3Xor.f bt281.1 bt254.2.1).bind fun t283 => ((spec_l3Xor.f bt281.2 bt254.2.2).bind fun t284 => ((spec_l2Pow.f k 2 a1).bind fun t285 => ((spec_l2Pow.f k 2 a2).bind fun t286 => ((spec_l2Inv.f k (Go.bits .xor .u8 t285 t286)).bind fun t287 => ((spec_l3Times.f k t286 t283).bind fun t288 => ((spec_l3Xor.f t284 t288).bind fun t289 => ((spec_l3Times.f k t287 t289).bind fun t290 => (if 0 ≤ a1 then (if a1 < (bt254.1.length : Int) then ((some (bt254.1.set (a1 : Int).toNat t290 : List ByteArray)).bind fun y291 => ((spec_l3Xor.f (rdOf ByteArray.empty y291 a1) t283).bind fun t293 => (if 0 ≤ a2 then (if a2 < (bt254.1.length : Int) then (some ((y291.set (a2 : Int).toNat t293), bt254.2.1, bt254.2.2)) else (none)) else (none)))) else (none)) else (none))))))))))))))
theorem spec_l3Two.mono : ∀ a0 a1 a2 a3 a4 k, LeO (spec_l3Two.f k a0 a1 a2 a3 a4) (spec_l3Two.f (k + 1) a0 a1 a2 a3 a4) := by
 intro a0 a1 a2 a3 a4 k
 unfold spec_l3Two.f
 repeat' first
   | (with_reducible exact spec_l2Inv.mono _ _)
   | (with_reducible exact spec_l2Pow.mono _ _ _)
   | (with_reducible exact spec_l3One.mono _ _ _ _ _)
   | (with_reducible exact spec_l3Parities.mono _ _)
   | (with_reducible exact spec_l3Times.mono _ _ _)
   | (with_reducible exact LeO.refl _)
   | (with_reducible exact LeO.none _)
   | (with_reducible refine LeO.ite ?_ ?_)
   | (with_reducible refine LeO.bind ?_ (fun _ => ?_))
   | exact spec_l2Inv.mono _ _
   | exact spec_l2Pow.mono _ _ _
   | exact spec_l3One.mono _ _ _ _ _
   | exact spec_l3Parities.mono _ _
   | exact spec_l3Times.mono _ _ _
   | exact LeO.none _
   | refine LeO.ite ?_ ?_
   | refine LeO.bind ?_ (fun _ => ?_)
def spec_l3Two.T7 : Bool × List (List Nat × List Nat) := (true, [([], []), ([0], [0]), ([], []), ([], []), ([3], [3]), ([4, 4], [4]), ([], []), ([], []), ([7], [7]), ([6, 8, 5], [6, 8]), ([5, 9, 9], [5, 9]), ([1, 2, 0, 1, 2, 3, 4, 5, 6, 7, 8, 9, 10], [1, 2]), ([11, 10, 10, 0, 1, 2, 3, 4, 5, 6, 7, 8, 9, 10], [10, 11])])
def spec_l3Two.B7 : List Nat := [0, 1, 0, 0, 8, 24, 0, 0, 128, 504, 1016, 2047, 4095]
theorem spec_l3Two.tab7 : rtab .any (opsOf Try.f61 7) = spec_l3Two.T7 := by kernel_rfl
theorem spec_l3Two.bits7 : waitsOk spec_l3Two.T7.2 spec_l3Two.B7 = true := by kernel_rfl
def spec_l3Two.T14 : Bool × List (List Nat × List Nat) := (true, [([], []), ([0], [0]), ([], []), ([], []), ([], []), ([3, 4], [3, 4]), ([5], [5]), ([], []), ([], []), ([], []), ([8, 9, 6], [8, 9]), ([7, 10, 10], [7, 10]), ([6, 11, 11], [6, 11]), ([1, 2, 0, 1, 2, 3, 4, 5, 6, 7, 8, 9, 10, 11, 12], [1, 2]), ([13, 12, 12, 0, 1, 2, 3, 4, 5, 6, 7, 8, 9, 10, 11, 12], [12, 13])])
def spec_l3Two.B14 : List Nat := [0, 1, 0, 0, 0, 24, 56, 0, 0, 0, 888, 2040, 4088, 8191, 16383]
theorem spec_l3Two.tab14 : rtab .any (opsOf Try.f61 14) = spec_l3Two.T14 := by kernel_rfl
theorem spec_l3Two.bits14 : waitsOk spec_l3Two.T14.2 spec_l3Two.B14 = true := by kernel_rfl
def spec_l3Two.T15 : Bool × List (List Nat × List Nat) := (true, [([], []), ([0], [0]), ([], []), ([], []), ([3], [3]), ([], []), ([4, 5], [4, 5]), ([6], [6]), ([], []), ([7, 8], [7, 8]), ([1, 2, 0, 1, 2, 3, 4, 5, 6, 7, 8, 9], [1, 2]), ([10, 9, 9, 0, 1, 2, 3, 4, 5, 6, 7, 8, 9], [9, 10])])
def spec_l3Two.B15 : List Nat := [0, 1, 0, 0, 8, 0, 56, 120, 0, 504, 1023, 2047]
theorem spec_l3Two.tab15 : rtab .any (opsOf Try.f61 15) = spec_l3Two.T15 := by kernel_rfl
theorem spec_l3Two.bits15 : waitsOk spec_l3Two.T15.2 spec_l3Two.B15 = true := by kernel_rfl
set_option maxHeartbeats 8000000 in
set_option maxRecDepth 100000 in
theorem spec_l3Two.calls (k : Nat) (A0_0 : Option Addr) (c0_0 : Nat) (l0_0 : List ByteArray) (a0_1 : ByteArray) (a0_2 : ByteArray) (a1 : Int) (a2 : Int) (r1 : List ByteArray) (r2 : ByteArray) (r3 : ByteArray) (w : World) (hr0_0 : Kd.C Kd.string w A0_0 l0_0.length l0_0) (hc0_0 : l0_0.length ≤ c0_0) (h : spec_l3Two.f k l0_0 a0_1 a0_2 a1 a2 = some (r1, r2, r3)) :
  Calls Try.prog 61 #[.agg #[.slice A0_0 l0_0.length c0_0, .string a0_1, .string a0_2], .int .i64 a1, .int .i64 a2] w fun e w' => ∃ v0_ : Value, e = .returned (.agg #[v0_, .string r2, .string r3]) ∧ Kd.R Kd.string 9 w' w.heap.size (fun _ => True) v0_ r1 ∧ Below w.heap.size w w' := by
 have hu27 := Try.underlying27; have HR0_0 := aM hr0_0; have HC0_0 := aM hc0_0; clear hr0_0 hc0_0; have HB := aM (Below.refl w.heap.size w)
 have H : ((spec_l3Blank.f l0_0 a0_1 a0_2 a1).bind fun bt249 => ((spec_l3Blank.f bt249.1 bt249.2.1 bt249.2.2 a2).bind fun bt254 => (if a2 = (wrap64 ((l0_0.length : Int) + 1)) then ((spec_l3One.f k bt254.1 bt254.2.1 bt254.2.2 a1).bind fun bt259 => ((spec_l3One.f k bt259.1 bt259.2.1 bt259.2.2 a2).bind fun bt264 => (some (bt264.1, bt264.2.1, bt264.2.2)))) else (if a2 = (l0_0.length : Int) then ((spec_l3Parities.f k bt254.1).bind fun bt269 => ((spec_l2Pow.f k 2 a1).bind fun t271 => ((spec_l2Inv.f k t271).bind fun t272 => ((spec_l3Xor.f bt269.2 bt254.2.2).bind fun t273 => ((spec_l3Times.f k t272 t273).bind fun t274 => (if 0 ≤ a1 then (if a1 < (bt254.1.length : Int) then ((spec_l3One.f k (bt254.1.set (a1 : Int).toNat t274) bt254.2.1 bt254.2.2 a2).bind fun bt276 => (some (bt276.1, bt276.2.1, bt276.2.2))) else (none)) else (none))))))) else ((spec_l3Parities.f k bt254.1).bind fun bt281 => ((spec_l3Xor.f bt281.1 bt254.2.1).bind fun t283 => ((spec_l3Xor.f bt281.2 bt254.2.2).bind fun t284 => ((spec_l2Pow.f k 2 a1).bind fun t285 => ((spec_l2Pow.f k 2 a2).bind fun t286 => ((spec_l2Inv.f k (Go.bits .xor .u8 t285 t286)).bind fun t287 => ((spec_l3Times.f k t286 t283).bind fun t288 => ((spec_l3Xor.f t284 t288).bind fun t289 => ((spec_l3Times.f k t287 t289).bind fun t290 => (if 0 ≤ a1 then (if a1 < (bt254.1.length : Int) then ((some (bt254.1.set (a1 : Int).toNat t290 : List ByteArray)).bind fun y291 => ((spec_l3Xor.f (rdOf ByteArray.empty y291 a1) t283).bind fun t293 => (if 0 ≤ a2 then (if a2 < (bt254.1.length : Int) then (some ((y291.set (a2 : Int).toNat t293), bt254.2.1, bt254.2.2)) else (none)) else (none)))) else (none)) else (none))))))))))))))) = some (r1, r2, r3) := h
 clear h; replace H := Option.bind_eq_some_iff.mp H; obtain ⟨⟨t249, t252, t253⟩, A40, H⟩ := H
 replace H : ((spec_l3Blank.f t249 t252 t253 a2).bind fun bt254 => (if a2 = (wrap64 ((l0_0.length : Int) + 1)) then ((spec_l3One.f k bt254.1 bt254.2.1 bt254.2.2 a1).bind fun bt259 => ((spec_l3One.f k bt259.1 bt259.2.1 bt259.2.2 a2).bind fun bt264 => (some (bt264.1, bt264.2.1, bt264.2.2)))) else (if a2 = (l0_0.length : Int) then ((spec_l3Parities.f k bt254.1).bind fun bt269 => ((spec_l2Pow.f k 2 a1).bind fun t271 => ((spec_l2Inv.f k t271).bind fun t272 => ((spec_l3Xor.f bt269.2 bt254.2.2).bind fun t273 => ((spec_l3Times.f k t272 t273).bind fun t274 => (if 0 ≤ a1 then (if a1 < (bt254.1.length : Int) then ((spec_l3One.f k (bt254.1.set (a1 : Int).toNat t274) bt254.2.1 bt254.2.2 a2).bind fun bt276 => (some (bt276.1, bt276.2.1, bt276.2.2))) else (none)) else (none))))))) else ((spec_l3Parities.f k bt254.1).bind fun bt281 => ((spec_l3Xor.f bt281.1 bt254.2.1).bind fun t283 => ((spec_l3Xor.f bt281.2 bt254.2.2).bind fun t284 => ((spec_l2Pow.f k 2 a1).bind fun t285 => ((spec_l2Pow.f k 2 a2).bind fun t286 => ((spec_l2Inv.f k (Go.bits .xor .u8 t285 t286)).bind fun t287 => ((spec_l3Times.f k t286 t283).bind fun t288 => ((spec_l3Xor.f t284 t288).bind fun t289 => ((spec_l3Times.f k t287 t289).bind fun t290 => (if 0 ≤ a1 then (if a1 < (bt254.1.length : Int) then ((some (bt254.1.set (a1 : Int).toNat t290 : List ByteArray)).bind fun y291 => ((spec_l3Xor.f (rdOf ByteArray.empty y291 a1) t283).bind fun t293 => (if 0 ≤ a2 then (if a2 < (bt254.1.length : Int) then (some ((y291.set (a2 : Int).toNat t293), bt254.2.1, bt254.2.2)) else (none)) else (none)))) else (none)) else (none)))))))))))))) = some (r1, r2, r3) := H
 have A4 := aM A40; clear A40; replace H := Option.bind_eq_some_iff.mp H; obtain ⟨⟨t254, t257, t258⟩, A50, H⟩ := H
 replace H : (if a2 = (wrap64 ((l0_0.length : Int) + 1)) then ((spec_l3One.f k t254 t257 t258 a1).bind fun bt259 => ((spec_l3One.f k bt259.1 bt259.2.1 bt259.2.2 a2).bind fun bt264 => (some (bt264.1, bt264.2.1, bt264.2.2)))) else (if a2 = (l0_0.length : Int) then ((spec_l3Parities.f k t254).bind fun bt269 => ((spec_l2Pow.f k 2 a1).bind fun t271 => ((spec_l2Inv.f k t271).bind fun t272 => ((spec_l3Xor.f bt269.2 t258).bind fun t273 => ((spec_l3Times.f k t272 t273).bind fun t274 => (if 0 ≤ a1 then (if a1 < (t254.length : Int) then ((spec_l3One.f k (t254.set (a1 : Int).toNat t274) t257 t258 a2).bind fun bt276 => (some (bt276.1, bt276.2.1, bt276.2.2))) else (none)) else (none))))))) else ((spec_l3Parities.f k t254).bind fun bt281 => ((spec_l3Xor.f bt281.1 t257).bind fun t283 => ((spec_l3Xor.f bt281.2 t258).bind fun t284 => ((spec_l2Pow.f k 2 a1).bind fun t285 => ((spec_l2Pow.f k 2 a2).bind fun t286 => ((spec_l2Inv.f k (Go.bits .xor .u8 t285 t286)).bind fun t287 => ((spec_l3Times.f k t286 t283).bind fun t288 => ((spec_l3Xor.f t284 t288).bind fun t289 => ((spec_l3Times.f k t287 t289).bind fun t290 => (if 0 ≤ a1 then (if a1 < (t254.length : Int) then ((some (t254.set (a1 : Int).toNat t290 : List ByteArray)).bind fun y291 => ((spec_l3Xor.f (rdOf ByteArray.empty y291 a1) t283).bind fun t293 => (if 0 ≤ a2 then (if a2 < (t254.length : Int) then (some ((y291.set (a2 : Int).toNat t293), t257, t258)) else (none)) else (none)))) else (none)) else (none))))))))))))) = some (r1, r2, r3) := H
 have A5 := aM A50; clear A50
 by_cases c6 : a2 = (wrap64 ((l0_0.length : Int) + 1))
 ·rw [if_pos c6] at H
  have c6b0 : (a2 == (wrap64 ((l0_0.length : Int) + 1))) = true := beq_iff_eq.mpr c6; have c6b1 : (a2 != (wrap64 ((l0_0.length : Int) + 1))) = false := bne_eq_false_iff_eq.mpr c6; clear c6; replace H := Option.bind_eq_some_iff.mp H; obtain ⟨⟨t259, t262, t263⟩, A70, H⟩ := H
  replace H : ((spec_l3One.f k t259 t262 t263 a2).bind fun bt264 => (some (bt264.1, bt264.2.1, bt264.2.2))) = some (r1, r2, r3) := H
  have A7 := aM A70; clear A70; replace H := Option.bind_eq_some_iff.mp H; obtain ⟨⟨t264, t267, t268⟩, A80, H⟩ := H; replace H : (some (t264, t267, t268)) = some (r1, r2, r3) := H; have A8 := aM A80; clear A80
  simp only [Option.some.injEq, Prod.mk.injEq] at H
  obtain ⟨rfl, rfl, rfl⟩ := H
  go_enter Try.func61, Try.ntmps61
  go_wp2_with (first | ((with_reducible refine gate_dst (N := 3) rfl ?_); refine box_event ?hg (N := 3) ?hd (cs := #[.slice A0_0 l0_0.length c0_0, .string a0_1, .string a0_2]) (t := 27) ?hr ?_; (case hd => rfl); (case hg => rfl); (case hr => first | (go_simp; done) | (go_simp; rfl)); intro gb247 hg w9 hbox hb; have BK247 := aM (hbox); have GW247 := aM ((by rw [hg]; exact (zZ (zH HB.out)) : w.heap.size ≤ gb247)); have GE247 := aM ((by rw [hg]; exact (zZ (zH HB.out)) : w.heap.size ≤ gb247)); replace HB := aM (zT (zH HB.out) hb); clear hb hbox hg) | ((with_reducible refine gate_dst (N := 6) rfl ?_); refine box_event ?hg (N := 6) ?hd (cs := #[.slice none 0 0, .string (⟨#[]⟩ : ByteArray), .string (⟨#[]⟩ : ByteArray)]) (t := 27) ?hr ?_; (case hd => rfl); (case hg => rfl); (case hr => first | (go_simp; done) | (go_simp; rfl)); intro gb248 hg w10 hbox hb; have BK248 := aM (hbox); have GW248 := aM ((by rw [hg]; exact (zZ (zH HB.out)) : w.heap.size ≤ gb248)); have GE248 := aM ((by rw [hg]; exact (zZ (zH HB.out)) : w.heap.size ≤ gb248)); replace HB := aM (zT (zH HB.out) hb); have NB247_248 := nL BK247.out hg; have NB248_247 := nR BK247.out hg; replace BK247 := yK BK247.out hb; clear hb hbox hg; have hnb11 := NB247_248.out; have hnc11 := NB248_247.out; have hcz12_0 : w10.cell? ⟨gb247, 0, none⟩ = some (.slice A0_0 l0_0.length c0_0) := yc BK247.out 0; have hcz12_1 : w10.cell? ⟨gb247, 1, none⟩ = some (.string a0_1) := yc BK247.out 1; have hcz12_2 : w10.cell? ⟨gb247, 2, none⟩ = some (.string a0_2) := yc BK247.out 2; have hfz12_0 := yZ BK247.out 0; have hfz12_1 := yZ BK247.out 1; have hfz12_2 := yZ BK247.out 2) | ((with_reducible refine gate_callee (f := 75) rfl ?_); refine goesL_ (some 19) rfl rfl Try.func75 (by kernel_rfl) rfl #[.agg #[.slice A0_0 l0_0.length c0_0, .string a0_1, .string a0_2], .int .i64 a1] rfl mA ?_; (with_reducible refine (spec_l3Blank.calls _ _ l0_0 a0_1 a0_2 a1 t249 t252 t253 _ ?side1 ?side2 A4.out).mono ?_); (case side1 => exact cK HR0_0.out HB.out); (case side2 => exact HC0_0.out); rintro e w13 ⟨v250, rfl, ho0, hb⟩; refine ⟨_, rfl, ?_⟩; have HO251 := aM (xL ho0 (zZ (zH HB.out))); replace BK247 := yK BK247.out hb; replace BK248 := yK BK248.out hb; replace HB := aM (zT (zH HB.out) hb); (try clear hb); (try clear ho0); obtain ⟨Ao14, co14, eo14⟩ := Kd.R_slice HO251.out; subst eo14) | ((with_reducible refine gate_callee (f := 75) rfl ?_); refine goesL_ (some 21) rfl rfl Try.func75 (by kernel_rfl) rfl #[.agg #[.slice Ao14 t249.length co14, .string t252, .string t253], .int .i64 a2] rfl mA ?_; (with_reducible refine (spec_l3Blank.calls _ _ t249 t252 t253 a2 t254 t257 t258 _ ?side1 ?side2 A5.out).mono ?_); (case side1 => exact cS (Kd.R_reads' HO251.out).2.2); (case side2 => exact (Kd.R_reads' HO251.out).2.1); rintro e w15 ⟨v255, rfl, ho0, hb⟩; refine ⟨_, rfl, ?_⟩; have HO256 := aM (xL (Kd.R_new' ho0 (Kd.R_lt (xH HO251.out))) (zZ (zH HB.out))); replace HO251 := aM (Kd.R_elder' (xH HO251.out) (Kd.R_base ho0) hb); replace BK247 := yK BK247.out hb; replace BK248 := yK BK248.out hb; replace HB := aM (zT (zH HB.out) hb); (try clear hb); (try clear ho0); obtain ⟨Ao16, co16, eo16⟩ := Kd.R_slice HO256.out; subst eo16; have hcz17_0 : w15.cell? ⟨gb247, 0, none⟩ = some (.slice A0_0 l0_0.length c0_0) := yc BK247.out 0; have hcz17_1 : w15.cell? ⟨gb247, 1, none⟩ = some (.string a0_1) := yc BK247.out 1; have hcz17_2 : w15.cell? ⟨gb247, 2, none⟩ = some (.string a0_2) := yc BK247.out 2; have hfz17_0 := yZ BK247.out 0; have hfz17_1 := yZ BK247.out 1; have hfz17_2 := yZ BK247.out 2) | ((with_reducible refine gate_callee (f := 59) rfl ?_); refine goesL_ (some 29) rfl rfl Try.func59 (by kernel_rfl) rfl #[.agg #[.slice Ao16 t254.length co16, .string t257, .string t258], .int .i64 a1] rfl mA ?_; (with_reducible refine (spec_l3One.calls k _ _ t254 t257 t258 a1 t259 t262 t263 _ ?side1 ?side2 A7.out).mono ?_); (case side1 => exact rC (n := t254.length) (c := co16) ((x3 HO256.out BK247.out (by decide) (.slice Ao16 t254.length co16) (.string t257) (.string t258)))); (case side2 => exact (Kd.R_reads' HO256.out).2.1); rintro e w18 ⟨v260, rfl, ho0, hb⟩; refine ⟨_, rfl, ?_⟩; have HO261 := aM (xL (Kd.R_new' (Kd.R_new' ho0 (Kd.R_lt (xH ((x3 HO251.out BK247.out (by decide) (.slice Ao16 t254.length co16) (.string t257) (.string t258)))))) (Kd.R_lt (xH ((x3 HO256.out BK247.out (by decide) (.slice Ao16 t254.length co16) (.string t257) (.string t258)))))) (zZ (zH HB.out))); replace HO251 := aM (Kd.R_elder' (xH ((x3 HO251.out BK247.out (by decide) (.slice Ao16 t254.length co16) (.string t257) (.string t258)))) (Kd.R_base ho0) hb); replace HO256 := aM (Kd.R_elder' (xH ((x3 HO256.out BK247.out (by decide) (.slice Ao16 t254.length co16) (.string t257) (.string t258)))) (Kd.R_base ho0) hb); replace BK247 := aM (yB (g := gb247) (o := .cells #[.slice Ao16 t254.length co16, .string t257, .string t258] 27 (0, 0)) (by refine yW ?_; refine yP (cs := #[.slice Ao16 t254.length co16, .string t257, .string a0_2]) ?_ 2 _ rfl; refine yW ?_; refine yP (cs := #[.slice Ao16 t254.length co16, .string a0_1, .string a0_2]) ?_ 1 _ rfl; refine yW ?_; refine yP (cs := #[.slice A0_0 l0_0.length c0_0, .string a0_1, .string a0_2]) ?_ 0 _ rfl; refine yW ?_; exact BK247.out) hb); replace BK248 := aM (yB (g := gb248) (o := .cells #[.slice none 0 0, .string (⟨#[]⟩ : ByteArray), .string (⟨#[]⟩ : ByteArray)] 27 (0, 0)) (by refine yW ?_; refine yF ?_ NB248_247.out _; refine yW ?_; refine yF ?_ NB248_247.out _; refine yW ?_; refine yF ?_ NB248_247.out _; refine yW ?_; exact BK248.out) hb); replace HB := aM (zT (zH HB.out) hb); (try clear hb); (try clear ho0); obtain ⟨Ao19, co19, eo19⟩ := Kd.R_slice HO261.out; subst eo19) | ((with_reducible refine gate_callee (f := 59) rfl ?_); refine goesL_ (some 31) rfl rfl Try.func59 (by kernel_rfl) rfl #[.agg #[.slice Ao19 t259.length co19, .string t262, .string t263], .int .i64 a2] rfl mA ?_; (with_reducible refine (spec_l3One.calls k _ _ t259 t262 t263 a2 t264 t267 t268 _ ?side1 ?side2 A8.out).mono ?_); (case side1 => exact cS (Kd.R_reads' HO261.out).2.2); (case side2 => exact (Kd.R_reads' HO261.out).2.1); rintro e w20 ⟨v265, rfl, ho0, hb⟩; refine ⟨_, rfl, ?_⟩; have HO266 := aM (xL (Kd.R_new' (Kd.R_new' (Kd.R_new' ho0 (Kd.R_lt (xH HO251.out))) (Kd.R_lt (xH HO256.out))) (Kd.R_lt (xH HO261.out))) (zZ (zH HB.out))); replace HO251 := aM (Kd.R_elder' (xH HO251.out) (Kd.R_base ho0) hb); replace HO256 := aM (Kd.R_elder' (xH HO256.out) (Kd.R_base ho0) hb); replace HO261 := aM (Kd.R_elder' (xH HO261.out) (Kd.R_base ho0) hb); replace BK247 := yK BK247.out hb; replace BK248 := yK BK248.out hb; replace HB := aM (zT (zH HB.out) hb); (try clear hb); (try clear ho0); obtain ⟨Ao21, co21, eo21⟩ := Kd.R_slice HO266.out; subst eo21; have hcz22_0 : w20.cell? ⟨gb248, 0, none⟩ = some (.slice none 0 0) := yc BK248.out 0; have hcz22_1 : w20.cell? ⟨gb248, 1, none⟩ = some (.string (⟨#[]⟩ : ByteArray)) := yc BK248.out 1; have hcz22_2 : w20.cell? ⟨gb248, 2, none⟩ = some (.string (⟨#[]⟩ : ByteArray)) := yc BK248.out 2; have hfz22_0 := yZ BK248.out 0; have hfz22_1 := yZ BK248.out 1; have hfz22_2 := yZ BK248.out 2))
  refine bodyPost_ret (results_cell_row rfl _ _ gb248 27 #[.slice Ao21 t264.length co21, .string t267, .string t268] (0, 0) _ rfl (by refine yW ?_; refine yP (cs := #[.slice Ao21 t264.length co21, .string t267, .string (⟨#[]⟩ : ByteArray)]) ?_ 2 _ rfl; refine yW ?_; refine yP (cs := #[.slice Ao21 t264.length co21, .string (⟨#[]⟩ : ByteArray), .string (⟨#[]⟩ : ByteArray)]) ?_ 1 _ rfl; refine yW ?_; refine yP (cs := #[.slice none 0 0, .string (⟨#[]⟩ : ByteArray), .string (⟨#[]⟩ : ByteArray)]) ?_ 0 _ rfl; refine yW ?_; exact BK248.out) Try.underlying27 rfl (by kernel_rfl)) rfl ?_
  exact ⟨_, eW, xH (xM (xF (p := ⟨gb248, 2, none⟩) (xF (p := ⟨gb248, 1, none⟩) (xF (p := ⟨gb248, 0, none⟩) (xT HO266.out BK248.out (by decide)) (fun _ hk => hk.2) (.slice Ao21 t264.length co21)) (fun _ hk => hk.2) (.string t267)) (fun _ hk => hk.2) (.string t268)) (fun _ hk => trivial)), zH HB.out⟩
 ·rw [if_neg c6] at H
  have c6b0 : (a2 == (wrap64 ((l0_0.length : Int) + 1))) = false := beq_eq_false_iff_ne.mpr c6; have c6b1 : (a2 != (wrap64 ((l0_0.length : Int) + 1))) = true := bne_iff_ne.mpr c6
  by_cases c23 : a2 = (l0_0.length : Int)
  ·rw [if_pos c23] at H
   have c23b0 : (a2 == (l0_0.length : Int)) = true := beq_iff_eq.mpr c23; have c23b1 : (a2 != (l0_0.length : Int)) = false := bne_eq_false_iff_eq.mpr c23; clear c23; replace H := Option.bind_eq_some_iff.mp H; obtain ⟨⟨t269, t270⟩, A240, H⟩ := H
   replace H : ((spec_l2Pow.f k 2 a1).bind fun t271 => ((spec_l2Inv.f k t271).bind fun t272 => ((spec_l3Xor.f t270 t258).bind fun t273 => ((spec_l3Times.f k t272 t273).bind fun t274 => (if 0 ≤ a1 then (if a1 < (t254.length : Int) then ((spec_l3One.f k (t254.set (a1 : Int).toNat t274) t257 t258 a2).bind fun bt276 => (some (bt276.1, bt276.2.1, bt276.2.2))) else (none)) else (none)))))) = some (r1, r2, r3) := H
   have A24 := aM A240; clear A240; replace H := Option.bind_eq_some_iff.mp H; obtain ⟨t271, A250, H⟩ := H
   replace H : ((spec_l2Inv.f k t271).bind fun t272 => ((spec_l3Xor.f t270 t258).bind fun t273 => ((spec_l3Times.f k t272 t273).bind fun t274 => (if 0 ≤ a1 then (if a1 < (t254.length : Int) then ((spec_l3One.f k (t254.set (a1 : Int).toNat t274) t257 t258 a2).bind fun bt276 => (some (bt276.1, bt276.2.1, bt276.2.2))) else (none)) else (none))))) = some (r1, r2, r3) := H
   have A25 := aM A250; clear A250; replace H := Option.bind_eq_some_iff.mp H; obtain ⟨t272, A260, H⟩ := H
   replace H : ((spec_l3Xor.f t270 t258).bind fun t273 => ((spec_l3Times.f k t272 t273).bind fun t274 => (if 0 ≤ a1 then (if a1 < (t254.length : Int) then ((spec_l3One.f k (t254.set (a1 : Int).toNat t274) t257 t258 a2).bind fun bt276 => (some (bt276.1, bt276.2.1, bt276.2.2))) else (none)) else (none)))) = some (r1, r2, r3) := H
   have A26 := aM A260; clear A260; replace H := Option.bind_eq_some_iff.mp H; obtain ⟨t273, A270, H⟩ := H
   replace H : ((spec_l3Times.f k t272 t273).bind fun t274 => (if 0 ≤ a1 then (if a1 < (t254.length : Int) then ((spec_l3One.f k (t254.set (a1 : Int).toNat t274) t257 t258 a2).bind fun bt276 => (some (bt276.1, bt276.2.1, bt276.2.2))) else (none)) else (none))) = some (r1, r2, r3) := H
   have A27 := aM A270; clear A270; replace H := Option.bind_eq_some_iff.mp H; obtain ⟨t274, A280, H⟩ := H
   replace H : (if 0 ≤ a1 then (if a1 < (t254.length : Int) then ((spec_l3One.f k (t254.set (a1 : Int).toNat t274) t257 t258 a2).bind fun bt276 => (some (bt276.1, bt276.2.1, bt276.2.2))) else (none)) else (none)) = some (r1, r2, r3) := H
   have A28 := aM A280; clear A280
   by_cases c29 : 0 ≤ a1
   ·rw [if_pos c29] at H
    have c29b0 : decide (0 ≤ a1) = true := decide_eq_true c29; clear c29
    by_cases c30 : a1 < (t254.length : Int)
    ·rw [if_pos c30] at H
     have c30b0 : decide (a1 < (t254.length : Int)) = true := decide_eq_true c30; clear c30; obtain ⟨y275, hy275⟩ : ∃ y_ : List ByteArray, y_ = (t254.set (a1 : Int).toNat t274) := ⟨_, rfl⟩
     replace H : ((spec_l3One.f k y275 t257 t258 a2).bind fun bt276 => (some (bt276.1, bt276.2.1, bt276.2.2))) = some (r1, r2, r3) := by first | (rw [hy275]; with_reducible exact H) | (have H2_ := (Option.bind_some _ _).symm.trans H; rw [hy275]; with_reducible exact H2_) | (have H2_ := (Option.bind_some _ _).symm.trans H; with_reducible exact H2_) | with_reducible exact H | (rw [hy275]; exact H) | exact H
     have Ny275 := aM hy275; clear hy275; replace H := Option.bind_eq_some_iff.mp H; obtain ⟨⟨t276, t279, t280⟩, A320, H⟩ := H; replace H : (some (t276, t279, t280)) = some (r1, r2, r3) := H; have A32 := aM A320; clear A320
     simp only [Option.some.injEq, Prod.mk.injEq] at H
     obtain ⟨rfl, rfl, rfl⟩ := H
     go_enter Try.func61, Try.ntmps61
     try go_wp2_with (first | ((with_reducible refine gate_dst (N := 3) rfl ?_); refine box_event ?hg (N := 3) ?hd (cs := #[.slice A0_0 l0_0.length c0_0, .string a0_1, .string a0_2]) (t := 27) ?hr ?_; (case hd => rfl); (case hg => rfl); (case hr => first | (go_simp; done) | (go_simp; rfl)); intro gb247 hg w33 hbox hb; have BK247 := aM (hbox); have GW247 := aM ((by rw [hg]; exact (zZ (zH HB.out)) : w.heap.size ≤ gb247)); have GE247 := aM ((by rw [hg]; exact (zZ (zH HB.out)) : w.heap.size ≤ gb247)); replace HB := aM (zT (zH HB.out) hb); clear hb hbox hg) | ((with_reducible refine gate_dst (N := 6) rfl ?_); refine box_event ?hg (N := 6) ?hd (cs := #[.slice none 0 0, .string (⟨#[]⟩ : ByteArray), .string (⟨#[]⟩ : ByteArray)]) (t := 27) ?hr ?_; (case hd => rfl); (case hg => rfl); (case hr => first | (go_simp; done) | (go_simp; rfl)); intro gb248 hg w34 hbox hb; have BK248 := aM (hbox); have GW248 := aM ((by rw [hg]; exact (zZ (zH HB.out)) : w.heap.size ≤ gb248)); have GE248 := aM ((by rw [hg]; exact (zZ (zH HB.out)) : w.heap.size ≤ gb248)); replace HB := aM (zT (zH HB.out) hb); have NB247_248 := nL BK247.out hg; have NB248_247 := nR BK247.out hg; replace BK247 := yK BK247.out hb; clear hb hbox hg; have hnb35 := NB247_248.out; have hnc35 := NB248_247.out; have hcz36_0 : w34.cell? ⟨gb247, 0, none⟩ = some (.slice A0_0 l0_0.length c0_0) := yc BK247.out 0; have hcz36_1 : w34.cell? ⟨gb247, 1, none⟩ = some (.string a0_1) := yc BK247.out 1; have hcz36_2 : w34.cell? ⟨gb247, 2, none⟩ = some (.string a0_2) := yc BK247.out 2; have hfz36_0 := yZ BK247.out 0; have hfz36_1 := yZ BK247.out 1; have hfz36_2 := yZ BK247.out 2) | ((with_reducible refine gate_callee (f := 75) rfl ?_); refine goesL_ (some 19) rfl rfl Try.func75 (by kernel_rfl) rfl #[.agg #[.slice A0_0 l0_0.length c0_0, .string a0_1, .string a0_2], .int .i64 a1] rfl mA ?_; (with_reducible refine (spec_l3Blank.calls _ _ l0_0 a0_1 a0_2 a1 t249 t252 t253 _ ?side1 ?side2 A4.out).mono ?_); (case side1 => exact cK HR0_0.out HB.out); (case side2 => exact HC0_0.out); rintro e w37 ⟨v250, rfl, ho0, hb⟩; refine ⟨_, rfl, ?_⟩; have HO251 := aM (xL ho0 (zZ (zH HB.out))); replace BK247 := yK BK247.out hb; replace BK248 := yK BK248.out hb; replace HB := aM (zT (zH HB.out) hb); (try clear hb); (try clear ho0); obtain ⟨Ao38, co38, eo38⟩ := Kd.R_slice HO251.out; subst eo38) | ((with_reducible refine gate_callee (f := 75) rfl ?_); refine goesL_ (some 21) rfl rfl Try.func75 (by kernel_rfl) rfl #[.agg #[.slice Ao38 t249.length co38, .string t252, .string t253], .int .i64 a2] rfl mA ?_; (with_reducible refine (spec_l3Blank.calls _ _ t249 t252 t253 a2 t254 t257 t258 _ ?side1 ?side2 A5.out).mono ?_); (case side1 => exact cS (Kd.R_reads' HO251.out).2.2); (case side2 => exact (Kd.R_reads' HO251.out).2.1); rintro e w39 ⟨v255, rfl, ho0, hb⟩; refine ⟨_, rfl, ?_⟩; have HO256 := aM (xL (Kd.R_new' ho0 (Kd.R_lt (xH HO251.out))) (zZ (zH HB.out))); replace HO251 := aM (Kd.R_elder' (xH HO251.out) (Kd.R_base ho0) hb); replace BK247 := yK BK247.out hb; replace BK248 := yK BK248.out hb; replace HB := aM (zT (zH HB.out) hb); (try clear hb); (try clear ho0); obtain ⟨Ao40, co40, eo40⟩ := Kd.R_slice HO256.out; subst eo40; have hcz41_0 : w39.cell? ⟨gb247, 0, none⟩ = some (.slice A0_0 l0_0.length c0_0) := yc BK247.out 0; have hcz41_1 : w39.cell? ⟨gb247, 1, none⟩ = some (.string a0_1) := yc BK247.out 1; have hcz41_2 : w39.cell? ⟨gb247, 2, none⟩ = some (.string a0_2) := yc BK247.out 2; have hfz41_0 := yZ BK247.out 0; have hfz41_1 := yZ BK247.out 1; have hfz41_2 := yZ BK247.out 2) | ((with_reducible refine gate_callee (f := 45) rfl ?_); refine goesL_ (some 39) rfl rfl Try.func45 (by kernel_rfl) rfl #[.slice Ao40 t254.length co40] rfl mA ?_; (with_reducible refine (spec_l3Parities.calls k _ _ t254 t269 t270 _ ?side1 ?side2 A24.out).mono ?_); (case side1 => exact rC (n := t254.length) (c := co40) ((x3 HO256.out BK247.out (by decide) (.slice Ao40 t254.length co40) (.string t257) (.string t258)))); (case side2 => exact (Kd.R_reads' HO256.out).2.1); rintro e w42 ⟨rfl, hb⟩; refine ⟨_, rfl, ?_⟩; replace HO251 := aM (xB (xH ((x3 HO251.out BK247.out (by decide) (.slice Ao40 t254.length co40) (.string t257) (.string t258)))) hb); replace HO256 := aM (xB (xH ((x3 HO256.out BK247.out (by decide) (.slice Ao40 t254.length co40) (.string t257) (.string t258)))) hb); replace BK247 := aM (yB (g := gb247) (o := .cells #[.slice Ao40 t254.length co40, .string t257, .string t258] 27 (0, 0)) (by refine yW ?_; refine yP (cs := #[.slice Ao40 t254.length co40, .string t257, .string a0_2]) ?_ 2 _ rfl; refine yW ?_; refine yP (cs := #[.slice Ao40 t254.length co40, .string a0_1, .string a0_2]) ?_ 1 _ rfl; refine yW ?_; refine yP (cs := #[.slice A0_0 l0_0.length c0_0, .string a0_1, .string a0_2]) ?_ 0 _ rfl; refine yW ?_; exact BK247.out) hb); replace BK248 := aM (yB (g := gb248) (o := .cells #[.slice none 0 0, .string (⟨#[]⟩ : ByteArray), .string (⟨#[]⟩ : ByteArray)] 27 (0, 0)) (by refine yW ?_; refine yF ?_ NB248_247.out _; refine yW ?_; refine yF ?_ NB248_247.out _; refine yW ?_; refine yF ?_ NB248_247.out _; refine yW ?_; exact BK248.out) hb); replace HB := aM (zT (zH HB.out) hb); (try clear hb)))
     replace HO251 := aM (xD HO251.out); replace HO256 := aM (xD HO256.out); replace BK247 := aM (yD BK247.out); replace BK248 := aM (yD BK248.out); replace HB := aM (zD HB.out)
     refine start_ (n := 13) (S := fun w' => w'.cell? ⟨gb247, 0, none⟩ = some (.slice Ao40 t254.length co40) ∧ w'.cell? ⟨gb247, 1, none⟩ = some (.string t257) ∧ w'.cell? ⟨gb247, 2, none⟩ = some (.string t258)) (ds := [12]) #[fF,fF,fF,fF,fF,fF,fF,fF,fF,fF,fF,fF,fF] (by kernel_rfl) rfl rfl ⟨yc BK247.out 0, yc BK247.out 1, yc BK247.out 2⟩ (fun hHeld => ?_); refine with_tabW spec_l3Two.tab7 spec_l3Two.bits7 (fun HT_ HW_ => ?_)
     generalize w42.drew = w43 at HO251 HO256 BK247 BK248 HB hHeld ⊢
     refine pure_ (i := 0) (N := some 42) (v := ?_) (a' := ?_) #[tT,fF,fF,fF,fF,fF,fF,fF,fF,fF,fF,fF,fF] rfl rfl (any_of HT_.out (by kernel_rfl)) (fun _ _ _ h => h) (Or.inl ⟨by rfl, ?_⟩) ?_ ?_
     rotate_left
     ·intro w'
      go_simp
      with_reducible rfl
     rotate_left
     ·simp only [Act.put, qA, qB, qC, i64_w, i32_w]
      rfl
     refine pure_ (i := 2) (N := some 44) (v := ?_) (a' := ?_) #[tT,fF,tT,fF,fF,fF,fF,fF,fF,fF,fF,fF,fF] rfl rfl (any_of HT_.out (by kernel_rfl)) (fun _ _ _ h => h) (Or.inl ⟨by rfl, ?_⟩) ?_ ?_
     rotate_left
     ·intro w'
      go_simp
      with_reducible rfl
     rotate_left
     ·simp only [Act.put, qA, qB, qC, i64_w, i32_w]
      rfl
     refine pure_ (i := 3) (N := some 45) (v := ?_) (a' := ?_) #[tT,fF,tT,tT,fF,fF,fF,fF,fF,fF,fF,fF,fF] rfl rfl (any_of HT_.out (by kernel_rfl)) (fun _ _ _ h => h) (Or.inl ⟨by rfl, ?_⟩) ?_ ?_
     rotate_left
     ·intro w'
      go_simp
      with_reducible rfl
     rotate_left
     ·simp only [Act.put, qA, qB, qC, i64_w, i32_w]
      rfl
     refine pure_ (i := 6) (N := some 48) (v := ?_) (a' := ?_) #[tT,fF,tT,tT,fF,fF,tT,fF,fF,fF,fF,fF,fF] rfl rfl (any_of HT_.out (by kernel_rfl)) (fun _ _ _ h => h) (Or.inl ⟨by rfl, ?_⟩) ?_ ?_
     rotate_left
     ·intro w'
      go_simp
      with_reducible rfl
     rotate_left
     ·simp only [Act.put, qA, qB, qC, i64_w, i32_w]
      rfl
     refine pure_ (i := 7) (N := some 49) (v := ?_) (a' := ?_) #[tT,fF,tT,tT,fF,fF,tT,tT,fF,fF,fF,fF,fF] rfl rfl (any_of HT_.out (by kernel_rfl)) (fun _ _ _ h => h) (Or.inl ⟨by rfl, ?_⟩) ?_ ?_
     rotate_left
     ·intro w'
      go_simp
      with_reducible rfl
     rotate_left
     ·simp only [Act.put, qA, qB, qC, i64_w, i32_w]
      rfl
     refine take_ (i := 1) (N := some 43) (v := ?_) (a' := ?_) #[tT,tT,tT,tT,fF,fF,tT,tT,fF,fF,fF,fF,fF] rfl rfl (take_ofW HT_.out HW_.out (by kernel_rfl)) (fun _ _ _ h => h) (Or.inl ⟨by rfl, ?_⟩) hHeld ?_ ?_
     rotate_left
     ·rintro w' ⟨s0, s1, s2⟩
      go_simp
      with_reducible rfl
     rotate_left
     ·simp only [Act.put, qA, qB, qC, i64_w, i32_w]
      rfl
     refine take_ (i := 8) (N := some 50) (v := ?_) (a' := ?_) #[tT,tT,tT,tT,fF,fF,tT,tT,tT,fF,fF,fF,fF] rfl rfl (take_ofW HT_.out HW_.out (by kernel_rfl)) (fun _ _ _ h => h) (Or.inl ⟨by rfl, ?_⟩) hHeld ?_ ?_
     rotate_left
     ·rintro w' ⟨s0, s1, s2⟩
      go_simp
      with_reducible rfl
     rotate_left
     ·simp only [Act.put, qA, qB, qC, i64_w, i32_w]
      rfl
     refine one_ (i := 4) (N := some 46) #[tT,tT,tT,tT,tT,fF,tT,tT,tT,fF,fF,fF,fF] rfl rfl (one_of HT_.out (by kernel_rfl)) (by decide) (fun K hK => ?_)
     refine gS Try.func54 (by kernel_rfl) rfl #[.int .u8 2, .int .i64 a1] (by rfl) rfl rfl ?_
     with_reducible refine (spec_l2Pow.calls k 2 a1 t271 _ A25.out).mono ?_
     rintro e w' ⟨rfl, ⟨nd, rfl⟩⟩
     refine ⟨_, rfl, ?_⟩
     refine hK.out _ _ ⟨yc BK247.out 0, yc BK247.out 1, yc BK247.out 2⟩ (fun hHeld => ?_)
     clear hK K; refine norm_ (a' := ?_) ?_ ?_; rotate_left
     ·show Act.put _ (some 46) _ = _
      simp only [Act.put, qA, qB, qC, i64_w, i32_w]
      rfl
     refine one_ (i := 5) (N := some 47) #[tT,tT,tT,tT,tT,tT,tT,tT,tT,fF,fF,fF,fF] rfl rfl (one_of HT_.out (by kernel_rfl)) (by decide) (fun K hK => ?_)
     refine gS Try.func76 (by kernel_rfl) rfl #[.int .u8 t271] (by rfl) rfl rfl ?_
     with_reducible refine (spec_l2Inv.calls k t271 t272 _ A26.out).mono ?_
     rintro e w' ⟨rfl, ⟨nd, rfl⟩⟩
     refine ⟨_, rfl, ?_⟩
     refine hK.out _ _ ⟨yc BK247.out 0, yc BK247.out 1, yc BK247.out 2⟩ (fun hHeld => ?_)
     clear hK K; refine norm_ (a' := ?_) ?_ ?_; rotate_left
     ·show Act.put _ (some 47) _ = _
      simp only [Act.put, qA, qB, qC, i64_w, i32_w]
      rfl
     refine one_ (i := 9) (N := some 51) #[tT,tT,tT,tT,tT,tT,tT,tT,tT,tT,fF,fF,fF] rfl rfl (one_of HT_.out (by kernel_rfl)) (by decide) (fun K hK => ?_)
     refine gS Try.func52 (by kernel_rfl) rfl #[.string t270, .string t258] (by rfl) rfl rfl ?_
     with_reducible refine (spec_l3Xor.calls t270 t258 t273 _ A27.out).mono ?_
     rintro e w44 ⟨rfl, hb⟩
     refine ⟨_, rfl, ?_⟩
     replace HO251 := xK HO251.out hb; replace HO256 := xK HO256.out hb; replace BK247 := yK BK247.out hb; replace BK248 := yK BK248.out hb; replace HB := aM (zT (zH HB.out) hb)
     (try clear hb)
     refine hK.out _ _ ⟨yc BK247.out 0, yc BK247.out 1, yc BK247.out 2⟩ (fun hHeld => ?_)
     clear hK K; refine norm_ (a' := ?_) ?_ ?_; rotate_left
     ·show Act.put _ (some 51) _ = _
      simp only [Act.put, qA, qB, qC, i64_w, i32_w]
      rfl
     refine one_ (i := 10) (N := some 52) #[tT,tT,tT,tT,tT,tT,tT,tT,tT,tT,tT,fF,fF] rfl rfl (one_of HT_.out (by kernel_rfl)) (by decide) (fun K hK => ?_)
     refine gS Try.func53 (by kernel_rfl) rfl #[.int .u8 t272, .string t273] (by rfl) rfl rfl ?_
     with_reducible refine (spec_l3Times.calls k t272 t273 t274 _ A28.out).mono ?_
     rintro e w45 ⟨rfl, hb⟩
     refine ⟨_, rfl, ?_⟩
     replace HO251 := xK HO251.out hb; replace HO256 := xK HO256.out hb; replace BK247 := yK BK247.out hb; replace BK248 := yK BK248.out hb; replace HB := aM (zT (zH HB.out) hb)
     (try clear hb)
     have p31 : 0 ≤ (a1 : Int) := of_decide_eq_true (by first | (with_reducible assumption) | assumption)
     have q31 : (a1 : Int) < ((t254.length : Int) : Int) := of_decide_eq_true (by first | (with_reducible assumption) | assumption)
     obtain ⟨go31, co31, eo31, gb31, gl31, cl31, HG31⟩ := Kd.R_form HO256.out (by omega)
     (first | cases eo31 | (injection eo31 with ea_ en_ ec_; (first | subst ea_ | (injection ea_ with ea_; subst ea_)); subst ec_; clear en_))
     have GB31 := aM gb31; have GG31 := aM HG31; clear gb31 gl31 HG31; obtain ⟨hx31_0, hf31_0⟩ := Kd.R_celln (⟨#[]⟩ : ByteArray) HO256.out (a1 : Int) p31 q31; replace p31 := eq_true p31; replace q31 := eq_true q31; have HP46 := Kd.R_putn HO256.out (a1 : Int) t274
     rw [← Ny275.out] at HP46
     have HQ46 := aM HP46; clear HP46
     refine hK.out _ _ ⟨yc BK247.out 0, yc BK247.out 1, yc BK247.out 2⟩ (fun hHeld => ?_)
     clear hK K; refine norm_ (a' := ?_) ?_ ?_; rotate_left
     ·show Act.put _ (some 52) _ = _
      simp only [Act.put, qA, qB, qC, i64_w, i32_w]
      rfl
     refine pure_ (i := 11) (N := some 53) (v := ?_) (a' := ?_) #[tT,tT,tT,tT,tT,tT,tT,tT,tT,tT,tT,tT,fF] rfl rfl (any_of HT_.out (by kernel_rfl)) (fun _ _ _ h => h) (Or.inl ⟨by rfl, ?_⟩) ?_ ?_
     rotate_left
     ·intro w'
      go_simp
      with_reducible rfl
     rotate_left
     ·simp only [Act.put, qA, qB, qC, i64_w, i32_w]
      rfl
     refine last_ (i := 12) (N := none) #[tT,tT,tT,tT,tT,tT,tT,tT,tT,tT,tT,tT,tT] rfl rfl (one_of HT_.out (by kernel_rfl)) (by decide) (fun K hK => ?_)
     refine skip_ (w1 := ?_) (by rfl) rfl ?_ ?_
     rotate_left
     ·go_simp
      rfl
     refine hK.out _ _ ?_
     clear hK K
     refine done_ (done_of HT_.out (by kernel_rfl)) ?_
     have n0_ : Aside0 (Kd.R Kd.string 9 (w45.setCell ⟨go31, (a1 : Int).toNat, none⟩ (.string t274)) w.heap.size (fun k_ => some k_ ≠ (.slice (some ⟨go31, 0, none⟩) t254.length co40 : Value).ownBlock) (.slice Ao38 t249.length co38) t249) := ⟨by (with_reducible repeat (first | apply xA | apply xN | apply xD)); first | exact xM (xF (p := ⟨go31, (a1 : Int).toNat, none⟩) (xM HO251.out (fun k_ hk => (⟨hk, fun e_ => hk.2 (by rw [e_]; rfl)⟩ : _ ∧ k_ ≠ go31))) (fun _ hk => hk.2) (.string t274)) (fun _ hk => hk.1.2) | exact xM (xF (p := ⟨go31, (a1 : Int).toNat, none⟩) (xM HO251.out (fun k_ hk => (⟨hk, fun e_ => hk (by rw [e_]; rfl)⟩ : _ ∧ k_ ≠ go31))) (fun _ hk => hk.2) (.string t274)) (fun _ hk => hk.1)⟩
     have n1_ : Aside0 (Kd.R Kd.string 9 (w45.setCell ⟨go31, (a1 : Int).toNat, none⟩ (.string t274)) w.heap.size (fun k_ => some k_ ≠ oB Ao38 t249.length co38) (.slice (some ⟨go31, 0, none⟩) t254.length co40) y275) := ⟨by (with_reducible repeat (first | apply xA | apply xN | apply xD)); first | exact xM HQ46.out (fun _ hk => hk.2) | exact HQ46.out⟩
     have n2_ : Aside0 ((w45.setCell ⟨go31, (a1 : Int).toNat, none⟩ (.string t274)).heap[gb247]? = some (.cells #[.slice (some ⟨go31, 0, none⟩) t254.length co40, .string t257, .string t258] 27 (0, 0))) := ⟨by refine yW ?_; refine yF ?_ (by have h_ := Kd.R_ne HO256.out BK247.out (by decide); intro e_; exact h_ (by rw [e_]; rfl)) _; refine yW ?_; exact BK247.out⟩
     have n3_ : Aside0 ((w45.setCell ⟨go31, (a1 : Int).toNat, none⟩ (.string t274)).heap[gb248]? = some (.cells #[.slice none 0 0, .string (⟨#[]⟩ : ByteArray), .string (⟨#[]⟩ : ByteArray)] 27 (0, 0))) := ⟨by refine yW ?_; refine yF ?_ (by have h_ := Kd.R_ne HO256.out BK248.out (by decide); intro e_; exact h_ (by rw [e_]; rfl)) _; refine yW ?_; exact BK248.out⟩
     have n4_ : Aside0 (Below w.heap.size w (w45.setCell ⟨go31, (a1 : Int).toNat, none⟩ (.string t274))) := ⟨by repeat (first | (with_reducible first | exact HB.out | apply zA | apply zN | apply zD | refine zS ?_ GB31.out | refine zS ?_ GE247.out | refine zS ?_ GE248.out) | exact HB.out)⟩
     (try clear HO251); (try clear HO256); (try clear BK247); (try clear BK248); (try clear HB)
     generalize (w45.setCell ⟨go31, (a1 : Int).toNat, none⟩ (.string t274)) = w47 at n0_ n1_ n2_ n3_ n4_ ⊢
     have HO251 := n0_; have HO256 := n1_; have BK247 := n2_; have BK248 := n3_; have HB := n4_; clear n0_ n1_ n2_ n3_ n4_; have hcz48_0 : w47.cell? ⟨gb247, 0, none⟩ = some (.slice (some ⟨go31, 0, none⟩) t254.length co40) := yc BK247.out 0; have hcz48_1 : w47.cell? ⟨gb247, 1, none⟩ = some (.string t257) := yc BK247.out 1; have hcz48_2 : w47.cell? ⟨gb247, 2, none⟩ = some (.string t258) := yc BK247.out 2; have hfz48_0 := yZ BK247.out 0; have hfz48_1 := yZ BK247.out 1; have hfz48_2 := yZ BK247.out 2
     try go_wp2_with (first | ((with_reducible refine gate_callee (f := 59) rfl ?_); refine goesL_ (some 56) rfl rfl Try.func59 (by kernel_rfl) rfl #[.agg #[.slice (some ⟨go31, 0, none⟩) y275.length co40, .string t257, .string t258], .int .i64 a2] rfl (by (try simp only [List.map_toArray, List.map_cons, List.map_nil]); first | done | (rw [show y275.length = t254.length from (Kd.R_reads' HO256.out).1.symm] <;> rfl) | rfl | (simp only [List.length_drop, List.length_take]; rfl)) ?_; (with_reducible refine (spec_l3One.calls k _ _ y275 t257 t258 a2 t276 t279 t280 _ ?side1 ?side2 A32.out).mono ?_); (case side1 => exact cS (Kd.R_reads' HO256.out).2.2); (case side2 => rw [show y275.length = t254.length from (Kd.R_reads' HO256.out).1.symm]; exact (Kd.R_reads' HO256.out).2.1); rintro e w49 ⟨v277, rfl, ho0, hb⟩; refine ⟨_, rfl, ?_⟩; have HO278 := aM (xL (Kd.R_new' (Kd.R_new' ho0 (Kd.R_lt (xH HO251.out))) (Kd.R_lt (xH HO256.out))) (zZ (zH HB.out))); replace HO251 := aM (Kd.R_elder' (xH HO251.out) (Kd.R_base ho0) hb); replace HO256 := aM (Kd.R_elder' (xH HO256.out) (Kd.R_base ho0) hb); replace BK247 := yK BK247.out hb; replace BK248 := yK BK248.out hb; replace HB := aM (zT (zH HB.out) hb); (try clear hb); (try clear ho0); obtain ⟨Ao50, co50, eo50⟩ := Kd.R_slice HO278.out; subst eo50; have hcz51_0 : w49.cell? ⟨gb248, 0, none⟩ = some (.slice none 0 0) := yc BK248.out 0; have hcz51_1 : w49.cell? ⟨gb248, 1, none⟩ = some (.string (⟨#[]⟩ : ByteArray)) := yc BK248.out 1; have hcz51_2 : w49.cell? ⟨gb248, 2, none⟩ = some (.string (⟨#[]⟩ : ByteArray)) := yc BK248.out 2; have hfz51_0 := yZ BK248.out 0; have hfz51_1 := yZ BK248.out 1; have hfz51_2 := yZ BK248.out 2))
     refine bodyPost_ret (results_cell_row rfl _ _ gb248 27 #[.slice Ao50 t276.length co50, .string t279, .string t280] (0, 0) _ rfl (by refine yW ?_; refine yP (cs := #[.slice Ao50 t276.length co50, .string t279, .string (⟨#[]⟩ : ByteArray)]) ?_ 2 _ rfl; refine yW ?_; refine yP (cs := #[.slice Ao50 t276.length co50, .string (⟨#[]⟩ : ByteArray), .string (⟨#[]⟩ : ByteArray)]) ?_ 1 _ rfl; refine yW ?_; refine yP (cs := #[.slice none 0 0, .string (⟨#[]⟩ : ByteArray), .string (⟨#[]⟩ : ByteArray)]) ?_ 0 _ rfl; refine yW ?_; exact BK248.out) Try.underlying27 rfl (by kernel_rfl)) rfl ?_
     exact ⟨_, eW, xH (xM (xF (p := ⟨gb248, 2, none⟩) (xF (p := ⟨gb248, 1, none⟩) (xF (p := ⟨gb248, 0, none⟩) (xT HO278.out BK248.out (by decide)) (fun _ hk => hk.2) (.slice Ao50 t276.length co50)) (fun _ hk => hk.2) (.string t279)) (fun _ hk => hk.2) (.string t280)) (fun _ hk => trivial)), zH HB.out⟩
    ·rw [if_neg c30] at H
     exact absurd H (by simp)
   ·rw [if_neg c29] at H
    exact absurd H (by simp)
  ·rw [if_neg c23] at H
   have c23b0 : (a2 == (l0_0.length : Int)) = false := beq_eq_false_iff_ne.mpr c23; have c23b1 : (a2 != (l0_0.length : Int)) = true := bne_iff_ne.mpr c23; replace H := Option.bind_eq_some_iff.mp H; obtain ⟨⟨t281, t282⟩, A520, H⟩ := H
   replace H : ((spec_l3Xor.f t281 t257).bind fun t283 => ((spec_l3Xor.f t282 t258).bind fun t284 => ((spec_l2Pow.f k 2 a1).bind fun t285 => ((spec_l2Pow.f k 2 a2).bind fun t286 => ((spec_l2Inv.f k (Go.bits .xor .u8 t285 t286)).bind fun t287 => ((spec_l3Times.f k t286 t283).bind fun t288 => ((spec_l3Xor.f t284 t288).bind fun t289 => ((spec_l3Times.f k t287 t289).bind fun t290 => (if 0 ≤ a1 then (if a1 < (t254.length : Int) then ((some (t254.set (a1 : Int).toNat t290 : List ByteArray)).bind fun y291 => ((spec_l3Xor.f (rdOf ByteArray.empty y291 a1) t283).bind fun t293 => (if 0 ≤ a2 then (if a2 < (t254.length : Int) then (some ((y291.set (a2 : Int).toNat t293), t257, t258)) else (none)) else (none)))) else (none)) else (none)))))))))) = some (r1, r2, r3) := H
   have A52 := aM A520; clear A520; replace H := Option.bind_eq_some_iff.mp H; obtain ⟨t283, A530, H⟩ := H
   replace H : ((spec_l3Xor.f t282 t258).bind fun t284 => ((spec_l2Pow.f k 2 a1).bind fun t285 => ((spec_l2Pow.f k 2 a2).bind fun t286 => ((spec_l2Inv.f k (Go.bits .xor .u8 t285 t286)).bind fun t287 => ((spec_l3Times.f k t286 t283).bind fun t288 => ((spec_l3Xor.f t284 t288).bind fun t289 => ((spec_l3Times.f k t287 t289).bind fun t290 => (if 0 ≤ a1 then (if a1 < (t254.length : Int) then ((some (t254.set (a1 : Int).toNat t290 : List ByteArray)).bind fun y291 => ((spec_l3Xor.f (rdOf ByteArray.empty y291 a1) t283).bind fun t293 => (if 0 ≤ a2 then (if a2 < (t254.length : Int) then (some ((y291.set (a2 : Int).toNat t293), t257, t258)) else (none)) else (none)))) else (none)) else (none))))))))) = some (r1, r2, r3) := H
   have A53 := aM A530; clear A530; replace H := Option.bind_eq_some_iff.mp H; obtain ⟨t284, A540, H⟩ := H
   replace H : ((spec_l2Pow.f k 2 a1).bind fun t285 => ((spec_l2Pow.f k 2 a2).bind fun t286 => ((spec_l2Inv.f k (Go.bits .xor .u8 t285 t286)).bind fun t287 => ((spec_l3Times.f k t286 t283).bind fun t288 => ((spec_l3Xor.f t284 t288).bind fun t289 => ((spec_l3Times.f k t287 t289).bind fun t290 => (if 0 ≤ a1 then (if a1 < (t254.length : Int) then ((some (t254.set (a1 : Int).toNat t290 : List ByteArray)).bind fun y291 => ((spec_l3Xor.f (rdOf ByteArray.empty y291 a1) t283).bind fun t293 => (if 0 ≤ a2 then (if a2 < (t254.length : Int) then (some ((y291.set (a2 : Int).toNat t293), t257, t258)) else (none)) else (none)))) else (none)) else (none)))))))) = some (r1, r2, r3) := H
   have A54 := aM A540; clear A540; replace H := Option.bind_eq_some_iff.mp H; obtain ⟨t285, A550, H⟩ := H
   replace H : ((spec_l2Pow.f k 2 a2).bind fun t286 => ((spec_l2Inv.f k (Go.bits .xor .u8 t285 t286)).bind fun t287 => ((spec_l3Times.f k t286 t283).bind fun t288 => ((spec_l3Xor.f t284 t288).bind fun t289 => ((spec_l3Times.f k t287 t289).bind fun t290 => (if 0 ≤ a1 then (if a1 < (t254.length : Int) then ((some (t254.set (a1 : Int).toNat t290 : List ByteArray)).bind fun y291 => ((spec_l3Xor.f (rdOf ByteArray.empty y291 a1) t283).bind fun t293 => (if 0 ≤ a2 then (if a2 < (t254.length : Int) then (some ((y291.set (a2 : Int).toNat t293), t257, t258)) else (none)) else (none)))) else (none)) else (none))))))) = some (r1, r2, r3) := H
   have A55 := aM A550; clear A550; replace H := Option.bind_eq_some_iff.mp H; obtain ⟨t286, A560, H⟩ := H
   replace H : ((spec_l2Inv.f k (Go.bits .xor .u8 t285 t286)).bind fun t287 => ((spec_l3Times.f k t286 t283).bind fun t288 => ((spec_l3Xor.f t284 t288).bind fun t289 => ((spec_l3Times.f k t287 t289).bind fun t290 => (if 0 ≤ a1 then (if a1 < (t254.length : Int) then ((some (t254.set (a1 : Int).toNat t290 : List ByteArray)).bind fun y291 => ((spec_l3Xor.f (rdOf ByteArray.empty y291 a1) t283).bind fun t293 => (if 0 ≤ a2 then (if a2 < (t254.length : Int) then (some ((y291.set (a2 : Int).toNat t293), t257, t258)) else (none)) else (none)))) else (none)) else (none)))))) = some (r1, r2, r3) := H
   have A56 := aM A560; clear A560; replace H := Option.bind_eq_some_iff.mp H; obtain ⟨t287, A570, H⟩ := H
   replace H : ((spec_l3Times.f k t286 t283).bind fun t288 => ((spec_l3Xor.f t284 t288).bind fun t289 => ((spec_l3Times.f k t287 t289).bind fun t290 => (if 0 ≤ a1 then (if a1 < (t254.length : Int) then ((some (t254.set (a1 : Int).toNat t290 : List ByteArray)).bind fun y291 => ((spec_l3Xor.f (rdOf ByteArray.empty y291 a1) t283).bind fun t293 => (if 0 ≤ a2 then (if a2 < (t254.length : Int) then (some ((y291.set (a2 : Int).toNat t293), t257, t258)) else (none)) else (none)))) else (none)) else (none))))) = some (r1, r2, r3) := H
   have A57 := aM A570; clear A570; replace H := Option.bind_eq_some_iff.mp H; obtain ⟨t288, A580, H⟩ := H
   replace H : ((spec_l3Xor.f t284 t288).bind fun t289 => ((spec_l3Times.f k t287 t289).bind fun t290 => (if 0 ≤ a1 then (if a1 < (t254.length : Int) then ((some (t254.set (a1 : Int).toNat t290 : List ByteArray)).bind fun y291 => ((spec_l3Xor.f (rdOf ByteArray.empty y291 a1) t283).bind fun t293 => (if 0 ≤ a2 then (if a2 < (t254.length : Int) then (some ((y291.set (a2 : Int).toNat t293), t257, t258)) else (none)) else (none)))) else (none)) else (none)))) = some (r1, r2, r3) := H
   have A58 := aM A580; clear A580; replace H := Option.bind_eq_some_iff.mp H; obtain ⟨t289, A590, H⟩ := H
   replace H : ((spec_l3Times.f k t287 t289).bind fun t290 => (if 0 ≤ a1 then (if a1 < (t254.length : Int) then ((some (t254.set (a1 : Int).toNat t290 : List ByteArray)).bind fun y291 => ((spec_l3Xor.f (rdOf ByteArray.empty y291 a1) t283).bind fun t293 => (if 0 ≤ a2 then (if a2 < (t254.length : Int) then (some ((y291.set (a2 : Int).toNat t293), t257, t258)) else (none)) else (none)))) else (none)) else (none))) = some (r1, r2, r3) := H
   have A59 := aM A590; clear A590; replace H := Option.bind_eq_some_iff.mp H; obtain ⟨t290, A600, H⟩ := H
   replace H : (if 0 ≤ a1 then (if a1 < (t254.length : Int) then ((some (t254.set (a1 : Int).toNat t290 : List ByteArray)).bind fun y291 => ((spec_l3Xor.f (rdOf ByteArray.empty y291 a1) t283).bind fun t293 => (if 0 ≤ a2 then (if a2 < (t254.length : Int) then (some ((y291.set (a2 : Int).toNat t293), t257, t258)) else (none)) else (none)))) else (none)) else (none)) = some (r1, r2, r3) := H
   have A60 := aM A600; clear A600
   by_cases c61 : 0 ≤ a1
   ·rw [if_pos c61] at H
    have c61b0 : decide (0 ≤ a1) = true := decide_eq_true c61; clear c61
    by_cases c62 : a1 < (t254.length : Int)
    ·rw [if_pos c62] at H
     have c62b0 : decide (a1 < (t254.length : Int)) = true := decide_eq_true c62; clear c62; obtain ⟨y291, hy291⟩ : ∃ y_ : List ByteArray, y_ = (t254.set (a1 : Int).toNat t290) := ⟨_, rfl⟩
     replace H : ((spec_l3Xor.f (rdOf ByteArray.empty y291 a1) t283).bind fun t293 => (if 0 ≤ a2 then (if a2 < (t254.length : Int) then (some ((y291.set (a2 : Int).toNat t293), t257, t258)) else (none)) else (none))) = some (r1, r2, r3) := by first | (rw [hy291]; with_reducible exact H) | (have H2_ := (Option.bind_some _ _).symm.trans H; rw [hy291]; with_reducible exact H2_) | (have H2_ := (Option.bind_some _ _).symm.trans H; with_reducible exact H2_) | with_reducible exact H | (rw [hy291]; exact H) | exact H
     have Ny291 := aM hy291; clear hy291; replace H := Option.bind_eq_some_iff.mp H; obtain ⟨t293, A640, H⟩ := H; replace H : (if 0 ≤ a2 then (if a2 < (t254.length : Int) then (some ((y291.set (a2 : Int).toNat t293), t257, t258)) else (none)) else (none)) = some (r1, r2, r3) := H; have A64 := aM A640; clear A640
     by_cases c65 : 0 ≤ a2
     ·rw [if_pos c65] at H
      have c65b0 : decide (0 ≤ a2) = true := decide_eq_true c65; clear c65
      by_cases c66 : a2 < (t254.length : Int)
      ·rw [if_pos c66] at H
       have c66b0 : decide (a2 < (t254.length : Int)) = true := decide_eq_true c66; clear c66; obtain ⟨y294, hy294⟩ : ∃ y_ : List ByteArray, y_ = (y291.set (a2 : Int).toNat t293) := ⟨_, rfl⟩
       replace H : (some (y294, t257, t258)) = some (r1, r2, r3) := by first | (rw [hy294]; with_reducible exact H) | (have H2_ := (Option.bind_some _ _).symm.trans H; rw [hy294]; with_reducible exact H2_) | (have H2_ := (Option.bind_some _ _).symm.trans H; with_reducible exact H2_) | with_reducible exact H | (rw [hy294]; exact H) | exact H
       have Ny294 := aM hy294; clear hy294
       simp only [Option.some.injEq, Prod.mk.injEq] at H
       obtain ⟨rfl, rfl, rfl⟩ := H
       go_enter Try.func61, Try.ntmps61
       try go_wp2_with (first | ((with_reducible refine gate_dst (N := 3) rfl ?_); refine box_event ?hg (N := 3) ?hd (cs := #[.slice A0_0 l0_0.length c0_0, .string a0_1, .string a0_2]) (t := 27) ?hr ?_; (case hd => rfl); (case hg => rfl); (case hr => first | (go_simp; done) | (go_simp; rfl)); intro gb247 hg w68 hbox hb; have BK247 := aM (hbox); have GW247 := aM ((by rw [hg]; exact (zZ (zH HB.out)) : w.heap.size ≤ gb247)); have GE247 := aM ((by rw [hg]; exact (zZ (zH HB.out)) : w.heap.size ≤ gb247)); replace HB := aM (zT (zH HB.out) hb); clear hb hbox hg) | ((with_reducible refine gate_dst (N := 6) rfl ?_); refine box_event ?hg (N := 6) ?hd (cs := #[.slice none 0 0, .string (⟨#[]⟩ : ByteArray), .string (⟨#[]⟩ : ByteArray)]) (t := 27) ?hr ?_; (case hd => rfl); (case hg => rfl); (case hr => first | (go_simp; done) | (go_simp; rfl)); intro gb248 hg w69 hbox hb; have BK248 := aM (hbox); have GW248 := aM ((by rw [hg]; exact (zZ (zH HB.out)) : w.heap.size ≤ gb248)); have GE248 := aM ((by rw [hg]; exact (zZ (zH HB.out)) : w.heap.size ≤ gb248)); replace HB := aM (zT (zH HB.out) hb); have NB247_248 := nL BK247.out hg; have NB248_247 := nR BK247.out hg; replace BK247 := yK BK247.out hb; clear hb hbox hg; have hnb70 := NB247_248.out; have hnc70 := NB248_247.out; have hcz71_0 : w69.cell? ⟨gb247, 0, none⟩ = some (.slice A0_0 l0_0.length c0_0) := yc BK247.out 0; have hcz71_1 : w69.cell? ⟨gb247, 1, none⟩ = some (.string a0_1) := yc BK247.out 1; have hcz71_2 : w69.cell? ⟨gb247, 2, none⟩ = some (.string a0_2) := yc BK247.out 2; have hfz71_0 := yZ BK247.out 0; have hfz71_1 := yZ BK247.out 1; have hfz71_2 := yZ BK247.out 2) | ((with_reducible refine gate_callee (f := 75) rfl ?_); refine goesL_ (some 19) rfl rfl Try.func75 (by kernel_rfl) rfl #[.agg #[.slice A0_0 l0_0.length c0_0, .string a0_1, .string a0_2], .int .i64 a1] rfl mA ?_; (with_reducible refine (spec_l3Blank.calls _ _ l0_0 a0_1 a0_2 a1 t249 t252 t253 _ ?side1 ?side2 A4.out).mono ?_); (case side1 => exact cK HR0_0.out HB.out); (case side2 => exact HC0_0.out); rintro e w72 ⟨v250, rfl, ho0, hb⟩; refine ⟨_, rfl, ?_⟩; have HO251 := aM (xL ho0 (zZ (zH HB.out))); replace BK247 := yK BK247.out hb; replace BK248 := yK BK248.out hb; replace HB := aM (zT (zH HB.out) hb); (try clear hb); (try clear ho0); obtain ⟨Ao73, co73, eo73⟩ := Kd.R_slice HO251.out; subst eo73) | ((with_reducible refine gate_callee (f := 75) rfl ?_); refine goesL_ (some 21) rfl rfl Try.func75 (by kernel_rfl) rfl #[.agg #[.slice Ao73 t249.length co73, .string t252, .string t253], .int .i64 a2] rfl mA ?_; (with_reducible refine (spec_l3Blank.calls _ _ t249 t252 t253 a2 t254 t257 t258 _ ?side1 ?side2 A5.out).mono ?_); (case side1 => exact cS (Kd.R_reads' HO251.out).2.2); (case side2 => exact (Kd.R_reads' HO251.out).2.1); rintro e w74 ⟨v255, rfl, ho0, hb⟩; refine ⟨_, rfl, ?_⟩; have HO256 := aM (xL (Kd.R_new' ho0 (Kd.R_lt (xH HO251.out))) (zZ (zH HB.out))); replace HO251 := aM (Kd.R_elder' (xH HO251.out) (Kd.R_base ho0) hb); replace BK247 := yK BK247.out hb; replace BK248 := yK BK248.out hb; replace HB := aM (zT (zH HB.out) hb); (try clear hb); (try clear ho0); obtain ⟨Ao75, co75, eo75⟩ := Kd.R_slice HO256.out; subst eo75; have hcz76_0 : w74.cell? ⟨gb247, 0, none⟩ = some (.slice A0_0 l0_0.length c0_0) := yc BK247.out 0; have hcz76_1 : w74.cell? ⟨gb247, 1, none⟩ = some (.string a0_1) := yc BK247.out 1; have hcz76_2 : w74.cell? ⟨gb247, 2, none⟩ = some (.string a0_2) := yc BK247.out 2; have hfz76_0 := yZ BK247.out 0; have hfz76_1 := yZ BK247.out 1; have hfz76_2 := yZ BK247.out 2) | ((with_reducible refine gate_callee (f := 45) rfl ?_); refine goesL_ (some 60) rfl rfl Try.func45 (by kernel_rfl) rfl #[.slice Ao75 t254.length co75] rfl mA ?_; (with_reducible refine (spec_l3Parities.calls k _ _ t254 t281 t282 _ ?side1 ?side2 A52.out).mono ?_); (case side1 => exact rC (n := t254.length) (c := co75) ((x3 HO256.out BK247.out (by decide) (.slice Ao75 t254.length co75) (.string t257) (.string t258)))); (case side2 => exact (Kd.R_reads' HO256.out).2.1); rintro e w77 ⟨rfl, hb⟩; refine ⟨_, rfl, ?_⟩; replace HO251 := aM (xB (xH ((x3 HO251.out BK247.out (by decide) (.slice Ao75 t254.length co75) (.string t257) (.string t258)))) hb); replace HO256 := aM (xB (xH ((x3 HO256.out BK247.out (by decide) (.slice Ao75 t254.length co75) (.string t257) (.string t258)))) hb); replace BK247 := aM (yB (g := gb247) (o := .cells #[.slice Ao75 t254.length co75, .string t257, .string t258] 27 (0, 0)) (by refine yW ?_; refine yP (cs := #[.slice Ao75 t254.length co75, .string t257, .string a0_2]) ?_ 2 _ rfl; refine yW ?_; refine yP (cs := #[.slice Ao75 t254.length co75, .string a0_1, .string a0_2]) ?_ 1 _ rfl; refine yW ?_; refine yP (cs := #[.slice A0_0 l0_0.length c0_0, .string a0_1, .string a0_2]) ?_ 0 _ rfl; refine yW ?_; exact BK247.out) hb); replace BK248 := aM (yB (g := gb248) (o := .cells #[.slice none 0 0, .string (⟨#[]⟩ : ByteArray), .string (⟨#[]⟩ : ByteArray)] 27 (0, 0)) (by refine yW ?_; refine yF ?_ NB248_247.out _; refine yW ?_; refine yF ?_ NB248_247.out _; refine yW ?_; refine yF ?_ NB248_247.out _; refine yW ?_; exact BK248.out) hb); replace HB := aM (zT (zH HB.out) hb); (try clear hb); have hcz78_0 : w77.cell? ⟨gb247, 0, none⟩ = some (.slice Ao75 t254.length co75) := yc BK247.out 0; have hcz78_1 : w77.cell? ⟨gb247, 1, none⟩ = some (.string t257) := yc BK247.out 1; have hcz78_2 : w77.cell? ⟨gb247, 2, none⟩ = some (.string t258) := yc BK247.out 2; have hfz78_0 := yZ BK247.out 0; have hfz78_1 := yZ BK247.out 1; have hfz78_2 := yZ BK247.out 2) | ((with_reducible refine gate_callee (f := 52) rfl ?_); refine goesL_ (some 66) rfl rfl Try.func52 (by kernel_rfl) rfl #[.string t281, .string t257] rfl mA ?_; (with_reducible refine (spec_l3Xor.calls t281 t257 t283 _ A53.out).mono ?_); rintro e w79 ⟨rfl, hb⟩; refine ⟨_, rfl, ?_⟩; replace HO251 := xK HO251.out hb; replace HO256 := xK HO256.out hb; replace BK247 := yK BK247.out hb; replace BK248 := yK BK248.out hb; replace HB := aM (zT (zH HB.out) hb); (try clear hb); have hcz80_0 : w79.cell? ⟨gb247, 0, none⟩ = some (.slice Ao75 t254.length co75) := yc BK247.out 0; have hcz80_1 : w79.cell? ⟨gb247, 1, none⟩ = some (.string t257) := yc BK247.out 1; have hcz80_2 : w79.cell? ⟨gb247, 2, none⟩ = some (.string t258) := yc BK247.out 2; have hfz80_0 := yZ BK247.out 0; have hfz80_1 := yZ BK247.out 1; have hfz80_2 := yZ BK247.out 2) | ((with_reducible refine gate_callee (f := 52) rfl ?_); refine goesL_ (some 70) rfl rfl Try.func52 (by kernel_rfl) rfl #[.string t282, .string t258] rfl mA ?_; (with_reducible refine (spec_l3Xor.calls t282 t258 t284 _ A54.out).mono ?_); rintro e w81 ⟨rfl, hb⟩; refine ⟨_, rfl, ?_⟩; replace HO251 := xK HO251.out hb; replace HO256 := xK HO256.out hb; replace BK247 := yK BK247.out hb; replace BK248 := yK BK248.out hb; replace HB := aM (zT (zH HB.out) hb); (try clear hb)) | ((with_reducible refine gate_callee (f := 54) rfl ?_); refine goesL_ (some 72) rfl rfl Try.func54 (by kernel_rfl) rfl #[.int .u8 2, .int .i64 a1] rfl mA ?_; (with_reducible refine (spec_l2Pow.calls k 2 a1 t285 _ A55.out).mono ?_); rintro e w' ⟨rfl, ⟨nd, rfl⟩⟩; refine ⟨_, rfl, ?_⟩; (try (rw [drewN_self w81]; generalize hq_ : World.drewN w81 _ = w81; have n0_ : Aside0 (Kd.R Kd.string 9 w81 w.heap.size (fun k_ => some k_ ≠ oB Ao75 t254.length co75) (.slice Ao73 t249.length co73) t249) := ⟨by rw [← hq_]; exact (by (with_reducible repeat (first | apply xA | apply xN | apply xD)); first | exact xM HO251.out (fun _ hk => hk.2) | exact HO251.out)⟩; have n1_ : Aside0 (Kd.R Kd.string 9 w81 w.heap.size (fun k_ => some k_ ≠ oB Ao73 t249.length co73) (.slice Ao75 t254.length co75) t254) := ⟨by rw [← hq_]; exact (by (with_reducible repeat (first | apply xA | apply xN | apply xD)); first | exact xM HO256.out (fun _ hk => hk.2) | exact HO256.out)⟩; have n2_ : Aside0 (w81.heap[gb247]? = some (.cells #[.slice Ao75 t254.length co75, .string t257, .string t258] 27 (0, 0))) := ⟨by rw [← hq_]; exact (yH BK247.out)⟩; have n3_ : Aside0 (w81.heap[gb248]? = some (.cells #[.slice none 0 0, .string (⟨#[]⟩ : ByteArray), .string (⟨#[]⟩ : ByteArray)] 27 (0, 0))) := ⟨by rw [← hq_]; exact (yH BK248.out)⟩; have n4_ : Aside0 (Below w.heap.size w w81) := ⟨by rw [← hq_]; exact (zH HB.out)⟩; clear HO251 HO256 BK247 BK248 HB hq_; have HO251 := n0_; have HO256 := n1_; have BK247 := n2_; have BK248 := n3_; have HB := n4_; clear n0_ n1_ n2_ n3_ n4_))) | ((with_reducible refine gate_callee (f := 54) rfl ?_); refine goesL_ (some 74) rfl rfl Try.func54 (by kernel_rfl) rfl #[.int .u8 2, .int .i64 a2] rfl mA ?_; (with_reducible refine (spec_l2Pow.calls k 2 a2 t286 _ A56.out).mono ?_); rintro e w' ⟨rfl, ⟨nd, rfl⟩⟩; refine ⟨_, rfl, ?_⟩; (try (rw [drewN_self w81]; generalize hq_ : World.drewN w81 _ = w81; have n0_ : Aside0 (Kd.R Kd.string 9 w81 w.heap.size (fun k_ => some k_ ≠ oB Ao75 t254.length co75) (.slice Ao73 t249.length co73) t249) := ⟨by rw [← hq_]; exact (by (with_reducible repeat (first | apply xA | apply xN | apply xD)); first | exact xM HO251.out (fun _ hk => hk.2) | exact HO251.out)⟩; have n1_ : Aside0 (Kd.R Kd.string 9 w81 w.heap.size (fun k_ => some k_ ≠ oB Ao73 t249.length co73) (.slice Ao75 t254.length co75) t254) := ⟨by rw [← hq_]; exact (by (with_reducible repeat (first | apply xA | apply xN | apply xD)); first | exact xM HO256.out (fun _ hk => hk.2) | exact HO256.out)⟩; have n2_ : Aside0 (w81.heap[gb247]? = some (.cells #[.slice Ao75 t254.length co75, .string t257, .string t258] 27 (0, 0))) := ⟨by rw [← hq_]; exact (yH BK247.out)⟩; have n3_ : Aside0 (w81.heap[gb248]? = some (.cells #[.slice none 0 0, .string (⟨#[]⟩ : ByteArray), .string (⟨#[]⟩ : ByteArray)] 27 (0, 0))) := ⟨by rw [← hq_]; exact (yH BK248.out)⟩; have n4_ : Aside0 (Below w.heap.size w w81) := ⟨by rw [← hq_]; exact (zH HB.out)⟩; clear HO251 HO256 BK247 BK248 HB hq_; have HO251 := n0_; have HO256 := n1_; have BK247 := n2_; have BK248 := n3_; have HB := n4_; clear n0_ n1_ n2_ n3_ n4_))))
       replace HO251 := aM (xD HO251.out); replace HO256 := aM (xD HO256.out); replace BK247 := aM (yD BK247.out); replace BK248 := aM (yD BK248.out); replace HB := aM (zD HB.out)
       refine start_ (n := 15) (S := fun w' => w'.cell? ⟨gb247, 0, none⟩ = some (.slice Ao75 t254.length co75) ∧ w'.cell? ⟨gb247, 1, none⟩ = some (.string t257) ∧ w'.cell? ⟨gb247, 2, none⟩ = some (.string t258)) (ds := [14]) #[fF,fF,fF,fF,fF,fF,fF,fF,fF,fF,fF,fF,fF,fF,fF] (by kernel_rfl) rfl rfl ⟨yc BK247.out 0, yc BK247.out 1, yc BK247.out 2⟩ (fun hHeld => ?_); refine with_tabW spec_l3Two.tab14 spec_l3Two.bits14 (fun HT_ HW_ => ?_)
       generalize w81.drew = w82 at HO251 HO256 BK247 BK248 HB hHeld ⊢
       refine pure_ (i := 0) (N := some 75) (v := ?_) (a' := ?_) #[tT,fF,fF,fF,fF,fF,fF,fF,fF,fF,fF,fF,fF,fF,fF] rfl rfl (any_of HT_.out (by kernel_rfl)) (fun _ _ _ h => h) (Or.inl ⟨by rfl, ?_⟩) ?_ ?_
       rotate_left
       ·intro w'
        go_simp
        with_reducible rfl
       rotate_left
       ·simp only [Act.put, qA, qB, qC, i64_w, i32_w]
        rfl
       refine pure_ (i := 2) (N := some 77) (v := ?_) (a' := ?_) #[tT,fF,tT,fF,fF,fF,fF,fF,fF,fF,fF,fF,fF,fF,fF] rfl rfl (any_of HT_.out (by kernel_rfl)) (fun _ _ _ h => h) (Or.inl ⟨by rfl, ?_⟩) ?_ ?_
       rotate_left
       ·intro w'
        go_simp
        with_reducible rfl
       rotate_left
       ·simp only [Act.put, qA, qB, qC, i64_w, i32_w]
        rfl
       refine pure_ (i := 3) (N := some 78) (v := ?_) (a' := ?_) #[tT,fF,tT,tT,fF,fF,fF,fF,fF,fF,fF,fF,fF,fF,fF] rfl rfl (any_of HT_.out (by kernel_rfl)) (fun _ _ _ h => h) (Or.inl ⟨by rfl, ?_⟩) ?_ ?_
       rotate_left
       ·intro w'
        go_simp
        with_reducible rfl
       rotate_left
       ·simp only [Act.put, qA, qB, qC, i64_w, i32_w]
        rfl
       refine pure_ (i := 4) (N := some 79) (v := ?_) (a' := ?_) #[tT,fF,tT,tT,tT,fF,fF,fF,fF,fF,fF,fF,fF,fF,fF] rfl rfl (any_of HT_.out (by kernel_rfl)) (fun _ _ _ h => h) (Or.inl ⟨by rfl, ?_⟩) ?_ ?_
       rotate_left
       ·intro w'
        go_simp
        with_reducible rfl
       rotate_left
       ·simp only [Act.put, qA, qB, qC, i64_w, i32_w]
        rfl
       refine pure_ (i := 5) (N := some 80) (v := ?_) (a' := ?_) #[tT,fF,tT,tT,tT,tT,fF,fF,fF,fF,fF,fF,fF,fF,fF] rfl rfl (any_of HT_.out (by kernel_rfl)) (fun _ _ _ h => h) (Or.inl ⟨by rfl, ?_⟩) ?_ ?_
       rotate_left
       ·intro w'
        go_simp
        with_reducible rfl
       rotate_left
       ·simp only [Act.put, qA, qB, qC, i64_w, i32_w]
        rfl
       refine pure_ (i := 7) (N := some 82) (v := ?_) (a' := ?_) #[tT,fF,tT,tT,tT,tT,fF,tT,fF,fF,fF,fF,fF,fF,fF] rfl rfl (any_of HT_.out (by kernel_rfl)) (fun _ _ _ h => h) (Or.inl ⟨by rfl, ?_⟩) ?_ ?_
       rotate_left
       ·intro w'
        go_simp
        with_reducible rfl
       rotate_left
       ·simp only [Act.put, qA, qB, qC, i64_w, i32_w]
        rfl
       refine pure_ (i := 8) (N := some 83) (v := ?_) (a' := ?_) #[tT,fF,tT,tT,tT,tT,fF,tT,tT,fF,fF,fF,fF,fF,fF] rfl rfl (any_of HT_.out (by kernel_rfl)) (fun _ _ _ h => h) (Or.inl ⟨by rfl, ?_⟩) ?_ ?_
       rotate_left
       ·intro w'
        go_simp
        with_reducible rfl
       rotate_left
       ·simp only [Act.put, qA, qB, qC, i64_w, i32_w]
        rfl
       refine pure_ (i := 9) (N := some 84) (v := ?_) (a' := ?_) #[tT,fF,tT,tT,tT,tT,fF,tT,tT,tT,fF,fF,fF,fF,fF] rfl rfl (any_of HT_.out (by kernel_rfl)) (fun _ _ _ h => h) (Or.inl ⟨by rfl, ?_⟩) ?_ ?_
       rotate_left
       ·intro w'
        go_simp
        with_reducible rfl
       rotate_left
       ·simp only [Act.put, qA, qB, qC, i64_w, i32_w]
        rfl
       refine take_ (i := 1) (N := some 76) (v := ?_) (a' := ?_) #[tT,tT,tT,tT,tT,tT,fF,tT,tT,tT,fF,fF,fF,fF,fF] rfl rfl (take_ofW HT_.out HW_.out (by kernel_rfl)) (fun _ _ _ h => h) (Or.inl ⟨by rfl, ?_⟩) hHeld ?_ ?_
       rotate_left
       ·rintro w' ⟨s0, s1, s2⟩
        go_simp
        with_reducible rfl
       rotate_left
       ·simp only [Act.put, qA, qB, qC, i64_w, i32_w]
        rfl
       refine one_ (i := 6) (N := some 81) #[tT,tT,tT,tT,tT,tT,tT,tT,tT,tT,fF,fF,fF,fF,fF] rfl rfl (one_of HT_.out (by kernel_rfl)) (by decide) (fun K hK => ?_)
       refine gS Try.func76 (by kernel_rfl) rfl #[.int .u8 (Go.bits .xor .u8 t285 t286)] (by rfl) rfl rfl ?_
       with_reducible refine (spec_l2Inv.calls k (Go.bits .xor .u8 t285 t286) t287 _ A57.out).mono ?_
       rintro e w' ⟨rfl, ⟨nd, rfl⟩⟩
       refine ⟨_, rfl, ?_⟩
       refine hK.out _ _ ⟨yc BK247.out 0, yc BK247.out 1, yc BK247.out 2⟩ (fun hHeld => ?_)
       clear hK K; refine norm_ (a' := ?_) ?_ ?_; rotate_left
       ·show Act.put _ (some 81) _ = _
        simp only [Act.put, qA, qB, qC, i64_w, i32_w]
        rfl
       refine one_ (i := 10) (N := some 85) #[tT,tT,tT,tT,tT,tT,tT,tT,tT,tT,tT,fF,fF,fF,fF] rfl rfl (one_of HT_.out (by kernel_rfl)) (by decide) (fun K hK => ?_)
       refine gS Try.func53 (by kernel_rfl) rfl #[.int .u8 t286, .string t283] (by rfl) rfl rfl ?_
       with_reducible refine (spec_l3Times.calls k t286 t283 t288 _ A58.out).mono ?_
       rintro e w83 ⟨rfl, hb⟩
       refine ⟨_, rfl, ?_⟩
       replace HO251 := xK HO251.out hb; replace HO256 := xK HO256.out hb; replace BK247 := yK BK247.out hb; replace BK248 := yK BK248.out hb; replace HB := aM (zT (zH HB.out) hb)
       (try clear hb)
       refine hK.out _ _ ⟨yc BK247.out 0, yc BK247.out 1, yc BK247.out 2⟩ (fun hHeld => ?_)
       clear hK K; refine norm_ (a' := ?_) ?_ ?_; rotate_left
       ·show Act.put _ (some 85) _ = _
        simp only [Act.put, qA, qB, qC, i64_w, i32_w]
        rfl
       refine one_ (i := 11) (N := some 86) #[tT,tT,tT,tT,tT,tT,tT,tT,tT,tT,tT,tT,fF,fF,fF] rfl rfl (one_of HT_.out (by kernel_rfl)) (by decide) (fun K hK => ?_)
       refine gS Try.func52 (by kernel_rfl) rfl #[.string t284, .string t288] (by rfl) rfl rfl ?_
       with_reducible refine (spec_l3Xor.calls t284 t288 t289 _ A59.out).mono ?_
       rintro e w84 ⟨rfl, hb⟩
       refine ⟨_, rfl, ?_⟩
       replace HO251 := xK HO251.out hb; replace HO256 := xK HO256.out hb; replace BK247 := yK BK247.out hb; replace BK248 := yK BK248.out hb; replace HB := aM (zT (zH HB.out) hb)
       (try clear hb)
       refine hK.out _ _ ⟨yc BK247.out 0, yc BK247.out 1, yc BK247.out 2⟩ (fun hHeld => ?_)
       clear hK K; refine norm_ (a' := ?_) ?_ ?_; rotate_left
       ·show Act.put _ (some 86) _ = _
        simp only [Act.put, qA, qB, qC, i64_w, i32_w]
        rfl
       refine one_ (i := 12) (N := some 87) #[tT,tT,tT,tT,tT,tT,tT,tT,tT,tT,tT,tT,tT,fF,fF] rfl rfl (one_of HT_.out (by kernel_rfl)) (by decide) (fun K hK => ?_)
       refine gS Try.func53 (by kernel_rfl) rfl #[.int .u8 t287, .string t289] (by rfl) rfl rfl ?_
       with_reducible refine (spec_l3Times.calls k t287 t289 t290 _ A60.out).mono ?_
       rintro e w85 ⟨rfl, hb⟩
       refine ⟨_, rfl, ?_⟩
       replace HO251 := xK HO251.out hb; replace HO256 := xK HO256.out hb; replace BK247 := yK BK247.out hb; replace BK248 := yK BK248.out hb; replace HB := aM (zT (zH HB.out) hb)
       (try clear hb)
       have p63 : 0 ≤ (a1 : Int) := of_decide_eq_true (by first | (with_reducible assumption) | assumption)
       have q63 : (a1 : Int) < ((t254.length : Int) : Int) := of_decide_eq_true (by first | (with_reducible assumption) | assumption)
       obtain ⟨go63, co63, eo63, gb63, gl63, cl63, HG63⟩ := Kd.R_form HO256.out (by omega)
       (first | cases eo63 | (injection eo63 with ea_ en_ ec_; (first | subst ea_ | (injection ea_ with ea_; subst ea_)); subst ec_; clear en_))
       have GB63 := aM gb63; have GG63 := aM HG63; clear gb63 gl63 HG63; obtain ⟨hx63_0, hf63_0⟩ := Kd.R_celln (⟨#[]⟩ : ByteArray) HO256.out (a1 : Int) p63 q63; replace p63 := eq_true p63; replace q63 := eq_true q63; have HP86 := Kd.R_putn HO256.out (a1 : Int) t290
       rw [← Ny291.out] at HP86
       have HQ86 := aM HP86; clear HP86
       refine hK.out _ _ ⟨yc BK247.out 0, yc BK247.out 1, yc BK247.out 2⟩ (fun hHeld => ?_)
       clear hK K; refine norm_ (a' := ?_) ?_ ?_; rotate_left
       ·show Act.put _ (some 87) _ = _
        simp only [Act.put, qA, qB, qC, i64_w, i32_w]
        rfl
       refine pure_ (i := 13) (N := some 88) (v := ?_) (a' := ?_) #[tT,tT,tT,tT,tT,tT,tT,tT,tT,tT,tT,tT,tT,tT,fF] rfl rfl (any_of HT_.out (by kernel_rfl)) (fun _ _ _ h => h) (Or.inl ⟨by rfl, ?_⟩) ?_ ?_
       rotate_left
       ·intro w'
        go_simp
        with_reducible rfl
       rotate_left
       ·simp only [Act.put, qA, qB, qC, i64_w, i32_w]
        rfl
       refine last_ (i := 14) (N := none) #[tT,tT,tT,tT,tT,tT,tT,tT,tT,tT,tT,tT,tT,tT,tT] rfl rfl (one_of HT_.out (by kernel_rfl)) (by decide) (fun K hK => ?_)
       refine skip_ (w1 := ?_) (by rfl) rfl ?_ ?_
       rotate_left
       ·go_simp
        rfl
       refine hK.out _ _ ?_
       clear hK K
       refine done_ (done_of HT_.out (by kernel_rfl)) ?_
       have n0_ : Aside0 (Kd.R Kd.string 9 (w85.setCell ⟨go63, (a1 : Int).toNat, none⟩ (.string t290)) w.heap.size (fun k_ => some k_ ≠ (.slice (some ⟨go63, 0, none⟩) t254.length co75 : Value).ownBlock) (.slice Ao73 t249.length co73) t249) := ⟨by (with_reducible repeat (first | apply xA | apply xN | apply xD)); first | exact xM (xF (p := ⟨go63, (a1 : Int).toNat, none⟩) (xM HO251.out (fun k_ hk => (⟨hk, fun e_ => hk.2 (by rw [e_]; rfl)⟩ : _ ∧ k_ ≠ go63))) (fun _ hk => hk.2) (.string t290)) (fun _ hk => hk.1.2) | exact xM (xF (p := ⟨go63, (a1 : Int).toNat, none⟩) (xM HO251.out (fun k_ hk => (⟨hk, fun e_ => hk (by rw [e_]; rfl)⟩ : _ ∧ k_ ≠ go63))) (fun _ hk => hk.2) (.string t290)) (fun _ hk => hk.1)⟩
       have n1_ : Aside0 (Kd.R Kd.string 9 (w85.setCell ⟨go63, (a1 : Int).toNat, none⟩ (.string t290)) w.heap.size (fun k_ => some k_ ≠ oB Ao73 t249.length co73) (.slice (some ⟨go63, 0, none⟩) t254.length co75) y291) := ⟨by (with_reducible repeat (first | apply xA | apply xN | apply xD)); first | exact xM HQ86.out (fun _ hk => hk.2) | exact HQ86.out⟩
       have n2_ : Aside0 ((w85.setCell ⟨go63, (a1 : Int).toNat, none⟩ (.string t290)).heap[gb247]? = some (.cells #[.slice (some ⟨go63, 0, none⟩) t254.length co75, .string t257, .string t258] 27 (0, 0))) := ⟨by refine yW ?_; refine yF ?_ (by have h_ := Kd.R_ne HO256.out BK247.out (by decide); intro e_; exact h_ (by rw [e_]; rfl)) _; refine yW ?_; exact BK247.out⟩
       have n3_ : Aside0 ((w85.setCell ⟨go63, (a1 : Int).toNat, none⟩ (.string t290)).heap[gb248]? = some (.cells #[.slice none 0 0, .string (⟨#[]⟩ : ByteArray), .string (⟨#[]⟩ : ByteArray)] 27 (0, 0))) := ⟨by refine yW ?_; refine yF ?_ (by have h_ := Kd.R_ne HO256.out BK248.out (by decide); intro e_; exact h_ (by rw [e_]; rfl)) _; refine yW ?_; exact BK248.out⟩
       have n4_ : Aside0 (Below w.heap.size w (w85.setCell ⟨go63, (a1 : Int).toNat, none⟩ (.string t290))) := ⟨by repeat (first | (with_reducible first | exact HB.out | apply zA | apply zN | apply zD | refine zS ?_ GB63.out | refine zS ?_ GE247.out | refine zS ?_ GE248.out) | exact HB.out)⟩
       (try clear HO251); (try clear HO256); (try clear BK247); (try clear BK248); (try clear HB)
       generalize (w85.setCell ⟨go63, (a1 : Int).toNat, none⟩ (.string t290)) = w87 at n0_ n1_ n2_ n3_ n4_ ⊢
       have HO251 := n0_; have HO256 := n1_; have BK247 := n2_; have BK248 := n3_; have HB := n4_; clear n0_ n1_ n2_ n3_ n4_
       try go_wp2
       replace HO251 := aM (xD HO251.out); replace HO256 := aM (xD HO256.out); replace BK247 := aM (yD BK247.out); replace BK248 := aM (yD BK248.out); replace HB := aM (zD HB.out)
       have p292 : 0 ≤ (a1 : Int) := of_decide_eq_true (by first | (with_reducible assumption) | assumption)
       have q292 : a1 < (y291.length : Int) := (by have h_ : (a1 : Int) < ((t254.length : Int) : Int) := of_decide_eq_true (by first | (with_reducible assumption) | assumption); first | (have e_ := (Kd.R_reads' HO256.out).1; omega) | simpa only [Ny291.out, List.length_set] using h_)
       have ql292 : ((a1 : Int) < ((t254.length : Int) : Int)) = True := eq_true (of_decide_eq_true (by first | (with_reducible assumption) | assumption))
       obtain ⟨ad292, e292, hx292_0⟩ := Kd.at_string (Kd.R_reads' HO256.out).2.2 a1 p292 q292
       obtain rfl : (⟨go63, 0, none⟩ : Addr) = ad292 := (by injection e292)
       (first | simp only [add_plain] at hx292_0 | simp only [add_at] at hx292_0 | simp only [Addr.add, Nat.zero_add] at hx292_0 | skip)
       replace p292 := eq_true p292; replace q292 := eq_true q292
       refine start_ (n := 12) (S := fun w' => w'.cell? ⟨gb247, 0, none⟩ = some (.slice (some ⟨go63, 0, none⟩) t254.length co75) ∧ w'.cell? ⟨gb247, 1, none⟩ = some (.string t257) ∧ w'.cell? ⟨gb247, 2, none⟩ = some (.string t258) ∧ w'.cell? ⟨go63, (a1).toNat, none⟩ = some (.string (rdOf ByteArray.empty y291 a1))) (ds := [11]) #[fF,fF,fF,fF,fF,fF,fF,fF,fF,fF,fF,fF] (by kernel_rfl) rfl rfl ⟨yc BK247.out 0, yc BK247.out 1, yc BK247.out 2, hx292_0⟩ (fun hHeld => ?_); refine with_tabW spec_l3Two.tab15 spec_l3Two.bits15 (fun HT_ HW_ => ?_)
       generalize w87.drew = w88 at HO251 HO256 BK247 BK248 HB hx292_0 hHeld ⊢
       refine pure_ (i := 0) (N := some 89) (v := ?_) (a' := ?_) #[tT,fF,fF,fF,fF,fF,fF,fF,fF,fF,fF,fF] rfl rfl (any_of HT_.out (by kernel_rfl)) (fun _ _ _ h => h) (Or.inl ⟨by rfl, ?_⟩) ?_ ?_
       rotate_left
       ·intro w'
        go_simp
        with_reducible rfl
       rotate_left
       ·simp only [Act.put, qA, qB, qC, i64_w, i32_w]
        rfl
       refine pure_ (i := 2) (N := some 91) (v := ?_) (a' := ?_) #[tT,fF,tT,fF,fF,fF,fF,fF,fF,fF,fF,fF] rfl rfl (any_of HT_.out (by kernel_rfl)) (fun _ _ _ h => h) (Or.inl ⟨by rfl, ?_⟩) ?_ ?_
       rotate_left
       ·intro w'
        go_simp
        with_reducible rfl
       rotate_left
       ·simp only [Act.put, qA, qB, qC, i64_w, i32_w]
        rfl
       refine pure_ (i := 3) (N := some 92) (v := ?_) (a' := ?_) #[tT,fF,tT,tT,fF,fF,fF,fF,fF,fF,fF,fF] rfl rfl (any_of HT_.out (by kernel_rfl)) (fun _ _ _ h => h) (Or.inl ⟨by rfl, ?_⟩) ?_ ?_
       rotate_left
       ·intro w'
        go_simp
        with_reducible rfl
       rotate_left
       ·simp only [Act.put, qA, qB, qC, i64_w, i32_w]
        rfl
       refine pure_ (i := 5) (N := some 94) (v := ?_) (a' := ?_) #[tT,fF,tT,tT,fF,tT,fF,fF,fF,fF,fF,fF] rfl rfl (any_of HT_.out (by kernel_rfl)) (fun _ _ _ h => h) (Or.inl ⟨by rfl, ?_⟩) ?_ ?_
       rotate_left
       ·intro w'
        go_simp
        with_reducible rfl
       rotate_left
       ·simp only [Act.put, qA, qB, qC, i64_w, i32_w]
        rfl
       refine pure_ (i := 8) (N := some 97) (v := ?_) (a' := ?_) #[tT,fF,tT,tT,fF,tT,fF,fF,tT,fF,fF,fF] rfl rfl (any_of HT_.out (by kernel_rfl)) (fun _ _ _ h => h) (Or.inl ⟨by rfl, ?_⟩) ?_ ?_
       rotate_left
       ·intro w'
        go_simp
        with_reducible rfl
       rotate_left
       ·simp only [Act.put, qA, qB, qC, i64_w, i32_w]
        rfl
       refine take_ (i := 1) (N := some 90) (v := ?_) (a' := ?_) #[tT,tT,tT,tT,fF,tT,fF,fF,tT,fF,fF,fF] rfl rfl (take_ofW HT_.out HW_.out (by kernel_rfl)) (fun _ _ _ h => h) (Or.inl ⟨by rfl, ?_⟩) hHeld ?_ ?_
       rotate_left
       ·rintro w' ⟨s0, s1, s2, s3⟩
        go_simp
        with_reducible rfl
       rotate_left
       ·simp only [Act.put, qA, qB, qC, i64_w, i32_w]
        rfl
       refine take_ (i := 4) (N := some 93) (v := ?_) (a' := ?_) #[tT,tT,tT,tT,tT,tT,fF,fF,tT,fF,fF,fF] rfl rfl (take_ofW HT_.out HW_.out (by kernel_rfl)) (fun _ _ _ h => h) (Or.inl ⟨by rfl, ?_⟩) hHeld ?_ ?_
       rotate_left
       ·rintro w' ⟨s0, s1, s2, s3⟩
        go_simp
        with_reducible rfl
       rotate_left
       ·simp only [Act.put, qA, qB, qC, i64_w, i32_w]
        rfl
       refine pure_ (i := 6) (N := some 95) (v := ?_) (a' := ?_) #[tT,tT,tT,tT,tT,tT,tT,fF,tT,fF,fF,fF] rfl rfl (any_of HT_.out (by kernel_rfl)) (fun _ _ _ h => h) (Or.inl ⟨by rfl, ?_⟩) ?_ ?_
       rotate_left
       ·intro w'
        go_simp
        with_reducible rfl
       rotate_left
       ·simp only [Act.put, qA, qB, qC, i64_w, i32_w]
        rfl
       refine take_ (i := 7) (N := some 96) (v := ?_) (a' := ?_) #[tT,tT,tT,tT,tT,tT,tT,tT,tT,fF,fF,fF] rfl rfl (take_ofW HT_.out HW_.out (by kernel_rfl)) (fun _ _ _ h => h) (Or.inl ⟨by rfl, ?_⟩) hHeld ?_ ?_
       rotate_left
       ·rintro w' ⟨s0, s1, s2, s3⟩
        go_simp
        with_reducible rfl
       rotate_left
       ·simp only [Act.put, qA, qB, qC, i64_w, i32_w]
        rfl
       refine one_ (i := 9) (N := some 98) #[tT,tT,tT,tT,tT,tT,tT,tT,tT,tT,fF,fF] rfl rfl (one_of HT_.out (by kernel_rfl)) (by decide) (fun K hK => ?_)
       refine gS Try.func52 (by kernel_rfl) rfl #[.string (rdOf ByteArray.empty y291 a1), .string t283] (by rfl) rfl rfl ?_
       with_reducible refine (spec_l3Xor.calls (rdOf ByteArray.empty y291 a1) t283 t293 _ A64.out).mono ?_
       rintro e w89 ⟨rfl, hb⟩
       have HS3_ := (hb.cell (World.block_lt_of_cell? _ _ (hHeld.2.2.2))).trans (hHeld.2.2.2)
       refine ⟨_, rfl, ?_⟩
       replace HO251 := xK HO251.out hb; replace HO256 := xK HO256.out hb; replace BK247 := yK BK247.out hb; replace BK248 := yK BK248.out hb; replace HB := aM (zT (zH HB.out) hb)
       (try clear hb)
       have p67 : 0 ≤ (a2 : Int) := of_decide_eq_true (by first | (with_reducible assumption) | assumption)
       have q67 : (a2 : Int) < ((t254.length : Int) : Int) := of_decide_eq_true (by first | (with_reducible assumption) | assumption)
       obtain ⟨hx67_0, hf67_0⟩ := Kd.R_celln (⟨#[]⟩ : ByteArray) HO256.out (a2 : Int) p67 q67; replace p67 := eq_true p67; replace q67 := eq_true q67; have HP90 := Kd.R_putn HO256.out (a2 : Int) t293
       rw [← Ny294.out] at HP90
       have HQ90 := aM HP90; clear HP90
       refine hK.out _ _ ⟨yc BK247.out 0, yc BK247.out 1, yc BK247.out 2, HS3_⟩ (fun hHeld => ?_)
       clear hK K; refine norm_ (a' := ?_) ?_ ?_; rotate_left
       ·show Act.put _ (some 98) _ = _
        simp only [Act.put, qA, qB, qC, i64_w, i32_w]
        rfl
       refine pure_ (i := 10) (N := some 99) (v := ?_) (a' := ?_) #[tT,tT,tT,tT,tT,tT,tT,tT,tT,tT,tT,fF] rfl rfl (any_of HT_.out (by kernel_rfl)) (fun _ _ _ h => h) (Or.inl ⟨by rfl, ?_⟩) ?_ ?_
       rotate_left
       ·intro w'
        go_simp
        with_reducible rfl
       rotate_left
       ·simp only [Act.put, qA, qB, qC, i64_w, i32_w]
        rfl
       refine last_ (i := 11) (N := none) #[tT,tT,tT,tT,tT,tT,tT,tT,tT,tT,tT,tT] rfl rfl (one_of HT_.out (by kernel_rfl)) (by decide) (fun K hK => ?_)
       refine skip_ (w1 := ?_) (by rfl) rfl ?_ ?_
       rotate_left
       ·go_simp
        rfl
       refine hK.out _ _ ?_
       clear hK K
       refine done_ (done_of HT_.out (by kernel_rfl)) ?_
       have n0_ : Aside0 (Kd.R Kd.string 9 (w89.setCell ⟨go63, (a2 : Int).toNat, none⟩ (.string t293)) w.heap.size (fun k_ => some k_ ≠ (.slice (some ⟨go63, 0, none⟩) t254.length co75 : Value).ownBlock) (.slice Ao73 t249.length co73) t249) := ⟨xH (xM (xF (p := ⟨go63, (a2 : Int).toNat, none⟩) (xM HO251.out (fun k_ hk => (⟨hk, fun e_ => hk (by rw [e_]; rfl)⟩ : _ ∧ k_ ≠ go63))) (fun _ hk => hk.2) (.string t293)) (fun _ hk => hk.1))⟩
       have n1_ : Aside0 (Kd.R Kd.string 9 (w89.setCell ⟨go63, (a2 : Int).toNat, none⟩ (.string t293)) w.heap.size (fun k_ => some k_ ≠ oB Ao73 t249.length co73) (.slice (some ⟨go63, 0, none⟩) t254.length co75) y294) := ⟨xH HQ90.out⟩
       have n2_ : Aside0 ((w89.setCell ⟨go63, (a2 : Int).toNat, none⟩ (.string t293)).heap[gb247]? = some (.cells #[.slice (some ⟨go63, 0, none⟩) t254.length co75, .string t257, .string t258] 27 (0, 0))) := ⟨by refine yW ?_; refine yF ?_ (by have h_ := Kd.R_ne HO256.out BK247.out (by decide); intro e_; exact h_ (by rw [e_]; rfl)) _; refine yW ?_; exact BK247.out⟩
       have n3_ : Aside0 ((w89.setCell ⟨go63, (a2 : Int).toNat, none⟩ (.string t293)).heap[gb248]? = some (.cells #[.slice none 0 0, .string (⟨#[]⟩ : ByteArray), .string (⟨#[]⟩ : ByteArray)] 27 (0, 0))) := ⟨by refine yW ?_; refine yF ?_ (by have h_ := Kd.R_ne HO256.out BK248.out (by decide); intro e_; exact h_ (by rw [e_]; rfl)) _; refine yW ?_; exact BK248.out⟩
       have n4_ : Aside0 (Below w.heap.size w (w89.setCell ⟨go63, (a2 : Int).toNat, none⟩ (.string t293))) := ⟨by repeat (first | (with_reducible first | exact HB.out | apply zA | apply zN | apply zD | refine zS ?_ GB63.out | refine zS ?_ GE247.out | refine zS ?_ GE248.out) | exact HB.out)⟩
       (try clear HO251); (try clear HO256); (try clear BK247); (try clear BK248); (try clear HB)
       generalize (w89.setCell ⟨go63, (a2 : Int).toNat, none⟩ (.string t293)) = w91 at n0_ n1_ n2_ n3_ n4_ ⊢
       have HO251 := n0_; have HO256 := n1_; have BK247 := n2_; have BK248 := n3_; have HB := n4_; clear n0_ n1_ n2_ n3_ n4_; have hcz92_0 : w91.cell? ⟨gb247, 0, none⟩ = some (.slice (some ⟨go63, 0, none⟩) t254.length co75) := yc BK247.out 0; have hcz92_1 : w91.cell? ⟨gb247, 1, none⟩ = some (.string t257) := yc BK247.out 1; have hcz92_2 : w91.cell? ⟨gb247, 2, none⟩ = some (.string t258) := yc BK247.out 2; have hfz92_0 := yZ BK247.out 0; have hfz92_1 := yZ BK247.out 1; have hfz92_2 := yZ BK247.out 2; have hcz93_0 : w91.cell? ⟨gb248, 0, none⟩ = some (.slice none 0 0) := yc BK248.out 0; have hcz93_1 : w91.cell? ⟨gb248, 1, none⟩ = some (.string (⟨#[]⟩ : ByteArray)) := yc BK248.out 1; have hcz93_2 : w91.cell? ⟨gb248, 2, none⟩ = some (.string (⟨#[]⟩ : ByteArray)) := yc BK248.out 2; have hfz93_0 := yZ BK248.out 0; have hfz93_1 := yZ BK248.out 1; have hfz93_2 := yZ BK248.out 2
       try go_wp2
       refine bodyPost_ret (results_cell_row rfl _ _ gb248 27 #[.slice (some ⟨go63, 0, none⟩) t254.length co75, .string t257, .string t258] (0, 0) _ rfl (by refine yW ?_; refine yP (cs := #[.slice (some ⟨go63, 0, none⟩) t254.length co75, .string t257, .string (⟨#[]⟩ : ByteArray)]) ?_ 2 _ rfl; refine yW ?_; refine yP (cs := #[.slice (some ⟨go63, 0, none⟩) t254.length co75, .string (⟨#[]⟩ : ByteArray), .string (⟨#[]⟩ : ByteArray)]) ?_ 1 _ rfl; refine yW ?_; refine yP (cs := #[.slice none 0 0, .string (⟨#[]⟩ : ByteArray), .string (⟨#[]⟩ : ByteArray)]) ?_ 0 _ rfl; refine yW ?_; exact BK248.out) Try.underlying27 rfl (by kernel_rfl)) rfl ?_
       exact ⟨_, eW, xH (xM (xF (p := ⟨gb248, 2, none⟩) (xF (p := ⟨gb248, 1, none⟩) (xF (p := ⟨gb248, 0, none⟩) (xT HO256.out BK248.out (by decide)) (fun _ hk => hk.2) (.slice (some ⟨go63, 0, none⟩) t254.length co75)) (fun _ hk => hk.2) (.string t257)) (fun _ hk => hk.2) (.string t258)) (fun _ hk => trivial)), zH HB.out⟩
      ·rw [if_neg c66] at H
       exact absurd H (by simp)
     ·rw [if_neg c65] at H
      exact absurd H (by simp)
    ·rw [if_neg c62] at H
     exact absurd H (by simp)
   ·rw [if_neg c61] at H
    exact absurd H (by simp)

end Go.Proofs.Ytfijnlhklfmoeaa.PFnParity
