/- The walks of FnParity: Go's calls come to what the Lean functions beside them say; no condition. -/
import Derived.Test.YtfijnlhklfmoeaaQFnParityx0
import Derived.Test.YtfijnlhklfmoeaaQFnParityx1
import Derived.Test.YtfijnlhklfmoeaaQFnParityx2
import Derived.Test.YtfijnlhklfmoeaaQFnParityx4
namespace Go.Proofs.Ytfijnlhklfmoeaa.PFnParity
open Go.RowKit Go.Proofs.YtfijnlhklfmoeaaW.PrintWords Go.Proofs.YtfijnlhklfmoeaaW.PrintLast Go.Proofs.YtfijnlhklfmoeaaW.PrintMore
attribute [local go_sem] max2_int min2_int max_two min_two max_three min_three max_four min_four   -- for this text's walks alone
set_option linter.unusedVariables false
set_option linter.unusedSimpArgs false
set_option maxRecDepth 100000

/-! ### impl_recoverOne: function 60 -/
def impl_recoverOne.f (k : Nat) (l0_0 : List ByteArray) (a0_1 : ByteArray) (a0_2 : ByteArray) (a1 : Int) : Option (List ByteArray × ByteArray × ByteArray) := (impl_without.f k l0_0 a0_1 a0_2 (([a1] : List Int))).bind fun bt172 => ((impl_parities.f k bt172.1).bind fun bt178 => (if (wrap64 (a1 - (l0_0.length : Int))) = 0 then (some (bt172.1, bt178.1, bt172.2.2)) else (if (wrap64 (a1 - (l0_0.length : Int))) = 1 then (some (bt172.1, bt172.2.1, bt178.2)) else ((impl_xor.f bt178.1 a0_1).bind fun t180 => (if 0 ≤ a1 then (if a1 < (bt172.1.length : Int) then (some ((bt172.1.set (a1 : Int).toNat t180), bt172.2.1, bt172.2.2)) else (none)) else (none))))))
theorem impl_recoverOne.mono : ∀ a0 a1 a2 a3 k, LeO (impl_recoverOne.f k a0 a1 a2 a3) (impl_recoverOne.f (k + 1) a0 a1 a2 a3) := by
 intro a0 a1 a2 a3 k
 unfold impl_recoverOne.f
 repeat' first
   | (with_reducible exact impl_parities.mono _ _)
   | (with_reducible exact impl_without.mono _ _ _ _ _)
   | (with_reducible exact LeO.refl _)
   | (with_reducible exact LeO.none _)
   | (with_reducible refine LeO.ite ?_ ?_)
   | (with_reducible refine LeO.bind ?_ (fun _ => ?_))
   | exact impl_parities.mono _ _
   | exact impl_without.mono _ _ _ _ _
   | exact LeO.none _
   | refine LeO.ite ?_ ?_
   | refine LeO.bind ?_ (fun _ => ?_)
def impl_recoverOne.T4 : Bool × List (List Nat × List Nat) := (true, [([], []), ([0], [0]), ([], []), ([], []), ([], []), ([4], [4]), ([3, 5], [3, 5]), ([1, 2, 0, 1, 2, 3, 4, 5, 6], [1, 2]), ([7, 6, 6, 0, 1, 2, 3, 4, 5, 6], [6, 7])])
def impl_recoverOne.B4 : List Nat := [0, 1, 0, 0, 0, 16, 56, 127, 255]
theorem impl_recoverOne.tab4 : rtab .any (opsOf Try.f60 4) = impl_recoverOne.T4 := by kernel_rfl
theorem impl_recoverOne.bits4 : waitsOk impl_recoverOne.T4.2 impl_recoverOne.B4 = true := by kernel_rfl
set_option maxHeartbeats 8000000 in
set_option maxRecDepth 100000 in
theorem impl_recoverOne.calls (k : Nat) (A0_0 : Option Addr) (c0_0 : Nat) (l0_0 : List ByteArray) (a0_1 : ByteArray) (a0_2 : ByteArray) (a1 : Int) (r1 : List ByteArray) (r2 : ByteArray) (r3 : ByteArray) (w : World) (hr0_0 : Kd.C Kd.string w A0_0 l0_0.length l0_0) (hc0_0 : l0_0.length ≤ c0_0) (h : impl_recoverOne.f k l0_0 a0_1 a0_2 a1 = some (r1, r2, r3)) :
  Calls Try.prog 60 #[.agg #[.slice A0_0 l0_0.length c0_0, .string a0_1, .string a0_2], .int .i64 a1] w fun e w' => ∃ v0_ : Value, e = .returned (.agg #[v0_, .string r2, .string r3]) ∧ Kd.R Kd.string 9 w' w.heap.size (fun _ => True) v0_ r1 ∧ Below w.heap.size w w' := by
 have hu27 := Try.underlying27; have HR0_0 := aM hr0_0; have HC0_0 := aM hc0_0; clear hr0_0 hc0_0; have HB := aM (Below.refl w.heap.size w)
 have H : ((impl_without.f k l0_0 a0_1 a0_2 (([a1] : List Int))).bind fun bt172 => ((impl_parities.f k bt172.1).bind fun bt178 => (if (wrap64 (a1 - (l0_0.length : Int))) = 0 then (some (bt172.1, bt178.1, bt172.2.2)) else (if (wrap64 (a1 - (l0_0.length : Int))) = 1 then (some (bt172.1, bt172.2.1, bt178.2)) else ((impl_xor.f bt178.1 a0_1).bind fun t180 => (if 0 ≤ a1 then (if a1 < (bt172.1.length : Int) then (some ((bt172.1.set (a1 : Int).toNat t180), bt172.2.1, bt172.2.2)) else (none)) else (none))))))) = some (r1, r2, r3) := h
 clear h; obtain ⟨y169, hy169⟩ : ∃ y_ : List Int, y_ = (([a1] : List Int)) := ⟨_, rfl⟩
 replace H : ((impl_without.f k l0_0 a0_1 a0_2 y169).bind fun bt172 => ((impl_parities.f k bt172.1).bind fun bt178 => (if (wrap64 (a1 - (l0_0.length : Int))) = 0 then (some (bt172.1, bt178.1, bt172.2.2)) else (if (wrap64 (a1 - (l0_0.length : Int))) = 1 then (some (bt172.1, bt172.2.1, bt178.2)) else ((impl_xor.f bt178.1 a0_1).bind fun t180 => (if 0 ≤ a1 then (if a1 < (bt172.1.length : Int) then (some ((bt172.1.set (a1 : Int).toNat t180), bt172.2.1, bt172.2.2)) else (none)) else (none))))))) = some (r1, r2, r3) := by first | (rw [hy169]; with_reducible exact H) | (have H2_ := (Option.bind_some _ _).symm.trans H; rw [hy169]; with_reducible exact H2_) | (have H2_ := (Option.bind_some _ _).symm.trans H; with_reducible exact H2_) | with_reducible exact H | (rw [hy169]; exact H) | exact H
 have Ny169 := aM hy169; clear hy169; replace H := Option.bind_eq_some_iff.mp H; obtain ⟨⟨t172, t175, t176⟩, A30, H⟩ := H
 replace H : ((impl_parities.f k t172).bind fun bt178 => (if (wrap64 (a1 - (l0_0.length : Int))) = 0 then (some (t172, bt178.1, t176)) else (if (wrap64 (a1 - (l0_0.length : Int))) = 1 then (some (t172, t175, bt178.2)) else ((impl_xor.f bt178.1 a0_1).bind fun t180 => (if 0 ≤ a1 then (if a1 < (t172.length : Int) then (some ((t172.set (a1 : Int).toNat t180), t175, t176)) else (none)) else (none)))))) = some (r1, r2, r3) := H
 have A3 := aM A30; clear A30; replace H := Option.bind_eq_some_iff.mp H; obtain ⟨⟨t178, t179⟩, A40, H⟩ := H
 replace H : (if (wrap64 (a1 - (l0_0.length : Int))) = 0 then (some (t172, t178, t176)) else (if (wrap64 (a1 - (l0_0.length : Int))) = 1 then (some (t172, t175, t179)) else ((impl_xor.f t178 a0_1).bind fun t180 => (if 0 ≤ a1 then (if a1 < (t172.length : Int) then (some ((t172.set (a1 : Int).toNat t180), t175, t176)) else (none)) else (none))))) = some (r1, r2, r3) := H
 have A4 := aM A40; clear A40
 by_cases c5 : (wrap64 (a1 - (l0_0.length : Int))) = 0
 ·rw [if_pos c5] at H
  have c5b0 : ((wrap64 (a1 - (l0_0.length : Int))) == 0) = true := beq_iff_eq.mpr c5; have c5b1 : ((wrap64 (a1 - (l0_0.length : Int))) != 0) = false := bne_eq_false_iff_eq.mpr c5; clear c5
  simp only [Option.some.injEq, Prod.mk.injEq] at H
  obtain ⟨rfl, rfl, rfl⟩ := H
  go_enter Try.func60, Try.ntmps60
  go_wp2_with (first | ((with_reducible refine gate_dst (N := 2) rfl ?_); refine box_event ?hg (N := 2) ?hd (cs := #[.slice A0_0 l0_0.length c0_0, .string a0_1, .string a0_2]) (t := 27) ?hr ?_; (case hd => rfl); (case hg => rfl); (case hr => first | (go_simp; done) | (go_simp; rfl)); intro gb167 hg w6 hbox hb; have BK167 := aM (hbox); have GW167 := aM ((by rw [hg]; exact (zZ (zH HB.out)) : w.heap.size ≤ gb167)); have GE167 := aM ((by rw [hg]; exact (zZ (zH HB.out)) : w.heap.size ≤ gb167)); replace HB := aM (zT (zH HB.out) hb); clear hb hbox hg) | ((with_reducible refine gate_dst (N := 4) rfl ?_); refine box_event ?hg (N := 4) ?hd (cs := #[.slice none 0 0, .string (⟨#[]⟩ : ByteArray), .string (⟨#[]⟩ : ByteArray)]) (t := 27) ?hr ?_; (case hd => rfl); (case hg => rfl); (case hr => first | (go_simp; done) | (go_simp; rfl)); intro gb168 hg w7 hbox hb; have BK168 := aM (hbox); have GW168 := aM ((by rw [hg]; exact (zZ (zH HB.out)) : w.heap.size ≤ gb168)); have GE168 := aM ((by rw [hg]; exact (zZ (zH HB.out)) : w.heap.size ≤ gb168)); replace HB := aM (zT (zH HB.out) hb); have NB167_168 := nL BK167.out hg; have NB168_167 := nR BK167.out hg; replace BK167 := yK BK167.out hb; clear hb hbox hg; have hnb8 := NB167_168.out; have hnc8 := NB168_167.out; have hcz9_0 : w7.cell? ⟨gb167, 0, none⟩ = some (.slice A0_0 l0_0.length c0_0) := yc BK167.out 0; have hcz9_1 : w7.cell? ⟨gb167, 1, none⟩ = some (.string a0_1) := yc BK167.out 1; have hcz9_2 : w7.cell? ⟨gb167, 2, none⟩ = some (.string a0_2) := yc BK167.out 2; have hfz9_0 := yZ BK167.out 0; have hfz9_1 := yZ BK167.out 1; have hfz9_2 := yZ BK167.out 2) | ((with_reducible refine gate_dst (N := 10) rfl ?_); refine Kd.R_lit (Kd.int .i64) _ 3 ?hg (N := 10) ?hd (xs := ([a1] : List Int)) (inner := [.int .i64 a1]) (ok := fun _ => True) (okp := fun _ => True) ?hr ?hp (fun _ hk => hk) trivial (Below.refl _ _) (Nat.le_refl _) (by simp) ?_; (case hd => rfl); (case hg => rfl); (case hr => first | (go_simp; done) | (go_simp; rfl)); (case hp => exact (Reps.one (show Kd.M (Kd.int .i64) _ _ _ a1 [.int .i64 a1] from rfl) (Reps.none _ _))); intro v170 w10 ho11 hb hg_ hnew_; clear hg_ hnew_; (first | rw [← Ny169.out] at ho11 | (simp only [Int.reduceToNat] at ho11; rw [← Ny169.out] at ho11)); have HO171 := aM (xL ho11 (zZ (zH HB.out))); replace BK167 := yK BK167.out hb; replace BK168 := yK BK168.out hb; replace HB := aM (zT (zH HB.out) hb); clear hb ho11; obtain ⟨Ao12, co12, eo12⟩ := Kd.R_slice HO171.out; subst eo12) | ((with_reducible refine gate_callee (f := 56) rfl ?_); refine goesL_ (some 11) rfl rfl Try.func56 (by kernel_rfl) rfl #[.agg #[.slice A0_0 l0_0.length c0_0, .string a0_1, .string a0_2], .slice Ao12 y169.length co12] rfl mA ?_; (with_reducible refine (impl_without.calls k _ _ l0_0 a0_1 a0_2 _ _ y169 t172 t175 t176 _ ?side1 ?side2 ?side3 ?side4 A3.out).mono ?_); (case side1 => exact cK HR0_0.out HB.out); (case side2 => exact HC0_0.out); (case side3 => exact cS (Kd.R_reads' HO171.out).2.2); (case side4 => exact (Kd.R_reads' HO171.out).2.1); rintro e w13 ⟨v173, rfl, ho0, hb⟩; refine ⟨_, rfl, ?_⟩; replace HO171 := xK HO171.out hb; have HO174 := aM (xL ho0 (zZ (zH HB.out))); replace BK167 := yK BK167.out hb; replace BK168 := yK BK168.out hb; replace HB := aM (zT (zH HB.out) hb); (try clear hb); (try clear ho0)) | ((with_reducible refine gate_dst (N := 5) rfl ?_); refine box_event ?hg (N := 5) ?hd (cs := #[.slice none 0 0, .string (⟨#[]⟩ : ByteArray), .string (⟨#[]⟩ : ByteArray)]) (t := 27) ?hr ?_; (case hd => rfl); (case hg => rfl); (case hr => first | (go_simp; done) | (go_simp; rfl)); intro gb177 hg w14 hbox hb; replace HO171 := xK HO171.out hb; replace HO174 := xK HO174.out hb; have BK177 := aM (hbox); have GW177 := aM ((by rw [hg]; exact (zZ (zH HB.out)) : w.heap.size ≤ gb177)); have GE177 := aM ((by rw [hg]; exact (zZ (zH HB.out)) : w.heap.size ≤ gb177)); replace HB := aM (zT (zH HB.out) hb); have NB167_177 := nL BK167.out hg; have NB177_167 := nR BK167.out hg; replace BK167 := yK BK167.out hb; have NB168_177 := nL BK168.out hg; have NB177_168 := nR BK168.out hg; replace BK168 := yK BK168.out hb; clear hb hbox hg; obtain ⟨Ao15, co15, eo15⟩ := Kd.R_slice HO174.out; subst eo15; have hnb16 := NB177_167.out; have hnc16 := NB167_177.out; have hnb17 := NB177_168.out; have hnc17 := NB168_177.out; have hcz18_0 : w14.cell? ⟨gb177, 0, none⟩ = some (.slice none 0 0) := yc BK177.out 0; have hcz18_1 : w14.cell? ⟨gb177, 1, none⟩ = some (.string (⟨#[]⟩ : ByteArray)) := yc BK177.out 1; have hcz18_2 : w14.cell? ⟨gb177, 2, none⟩ = some (.string (⟨#[]⟩ : ByteArray)) := yc BK177.out 2; have hfz18_0 := yZ BK177.out 0; have hfz18_1 := yZ BK177.out 1; have hfz18_2 := yZ BK177.out 2) | ((with_reducible refine gate_callee (f := 46) rfl ?_); refine goesL_ (some 15) rfl rfl Try.func46 (by kernel_rfl) rfl #[.slice Ao15 t172.length co15] rfl mA ?_; (with_reducible refine (impl_parities.calls k _ _ t172 t178 t179 _ ?side1 ?side2 A4.out).mono ?_); (case side1 => exact rC (n := t172.length) (c := co15) ((x3 HO174.out BK177.out (by decide) (.slice Ao15 t172.length co15) (.string t175) (.string t176)))); (case side2 => exact (Kd.R_reads' HO174.out).2.1); rintro e w19 ⟨rfl, hb⟩; refine ⟨_, rfl, ?_⟩; replace HO171 := aM (xB (xH ((x3 HO171.out BK177.out (by decide) (.slice Ao15 t172.length co15) (.string t175) (.string t176)))) hb); replace HO174 := aM (xB (xH ((x3 HO174.out BK177.out (by decide) (.slice Ao15 t172.length co15) (.string t175) (.string t176)))) hb); replace BK167 := aM (yB (g := gb167) (o := .cells #[.slice A0_0 l0_0.length c0_0, .string a0_1, .string a0_2] 27 (0, 0)) (by refine yW ?_; refine yF ?_ NB167_177.out _; refine yW ?_; refine yF ?_ NB167_177.out _; refine yW ?_; refine yF ?_ NB167_177.out _; refine yW ?_; exact BK167.out) hb); replace BK168 := aM (yB (g := gb168) (o := .cells #[.slice none 0 0, .string (⟨#[]⟩ : ByteArray), .string (⟨#[]⟩ : ByteArray)] 27 (0, 0)) (by refine yW ?_; refine yF ?_ NB168_177.out _; refine yW ?_; refine yF ?_ NB168_177.out _; refine yW ?_; refine yF ?_ NB168_177.out _; refine yW ?_; exact BK168.out) hb); replace BK177 := aM (yB (g := gb177) (o := .cells #[.slice Ao15 t172.length co15, .string t175, .string t176] 27 (0, 0)) (by refine yW ?_; refine yP (cs := #[.slice Ao15 t172.length co15, .string t175, .string (⟨#[]⟩ : ByteArray)]) ?_ 2 _ rfl; refine yW ?_; refine yP (cs := #[.slice Ao15 t172.length co15, .string (⟨#[]⟩ : ByteArray), .string (⟨#[]⟩ : ByteArray)]) ?_ 1 _ rfl; refine yW ?_; refine yP (cs := #[.slice none 0 0, .string (⟨#[]⟩ : ByteArray), .string (⟨#[]⟩ : ByteArray)]) ?_ 0 _ rfl; refine yW ?_; exact BK177.out) hb); replace HB := aM (zT (zH HB.out) hb); (try clear hb); have hcz20_0 : w19.cell? ⟨gb167, 0, none⟩ = some (.slice A0_0 l0_0.length c0_0) := yc BK167.out 0; have hcz20_1 : w19.cell? ⟨gb167, 1, none⟩ = some (.string a0_1) := yc BK167.out 1; have hcz20_2 : w19.cell? ⟨gb167, 2, none⟩ = some (.string a0_2) := yc BK167.out 2; have hfz20_0 := yZ BK167.out 0; have hfz20_1 := yZ BK167.out 1; have hfz20_2 := yZ BK167.out 2; have hcz21_0 : w19.cell? ⟨gb177, 0, none⟩ = some (.slice Ao15 t172.length co15) := yc BK177.out 0; have hcz21_1 : w19.cell? ⟨gb177, 1, none⟩ = some (.string t175) := yc BK177.out 1; have hcz21_2 : w19.cell? ⟨gb177, 2, none⟩ = some (.string t176) := yc BK177.out 2; have hfz21_0 := yZ BK177.out 0; have hfz21_1 := yZ BK177.out 1; have hfz21_2 := yZ BK177.out 2; have hcz22_0 : w19.cell? ⟨gb168, 0, none⟩ = some (.slice none 0 0) := yc BK168.out 0; have hcz22_1 : w19.cell? ⟨gb168, 1, none⟩ = some (.string (⟨#[]⟩ : ByteArray)) := yc BK168.out 1; have hcz22_2 : w19.cell? ⟨gb168, 2, none⟩ = some (.string (⟨#[]⟩ : ByteArray)) := yc BK168.out 2; have hfz22_0 := yZ BK168.out 0; have hfz22_1 := yZ BK168.out 1; have hfz22_2 := yZ BK168.out 2))
  refine bodyPost_ret (results_cell_row rfl _ _ gb168 27 #[.slice Ao15 t172.length co15, .string t178, .string t176] (0, 0) _ rfl (by refine yW ?_; refine yP (cs := #[.slice Ao15 t172.length co15, .string t178, .string (⟨#[]⟩ : ByteArray)]) ?_ 2 _ rfl; refine yW ?_; refine yP (cs := #[.slice Ao15 t172.length co15, .string (⟨#[]⟩ : ByteArray), .string (⟨#[]⟩ : ByteArray)]) ?_ 1 _ rfl; refine yW ?_; refine yP (cs := #[.slice none 0 0, .string (⟨#[]⟩ : ByteArray), .string (⟨#[]⟩ : ByteArray)]) ?_ 0 _ rfl; refine yW ?_; refine yF ?_ NB168_177.out _; refine yW ?_; exact BK168.out) Try.underlying27 rfl (by kernel_rfl)) rfl ?_
  exact ⟨_, eW, xH (xM (xF (p := ⟨gb168, 2, none⟩) (xF (p := ⟨gb168, 1, none⟩) (xF (p := ⟨gb168, 0, none⟩) (xF (p := ⟨gb177, 1, none⟩) (xT (xT HO174.out BK177.out (by decide)) BK168.out (by decide)) (fun _ hk => hk.1.2) (.string t178)) (fun _ hk => hk.2) (.slice Ao15 t172.length co15)) (fun _ hk => hk.2) (.string t178)) (fun _ hk => hk.2) (.string t176)) (fun _ hk => trivial)), zH HB.out⟩
 ·rw [if_neg c5] at H
  have c5b0 : ((wrap64 (a1 - (l0_0.length : Int))) == 0) = false := beq_eq_false_iff_ne.mpr c5; have c5b1 : ((wrap64 (a1 - (l0_0.length : Int))) != 0) = true := bne_iff_ne.mpr c5
  by_cases c23 : (wrap64 (a1 - (l0_0.length : Int))) = 1
  ·rw [if_pos c23] at H
   have c23b0 : ((wrap64 (a1 - (l0_0.length : Int))) == 1) = true := beq_iff_eq.mpr c23; have c23b1 : ((wrap64 (a1 - (l0_0.length : Int))) != 1) = false := bne_eq_false_iff_eq.mpr c23; clear c23
   simp only [Option.some.injEq, Prod.mk.injEq] at H
   obtain ⟨rfl, rfl, rfl⟩ := H
   go_enter Try.func60, Try.ntmps60
   go_wp2_with (first | ((with_reducible refine gate_dst (N := 2) rfl ?_); refine box_event ?hg (N := 2) ?hd (cs := #[.slice A0_0 l0_0.length c0_0, .string a0_1, .string a0_2]) (t := 27) ?hr ?_; (case hd => rfl); (case hg => rfl); (case hr => first | (go_simp; done) | (go_simp; rfl)); intro gb167 hg w24 hbox hb; have BK167 := aM (hbox); have GW167 := aM ((by rw [hg]; exact (zZ (zH HB.out)) : w.heap.size ≤ gb167)); have GE167 := aM ((by rw [hg]; exact (zZ (zH HB.out)) : w.heap.size ≤ gb167)); replace HB := aM (zT (zH HB.out) hb); clear hb hbox hg) | ((with_reducible refine gate_dst (N := 4) rfl ?_); refine box_event ?hg (N := 4) ?hd (cs := #[.slice none 0 0, .string (⟨#[]⟩ : ByteArray), .string (⟨#[]⟩ : ByteArray)]) (t := 27) ?hr ?_; (case hd => rfl); (case hg => rfl); (case hr => first | (go_simp; done) | (go_simp; rfl)); intro gb168 hg w25 hbox hb; have BK168 := aM (hbox); have GW168 := aM ((by rw [hg]; exact (zZ (zH HB.out)) : w.heap.size ≤ gb168)); have GE168 := aM ((by rw [hg]; exact (zZ (zH HB.out)) : w.heap.size ≤ gb168)); replace HB := aM (zT (zH HB.out) hb); have NB167_168 := nL BK167.out hg; have NB168_167 := nR BK167.out hg; replace BK167 := yK BK167.out hb; clear hb hbox hg; have hnb26 := NB167_168.out; have hnc26 := NB168_167.out; have hcz27_0 : w25.cell? ⟨gb167, 0, none⟩ = some (.slice A0_0 l0_0.length c0_0) := yc BK167.out 0; have hcz27_1 : w25.cell? ⟨gb167, 1, none⟩ = some (.string a0_1) := yc BK167.out 1; have hcz27_2 : w25.cell? ⟨gb167, 2, none⟩ = some (.string a0_2) := yc BK167.out 2; have hfz27_0 := yZ BK167.out 0; have hfz27_1 := yZ BK167.out 1; have hfz27_2 := yZ BK167.out 2) | ((with_reducible refine gate_dst (N := 10) rfl ?_); refine Kd.R_lit (Kd.int .i64) _ 3 ?hg (N := 10) ?hd (xs := ([a1] : List Int)) (inner := [.int .i64 a1]) (ok := fun _ => True) (okp := fun _ => True) ?hr ?hp (fun _ hk => hk) trivial (Below.refl _ _) (Nat.le_refl _) (by simp) ?_; (case hd => rfl); (case hg => rfl); (case hr => first | (go_simp; done) | (go_simp; rfl)); (case hp => exact (Reps.one (show Kd.M (Kd.int .i64) _ _ _ a1 [.int .i64 a1] from rfl) (Reps.none _ _))); intro v170 w28 ho29 hb hg_ hnew_; clear hg_ hnew_; (first | rw [← Ny169.out] at ho29 | (simp only [Int.reduceToNat] at ho29; rw [← Ny169.out] at ho29)); have HO171 := aM (xL ho29 (zZ (zH HB.out))); replace BK167 := yK BK167.out hb; replace BK168 := yK BK168.out hb; replace HB := aM (zT (zH HB.out) hb); clear hb ho29; obtain ⟨Ao30, co30, eo30⟩ := Kd.R_slice HO171.out; subst eo30) | ((with_reducible refine gate_callee (f := 56) rfl ?_); refine goesL_ (some 11) rfl rfl Try.func56 (by kernel_rfl) rfl #[.agg #[.slice A0_0 l0_0.length c0_0, .string a0_1, .string a0_2], .slice Ao30 y169.length co30] rfl mA ?_; (with_reducible refine (impl_without.calls k _ _ l0_0 a0_1 a0_2 _ _ y169 t172 t175 t176 _ ?side1 ?side2 ?side3 ?side4 A3.out).mono ?_); (case side1 => exact cK HR0_0.out HB.out); (case side2 => exact HC0_0.out); (case side3 => exact cS (Kd.R_reads' HO171.out).2.2); (case side4 => exact (Kd.R_reads' HO171.out).2.1); rintro e w31 ⟨v173, rfl, ho0, hb⟩; refine ⟨_, rfl, ?_⟩; replace HO171 := xK HO171.out hb; have HO174 := aM (xL ho0 (zZ (zH HB.out))); replace BK167 := yK BK167.out hb; replace BK168 := yK BK168.out hb; replace HB := aM (zT (zH HB.out) hb); (try clear hb); (try clear ho0)) | ((with_reducible refine gate_dst (N := 5) rfl ?_); refine box_event ?hg (N := 5) ?hd (cs := #[.slice none 0 0, .string (⟨#[]⟩ : ByteArray), .string (⟨#[]⟩ : ByteArray)]) (t := 27) ?hr ?_; (case hd => rfl); (case hg => rfl); (case hr => first | (go_simp; done) | (go_simp; rfl)); intro gb177 hg w32 hbox hb; replace HO171 := xK HO171.out hb; replace HO174 := xK HO174.out hb; have BK177 := aM (hbox); have GW177 := aM ((by rw [hg]; exact (zZ (zH HB.out)) : w.heap.size ≤ gb177)); have GE177 := aM ((by rw [hg]; exact (zZ (zH HB.out)) : w.heap.size ≤ gb177)); replace HB := aM (zT (zH HB.out) hb); have NB167_177 := nL BK167.out hg; have NB177_167 := nR BK167.out hg; replace BK167 := yK BK167.out hb; have NB168_177 := nL BK168.out hg; have NB177_168 := nR BK168.out hg; replace BK168 := yK BK168.out hb; clear hb hbox hg; obtain ⟨Ao33, co33, eo33⟩ := Kd.R_slice HO174.out; subst eo33; have hnb34 := NB177_167.out; have hnc34 := NB167_177.out; have hnb35 := NB177_168.out; have hnc35 := NB168_177.out; have hcz36_0 : w32.cell? ⟨gb177, 0, none⟩ = some (.slice none 0 0) := yc BK177.out 0; have hcz36_1 : w32.cell? ⟨gb177, 1, none⟩ = some (.string (⟨#[]⟩ : ByteArray)) := yc BK177.out 1; have hcz36_2 : w32.cell? ⟨gb177, 2, none⟩ = some (.string (⟨#[]⟩ : ByteArray)) := yc BK177.out 2; have hfz36_0 := yZ BK177.out 0; have hfz36_1 := yZ BK177.out 1; have hfz36_2 := yZ BK177.out 2) | ((with_reducible refine gate_callee (f := 46) rfl ?_); refine goesL_ (some 15) rfl rfl Try.func46 (by kernel_rfl) rfl #[.slice Ao33 t172.length co33] rfl mA ?_; (with_reducible refine (impl_parities.calls k _ _ t172 t178 t179 _ ?side1 ?side2 A4.out).mono ?_); (case side1 => exact rC (n := t172.length) (c := co33) ((x3 HO174.out BK177.out (by decide) (.slice Ao33 t172.length co33) (.string t175) (.string t176)))); (case side2 => exact (Kd.R_reads' HO174.out).2.1); rintro e w37 ⟨rfl, hb⟩; refine ⟨_, rfl, ?_⟩; replace HO171 := aM (xB (xH ((x3 HO171.out BK177.out (by decide) (.slice Ao33 t172.length co33) (.string t175) (.string t176)))) hb); replace HO174 := aM (xB (xH ((x3 HO174.out BK177.out (by decide) (.slice Ao33 t172.length co33) (.string t175) (.string t176)))) hb); replace BK167 := aM (yB (g := gb167) (o := .cells #[.slice A0_0 l0_0.length c0_0, .string a0_1, .string a0_2] 27 (0, 0)) (by refine yW ?_; refine yF ?_ NB167_177.out _; refine yW ?_; refine yF ?_ NB167_177.out _; refine yW ?_; refine yF ?_ NB167_177.out _; refine yW ?_; exact BK167.out) hb); replace BK168 := aM (yB (g := gb168) (o := .cells #[.slice none 0 0, .string (⟨#[]⟩ : ByteArray), .string (⟨#[]⟩ : ByteArray)] 27 (0, 0)) (by refine yW ?_; refine yF ?_ NB168_177.out _; refine yW ?_; refine yF ?_ NB168_177.out _; refine yW ?_; refine yF ?_ NB168_177.out _; refine yW ?_; exact BK168.out) hb); replace BK177 := aM (yB (g := gb177) (o := .cells #[.slice Ao33 t172.length co33, .string t175, .string t176] 27 (0, 0)) (by refine yW ?_; refine yP (cs := #[.slice Ao33 t172.length co33, .string t175, .string (⟨#[]⟩ : ByteArray)]) ?_ 2 _ rfl; refine yW ?_; refine yP (cs := #[.slice Ao33 t172.length co33, .string (⟨#[]⟩ : ByteArray), .string (⟨#[]⟩ : ByteArray)]) ?_ 1 _ rfl; refine yW ?_; refine yP (cs := #[.slice none 0 0, .string (⟨#[]⟩ : ByteArray), .string (⟨#[]⟩ : ByteArray)]) ?_ 0 _ rfl; refine yW ?_; exact BK177.out) hb); replace HB := aM (zT (zH HB.out) hb); (try clear hb); have hcz38_0 : w37.cell? ⟨gb167, 0, none⟩ = some (.slice A0_0 l0_0.length c0_0) := yc BK167.out 0; have hcz38_1 : w37.cell? ⟨gb167, 1, none⟩ = some (.string a0_1) := yc BK167.out 1; have hcz38_2 : w37.cell? ⟨gb167, 2, none⟩ = some (.string a0_2) := yc BK167.out 2; have hfz38_0 := yZ BK167.out 0; have hfz38_1 := yZ BK167.out 1; have hfz38_2 := yZ BK167.out 2; have hcz39_0 : w37.cell? ⟨gb177, 0, none⟩ = some (.slice Ao33 t172.length co33) := yc BK177.out 0; have hcz39_1 : w37.cell? ⟨gb177, 1, none⟩ = some (.string t175) := yc BK177.out 1; have hcz39_2 : w37.cell? ⟨gb177, 2, none⟩ = some (.string t176) := yc BK177.out 2; have hfz39_0 := yZ BK177.out 0; have hfz39_1 := yZ BK177.out 1; have hfz39_2 := yZ BK177.out 2; have hcz40_0 : w37.cell? ⟨gb168, 0, none⟩ = some (.slice none 0 0) := yc BK168.out 0; have hcz40_1 : w37.cell? ⟨gb168, 1, none⟩ = some (.string (⟨#[]⟩ : ByteArray)) := yc BK168.out 1; have hcz40_2 : w37.cell? ⟨gb168, 2, none⟩ = some (.string (⟨#[]⟩ : ByteArray)) := yc BK168.out 2; have hfz40_0 := yZ BK168.out 0; have hfz40_1 := yZ BK168.out 1; have hfz40_2 := yZ BK168.out 2))
   refine bodyPost_ret (results_cell_row rfl _ _ gb168 27 #[.slice Ao33 t172.length co33, .string t175, .string t179] (0, 0) _ rfl (by refine yW ?_; refine yP (cs := #[.slice Ao33 t172.length co33, .string t175, .string (⟨#[]⟩ : ByteArray)]) ?_ 2 _ rfl; refine yW ?_; refine yP (cs := #[.slice Ao33 t172.length co33, .string (⟨#[]⟩ : ByteArray), .string (⟨#[]⟩ : ByteArray)]) ?_ 1 _ rfl; refine yW ?_; refine yP (cs := #[.slice none 0 0, .string (⟨#[]⟩ : ByteArray), .string (⟨#[]⟩ : ByteArray)]) ?_ 0 _ rfl; refine yW ?_; refine yF ?_ NB168_177.out _; refine yW ?_; exact BK168.out) Try.underlying27 rfl (by kernel_rfl)) rfl ?_
   exact ⟨_, eW, xH (xM (xF (p := ⟨gb168, 2, none⟩) (xF (p := ⟨gb168, 1, none⟩) (xF (p := ⟨gb168, 0, none⟩) (xF (p := ⟨gb177, 2, none⟩) (xT (xT HO174.out BK177.out (by decide)) BK168.out (by decide)) (fun _ hk => hk.1.2) (.string t179)) (fun _ hk => hk.2) (.slice Ao33 t172.length co33)) (fun _ hk => hk.2) (.string t175)) (fun _ hk => hk.2) (.string t179)) (fun _ hk => trivial)), zH HB.out⟩
  ·rw [if_neg c23] at H
   have c23b0 : ((wrap64 (a1 - (l0_0.length : Int))) == 1) = false := beq_eq_false_iff_ne.mpr c23; have c23b1 : ((wrap64 (a1 - (l0_0.length : Int))) != 1) = true := bne_iff_ne.mpr c23; replace H := Option.bind_eq_some_iff.mp H; obtain ⟨t180, A410, H⟩ := H; replace H : (if 0 ≤ a1 then (if a1 < (t172.length : Int) then (some ((t172.set (a1 : Int).toNat t180), t175, t176)) else (none)) else (none)) = some (r1, r2, r3) := H; have A41 := aM A410; clear A410
   by_cases c42 : 0 ≤ a1
   ·rw [if_pos c42] at H
    have c42b0 : decide (0 ≤ a1) = true := decide_eq_true c42; clear c42
    by_cases c43 : a1 < (t172.length : Int)
    ·rw [if_pos c43] at H
     have c43b0 : decide (a1 < (t172.length : Int)) = true := decide_eq_true c43; clear c43; obtain ⟨y181, hy181⟩ : ∃ y_ : List ByteArray, y_ = (t172.set (a1 : Int).toNat t180) := ⟨_, rfl⟩
     replace H : (some (y181, t175, t176)) = some (r1, r2, r3) := by first | (rw [hy181]; with_reducible exact H) | (have H2_ := (Option.bind_some _ _).symm.trans H; rw [hy181]; with_reducible exact H2_) | (have H2_ := (Option.bind_some _ _).symm.trans H; with_reducible exact H2_) | with_reducible exact H | (rw [hy181]; exact H) | exact H
     have Ny181 := aM hy181; clear hy181
     simp only [Option.some.injEq, Prod.mk.injEq] at H
     obtain ⟨rfl, rfl, rfl⟩ := H
     go_enter Try.func60, Try.ntmps60
     try go_wp2_with (first | ((with_reducible refine gate_dst (N := 2) rfl ?_); refine box_event ?hg (N := 2) ?hd (cs := #[.slice A0_0 l0_0.length c0_0, .string a0_1, .string a0_2]) (t := 27) ?hr ?_; (case hd => rfl); (case hg => rfl); (case hr => first | (go_simp; done) | (go_simp; rfl)); intro gb167 hg w45 hbox hb; have BK167 := aM (hbox); have GW167 := aM ((by rw [hg]; exact (zZ (zH HB.out)) : w.heap.size ≤ gb167)); have GE167 := aM ((by rw [hg]; exact (zZ (zH HB.out)) : w.heap.size ≤ gb167)); replace HB := aM (zT (zH HB.out) hb); clear hb hbox hg) | ((with_reducible refine gate_dst (N := 4) rfl ?_); refine box_event ?hg (N := 4) ?hd (cs := #[.slice none 0 0, .string (⟨#[]⟩ : ByteArray), .string (⟨#[]⟩ : ByteArray)]) (t := 27) ?hr ?_; (case hd => rfl); (case hg => rfl); (case hr => first | (go_simp; done) | (go_simp; rfl)); intro gb168 hg w46 hbox hb; have BK168 := aM (hbox); have GW168 := aM ((by rw [hg]; exact (zZ (zH HB.out)) : w.heap.size ≤ gb168)); have GE168 := aM ((by rw [hg]; exact (zZ (zH HB.out)) : w.heap.size ≤ gb168)); replace HB := aM (zT (zH HB.out) hb); have NB167_168 := nL BK167.out hg; have NB168_167 := nR BK167.out hg; replace BK167 := yK BK167.out hb; clear hb hbox hg; have hnb47 := NB167_168.out; have hnc47 := NB168_167.out; have hcz48_0 : w46.cell? ⟨gb167, 0, none⟩ = some (.slice A0_0 l0_0.length c0_0) := yc BK167.out 0; have hcz48_1 : w46.cell? ⟨gb167, 1, none⟩ = some (.string a0_1) := yc BK167.out 1; have hcz48_2 : w46.cell? ⟨gb167, 2, none⟩ = some (.string a0_2) := yc BK167.out 2; have hfz48_0 := yZ BK167.out 0; have hfz48_1 := yZ BK167.out 1; have hfz48_2 := yZ BK167.out 2) | ((with_reducible refine gate_dst (N := 10) rfl ?_); refine Kd.R_lit (Kd.int .i64) _ 3 ?hg (N := 10) ?hd (xs := ([a1] : List Int)) (inner := [.int .i64 a1]) (ok := fun _ => True) (okp := fun _ => True) ?hr ?hp (fun _ hk => hk) trivial (Below.refl _ _) (Nat.le_refl _) (by simp) ?_; (case hd => rfl); (case hg => rfl); (case hr => first | (go_simp; done) | (go_simp; rfl)); (case hp => exact (Reps.one (show Kd.M (Kd.int .i64) _ _ _ a1 [.int .i64 a1] from rfl) (Reps.none _ _))); intro v170 w49 ho50 hb hg_ hnew_; clear hg_ hnew_; (first | rw [← Ny169.out] at ho50 | (simp only [Int.reduceToNat] at ho50; rw [← Ny169.out] at ho50)); have HO171 := aM (xL ho50 (zZ (zH HB.out))); replace BK167 := yK BK167.out hb; replace BK168 := yK BK168.out hb; replace HB := aM (zT (zH HB.out) hb); clear hb ho50; obtain ⟨Ao51, co51, eo51⟩ := Kd.R_slice HO171.out; subst eo51) | ((with_reducible refine gate_callee (f := 56) rfl ?_); refine goesL_ (some 11) rfl rfl Try.func56 (by kernel_rfl) rfl #[.agg #[.slice A0_0 l0_0.length c0_0, .string a0_1, .string a0_2], .slice Ao51 y169.length co51] rfl mA ?_; (with_reducible refine (impl_without.calls k _ _ l0_0 a0_1 a0_2 _ _ y169 t172 t175 t176 _ ?side1 ?side2 ?side3 ?side4 A3.out).mono ?_); (case side1 => exact cK HR0_0.out HB.out); (case side2 => exact HC0_0.out); (case side3 => exact cS (Kd.R_reads' HO171.out).2.2); (case side4 => exact (Kd.R_reads' HO171.out).2.1); rintro e w52 ⟨v173, rfl, ho0, hb⟩; refine ⟨_, rfl, ?_⟩; replace HO171 := xK HO171.out hb; have HO174 := aM (xL ho0 (zZ (zH HB.out))); replace BK167 := yK BK167.out hb; replace BK168 := yK BK168.out hb; replace HB := aM (zT (zH HB.out) hb); (try clear hb); (try clear ho0)) | ((with_reducible refine gate_dst (N := 5) rfl ?_); refine box_event ?hg (N := 5) ?hd (cs := #[.slice none 0 0, .string (⟨#[]⟩ : ByteArray), .string (⟨#[]⟩ : ByteArray)]) (t := 27) ?hr ?_; (case hd => rfl); (case hg => rfl); (case hr => first | (go_simp; done) | (go_simp; rfl)); intro gb177 hg w53 hbox hb; replace HO171 := xK HO171.out hb; replace HO174 := xK HO174.out hb; have BK177 := aM (hbox); have GW177 := aM ((by rw [hg]; exact (zZ (zH HB.out)) : w.heap.size ≤ gb177)); have GE177 := aM ((by rw [hg]; exact (zZ (zH HB.out)) : w.heap.size ≤ gb177)); replace HB := aM (zT (zH HB.out) hb); have NB167_177 := nL BK167.out hg; have NB177_167 := nR BK167.out hg; replace BK167 := yK BK167.out hb; have NB168_177 := nL BK168.out hg; have NB177_168 := nR BK168.out hg; replace BK168 := yK BK168.out hb; clear hb hbox hg; obtain ⟨Ao54, co54, eo54⟩ := Kd.R_slice HO174.out; subst eo54; have hnb55 := NB177_167.out; have hnc55 := NB167_177.out; have hnb56 := NB177_168.out; have hnc56 := NB168_177.out; have hcz57_0 : w53.cell? ⟨gb177, 0, none⟩ = some (.slice none 0 0) := yc BK177.out 0; have hcz57_1 : w53.cell? ⟨gb177, 1, none⟩ = some (.string (⟨#[]⟩ : ByteArray)) := yc BK177.out 1; have hcz57_2 : w53.cell? ⟨gb177, 2, none⟩ = some (.string (⟨#[]⟩ : ByteArray)) := yc BK177.out 2; have hfz57_0 := yZ BK177.out 0; have hfz57_1 := yZ BK177.out 1; have hfz57_2 := yZ BK177.out 2) | ((with_reducible refine gate_callee (f := 46) rfl ?_); refine goesL_ (some 15) rfl rfl Try.func46 (by kernel_rfl) rfl #[.slice Ao54 t172.length co54] rfl mA ?_; (with_reducible refine (impl_parities.calls k _ _ t172 t178 t179 _ ?side1 ?side2 A4.out).mono ?_); (case side1 => exact rC (n := t172.length) (c := co54) ((x3 HO174.out BK177.out (by decide) (.slice Ao54 t172.length co54) (.string t175) (.string t176)))); (case side2 => exact (Kd.R_reads' HO174.out).2.1); rintro e w58 ⟨rfl, hb⟩; refine ⟨_, rfl, ?_⟩; replace HO171 := aM (xB (xH ((x3 HO171.out BK177.out (by decide) (.slice Ao54 t172.length co54) (.string t175) (.string t176)))) hb); replace HO174 := aM (xB (xH ((x3 HO174.out BK177.out (by decide) (.slice Ao54 t172.length co54) (.string t175) (.string t176)))) hb); replace BK167 := aM (yB (g := gb167) (o := .cells #[.slice A0_0 l0_0.length c0_0, .string a0_1, .string a0_2] 27 (0, 0)) (by refine yW ?_; refine yF ?_ NB167_177.out _; refine yW ?_; refine yF ?_ NB167_177.out _; refine yW ?_; refine yF ?_ NB167_177.out _; refine yW ?_; exact BK167.out) hb); replace BK168 := aM (yB (g := gb168) (o := .cells #[.slice none 0 0, .string (⟨#[]⟩ : ByteArray), .string (⟨#[]⟩ : ByteArray)] 27 (0, 0)) (by refine yW ?_; refine yF ?_ NB168_177.out _; refine yW ?_; refine yF ?_ NB168_177.out _; refine yW ?_; refine yF ?_ NB168_177.out _; refine yW ?_; exact BK168.out) hb); replace BK177 := aM (yB (g := gb177) (o := .cells #[.slice Ao54 t172.length co54, .string t175, .string t176] 27 (0, 0)) (by refine yW ?_; refine yP (cs := #[.slice Ao54 t172.length co54, .string t175, .string (⟨#[]⟩ : ByteArray)]) ?_ 2 _ rfl; refine yW ?_; refine yP (cs := #[.slice Ao54 t172.length co54, .string (⟨#[]⟩ : ByteArray), .string (⟨#[]⟩ : ByteArray)]) ?_ 1 _ rfl; refine yW ?_; refine yP (cs := #[.slice none 0 0, .string (⟨#[]⟩ : ByteArray), .string (⟨#[]⟩ : ByteArray)]) ?_ 0 _ rfl; refine yW ?_; exact BK177.out) hb); replace HB := aM (zT (zH HB.out) hb); (try clear hb); have hcz59_0 : w58.cell? ⟨gb167, 0, none⟩ = some (.slice A0_0 l0_0.length c0_0) := yc BK167.out 0; have hcz59_1 : w58.cell? ⟨gb167, 1, none⟩ = some (.string a0_1) := yc BK167.out 1; have hcz59_2 : w58.cell? ⟨gb167, 2, none⟩ = some (.string a0_2) := yc BK167.out 2; have hfz59_0 := yZ BK167.out 0; have hfz59_1 := yZ BK167.out 1; have hfz59_2 := yZ BK167.out 2))
     replace HO171 := aM (xD HO171.out); replace HO174 := aM (xD HO174.out); replace BK167 := aM (yD BK167.out); replace BK168 := aM (yD BK168.out); replace BK177 := aM (yD BK177.out); replace HB := aM (zD HB.out)
     refine start_ (n := 9) (S := fun w' => w'.cell? ⟨gb177, 0, none⟩ = some (.slice Ao54 t172.length co54) ∧ w'.cell? ⟨gb177, 1, none⟩ = some (.string t175) ∧ w'.cell? ⟨gb177, 2, none⟩ = some (.string t176) ∧ w'.cell? ⟨gb167, 0, none⟩ = some (.slice A0_0 l0_0.length c0_0) ∧ w'.cell? ⟨gb167, 1, none⟩ = some (.string a0_1) ∧ w'.cell? ⟨gb167, 2, none⟩ = some (.string a0_2)) (ds := [8]) #[fF,fF,fF,fF,fF,fF,fF,fF,fF] (by kernel_rfl) rfl rfl ⟨yc BK177.out 0, yc BK177.out 1, yc BK177.out 2, yc BK167.out 0, yc BK167.out 1, yc BK167.out 2⟩ (fun hHeld => ?_); refine with_tabW impl_recoverOne.tab4 impl_recoverOne.bits4 (fun HT_ HW_ => ?_)
     generalize w58.drew = w60 at HO171 HO174 BK167 BK168 BK177 HB hHeld ⊢
     refine pure_ (i := 0) (N := some 23) (v := ?_) (a' := ?_) #[tT,fF,fF,fF,fF,fF,fF,fF,fF] rfl rfl (any_of HT_.out (by kernel_rfl)) (fun _ _ _ h => h) (Or.inl ⟨by rfl, ?_⟩) ?_ ?_
     rotate_left
     ·intro w'
      go_simp
      with_reducible rfl
     rotate_left
     ·simp only [Act.put, qA, qB, qC, i64_w, i32_w]
      rfl
     refine pure_ (i := 2) (N := some 25) (v := ?_) (a' := ?_) #[tT,fF,tT,fF,fF,fF,fF,fF,fF] rfl rfl (any_of HT_.out (by kernel_rfl)) (fun _ _ _ h => h) (Or.inl ⟨by rfl, ?_⟩) ?_ ?_
     rotate_left
     ·intro w'
      go_simp
      with_reducible rfl
     rotate_left
     ·simp only [Act.put, qA, qB, qC, i64_w, i32_w]
      rfl
     refine pure_ (i := 3) (N := some 26) (v := ?_) (a' := ?_) #[tT,fF,tT,tT,fF,fF,fF,fF,fF] rfl rfl (any_of HT_.out (by kernel_rfl)) (fun _ _ _ h => h) (Or.inl ⟨by rfl, ?_⟩) ?_ ?_
     rotate_left
     ·intro w'
      go_simp
      with_reducible rfl
     rotate_left
     ·simp only [Act.put, qA, qB, qC, i64_w, i32_w]
      rfl
     refine pure_ (i := 4) (N := some 27) (v := ?_) (a' := ?_) #[tT,fF,tT,tT,tT,fF,fF,fF,fF] rfl rfl (any_of HT_.out (by kernel_rfl)) (fun _ _ _ h => h) (Or.inl ⟨by rfl, ?_⟩) ?_ ?_
     rotate_left
     ·intro w'
      go_simp
      with_reducible rfl
     rotate_left
     ·simp only [Act.put, qA, qB, qC, i64_w, i32_w]
      rfl
     refine take_ (i := 1) (N := some 24) (v := ?_) (a' := ?_) #[tT,tT,tT,tT,tT,fF,fF,fF,fF] rfl rfl (take_ofW HT_.out HW_.out (by kernel_rfl)) (fun _ _ _ h => h) (Or.inl ⟨by rfl, ?_⟩) hHeld ?_ ?_
     rotate_left
     ·rintro w' ⟨s0, s1, s2, s3, s4, s5⟩
      go_simp
      with_reducible rfl
     rotate_left
     ·simp only [Act.put, qA, qB, qC, i64_w, i32_w]
      rfl
     refine take_ (i := 5) (N := some 28) (v := ?_) (a' := ?_) #[tT,tT,tT,tT,tT,tT,fF,fF,fF] rfl rfl (take_ofW HT_.out HW_.out (by kernel_rfl)) (fun _ _ _ h => h) (Or.inl ⟨by rfl, ?_⟩) hHeld ?_ ?_
     rotate_left
     ·rintro w' ⟨s0, s1, s2, s3, s4, s5⟩
      go_simp
      with_reducible rfl
     rotate_left
     ·simp only [Act.put, qA, qB, qC, i64_w, i32_w]
      rfl
     refine one_ (i := 6) (N := some 29) #[tT,tT,tT,tT,tT,tT,tT,fF,fF] rfl rfl (one_of HT_.out (by kernel_rfl)) (by decide) (fun K hK => ?_)
     refine gS Try.func57 (by kernel_rfl) rfl #[.string t178, .string a0_1] (by rfl) rfl rfl ?_
     with_reducible refine (impl_xor.calls t178 a0_1 t180 _ A41.out).mono ?_
     rintro e w61 ⟨rfl, hb⟩
     refine ⟨_, rfl, ?_⟩
     replace HO171 := xK HO171.out hb; replace HO174 := xK HO174.out hb; replace BK167 := yK BK167.out hb; replace BK168 := yK BK168.out hb; replace BK177 := yK BK177.out hb; replace HB := aM (zT (zH HB.out) hb)
     (try clear hb)
     have p44 : 0 ≤ (a1 : Int) := of_decide_eq_true (by first | (with_reducible assumption) | assumption)
     have q44 : (a1 : Int) < ((t172.length : Int) : Int) := of_decide_eq_true (by first | (with_reducible assumption) | assumption)
     obtain ⟨go44, co44, eo44, gb44, gl44, cl44, HG44⟩ := Kd.R_form HO174.out (by omega)
     (first | cases eo44 | (injection eo44 with ea_ en_ ec_; (first | subst ea_ | (injection ea_ with ea_; subst ea_)); subst ec_; clear en_))
     have GB44 := aM gb44; have GG44 := aM HG44; clear gb44 gl44 HG44; obtain ⟨hx44_0, hf44_0⟩ := Kd.R_celln (⟨#[]⟩ : ByteArray) HO174.out (a1 : Int) p44 q44; replace p44 := eq_true p44; replace q44 := eq_true q44; have HP62 := Kd.R_putn HO174.out (a1 : Int) t180
     rw [← Ny181.out] at HP62
     have HQ62 := aM HP62; clear HP62
     refine hK.out _ _ ⟨yc BK177.out 0, yc BK177.out 1, yc BK177.out 2, yc BK167.out 0, yc BK167.out 1, yc BK167.out 2⟩ (fun hHeld => ?_)
     clear hK K; refine norm_ (a' := ?_) ?_ ?_; rotate_left
     ·show Act.put _ (some 29) _ = _
      simp only [Act.put, qA, qB, qC, i64_w, i32_w]
      rfl
     refine pure_ (i := 7) (N := some 30) (v := ?_) (a' := ?_) #[tT,tT,tT,tT,tT,tT,tT,tT,fF] rfl rfl (any_of HT_.out (by kernel_rfl)) (fun _ _ _ h => h) (Or.inl ⟨by rfl, ?_⟩) ?_ ?_
     rotate_left
     ·intro w'
      go_simp
      with_reducible rfl
     rotate_left
     ·simp only [Act.put, qA, qB, qC, i64_w, i32_w]
      rfl
     refine last_ (i := 8) (N := none) #[tT,tT,tT,tT,tT,tT,tT,tT,tT] rfl rfl (one_of HT_.out (by kernel_rfl)) (by decide) (fun K hK => ?_)
     refine skip_ (w1 := ?_) (by rfl) rfl ?_ ?_
     rotate_left
     ·go_simp
      rfl
     refine hK.out _ _ ?_
     clear hK K
     refine done_ (done_of HT_.out (by kernel_rfl)) ?_
     have n0_ : Aside0 (Kd.R (Kd.int .i64) 3 (w61.setCell ⟨go44, (a1 : Int).toNat, none⟩ (.string t180)) w.heap.size (fun _ => True) (.slice Ao51 y169.length co51) y169) := ⟨by (with_reducible repeat (first | apply xA | apply xN | apply xD)); first | exact xM (xF (p := ⟨go44, (a1 : Int).toNat, none⟩) (xT HO171.out GG44.out (by decide)) (fun _ hk => hk.2) (.string t180)) (fun _ hk => trivial) | (obtain ⟨_, _, _, q_, hq_, cl_, HG_⟩ := (Kd.R_bound HO174.out).1 go44 rfl; obtain rfl : q_ = 9 := (by first | exact List.mem_singleton.mp hq_ | simpa using hq_); exact xM (xF (p := ⟨go44, (a1 : Int).toNat, none⟩) (xT HO171.out HG_ (by decide)) (fun _ hk => hk.2) (.string t180)) (fun _ hk => trivial))⟩
     have n1_ : Aside0 (Kd.R Kd.string 9 (w61.setCell ⟨go44, (a1 : Int).toNat, none⟩ (.string t180)) w.heap.size (fun _ => True) (.slice (some ⟨go44, 0, none⟩) t172.length co54) y181) := ⟨xH HQ62.out⟩
     have n2_ : Aside0 ((w61.setCell ⟨go44, (a1 : Int).toNat, none⟩ (.string t180)).heap[gb167]? = some (.cells #[.slice A0_0 l0_0.length c0_0, .string a0_1, .string a0_2] 27 (0, 0))) := ⟨by refine yW ?_; refine yF ?_ (by have h_ := Kd.R_ne HO174.out BK167.out (by decide); intro e_; exact h_ (by rw [e_]; rfl)) _; refine yW ?_; exact BK167.out⟩
     have n3_ : Aside0 ((w61.setCell ⟨go44, (a1 : Int).toNat, none⟩ (.string t180)).heap[gb168]? = some (.cells #[.slice none 0 0, .string (⟨#[]⟩ : ByteArray), .string (⟨#[]⟩ : ByteArray)] 27 (0, 0))) := ⟨by refine yW ?_; refine yF ?_ (by have h_ := Kd.R_ne HO174.out BK168.out (by decide); intro e_; exact h_ (by rw [e_]; rfl)) _; refine yW ?_; exact BK168.out⟩
     have n4_ : Aside0 ((w61.setCell ⟨go44, (a1 : Int).toNat, none⟩ (.string t180)).heap[gb177]? = some (.cells #[.slice (some ⟨go44, 0, none⟩) t172.length co54, .string t175, .string t176] 27 (0, 0))) := ⟨by refine yW ?_; refine yF ?_ (by have h_ := Kd.R_ne HO174.out BK177.out (by decide); intro e_; exact h_ (by rw [e_]; rfl)) _; refine yW ?_; exact BK177.out⟩
     have n5_ : Aside0 (Below w.heap.size w (w61.setCell ⟨go44, (a1 : Int).toNat, none⟩ (.string t180))) := ⟨by repeat (first | (with_reducible first | exact HB.out | apply zA | apply zN | apply zD | refine zS ?_ GB44.out | refine zS ?_ GE167.out | refine zS ?_ GE168.out | refine zS ?_ GE177.out) | exact HB.out)⟩
     (try clear HO171); (try clear HO174); (try clear BK167); (try clear BK168); (try clear BK177); (try clear HB)
     generalize (w61.setCell ⟨go44, (a1 : Int).toNat, none⟩ (.string t180)) = w63 at n0_ n1_ n2_ n3_ n4_ n5_ ⊢
     have HO171 := n0_; have HO174 := n1_; have BK167 := n2_; have BK168 := n3_; have BK177 := n4_; have HB := n5_; clear n0_ n1_ n2_ n3_ n4_ n5_; have hcz64_0 : w63.cell? ⟨gb177, 0, none⟩ = some (.slice (some ⟨go44, 0, none⟩) t172.length co54) := yc BK177.out 0; have hcz64_1 : w63.cell? ⟨gb177, 1, none⟩ = some (.string t175) := yc BK177.out 1; have hcz64_2 : w63.cell? ⟨gb177, 2, none⟩ = some (.string t176) := yc BK177.out 2; have hfz64_0 := yZ BK177.out 0; have hfz64_1 := yZ BK177.out 1; have hfz64_2 := yZ BK177.out 2; have hcz65_0 : w63.cell? ⟨gb168, 0, none⟩ = some (.slice none 0 0) := yc BK168.out 0; have hcz65_1 : w63.cell? ⟨gb168, 1, none⟩ = some (.string (⟨#[]⟩ : ByteArray)) := yc BK168.out 1; have hcz65_2 : w63.cell? ⟨gb168, 2, none⟩ = some (.string (⟨#[]⟩ : ByteArray)) := yc BK168.out 2; have hfz65_0 := yZ BK168.out 0; have hfz65_1 := yZ BK168.out 1; have hfz65_2 := yZ BK168.out 2
     try go_wp2
     refine bodyPost_ret (results_cell_row rfl _ _ gb168 27 #[.slice (some ⟨go44, 0, none⟩) t172.length co54, .string t175, .string t176] (0, 0) _ rfl (by refine yW ?_; refine yP (cs := #[.slice (some ⟨go44, 0, none⟩) t172.length co54, .string t175, .string (⟨#[]⟩ : ByteArray)]) ?_ 2 _ rfl; refine yW ?_; refine yP (cs := #[.slice (some ⟨go44, 0, none⟩) t172.length co54, .string (⟨#[]⟩ : ByteArray), .string (⟨#[]⟩ : ByteArray)]) ?_ 1 _ rfl; refine yW ?_; refine yP (cs := #[.slice none 0 0, .string (⟨#[]⟩ : ByteArray), .string (⟨#[]⟩ : ByteArray)]) ?_ 0 _ rfl; refine yW ?_; exact BK168.out) Try.underlying27 rfl (by kernel_rfl)) rfl ?_
     exact ⟨_, eW, xH (xM (xF (p := ⟨gb168, 2, none⟩) (xF (p := ⟨gb168, 1, none⟩) (xF (p := ⟨gb168, 0, none⟩) (xT HO174.out BK168.out (by decide)) (fun _ hk => hk.2) (.slice (some ⟨go44, 0, none⟩) t172.length co54)) (fun _ hk => hk.2) (.string t175)) (fun _ hk => hk.2) (.string t176)) (fun _ hk => trivial)), zH HB.out⟩
    ·rw [if_neg c43] at H
     exact absurd H (by simp)
   ·rw [if_neg c42] at H
    exact absurd H (by simp)

/-! ### impl_FindWrong: function 30 -/
mutual
def impl_FindWrong.j0 : Nat → Bool → List ByteArray → ByteArray → ByteArray → Option (Int × Bool)
 | 0, _, _, _, _ => none
 | k + 1, x12, x183000, x183001, x183002 => if x12 = true then (some (0, false)) else (impl_FindWrong.l0 k (([] : List Int)) (wrap64 ((x183000.length : Int) + 2)) 0 x183000 x183001 x183002)
def impl_FindWrong.l0 : Nat → List Int → Int → Int → List ByteArray → ByteArray → ByteArray → Option (Int × Bool)
 | 0, _, _, _, _, _, _ => none
 | k + 1, x4, x17, x18, x183000, x183001, x183002 => if x18 < x17 then ((impl_recoverOne.f k x183000 x183001 x183002 x18).bind fun bt189 => ((impl_isConsistent.f k bt189.1 bt189.2.1 bt189.2.2).bind fun t194 => (if t194 = true then (if x4.length < 17592186044416 then (impl_FindWrong.l0 k (x4 ++ [x18]) x17 (wrap64 (x18 + 1)) x183000 x183001 x183002) else (none)) else (impl_FindWrong.l0 k x4 x17 (wrap64 (x18 + 1)) x183000 x183001 x183002)))) else (if (x4.length : Int) = 1 then (if 0 < (x4.length : Int) then (some (rd x4 0, true)) else (none)) else (some (0, false)))
end
def impl_FindWrong.f (k : Nat) (l0_0 : List ByteArray) (a0_1 : ByteArray) (a0_2 : ByteArray) : Option (Int × Bool) := (impl_GoodStripe.f l0_0 a0_1 a0_2).bind fun t183 => (if t183 = true then ((impl_isConsistent.f k l0_0 a0_1 a0_2).bind fun t184 => (impl_FindWrong.j0 k t184 l0_0 a0_1 a0_2)) else (impl_FindWrong.j0 k true l0_0 a0_1 a0_2))
theorem impl_FindWrong.mono_l : ∀ k, (∀ y0 y1 y2 y3, LeO (impl_FindWrong.j0 k y0 y1 y2 y3) (impl_FindWrong.j0 (k + 1) y0 y1 y2 y3)) ∧ (∀ y0 y1 y2 y3 y4 y5, LeO (impl_FindWrong.l0 k y0 y1 y2 y3 y4 y5) (impl_FindWrong.l0 (k + 1) y0 y1 y2 y3 y4 y5))
 | 0 => ⟨fun _ _ _ _ r h => by simp [impl_FindWrong.j0] at h, fun _ _ _ _ _ _ r h => by simp [impl_FindWrong.l0] at h⟩
 | k + 1 => by
  obtain ⟨ih0, ih1⟩ := impl_FindWrong.mono_l k
  refine ⟨?_, ?_⟩
  ·intro y0 y1 y2 y3
   unfold impl_FindWrong.j0
   repeat' first
   | (with_reducible exact ih0 _ _ _ _)
   | (with_reducible exact ih1 _ _ _ _ _ _)
   | (with_reducible exact impl_isConsistent.mono _ _ _ _)
   | (with_reducible exact impl_recoverOne.mono _ _ _ _ _)
   | (with_reducible exact LeO.refl _)
   | (with_reducible exact LeO.none _)
   | (with_reducible refine LeO.ite ?_ ?_)
   | (with_reducible refine LeO.bind ?_ (fun _ => ?_))
   | exact ih0 _ _ _ _
   | exact ih1 _ _ _ _ _ _
   | exact impl_isConsistent.mono _ _ _ _
   | exact impl_recoverOne.mono _ _ _ _ _
   | exact LeO.none _
   | refine LeO.ite ?_ ?_
   | refine LeO.bind ?_ (fun _ => ?_)
  ·intro y0 y1 y2 y3 y4 y5
   unfold impl_FindWrong.l0
   repeat' first
   | (with_reducible exact ih0 _ _ _ _)
   | (with_reducible exact ih1 _ _ _ _ _ _)
   | (with_reducible exact impl_isConsistent.mono _ _ _ _)
   | (with_reducible exact impl_recoverOne.mono _ _ _ _ _)
   | (with_reducible exact LeO.refl _)
   | (with_reducible exact LeO.none _)
   | (with_reducible refine LeO.ite ?_ ?_)
   | (with_reducible refine LeO.bind ?_ (fun _ => ?_))
   | exact ih0 _ _ _ _
   | exact ih1 _ _ _ _ _ _
   | exact impl_isConsistent.mono _ _ _ _
   | exact impl_recoverOne.mono _ _ _ _ _
   | exact LeO.none _
   | refine LeO.ite ?_ ?_
   | refine LeO.bind ?_ (fun _ => ?_)
theorem impl_FindWrong.mono : ∀ a0 a1 a2 k, LeO (impl_FindWrong.f k a0 a1 a2) (impl_FindWrong.f (k + 1) a0 a1 a2) := by
 intro a0 a1 a2 k
 obtain ⟨ih0, ih1⟩ := impl_FindWrong.mono_l k
 unfold impl_FindWrong.f
 repeat' first
   | (with_reducible exact ih0 _ _ _ _)
   | (with_reducible exact ih1 _ _ _ _ _ _)
   | (with_reducible exact impl_isConsistent.mono _ _ _ _)
   | (with_reducible exact impl_recoverOne.mono _ _ _ _ _)
   | (with_reducible exact LeO.refl _)
   | (with_reducible exact LeO.none _)
   | (with_reducible refine LeO.ite ?_ ?_)
   | (with_reducible refine LeO.bind ?_ (fun _ => ?_))
   | exact ih0 _ _ _ _
   | exact ih1 _ _ _ _ _ _
   | exact impl_isConsistent.mono _ _ _ _
   | exact impl_recoverOne.mono _ _ _ _ _
   | exact LeO.none _
   | refine LeO.ite ?_ ?_
   | refine LeO.bind ?_ (fun _ => ?_)
set_option maxHeartbeats 8000000 in
set_option maxRecDepth 100000 in
theorem impl_FindWrong.calls (k : Nat) (A0_0 : Option Addr) (c0_0 : Nat) (l0_0 : List ByteArray) (a0_1 : ByteArray) (a0_2 : ByteArray) (r1 : Int) (r2 : Bool) (w : World) (hr0_0 : Kd.C Kd.string w A0_0 l0_0.length l0_0) (hc0_0 : l0_0.length ≤ c0_0) (h : impl_FindWrong.f k l0_0 a0_1 a0_2 = some (r1, r2)) :
  Calls Try.prog 30 #[.agg #[.slice A0_0 l0_0.length c0_0, .string a0_1, .string a0_2]] w fun e w' => e = .returned (.tuple #[.int .i64 r1, .bool r2]) ∧ Below w.heap.size w w' := by
 have hu27 := Try.underlying27; have HR0_0 := aM hr0_0; have HC0_0 := aM hc0_0; clear hr0_0 hc0_0; have HB := aM (Below.refl w.heap.size w)
 have H : ((impl_GoodStripe.f l0_0 a0_1 a0_2).bind fun t183 => (if t183 = true then ((impl_isConsistent.f k l0_0 a0_1 a0_2).bind fun t184 => (impl_FindWrong.j0 k t184 l0_0 a0_1 a0_2)) else (impl_FindWrong.j0 k true l0_0 a0_1 a0_2))) = some (r1, r2) := h
 clear h; have HC2 := aM H; clear H
 go_enter Try.func30, Try.ntmps30
 go_upto_region 1 with (first | ((with_reducible refine gate_dst (N := 1) rfl ?_); refine box_event ?hg (N := 1) ?hd (cs := #[.slice A0_0 l0_0.length c0_0, .string a0_1, .string a0_2]) (t := 27) ?hr ?_; (case hd => rfl); (case hg => rfl); (case hr => first | (go_simp; done) | (go_simp; rfl)); intro gb182 hg w3 hbox hb; have BK182 := aM (hbox); have GW182 := aM ((by rw [hg]; exact (zZ (zH HB.out)) : w.heap.size ≤ gb182)); have GE182 := aM ((by rw [hg]; exact (zZ (zH HB.out)) : w.heap.size ≤ gb182)); replace HB := aM (zT (zH HB.out) hb); clear hb hbox hg))
 (try simp only [Act.put, qA, qB, qC])
 go_cut [12] (fun v12 wc => ∃ (kq : Nat) (x12_1 : Bool), v12 = .bool x12_1 ∧ Aside0 (impl_FindWrong.j0 kq x12_1 l0_0 a0_1 a0_2 = some (r1, r2)) ∧ Aside0 (kq ≤ k) ∧ Aside0 (wc.heap[gb182]? = some (.cells #[(.slice A0_0 l0_0.length c0_0), .string a0_1, .string a0_2] 27 (0, 0))) ∧ Aside0 (Below w.heap.size w wc))
 case first =>
  have H := HC2.out; clear HC2; replace H := Option.bind_eq_some_iff.mp H; obtain ⟨t183, A40, H⟩ := H
  replace H : (if t183 = true then ((impl_isConsistent.f k l0_0 a0_1 a0_2).bind fun t184 => (impl_FindWrong.j0 k t184 l0_0 a0_1 a0_2)) else (impl_FindWrong.j0 k true l0_0 a0_1 a0_2)) = some (r1, r2) := H
  have A4 := aM A40; clear A40
  by_cases c5 : t183 = true
  ·subst c5
   have H1 : ((impl_isConsistent.f k l0_0 a0_1 a0_2).bind fun t184 => (impl_FindWrong.j0 k t184 l0_0 a0_1 a0_2)) = some (r1, r2) := by rw [if_pos rfl] at H; exact H
   clear H; have H := H1; clear H1; replace H := Option.bind_eq_some_iff.mp H; obtain ⟨t184, A60, H⟩ := H; replace H : (impl_FindWrong.j0 k t184 l0_0 a0_1 a0_2) = some (r1, r2) := H; have A6 := aM A60; clear A60; have H' := aM H; clear H; have hcz7_0 : w3.cell? ⟨gb182, 0, none⟩ = some (.slice A0_0 l0_0.length c0_0) := yc BK182.out 0; have hcz7_1 : w3.cell? ⟨gb182, 1, none⟩ = some (.string a0_1) := yc BK182.out 1; have hcz7_2 : w3.cell? ⟨gb182, 2, none⟩ = some (.string a0_2) := yc BK182.out 2; have hfz7_0 := yZ BK182.out 0; have hfz7_1 := yZ BK182.out 1; have hfz7_2 := yZ BK182.out 2
   go_wp2_with (first | ((with_reducible refine gate_callee (f := 15) rfl ?_); refine goesL_ (some 7) rfl rfl Try.func15 (by kernel_rfl) rfl #[.agg #[.slice A0_0 l0_0.length c0_0, .string a0_1, .string a0_2]] rfl mA ?_; (with_reducible refine (impl_GoodStripe.calls _ _ l0_0 a0_1 a0_2 true _ ?side1 ?side2 A4.out).mono ?_); (case side1 => exact cK HR0_0.out HB.out); (case side2 => exact HC0_0.out); rintro e w8 ⟨rfl, hb⟩; refine ⟨_, rfl, ?_⟩; replace BK182 := yK BK182.out hb; replace HB := aM (zT (zH HB.out) hb); (try clear hb); have hcz9_0 : w8.cell? ⟨gb182, 0, none⟩ = some (.slice A0_0 l0_0.length c0_0) := yc BK182.out 0; have hcz9_1 : w8.cell? ⟨gb182, 1, none⟩ = some (.string a0_1) := yc BK182.out 1; have hcz9_2 : w8.cell? ⟨gb182, 2, none⟩ = some (.string a0_2) := yc BK182.out 2; have hfz9_0 := yZ BK182.out 0; have hfz9_1 := yZ BK182.out 1; have hfz9_2 := yZ BK182.out 2) | (go_at_call 44; (with_reducible refine (impl_isConsistent.calls k _ _ l0_0 a0_1 a0_2 t184 _ ?side1 ?side2 A6.out).mono ?_); (case side1 => exact cK HR0_0.out HB.out); (case side2 => exact HC0_0.out); rintro e w10 ⟨rfl, hb⟩; replace BK182 := yK BK182.out hb; replace HB := aM (zT (zH HB.out) hb); (try clear hb)))
   go_meet
   case rel => exact ⟨_, (t184), (by first | rfl | (simp; done) | (simp [*]; done)), H', ⟨by first | omega | exact Nat.le_refl _⟩, ⟨yH BK182.out⟩, ⟨zH HB.out⟩⟩
  ·replace c5 := Bool.eq_false_iff.mpr c5
   subst c5
   have H1 : (impl_FindWrong.j0 k true l0_0 a0_1 a0_2) = some (r1, r2) := by rw [if_neg (show ¬ (false = true) by decide)] at H; exact H
   clear H; have H := H1; clear H1; have H' := aM H; clear H; have hcz11_0 : w3.cell? ⟨gb182, 0, none⟩ = some (.slice A0_0 l0_0.length c0_0) := yc BK182.out 0; have hcz11_1 : w3.cell? ⟨gb182, 1, none⟩ = some (.string a0_1) := yc BK182.out 1; have hcz11_2 : w3.cell? ⟨gb182, 2, none⟩ = some (.string a0_2) := yc BK182.out 2; have hfz11_0 := yZ BK182.out 0; have hfz11_1 := yZ BK182.out 1; have hfz11_2 := yZ BK182.out 2
   go_wp2_with (first | ((with_reducible refine gate_callee (f := 15) rfl ?_); refine goesL_ (some 7) rfl rfl Try.func15 (by kernel_rfl) rfl #[.agg #[.slice A0_0 l0_0.length c0_0, .string a0_1, .string a0_2]] rfl mA ?_; (with_reducible refine (impl_GoodStripe.calls _ _ l0_0 a0_1 a0_2 false _ ?side1 ?side2 A4.out).mono ?_); (case side1 => exact cK HR0_0.out HB.out); (case side2 => exact HC0_0.out); rintro e w12 ⟨rfl, hb⟩; refine ⟨_, rfl, ?_⟩; replace BK182 := yK BK182.out hb; replace HB := aM (zT (zH HB.out) hb); (try clear hb)))
   go_meet
   case rel => exact ⟨_, (true), (by first | rfl | (simp; done) | (simp [*]; done)), H', ⟨by first | omega | exact Nat.le_refl _⟩, ⟨yH BK182.out⟩, ⟨zH HB.out⟩⟩
 case rest =>
  clear HC2
  (try clear c5); (try clear hcz11_0); (try clear hcz11_1); (try clear hcz11_2); (try clear hcz7_0); (try clear hcz7_1); (try clear hcz7_2); (try clear hcz9_0); (try clear hcz9_1); (try clear hcz9_2); (try clear hfz11_0); (try clear hfz11_1); (try clear hfz11_2); (try clear hfz7_0); (try clear hfz7_1); (try clear hfz7_2); (try clear hfz9_0); (try clear hfz9_1); (try clear hfz9_2)
  obtain ⟨kq, x12_1, rfl, HA, HJ1, BK182, HB⟩ := hcut
  cases kq with
  | zero => exact absurd HA.out (fun h_ => by change none = some _ at h_; cases h_)
  | succ kj1 =>
   have H := HA.out; clear HA
   simp only [impl_FindWrong.j0] at H
   by_cases c13 : x12_1 = true
   ·subst c13
    have H1 : (some (0, false)) = some (r1, r2) := by rw [if_pos rfl] at H; exact H
    clear H; have H := H1; clear H1
    simp only [Option.some.injEq, Prod.mk.injEq] at H
    obtain ⟨rfl, rfl⟩ := H
    go_wp2
    go_ret2
    exact ⟨eW, zH HB.out⟩
   ·replace c13 := Bool.eq_false_iff.mpr c13
    subst c13
    have H1 : (impl_FindWrong.l0 kj1 (([] : List Int)) (wrap64 ((l0_0.length : Int) + 2)) 0 l0_0 a0_1 a0_2) = some (r1, r2) := by rw [if_neg (show ¬ (false = true) by decide)] at H; exact H
    clear H; have H := H1; clear H1; obtain ⟨y185, hy185⟩ : ∃ y_ : List Int, y_ = (([] : List Int)) := ⟨_, rfl⟩
    replace H : (impl_FindWrong.l0 kj1 y185 (wrap64 ((l0_0.length : Int) + 2)) 0 l0_0 a0_1 a0_2) = some (r1, r2) := by first | (rw [hy185]; with_reducible exact H) | (have H2_ := (Option.bind_some _ _).symm.trans H; rw [hy185]; with_reducible exact H2_) | (have H2_ := (Option.bind_some _ _).symm.trans H; with_reducible exact H2_) | with_reducible exact H | (rw [hy185]; exact H) | exact H
    have Ny185 := aM hy185; clear hy185; have H' := aM H; clear H
    go_wp2_with (first | ((with_reducible refine gate_dst (N := 13) rfl ?_); refine Kd.R_lit (Kd.int .i64) _ 3 ?hg (N := 13) ?hd (xs := ([] : List Int)) (inner := []) (ok := fun _ => True) (okp := fun _ => True) ?hr ?hp (fun _ hk => hk) trivial (Below.refl _ _) (Nat.le_refl _) (by simp) ?_; (case hd => rfl); (case hg => rfl); (case hr => first | (go_simp; done) | (go_simp; rfl)); (case hp => exact (Reps.none _ _)); intro v186 w14 ho15 hb hg_ hnew_; clear hg_ hnew_; (first | rw [← Ny185.out] at ho15 | (simp only [Int.reduceToNat] at ho15; rw [← Ny185.out] at ho15)); have HO187 := aM (xL ho15 (zZ (zH HB.out))); replace BK182 := yK BK182.out hb; replace HB := aM (zT (zH HB.out) hb); clear hb ho15; have hcz16_0 : w14.cell? ⟨gb182, 0, none⟩ = some (.slice A0_0 l0_0.length c0_0) := yc BK182.out 0; have hcz16_1 : w14.cell? ⟨gb182, 1, none⟩ = some (.string a0_1) := yc BK182.out 1; have hcz16_2 : w14.cell? ⟨gb182, 2, none⟩ = some (.string a0_2) := yc BK182.out 2; have hfz16_0 := yZ BK182.out 0; have hfz16_1 := yZ BK182.out 1; have hfz16_2 := yZ BK182.out 2))
    go_loopg [4, 18] kj1 (fun kq v4 v18 w' => ∃ (x4_2 : List Int) (x18_2 : Int), v18 = .int .i64 x18_2 ∧ Aside0 (impl_FindWrong.l0 kq x4_2 (wrap64 ((l0_0.length : Int) + 2)) x18_2 l0_0 a0_1 a0_2 = some (r1, r2)) ∧ Aside0 (kq ≤ kj1) ∧ Aside0 (Kd.R (Kd.int .i64) 3 w' w.heap.size (fun _ => True) v4 x4_2) ∧ Aside0 (w'.heap[gb182]? = some (.cells #[(.slice A0_0 l0_0.length c0_0), .string a0_1, .string a0_2] 27 (0, 0))) ∧ Aside0 (Below w.heap.size w w'))
    case atStart => exact ⟨(y185), (0), (by first | rfl | (simp; done) | (simp [*]; done)), H', ⟨Nat.le_refl _⟩, ⟨xH HO187.out⟩, ⟨yH BK182.out⟩, ⟨zH HB.out⟩⟩
    case round =>
     clear H'
     (try clear c5); (try clear c13); (try clear hcz11_0); (try clear hcz11_1); (try clear hcz11_2); (try clear hcz16_0); (try clear hcz16_1); (try clear hcz16_2); (try clear hcz7_0); (try clear hcz7_1); (try clear hcz7_2); (try clear hcz9_0); (try clear hcz9_1); (try clear hcz9_2); (try clear hfz11_0); (try clear hfz11_1); (try clear hfz11_2); (try clear hfz16_0); (try clear hfz16_1); (try clear hfz16_2); (try clear hfz7_0); (try clear hfz7_1); (try clear hfz7_2); (try clear hfz9_0); (try clear hfz9_1); (try clear hfz9_2)
     obtain ⟨x4_2, x18_2, rfl, HA, HK2, p0', BK182, HB⟩ := hrel
     cases gk with
     | zero => exact absurd HA.out (fun h_ => by change none = some _ at h_; cases h_)
     | succ k2 =>
      have H := HA.out; clear HA
      simp only [impl_FindWrong.l0] at H
      by_cases c17 : x18_2 < (wrap64 ((l0_0.length : Int) + 2))
      ·rw [if_pos c17] at H
       have c17b0 : decide (x18_2 < (wrap64 ((l0_0.length : Int) + 2))) = true := decide_eq_true c17; clear c17; replace H := Option.bind_eq_some_iff.mp H; obtain ⟨⟨t189, t192, t193⟩, A180, H⟩ := H
       replace H : ((impl_isConsistent.f k2 t189 t192 t193).bind fun t194 => (if t194 = true then (if x4_2.length < 17592186044416 then (impl_FindWrong.l0 k2 (x4_2 ++ [x18_2]) (wrap64 ((l0_0.length : Int) + 2)) (wrap64 (x18_2 + 1)) l0_0 a0_1 a0_2) else (none)) else (impl_FindWrong.l0 k2 x4_2 (wrap64 ((l0_0.length : Int) + 2)) (wrap64 (x18_2 + 1)) l0_0 a0_1 a0_2))) = some (r1, r2) := H
       have A18 := aM A180; clear A180; replace H := Option.bind_eq_some_iff.mp H; obtain ⟨t194, A190, H⟩ := H; replace H : (if t194 = true then (if x4_2.length < 17592186044416 then (impl_FindWrong.l0 k2 (x4_2 ++ [x18_2]) (wrap64 ((l0_0.length : Int) + 2)) (wrap64 (x18_2 + 1)) l0_0 a0_1 a0_2) else (none)) else (impl_FindWrong.l0 k2 x4_2 (wrap64 ((l0_0.length : Int) + 2)) (wrap64 (x18_2 + 1)) l0_0 a0_1 a0_2)) = some (r1, r2) := H; have A19 := aM A190; clear A190
       by_cases c20 : t194 = true
       ·subst c20
        have H1 : (if x4_2.length < 17592186044416 then (impl_FindWrong.l0 k2 (x4_2 ++ [x18_2]) (wrap64 ((l0_0.length : Int) + 2)) (wrap64 (x18_2 + 1)) l0_0 a0_1 a0_2) else (none)) = some (r1, r2) := by rw [if_pos rfl] at H; exact H
        clear H; have H := H1; clear H1
        by_cases c21 : x4_2.length < 17592186044416
        ·rw [if_pos c21] at H
         have LMc21 := aM c21; clear c21; obtain ⟨y195, hy195⟩ : ∃ y_ : List Int, y_ = (x4_2 ++ [x18_2]) := ⟨_, rfl⟩
         replace H : (impl_FindWrong.l0 k2 y195 (wrap64 ((l0_0.length : Int) + 2)) (wrap64 (x18_2 + 1)) l0_0 a0_1 a0_2) = some (r1, r2) := by first | (rw [hy195]; with_reducible exact H) | (have H2_ := (Option.bind_some _ _).symm.trans H; rw [hy195]; with_reducible exact H2_) | (have H2_ := (Option.bind_some _ _).symm.trans H; with_reducible exact H2_) | with_reducible exact H | (rw [hy195]; exact H) | exact H
         have Ny195 := aM hy195; clear hy195; have H' := aM H; clear H; have hcz22_0 : wr.cell? ⟨gb182, 0, none⟩ = some (.slice A0_0 l0_0.length c0_0) := yc BK182.out 0; have hcz22_1 : wr.cell? ⟨gb182, 1, none⟩ = some (.string a0_1) := yc BK182.out 1; have hcz22_2 : wr.cell? ⟨gb182, 2, none⟩ = some (.string a0_2) := yc BK182.out 2; have hfz22_0 := yZ BK182.out 0; have hfz22_1 := yZ BK182.out 1; have hfz22_2 := yZ BK182.out 2
         go_wp2_with (first | ((with_reducible refine gate_callee (f := 60) rfl ?_); refine goesL_ (some 23) rfl rfl Try.func60 (by kernel_rfl) rfl #[.agg #[.slice A0_0 l0_0.length c0_0, .string a0_1, .string a0_2], .int .i64 x18_2] rfl mA ?_; (with_reducible refine (impl_recoverOne.calls k2 _ _ l0_0 a0_1 a0_2 x18_2 t189 t192 t193 _ ?side1 ?side2 A18.out).mono ?_); (case side1 => exact cK HR0_0.out HB.out); (case side2 => exact HC0_0.out); rintro e w23 ⟨v190, rfl, ho0, hb⟩; refine ⟨_, rfl, ?_⟩; replace p0' := xK p0'.out hb; have HO191 := aM (xL ho0 (zZ (zH HB.out))); replace BK182 := yK BK182.out hb; replace HB := aM (zT (zH HB.out) hb); (try clear hb); (try clear ho0); obtain ⟨Ao24, co24, eo24⟩ := Kd.R_slice HO191.out; subst eo24) | ((with_reducible refine gate_callee (f := 44) rfl ?_); refine goesL_ (some 24) rfl rfl Try.func44 (by kernel_rfl) rfl #[.agg #[.slice Ao24 t189.length co24, .string t192, .string t193]] rfl mA ?_; (with_reducible refine (impl_isConsistent.calls k2 _ _ t189 t192 t193 true _ ?side1 ?side2 A19.out).mono ?_); (case side1 => exact cS (Kd.R_reads' HO191.out).2.2); (case side2 => exact (Kd.R_reads' HO191.out).2.1); rintro e w25 ⟨rfl, hb⟩; refine ⟨_, rfl, ?_⟩; replace p0' := xK p0'.out hb; replace HO191 := xK HO191.out hb; replace BK182 := yK BK182.out hb; replace HB := aM (zT (zH HB.out) hb); (try clear hb)) | ((with_reducible refine gate_builtin (b := .append) (xs := #[.tmp 25, .tmp 27]) rfl ?_); at_builtin; refine Kd.R_append (Kd.int .i64) (w0 := w) w.heap.size rfl (.tmp 25) (.tmp 27) 55 3 (.int .i64 0) 8 rfl Try.underlying55 info3 rfl (by decide) (by omega) u4 x4_2 x18_2 [.int .i64 x18_2] (fun _ => True) (fun _ => False) rfl rfl ?aP (fun _ hk => hk.elim) ?aF ?aO ?aB ?aS ?aL ?_; (case aP => exact rfl); (case aB => exact (zH HB.out)); (case aF => exact (fun _ _ => trivial)); (case aO => exact (xH p0'.out)); (case aS => exact (zZ (zH HB.out))); (case aL => have := LMc21.out; omega); intro v196 w26 ho hb hg hat; rw [← Ny195.out] at ho; replace BK182 := aM (blk_grown (g := gb182) (o := .cells #[.slice A0_0 l0_0.length c0_0, .string a0_1, .string a0_2] 27 (0, 0)) (yH BK182.out) hg (Kd.R_ne p0'.out BK182.out (by decide))); replace HO191 := aM (Kd.R_over' (xH HO191.out) (Kd.R_typed (xH p0'.out)) (by decide) hg); replace HB := aM (hb); have HO197 := aM (ho); clear p0'; clear ho hb hg hat))
         go_roundg k2
         case measure => have := HJ1.out; have := HK2.out; omega
         case rel => exact ⟨(y195), (wrap64 (x18_2 + 1)), (by first | rfl | (simp; done) | (simp [*]; done)), H', ⟨by have := HJ1.out; have := HK2.out; omega⟩, ⟨xH HO197.out⟩, ⟨yH BK182.out⟩, ⟨zH HB.out⟩⟩
        ·rw [if_neg c21] at H
         exact absurd H (by simp)
       ·replace c20 := Bool.eq_false_iff.mpr c20
        subst c20
        have H1 : (impl_FindWrong.l0 k2 x4_2 (wrap64 ((l0_0.length : Int) + 2)) (wrap64 (x18_2 + 1)) l0_0 a0_1 a0_2) = some (r1, r2) := by rw [if_neg (show ¬ (false = true) by decide)] at H; exact H
        clear H; have H := H1; clear H1; have H' := aM H; clear H; have hcz27_0 : wr.cell? ⟨gb182, 0, none⟩ = some (.slice A0_0 l0_0.length c0_0) := yc BK182.out 0; have hcz27_1 : wr.cell? ⟨gb182, 1, none⟩ = some (.string a0_1) := yc BK182.out 1; have hcz27_2 : wr.cell? ⟨gb182, 2, none⟩ = some (.string a0_2) := yc BK182.out 2; have hfz27_0 := yZ BK182.out 0; have hfz27_1 := yZ BK182.out 1; have hfz27_2 := yZ BK182.out 2
        go_wp2_with (first | ((with_reducible refine gate_callee (f := 60) rfl ?_); refine goesL_ (some 23) rfl rfl Try.func60 (by kernel_rfl) rfl #[.agg #[.slice A0_0 l0_0.length c0_0, .string a0_1, .string a0_2], .int .i64 x18_2] rfl mA ?_; (with_reducible refine (impl_recoverOne.calls k2 _ _ l0_0 a0_1 a0_2 x18_2 t189 t192 t193 _ ?side1 ?side2 A18.out).mono ?_); (case side1 => exact cK HR0_0.out HB.out); (case side2 => exact HC0_0.out); rintro e w28 ⟨v190, rfl, ho0, hb⟩; refine ⟨_, rfl, ?_⟩; replace p0' := xK p0'.out hb; have HO191 := aM (xL ho0 (zZ (zH HB.out))); replace BK182 := yK BK182.out hb; replace HB := aM (zT (zH HB.out) hb); (try clear hb); (try clear ho0); obtain ⟨Ao29, co29, eo29⟩ := Kd.R_slice HO191.out; subst eo29) | ((with_reducible refine gate_callee (f := 44) rfl ?_); refine goesL_ (some 24) rfl rfl Try.func44 (by kernel_rfl) rfl #[.agg #[.slice Ao29 t189.length co29, .string t192, .string t193]] rfl mA ?_; (with_reducible refine (impl_isConsistent.calls k2 _ _ t189 t192 t193 false _ ?side1 ?side2 A19.out).mono ?_); (case side1 => exact cS (Kd.R_reads' HO191.out).2.2); (case side2 => exact (Kd.R_reads' HO191.out).2.1); rintro e w30 ⟨rfl, hb⟩; refine ⟨_, rfl, ?_⟩; replace p0' := xK p0'.out hb; replace HO191 := xK HO191.out hb; replace BK182 := yK BK182.out hb; replace HB := aM (zT (zH HB.out) hb); (try clear hb)))
        go_roundg k2
        case measure => have := HJ1.out; have := HK2.out; omega
        case rel => exact ⟨(x4_2), (wrap64 (x18_2 + 1)), (by first | rfl | (simp; done) | (simp [*]; done)), H', ⟨by have := HJ1.out; have := HK2.out; omega⟩, ⟨xH p0'.out⟩, ⟨yH BK182.out⟩, ⟨zH HB.out⟩⟩
      ·rw [if_neg c17] at H
       have c17b0 : decide (x18_2 < (wrap64 ((l0_0.length : Int) + 2))) = false := decide_eq_false c17; clear c17
       by_cases c31 : (x4_2.length : Int) = 1
       ·rw [if_pos c31] at H
        have c31b0 : ((x4_2.length : Int) == 1) = true := beq_iff_eq.mpr c31; have c31b1 : ((x4_2.length : Int) != 1) = false := bne_eq_false_iff_eq.mpr c31; clear c31
        by_cases c32 : 0 < (x4_2.length : Int)
        ·rw [if_pos c32] at H
         have c32b0 : decide (0 < (x4_2.length : Int)) = true := decide_eq_true c32
         have c32b1 : decide (0 < x4_2.length) = true := decide_eq_true (by omega)
         clear c32
         simp only [Option.some.injEq, Prod.mk.injEq] at H
         obtain ⟨rfl, rfl⟩ := H; obtain ⟨Ao33, co33, eo33⟩ := Kd.R_slice p0'.out
         subst eo33
         have p188 : 0 ≤ (0 : Int) := (by omega)
         have q188 : 0 < (x4_2.length : Int) := of_decide_eq_true (by first | (with_reducible assumption) | assumption)
         obtain ⟨ad188, e188, hx188_0⟩ := Kd.at_int (Kd.R_reads' p0'.out).2.2 0 p188 q188
         cases e188
         have qi188 : (0 < x4_2.length) = True := eq_true (by omega)
         (try rw [show ((0 : Int)).toNat = 0 from rfl] at hx188_0)
         (try rw [Addr.add_zero'] at hx188_0)
         replace p188 := eq_true p188; replace q188 := eq_true q188
         go_wp2
         go_ret2
         exact ⟨eW, zH HB.out⟩
        ·rw [if_neg c32] at H
         exact absurd H (by simp)
       ·rw [if_neg c31] at H
        have c31b0 : ((x4_2.length : Int) == 1) = false := beq_eq_false_iff_ne.mpr c31; have c31b1 : ((x4_2.length : Int) != 1) = true := bne_iff_ne.mpr c31
        simp only [Option.some.injEq, Prod.mk.injEq] at H
        obtain ⟨rfl, rfl⟩ := H; obtain ⟨Ao34, co34, eo34⟩ := Kd.R_slice p0'.out
        subst eo34
        go_wp2
        go_ret2
        exact ⟨eW, zH HB.out⟩

/-! ### impl_isDisk: function 55 -/
def impl_isDisk.f (l0_0 : List ByteArray) (a0_1 : ByteArray) (a0_2 : ByteArray) (a1 : Int) : Option (Bool) := (impl_GoodStripe.f l0_0 a0_1 a0_2).bind fun t199 => (if t199 = true then ((impl_within.f a1 0 (wrap64 ((l0_0.length : Int) + 1))).bind fun t200 => (some t200)) else (some false))
set_option maxHeartbeats 8000000 in
set_option maxRecDepth 100000 in
theorem impl_isDisk.calls (A0_0 : Option Addr) (c0_0 : Nat) (l0_0 : List ByteArray) (a0_1 : ByteArray) (a0_2 : ByteArray) (a1 : Int) (r : Bool) (w : World) (hr0_0 : Kd.C Kd.string w A0_0 l0_0.length l0_0) (hc0_0 : l0_0.length ≤ c0_0) (h : impl_isDisk.f l0_0 a0_1 a0_2 a1 = some r) :
  Calls Try.prog 55 #[.agg #[.slice A0_0 l0_0.length c0_0, .string a0_1, .string a0_2], .int .i64 a1] w fun e w' => e = .returned (.bool r) ∧ Below w.heap.size w w' := by
 have hu27 := Try.underlying27; have HR0_0 := aM hr0_0; have HC0_0 := aM hc0_0; clear hr0_0 hc0_0; have HB := aM (Below.refl w.heap.size w)
 have H : ((impl_GoodStripe.f l0_0 a0_1 a0_2).bind fun t199 => (if t199 = true then ((impl_within.f a1 0 (wrap64 ((l0_0.length : Int) + 1))).bind fun t200 => (some t200)) else (some false))) = some r := h
 clear h; replace H := Option.bind_eq_some_iff.mp H; obtain ⟨t199, A30, H⟩ := H
 replace H : (if t199 = true then ((impl_within.f a1 0 (wrap64 ((l0_0.length : Int) + 1))).bind fun t200 => (some t200)) else (some false)) = some r := H
 have A3 := aM A30; clear A30
 by_cases c4 : t199 = true
 ·subst c4
  have H1 : ((impl_within.f a1 0 (wrap64 ((l0_0.length : Int) + 1))).bind fun t200 => (some t200)) = some r := by rw [if_pos rfl] at H; exact H
  clear H; have H := H1; clear H1; replace H := Option.bind_eq_some_iff.mp H; obtain ⟨t200, A50, H⟩ := H; replace H : (some t200) = some r := H; have A5 := aM A50; clear A50; obtain rfl := Option.some.inj H
  go_enter Try.func55, Try.ntmps55
  go_wp2_with (first | ((with_reducible refine gate_dst (N := 2) rfl ?_); (try (refine gate_guard (by rfl) ?_; dsimp only)); refine box_event ?hg (N := 2) ?hd (cs := #[.slice A0_0 l0_0.length c0_0, .string a0_1, .string a0_2]) (t := 27) ?hr ?_; (case hd => rfl); (case hg => rfl); (case hr => first | (go_simp; done) | (go_simp; rfl)); intro gb198 hg w6 hbox hb; have BK198 := aM (hbox); have GW198 := aM ((by rw [hg]; exact (zZ (zH HB.out)) : w.heap.size ≤ gb198)); have GE198 := aM ((by rw [hg]; exact (zZ (zH HB.out)) : w.heap.size ≤ gb198)); replace HB := aM (zT (zH HB.out) hb); clear hb hbox hg; have hcz7_0 : w6.cell? ⟨gb198, 0, none⟩ = some (.slice A0_0 l0_0.length c0_0) := yc BK198.out 0; have hcz7_1 : w6.cell? ⟨gb198, 1, none⟩ = some (.string a0_1) := yc BK198.out 1; have hcz7_2 : w6.cell? ⟨gb198, 2, none⟩ = some (.string a0_2) := yc BK198.out 2; have hfz7_0 := yZ BK198.out 0; have hfz7_1 := yZ BK198.out 1; have hfz7_2 := yZ BK198.out 2) | ((with_reducible refine gate_callee (f := 15) rfl ?_); refine goesL_ (some 6) rfl rfl Try.func15 (by kernel_rfl) rfl #[.agg #[.slice A0_0 l0_0.length c0_0, .string a0_1, .string a0_2]] rfl mA ?_; (with_reducible refine (impl_GoodStripe.calls _ _ l0_0 a0_1 a0_2 true _ ?side1 ?side2 A3.out).mono ?_); (case side1 => exact cK HR0_0.out HB.out); (case side2 => exact HC0_0.out); rintro e w8 ⟨rfl, hb⟩; refine ⟨_, rfl, ?_⟩; replace BK198 := yK BK198.out hb; replace HB := aM (zT (zH HB.out) hb); (try clear hb); have hcz9_0 : w8.cell? ⟨gb198, 0, none⟩ = some (.slice A0_0 l0_0.length c0_0) := yc BK198.out 0; have hcz9_1 : w8.cell? ⟨gb198, 1, none⟩ = some (.string a0_1) := yc BK198.out 1; have hcz9_2 : w8.cell? ⟨gb198, 2, none⟩ = some (.string a0_2) := yc BK198.out 2; have hfz9_0 := yZ BK198.out 0; have hfz9_1 := yZ BK198.out 1; have hfz9_2 := yZ BK198.out 2) | (go_at_call 70; (with_reducible refine (impl_within.calls a1 0 (wrap64 ((l0_0.length : Int) + 1)) t200 _ A5.out).mono ?_); rintro e w' ⟨rfl, ⟨nd, rfl⟩⟩))
  go_ret
  exact ⟨eW, zH HB.out⟩
 ·replace c4 := Bool.eq_false_iff.mpr c4
  subst c4
  have H1 : (some false) = some r := by rw [if_neg (show ¬ (false = true) by decide)] at H; exact H
  clear H; have H := H1; clear H1; obtain rfl := Option.some.inj H
  go_enter Try.func55, Try.ntmps55
  go_wp2_with (first | ((with_reducible refine gate_dst (N := 2) rfl ?_); (try (refine gate_guard (by rfl) ?_; dsimp only)); refine box_event ?hg (N := 2) ?hd (cs := #[.slice A0_0 l0_0.length c0_0, .string a0_1, .string a0_2]) (t := 27) ?hr ?_; (case hd => rfl); (case hg => rfl); (case hr => first | (go_simp; done) | (go_simp; rfl)); intro gb198 hg w10 hbox hb; have BK198 := aM (hbox); have GW198 := aM ((by rw [hg]; exact (zZ (zH HB.out)) : w.heap.size ≤ gb198)); have GE198 := aM ((by rw [hg]; exact (zZ (zH HB.out)) : w.heap.size ≤ gb198)); replace HB := aM (zT (zH HB.out) hb); clear hb hbox hg; have hcz11_0 : w10.cell? ⟨gb198, 0, none⟩ = some (.slice A0_0 l0_0.length c0_0) := yc BK198.out 0; have hcz11_1 : w10.cell? ⟨gb198, 1, none⟩ = some (.string a0_1) := yc BK198.out 1; have hcz11_2 : w10.cell? ⟨gb198, 2, none⟩ = some (.string a0_2) := yc BK198.out 2; have hfz11_0 := yZ BK198.out 0; have hfz11_1 := yZ BK198.out 1; have hfz11_2 := yZ BK198.out 2) | ((with_reducible refine gate_callee (f := 15) rfl ?_); refine goesL_ (some 6) rfl rfl Try.func15 (by kernel_rfl) rfl #[.agg #[.slice A0_0 l0_0.length c0_0, .string a0_1, .string a0_2]] rfl mA ?_; (with_reducible refine (impl_GoodStripe.calls _ _ l0_0 a0_1 a0_2 false _ ?side1 ?side2 A3.out).mono ?_); (case side1 => exact cK HR0_0.out HB.out); (case side2 => exact HC0_0.out); rintro e w12 ⟨rfl, hb⟩; refine ⟨_, rfl, ?_⟩; replace BK198 := yK BK198.out hb; replace HB := aM (zT (zH HB.out) hb); (try clear hb)))
  go_ret
  exact ⟨eW, zH HB.out⟩

/-! ### impl_RecoverOne: function 32 -/
def impl_RecoverOne.f (k : Nat) (l0_0 : List ByteArray) (a0_1 : ByteArray) (a0_2 : ByteArray) (a1 : Int) : Option (List ByteArray × ByteArray × ByteArray × Bool) := (impl_isDisk.f l0_0 a0_1 a0_2 a1).bind fun t203 => (if t203 = true then ((impl_recoverOne.f k l0_0 a0_1 a0_2 a1).bind fun bt204 => (some (bt204.1, bt204.2.1, bt204.2.2, true))) else (some (([] : List ByteArray), (⟨#[]⟩ : ByteArray), (⟨#[]⟩ : ByteArray), false)))
theorem impl_RecoverOne.mono : ∀ a0 a1 a2 a3 k, LeO (impl_RecoverOne.f k a0 a1 a2 a3) (impl_RecoverOne.f (k + 1) a0 a1 a2 a3) := by
 intro a0 a1 a2 a3 k
 unfold impl_RecoverOne.f
 repeat' first
   | (with_reducible exact impl_recoverOne.mono _ _ _ _ _)
   | (with_reducible exact LeO.refl _)
   | (with_reducible exact LeO.none _)
   | (with_reducible refine LeO.ite ?_ ?_)
   | (with_reducible refine LeO.bind ?_ (fun _ => ?_))
   | exact impl_recoverOne.mono _ _ _ _ _
   | exact LeO.none _
   | refine LeO.ite ?_ ?_
   | refine LeO.bind ?_ (fun _ => ?_)
set_option maxHeartbeats 8000000 in
set_option maxRecDepth 100000 in
theorem impl_RecoverOne.calls (k : Nat) (A0_0 : Option Addr) (c0_0 : Nat) (l0_0 : List ByteArray) (a0_1 : ByteArray) (a0_2 : ByteArray) (a1 : Int) (r1 : List ByteArray) (r2 : ByteArray) (r3 : ByteArray) (r4 : Bool) (w : World) (hr0_0 : Kd.C Kd.string w A0_0 l0_0.length l0_0) (hc0_0 : l0_0.length ≤ c0_0) (h : impl_RecoverOne.f k l0_0 a0_1 a0_2 a1 = some (r1, r2, r3, r4)) :
  Calls Try.prog 32 #[.agg #[.slice A0_0 l0_0.length c0_0, .string a0_1, .string a0_2], .int .i64 a1] w fun e w' => ∃ v0_ : Value, e = .returned (.tuple #[.agg #[v0_, .string r2, .string r3], .bool r4]) ∧ Kd.R Kd.string 9 w' w.heap.size (fun _ => True) v0_ r1 ∧ Below w.heap.size w w' := by
 have hu27 := Try.underlying27; have HR0_0 := aM hr0_0; have HC0_0 := aM hc0_0; clear hr0_0 hc0_0; have HB := aM (Below.refl w.heap.size w)
 have H : ((impl_isDisk.f l0_0 a0_1 a0_2 a1).bind fun t203 => (if t203 = true then ((impl_recoverOne.f k l0_0 a0_1 a0_2 a1).bind fun bt204 => (some (bt204.1, bt204.2.1, bt204.2.2, true))) else (some (([] : List ByteArray), (⟨#[]⟩ : ByteArray), (⟨#[]⟩ : ByteArray), false)))) = some (r1, r2, r3, r4) := h
 clear h; replace H := Option.bind_eq_some_iff.mp H; obtain ⟨t203, A30, H⟩ := H
 replace H : (if t203 = true then ((impl_recoverOne.f k l0_0 a0_1 a0_2 a1).bind fun bt204 => (some (bt204.1, bt204.2.1, bt204.2.2, true))) else (some (([] : List ByteArray), (⟨#[]⟩ : ByteArray), (⟨#[]⟩ : ByteArray), false))) = some (r1, r2, r3, r4) := H
 have A3 := aM A30; clear A30
 by_cases c4 : t203 = true
 ·subst c4
  have H1 : ((impl_recoverOne.f k l0_0 a0_1 a0_2 a1).bind fun bt204 => (some (bt204.1, bt204.2.1, bt204.2.2, true))) = some (r1, r2, r3, r4) := by rw [if_pos rfl] at H; exact H
  clear H; have H := H1; clear H1; replace H := Option.bind_eq_some_iff.mp H; obtain ⟨⟨t204, t207, t208⟩, A50, H⟩ := H; replace H : (some (t204, t207, t208, true)) = some (r1, r2, r3, r4) := H; have A5 := aM A50; clear A50
  simp only [Option.some.injEq, Prod.mk.injEq] at H
  obtain ⟨rfl, rfl, rfl, rfl⟩ := H
  go_enter Try.func32, Try.ntmps32
  go_wp2_with (first | ((with_reducible refine gate_dst (N := 2) rfl ?_); refine box_event ?hg (N := 2) ?hd (cs := #[.slice A0_0 l0_0.length c0_0, .string a0_1, .string a0_2]) (t := 27) ?hr ?_; (case hd => rfl); (case hg => rfl); (case hr => first | (go_simp; done) | (go_simp; rfl)); intro gb201 hg w6 hbox hb; have BK201 := aM (hbox); have GW201 := aM ((by rw [hg]; exact (zZ (zH HB.out)) : w.heap.size ≤ gb201)); have GE201 := aM ((by rw [hg]; exact (zZ (zH HB.out)) : w.heap.size ≤ gb201)); replace HB := aM (zT (zH HB.out) hb); clear hb hbox hg) | ((with_reducible refine gate_dst (N := 4) rfl ?_); refine box_event ?hg (N := 4) ?hd (cs := #[.slice none 0 0, .string (⟨#[]⟩ : ByteArray), .string (⟨#[]⟩ : ByteArray)]) (t := 27) ?hr ?_; (case hd => rfl); (case hg => rfl); (case hr => first | (go_simp; done) | (go_simp; rfl)); intro gb202 hg w7 hbox hb; have BK202 := aM (hbox); have GW202 := aM ((by rw [hg]; exact (zZ (zH HB.out)) : w.heap.size ≤ gb202)); have GE202 := aM ((by rw [hg]; exact (zZ (zH HB.out)) : w.heap.size ≤ gb202)); replace HB := aM (zT (zH HB.out) hb); have NB201_202 := nL BK201.out hg; have NB202_201 := nR BK201.out hg; replace BK201 := yK BK201.out hb; clear hb hbox hg; have hnb8 := NB201_202.out; have hnc8 := NB202_201.out; have hcz9_0 : w7.cell? ⟨gb201, 0, none⟩ = some (.slice A0_0 l0_0.length c0_0) := yc BK201.out 0; have hcz9_1 : w7.cell? ⟨gb201, 1, none⟩ = some (.string a0_1) := yc BK201.out 1; have hcz9_2 : w7.cell? ⟨gb201, 2, none⟩ = some (.string a0_2) := yc BK201.out 2; have hfz9_0 := yZ BK201.out 0; have hfz9_1 := yZ BK201.out 1; have hfz9_2 := yZ BK201.out 2) | ((with_reducible refine gate_callee (f := 55) rfl ?_); refine goesL_ (some 8) rfl rfl Try.func55 (by kernel_rfl) rfl #[.agg #[.slice A0_0 l0_0.length c0_0, .string a0_1, .string a0_2], .int .i64 a1] rfl mA ?_; (with_reducible refine (impl_isDisk.calls _ _ l0_0 a0_1 a0_2 a1 true _ ?side1 ?side2 A3.out).mono ?_); (case side1 => exact cK HR0_0.out HB.out); (case side2 => exact HC0_0.out); rintro e w10 ⟨rfl, hb⟩; refine ⟨_, rfl, ?_⟩; replace BK201 := yK BK201.out hb; replace BK202 := yK BK202.out hb; replace HB := aM (zT (zH HB.out) hb); (try clear hb); have hcz11_0 : w10.cell? ⟨gb201, 0, none⟩ = some (.slice A0_0 l0_0.length c0_0) := yc BK201.out 0; have hcz11_1 : w10.cell? ⟨gb201, 1, none⟩ = some (.string a0_1) := yc BK201.out 1; have hcz11_2 : w10.cell? ⟨gb201, 2, none⟩ = some (.string a0_2) := yc BK201.out 2; have hfz11_0 := yZ BK201.out 0; have hfz11_1 := yZ BK201.out 1; have hfz11_2 := yZ BK201.out 2) | ((with_reducible refine gate_callee (f := 60) rfl ?_); refine goesL_ (some 13) rfl rfl Try.func60 (by kernel_rfl) rfl #[.agg #[.slice A0_0 l0_0.length c0_0, .string a0_1, .string a0_2], .int .i64 a1] rfl mA ?_; (with_reducible refine (impl_recoverOne.calls k _ _ l0_0 a0_1 a0_2 a1 t204 t207 t208 _ ?side1 ?side2 A5.out).mono ?_); (case side1 => exact cK HR0_0.out HB.out); (case side2 => exact HC0_0.out); rintro e w12 ⟨v205, rfl, ho0, hb⟩; refine ⟨_, rfl, ?_⟩; have HO206 := aM (xL ho0 (zZ (zH HB.out))); replace BK201 := yK BK201.out hb; replace BK202 := yK BK202.out hb; replace HB := aM (zT (zH HB.out) hb); (try clear hb); (try clear ho0); obtain ⟨Ao13, co13, eo13⟩ := Kd.R_slice HO206.out; subst eo13; have hcz14_0 : w12.cell? ⟨gb202, 0, none⟩ = some (.slice none 0 0) := yc BK202.out 0; have hcz14_1 : w12.cell? ⟨gb202, 1, none⟩ = some (.string (⟨#[]⟩ : ByteArray)) := yc BK202.out 1; have hcz14_2 : w12.cell? ⟨gb202, 2, none⟩ = some (.string (⟨#[]⟩ : ByteArray)) := yc BK202.out 2; have hfz14_0 := yZ BK202.out 0; have hfz14_1 := yZ BK202.out 1; have hfz14_2 := yZ BK202.out 2))
  refine bodyPost_ret (results_ct rfl _ _ gb202 27 #[.slice Ao13 t204.length co13, .string t207, .string t208] (0, 0) _ rfl (by refine yW ?_; refine yP (cs := #[.slice Ao13 t204.length co13, .string t207, .string (⟨#[]⟩ : ByteArray)]) ?_ 2 _ rfl; refine yW ?_; refine yP (cs := #[.slice Ao13 t204.length co13, .string (⟨#[]⟩ : ByteArray), .string (⟨#[]⟩ : ByteArray)]) ?_ 1 _ rfl; refine yW ?_; refine yP (cs := #[.slice none 0 0, .string (⟨#[]⟩ : ByteArray), .string (⟨#[]⟩ : ByteArray)]) ?_ 0 _ rfl; refine yW ?_; exact BK202.out) Try.underlying27 rfl (by kernel_rfl)) rfl ?_
  exact ⟨_, eW, xH (xM (xF (p := ⟨gb202, 2, none⟩) (xF (p := ⟨gb202, 1, none⟩) (xF (p := ⟨gb202, 0, none⟩) (xT HO206.out BK202.out (by decide)) (fun _ hk => hk.2) (.slice Ao13 t204.length co13)) (fun _ hk => hk.2) (.string t207)) (fun _ hk => hk.2) (.string t208)) (fun _ hk => trivial)), zH HB.out⟩
 ·replace c4 := Bool.eq_false_iff.mpr c4
  subst c4
  have H1 : (some (([] : List ByteArray), (⟨#[]⟩ : ByteArray), (⟨#[]⟩ : ByteArray), false)) = some (r1, r2, r3, r4) := by rw [if_neg (show ¬ (false = true) by decide)] at H; exact H
  clear H; have H := H1; clear H1
  simp only [Option.some.injEq, Prod.mk.injEq] at H
  obtain ⟨rfl, rfl, rfl, rfl⟩ := H
  go_enter Try.func32, Try.ntmps32
  go_wp2_with (first | ((with_reducible refine gate_dst (N := 2) rfl ?_); refine box_event ?hg (N := 2) ?hd (cs := #[.slice A0_0 l0_0.length c0_0, .string a0_1, .string a0_2]) (t := 27) ?hr ?_; (case hd => rfl); (case hg => rfl); (case hr => first | (go_simp; done) | (go_simp; rfl)); intro gb201 hg w15 hbox hb; have BK201 := aM (hbox); have GW201 := aM ((by rw [hg]; exact (zZ (zH HB.out)) : w.heap.size ≤ gb201)); have GE201 := aM ((by rw [hg]; exact (zZ (zH HB.out)) : w.heap.size ≤ gb201)); replace HB := aM (zT (zH HB.out) hb); clear hb hbox hg) | ((with_reducible refine gate_dst (N := 4) rfl ?_); refine box_event ?hg (N := 4) ?hd (cs := #[.slice none 0 0, .string (⟨#[]⟩ : ByteArray), .string (⟨#[]⟩ : ByteArray)]) (t := 27) ?hr ?_; (case hd => rfl); (case hg => rfl); (case hr => first | (go_simp; done) | (go_simp; rfl)); intro gb202 hg w16 hbox hb; have BK202 := aM (hbox); have GW202 := aM ((by rw [hg]; exact (zZ (zH HB.out)) : w.heap.size ≤ gb202)); have GE202 := aM ((by rw [hg]; exact (zZ (zH HB.out)) : w.heap.size ≤ gb202)); replace HB := aM (zT (zH HB.out) hb); have NB201_202 := nL BK201.out hg; have NB202_201 := nR BK201.out hg; replace BK201 := yK BK201.out hb; clear hb hbox hg; have hnb17 := NB201_202.out; have hnc17 := NB202_201.out; have hcz18_0 : w16.cell? ⟨gb201, 0, none⟩ = some (.slice A0_0 l0_0.length c0_0) := yc BK201.out 0; have hcz18_1 : w16.cell? ⟨gb201, 1, none⟩ = some (.string a0_1) := yc BK201.out 1; have hcz18_2 : w16.cell? ⟨gb201, 2, none⟩ = some (.string a0_2) := yc BK201.out 2; have hfz18_0 := yZ BK201.out 0; have hfz18_1 := yZ BK201.out 1; have hfz18_2 := yZ BK201.out 2) | ((with_reducible refine gate_callee (f := 55) rfl ?_); refine goesL_ (some 8) rfl rfl Try.func55 (by kernel_rfl) rfl #[.agg #[.slice A0_0 l0_0.length c0_0, .string a0_1, .string a0_2], .int .i64 a1] rfl mA ?_; (with_reducible refine (impl_isDisk.calls _ _ l0_0 a0_1 a0_2 a1 false _ ?side1 ?side2 A3.out).mono ?_); (case side1 => exact cK HR0_0.out HB.out); (case side2 => exact HC0_0.out); rintro e w19 ⟨rfl, hb⟩; refine ⟨_, rfl, ?_⟩; replace BK201 := yK BK201.out hb; replace BK202 := yK BK202.out hb; replace HB := aM (zT (zH HB.out) hb); (try clear hb); have hcz20_0 : w19.cell? ⟨gb202, 0, none⟩ = some (.slice none 0 0) := yc BK202.out 0; have hcz20_1 : w19.cell? ⟨gb202, 1, none⟩ = some (.string (⟨#[]⟩ : ByteArray)) := yc BK202.out 1; have hcz20_2 : w19.cell? ⟨gb202, 2, none⟩ = some (.string (⟨#[]⟩ : ByteArray)) := yc BK202.out 2; have hfz20_0 := yZ BK202.out 0; have hfz20_1 := yZ BK202.out 1; have hfz20_2 := yZ BK202.out 2))
  refine bodyPost_ret (results_ct rfl _ _ gb202 27 #[.slice none 0 0, .string (⟨#[]⟩ : ByteArray), .string (⟨#[]⟩ : ByteArray)] (0, 0) _ rfl (by refine yW ?_; refine yP (cs := #[.slice none 0 0, .string (⟨#[]⟩ : ByteArray), .string (⟨#[]⟩ : ByteArray)]) ?_ 2 _ rfl; refine yW ?_; refine yP (cs := #[.slice none 0 0, .string (⟨#[]⟩ : ByteArray), .string (⟨#[]⟩ : ByteArray)]) ?_ 1 _ rfl; refine yW ?_; refine yP (cs := #[.slice none 0 0, .string (⟨#[]⟩ : ByteArray), .string (⟨#[]⟩ : ByteArray)]) ?_ 0 _ rfl; refine yW ?_; exact BK202.out) Try.underlying27 rfl (by kernel_rfl)) rfl ?_
  exact ⟨_, eW, by first | exact Kd.R_nil _ _ _ _ _ | exact Kd.N_nil _ _ _ _ _ | exact Kd.V_nil _ _ _ _ _ | exact Kd.Q_nil _ _ _ _ _ | exact Kd.S_nil _ _ _ _ _, zH HB.out⟩

/-! ### spec_GoodStripe: function 13 -/
def spec_GoodStripe.f (k : Nat) (l0_0 : List ByteArray) (a0_1 : ByteArray) (a0_2 : ByteArray) : Option (Bool) := (spec_l3Data.f k l0_0).bind fun t210 => (if t210 = true then (if 0 < (l0_0.length : Int) then (if (a0_1.size : Int) = ((rdOf ByteArray.empty l0_0 0).size : Int) then (some ((a0_2.size : Int) == (a0_1.size : Int))) else (some false)) else (none)) else (some false))
theorem spec_GoodStripe.mono : ∀ a0 a1 a2 k, LeO (spec_GoodStripe.f k a0 a1 a2) (spec_GoodStripe.f (k + 1) a0 a1 a2) := by
 intro a0 a1 a2 k
 unfold spec_GoodStripe.f
 repeat' first
   | (with_reducible exact spec_l3Data.mono _ _)
   | (with_reducible exact LeO.refl _)
   | (with_reducible exact LeO.none _)
   | (with_reducible refine LeO.ite ?_ ?_)
   | (with_reducible refine LeO.bind ?_ (fun _ => ?_))
   | exact spec_l3Data.mono _ _
   | exact LeO.none _
   | refine LeO.ite ?_ ?_
   | refine LeO.bind ?_ (fun _ => ?_)
set_option maxHeartbeats 8000000 in
set_option maxRecDepth 100000 in
theorem spec_GoodStripe.calls (k : Nat) (A0_0 : Option Addr) (c0_0 : Nat) (l0_0 : List ByteArray) (a0_1 : ByteArray) (a0_2 : ByteArray) (r : Bool) (w : World) (hr0_0 : Kd.C Kd.string w A0_0 l0_0.length l0_0) (hc0_0 : l0_0.length ≤ c0_0) (h : spec_GoodStripe.f k l0_0 a0_1 a0_2 = some r) :
  Calls Try.prog 13 #[.agg #[.slice A0_0 l0_0.length c0_0, .string a0_1, .string a0_2]] w fun e w' => e = .returned (.bool r) ∧ Below w.heap.size w w' := by
 have hu27 := Try.underlying27; have HR0_0 := aM hr0_0; have HC0_0 := aM hc0_0; clear hr0_0 hc0_0; have HB := aM (Below.refl w.heap.size w)
 have H : ((spec_l3Data.f k l0_0).bind fun t210 => (if t210 = true then (if 0 < (l0_0.length : Int) then (if (a0_1.size : Int) = ((rdOf ByteArray.empty l0_0 0).size : Int) then (some ((a0_2.size : Int) == (a0_1.size : Int))) else (some false)) else (none)) else (some false))) = some r := h
 clear h; replace H := Option.bind_eq_some_iff.mp H; obtain ⟨t210, A20, H⟩ := H; replace H : (if t210 = true then (if 0 < (l0_0.length : Int) then (if (a0_1.size : Int) = ((rdOf ByteArray.empty l0_0 0).size : Int) then (some ((a0_2.size : Int) == (a0_1.size : Int))) else (some false)) else (none)) else (some false)) = some r := H; have A2 := aM A20; clear A20
 by_cases c3 : t210 = true
 ·subst c3
  have H1 : (if 0 < (l0_0.length : Int) then (if (a0_1.size : Int) = ((rdOf ByteArray.empty l0_0 0).size : Int) then (some ((a0_2.size : Int) == (a0_1.size : Int))) else (some false)) else (none)) = some r := by rw [if_pos rfl] at H; exact H
  clear H; have H := H1; clear H1
  by_cases c4 : 0 < (l0_0.length : Int)
  ·rw [if_pos c4] at H
   have c4b0 : decide (0 < (l0_0.length : Int)) = true := decide_eq_true c4
   have c4b1 : decide (0 < l0_0.length) = true := decide_eq_true (by omega)
   clear c4
   by_cases c5 : (a0_1.size : Int) = ((rdOf ByteArray.empty l0_0 0).size : Int)
   ·rw [if_pos c5] at H
    have c5b0 : ((a0_1.size : Int) == ((rdOf ByteArray.empty l0_0 0).size : Int)) = true := beq_iff_eq.mpr c5; have c5b1 : ((a0_1.size : Int) != ((rdOf ByteArray.empty l0_0 0).size : Int)) = false := bne_eq_false_iff_eq.mpr c5
    have c5b2 : (a0_1.size == (rdOf ByteArray.empty l0_0 0).size) = true := by first | simpa using c5 | (simp at c5 ⊢; omega)
    clear c5; obtain rfl := Option.some.inj H
    go_enter Try.func13, Try.ntmps13
    go_wp2_with (first | ((with_reducible refine gate_dst (N := 1) rfl ?_); (try (refine gate_guard (by rfl) ?_; dsimp only)); refine box_event ?hg (N := 1) ?hd (cs := #[.slice A0_0 l0_0.length c0_0, .string a0_1, .string a0_2]) (t := 27) ?hr ?_; (case hd => rfl); (case hg => rfl); (case hr => first | (go_simp; done) | (go_simp; rfl)); intro gb209 hg w6 hbox hb; have BK209 := aM (hbox); have GW209 := aM ((by rw [hg]; exact (zZ (zH HB.out)) : w.heap.size ≤ gb209)); have GE209 := aM ((by rw [hg]; exact (zZ (zH HB.out)) : w.heap.size ≤ gb209)); replace HB := aM (zT (zH HB.out) hb); clear hb hbox hg; have hcz7_0 : w6.cell? ⟨gb209, 0, none⟩ = some (.slice A0_0 l0_0.length c0_0) := yc BK209.out 0; have hcz7_1 : w6.cell? ⟨gb209, 1, none⟩ = some (.string a0_1) := yc BK209.out 1; have hcz7_2 : w6.cell? ⟨gb209, 2, none⟩ = some (.string a0_2) := yc BK209.out 2; have hfz7_0 := yZ BK209.out 0; have hfz7_1 := yZ BK209.out 1; have hfz7_2 := yZ BK209.out 2) | (go_at_call 41; (with_reducible refine (spec_l3Data.calls k _ _ l0_0 true _ ?side1 ?side2 A2.out).mono ?_); (case side1 => exact cK HR0_0.out HB.out); (case side2 => exact HC0_0.out); rintro e w' ⟨rfl, ⟨nd, rfl⟩⟩; (try first | exact ⟨rfl, _, World.drewN_drewN _ _ _⟩ | exact ⟨rfl, _, Eq.trans (World.drewN_drewN _ _ _) (congrArg (World.drewN _) (Nat.add_assoc _ _ _))⟩); have p211 : 0 ≤ (0 : Int) := (by omega); have q211 : 0 < (l0_0.length : Int) := of_decide_eq_true (by first | (with_reducible assumption) | assumption); obtain ⟨ad211, e211, hx211_0⟩ := Kd.at_string HR0_0.out 0 p211 q211; cases e211; have qi211 : (0 < l0_0.length) = True := eq_true (by omega); (try rw [show ((0 : Int)).toNat = 0 from rfl] at hx211_0); (try rw [Addr.add_zero'] at hx211_0); replace hx211_0 := (HB.out.cell (World.block_lt_of_cell? w _ hx211_0)).trans hx211_0; replace p211 := eq_true p211; replace q211 := eq_true q211))
    repeat (go_quiet (first | ((with_reducible refine gate_dst (N := 1) rfl ?_); (try (refine gate_guard (by rfl) ?_; dsimp only)); refine box_event ?hg (N := 1) ?hd (cs := #[.slice A0_0 l0_0.length c0_0, .string a0_1, .string a0_2]) (t := 27) ?hr ?_; (case hd => rfl); (case hg => rfl); (case hr => first | (go_simp; done) | (go_simp; rfl)); intro gb209 hg w6 hbox hb; have n0_ := aM (zT (zH HB.out) hb); have n1_ := aM (hbox); have n2_ := aM ((by rw [hg]; exact (zZ (zH HB.out)) : w.heap.size ≤ gb209)); have n3_ := aM ((by rw [hg]; exact (zZ (zH HB.out)) : w.heap.size ≤ gb209)); clear HB; have HB := n0_; have BK209 := n1_; have GW209 := n2_; have GE209 := n3_; clear n0_ n1_ n2_ n3_; clear hb hbox hg; have hcz7_0 : w6.cell? ⟨gb209, 0, none⟩ = some (.slice A0_0 l0_0.length c0_0) := yc BK209.out 0; have hcz7_1 : w6.cell? ⟨gb209, 1, none⟩ = some (.string a0_1) := yc BK209.out 1; have hcz7_2 : w6.cell? ⟨gb209, 2, none⟩ = some (.string a0_2) := yc BK209.out 2; have hfz7_0 := yZ BK209.out 0; have hfz7_1 := yZ BK209.out 1; have hfz7_2 := yZ BK209.out 2) | (go_at_call 41; (with_reducible refine (spec_l3Data.calls k _ _ l0_0 true _ ?side1 ?side2 A2.out).mono ?_); (case side1 => exact cK HR0_0.out HB.out); (case side2 => exact HC0_0.out); rintro e w' ⟨rfl, ⟨nd, rfl⟩⟩; (try first | exact ⟨rfl, _, World.drewN_drewN _ _ _⟩ | exact ⟨rfl, _, Eq.trans (World.drewN_drewN _ _ _) (congrArg (World.drewN _) (Nat.add_assoc _ _ _))⟩); have p211 : 0 ≤ (0 : Int) := (by omega); have q211 : 0 < (l0_0.length : Int) := of_decide_eq_true (by first | (with_reducible assumption) | assumption); obtain ⟨ad211, e211, hx211_0⟩ := Kd.at_string HR0_0.out 0 p211 q211; cases e211; have qi211 : (0 < l0_0.length) = True := eq_true (by omega); (try rw [show ((0 : Int)).toNat = 0 from rfl] at hx211_0); (try rw [Addr.add_zero'] at hx211_0); replace hx211_0 := (HB.out.cell (World.block_lt_of_cell? w _ hx211_0)).trans hx211_0; replace p211 := eq_true p211; replace q211 := eq_true q211)); try go_wp2_with (first | ((with_reducible refine gate_dst (N := 1) rfl ?_); (try (refine gate_guard (by rfl) ?_; dsimp only)); refine box_event ?hg (N := 1) ?hd (cs := #[.slice A0_0 l0_0.length c0_0, .string a0_1, .string a0_2]) (t := 27) ?hr ?_; (case hd => rfl); (case hg => rfl); (case hr => first | (go_simp; done) | (go_simp; rfl)); intro gb209 hg w6 hbox hb; have n0_ := aM (zT (zH HB.out) hb); have n1_ := aM (hbox); have n2_ := aM ((by rw [hg]; exact (zZ (zH HB.out)) : w.heap.size ≤ gb209)); have n3_ := aM ((by rw [hg]; exact (zZ (zH HB.out)) : w.heap.size ≤ gb209)); clear HB; have HB := n0_; have BK209 := n1_; have GW209 := n2_; have GE209 := n3_; clear n0_ n1_ n2_ n3_; clear hb hbox hg; have hcz7_0 : w6.cell? ⟨gb209, 0, none⟩ = some (.slice A0_0 l0_0.length c0_0) := yc BK209.out 0; have hcz7_1 : w6.cell? ⟨gb209, 1, none⟩ = some (.string a0_1) := yc BK209.out 1; have hcz7_2 : w6.cell? ⟨gb209, 2, none⟩ = some (.string a0_2) := yc BK209.out 2; have hfz7_0 := yZ BK209.out 0; have hfz7_1 := yZ BK209.out 1; have hfz7_2 := yZ BK209.out 2) | (go_at_call 41; (with_reducible refine (spec_l3Data.calls k _ _ l0_0 true _ ?side1 ?side2 A2.out).mono ?_); (case side1 => exact cK HR0_0.out HB.out); (case side2 => exact HC0_0.out); rintro e w' ⟨rfl, ⟨nd, rfl⟩⟩; (try first | exact ⟨rfl, _, World.drewN_drewN _ _ _⟩ | exact ⟨rfl, _, Eq.trans (World.drewN_drewN _ _ _) (congrArg (World.drewN _) (Nat.add_assoc _ _ _))⟩); have p211 : 0 ≤ (0 : Int) := (by omega); have q211 : 0 < (l0_0.length : Int) := of_decide_eq_true (by first | (with_reducible assumption) | assumption); obtain ⟨ad211, e211, hx211_0⟩ := Kd.at_string HR0_0.out 0 p211 q211; cases e211; have qi211 : (0 < l0_0.length) = True := eq_true (by omega); (try rw [show ((0 : Int)).toNat = 0 from rfl] at hx211_0); (try rw [Addr.add_zero'] at hx211_0); replace hx211_0 := (HB.out.cell (World.block_lt_of_cell? w _ hx211_0)).trans hx211_0; replace p211 := eq_true p211; replace q211 := eq_true q211)))
    go_ret
    exact ⟨eW, zH HB.out⟩
   ·rw [if_neg c5] at H
    have c5b0 : ((a0_1.size : Int) == ((rdOf ByteArray.empty l0_0 0).size : Int)) = false := beq_eq_false_iff_ne.mpr c5; have c5b1 : ((a0_1.size : Int) != ((rdOf ByteArray.empty l0_0 0).size : Int)) = true := bne_iff_ne.mpr c5
    have c5b2 : (a0_1.size == (rdOf ByteArray.empty l0_0 0).size) = false := by first | simpa using c5 | (simp at c5 ⊢; omega)
    obtain rfl := Option.some.inj H
    go_enter Try.func13, Try.ntmps13
    go_wp2_with (first | ((with_reducible refine gate_dst (N := 1) rfl ?_); (try (refine gate_guard (by rfl) ?_; dsimp only)); refine box_event ?hg (N := 1) ?hd (cs := #[.slice A0_0 l0_0.length c0_0, .string a0_1, .string a0_2]) (t := 27) ?hr ?_; (case hd => rfl); (case hg => rfl); (case hr => first | (go_simp; done) | (go_simp; rfl)); intro gb209 hg w8 hbox hb; have BK209 := aM (hbox); have GW209 := aM ((by rw [hg]; exact (zZ (zH HB.out)) : w.heap.size ≤ gb209)); have GE209 := aM ((by rw [hg]; exact (zZ (zH HB.out)) : w.heap.size ≤ gb209)); replace HB := aM (zT (zH HB.out) hb); clear hb hbox hg; have hcz9_0 : w8.cell? ⟨gb209, 0, none⟩ = some (.slice A0_0 l0_0.length c0_0) := yc BK209.out 0; have hcz9_1 : w8.cell? ⟨gb209, 1, none⟩ = some (.string a0_1) := yc BK209.out 1; have hcz9_2 : w8.cell? ⟨gb209, 2, none⟩ = some (.string a0_2) := yc BK209.out 2; have hfz9_0 := yZ BK209.out 0; have hfz9_1 := yZ BK209.out 1; have hfz9_2 := yZ BK209.out 2) | (go_at_call 41; (with_reducible refine (spec_l3Data.calls k _ _ l0_0 true _ ?side1 ?side2 A2.out).mono ?_); (case side1 => exact cK HR0_0.out HB.out); (case side2 => exact HC0_0.out); rintro e w' ⟨rfl, ⟨nd, rfl⟩⟩; (try first | exact ⟨rfl, _, World.drewN_drewN _ _ _⟩ | exact ⟨rfl, _, Eq.trans (World.drewN_drewN _ _ _) (congrArg (World.drewN _) (Nat.add_assoc _ _ _))⟩); have p211 : 0 ≤ (0 : Int) := (by omega); have q211 : 0 < (l0_0.length : Int) := of_decide_eq_true (by first | (with_reducible assumption) | assumption); obtain ⟨ad211, e211, hx211_0⟩ := Kd.at_string HR0_0.out 0 p211 q211; cases e211; have qi211 : (0 < l0_0.length) = True := eq_true (by omega); (try rw [show ((0 : Int)).toNat = 0 from rfl] at hx211_0); (try rw [Addr.add_zero'] at hx211_0); replace hx211_0 := (HB.out.cell (World.block_lt_of_cell? w _ hx211_0)).trans hx211_0; replace p211 := eq_true p211; replace q211 := eq_true q211))
    repeat (go_quiet (first | ((with_reducible refine gate_dst (N := 1) rfl ?_); (try (refine gate_guard (by rfl) ?_; dsimp only)); refine box_event ?hg (N := 1) ?hd (cs := #[.slice A0_0 l0_0.length c0_0, .string a0_1, .string a0_2]) (t := 27) ?hr ?_; (case hd => rfl); (case hg => rfl); (case hr => first | (go_simp; done) | (go_simp; rfl)); intro gb209 hg w8 hbox hb; have n0_ := aM (zT (zH HB.out) hb); have n1_ := aM (hbox); have n2_ := aM ((by rw [hg]; exact (zZ (zH HB.out)) : w.heap.size ≤ gb209)); have n3_ := aM ((by rw [hg]; exact (zZ (zH HB.out)) : w.heap.size ≤ gb209)); clear HB; have HB := n0_; have BK209 := n1_; have GW209 := n2_; have GE209 := n3_; clear n0_ n1_ n2_ n3_; clear hb hbox hg; have hcz9_0 : w8.cell? ⟨gb209, 0, none⟩ = some (.slice A0_0 l0_0.length c0_0) := yc BK209.out 0; have hcz9_1 : w8.cell? ⟨gb209, 1, none⟩ = some (.string a0_1) := yc BK209.out 1; have hcz9_2 : w8.cell? ⟨gb209, 2, none⟩ = some (.string a0_2) := yc BK209.out 2; have hfz9_0 := yZ BK209.out 0; have hfz9_1 := yZ BK209.out 1; have hfz9_2 := yZ BK209.out 2) | (go_at_call 41; (with_reducible refine (spec_l3Data.calls k _ _ l0_0 true _ ?side1 ?side2 A2.out).mono ?_); (case side1 => exact cK HR0_0.out HB.out); (case side2 => exact HC0_0.out); rintro e w' ⟨rfl, ⟨nd, rfl⟩⟩; (try first | exact ⟨rfl, _, World.drewN_drewN _ _ _⟩ | exact ⟨rfl, _, Eq.trans (World.drewN_drewN _ _ _) (congrArg (World.drewN _) (Nat.add_assoc _ _ _))⟩); have p211 : 0 ≤ (0 : Int) := (by omega); have q211 : 0 < (l0_0.length : Int) := of_decide_eq_true (by first | (with_reducible assumption) | assumption); obtain ⟨ad211, e211, hx211_0⟩ := Kd.at_string HR0_0.out 0 p211 q211; cases e211; have qi211 : (0 < l0_0.length) = True := eq_true (by omega); (try rw [show ((0 : Int)).toNat = 0 from rfl] at hx211_0); (try rw [Addr.add_zero'] at hx211_0); replace hx211_0 := (HB.out.cell (World.block_lt_of_cell? w _ hx211_0)).trans hx211_0; replace p211 := eq_true p211; replace q211 := eq_true q211)); try go_wp2_with (first | ((with_reducible refine gate_dst (N := 1) rfl ?_); (try (refine gate_guard (by rfl) ?_; dsimp only)); refine box_event ?hg (N := 1) ?hd (cs := #[.slice A0_0 l0_0.length c0_0, .string a0_1, .string a0_2]) (t := 27) ?hr ?_; (case hd => rfl); (case hg => rfl); (case hr => first | (go_simp; done) | (go_simp; rfl)); intro gb209 hg w8 hbox hb; have n0_ := aM (zT (zH HB.out) hb); have n1_ := aM (hbox); have n2_ := aM ((by rw [hg]; exact (zZ (zH HB.out)) : w.heap.size ≤ gb209)); have n3_ := aM ((by rw [hg]; exact (zZ (zH HB.out)) : w.heap.size ≤ gb209)); clear HB; have HB := n0_; have BK209 := n1_; have GW209 := n2_; have GE209 := n3_; clear n0_ n1_ n2_ n3_; clear hb hbox hg; have hcz9_0 : w8.cell? ⟨gb209, 0, none⟩ = some (.slice A0_0 l0_0.length c0_0) := yc BK209.out 0; have hcz9_1 : w8.cell? ⟨gb209, 1, none⟩ = some (.string a0_1) := yc BK209.out 1; have hcz9_2 : w8.cell? ⟨gb209, 2, none⟩ = some (.string a0_2) := yc BK209.out 2; have hfz9_0 := yZ BK209.out 0; have hfz9_1 := yZ BK209.out 1; have hfz9_2 := yZ BK209.out 2) | (go_at_call 41; (with_reducible refine (spec_l3Data.calls k _ _ l0_0 true _ ?side1 ?side2 A2.out).mono ?_); (case side1 => exact cK HR0_0.out HB.out); (case side2 => exact HC0_0.out); rintro e w' ⟨rfl, ⟨nd, rfl⟩⟩; (try first | exact ⟨rfl, _, World.drewN_drewN _ _ _⟩ | exact ⟨rfl, _, Eq.trans (World.drewN_drewN _ _ _) (congrArg (World.drewN _) (Nat.add_assoc _ _ _))⟩); have p211 : 0 ≤ (0 : Int) := (by omega); have q211 : 0 < (l0_0.length : Int) := of_decide_eq_true (by first | (with_reducible assumption) | assumption); obtain ⟨ad211, e211, hx211_0⟩ := Kd.at_string HR0_0.out 0 p211 q211; cases e211; have qi211 : (0 < l0_0.length) = True := eq_true (by omega); (try rw [show ((0 : Int)).toNat = 0 from rfl] at hx211_0); (try rw [Addr.add_zero'] at hx211_0); replace hx211_0 := (HB.out.cell (World.block_lt_of_cell? w _ hx211_0)).trans hx211_0; replace p211 := eq_true p211; replace q211 := eq_true q211)))
    go_ret
    exact ⟨eW, zH HB.out⟩
  ·rw [if_neg c4] at H
   exact absurd H (by simp)
 ·replace c3 := Bool.eq_false_iff.mpr c3
  subst c3
  have H1 : (some false) = some r := by rw [if_neg (show ¬ (false = true) by decide)] at H; exact H
  clear H; have H := H1; clear H1; obtain rfl := Option.some.inj H
  go_enter Try.func13, Try.ntmps13
  go_wp2_with (first | ((with_reducible refine gate_dst (N := 1) rfl ?_); (try (refine gate_guard (by rfl) ?_; dsimp only)); refine box_event ?hg (N := 1) ?hd (cs := #[.slice A0_0 l0_0.length c0_0, .string a0_1, .string a0_2]) (t := 27) ?hr ?_; (case hd => rfl); (case hg => rfl); (case hr => first | (go_simp; done) | (go_simp; rfl)); intro gb209 hg w10 hbox hb; have BK209 := aM (hbox); have GW209 := aM ((by rw [hg]; exact (zZ (zH HB.out)) : w.heap.size ≤ gb209)); have GE209 := aM ((by rw [hg]; exact (zZ (zH HB.out)) : w.heap.size ≤ gb209)); replace HB := aM (zT (zH HB.out) hb); clear hb hbox hg; have hcz11_0 : w10.cell? ⟨gb209, 0, none⟩ = some (.slice A0_0 l0_0.length c0_0) := yc BK209.out 0; have hcz11_1 : w10.cell? ⟨gb209, 1, none⟩ = some (.string a0_1) := yc BK209.out 1; have hcz11_2 : w10.cell? ⟨gb209, 2, none⟩ = some (.string a0_2) := yc BK209.out 2; have hfz11_0 := yZ BK209.out 0; have hfz11_1 := yZ BK209.out 1; have hfz11_2 := yZ BK209.out 2) | (go_at_call 41; (with_reducible refine (spec_l3Data.calls k _ _ l0_0 false _ ?side1 ?side2 A2.out).mono ?_); (case side1 => exact cK HR0_0.out HB.out); (case side2 => exact HC0_0.out); rintro e w' ⟨rfl, ⟨nd, rfl⟩⟩; (try first | exact ⟨rfl, _, World.drewN_drewN _ _ _⟩ | exact ⟨rfl, _, Eq.trans (World.drewN_drewN _ _ _) (congrArg (World.drewN _) (Nat.add_assoc _ _ _))⟩)))
  repeat (go_quiet (first | ((with_reducible refine gate_dst (N := 1) rfl ?_); (try (refine gate_guard (by rfl) ?_; dsimp only)); refine box_event ?hg (N := 1) ?hd (cs := #[.slice A0_0 l0_0.length c0_0, .string a0_1, .string a0_2]) (t := 27) ?hr ?_; (case hd => rfl); (case hg => rfl); (case hr => first | (go_simp; done) | (go_simp; rfl)); intro gb209 hg w10 hbox hb; have n0_ := aM (zT (zH HB.out) hb); have n1_ := aM (hbox); have n2_ := aM ((by rw [hg]; exact (zZ (zH HB.out)) : w.heap.size ≤ gb209)); have n3_ := aM ((by rw [hg]; exact (zZ (zH HB.out)) : w.heap.size ≤ gb209)); clear HB; have HB := n0_; have BK209 := n1_; have GW209 := n2_; have GE209 := n3_; clear n0_ n1_ n2_ n3_; clear hb hbox hg; have hcz11_0 : w10.cell? ⟨gb209, 0, none⟩ = some (.slice A0_0 l0_0.length c0_0) := yc BK209.out 0; have hcz11_1 : w10.cell? ⟨gb209, 1, none⟩ = some (.string a0_1) := yc BK209.out 1; have hcz11_2 : w10.cell? ⟨gb209, 2, none⟩ = some (.string a0_2) := yc BK209.out 2; have hfz11_0 := yZ BK209.out 0; have hfz11_1 := yZ BK209.out 1; have hfz11_2 := yZ BK209.out 2) | (go_at_call 41; (with_reducible refine (spec_l3Data.calls k _ _ l0_0 false _ ?side1 ?side2 A2.out).mono ?_); (case side1 => exact cK HR0_0.out HB.out); (case side2 => exact HC0_0.out); rintro e w' ⟨rfl, ⟨nd, rfl⟩⟩; (try first | exact ⟨rfl, _, World.drewN_drewN _ _ _⟩ | exact ⟨rfl, _, Eq.trans (World.drewN_drewN _ _ _) (congrArg (World.drewN _) (Nat.add_assoc _ _ _))⟩))); try go_wp2_with (first | ((with_reducible refine gate_dst (N := 1) rfl ?_); (try (refine gate_guard (by rfl) ?_; dsimp only)); refine box_event ?hg (N := 1) ?hd (cs := #[.slice A0_0 l0_0.length c0_0, .string a0_1, .string a0_2]) (t := 27) ?hr ?_; (case hd => rfl); (case hg => rfl); (case hr => first | (go_simp; done) | (go_simp; rfl)); intro gb209 hg w10 hbox hb; have n0_ := aM (zT (zH HB.out) hb); have n1_ := aM (hbox); have n2_ := aM ((by rw [hg]; exact (zZ (zH HB.out)) : w.heap.size ≤ gb209)); have n3_ := aM ((by rw [hg]; exact (zZ (zH HB.out)) : w.heap.size ≤ gb209)); clear HB; have HB := n0_; have BK209 := n1_; have GW209 := n2_; have GE209 := n3_; clear n0_ n1_ n2_ n3_; clear hb hbox hg; have hcz11_0 : w10.cell? ⟨gb209, 0, none⟩ = some (.slice A0_0 l0_0.length c0_0) := yc BK209.out 0; have hcz11_1 : w10.cell? ⟨gb209, 1, none⟩ = some (.string a0_1) := yc BK209.out 1; have hcz11_2 : w10.cell? ⟨gb209, 2, none⟩ = some (.string a0_2) := yc BK209.out 2; have hfz11_0 := yZ BK209.out 0; have hfz11_1 := yZ BK209.out 1; have hfz11_2 := yZ BK209.out 2) | (go_at_call 41; (with_reducible refine (spec_l3Data.calls k _ _ l0_0 false _ ?side1 ?side2 A2.out).mono ?_); (case side1 => exact cK HR0_0.out HB.out); (case side2 => exact HC0_0.out); rintro e w' ⟨rfl, ⟨nd, rfl⟩⟩; (try first | exact ⟨rfl, _, World.drewN_drewN _ _ _⟩ | exact ⟨rfl, _, Eq.trans (World.drewN_drewN _ _ _) (congrArg (World.drewN _) (Nat.add_assoc _ _ _))⟩))))
  go_ret
  exact ⟨eW, zH HB.out⟩

/-! ### spec_l3Xor: function 52 (by hand) -/
/-- the exclusive or of two texts; nothing where the second is shorter (Go would panic) -/
def spec_l3Xor.f (a0 : ByteArray) (a1 : ByteArray) : Option (ByteArray) :=
 if a0.size ≤ a1.size ∧ a0.size ≤ 4611686018427387904 then some (strOfNums ((List.range a0.size).map fun (j : Nat) => Go.bits .xor .u8 (bt a0 (j : Int)) (bt a1 (j : Int)))) else none
set_option maxHeartbeats 8000000 in
set_option maxRecDepth 100000 in
theorem spec_l3Xor.calls (a0 : ByteArray) (a1 : ByteArray) (r : ByteArray) (w : World) (h : spec_l3Xor.f a0 a1 = some r) :
  Calls Try.prog 52 #[.string a0, .string a1] w fun e w' => e = .returned (.string r) ∧ Below w.heap.size w w' := by
 unfold spec_l3Xor.f at h
 by_cases hl : a0.size ≤ a1.size ∧ a0.size ≤ 4611686018427387904
 case neg => rw [if_neg hl] at h; cases h
 rw [if_pos hl] at h
 obtain rfl := Option.some.inj h; clear h; have HLE := aM hl; clear hl; have hu9 := Try.underlying9; have hu48 := Try.underlying48; have hu5 := Try.underlying5
 go_enter Try.func52, Try.ntmps52
 go_wp2_with ((with_reducible refine gate_dst (N := 8) rfl ?_); go_loud (refine Go.Proofs.Ytfijnlhklfmoeaa.Bytes.conv_event ?hg (N := 8) ?hd (src := 9) (dst := 48) (e := 5) (s := a0) hu9 hu48 hu5 ?hex ?_); (case hd => rfl); (case hg => rfl); (case hex => go_simp); intro g c w1 hg hrow hbel hc; have HR := aM hrow; have HB := aM hbel; have HG := aM hg; have HC := aM hc; clear hrow hbel hg hc)
 have hL0 := bytesOf_length a0
 go_loopw [11] (fun v11 w' => ∃ (i : Nat) (ys : List Int), i ≤ a0.size ∧ v11 = .int .i64 (i : Int) ∧ Aside0 (Go.Proofs.Ytfijnlhklfmoeaa.Bytes.RowB w' 5 g ys) ∧ Aside0 (ys.length = a0.size) ∧ Aside0 (∀ j : Nat, j < a0.size → ys.getD j 0 = if j < i then Go.bits .xor .u8 (bt a0 (j : Int)) (bt a1 (j : Int)) else bt a0 (j : Int)) ∧ Aside0 (Below w.heap.size w w')) (fun v11 w' => a0.size - (intOf v11).toNat)
 case atStart => exact ⟨0, bytesOf a0, Nat.zero_le _, rfl, HR, ⟨hL0⟩, ⟨fun j hj => by rw [if_neg (by omega)]; have := rd_bytesOf a0 (j : Int); unfold rd at this; rw [Int.toNat_natCast] at this; exact this⟩, HB⟩
 case round =>
  obtain ⟨i, ys, hi, rfl, HRi, HLi, HVi, HBi⟩ := hrel
  by_cases hlt : i < a0.size
  ·have hlt1 : i < a1.size := by have := HLE.out.1; omega
   have hbig : a0.size ≤ 4611686018427387904 := HLE.out.2
   have hil : i < ys.length := by rw [HLi.out]; exact hlt
   have hcell := HRi.out.cell i hil; have hv := HVi.out i hlt
   rw [if_neg (by omega)] at hv
   rw [hv] at hcell
   have hfree := HRi.out.free i hil
   have hx5 : ∀ h_ : i < a1.size, ((a1[i]'h_).toNat : Int) = bt a1 (i : Int) := fun h_ => by have h2_ := bt_at a1 (i : Int) (by simpa using h_); simpa using h2_
   have hq1 : ((i : Int) < (a1.size : Int)) = True := eq_true (by omega)
   have HS := aM (HRi.out.set i hil (Go.bits .xor .u8 (bt a0 (i : Int)) (bt a1 (i : Int)))); clear hv
   go_wp2
   go_region
   all_goals (go_wp2; go_roundw)
   case rel => exact ⟨i + 1, ys.set i (Go.bits .xor .u8 (bt a0 (i : Int)) (bt a1 (i : Int))), by omega, by go_num, ⟨by first | exact HS.out | exact HS.out.drew⟩, ⟨by rw [List.length_set]; exact HLi.out⟩, ⟨fun j hj => by
     rw [Go.Proofs.Ytfijnlhklfmoeaa.Bytes.getD_set _ _ _ _ hil]
     by_cases hji : j = i
     ·subst hji; rw [if_pos rfl, if_pos (by omega)]
     ·rw [if_neg hji, HVi.out j hj]
      by_cases h2 : j < i
      ·rw [if_pos h2, if_pos (by omega)]
      ·rw [if_neg h2, if_neg (by omega)]⟩, ⟨by repeat (first | exact HBi.out | apply zD | (refine Go.Proofs.Ytfijnlhklfmoeaa.Bytes.RowB.setBelow ?_ (by rw [HG.out]; exact Nat.le_refl _) _ _))⟩⟩
   case measure => simp [intOf]; omega
  ·have hin : i = a0.size := by omega
   have HY := aM (show ys = (List.range a0.size).map fun (j : Nat) => Go.bits .xor .u8 (bt a0 (j : Int)) (bt a1 (j : Int)) by
    apply List.ext_getElem (by simp; exact HLi.out)
    intro j h1 h2
    have h3 : j < a0.size := by simpa using h2
    have h4 := HVi.out j h3
    rw [if_pos (by omega)] at h4
    rw [List.getD_eq_getElem?_getD, List.getElem?_eq_getElem h1] at h4
    simpa using h4)
   have hcv : (convert 48 9 (.slice (some ⟨g, 0, none⟩) a0.size c)).run Try.prog wr = .ok (.string (strOfNums ys)) wr := HRi.out.text hu48 hu5 hu9 _ _ HLi.out.symm; clear hin
   go_wp2
   go_ret
   exact ⟨by rw [← HY.out]; rfl, by repeat (first | exact HBi.out | apply zD | apply zN)⟩


end Go.Proofs.Ytfijnlhklfmoeaa.PFnParity
