/- The walks of FnUpdated: Go's calls come to what the Lean functions beside them say; no condition. -/
import Derived.Test.YtfijnlhklfmoeaaQFnUpdatedx0
import Derived.Test.YtfijnlhklfmoeaaQFnUpdatedx1
import Derived.Test.YtfijnlhklfmoeaaQFnUpdatedx2
import Derived.Test.YtfijnlhklfmoeaaQFnUpdatedx4
import Derived.Test.YtfijnlhklfmoeaaQFnUpdatedx6
import Derived.Test.YtfijnlhklfmoeaaQFnUpdatedx7
namespace Go.Proofs.Ytfijnlhklfmoeaa.PFnUpdated
open Go.RowKit Go.Proofs.YtfijnlhklfmoeaaW.PrintWords Go.Proofs.YtfijnlhklfmoeaaW.PrintLast Go.Proofs.YtfijnlhklfmoeaaW.PrintMore
attribute [local go_sem] max2_int min2_int max_two min_two max_three min_three max_four min_four   -- for this text's walks alone
set_option linter.unusedVariables false
set_option linter.unusedSimpArgs false
set_option maxRecDepth 100000

/-! ### spec_l3One: function 59 -/
def spec_l3One.f (k : Nat) (l0_0 : List ByteArray) (a0_1 : ByteArray) (a0_2 : ByteArray) (a1 : Int) : Option (List ByteArray × ByteArray × ByteArray) := (spec_l3Blank.f l0_0 a0_1 a0_2 a1).bind fun bt225 => ((spec_l3Parities.f k bt225.1).bind fun bt230 => (if a1 < (bt225.1.length : Int) then ((spec_l3Xor.f bt230.1 bt225.2.1).bind fun t232 => (if 0 ≤ a1 then (some ((bt225.1.set (a1 : Int).toNat t232), bt225.2.1, bt225.2.2)) else (none))) else (if a1 = (bt225.1.length : Int) then (some (bt225.1, bt230.1, bt225.2.2)) else (some (bt225.1, bt225.2.1, bt230.2)))))
theorem spec_l3One.mono : ∀ a0 a1 a2 a3 k, LeO (spec_l3One.f k a0 a1 a2 a3) (spec_l3One.f (k + 1) a0 a1 a2 a3) := by
 intro a0 a1 a2 a3 k
 unfold spec_l3One.f
 repeat' first
   | (with_reducible exact spec_l3Parities.mono _ _)
   | (with_reducible exact LeO.refl _)
   | (with_reducible exact LeO.none _)
   | (with_reducible refine LeO.ite ?_ ?_)
   | (with_reducible refine LeO.bind ?_ (fun _ => ?_))
   | exact spec_l3Parities.mono _ _
   | exact LeO.none _
   | refine LeO.ite ?_ ?_
   | refine LeO.bind ?_ (fun _ => ?_)
def spec_l3One.T6 : Bool × List (List Nat × List Nat) := (true, [([], []), ([0], [0]), ([], []), ([], []), ([], []), ([4], [4]), ([3, 5], [3, 5]), ([1, 2, 0, 1, 2, 3, 4, 5, 6], [1, 2]), ([7, 6, 6, 0, 1, 2, 3, 4, 5, 6], [6, 7])])
def spec_l3One.B6 : List Nat := [0, 1, 0, 0, 0, 16, 56, 127, 255]
theorem spec_l3One.tab6 : rtab .any (opsOf Try.f59 6) = spec_l3One.T6 := by kernel_rfl
theorem spec_l3One.bits6 : waitsOk spec_l3One.T6.2 spec_l3One.B6 = true := by kernel_rfl
set_option maxHeartbeats 8000000 in
set_option maxRecDepth 100000 in
theorem spec_l3One.calls (k : Nat) (A0_0 : Option Addr) (c0_0 : Nat) (l0_0 : List ByteArray) (a0_1 : ByteArray) (a0_2 : ByteArray) (a1 : Int) (r1 : List ByteArray) (r2 : ByteArray) (r3 : ByteArray) (w : World) (hr0_0 : Kd.C Kd.string w A0_0 l0_0.length l0_0) (hc0_0 : l0_0.length ≤ c0_0) (h : spec_l3One.f k l0_0 a0_1 a0_2 a1 = some (r1, r2, r3)) :
  Calls Try.prog 59 #[.agg #[.slice A0_0 l0_0.length c0_0, .string a0_1, .string a0_2], .int .i64 a1] w fun e w' => ∃ v0_ : Value, e = .returned (.agg #[v0_, .string r2, .string r3]) ∧ Kd.R Kd.string 9 w' w.heap.size (fun _ => True) v0_ r1 ∧ Below w.heap.size w w' := by
 have hu27 := Try.underlying27
 have HR0_0 := aM hr0_0
 have HC0_0 := aM hc0_0
 clear hr0_0 hc0_0
 have HB := aM (Below.refl w.heap.size w)
 have H : ((spec_l3Blank.f l0_0 a0_1 a0_2 a1).bind fun bt225 => ((spec_l3Parities.f k bt225.1).bind fun bt230 => (if a1 < (bt225.1.length : Int) then ((spec_l3Xor.f bt230.1 bt225.2.1).bind fun t232 => (if 0 ≤ a1 then (some ((bt225.1.set (a1 : Int).toNat t232), bt225.2.1, bt225.2.2)) else (none))) else (if a1 = (bt225.1.length : Int) then (some (bt225.1, bt230.1, bt225.2.2)) else (some (bt225.1, bt225.2.1, bt230.2)))))) = some (r1, r2, r3) := h
 clear h
 replace H := Option.bind_eq_some_iff.mp H
 obtain ⟨⟨t225, t228, t229⟩, A30, H⟩ := H
 replace H : ((spec_l3Parities.f k t225).bind fun bt230 => (if a1 < (t225.length : Int) then ((spec_l3Xor.f bt230.1 t228).bind fun t232 => (if 0 ≤ a1 then (some ((t225.set (a1 : Int).toNat t232), t228, t229)) else (none))) else (if a1 = (t225.length : Int) then (some (t225, bt230.1, t229)) else (some (t225, t228, bt230.2))))) = some (r1, r2, r3) := H
 have A3 := aM A30
 clear A30
 replace H := Option.bind_eq_some_iff.mp H
 obtain ⟨⟨t230, t231⟩, A40, H⟩ := H
 replace H : (if a1 < (t225.length : Int) then ((spec_l3Xor.f t230 t228).bind fun t232 => (if 0 ≤ a1 then (some ((t225.set (a1 : Int).toNat t232), t228, t229)) else (none))) else (if a1 = (t225.length : Int) then (some (t225, t230, t229)) else (some (t225, t228, t231)))) = some (r1, r2, r3) := H
 have A4 := aM A40
 clear A40
 by_cases c5 : a1 < (t225.length : Int)
 ·rw [if_pos c5] at H
  have c5b0 : decide (a1 < (t225.length : Int)) = true := decide_eq_true c5
  clear c5
  replace H := Option.bind_eq_some_iff.mp H
  obtain ⟨t232, A60, H⟩ := H
  replace H : (if 0 ≤ a1 then (some ((t225.set (a1 : Int).toNat t232), t228, t229)) else (none)) = some (r1, r2, r3) := H
  have A6 := aM A60
  clear A60
  by_cases c7 : 0 ≤ a1
  ·rw [if_pos c7] at H
   have c7b0 : decide (0 ≤ a1) = true := decide_eq_true c7
   clear c7
   obtain ⟨y233, hy233⟩ : ∃ y_ : List ByteArray, y_ = (t225.set (a1 : Int).toNat t232) := ⟨_, rfl⟩
   replace H : (some (y233, t228, t229)) = some (r1, r2, r3) := by first | (rw [hy233]; with_reducible exact H) | (have H2_ := (Option.bind_some _ _).symm.trans H; rw [hy233]; with_reducible exact H2_) | (have H2_ := (Option.bind_some _ _).symm.trans H; with_reducible exact H2_) | with_reducible exact H | (rw [hy233]; exact H) | exact H
   have Ny233 := aM hy233
   clear hy233
   simp only [Option.some.injEq, Prod.mk.injEq] at H
   obtain ⟨rfl, rfl, rfl⟩ := H
   go_enter Try.func59, Try.ntmps59
   try go_wp2_with (first | ((with_reducible refine gate_dst (N := 2) rfl ?_); refine box_event ?hg (N := 2) ?hd (cs := #[.slice A0_0 l0_0.length c0_0, .string a0_1, .string a0_2]) (t := 27) ?hr ?_; (case hd => rfl); (case hg => rfl); (case hr => first | (go_simp; done) | (go_simp; rfl)); intro gb223 hg w9 hbox hb; have BK223 := aM (hbox); have GW223 := aM ((by rw [hg]; exact (zZ (zH HB.out)) : w.heap.size ≤ gb223)); have GE223 := aM ((by rw [hg]; exact (zZ (zH HB.out)) : w.heap.size ≤ gb223)); replace HB := aM (zT (zH HB.out) hb); clear hb hbox hg) | ((with_reducible refine gate_dst (N := 4) rfl ?_); refine box_event ?hg (N := 4) ?hd (cs := #[.slice none 0 0, .string (⟨#[]⟩ : ByteArray), .string (⟨#[]⟩ : ByteArray)]) (t := 27) ?hr ?_; (case hd => rfl); (case hg => rfl); (case hr => first | (go_simp; done) | (go_simp; rfl)); intro gb224 hg w10 hbox hb; have BK224 := aM (hbox); have GW224 := aM ((by rw [hg]; exact (zZ (zH HB.out)) : w.heap.size ≤ gb224)); have GE224 := aM ((by rw [hg]; exact (zZ (zH HB.out)) : w.heap.size ≤ gb224)); replace HB := aM (zT (zH HB.out) hb); have NB223_224 := nL BK223.out hg; have NB224_223 := nR BK223.out hg; replace BK223 := yK BK223.out hb; clear hb hbox hg; have hnb11 := NB223_224.out; have hnc11 := NB224_223.out; have hcz12_0 : w10.cell? ⟨gb223, 0, none⟩ = some (.slice A0_0 l0_0.length c0_0) := yc BK223.out 0; have hcz12_1 : w10.cell? ⟨gb223, 1, none⟩ = some (.string a0_1) := yc BK223.out 1; have hcz12_2 : w10.cell? ⟨gb223, 2, none⟩ = some (.string a0_2) := yc BK223.out 2; have hfz12_0 := yZ BK223.out 0; have hfz12_1 := yZ BK223.out 1; have hfz12_2 := yZ BK223.out 2) | ((with_reducible refine gate_callee (f := 75) rfl ?_); refine goesL_ (some 10) rfl rfl Try.func75 (by kernel_rfl) rfl #[.agg #[.slice A0_0 l0_0.length c0_0, .string a0_1, .string a0_2], .int .i64 a1] rfl (by (try simp only [List.map_toArray, List.map_cons, List.map_nil]); first | done | rfl | (simp only [List.length_drop, List.length_take]; rfl)) ?_; (with_reducible refine (spec_l3Blank.calls _ _ l0_0 a0_1 a0_2 a1 t225 t228 t229 _ ?side1 ?side2 A3.out).mono ?_); (case side1 => exact cK HR0_0.out HB.out); (case side2 => exact HC0_0.out); rintro e w13 ⟨v226, rfl, ho0, hb⟩; refine ⟨_, rfl, ?_⟩; have HO227 := aM (xL ho0 (zZ (zH HB.out))); replace BK223 := yK BK223.out hb; replace BK224 := yK BK224.out hb; replace HB := aM (zT (zH HB.out) hb); (try clear hb); (try clear ho0); obtain ⟨Ao14, co14, eo14⟩ := Kd.R_slice HO227.out; subst eo14; have hcz15_0 : w13.cell? ⟨gb223, 0, none⟩ = some (.slice A0_0 l0_0.length c0_0) := yc BK223.out 0; have hcz15_1 : w13.cell? ⟨gb223, 1, none⟩ = some (.string a0_1) := yc BK223.out 1; have hcz15_2 : w13.cell? ⟨gb223, 2, none⟩ = some (.string a0_2) := yc BK223.out 2; have hfz15_0 := yZ BK223.out 0; have hfz15_1 := yZ BK223.out 1; have hfz15_2 := yZ BK223.out 2) | ((with_reducible refine gate_callee (f := 45) rfl ?_); refine goesL_ (some 14) rfl rfl Try.func45 (by kernel_rfl) rfl #[.slice Ao14 t225.length co14] rfl (by (try simp only [List.map_toArray, List.map_cons, List.map_nil]); first | done | rfl | (simp only [List.length_drop, List.length_take]; rfl)) ?_; (with_reducible refine (spec_l3Parities.calls k _ _ t225 t230 t231 _ ?side1 ?side2 A4.out).mono ?_); (case side1 => exact rC (n := t225.length) (c := co14) ((x3 HO227.out BK223.out (by decide) (.slice Ao14 t225.length co14) (.string t228) (.string t229)))); (case side2 => exact (Kd.R_reads' HO227.out).2.1); rintro e w16 ⟨rfl, hb⟩; refine ⟨_, rfl, ?_⟩; replace HO227 := aM (xB (xH ((x3 HO227.out BK223.out (by decide) (.slice Ao14 t225.length co14) (.string t228) (.string t229)))) hb); replace BK223 := aM (yB (g := gb223) (o := .cells #[.slice Ao14 t225.length co14, .string t228, .string t229] 27 (0, 0)) (by (with_reducible repeat (first | refine yN ?_ _ | refine yD ?_ | refine yA ?_ _)); refine yP (cs := #[.slice Ao14 t225.length co14, .string t228, .string a0_2]) ?_ 2 _ rfl; (with_reducible repeat (first | refine yN ?_ _ | refine yD ?_ | refine yA ?_ _)); refine yP (cs := #[.slice Ao14 t225.length co14, .string a0_1, .string a0_2]) ?_ 1 _ rfl; (with_reducible repeat (first | refine yN ?_ _ | refine yD ?_ | refine yA ?_ _)); refine yP (cs := #[.slice A0_0 l0_0.length c0_0, .string a0_1, .string a0_2]) ?_ 0 _ rfl; (with_reducible repeat (first | refine yN ?_ _ | refine yD ?_ | refine yA ?_ _)); exact BK223.out) hb); replace BK224 := aM (yB (g := gb224) (o := .cells #[.slice none 0 0, .string (⟨#[]⟩ : ByteArray), .string (⟨#[]⟩ : ByteArray)] 27 (0, 0)) (by (with_reducible repeat (first | refine yN ?_ _ | refine yD ?_ | refine yA ?_ _)); refine yF ?_ NB224_223.out _; (with_reducible repeat (first | refine yN ?_ _ | refine yD ?_ | refine yA ?_ _)); refine yF ?_ NB224_223.out _; (with_reducible repeat (first | refine yN ?_ _ | refine yD ?_ | refine yA ?_ _)); refine yF ?_ NB224_223.out _; (with_reducible repeat (first | refine yN ?_ _ | refine yD ?_ | refine yA ?_ _)); exact BK224.out) hb); replace HB := aM (zT (zH HB.out) hb); (try clear hb); have hcz17_0 : w16.cell? ⟨gb223, 0, none⟩ = some (.slice Ao14 t225.length co14) := yc BK223.out 0; have hcz17_1 : w16.cell? ⟨gb223, 1, none⟩ = some (.string t228) := yc BK223.out 1; have hcz17_2 : w16.cell? ⟨gb223, 2, none⟩ = some (.string t229) := yc BK223.out 2; have hfz17_0 := yZ BK223.out 0; have hfz17_1 := yZ BK223.out 1; have hfz17_2 := yZ BK223.out 2))
   replace HO227 := aM (xD HO227.out)
   replace BK223 := aM (yD BK223.out)
   replace BK224 := aM (yD BK224.out)
   replace HB := aM (zD HB.out)
   refine start_ (n := 9) (S := fun w' => w'.cell? ⟨gb223, 0, none⟩ = some (.slice Ao14 t225.length co14) ∧ w'.cell? ⟨gb223, 1, none⟩ = some (.string t228) ∧ w'.cell? ⟨gb223, 2, none⟩ = some (.string t229)) (ds := [8]) #[fF,fF,fF,fF,fF,fF,fF,fF,fF] (by kernel_rfl) rfl rfl ⟨yc BK223.out 0, yc BK223.out 1, yc BK223.out 2⟩ (fun hHeld => ?_); refine with_tabW spec_l3One.tab6 spec_l3One.bits6 (fun HT_ HW_ => ?_)
   generalize w16.drew = w18 at HO227 BK223 BK224 HB hHeld ⊢
   refine pure_ (i := 0) (N := some 26) (v := ?_) (a' := ?_) #[tT,fF,fF,fF,fF,fF,fF,fF,fF] rfl rfl (any_of HT_.out (by kernel_rfl)) (fun _ _ _ h => h) (Or.inl ⟨by rfl, ?_⟩) ?_ ?_
   rotate_left
   ·intro w'
    go_simp
    with_reducible rfl
   rotate_left
   ·simp only [Act.put, qA, qB, qC, i64_w, i32_w]
    rfl
   refine pure_ (i := 2) (N := some 28) (v := ?_) (a' := ?_) #[tT,fF,tT,fF,fF,fF,fF,fF,fF] rfl rfl (any_of HT_.out (by kernel_rfl)) (fun _ _ _ h => h) (Or.inl ⟨by rfl, ?_⟩) ?_ ?_
   rotate_left
   ·intro w'
    go_simp
    with_reducible rfl
   rotate_left
   ·simp only [Act.put, qA, qB, qC, i64_w, i32_w]
    rfl
   refine pure_ (i := 3) (N := some 29) (v := ?_) (a' := ?_) #[tT,fF,tT,tT,fF,fF,fF,fF,fF] rfl rfl (any_of HT_.out (by kernel_rfl)) (fun _ _ _ h => h) (Or.inl ⟨by rfl, ?_⟩) ?_ ?_
   rotate_left
   ·intro w'
    go_simp
    with_reducible rfl
   rotate_left
   ·simp only [Act.put, qA, qB, qC, i64_w, i32_w]
    rfl
   refine pure_ (i := 4) (N := some 30) (v := ?_) (a' := ?_) #[tT,fF,tT,tT,tT,fF,fF,fF,fF] rfl rfl (any_of HT_.out (by kernel_rfl)) (fun _ _ _ h => h) (Or.inl ⟨by rfl, ?_⟩) ?_ ?_
   rotate_left
   ·intro w'
    go_simp
    with_reducible rfl
   rotate_left
   ·simp only [Act.put, qA, qB, qC, i64_w, i32_w]
    rfl
   refine take_ (i := 1) (N := some 27) (v := ?_) (a' := ?_) #[tT,tT,tT,tT,tT,fF,fF,fF,fF] rfl rfl (take_ofW HT_.out HW_.out (by kernel_rfl)) (fun _ _ _ h => h) (Or.inl ⟨by rfl, ?_⟩) hHeld ?_ ?_
   rotate_left
   ·rintro w' ⟨s0, s1, s2⟩
    go_simp
    with_reducible rfl
   rotate_left
   ·simp only [Act.put, qA, qB, qC, i64_w, i32_w]
    rfl
   refine take_ (i := 5) (N := some 31) (v := ?_) (a' := ?_) #[tT,tT,tT,tT,tT,tT,fF,fF,fF] rfl rfl (take_ofW HT_.out HW_.out (by kernel_rfl)) (fun _ _ _ h => h) (Or.inl ⟨by rfl, ?_⟩) hHeld ?_ ?_
   rotate_left
   ·rintro w' ⟨s0, s1, s2⟩
    go_simp
    with_reducible rfl
   rotate_left
   ·simp only [Act.put, qA, qB, qC, i64_w, i32_w]
    rfl
   refine one_ (i := 6) (N := some 32) #[tT,tT,tT,tT,tT,tT,tT,fF,fF] rfl rfl (one_of HT_.out (by kernel_rfl)) (by decide) (fun K hK => ?_)
   refine gS Try.func52 (by kernel_rfl) rfl #[.string t230, .string t228] (by rfl) rfl rfl ?_
   with_reducible refine (spec_l3Xor.calls t230 t228 t232 _ A6.out).mono ?_
   rintro e w19 ⟨rfl, hb⟩
   refine ⟨_, rfl, ?_⟩
   replace HO227 := xK HO227.out hb
   replace BK223 := yK BK223.out hb
   replace BK224 := yK BK224.out hb
   replace HB := aM (zT (zH HB.out) hb)
   (try clear hb)
   have p8 : 0 ≤ (a1 : Int) := of_decide_eq_true (by first | (with_reducible assumption) | assumption)
   have q8 : (a1 : Int) < ((t225.length : Int) : Int) := of_decide_eq_true (by first | (with_reducible assumption) | assumption)
   obtain ⟨go8, co8, eo8, gb8, gl8, cl8, HG8⟩ := Kd.R_form HO227.out (by omega)
   (first | cases eo8 | (injection eo8 with ea_ en_ ec_; (first | subst ea_ | (injection ea_ with ea_; subst ea_)); subst ec_; clear en_))
   have GB8 := aM gb8
   have GG8 := aM HG8
   clear gb8 gl8 HG8
   obtain ⟨hx8_0, hf8_0⟩ := Kd.R_celln (⟨#[]⟩ : ByteArray) HO227.out (a1 : Int) p8 q8
   replace p8 := eq_true p8
   replace q8 := eq_true q8
   have HP20 := Kd.R_putn HO227.out (a1 : Int) t232
   rw [← Ny233.out] at HP20
   have HQ20 := aM HP20
   clear HP20
   refine hK.out _ _ ⟨yc BK223.out 0, yc BK223.out 1, yc BK223.out 2⟩ (fun hHeld => ?_)
   clear hK K
   refine norm_ (a' := ?_) ?_ ?_
   rotate_left
   ·show Act.put _ (some 32) _ = _
    simp only [Act.put, qA, qB, qC, i64_w, i32_w]
    rfl
   refine pure_ (i := 7) (N := some 33) (v := ?_) (a' := ?_) #[tT,tT,tT,tT,tT,tT,tT,tT,fF] rfl rfl (any_of HT_.out (by kernel_rfl)) (fun _ _ _ h => h) (Or.inl ⟨by rfl, ?_⟩) ?_ ?_
   rotate_left
   ·intro w'
    go_simp
    with_reducible rfl
   rotate_left
   ·simp only [Act.put, qA, qB, qC, i64_w, i32_w]
    rfl
   refine last_ (i := 8) (N := none) #[tT,tT,tT,tT,tT,tT,tT,tT,tT] rfl rfl (one_of HT_.out (by kernel_rfl)) (by decide) (fun K hK => ?_)
   refine skip_ (w1 := ?_) (by rfl) rfl ?_ ?_
   rotate_left
   ·go_simp
    rfl
   refine hK.out _ _ ?_
   clear hK K
   refine done_ (done_of HT_.out (by kernel_rfl)) ?_
   have n0_ : Aside0 (Kd.R Kd.string 9 (w19.setCell ⟨go8, (a1 : Int).toNat, none⟩ (.string t232)) w.heap.size (fun _ => True) (.slice (some ⟨go8, 0, none⟩) t225.length co14) y233) := ⟨xH HQ20.out⟩
   have n1_ : Aside0 ((w19.setCell ⟨go8, (a1 : Int).toNat, none⟩ (.string t232)).heap[gb223]? = some (.cells #[.slice (some ⟨go8, 0, none⟩) t225.length co14, .string t228, .string t229] 27 (0, 0))) := ⟨by (with_reducible repeat (first | refine yN ?_ _ | refine yD ?_ | refine yA ?_ _)); refine yF ?_ (by have h_ := Kd.R_ne HO227.out BK223.out (by decide); intro e_; exact h_ (by rw [e_]; rfl)) _; (with_reducible repeat (first | refine yN ?_ _ | refine yD ?_ | refine yA ?_ _)); exact BK223.out⟩
   have n2_ : Aside0 ((w19.setCell ⟨go8, (a1 : Int).toNat, none⟩ (.string t232)).heap[gb224]? = some (.cells #[.slice none 0 0, .string (⟨#[]⟩ : ByteArray), .string (⟨#[]⟩ : ByteArray)] 27 (0, 0))) := ⟨by (with_reducible repeat (first | refine yN ?_ _ | refine yD ?_ | refine yA ?_ _)); refine yF ?_ (by have h_ := Kd.R_ne HO227.out BK224.out (by decide); intro e_; exact h_ (by rw [e_]; rfl)) _; (with_reducible repeat (first | refine yN ?_ _ | refine yD ?_ | refine yA ?_ _)); exact BK224.out⟩
   have n3_ : Aside0 (Below w.heap.size w (w19.setCell ⟨go8, (a1 : Int).toNat, none⟩ (.string t232))) := ⟨by repeat (first | (with_reducible first | exact HB.out | apply zA | apply zN | apply zD | refine zS ?_ GB8.out | refine zS ?_ GE223.out | refine zS ?_ GE224.out) | exact HB.out)⟩
   (try clear HO227); (try clear BK223); (try clear BK224); (try clear HB)
   generalize (w19.setCell ⟨go8, (a1 : Int).toNat, none⟩ (.string t232)) = w21 at n0_ n1_ n2_ n3_ ⊢
   have HO227 := n0_
   have BK223 := n1_
   have BK224 := n2_
   have HB := n3_
   clear n0_ n1_ n2_ n3_
   have hcz22_0 : w21.cell? ⟨gb223, 0, none⟩ = some (.slice (some ⟨go8, 0, none⟩) t225.length co14) := yc BK223.out 0
   have hcz22_1 : w21.cell? ⟨gb223, 1, none⟩ = some (.string t228) := yc BK223.out 1
   have hcz22_2 : w21.cell? ⟨gb223, 2, none⟩ = some (.string t229) := yc BK223.out 2
   have hfz22_0 := yZ BK223.out 0
   have hfz22_1 := yZ BK223.out 1
   have hfz22_2 := yZ BK223.out 2
   have hcz23_0 : w21.cell? ⟨gb224, 0, none⟩ = some (.slice none 0 0) := yc BK224.out 0
   have hcz23_1 : w21.cell? ⟨gb224, 1, none⟩ = some (.string (⟨#[]⟩ : ByteArray)) := yc BK224.out 1
   have hcz23_2 : w21.cell? ⟨gb224, 2, none⟩ = some (.string (⟨#[]⟩ : ByteArray)) := yc BK224.out 2
   have hfz23_0 := yZ BK224.out 0
   have hfz23_1 := yZ BK224.out 1
   have hfz23_2 := yZ BK224.out 2
   try go_wp2
   refine bodyPost_ret (results_cell_row rfl _ _ gb224 27 #[.slice (some ⟨go8, 0, none⟩) t225.length co14, .string t228, .string t229] (0, 0) _ rfl (by (with_reducible repeat (first | refine yN ?_ _ | refine yD ?_ | refine yA ?_ _)); refine yP (cs := #[.slice (some ⟨go8, 0, none⟩) t225.length co14, .string t228, .string (⟨#[]⟩ : ByteArray)]) ?_ 2 _ rfl; (with_reducible repeat (first | refine yN ?_ _ | refine yD ?_ | refine yA ?_ _)); refine yP (cs := #[.slice (some ⟨go8, 0, none⟩) t225.length co14, .string (⟨#[]⟩ : ByteArray), .string (⟨#[]⟩ : ByteArray)]) ?_ 1 _ rfl; (with_reducible repeat (first | refine yN ?_ _ | refine yD ?_ | refine yA ?_ _)); refine yP (cs := #[.slice none 0 0, .string (⟨#[]⟩ : ByteArray), .string (⟨#[]⟩ : ByteArray)]) ?_ 0 _ rfl; (with_reducible repeat (first | refine yN ?_ _ | refine yD ?_ | refine yA ?_ _)); exact BK224.out) Try.underlying27 rfl (by kernel_rfl)) rfl ?_
   exact ⟨_, by first | rfl | (simp [errW_none, errW_some] <;> rfl) | (simp [*, errW_none, errW_some] <;> rfl), xH (xM (xF (p := ⟨gb224, 2, none⟩) (xF (p := ⟨gb224, 1, none⟩) (xF (p := ⟨gb224, 0, none⟩) (xT HO227.out BK224.out (by decide)) (fun _ hk => hk.2) (.slice (some ⟨go8, 0, none⟩) t225.length co14)) (fun _ hk => hk.2) (.string t228)) (fun _ hk => hk.2) (.string t229)) (fun _ hk => trivial)), zH HB.out⟩
  ·rw [if_neg c7] at H
   exact absurd H (by simp)
 ·rw [if_neg c5] at H
  have c5b0 : decide (a1 < (t225.length : Int)) = false := decide_eq_false c5
  clear c5
  by_cases c24 : a1 = (t225.length : Int)
  ·rw [if_pos c24] at H
   have c24b0 : (a1 == (t225.length : Int)) = true := beq_iff_eq.mpr c24
   have c24b1 : (a1 != (t225.length : Int)) = false := bne_eq_false_iff_eq.mpr c24
   clear c24
   simp only [Option.some.injEq, Prod.mk.injEq] at H
   obtain ⟨rfl, rfl, rfl⟩ := H
   go_enter Try.func59, Try.ntmps59
   go_wp2_with (first | ((with_reducible refine gate_dst (N := 2) rfl ?_); refine box_event ?hg (N := 2) ?hd (cs := #[.slice A0_0 l0_0.length c0_0, .string a0_1, .string a0_2]) (t := 27) ?hr ?_; (case hd => rfl); (case hg => rfl); (case hr => first | (go_simp; done) | (go_simp; rfl)); intro gb223 hg w25 hbox hb; have BK223 := aM (hbox); have GW223 := aM ((by rw [hg]; exact (zZ (zH HB.out)) : w.heap.size ≤ gb223)); have GE223 := aM ((by rw [hg]; exact (zZ (zH HB.out)) : w.heap.size ≤ gb223)); replace HB := aM (zT (zH HB.out) hb); clear hb hbox hg) | ((with_reducible refine gate_dst (N := 4) rfl ?_); refine box_event ?hg (N := 4) ?hd (cs := #[.slice none 0 0, .string (⟨#[]⟩ : ByteArray), .string (⟨#[]⟩ : ByteArray)]) (t := 27) ?hr ?_; (case hd => rfl); (case hg => rfl); (case hr => first | (go_simp; done) | (go_simp; rfl)); intro gb224 hg w26 hbox hb; have BK224 := aM (hbox); have GW224 := aM ((by rw [hg]; exact (zZ (zH HB.out)) : w.heap.size ≤ gb224)); have GE224 := aM ((by rw [hg]; exact (zZ (zH HB.out)) : w.heap.size ≤ gb224)); replace HB := aM (zT (zH HB.out) hb); have NB223_224 := nL BK223.out hg; have NB224_223 := nR BK223.out hg; replace BK223 := yK BK223.out hb; clear hb hbox hg; have hnb27 := NB223_224.out; have hnc27 := NB224_223.out; have hcz28_0 : w26.cell? ⟨gb223, 0, none⟩ = some (.slice A0_0 l0_0.length c0_0) := yc BK223.out 0; have hcz28_1 : w26.cell? ⟨gb223, 1, none⟩ = some (.string a0_1) := yc BK223.out 1; have hcz28_2 : w26.cell? ⟨gb223, 2, none⟩ = some (.string a0_2) := yc BK223.out 2; have hfz28_0 := yZ BK223.out 0; have hfz28_1 := yZ BK223.out 1; have hfz28_2 := yZ BK223.out 2) | ((with_reducible refine gate_callee (f := 75) rfl ?_); refine goesL_ (some 10) rfl rfl Try.func75 (by kernel_rfl) rfl #[.agg #[.slice A0_0 l0_0.length c0_0, .string a0_1, .string a0_2], .int .i64 a1] rfl (by (try simp only [List.map_toArray, List.map_cons, List.map_nil]); first | done | rfl | (simp only [List.length_drop, List.length_take]; rfl)) ?_; (with_reducible refine (spec_l3Blank.calls _ _ l0_0 a0_1 a0_2 a1 t225 t228 t229 _ ?side1 ?side2 A3.out).mono ?_); (case side1 => exact cK HR0_0.out HB.out); (case side2 => exact HC0_0.out); rintro e w29 ⟨v226, rfl, ho0, hb⟩; refine ⟨_, rfl, ?_⟩; have HO227 := aM (xL ho0 (zZ (zH HB.out))); replace BK223 := yK BK223.out hb; replace BK224 := yK BK224.out hb; replace HB := aM (zT (zH HB.out) hb); (try clear hb); (try clear ho0); obtain ⟨Ao30, co30, eo30⟩ := Kd.R_slice HO227.out; subst eo30; have hcz31_0 : w29.cell? ⟨gb223, 0, none⟩ = some (.slice A0_0 l0_0.length c0_0) := yc BK223.out 0; have hcz31_1 : w29.cell? ⟨gb223, 1, none⟩ = some (.string a0_1) := yc BK223.out 1; have hcz31_2 : w29.cell? ⟨gb223, 2, none⟩ = some (.string a0_2) := yc BK223.out 2; have hfz31_0 := yZ BK223.out 0; have hfz31_1 := yZ BK223.out 1; have hfz31_2 := yZ BK223.out 2) | ((with_reducible refine gate_callee (f := 45) rfl ?_); refine goesL_ (some 14) rfl rfl Try.func45 (by kernel_rfl) rfl #[.slice Ao30 t225.length co30] rfl (by (try simp only [List.map_toArray, List.map_cons, List.map_nil]); first | done | rfl | (simp only [List.length_drop, List.length_take]; rfl)) ?_; (with_reducible refine (spec_l3Parities.calls k _ _ t225 t230 t231 _ ?side1 ?side2 A4.out).mono ?_); (case side1 => exact rC (n := t225.length) (c := co30) ((x3 HO227.out BK223.out (by decide) (.slice Ao30 t225.length co30) (.string t228) (.string t229)))); (case side2 => exact (Kd.R_reads' HO227.out).2.1); rintro e w32 ⟨rfl, hb⟩; refine ⟨_, rfl, ?_⟩; replace HO227 := aM (xB (xH ((x3 HO227.out BK223.out (by decide) (.slice Ao30 t225.length co30) (.string t228) (.string t229)))) hb); replace BK223 := aM (yB (g := gb223) (o := .cells #[.slice Ao30 t225.length co30, .string t228, .string t229] 27 (0, 0)) (by (with_reducible repeat (first | refine yN ?_ _ | refine yD ?_ | refine yA ?_ _)); refine yP (cs := #[.slice Ao30 t225.length co30, .string t228, .string a0_2]) ?_ 2 _ rfl; (with_reducible repeat (first | refine yN ?_ _ | refine yD ?_ | refine yA ?_ _)); refine yP (cs := #[.slice Ao30 t225.length co30, .string a0_1, .string a0_2]) ?_ 1 _ rfl; (with_reducible repeat (first | refine yN ?_ _ | refine yD ?_ | refine yA ?_ _)); refine yP (cs := #[.slice A0_0 l0_0.length c0_0, .string a0_1, .string a0_2]) ?_ 0 _ rfl; (with_reducible repeat (first | refine yN ?_ _ | refine yD ?_ | refine yA ?_ _)); exact BK223.out) hb); replace BK224 := aM (yB (g := gb224) (o := .cells #[.slice none 0 0, .string (⟨#[]⟩ : ByteArray), .string (⟨#[]⟩ : ByteArray)] 27 (0, 0)) (by (with_reducible repeat (first | refine yN ?_ _ | refine yD ?_ | refine yA ?_ _)); refine yF ?_ NB224_223.out _; (with_reducible repeat (first | refine yN ?_ _ | refine yD ?_ | refine yA ?_ _)); refine yF ?_ NB224_223.out _; (with_reducible repeat (first | refine yN ?_ _ | refine yD ?_ | refine yA ?_ _)); refine yF ?_ NB224_223.out _; (with_reducible repeat (first | refine yN ?_ _ | refine yD ?_ | refine yA ?_ _)); exact BK224.out) hb); replace HB := aM (zT (zH HB.out) hb); (try clear hb); have hcz33_0 : w32.cell? ⟨gb223, 0, none⟩ = some (.slice Ao30 t225.length co30) := yc BK223.out 0; have hcz33_1 : w32.cell? ⟨gb223, 1, none⟩ = some (.string t228) := yc BK223.out 1; have hcz33_2 : w32.cell? ⟨gb223, 2, none⟩ = some (.string t229) := yc BK223.out 2; have hfz33_0 := yZ BK223.out 0; have hfz33_1 := yZ BK223.out 1; have hfz33_2 := yZ BK223.out 2; have hcz34_0 : w32.cell? ⟨gb224, 0, none⟩ = some (.slice none 0 0) := yc BK224.out 0; have hcz34_1 : w32.cell? ⟨gb224, 1, none⟩ = some (.string (⟨#[]⟩ : ByteArray)) := yc BK224.out 1; have hcz34_2 : w32.cell? ⟨gb224, 2, none⟩ = some (.string (⟨#[]⟩ : ByteArray)) := yc BK224.out 2; have hfz34_0 := yZ BK224.out 0; have hfz34_1 := yZ BK224.out 1; have hfz34_2 := yZ BK224.out 2))
   refine bodyPost_ret (results_cell_row rfl _ _ gb224 27 #[.slice Ao30 t225.length co30, .string t230, .string t229] (0, 0) _ rfl (by (with_reducible repeat (first | refine yN ?_ _ | refine yD ?_ | refine yA ?_ _)); refine yP (cs := #[.slice Ao30 t225.length co30, .string t230, .string (⟨#[]⟩ : ByteArray)]) ?_ 2 _ rfl; (with_reducible repeat (first | refine yN ?_ _ | refine yD ?_ | refine yA ?_ _)); refine yP (cs := #[.slice Ao30 t225.length co30, .string (⟨#[]⟩ : ByteArray), .string (⟨#[]⟩ : ByteArray)]) ?_ 1 _ rfl; (with_reducible repeat (first | refine yN ?_ _ | refine yD ?_ | refine yA ?_ _)); refine yP (cs := #[.slice none 0 0, .string (⟨#[]⟩ : ByteArray), .string (⟨#[]⟩ : ByteArray)]) ?_ 0 _ rfl; (with_reducible repeat (first | refine yN ?_ _ | refine yD ?_ | refine yA ?_ _)); refine yF ?_ NB224_223.out _; (with_reducible repeat (first | refine yN ?_ _ | refine yD ?_ | refine yA ?_ _)); exact BK224.out) Try.underlying27 rfl (by kernel_rfl)) rfl ?_
   exact ⟨_, by first | rfl | (simp [errW_none, errW_some] <;> rfl) | (simp [*, errW_none, errW_some] <;> rfl), xH (xM (xF (p := ⟨gb224, 2, none⟩) (xF (p := ⟨gb224, 1, none⟩) (xF (p := ⟨gb224, 0, none⟩) (xF (p := ⟨gb223, 1, none⟩) (xT (xT HO227.out BK223.out (by decide)) BK224.out (by decide)) (fun _ hk => hk.1.2) (.string t230)) (fun _ hk => hk.2) (.slice Ao30 t225.length co30)) (fun _ hk => hk.2) (.string t230)) (fun _ hk => hk.2) (.string t229)) (fun _ hk => trivial)), zH HB.out⟩
  ·rw [if_neg c24] at H
   have c24b0 : (a1 == (t225.length : Int)) = false := beq_eq_false_iff_ne.mpr c24
   have c24b1 : (a1 != (t225.length : Int)) = true := bne_iff_ne.mpr c24
   simp only [Option.some.injEq, Prod.mk.injEq] at H
   obtain ⟨rfl, rfl, rfl⟩ := H
   go_enter Try.func59, Try.ntmps59
   go_wp2_with (first | ((with_reducible refine gate_dst (N := 2) rfl ?_); refine box_event ?hg (N := 2) ?hd (cs := #[.slice A0_0 l0_0.length c0_0, .string a0_1, .string a0_2]) (t := 27) ?hr ?_; (case hd => rfl); (case hg => rfl); (case hr => first | (go_simp; done) | (go_simp; rfl)); intro gb223 hg w35 hbox hb; have BK223 := aM (hbox); have GW223 := aM ((by rw [hg]; exact (zZ (zH HB.out)) : w.heap.size ≤ gb223)); have GE223 := aM ((by rw [hg]; exact (zZ (zH HB.out)) : w.heap.size ≤ gb223)); replace HB := aM (zT (zH HB.out) hb); clear hb hbox hg) | ((with_reducible refine gate_dst (N := 4) rfl ?_); refine box_event ?hg (N := 4) ?hd (cs := #[.slice none 0 0, .string (⟨#[]⟩ : ByteArray), .string (⟨#[]⟩ : ByteArray)]) (t := 27) ?hr ?_; (case hd => rfl); (case hg => rfl); (case hr => first | (go_simp; done) | (go_simp; rfl)); intro gb224 hg w36 hbox hb; have BK224 := aM (hbox); have GW224 := aM ((by rw [hg]; exact (zZ (zH HB.out)) : w.heap.size ≤ gb224)); have GE224 := aM ((by rw [hg]; exact (zZ (zH HB.out)) : w.heap.size ≤ gb224)); replace HB := aM (zT (zH HB.out) hb); have NB223_224 := nL BK223.out hg; have NB224_223 := nR BK223.out hg; replace BK223 := yK BK223.out hb; clear hb hbox hg; have hnb37 := NB223_224.out; have hnc37 := NB224_223.out; have hcz38_0 : w36.cell? ⟨gb223, 0, none⟩ = some (.slice A0_0 l0_0.length c0_0) := yc BK223.out 0; have hcz38_1 : w36.cell? ⟨gb223, 1, none⟩ = some (.string a0_1) := yc BK223.out 1; have hcz38_2 : w36.cell? ⟨gb223, 2, none⟩ = some (.string a0_2) := yc BK223.out 2; have hfz38_0 := yZ BK223.out 0; have hfz38_1 := yZ BK223.out 1; have hfz38_2 := yZ BK223.out 2) | ((with_reducible refine gate_callee (f := 75) rfl ?_); refine goesL_ (some 10) rfl rfl Try.func75 (by kernel_rfl) rfl #[.agg #[.slice A0_0 l0_0.length c0_0, .string a0_1, .string a0_2], .int .i64 a1] rfl (by (try simp only [List.map_toArray, List.map_cons, List.map_nil]); first | done | rfl | (simp only [List.length_drop, List.length_take]; rfl)) ?_; (with_reducible refine (spec_l3Blank.calls _ _ l0_0 a0_1 a0_2 a1 t225 t228 t229 _ ?side1 ?side2 A3.out).mono ?_); (case side1 => exact cK HR0_0.out HB.out); (case side2 => exact HC0_0.out); rintro e w39 ⟨v226, rfl, ho0, hb⟩; refine ⟨_, rfl, ?_⟩; have HO227 := aM (xL ho0 (zZ (zH HB.out))); replace BK223 := yK BK223.out hb; replace BK224 := yK BK224.out hb; replace HB := aM (zT (zH HB.out) hb); (try clear hb); (try clear ho0); obtain ⟨Ao40, co40, eo40⟩ := Kd.R_slice HO227.out; subst eo40; have hcz41_0 : w39.cell? ⟨gb223, 0, none⟩ = some (.slice A0_0 l0_0.length c0_0) := yc BK223.out 0; have hcz41_1 : w39.cell? ⟨gb223, 1, none⟩ = some (.string a0_1) := yc BK223.out 1; have hcz41_2 : w39.cell? ⟨gb223, 2, none⟩ = some (.string a0_2) := yc BK223.out 2; have hfz41_0 := yZ BK223.out 0; have hfz41_1 := yZ BK223.out 1; have hfz41_2 := yZ BK223.out 2) | ((with_reducible refine gate_callee (f := 45) rfl ?_); refine goesL_ (some 14) rfl rfl Try.func45 (by kernel_rfl) rfl #[.slice Ao40 t225.length co40] rfl (by (try simp only [List.map_toArray, List.map_cons, List.map_nil]); first | done | rfl | (simp only [List.length_drop, List.length_take]; rfl)) ?_; (with_reducible refine (spec_l3Parities.calls k _ _ t225 t230 t231 _ ?side1 ?side2 A4.out).mono ?_); (case side1 => exact rC (n := t225.length) (c := co40) ((x3 HO227.out BK223.out (by decide) (.slice Ao40 t225.length co40) (.string t228) (.string t229)))); (case side2 => exact (Kd.R_reads' HO227.out).2.1); rintro e w42 ⟨rfl, hb⟩; refine ⟨_, rfl, ?_⟩; replace HO227 := aM (xB (xH ((x3 HO227.out BK223.out (by decide) (.slice Ao40 t225.length co40) (.string t228) (.string t229)))) hb); replace BK223 := aM (yB (g := gb223) (o := .cells #[.slice Ao40 t225.length co40, .string t228, .string t229] 27 (0, 0)) (by (with_reducible repeat (first | refine yN ?_ _ | refine yD ?_ | refine yA ?_ _)); refine yP (cs := #[.slice Ao40 t225.length co40, .string t228, .string a0_2]) ?_ 2 _ rfl; (with_reducible repeat (first | refine yN ?_ _ | refine yD ?_ | refine yA ?_ _)); refine yP (cs := #[.slice Ao40 t225.length co40, .string a0_1, .string a0_2]) ?_ 1 _ rfl; (with_reducible repeat (first | refine yN ?_ _ | refine yD ?_ | refine yA ?_ _)); refine yP (cs := #[.slice A0_0 l0_0.length c0_0, .string a0_1, .string a0_2]) ?_ 0 _ rfl; (with_reducible repeat (first | refine yN ?_ _ | refine yD ?_ | refine yA ?_ _)); exact BK223.out) hb); replace BK224 := aM (yB (g := gb224) (o := .cells #[.slice none 0 0, .string (⟨#[]⟩ : ByteArray), .string (⟨#[]⟩ : ByteArray)] 27 (0, 0)) (by (with_reducible repeat (first | refine yN ?_ _ | refine yD ?_ | refine yA ?_ _)); refine yF ?_ NB224_223.out _; (with_reducible repeat (first | refine yN ?_ _ | refine yD ?_ | refine yA ?_ _)); refine yF ?_ NB224_223.out _; (with_reducible repeat (first | refine yN ?_ _ | refine yD ?_ | refine yA ?_ _)); refine yF ?_ NB224_223.out _; (with_reducible repeat (first | refine yN ?_ _ | refine yD ?_ | refine yA ?_ _)); exact BK224.out) hb); replace HB := aM (zT (zH HB.out) hb); (try clear hb); have hcz43_0 : w42.cell? ⟨gb223, 0, none⟩ = some (.slice Ao40 t225.length co40) := yc BK223.out 0; have hcz43_1 : w42.cell? ⟨gb223, 1, none⟩ = some (.string t228) := yc BK223.out 1; have hcz43_2 : w42.cell? ⟨gb223, 2, none⟩ = some (.string t229) := yc BK223.out 2; have hfz43_0 := yZ BK223.out 0; have hfz43_1 := yZ BK223.out 1; have hfz43_2 := yZ BK223.out 2; have hcz44_0 : w42.cell? ⟨gb224, 0, none⟩ = some (.slice none 0 0) := yc BK224.out 0; have hcz44_1 : w42.cell? ⟨gb224, 1, none⟩ = some (.string (⟨#[]⟩ : ByteArray)) := yc BK224.out 1; have hcz44_2 : w42.cell? ⟨gb224, 2, none⟩ = some (.string (⟨#[]⟩ : ByteArray)) := yc BK224.out 2; have hfz44_0 := yZ BK224.out 0; have hfz44_1 := yZ BK224.out 1; have hfz44_2 := yZ BK224.out 2))
   refine bodyPost_ret (results_cell_row rfl _ _ gb224 27 #[.slice Ao40 t225.length co40, .string t228, .string t231] (0, 0) _ rfl (by (with_reducible repeat (first | refine yN ?_ _ | refine yD ?_ | refine yA ?_ _)); refine yP (cs := #[.slice Ao40 t225.length co40, .string t228, .string (⟨#[]⟩ : ByteArray)]) ?_ 2 _ rfl; (with_reducible repeat (first | refine yN ?_ _ | refine yD ?_ | refine yA ?_ _)); refine yP (cs := #[.slice Ao40 t225.length co40, .string (⟨#[]⟩ : ByteArray), .string (⟨#[]⟩ : ByteArray)]) ?_ 1 _ rfl; (with_reducible repeat (first | refine yN ?_ _ | refine yD ?_ | refine yA ?_ _)); refine yP (cs := #[.slice none 0 0, .string (⟨#[]⟩ : ByteArray), .string (⟨#[]⟩ : ByteArray)]) ?_ 0 _ rfl; (with_reducible repeat (first | refine yN ?_ _ | refine yD ?_ | refine yA ?_ _)); refine yF ?_ NB224_223.out _; (with_reducible repeat (first | refine yN ?_ _ | refine yD ?_ | refine yA ?_ _)); exact BK224.out) Try.underlying27 rfl (by kernel_rfl)) rfl ?_
   exact ⟨_, by first | rfl | (simp [errW_none, errW_some] <;> rfl) | (simp [*, errW_none, errW_some] <;> rfl), xH (xM (xF (p := ⟨gb224, 2, none⟩) (xF (p := ⟨gb224, 1, none⟩) (xF (p := ⟨gb224, 0, none⟩) (xF (p := ⟨gb223, 2, none⟩) (xT (xT HO227.out BK223.out (by decide)) BK224.out (by decide)) (fun _ hk => hk.1.2) (.string t231)) (fun _ hk => hk.2) (.slice Ao40 t225.length co40)) (fun _ hk => hk.2) (.string t228)) (fun _ hk => hk.2) (.string t231)) (fun _ hk => trivial)), zH HB.out⟩

/-! ### spec_FindWrong: function 29 -/
mutual
def spec_FindWrong.j0 : Nat → Bool → List ByteArray → ByteArray → ByteArray → Option (Int × Bool)
 | 0, _, _, _, _ => none
 | k + 1, x12, x235000, x235001, x235002 => if x12 = true then (some (0, false)) else (spec_FindWrong.l0 k (-1) 0 x235000 x235001 x235002)
def spec_FindWrong.l0 : Nat → Int → Int → List ByteArray → ByteArray → ByteArray → Option (Int × Bool)
 | 0, _, _, _, _, _ => none
 | k + 1, x4, x5, x235000, x235001, x235002 => if x5 ≤ (wrap64 ((x235000.length : Int) + 1)) then ((spec_l3One.f k x235000 x235001 x235002 x5).bind fun bt237 => ((spec_l3Right.f k bt237.1 bt237.2.1 bt237.2.2).bind fun t242 => (if t242 = true then (if x4 ≥ 0 then (some (0, false)) else (spec_FindWrong.l0 k x5 (wrap64 (x5 + 1)) x235000 x235001 x235002)) else (spec_FindWrong.l0 k x4 (wrap64 (x5 + 1)) x235000 x235001 x235002)))) else (if x4 < 0 then (some (0, false)) else (some (x4, true)))
end
def spec_FindWrong.f (k : Nat) (l0_0 : List ByteArray) (a0_1 : ByteArray) (a0_2 : ByteArray) : Option (Int × Bool) := (spec_GoodStripe.f k l0_0 a0_1 a0_2).bind fun t235 => (if t235 = true then ((spec_l3Right.f k l0_0 a0_1 a0_2).bind fun t236 => (spec_FindWrong.j0 k t236 l0_0 a0_1 a0_2)) else (spec_FindWrong.j0 k true l0_0 a0_1 a0_2))
theorem spec_FindWrong.mono_l : ∀ k, (∀ y0 y1 y2 y3, LeO (spec_FindWrong.j0 k y0 y1 y2 y3) (spec_FindWrong.j0 (k + 1) y0 y1 y2 y3)) ∧ (∀ y0 y1 y2 y3 y4, LeO (spec_FindWrong.l0 k y0 y1 y2 y3 y4) (spec_FindWrong.l0 (k + 1) y0 y1 y2 y3 y4))
 | 0 => ⟨fun _ _ _ _ r h => by simp [spec_FindWrong.j0] at h, fun _ _ _ _ _ r h => by simp [spec_FindWrong.l0] at h⟩
 | k + 1 => by
  obtain ⟨ih0, ih1⟩ := spec_FindWrong.mono_l k
  refine ⟨?_, ?_⟩
  ·intro y0 y1 y2 y3
   unfold spec_FindWrong.j0
   repeat' first
   | (with_reducible exact ih0 _ _ _ _)
   | (with_reducible exact ih1 _ _ _ _ _)
   | (with_reducible exact spec_GoodStripe.mono _ _ _ _)
   | (with_reducible exact spec_l3One.mono _ _ _ _ _)
   | (with_reducible exact spec_l3Right.mono _ _ _ _)
   | (with_reducible exact LeO.refl _)
   | (with_reducible exact LeO.none _)
   | (with_reducible refine LeO.ite ?_ ?_)
   | (with_reducible refine LeO.bind ?_ (fun _ => ?_))
   | exact ih0 _ _ _ _
   | exact ih1 _ _ _ _ _
   | exact spec_GoodStripe.mono _ _ _ _
   | exact spec_l3One.mono _ _ _ _ _
   | exact spec_l3Right.mono _ _ _ _
   | exact LeO.none _
   | refine LeO.ite ?_ ?_
   | refine LeO.bind ?_ (fun _ => ?_)
  ·intro y0 y1 y2 y3 y4
   unfold spec_FindWrong.l0
   repeat' first
   | (with_reducible exact ih0 _ _ _ _)
   | (with_reducible exact ih1 _ _ _ _ _)
   | (with_reducible exact spec_GoodStripe.mono _ _ _ _)
   | (with_reducible exact spec_l3One.mono _ _ _ _ _)
   | (with_reducible exact spec_l3Right.mono _ _ _ _)
   | (with_reducible exact LeO.refl _)
   | (with_reducible exact LeO.none _)
   | (with_reducible refine LeO.ite ?_ ?_)
   | (with_reducible refine LeO.bind ?_ (fun _ => ?_))
   | exact ih0 _ _ _ _
   | exact ih1 _ _ _ _ _
   | exact spec_GoodStripe.mono _ _ _ _
   | exact spec_l3One.mono _ _ _ _ _
   | exact spec_l3Right.mono _ _ _ _
   | exact LeO.none _
   | refine LeO.ite ?_ ?_
   | refine LeO.bind ?_ (fun _ => ?_)
theorem spec_FindWrong.mono : ∀ a0 a1 a2 k, LeO (spec_FindWrong.f k a0 a1 a2) (spec_FindWrong.f (k + 1) a0 a1 a2) := by
 intro a0 a1 a2 k
 obtain ⟨ih0, ih1⟩ := spec_FindWrong.mono_l k
 unfold spec_FindWrong.f
 repeat' first
   | (with_reducible exact ih0 _ _ _ _)
   | (with_reducible exact ih1 _ _ _ _ _)
   | (with_reducible exact spec_GoodStripe.mono _ _ _ _)
   | (with_reducible exact spec_l3One.mono _ _ _ _ _)
   | (with_reducible exact spec_l3Right.mono _ _ _ _)
   | (with_reducible exact LeO.refl _)
   | (with_reducible exact LeO.none _)
   | (with_reducible refine LeO.ite ?_ ?_)
   | (with_reducible refine LeO.bind ?_ (fun _ => ?_))
   | exact ih0 _ _ _ _
   | exact ih1 _ _ _ _ _
   | exact spec_GoodStripe.mono _ _ _ _
   | exact spec_l3One.mono _ _ _ _ _
   | exact spec_l3Right.mono _ _ _ _
   | exact LeO.none _
   | refine LeO.ite ?_ ?_
   | refine LeO.bind ?_ (fun _ => ?_)
set_option maxHeartbeats 8000000 in
set_option maxRecDepth 100000 in
theorem spec_FindWrong.calls (k : Nat) (A0_0 : Option Addr) (c0_0 : Nat) (l0_0 : List ByteArray) (a0_1 : ByteArray) (a0_2 : ByteArray) (r1 : Int) (r2 : Bool) (w : World) (hr0_0 : Kd.C Kd.string w A0_0 l0_0.length l0_0) (hc0_0 : l0_0.length ≤ c0_0) (h : spec_FindWrong.f k l0_0 a0_1 a0_2 = some (r1, r2)) :
  Calls Try.prog 29 #[.agg #[.slice A0_0 l0_0.length c0_0, .string a0_1, .string a0_2]] w fun e w' => e = .returned (.tuple #[.int .i64 r1, .bool r2]) ∧ Below w.heap.size w w' := by
 have hu27 := Try.underlying27
 have HR0_0 := aM hr0_0
 have HC0_0 := aM hc0_0
 clear hr0_0 hc0_0
 have HB := aM (Below.refl w.heap.size w)
 have H : ((spec_GoodStripe.f k l0_0 a0_1 a0_2).bind fun t235 => (if t235 = true then ((spec_l3Right.f k l0_0 a0_1 a0_2).bind fun t236 => (spec_FindWrong.j0 k t236 l0_0 a0_1 a0_2)) else (spec_FindWrong.j0 k true l0_0 a0_1 a0_2))) = some (r1, r2) := h
 clear h
 have HC2 := aM H
 clear H
 go_enter Try.func29, Try.ntmps29
 go_upto_region 1 with (first | ((with_reducible refine gate_dst (N := 1) rfl ?_); refine box_event ?hg (N := 1) ?hd (cs := #[.slice A0_0 l0_0.length c0_0, .string a0_1, .string a0_2]) (t := 27) ?hr ?_; (case hd => rfl); (case hg => rfl); (case hr => first | (go_simp; done) | (go_simp; rfl)); intro gb234 hg w3 hbox hb; have BK234 := aM (hbox); have GW234 := aM ((by rw [hg]; exact (zZ (zH HB.out)) : w.heap.size ≤ gb234)); have GE234 := aM ((by rw [hg]; exact (zZ (zH HB.out)) : w.heap.size ≤ gb234)); replace HB := aM (zT (zH HB.out) hb); clear hb hbox hg))
 (try simp only [Act.put, qA, qB, qC])
 go_cut [12] (fun v12 wc => ∃ (kq : Nat) (x12_1 : Bool), v12 = .bool x12_1 ∧ Aside0 (spec_FindWrong.j0 kq x12_1 l0_0 a0_1 a0_2 = some (r1, r2)) ∧ Aside0 (kq ≤ k) ∧ Aside0 (wc.heap[gb234]? = some (.cells #[(.slice A0_0 l0_0.length c0_0), .string a0_1, .string a0_2] 27 (0, 0))) ∧ Aside0 (Below w.heap.size w wc))
 case first =>
  have H := HC2.out
  clear HC2
  replace H := Option.bind_eq_some_iff.mp H
  obtain ⟨t235, A40, H⟩ := H
  replace H : (if t235 = true then ((spec_l3Right.f k l0_0 a0_1 a0_2).bind fun t236 => (spec_FindWrong.j0 k t236 l0_0 a0_1 a0_2)) else (spec_FindWrong.j0 k true l0_0 a0_1 a0_2)) = some (r1, r2) := H
  have A4 := aM A40
  clear A40
  by_cases c5 : t235 = true
  ·subst c5
   have H1 : ((spec_l3Right.f k l0_0 a0_1 a0_2).bind fun t236 => (spec_FindWrong.j0 k t236 l0_0 a0_1 a0_2)) = some (r1, r2) := by rw [if_pos rfl] at H; exact H
   clear H
   have H := H1
   clear H1
   replace H := Option.bind_eq_some_iff.mp H
   obtain ⟨t236, A60, H⟩ := H
   replace H : (spec_FindWrong.j0 k t236 l0_0 a0_1 a0_2) = some (r1, r2) := H
   have A6 := aM A60
   clear A60
   have H' := aM H
   clear H
   have hcz7_0 : w3.cell? ⟨gb234, 0, none⟩ = some (.slice A0_0 l0_0.length c0_0) := yc BK234.out 0
   have hcz7_1 : w3.cell? ⟨gb234, 1, none⟩ = some (.string a0_1) := yc BK234.out 1
   have hcz7_2 : w3.cell? ⟨gb234, 2, none⟩ = some (.string a0_2) := yc BK234.out 2
   have hfz7_0 := yZ BK234.out 0
   have hfz7_1 := yZ BK234.out 1
   have hfz7_2 := yZ BK234.out 2
   go_wp2_with (first | ((with_reducible refine gate_callee (f := 13) rfl ?_); refine goesL_ (some 7) rfl rfl Try.func13 (by kernel_rfl) rfl #[.agg #[.slice A0_0 l0_0.length c0_0, .string a0_1, .string a0_2]] rfl (by (try simp only [List.map_toArray, List.map_cons, List.map_nil]); first | done | rfl | (simp only [List.length_drop, List.length_take]; rfl)) ?_; (with_reducible refine (spec_GoodStripe.calls k _ _ l0_0 a0_1 a0_2 true _ ?side1 ?side2 A4.out).mono ?_); (case side1 => exact cK HR0_0.out HB.out); (case side2 => exact HC0_0.out); rintro e w8 ⟨rfl, hb⟩; refine ⟨_, rfl, ?_⟩; replace BK234 := yK BK234.out hb; replace HB := aM (zT (zH HB.out) hb); (try clear hb); have hcz9_0 : w8.cell? ⟨gb234, 0, none⟩ = some (.slice A0_0 l0_0.length c0_0) := yc BK234.out 0; have hcz9_1 : w8.cell? ⟨gb234, 1, none⟩ = some (.string a0_1) := yc BK234.out 1; have hcz9_2 : w8.cell? ⟨gb234, 2, none⟩ = some (.string a0_2) := yc BK234.out 2; have hfz9_0 := yZ BK234.out 0; have hfz9_1 := yZ BK234.out 1; have hfz9_2 := yZ BK234.out 2) | (go_at_call 43; (with_reducible refine (spec_l3Right.calls k _ _ l0_0 a0_1 a0_2 t236 _ ?side1 ?side2 A6.out).mono ?_); (case side1 => exact cK HR0_0.out HB.out); (case side2 => exact HC0_0.out); rintro e w10 ⟨rfl, hb⟩; replace BK234 := yK BK234.out hb; replace HB := aM (zT (zH HB.out) hb); (try clear hb)))
   go_meet
   case rel => exact ⟨_, (t236), (by first | rfl | (simp; done) | (simp [*]; done)), H', ⟨by first | omega | exact Nat.le_refl _⟩, ⟨yH BK234.out⟩, ⟨zH HB.out⟩⟩
  ·replace c5 := Bool.eq_false_iff.mpr c5
   subst c5
   have H1 : (spec_FindWrong.j0 k true l0_0 a0_1 a0_2) = some (r1, r2) := by rw [if_neg (show ¬ (false = true) by decide)] at H; exact H
   clear H
   have H := H1
   clear H1
   have H' := aM H
   clear H
   have hcz11_0 : w3.cell? ⟨gb234, 0, none⟩ = some (.slice A0_0 l0_0.length c0_0) := yc BK234.out 0
   have hcz11_1 : w3.cell? ⟨gb234, 1, none⟩ = some (.string a0_1) := yc BK234.out 1
   have hcz11_2 : w3.cell? ⟨gb234, 2, none⟩ = some (.string a0_2) := yc BK234.out 2
   have hfz11_0 := yZ BK234.out 0
   have hfz11_1 := yZ BK234.out 1
   have hfz11_2 := yZ BK234.out 2
   go_wp2_with (first | ((with_reducible refine gate_callee (f := 13) rfl ?_); refine goesL_ (some 7) rfl rfl Try.func13 (by kernel_rfl) rfl #[.agg #[.slice A0_0 l0_0.length c0_0, .string a0_1, .string a0_2]] rfl (by (try simp only [List.map_toArray, List.map_cons, List.map_nil]); first | done | rfl | (simp only [List.length_drop, List.length_take]; rfl)) ?_; (with_reducible refine (spec_GoodStripe.calls k _ _ l0_0 a0_1 a0_2 false _ ?side1 ?side2 A4.out).mono ?_); (case side1 => exact cK HR0_0.out HB.out); (case side2 => exact HC0_0.out); rintro e w12 ⟨rfl, hb⟩; refine ⟨_, rfl, ?_⟩; replace BK234 := yK BK234.out hb; replace HB := aM (zT (zH HB.out) hb); (try clear hb)))
   go_meet
   case rel => exact ⟨_, (true), (by first | rfl | (simp; done) | (simp [*]; done)), H', ⟨by first | omega | exact Nat.le_refl _⟩, ⟨yH BK234.out⟩, ⟨zH HB.out⟩⟩
 case rest =>
  clear HC2
  (try clear c1); (try clear c2); (try clear p2); (try clear c5); (try clear hcz11_0); (try clear hcz11_1); (try clear hcz11_2); (try clear hcz7_0); (try clear hcz7_1); (try clear hcz7_2); (try clear hcz9_0); (try clear hcz9_1); (try clear hcz9_2); (try clear hfz11_0); (try clear hfz11_1); (try clear hfz11_2); (try clear hfz7_0); (try clear hfz7_1); (try clear hfz7_2); (try clear hfz9_0); (try clear hfz9_1); (try clear hfz9_2)
  obtain ⟨kq, x12_1, rfl, HA, HJ1, BK234, HB⟩ := hcut
  cases kq with
  | zero => exact absurd HA.out (fun h_ => by change none = some _ at h_; cases h_)
  | succ kj1 =>
   have H := HA.out
   clear HA
   simp only [spec_FindWrong.j0] at H
   by_cases c13 : x12_1 = true
   ·subst c13
    have H1 : (some (0, false)) = some (r1, r2) := by rw [if_pos rfl] at H; exact H
    clear H
    have H := H1
    clear H1
    simp only [Option.some.injEq, Prod.mk.injEq] at H
    obtain ⟨rfl, rfl⟩ := H
    go_wp2
    go_ret2
    exact ⟨by first | rfl | (simp [errW_none, errW_some] <;> rfl) | (simp [*, errW_none, errW_some] <;> rfl), zH HB.out⟩
   ·replace c13 := Bool.eq_false_iff.mpr c13
    subst c13
    have H1 : (spec_FindWrong.l0 kj1 (-1) 0 l0_0 a0_1 a0_2) = some (r1, r2) := by rw [if_neg (show ¬ (false = true) by decide)] at H; exact H
    clear H
    have H := H1
    clear H1
    have H' := aM H
    clear H
    go_wp2
    go_loopg [4, 5] kj1 (fun kq v4 v5 w' => ∃ (x4_2 : Int) (x5_2 : Int), v4 = .int .i64 x4_2 ∧ v5 = .int .i64 x5_2 ∧ Aside0 (spec_FindWrong.l0 kq x4_2 x5_2 l0_0 a0_1 a0_2 = some (r1, r2)) ∧ Aside0 (kq ≤ kj1) ∧ Aside0 (w'.heap[gb234]? = some (.cells #[(.slice A0_0 l0_0.length c0_0), .string a0_1, .string a0_2] 27 (0, 0))) ∧ Aside0 (Below w.heap.size w w'))
    case atStart => exact ⟨((-1)), (0), (by first | rfl | (simp; done) | (simp [*]; done)), (by first | rfl | (simp; done) | (simp [*]; done)), H', ⟨Nat.le_refl _⟩, ⟨yH BK234.out⟩, ⟨zH HB.out⟩⟩
    case round =>
     clear H'
     (try clear c1); (try clear c2); (try clear p2); (try clear c5); (try clear c13); (try clear hcz11_0); (try clear hcz11_1); (try clear hcz11_2); (try clear hcz7_0); (try clear hcz7_1); (try clear hcz7_2); (try clear hcz9_0); (try clear hcz9_1); (try clear hcz9_2); (try clear hfz11_0); (try clear hfz11_1); (try clear hfz11_2); (try clear hfz7_0); (try clear hfz7_1); (try clear hfz7_2); (try clear hfz9_0); (try clear hfz9_1); (try clear hfz9_2); (try clear p2)
     obtain ⟨x4_2, x5_2, rfl, rfl, HA, HK2, BK234, HB⟩ := hrel
     cases gk with
     | zero => exact absurd HA.out (fun h_ => by change none = some _ at h_; cases h_)
     | succ k2 =>
      have H := HA.out
      clear HA
      simp only [spec_FindWrong.l0] at H
      by_cases c14 : x5_2 ≤ (wrap64 ((l0_0.length : Int) + 1))
      ·rw [if_pos c14] at H
       have c14b0 : decide (x5_2 ≤ (wrap64 ((l0_0.length : Int) + 1))) = true := decide_eq_true c14
       clear c14
       replace H := Option.bind_eq_some_iff.mp H
       obtain ⟨⟨t237, t240, t241⟩, A150, H⟩ := H
       replace H : ((spec_l3Right.f k2 t237 t240 t241).bind fun t242 => (if t242 = true then (if x4_2 ≥ 0 then (some (0, false)) else (spec_FindWrong.l0 k2 x5_2 (wrap64 (x5_2 + 1)) l0_0 a0_1 a0_2)) else (spec_FindWrong.l0 k2 x4_2 (wrap64 (x5_2 + 1)) l0_0 a0_1 a0_2))) = some (r1, r2) := H
       have A15 := aM A150
       clear A150
       replace H := Option.bind_eq_some_iff.mp H
       obtain ⟨t242, A160, H⟩ := H
       replace H : (if t242 = true then (if x4_2 ≥ 0 then (some (0, false)) else (spec_FindWrong.l0 k2 x5_2 (wrap64 (x5_2 + 1)) l0_0 a0_1 a0_2)) else (spec_FindWrong.l0 k2 x4_2 (wrap64 (x5_2 + 1)) l0_0 a0_1 a0_2)) = some (r1, r2) := H
       have A16 := aM A160
       clear A160
       by_cases c17 : t242 = true
       ·subst c17
        have H1 : (if x4_2 ≥ 0 then (some (0, false)) else (spec_FindWrong.l0 k2 x5_2 (wrap64 (x5_2 + 1)) l0_0 a0_1 a0_2)) = some (r1, r2) := by rw [if_pos rfl] at H; exact H
        clear H
        have H := H1
        clear H1
        by_cases c18 : x4_2 ≥ 0
        ·rw [if_pos c18] at H
         have c18b0 : decide (0 ≤ x4_2) = true := decide_eq_true c18
         clear c18
         simp only [Option.some.injEq, Prod.mk.injEq] at H
         obtain ⟨rfl, rfl⟩ := H
         have hcz19_0 : wr.cell? ⟨gb234, 0, none⟩ = some (.slice A0_0 l0_0.length c0_0) := yc BK234.out 0
         have hcz19_1 : wr.cell? ⟨gb234, 1, none⟩ = some (.string a0_1) := yc BK234.out 1
         have hcz19_2 : wr.cell? ⟨gb234, 2, none⟩ = some (.string a0_2) := yc BK234.out 2
         have hfz19_0 := yZ BK234.out 0
         have hfz19_1 := yZ BK234.out 1
         have hfz19_2 := yZ BK234.out 2
         go_wp2_with (first | ((with_reducible refine gate_callee (f := 59) rfl ?_); refine goesL_ (some 23) rfl rfl Try.func59 (by kernel_rfl) rfl #[.agg #[.slice A0_0 l0_0.length c0_0, .string a0_1, .string a0_2], .int .i64 x5_2] rfl (by (try simp only [List.map_toArray, List.map_cons, List.map_nil]); first | done | rfl | (simp only [List.length_drop, List.length_take]; rfl)) ?_; (with_reducible refine (spec_l3One.calls k2 _ _ l0_0 a0_1 a0_2 x5_2 t237 t240 t241 _ ?side1 ?side2 A15.out).mono ?_); (case side1 => exact cK HR0_0.out HB.out); (case side2 => exact HC0_0.out); rintro e w20 ⟨v238, rfl, ho0, hb⟩; refine ⟨_, rfl, ?_⟩; have HO239 := aM (xL ho0 (zZ (zH HB.out))); replace BK234 := yK BK234.out hb; replace HB := aM (zT (zH HB.out) hb); (try clear hb); (try clear ho0); obtain ⟨Ao21, co21, eo21⟩ := Kd.R_slice HO239.out; subst eo21) | ((with_reducible refine gate_callee (f := 43) rfl ?_); refine goesL_ (some 24) rfl rfl Try.func43 (by kernel_rfl) rfl #[.agg #[.slice Ao21 t237.length co21, .string t240, .string t241]] rfl (by (try simp only [List.map_toArray, List.map_cons, List.map_nil]); first | done | rfl | (simp only [List.length_drop, List.length_take]; rfl)) ?_; (with_reducible refine (spec_l3Right.calls k2 _ _ t237 t240 t241 true _ ?side1 ?side2 A16.out).mono ?_); (case side1 => repeat (first | exact (Kd.R_reads' HO239.out).2.2 | (with_reducible refine cA ?_ _) | (with_reducible refine cN ?_ _) | (with_reducible refine cD ?_))); (case side2 => exact (Kd.R_reads' HO239.out).2.1); rintro e w22 ⟨rfl, hb⟩; refine ⟨_, rfl, ?_⟩; replace HO239 := xK HO239.out hb; replace BK234 := yK BK234.out hb; replace HB := aM (zT (zH HB.out) hb); (try clear hb)))
         go_ret2
         exact ⟨by first | rfl | (simp [errW_none, errW_some] <;> rfl) | (simp [*, errW_none, errW_some] <;> rfl), zH HB.out⟩
        ·rw [if_neg c18] at H
         have c18b0 : decide (0 ≤ x4_2) = false := decide_eq_false c18
         clear c18
         have H' := aM H
         clear H
         have hcz23_0 : wr.cell? ⟨gb234, 0, none⟩ = some (.slice A0_0 l0_0.length c0_0) := yc BK234.out 0
         have hcz23_1 : wr.cell? ⟨gb234, 1, none⟩ = some (.string a0_1) := yc BK234.out 1
         have hcz23_2 : wr.cell? ⟨gb234, 2, none⟩ = some (.string a0_2) := yc BK234.out 2
         have hfz23_0 := yZ BK234.out 0
         have hfz23_1 := yZ BK234.out 1
         have hfz23_2 := yZ BK234.out 2
         go_wp2_with (first | ((with_reducible refine gate_callee (f := 59) rfl ?_); refine goesL_ (some 23) rfl rfl Try.func59 (by kernel_rfl) rfl #[.agg #[.slice A0_0 l0_0.length c0_0, .string a0_1, .string a0_2], .int .i64 x5_2] rfl (by (try simp only [List.map_toArray, List.map_cons, List.map_nil]); first | done | rfl | (simp only [List.length_drop, List.length_take]; rfl)) ?_; (with_reducible refine (spec_l3One.calls k2 _ _ l0_0 a0_1 a0_2 x5_2 t237 t240 t241 _ ?side1 ?side2 A15.out).mono ?_); (case side1 => exact cK HR0_0.out HB.out); (case side2 => exact HC0_0.out); rintro e w24 ⟨v238, rfl, ho0, hb⟩; refine ⟨_, rfl, ?_⟩; have HO239 := aM (xL ho0 (zZ (zH HB.out))); replace BK234 := yK BK234.out hb; replace HB := aM (zT (zH HB.out) hb); (try clear hb); (try clear ho0); obtain ⟨Ao25, co25, eo25⟩ := Kd.R_slice HO239.out; subst eo25) | ((with_reducible refine gate_callee (f := 43) rfl ?_); refine goesL_ (some 24) rfl rfl Try.func43 (by kernel_rfl) rfl #[.agg #[.slice Ao25 t237.length co25, .string t240, .string t241]] rfl (by (try simp only [List.map_toArray, List.map_cons, List.map_nil]); first | done | rfl | (simp only [List.length_drop, List.length_take]; rfl)) ?_; (with_reducible refine (spec_l3Right.calls k2 _ _ t237 t240 t241 true _ ?side1 ?side2 A16.out).mono ?_); (case side1 => repeat (first | exact (Kd.R_reads' HO239.out).2.2 | (with_reducible refine cA ?_ _) | (with_reducible refine cN ?_ _) | (with_reducible refine cD ?_))); (case side2 => exact (Kd.R_reads' HO239.out).2.1); rintro e w26 ⟨rfl, hb⟩; refine ⟨_, rfl, ?_⟩; replace HO239 := xK HO239.out hb; replace BK234 := yK BK234.out hb; replace HB := aM (zT (zH HB.out) hb); (try clear hb)))
         go_roundg k2
         case measure => have := HJ1.out; have := HK2.out; omega
         case rel => exact ⟨(x5_2), (wrap64 (x5_2 + 1)), (by first | rfl | (simp; done) | (simp [*]; done)), (by first | rfl | (simp; done) | (simp [*]; done)), H', ⟨by have := HJ1.out; have := HK2.out; omega⟩, ⟨yH BK234.out⟩, ⟨zH HB.out⟩⟩
       ·replace c17 := Bool.eq_false_iff.mpr c17
        subst c17
        have H1 : (spec_FindWrong.l0 k2 x4_2 (wrap64 (x5_2 + 1)) l0_0 a0_1 a0_2) = some (r1, r2) := by rw [if_neg (show ¬ (false = true) by decide)] at H; exact H
        clear H
        have H := H1
        clear H1
        have H' := aM H
        clear H
        have hcz27_0 : wr.cell? ⟨gb234, 0, none⟩ = some (.slice A0_0 l0_0.length c0_0) := yc BK234.out 0
        have hcz27_1 : wr.cell? ⟨gb234, 1, none⟩ = some (.string a0_1) := yc BK234.out 1
        have hcz27_2 : wr.cell? ⟨gb234, 2, none⟩ = some (.string a0_2) := yc BK234.out 2
        have hfz27_0 := yZ BK234.out 0
        have hfz27_1 := yZ BK234.out 1
        have hfz27_2 := yZ BK234.out 2
        go_wp2_with (first | ((with_reducible refine gate_callee (f := 59) rfl ?_); refine goesL_ (some 23) rfl rfl Try.func59 (by kernel_rfl) rfl #[.agg #[.slice A0_0 l0_0.length c0_0, .string a0_1, .string a0_2], .int .i64 x5_2] rfl (by (try simp only [List.map_toArray, List.map_cons, List.map_nil]); first | done | rfl | (simp only [List.length_drop, List.length_take]; rfl)) ?_; (with_reducible refine (spec_l3One.calls k2 _ _ l0_0 a0_1 a0_2 x5_2 t237 t240 t241 _ ?side1 ?side2 A15.out).mono ?_); (case side1 => exact cK HR0_0.out HB.out); (case side2 => exact HC0_0.out); rintro e w28 ⟨v238, rfl, ho0, hb⟩; refine ⟨_, rfl, ?_⟩; have HO239 := aM (xL ho0 (zZ (zH HB.out))); replace BK234 := yK BK234.out hb; replace HB := aM (zT (zH HB.out) hb); (try clear hb); (try clear ho0); obtain ⟨Ao29, co29, eo29⟩ := Kd.R_slice HO239.out; subst eo29) | ((with_reducible refine gate_callee (f := 43) rfl ?_); refine goesL_ (some 24) rfl rfl Try.func43 (by kernel_rfl) rfl #[.agg #[.slice Ao29 t237.length co29, .string t240, .string t241]] rfl (by (try simp only [List.map_toArray, List.map_cons, List.map_nil]); first | done | rfl | (simp only [List.length_drop, List.length_take]; rfl)) ?_; (with_reducible refine (spec_l3Right.calls k2 _ _ t237 t240 t241 false _ ?side1 ?side2 A16.out).mono ?_); (case side1 => repeat (first | exact (Kd.R_reads' HO239.out).2.2 | (with_reducible refine cA ?_ _) | (with_reducible refine cN ?_ _) | (with_reducible refine cD ?_))); (case side2 => exact (Kd.R_reads' HO239.out).2.1); rintro e w30 ⟨rfl, hb⟩; refine ⟨_, rfl, ?_⟩; replace HO239 := xK HO239.out hb; replace BK234 := yK BK234.out hb; replace HB := aM (zT (zH HB.out) hb); (try clear hb)))
        go_roundg k2
        case measure => have := HJ1.out; have := HK2.out; omega
        case rel => exact ⟨(x4_2), (wrap64 (x5_2 + 1)), (by first | rfl | (simp; done) | (simp [*]; done)), (by first | rfl | (simp; done) | (simp [*]; done)), H', ⟨by have := HJ1.out; have := HK2.out; omega⟩, ⟨yH BK234.out⟩, ⟨zH HB.out⟩⟩
      ·rw [if_neg c14] at H
       have c14b0 : decide (x5_2 ≤ (wrap64 ((l0_0.length : Int) + 1))) = false := decide_eq_false c14
       clear c14
       by_cases c31 : x4_2 < 0
       ·rw [if_pos c31] at H
        have c31b0 : decide (x4_2 < 0) = true := decide_eq_true c31
        clear c31
        simp only [Option.some.injEq, Prod.mk.injEq] at H
        obtain ⟨rfl, rfl⟩ := H
        have hcz32_0 : wr.cell? ⟨gb234, 0, none⟩ = some (.slice A0_0 l0_0.length c0_0) := yc BK234.out 0
        have hcz32_1 : wr.cell? ⟨gb234, 1, none⟩ = some (.string a0_1) := yc BK234.out 1
        have hcz32_2 : wr.cell? ⟨gb234, 2, none⟩ = some (.string a0_2) := yc BK234.out 2
        have hfz32_0 := yZ BK234.out 0
        have hfz32_1 := yZ BK234.out 1
        have hfz32_2 := yZ BK234.out 2
        go_wp2
        go_ret2
        exact ⟨by first | rfl | (simp [errW_none, errW_some] <;> rfl) | (simp [*, errW_none, errW_some] <;> rfl), zH HB.out⟩
       ·rw [if_neg c31] at H
        have c31b0 : decide (x4_2 < 0) = false := decide_eq_false c31
        clear c31
        simp only [Option.some.injEq, Prod.mk.injEq] at H
        obtain ⟨rfl, rfl⟩ := H
        have hcz33_0 : wr.cell? ⟨gb234, 0, none⟩ = some (.slice A0_0 l0_0.length c0_0) := yc BK234.out 0
        have hcz33_1 : wr.cell? ⟨gb234, 1, none⟩ = some (.string a0_1) := yc BK234.out 1
        have hcz33_2 : wr.cell? ⟨gb234, 2, none⟩ = some (.string a0_2) := yc BK234.out 2
        have hfz33_0 := yZ BK234.out 0
        have hfz33_1 := yZ BK234.out 1
        have hfz33_2 := yZ BK234.out 2
        go_wp2
        go_ret2
        exact ⟨by first | rfl | (simp [errW_none, errW_some] <;> rfl) | (simp [*, errW_none, errW_some] <;> rfl), zH HB.out⟩

/-! ### impl_recoverOne: function 60 -/
def impl_recoverOne.f (k : Nat) (l0_0 : List ByteArray) (a0_1 : ByteArray) (a0_2 : ByteArray) (a1 : Int) : Option (List ByteArray × ByteArray × ByteArray) := (impl_without.f k l0_0 a0_1 a0_2 (([a1] : List Int))).bind fun bt248 => ((impl_parities.f k bt248.1).bind fun bt254 => (if (wrap64 (a1 - (l0_0.length : Int))) = 0 then (some (bt248.1, bt254.1, bt248.2.2)) else (if (wrap64 (a1 - (l0_0.length : Int))) = 1 then (some (bt248.1, bt248.2.1, bt254.2)) else ((impl_xor.f bt254.1 a0_1).bind fun t256 => (if 0 ≤ a1 then (if a1 < (bt248.1.length : Int) then (some ((bt248.1.set (a1 : Int).toNat t256), bt248.2.1, bt248.2.2)) else (none)) else (none))))))
theorem impl_recoverOne.mono : ∀ a0 a1 a2 a3 k, LeO (impl_recoverOne.f k a0 a1 a2 a3) (impl_recoverOne.f (k + 1) a0 a1 a2 a3) := by
 intro a0 a1 a2 a3 k
 unfold impl_recoverOne.f
 repeat' first
   | (with_reducible exact impl_parities.mono _ _)
   | (with_reducible exact impl_without.mono _ _ _ _ _)
   | (with_reducible exact LeO.refl _)
   | (with_reducible exact LeO.none _)
   | (with_reducible refine LeO.ite ?_ ?_)
   | (with_reducible refine LeO.bind ?_ (fun _ => ?_))
   | exact impl_parities.mono _ _
   | exact impl_without.mono _ _ _ _ _
   | exact LeO.none _
   | refine LeO.ite ?_ ?_
   | refine LeO.bind ?_ (fun _ => ?_)
def impl_recoverOne.T4 : Bool × List (List Nat × List Nat) := (true, [([], []), ([0], [0]), ([], []), ([], []), ([], []), ([4], [4]), ([3, 5], [3, 5]), ([1, 2, 0, 1, 2, 3, 4, 5, 6], [1, 2]), ([7, 6, 6, 0, 1, 2, 3, 4, 5, 6], [6, 7])])
def impl_recoverOne.B4 : List Nat := [0, 1, 0, 0, 0, 16, 56, 127, 255]
theorem impl_recoverOne.tab4 : rtab .any (opsOf Try.f60 4) = impl_recoverOne.T4 := by kernel_rfl
theorem impl_recoverOne.bits4 : waitsOk impl_recoverOne.T4.2 impl_recoverOne.B4 = true := by kernel_rfl
set_option maxHeartbeats 8000000 in
set_option maxRecDepth 100000 in
theorem impl_recoverOne.calls (k : Nat) (A0_0 : Option Addr) (c0_0 : Nat) (l0_0 : List ByteArray) (a0_1 : ByteArray) (a0_2 : ByteArray) (a1 : Int) (r1 : List ByteArray) (r2 : ByteArray) (r3 : ByteArray) (w : World) (hr0_0 : Kd.C Kd.string w A0_0 l0_0.length l0_0) (hc0_0 : l0_0.length ≤ c0_0) (h : impl_recoverOne.f k l0_0 a0_1 a0_2 a1 = some (r1, r2, r3)) :
  Calls Try.prog 60 #[.agg #[.slice A0_0 l0_0.length c0_0, .string a0_1, .string a0_2], .int .i64 a1] w fun e w' => ∃ v0_ : Value, e = .returned (.agg #[v0_, .string r2, .string r3]) ∧ Kd.R Kd.string 9 w' w.heap.size (fun _ => True) v0_ r1 ∧ Below w.heap.size w w' := by
 have hu27 := Try.underlying27
 have HR0_0 := aM hr0_0
 have HC0_0 := aM hc0_0
 clear hr0_0 hc0_0
 have HB := aM (Below.refl w.heap.size w)
 have H : ((impl_without.f k l0_0 a0_1 a0_2 (([a1] : List Int))).bind fun bt248 => ((impl_parities.f k bt248.1).bind fun bt254 => (if (wrap64 (a1 - (l0_0.length : Int))) = 0 then (some (bt248.1, bt254.1, bt248.2.2)) else (if (wrap64 (a1 - (l0_0.length : Int))) = 1 then (some (bt248.1, bt248.2.1, bt254.2)) else ((impl_xor.f bt254.1 a0_1).bind fun t256 => (if 0 ≤ a1 then (if a1 < (bt248.1.length : Int) then (some ((bt248.1.set (a1 : Int).toNat t256), bt248.2.1, bt248.2.2)) else (none)) else (none))))))) = some (r1, r2, r3) := h
 clear h
 obtain ⟨y245, hy245⟩ : ∃ y_ : List Int, y_ = (([a1] : List Int)) := ⟨_, rfl⟩
 replace H : ((impl_without.f k l0_0 a0_1 a0_2 y245).bind fun bt248 => ((impl_parities.f k bt248.1).bind fun bt254 => (if (wrap64 (a1 - (l0_0.length : Int))) = 0 then (some (bt248.1, bt254.1, bt248.2.2)) else (if (wrap64 (a1 - (l0_0.length : Int))) = 1 then (some (bt248.1, bt248.2.1, bt254.2)) else ((impl_xor.f bt254.1 a0_1).bind fun t256 => (if 0 ≤ a1 then (if a1 < (bt248.1.length : Int) then (some ((bt248.1.set (a1 : Int).toNat t256), bt248.2.1, bt248.2.2)) else (none)) else (none))))))) = some (r1, r2, r3) := by first | (rw [hy245]; with_reducible exact H) | (have H2_ := (Option.bind_some _ _).symm.trans H; rw [hy245]; with_reducible exact H2_) | (have H2_ := (Option.bind_some _ _).symm.trans H; with_reducible exact H2_) | with_reducible exact H | (rw [hy245]; exact H) | exact H
 have Ny245 := aM hy245
 clear hy245
 replace H := Option.bind_eq_some_iff.mp H
 obtain ⟨⟨t248, t251, t252⟩, A30, H⟩ := H
 replace H : ((impl_parities.f k t248).bind fun bt254 => (if (wrap64 (a1 - (l0_0.length : Int))) = 0 then (some (t248, bt254.1, t252)) else (if (wrap64 (a1 - (l0_0.length : Int))) = 1 then (some (t248, t251, bt254.2)) else ((impl_xor.f bt254.1 a0_1).bind fun t256 => (if 0 ≤ a1 then (if a1 < (t248.length : Int) then (some ((t248.set (a1 : Int).toNat t256), t251, t252)) else (none)) else (none)))))) = some (r1, r2, r3) := H
 have A3 := aM A30
 clear A30
 replace H := Option.bind_eq_some_iff.mp H
 obtain ⟨⟨t254, t255⟩, A40, H⟩ := H
 replace H : (if (wrap64 (a1 - (l0_0.length : Int))) = 0 then (some (t248, t254, t252)) else (if (wrap64 (a1 - (l0_0.length : Int))) = 1 then (some (t248, t251, t255)) else ((impl_xor.f t254 a0_1).bind fun t256 => (if 0 ≤ a1 then (if a1 < (t248.length : Int) then (some ((t248.set (a1 : Int).toNat t256), t251, t252)) else (none)) else (none))))) = some (r1, r2, r3) := H
 have A4 := aM A40
 clear A40
 by_cases c5 : (wrap64 (a1 - (l0_0.length : Int))) = 0
 ·rw [if_pos c5] at H
  have c5b0 : ((wrap64 (a1 - (l0_0.length : Int))) == 0) = true := beq_iff_eq.mpr c5
  have c5b1 : ((wrap64 (a1 - (l0_0.length : Int))) != 0) = false := bne_eq_false_iff_eq.mpr c5
  clear c5
  simp only [Option.some.injEq, Prod.mk.injEq] at H
  obtain ⟨rfl, rfl, rfl⟩ := H
  go_enter Try.func60, Try.ntmps60
  go_wp2_with (first | ((with_reducible refine gate_dst (N := 2) rfl ?_); refine box_event ?hg (N := 2) ?hd (cs := #[.slice A0_0 l0_0.length c0_0, .string a0_1, .string a0_2]) (t := 27) ?hr ?_; (case hd => rfl); (case hg => rfl); (case hr => first | (go_simp; done) | (go_simp; rfl)); intro gb243 hg w6 hbox hb; have BK243 := aM (hbox); have GW243 := aM ((by rw [hg]; exact (zZ (zH HB.out)) : w.heap.size ≤ gb243)); have GE243 := aM ((by rw [hg]; exact (zZ (zH HB.out)) : w.heap.size ≤ gb243)); replace HB := aM (zT (zH HB.out) hb); clear hb hbox hg) | ((with_reducible refine gate_dst (N := 4) rfl ?_); refine box_event ?hg (N := 4) ?hd (cs := #[.slice none 0 0, .string (⟨#[]⟩ : ByteArray), .string (⟨#[]⟩ : ByteArray)]) (t := 27) ?hr ?_; (case hd => rfl); (case hg => rfl); (case hr => first | (go_simp; done) | (go_simp; rfl)); intro gb244 hg w7 hbox hb; have BK244 := aM (hbox); have GW244 := aM ((by rw [hg]; exact (zZ (zH HB.out)) : w.heap.size ≤ gb244)); have GE244 := aM ((by rw [hg]; exact (zZ (zH HB.out)) : w.heap.size ≤ gb244)); replace HB := aM (zT (zH HB.out) hb); have NB243_244 := nL BK243.out hg; have NB244_243 := nR BK243.out hg; replace BK243 := yK BK243.out hb; clear hb hbox hg; have hnb8 := NB243_244.out; have hnc8 := NB244_243.out; have hcz9_0 : w7.cell? ⟨gb243, 0, none⟩ = some (.slice A0_0 l0_0.length c0_0) := yc BK243.out 0; have hcz9_1 : w7.cell? ⟨gb243, 1, none⟩ = some (.string a0_1) := yc BK243.out 1; have hcz9_2 : w7.cell? ⟨gb243, 2, none⟩ = some (.string a0_2) := yc BK243.out 2; have hfz9_0 := yZ BK243.out 0; have hfz9_1 := yZ BK243.out 1; have hfz9_2 := yZ BK243.out 2) | ((with_reducible refine gate_dst (N := 10) rfl ?_); refine Kd.R_lit (Kd.int .i64) _ 3 ?hg (N := 10) ?hd (xs := ([a1] : List Int)) (inner := [.int .i64 a1]) (ok := fun _ => True) (okp := fun _ => True) ?hr ?hp (fun _ hk => hk) trivial (Below.refl _ _) (Nat.le_refl _) (by simp) ?_; (case hd => rfl); (case hg => rfl); (case hr => first | (go_simp; done) | (go_simp; rfl)); (case hp => exact (Reps.one (show Kd.M (Kd.int .i64) _ _ _ a1 [.int .i64 a1] from rfl) (Reps.none _ _))); intro v246 w10 ho11 hb hg_ hnew_; clear hg_ hnew_; (first | rw [← Ny245.out] at ho11 | (simp only [Int.reduceToNat] at ho11; rw [← Ny245.out] at ho11)); have HO247 := aM (xL ho11 (zZ (zH HB.out))); replace BK243 := yK BK243.out hb; replace BK244 := yK BK244.out hb; replace HB := aM (zT (zH HB.out) hb); clear hb ho11; obtain ⟨Ao12, co12, eo12⟩ := Kd.R_slice HO247.out; subst eo12) | ((with_reducible refine gate_callee (f := 56) rfl ?_); refine goesL_ (some 11) rfl rfl Try.func56 (by kernel_rfl) rfl #[.agg #[.slice A0_0 l0_0.length c0_0, .string a0_1, .string a0_2], .slice Ao12 y245.length co12] rfl (by (try simp only [List.map_toArray, List.map_cons, List.map_nil]); first | done | rfl | (simp only [List.length_drop, List.length_take]; rfl)) ?_; (with_reducible refine (impl_without.calls k _ _ l0_0 a0_1 a0_2 _ _ y245 t248 t251 t252 _ ?side1 ?side2 ?side3 ?side4 A3.out).mono ?_); (case side1 => exact cK HR0_0.out HB.out); (case side2 => exact HC0_0.out); (case side3 => repeat (first | exact (Kd.R_reads' HO247.out).2.2 | (with_reducible refine cA ?_ _) | (with_reducible refine cN ?_ _) | (with_reducible refine cD ?_))); (case side4 => exact (Kd.R_reads' HO247.out).2.1); rintro e w13 ⟨v249, rfl, ho0, hb⟩; refine ⟨_, rfl, ?_⟩; replace HO247 := xK HO247.out hb; have HO250 := aM (xL ho0 (zZ (zH HB.out))); replace BK243 := yK BK243.out hb; replace BK244 := yK BK244.out hb; replace HB := aM (zT (zH HB.out) hb); (try clear hb); (try clear ho0)) | ((with_reducible refine gate_dst (N := 5) rfl ?_); refine box_event ?hg (N := 5) ?hd (cs := #[.slice none 0 0, .string (⟨#[]⟩ : ByteArray), .string (⟨#[]⟩ : ByteArray)]) (t := 27) ?hr ?_; (case hd => rfl); (case hg => rfl); (case hr => first | (go_simp; done) | (go_simp; rfl)); intro gb253 hg w14 hbox hb; replace HO247 := xK HO247.out hb; replace HO250 := xK HO250.out hb; have BK253 := aM (hbox); have GW253 := aM ((by rw [hg]; exact (zZ (zH HB.out)) : w.heap.size ≤ gb253)); have GE253 := aM ((by rw [hg]; exact (zZ (zH HB.out)) : w.heap.size ≤ gb253)); replace HB := aM (zT (zH HB.out) hb); have NB243_253 := nL BK243.out hg; have NB253_243 := nR BK243.out hg; replace BK243 := yK BK243.out hb; have NB244_253 := nL BK244.out hg; have NB253_244 := nR BK244.out hg; replace BK244 := yK BK244.out hb; clear hb hbox hg; obtain ⟨Ao15, co15, eo15⟩ := Kd.R_slice HO250.out; subst eo15; have hnb16 := NB253_243.out; have hnc16 := NB243_253.out; have hnb17 := NB253_244.out; have hnc17 := NB244_253.out; have hcz18_0 : w14.cell? ⟨gb253, 0, none⟩ = some (.slice none 0 0) := yc BK253.out 0; have hcz18_1 : w14.cell? ⟨gb253, 1, none⟩ = some (.string (⟨#[]⟩ : ByteArray)) := yc BK253.out 1; have hcz18_2 : w14.cell? ⟨gb253, 2, none⟩ = some (.string (⟨#[]⟩ : ByteArray)) := yc BK253.out 2; have hfz18_0 := yZ BK253.out 0; have hfz18_1 := yZ BK253.out 1; have hfz18_2 := yZ BK253.out 2) | ((with_reducible refine gate_callee (f := 46) rfl ?_); refine goesL_ (some 15) rfl rfl Try.func46 (by kernel_rfl) rfl #[.slice Ao15 t248.length co15] rfl (by (try simp only [List.map_toArray, List.map_cons, List.map_nil]); first | done | rfl | (simp only [List.length_drop, List.length_take]; rfl)) ?_; (with_reducible refine (impl_parities.calls k _ _ t248 t254 t255 _ ?side1 ?side2 A4.out).mono ?_); (case side1 => exact rC (n := t248.length) (c := co15) ((x3 HO250.out BK253.out (by decide) (.slice Ao15 t248.length co15) (.string t251) (.string t252)))); (case side2 => exact (Kd.R_reads' HO250.out).2.1); rintro e w19 ⟨rfl, hb⟩; refine ⟨_, rfl, ?_⟩; replace HO247 := aM (xB (xH ((x3 HO247.out BK253.out (by decide) (.slice Ao15 t248.length co15) (.string t251) (.string t252)))) hb); replace HO250 := aM (xB (xH ((x3 HO250.out BK253.out (by decide) (.slice Ao15 t248.length co15) (.string t251) (.string t252)))) hb); replace BK243 := aM (yB (g := gb243) (o := .cells #[.slice A0_0 l0_0.length c0_0, .string a0_1, .string a0_2] 27 (0, 0)) (by (with_reducible repeat (first | refine yN ?_ _ | refine yD ?_ | refine yA ?_ _)); refine yF ?_ NB243_253.out _; (with_reducible repeat (first | refine yN ?_ _ | refine yD ?_ | refine yA ?_ _)); refine yF ?_ NB243_253.out _; (with_reducible repeat (first | refine yN ?_ _ | refine yD ?_ | refine yA ?_ _)); refine yF ?_ NB243_253.out _; (with_reducible repeat (first | refine yN ?_ _ | refine yD ?_ | refine yA ?_ _)); exact BK243.out) hb); replace BK244 := aM (yB (g := gb244) (o := .cells #[.slice none 0 0, .string (⟨#[]⟩ : ByteArray), .string (⟨#[]⟩ : ByteArray)] 27 (0, 0)) (by (with_reducible repeat (first | refine yN ?_ _ | refine yD ?_ | refine yA ?_ _)); refine yF ?_ NB244_253.out _; (with_reducible repeat (first | refine yN ?_ _ | refine yD ?_ | refine yA ?_ _)); refine yF ?_ NB244_253.out _; (with_reducible repeat (first | refine yN ?_ _ | refine yD ?_ | refine yA ?_ _)); refine yF ?_ NB244_253.out _; (with_reducible repeat (first | refine yN ?_ _ | refine yD ?_ | refine yA ?_ _)); exact BK244.out) hb); replace BK253 := aM (yB (g := gb253) (o := .cells #[.slice Ao15 t248.length co15, .string t251, .string t252] 27 (0, 0)) (by (with_reducible repeat (first | refine yN ?_ _ | refine yD ?_ | refine yA ?_ _)); refine yP (cs := #[.slice Ao15 t248.length co15, .string t251, .string (⟨#[]⟩ : ByteArray)]) ?_ 2 _ rfl; (with_reducible repeat (first | refine yN ?_ _ | refine yD ?_ | refine yA ?_ _)); refine yP (cs := #[.slice Ao15 t248.length co15, .string (⟨#[]⟩ : ByteArray), .string (⟨#[]⟩ : ByteArray)]) ?_ 1 _ rfl; (with_reducible repeat (first | refine yN ?_ _ | refine yD ?_ | refine yA ?_ _)); refine yP (cs := #[.slice none 0 0, .string (⟨#[]⟩ : ByteArray), .string (⟨#[]⟩ : ByteArray)]) ?_ 0 _ rfl; (with_reducible repeat (first | refine yN ?_ _ | refine yD ?_ | refine yA ?_ _)); exact BK253.out) hb); replace HB := aM (zT (zH HB.out) hb); (try clear hb); have hcz20_0 : w19.cell? ⟨gb243, 0, none⟩ = some (.slice A0_0 l0_0.length c0_0) := yc BK243.out 0; have hcz20_1 : w19.cell? ⟨gb243, 1, none⟩ = some (.string a0_1) := yc BK243.out 1; have hcz20_2 : w19.cell? ⟨gb243, 2, none⟩ = some (.string a0_2) := yc BK243.out 2; have hfz20_0 := yZ BK243.out 0; have hfz20_1 := yZ BK243.out 1; have hfz20_2 := yZ BK243.out 2; have hcz21_0 : w19.cell? ⟨gb253, 0, none⟩ = some (.slice Ao15 t248.length co15) := yc BK253.out 0; have hcz21_1 : w19.cell? ⟨gb253, 1, none⟩ = some (.string t251) := yc BK253.out 1; have hcz21_2 : w19.cell? ⟨gb253, 2, none⟩ = some (.string t252) := yc BK253.out 2; have hfz21_0 := yZ BK253.out 0; have hfz21_1 := yZ BK253.out 1; have hfz21_2 := yZ BK253.out 2; have hcz22_0 : w19.cell? ⟨gb244, 0, none⟩ = some (.slice none 0 0) := yc BK244.out 0; have hcz22_1 : w19.cell? ⟨gb244, 1, none⟩ = some (.string (⟨#[]⟩ : ByteArray)) := yc BK244.out 1; have hcz22_2 : w19.cell? ⟨gb244, 2, none⟩ = some (.string (⟨#[]⟩ : ByteArray)) := yc BK244.out 2; have hfz22_0 := yZ BK244.out 0; have hfz22_1 := yZ BK244.out 1; have hfz22_2 := yZ BK244.out 2))
  refine bodyPost_ret (results_cell_row rfl _ _ gb244 27 #[.slice Ao15 t248.length co15, .string t254, .string t252] (0, 0) _ rfl (by (with_reducible repeat (first | refine yN ?_ _ | refine yD ?_ | refine yA ?_ _)); refine yP (cs := #[.slice Ao15 t248.length co15, .string t254, .string (⟨#[]⟩ : ByteArray)]) ?_ 2 _ rfl; (with_reducible repeat (first | refine yN ?_ _ | refine yD ?_ | refine yA ?_ _)); refine yP (cs := #[.slice Ao15 t248.length co15, .string (⟨#[]⟩ : ByteArray), .string (⟨#[]⟩ : ByteArray)]) ?_ 1 _ rfl; (with_reducible repeat (first | refine yN ?_ _ | refine yD ?_ | refine yA ?_ _)); refine yP (cs := #[.slice none 0 0, .string (⟨#[]⟩ : ByteArray), .string (⟨#[]⟩ : ByteArray)]) ?_ 0 _ rfl; (with_reducible repeat (first | refine yN ?_ _ | refine yD ?_ | refine yA ?_ _)); refine yF ?_ NB244_253.out _; (with_reducible repeat (first | refine yN ?_ _ | refine yD ?_ | refine yA ?_ _)); exact BK244.out) Try.underlying27 rfl (by kernel_rfl)) rfl ?_
  exact ⟨_, by first | rfl | (simp [errW_none, errW_some] <;> rfl) | (simp [*, errW_none, errW_some] <;> rfl), xH (xM (xF (p := ⟨gb244, 2, none⟩) (xF (p := ⟨gb244, 1, none⟩) (xF (p := ⟨gb244, 0, none⟩) (xF (p := ⟨gb253, 1, none⟩) (xT (xT HO250.out BK253.out (by decide)) BK244.out (by decide)) (fun _ hk => hk.1.2) (.string t254)) (fun _ hk => hk.2) (.slice Ao15 t248.length co15)) (fun _ hk => hk.2) (.string t254)) (fun _ hk => hk.2) (.string t252)) (fun _ hk => trivial)), zH HB.out⟩
 ·rw [if_neg c5] at H
  have c5b0 : ((wrap64 (a1 - (l0_0.length : Int))) == 0) = false := beq_eq_false_iff_ne.mpr c5
  have c5b1 : ((wrap64 (a1 - (l0_0.length : Int))) != 0) = true := bne_iff_ne.mpr c5
  by_cases c23 : (wrap64 (a1 - (l0_0.length : Int))) = 1
  ·rw [if_pos c23] at H
   have c23b0 : ((wrap64 (a1 - (l0_0.length : Int))) == 1) = true := beq_iff_eq.mpr c23
   have c23b1 : ((wrap64 (a1 - (l0_0.length : Int))) != 1) = false := bne_eq_false_iff_eq.mpr c23
   clear c23
   simp only [Option.some.injEq, Prod.mk.injEq] at H
   obtain ⟨rfl, rfl, rfl⟩ := H
   go_enter Try.func60, Try.ntmps60
   go_wp2_with (first | ((with_reducible refine gate_dst (N := 2) rfl ?_); refine box_event ?hg (N := 2) ?hd (cs := #[.slice A0_0 l0_0.length c0_0, .string a0_1, .string a0_2]) (t := 27) ?hr ?_; (case hd => rfl); (case hg => rfl); (case hr => first | (go_simp; done) | (go_simp; rfl)); intro gb243 hg w24 hbox hb; have BK243 := aM (hbox); have GW243 := aM ((by rw [hg]; exact (zZ (zH HB.out)) : w.heap.size ≤ gb243)); have GE243 := aM ((by rw [hg]; exact (zZ (zH HB.out)) : w.heap.size ≤ gb243)); replace HB := aM (zT (zH HB.out) hb); clear hb hbox hg) | ((with_reducible refine gate_dst (N := 4) rfl ?_); refine box_event ?hg (N := 4) ?hd (cs := #[.slice none 0 0, .string (⟨#[]⟩ : ByteArray), .string (⟨#[]⟩ : ByteArray)]) (t := 27) ?hr ?_; (case hd => rfl); (case hg => rfl); (case hr => first | (go_simp; done) | (go_simp; rfl)); intro gb244 hg w25 hbox hb; have BK244 := aM (hbox); have GW244 := aM ((by rw [hg]; exact (zZ (zH HB.out)) : w.heap.size ≤ gb244)); have GE244 := aM ((by rw [hg]; exact (zZ (zH HB.out)) : w.heap.size ≤ gb244)); replace HB := aM (zT (zH HB.out) hb); have NB243_244 := nL BK243.out hg; have NB244_243 := nR BK243.out hg; replace BK243 := yK BK243.out hb; clear hb hbox hg; have hnb26 := NB243_244.out; have hnc26 := NB244_243.out; have hcz27_0 : w25.cell? ⟨gb243, 0, none⟩ = some (.slice A0_0 l0_0.length c0_0) := yc BK243.out 0; have hcz27_1 : w25.cell? ⟨gb243, 1, none⟩ = some (.string a0_1) := yc BK243.out 1; have hcz27_2 : w25.cell? ⟨gb243, 2, none⟩ = some (.string a0_2) := yc BK243.out 2; have hfz27_0 := yZ BK243.out 0; have hfz27_1 := yZ BK243.out 1; have hfz27_2 := yZ BK243.out 2) | ((with_reducible refine gate_dst (N := 10) rfl ?_); refine Kd.R_lit (Kd.int .i64) _ 3 ?hg (N := 10) ?hd (xs := ([a1] : List Int)) (inner := [.int .i64 a1]) (ok := fun _ => True) (okp := fun _ => True) ?hr ?hp (fun _ hk => hk) trivial (Below.refl _ _) (Nat.le_refl _) (by simp) ?_; (case hd => rfl); (case hg => rfl); (case hr => first | (go_simp; done) | (go_simp; rfl)); (case hp => exact (Reps.one (show Kd.M (Kd.int .i64) _ _ _ a1 [.int .i64 a1] from rfl) (Reps.none _ _))); intro v246 w28 ho29 hb hg_ hnew_; clear hg_ hnew_; (first | rw [← Ny245.out] at ho29 | (simp only [Int.reduceToNat] at ho29; rw [← Ny245.out] at ho29)); have HO247 := aM (xL ho29 (zZ (zH HB.out))); replace BK243 := yK BK243.out hb; replace BK244 := yK BK244.out hb; replace HB := aM (zT (zH HB.out) hb); clear hb ho29; obtain ⟨Ao30, co30, eo30⟩ := Kd.R_slice HO247.out; subst eo30) | ((with_reducible refine gate_callee (f := 56) rfl ?_); refine goesL_ (some 11) rfl rfl Try.func56 (by kernel_rfl) rfl #[.agg #[.slice A0_0 l0_0.length c0_0, .string a0_1, .string a0_2], .slice Ao30 y245.length co30] rfl (by (try simp only [List.map_toArray, List.map_cons, List.map_nil]); first | done | rfl | (simp only [List.length_drop, List.length_take]; rfl)) ?_; (with_reducible refine (impl_without.calls k _ _ l0_0 a0_1 a0_2 _ _ y245 t248 t251 t252 _ ?side1 ?side2 ?side3 ?side4 A3.out).mono ?_); (case side1 => exact cK HR0_0.out HB.out); (case side2 => exact HC0_0.out); (case side3 => repeat (first | exact (Kd.R_reads' HO247.out).2.2 | (with_reducible refine cA ?_ _) | (with_reducible refine cN ?_ _) | (with_reducible refine cD ?_))); (case side4 => exact (Kd.R_reads' HO247.out).2.1); rintro e w31 ⟨v249, rfl, ho0, hb⟩; refine ⟨_, rfl, ?_⟩; replace HO247 := xK HO247.out hb; have HO250 := aM (xL ho0 (zZ (zH HB.out))); replace BK243 := yK BK243.out hb; replace BK244 := yK BK244.out hb; replace HB := aM (zT (zH HB.out) hb); (try clear hb); (try clear ho0)) | ((with_reducible refine gate_dst (N := 5) rfl ?_); refine box_event ?hg (N := 5) ?hd (cs := #[.slice none 0 0, .string (⟨#[]⟩ : ByteArray), .string (⟨#[]⟩ : ByteArray)]) (t := 27) ?hr ?_; (case hd => rfl); (case hg => rfl); (case hr => first | (go_simp; done) | (go_simp; rfl)); intro gb253 hg w32 hbox hb; replace HO247 := xK HO247.out hb; replace HO250 := xK HO250.out hb; have BK253 := aM (hbox); have GW253 := aM ((by rw [hg]; exact (zZ (zH HB.out)) : w.heap.size ≤ gb253)); have GE253 := aM ((by rw [hg]; exact (zZ (zH HB.out)) : w.heap.size ≤ gb253)); replace HB := aM (zT (zH HB.out) hb); have NB243_253 := nL BK243.out hg; have NB253_243 := nR BK243.out hg; replace BK243 := yK BK243.out hb; have NB244_253 := nL BK244.out hg; have NB253_244 := nR BK244.out hg; replace BK244 := yK BK244.out hb; clear hb hbox hg; obtain ⟨Ao33, co33, eo33⟩ := Kd.R_slice HO250.out; subst eo33; have hnb34 := NB253_243.out; have hnc34 := NB243_253.out; have hnb35 := NB253_244.out; have hnc35 := NB244_253.out; have hcz36_0 : w32.cell? ⟨gb253, 0, none⟩ = some (.slice none 0 0) := yc BK253.out 0; have hcz36_1 : w32.cell? ⟨gb253, 1, none⟩ = some (.string (⟨#[]⟩ : ByteArray)) := yc BK253.out 1; have hcz36_2 : w32.cell? ⟨gb253, 2, none⟩ = some (.string (⟨#[]⟩ : ByteArray)) := yc BK253.out 2; have hfz36_0 := yZ BK253.out 0; have hfz36_1 := yZ BK253.out 1; have hfz36_2 := yZ BK253.out 2) | ((with_reducible refine gate_callee (f := 46) rfl ?_); refine goesL_ (some 15) rfl rfl Try.func46 (by kernel_rfl) rfl #[.slice Ao33 t248.length co33] rfl (by (try simp only [List.map_toArray, List.map_cons, List.map_nil]); first | done | rfl | (simp only [List.length_drop, List.length_take]; rfl)) ?_; (with_reducible refine (impl_parities.calls k _ _ t248 t254 t255 _ ?side1 ?side2 A4.out).mono ?_); (case side1 => exact rC (n := t248.length) (c := co33) ((x3 HO250.out BK253.out (by decide) (.slice Ao33 t248.length co33) (.string t251) (.string t252)))); (case side2 => exact (Kd.R_reads' HO250.out).2.1); rintro e w37 ⟨rfl, hb⟩; refine ⟨_, rfl, ?_⟩; replace HO247 := aM (xB (xH ((x3 HO247.out BK253.out (by decide) (.slice Ao33 t248.length co33) (.string t251) (.string t252)))) hb); replace HO250 := aM (xB (xH ((x3 HO250.out BK253.out (by decide) (.slice Ao33 t248.length co33) (.string t251) (.string t252)))) hb); replace BK243 := aM (yB (g := gb243) (o := .cells #[.slice A0_0 l0_0.length c0_0, .string a0_1, .string a0_2] 27 (0, 0)) (by (with_reducible repeat (first | refine yN ?_ _ | refine yD ?_ | refine yA ?_ _)); refine yF ?_ NB243_253.out _; (with_reducible repeat (first | refine yN ?_ _ | refine yD ?_ | refine yA ?_ _)); refine yF ?_ NB243_253.out _; (with_reducible repeat (first | refine yN ?_ _ | refine yD ?_ | refine yA ?_ _)); refine yF ?_ NB243_253.out _; (with_reducible repeat (first | refine yN ?_ _ | refine yD ?_ | refine yA ?_ _)); exact BK243.out) hb); replace BK244 := aM (yB (g := gb244) (o := .cells #[.slice none 0 0, .string (⟨#[]⟩ : ByteArray), .string (⟨#[]⟩ : ByteArray)] 27 (0, 0)) (by (with_reducible repeat (first | refine yN ?_ _ | refine yD ?_ | refine yA ?_ _)); refine yF ?_ NB244_253.out _; (with_reducible repeat (first | refine yN ?_ _ | refine yD ?_ | refine yA ?_ _)); refine yF ?_ NB244_253.out _; (with_reducible repeat (first | refine yN ?_ _ | refine yD ?_ | refine yA ?_ _)); refine yF ?_ NB244_253.out _; (with_reducible repeat (first | refine yN ?_ _ | refine yD ?_ | refine yA ?_ _)); exact BK244.out) hb); replace BK253 := aM (yB (g := gb253) (o := .cells #[.slice Ao33 t248.length co33, .string t251, .string t252] 27 (0, 0)) (by (with_reducible repeat (first | refine yN ?_ _ | refine yD ?_ | refine yA ?_ _)); refine yP (cs := #[.slice Ao33 t248.length co33, .string t251, .string (⟨#[]⟩ : ByteArray)]) ?_ 2 _ rfl; (with_reducible repeat (first | refine yN ?_ _ | refine yD ?_ | refine yA ?_ _)); refine yP (cs := #[.slice Ao33 t248.length co33, .string (⟨#[]⟩ : ByteArray), .string (⟨#[]⟩ : ByteArray)]) ?_ 1 _ rfl; (with_reducible repeat (first | refine yN ?_ _ | refine yD ?_ | refine yA ?_ _)); refine yP (cs := #[.slice none 0 0, .string (⟨#[]⟩ : ByteArray), .string (⟨#[]⟩ : ByteArray)]) ?_ 0 _ rfl; (with_reducible repeat (first | refine yN ?_ _ | refine yD ?_ | refine yA ?_ _)); exact BK253.out) hb); replace HB := aM (zT (zH HB.out) hb); (try clear hb); have hcz38_0 : w37.cell? ⟨gb243, 0, none⟩ = some (.slice A0_0 l0_0.length c0_0) := yc BK243.out 0; have hcz38_1 : w37.cell? ⟨gb243, 1, none⟩ = some (.string a0_1) := yc BK243.out 1; have hcz38_2 : w37.cell? ⟨gb243, 2, none⟩ = some (.string a0_2) := yc BK243.out 2; have hfz38_0 := yZ BK243.out 0; have hfz38_1 := yZ BK243.out 1; have hfz38_2 := yZ BK243.out 2; have hcz39_0 : w37.cell? ⟨gb253, 0, none⟩ = some (.slice Ao33 t248.length co33) := yc BK253.out 0; have hcz39_1 : w37.cell? ⟨gb253, 1, none⟩ = some (.string t251) := yc BK253.out 1; have hcz39_2 : w37.cell? ⟨gb253, 2, none⟩ = some (.string t252) := yc BK253.out 2; have hfz39_0 := yZ BK253.out 0; have hfz39_1 := yZ BK253.out 1; have hfz39_2 := yZ BK253.out 2; have hcz40_0 : w37.cell? ⟨gb244, 0, none⟩ = some (.slice none 0 0) := yc BK244.out 0; have hcz40_1 : w37.cell? ⟨gb244, 1, none⟩ = some (.string (⟨#[]⟩ : ByteArray)) := yc BK244.out 1; have hcz40_2 : w37.cell? ⟨gb244, 2, none⟩ = some (.string (⟨#[]⟩ : ByteArray)) := yc BK244.out 2; have hfz40_0 := yZ BK244.out 0; have hfz40_1 := yZ BK244.out 1; have hfz40_2 := yZ BK244.out 2))
   refine bodyPost_ret (results_cell_row rfl _ _ gb244 27 #[.slice Ao33 t248.length co33, .string t251, .string t255] (0, 0) _ rfl (by (with_reducible repeat (first | refine yN ?_ _ | refine yD ?_ | refine yA ?_ _)); refine yP (cs := #[.slice Ao33 t248.length co33, .string t251, .string (⟨#[]⟩ : ByteArray)]) ?_ 2 _ rfl; (with_reducible repeat (first | refine yN ?_ _ | refine yD ?_ | refine yA ?_ _)); refine yP (cs := #[.slice Ao33 t248.length co33, .string (⟨#[]⟩ : ByteArray), .string (⟨#[]⟩ : ByteArray)]) ?_ 1 _ rfl; (with_reducible repeat (first | refine yN ?_ _ | refine yD ?_ | refine yA ?_ _)); refine yP (cs := #[.slice none 0 0, .string (⟨#[]⟩ : ByteArray), .string (⟨#[]⟩ : ByteArray)]) ?_ 0 _ rfl; (with_reducible repeat (first | refine yN ?_ _ | refine yD ?_ | refine yA ?_ _)); refine yF ?_ NB244_253.out _; (with_reducible repeat (first | refine yN ?_ _ | refine yD ?_ | refine yA ?_ _)); exact BK244.out) Try.underlying27 rfl (by kernel_rfl)) rfl ?_
   exact ⟨_, by first | rfl | (simp [errW_none, errW_some] <;> rfl) | (simp [*, errW_none, errW_some] <;> rfl), xH (xM (xF (p := ⟨gb244, 2, none⟩) (xF (p := ⟨gb244, 1, none⟩) (xF (p := ⟨gb244, 0, none⟩) (xF (p := ⟨gb253, 2, none⟩) (xT (xT HO250.out BK253.out (by decide)) BK244.out (by decide)) (fun _ hk => hk.1.2) (.string t255)) (fun _ hk => hk.2) (.slice Ao33 t248.length co33)) (fun _ hk => hk.2) (.string t251)) (fun _ hk => hk.2) (.string t255)) (fun _ hk => trivial)), zH HB.out⟩
  ·rw [if_neg c23] at H
   have c23b0 : ((wrap64 (a1 - (l0_0.length : Int))) == 1) = false := beq_eq_false_iff_ne.mpr c23
   have c23b1 : ((wrap64 (a1 - (l0_0.length : Int))) != 1) = true := bne_iff_ne.mpr c23
   replace H := Option.bind_eq_some_iff.mp H
   obtain ⟨t256, A410, H⟩ := H
   replace H : (if 0 ≤ a1 then (if a1 < (t248.length : Int) then (some ((t248.set (a1 : Int).toNat t256), t251, t252)) else (none)) else (none)) = some (r1, r2, r3) := H
   have A41 := aM A410
   clear A410
   by_cases c42 : 0 ≤ a1
   ·rw [if_pos c42] at H
    have c42b0 : decide (0 ≤ a1) = true := decide_eq_true c42
    clear c42
    by_cases c43 : a1 < (t248.length : Int)
    ·rw [if_pos c43] at H
     have c43b0 : decide (a1 < (t248.length : Int)) = true := decide_eq_true c43
     clear c43
     obtain ⟨y257, hy257⟩ : ∃ y_ : List ByteArray, y_ = (t248.set (a1 : Int).toNat t256) := ⟨_, rfl⟩
     replace H : (some (y257, t251, t252)) = some (r1, r2, r3) := by first | (rw [hy257]; with_reducible exact H) | (have H2_ := (Option.bind_some _ _).symm.trans H; rw [hy257]; with_reducible exact H2_) | (have H2_ := (Option.bind_some _ _).symm.trans H; with_reducible exact H2_) | with_reducible exact H | (rw [hy257]; exact H) | exact H
     have Ny257 := aM hy257
     clear hy257
     simp only [Option.some.injEq, Prod.mk.injEq] at H
     obtain ⟨rfl, rfl, rfl⟩ := H
     go_enter Try.func60, Try.ntmps60
     try go_wp2_with (first | ((with_reducible refine gate_dst (N := 2) rfl ?_); refine box_event ?hg (N := 2) ?hd (cs := #[.slice A0_0 l0_0.length c0_0, .string a0_1, .string a0_2]) (t := 27) ?hr ?_; (case hd => rfl); (case hg => rfl); (case hr => first | (go_simp; done) | (go_simp; rfl)); intro gb243 hg w45 hbox hb; have BK243 := aM (hbox); have GW243 := aM ((by rw [hg]; exact (zZ (zH HB.out)) : w.heap.size ≤ gb243)); have GE243 := aM ((by rw [hg]; exact (zZ (zH HB.out)) : w.heap.size ≤ gb243)); replace HB := aM (zT (zH HB.out) hb); clear hb hbox hg) | ((with_reducible refine gate_dst (N := 4) rfl ?_); refine box_event ?hg (N := 4) ?hd (cs := #[.slice none 0 0, .string (⟨#[]⟩ : ByteArray), .string (⟨#[]⟩ : ByteArray)]) (t := 27) ?hr ?_; (case hd => rfl); (case hg => rfl); (case hr => first | (go_simp; done) | (go_simp; rfl)); intro gb244 hg w46 hbox hb; have BK244 := aM (hbox); have GW244 := aM ((by rw [hg]; exact (zZ (zH HB.out)) : w.heap.size ≤ gb244)); have GE244 := aM ((by rw [hg]; exact (zZ (zH HB.out)) : w.heap.size ≤ gb244)); replace HB := aM (zT (zH HB.out) hb); have NB243_244 := nL BK243.out hg; have NB244_243 := nR BK243.out hg; replace BK243 := yK BK243.out hb; clear hb hbox hg; have hnb47 := NB243_244.out; have hnc47 := NB244_243.out; have hcz48_0 : w46.cell? ⟨gb243, 0, none⟩ = some (.slice A0_0 l0_0.length c0_0) := yc BK243.out 0; have hcz48_1 : w46.cell? ⟨gb243, 1, none⟩ = some (.string a0_1) := yc BK243.out 1; have hcz48_2 : w46.cell? ⟨gb243, 2, none⟩ = some (.string a0_2) := yc BK243.out 2; have hfz48_0 := yZ BK243.out 0; have hfz48_1 := yZ BK243.out 1; have hfz48_2 := yZ BK243.out 2) | ((with_reducible refine gate_dst (N := 10) rfl ?_); refine Kd.R_lit (Kd.int .i64) _ 3 ?hg (N := 10) ?hd (xs := ([a1] : List Int)) (inner := [.int .i64 a1]) (ok := fun _ => True) (okp := fun _ => True) ?hr ?hp (fun _ hk => hk) trivial (Below.refl _ _) (Nat.le_refl _) (by simp) ?_; (case hd => rfl); (case hg => rfl); (case hr => first | (go_simp; done) | (go_simp; rfl)); (case hp => exact (Reps.one (show Kd.M (Kd.int .i64) _ _ _ a1 [.int .i64 a1] from rfl) (Reps.none _ _))); intro v246 w49 ho50 hb hg_ hnew_; clear hg_ hnew_; (first | rw [← Ny245.out] at ho50 | (simp only [Int.reduceToNat] at ho50; rw [← Ny245.out] at ho50)); have HO247 := aM (xL ho50 (zZ (zH HB.out))); replace BK243 := yK BK243.out hb; replace BK244 := yK BK244.out hb; replace HB := aM (zT (zH HB.out) hb); clear hb ho50; obtain ⟨Ao51, co51, eo51⟩ := Kd.R_slice HO247.out; subst eo51) | ((with_reducible refine gate_callee (f := 56) rfl ?_); refine goesL_ (some 11) rfl rfl Try.func56 (by kernel_rfl) rfl #[.agg #[.slice A0_0 l0_0.length c0_0, .string a0_1, .string a0_2], .slice Ao51 y245.length co51] rfl (by (try simp only [List.map_toArray, List.map_cons, List.map_nil]); first | done | rfl | (simp only [List.length_drop, List.length_take]; rfl)) ?_; (with_reducible refine (impl_without.calls k _ _ l0_0 a0_1 a0_2 _ _ y245 t248 t251 t252 _ ?side1 ?side2 ?side3 ?side4 A3.out).mono ?_); (case side1 => exact cK HR0_0.out HB.out); (case side2 => exact HC0_0.out); (case side3 => repeat (first | exact (Kd.R_reads' HO247.out).2.2 | (with_reducible refine cA ?_ _) | (with_reducible refine cN ?_ _) | (with_reducible refine cD ?_))); (case side4 => exact (Kd.R_reads' HO247.out).2.1); rintro e w52 ⟨v249, rfl, ho0, hb⟩; refine ⟨_, rfl, ?_⟩; replace HO247 := xK HO247.out hb; have HO250 := aM (xL ho0 (zZ (zH HB.out))); replace BK243 := yK BK243.out hb; replace BK244 := yK BK244.out hb; replace HB := aM (zT (zH HB.out) hb); (try clear hb); (try clear ho0)) | ((with_reducible refine gate_dst (N := 5) rfl ?_); refine box_event ?hg (N := 5) ?hd (cs := #[.slice none 0 0, .string (⟨#[]⟩ : ByteArray), .string (⟨#[]⟩ : ByteArray)]) (t := 27) ?hr ?_; (case hd => rfl); (case hg => rfl); (case hr => first | (go_simp; done) | (go_simp; rfl)); intro gb253 hg w53 hbox hb; replace HO247 := xK HO247.out hb; replace HO250 := xK HO250.out hb; have BK253 := aM (hbox); have GW253 := aM ((by rw [hg]; exact (zZ (zH HB.out)) : w.heap.size ≤ gb253)); have GE253 := aM ((by rw [hg]; exact (zZ (zH HB.out)) : w.heap.size ≤ gb253)); replace HB := aM (zT (zH HB.out) hb); have NB243_253 := nL BK243.out hg; have NB253_243 := nR BK243.out hg; replace BK243 := yK BK243.out hb; have NB244_253 := nL BK244.out hg; have NB253_244 := nR BK244.out hg; replace BK244 := yK BK244.out hb; clear hb hbox hg; obtain ⟨Ao54, co54, eo54⟩ := Kd.R_slice HO250.out; subst eo54; have hnb55 := NB253_243.out; have hnc55 := NB243_253.out; have hnb56 := NB253_244.out; have hnc56 := NB244_253.out; have hcz57_0 : w53.cell? ⟨gb253, 0, none⟩ = some (.slice none 0 0) := yc BK253.out 0; have hcz57_1 : w53.cell? ⟨gb253, 1, none⟩ = some (.string (⟨#[]⟩ : ByteArray)) := yc BK253.out 1; have hcz57_2 : w53.cell? ⟨gb253, 2, none⟩ = some (.string (⟨#[]⟩ : ByteArray)) := yc BK253.out 2; have hfz57_0 := yZ BK253.out 0; have hfz57_1 := yZ BK253.out 1; have hfz57_2 := yZ BK253.out 2) | ((with_reducible refine gate_callee (f := 46) rfl ?_); refine goesL_ (some 15) rfl rfl Try.func46 (by kernel_rfl) rfl #[.slice Ao54 t248.length co54] rfl (by (try simp only [List.map_toArray, List.map_cons, List.map_nil]); first | done | rfl | (simp only [List.length_drop, List.length_take]; rfl)) ?_; (with_reducible refine (impl_parities.calls k _ _ t248 t254 t255 _ ?side1 ?side2 A4.out).mono ?_); (case side1 => exact rC (n := t248.length) (c := co54) ((x3 HO250.out BK253.out (by decide) (.slice Ao54 t248.length co54) (.string t251) (.string t252)))); (case side2 => exact (Kd.R_reads' HO250.out).2.1); rintro e w58 ⟨rfl, hb⟩; refine ⟨_, rfl, ?_⟩; replace HO247 := aM (xB (xH ((x3 HO247.out BK253.out (by decide) (.slice Ao54 t248.length co54) (.string t251) (.string t252)))) hb); replace HO250 := aM (xB (xH ((x3 HO250.out BK253.out (by decide) (.slice Ao54 t248.length co54) (.string t251) (.string t252)))) hb); replace BK243 := aM (yB (g := gb243) (o := .cells #[.slice A0_0 l0_0.length c0_0, .string a0_1, .string a0_2] 27 (0, 0)) (by (with_reducible repeat (first | refine yN ?_ _ | refine yD ?_ | refine yA ?_ _)); refine yF ?_ NB243_253.out _; (with_reducible repeat (first | refine yN ?_ _ | refine yD ?_ | refine yA ?_ _)); refine yF ?_ NB243_253.out _; (with_reducible repeat (first | refine yN ?_ _ | refine yD ?_ | refine yA ?_ _)); refine yF ?_ NB243_253.out _; (with_reducible repeat (first | refine yN ?_ _ | refine yD ?_ | refine yA ?_ _)); exact BK243.out) hb); replace BK244 := aM (yB (g := gb244) (o := .cells #[.slice none 0 0, .string (⟨#[]⟩ : ByteArray), .string (⟨#[]⟩ : ByteArray)] 27 (0, 0)) (by (with_reducible repeat (first | refine yN ?_ _ | refine yD ?_ | refine yA ?_ _)); refine yF ?_ NB244_253.out _; (with_reducible repeat (first | refine yN ?_ _ | refine yD ?_ | refine yA ?_ _)); refine yF ?_ NB244_253.out _; (with_reducible repeat (first | refine yN ?_ _ | refine yD ?_ | refine yA ?_ _)); refine yF ?_ NB244_253.out _; (with_reducible repeat (first | refine yN ?_ _ | refine yD ?_ | refine yA ?_ _)); exact BK244.out) hb); replace BK253 := aM (yB (g := gb253) (o := .cells #[.slice Ao54 t248.length co54, .string t251, .string t252] 27 (0, 0)) (by (with_reducible repeat (first | refine yN ?_ _ | refine yD ?_ | refine yA ?_ _)); refine yP (cs := #[.slice Ao54 t248.length co54, .string t251, .string (⟨#[]⟩ : ByteArray)]) ?_ 2 _ rfl; (with_reducible repeat (first | refine yN ?_ _ | refine yD ?_ | refine yA ?_ _)); refine yP (cs := #[.slice Ao54 t248.length co54, .string (⟨#[]⟩ : ByteArray), .string (⟨#[]⟩ : ByteArray)]) ?_ 1 _ rfl; (with_reducible repeat (first | refine yN ?_ _ | refine yD ?_ | refine yA ?_ _)); refine yP (cs := #[.slice none 0 0, .string (⟨#[]⟩ : ByteArray), .string (⟨#[]⟩ : ByteArray)]) ?_ 0 _ rfl; (with_reducible repeat (first | refine yN ?_ _ | refine yD ?_ | refine yA ?_ _)); exact BK253.out) hb); replace HB := aM (zT (zH HB.out) hb); (try clear hb); have hcz59_0 : w58.cell? ⟨gb243, 0, none⟩ = some (.slice A0_0 l0_0.length c0_0) := yc BK243.out 0; have hcz59_1 : w58.cell? ⟨gb243, 1, none⟩ = some (.string a0_1) := yc BK243.out 1; have hcz59_2 : w58.cell? ⟨gb243, 2, none⟩ = some (.string a0_2) := yc BK243.out 2; have hfz59_0 := yZ BK243.out 0; have hfz59_1 := yZ BK243.out 1; have hfz59_2 := yZ BK243.out 2))
     replace HO247 := aM (xD HO247.out)
     replace HO250 := aM (xD HO250.out)
     replace BK243 := aM (yD BK243.out)
     replace BK244 := aM (yD BK244.out)
     replace BK253 := aM (yD BK253.out)
     replace HB := aM (zD HB.out)
     refine start_ (n := 9) (S := fun w' => w'.cell? ⟨gb253, 0, none⟩ = some (.slice Ao54 t248.length co54) ∧ w'.cell? ⟨gb253, 1, none⟩ = some (.string t251) ∧ w'.cell? ⟨gb253, 2, none⟩ = some (.string t252) ∧ w'.cell? ⟨gb243, 0, none⟩ = some (.slice A0_0 l0_0.length c0_0) ∧ w'.cell? ⟨gb243, 1, none⟩ = some (.string a0_1) ∧ w'.cell? ⟨gb243, 2, none⟩ = some (.string a0_2)) (ds := [8]) #[fF,fF,fF,fF,fF,fF,fF,fF,fF] (by kernel_rfl) rfl rfl ⟨yc BK253.out 0, yc BK253.out 1, yc BK253.out 2, yc BK243.out 0, yc BK243.out 1, yc BK243.out 2⟩ (fun hHeld => ?_); refine with_tabW impl_recoverOne.tab4 impl_recoverOne.bits4 (fun HT_ HW_ => ?_)
     generalize w58.drew = w60 at HO247 HO250 BK243 BK244 BK253 HB hHeld ⊢
     refine pure_ (i := 0) (N := some 23) (v := ?_) (a' := ?_) #[tT,fF,fF,fF,fF,fF,fF,fF,fF] rfl rfl (any_of HT_.out (by kernel_rfl)) (fun _ _ _ h => h) (Or.inl ⟨by rfl, ?_⟩) ?_ ?_
     rotate_left
     ·intro w'
      go_simp
      with_reducible rfl
     rotate_left
     ·simp only [Act.put, qA, qB, qC, i64_w, i32_w]
      rfl
     refine pure_ (i := 2) (N := some 25) (v := ?_) (a' := ?_) #[tT,fF,tT,fF,fF,fF,fF,fF,fF] rfl rfl (any_of HT_.out (by kernel_rfl)) (fun _ _ _ h => h) (Or.inl ⟨by rfl, ?_⟩) ?_ ?_
     rotate_left
     ·intro w'
      go_simp
      with_reducible rfl
     rotate_left
     ·simp only [Act.put, qA, qB, qC, i64_w, i32_w]
      rfl
     refine pure_ (i := 3) (N := some 26) (v := ?_) (a' := ?_) #[tT,fF,tT,tT,fF,fF,fF,fF,fF] rfl rfl (any_of HT_.out (by kernel_rfl)) (fun _ _ _ h => h) (Or.inl ⟨by rfl, ?_⟩) ?_ ?_
     rotate_left
     ·intro w'
      go_simp
      with_reducible rfl
     rotate_left
     ·simp only [Act.put, qA, qB, qC, i64_w, i32_w]
      rfl
     refine pure_ (i := 4) (N := some 27) (v := ?_) (a' := ?_) #[tT,fF,tT,tT,tT,fF,fF,fF,fF] rfl rfl (any_of HT_.out (by kernel_rfl)) (fun _ _ _ h => h) (Or.inl ⟨by rfl, ?_⟩) ?_ ?_
     rotate_left
     ·intro w'
      go_simp
      with_reducible rfl
     rotate_left
     ·simp only [Act.put, qA, qB, qC, i64_w, i32_w]
      rfl
     refine take_ (i := 1) (N := some 24) (v := ?_) (a' := ?_) #[tT,tT,tT,tT,tT,fF,fF,fF,fF] rfl rfl (take_ofW HT_.out HW_.out (by kernel_rfl)) (fun _ _ _ h => h) (Or.inl ⟨by rfl, ?_⟩) hHeld ?_ ?_
     rotate_left
     ·rintro w' ⟨s0, s1, s2, s3, s4, s5⟩
      go_simp
      with_reducible rfl
     rotate_left
     ·simp only [Act.put, qA, qB, qC, i64_w, i32_w]
      rfl
     refine take_ (i := 5) (N := some 28) (v := ?_) (a' := ?_) #[tT,tT,tT,tT,tT,tT,fF,fF,fF] rfl rfl (take_ofW HT_.out HW_.out (by kernel_rfl)) (fun _ _ _ h => h) (Or.inl ⟨by rfl, ?_⟩) hHeld ?_ ?_
     rotate_left
     ·rintro w' ⟨s0, s1, s2, s3, s4, s5⟩
      go_simp
      with_reducible rfl
     rotate_left
     ·simp only [Act.put, qA, qB, qC, i64_w, i32_w]
      rfl
     refine one_ (i := 6) (N := some 29) #[tT,tT,tT,tT,tT,tT,tT,fF,fF] rfl rfl (one_of HT_.out (by kernel_rfl)) (by decide) (fun K hK => ?_)
     refine gS Try.func57 (by kernel_rfl) rfl #[.string t254, .string a0_1] (by rfl) rfl rfl ?_
     with_reducible refine (impl_xor.calls t254 a0_1 t256 _ A41.out).mono ?_
     rintro e w61 ⟨rfl, hb⟩
     refine ⟨_, rfl, ?_⟩
     replace HO247 := xK HO247.out hb
     replace HO250 := xK HO250.out hb
     replace BK243 := yK BK243.out hb
     replace BK244 := yK BK244.out hb
     replace BK253 := yK BK253.out hb
     replace HB := aM (zT (zH HB.out) hb)
     (try clear hb)
     have p44 : 0 ≤ (a1 : Int) := of_decide_eq_true (by first | (with_reducible assumption) | assumption)
     have q44 : (a1 : Int) < ((t248.length : Int) : Int) := of_decide_eq_true (by first | (with_reducible assumption) | assumption)
     obtain ⟨go44, co44, eo44, gb44, gl44, cl44, HG44⟩ := Kd.R_form HO250.out (by omega)
     (first | cases eo44 | (injection eo44 with ea_ en_ ec_; (first | subst ea_ | (injection ea_ with ea_; subst ea_)); subst ec_; clear en_))
     have GB44 := aM gb44
     have GG44 := aM HG44
     clear gb44 gl44 HG44
     obtain ⟨hx44_0, hf44_0⟩ := Kd.R_celln (⟨#[]⟩ : ByteArray) HO250.out (a1 : Int) p44 q44
     replace p44 := eq_true p44
     replace q44 := eq_true q44
     have HP62 := Kd.R_putn HO250.out (a1 : Int) t256
     rw [← Ny257.out] at HP62
     have HQ62 := aM HP62
     clear HP62
     refine hK.out _ _ ⟨yc BK253.out 0, yc BK253.out 1, yc BK253.out 2, yc BK243.out 0, yc BK243.out 1, yc BK243.out 2⟩ (fun hHeld => ?_)
     clear hK K
     refine norm_ (a' := ?_) ?_ ?_
     rotate_left
     ·show Act.put _ (some 29) _ = _
      simp only [Act.put, qA, qB, qC, i64_w, i32_w]
      rfl
     refine pure_ (i := 7) (N := some 30) (v := ?_) (a' := ?_) #[tT,tT,tT,tT,tT,tT,tT,tT,fF] rfl rfl (any_of HT_.out (by kernel_rfl)) (fun _ _ _ h => h) (Or.inl ⟨by rfl, ?_⟩) ?_ ?_
     rotate_left
     ·intro w'
      go_simp
      with_reducible rfl
     rotate_left
     ·simp only [Act.put, qA, qB, qC, i64_w, i32_w]
      rfl
     refine last_ (i := 8) (N := none) #[tT,tT,tT,tT,tT,tT,tT,tT,tT] rfl rfl (one_of HT_.out (by kernel_rfl)) (by decide) (fun K hK => ?_)
     refine skip_ (w1 := ?_) (by rfl) rfl ?_ ?_
     rotate_left
     ·go_simp
      rfl
     refine hK.out _ _ ?_
     clear hK K
     refine done_ (done_of HT_.out (by kernel_rfl)) ?_
     have n0_ : Aside0 (Kd.R (Kd.int .i64) 3 (w61.setCell ⟨go44, (a1 : Int).toNat, none⟩ (.string t256)) w.heap.size (fun _ => True) (.slice Ao51 y245.length co51) y245) := ⟨by (with_reducible repeat (first | apply xA | apply xN | apply xD)); first | exact xM (xF (p := ⟨go44, (a1 : Int).toNat, none⟩) (xT HO247.out GG44.out (by decide)) (fun _ hk => hk.2) (.string t256)) (fun _ hk => trivial) | (obtain ⟨_, _, _, q_, hq_, cl_, HG_⟩ := (Kd.R_bound HO250.out).1 go44 rfl; obtain rfl : q_ = 9 := (by first | exact List.mem_singleton.mp hq_ | simpa using hq_); exact xM (xF (p := ⟨go44, (a1 : Int).toNat, none⟩) (xT HO247.out HG_ (by decide)) (fun _ hk => hk.2) (.string t256)) (fun _ hk => trivial))⟩
     have n1_ : Aside0 (Kd.R Kd.string 9 (w61.setCell ⟨go44, (a1 : Int).toNat, none⟩ (.string t256)) w.heap.size (fun _ => True) (.slice (some ⟨go44, 0, none⟩) t248.length co54) y257) := ⟨xH HQ62.out⟩
     have n2_ : Aside0 ((w61.setCell ⟨go44, (a1 : Int).toNat, none⟩ (.string t256)).heap[gb243]? = some (.cells #[.slice A0_0 l0_0.length c0_0, .string a0_1, .string a0_2] 27 (0, 0))) := ⟨by (with_reducible repeat (first | refine yN ?_ _ | refine yD ?_ | refine yA ?_ _)); refine yF ?_ (by have h_ := Kd.R_ne HO250.out BK243.out (by decide); intro e_; exact h_ (by rw [e_]; rfl)) _; (with_reducible repeat (first | refine yN ?_ _ | refine yD ?_ | refine yA ?_ _)); exact BK243.out⟩
     have n3_ : Aside0 ((w61.setCell ⟨go44, (a1 : Int).toNat, none⟩ (.string t256)).heap[gb244]? = some (.cells #[.slice none 0 0, .string (⟨#[]⟩ : ByteArray), .string (⟨#[]⟩ : ByteArray)] 27 (0, 0))) := ⟨by (with_reducible repeat (first | refine yN ?_ _ | refine yD ?_ | refine yA ?_ _)); refine yF ?_ (by have h_ := Kd.R_ne HO250.out BK244.out (by decide); intro e_; exact h_ (by rw [e_]; rfl)) _; (with_reducible repeat (first | refine yN ?_ _ | refine yD ?_ | refine yA ?_ _)); exact BK244.out⟩
     have n4_ : Aside0 ((w61.setCell ⟨go44, (a1 : Int).toNat, none⟩ (.string t256)).heap[gb253]? = some (.cells #[.slice (some ⟨go44, 0, none⟩) t248.length co54, .string t251, .string t252] 27 (0, 0))) := ⟨by (with_reducible repeat (first | refine yN ?_ _ | refine yD ?_ | refine yA ?_ _)); refine yF ?_ (by have h_ := Kd.R_ne HO250.out BK253.out (by decide); intro e_; exact h_ (by rw [e_]; rfl)) _; (with_reducible repeat (first | refine yN ?_ _ | refine yD ?_ | refine yA ?_ _)); exact BK253.out⟩
     have n5_ : Aside0 (Below w.heap.size w (w61.setCell ⟨go44, (a1 : Int).toNat, none⟩ (.string t256))) := ⟨by repeat (first | (with_reducible first | exact HB.out | apply zA | apply zN | apply zD | refine zS ?_ GB44.out | refine zS ?_ GE243.out | refine zS ?_ GE244.out | refine zS ?_ GE253.out) | exact HB.out)⟩
     (try clear HO247); (try clear HO250); (try clear BK243); (try clear BK244); (try clear BK253); (try clear HB)
     generalize (w61.setCell ⟨go44, (a1 : Int).toNat, none⟩ (.string t256)) = w63 at n0_ n1_ n2_ n3_ n4_ n5_ ⊢
     have HO247 := n0_
     have HO250 := n1_
     have BK243 := n2_
     have BK244 := n3_
     have BK253 := n4_
     have HB := n5_
     clear n0_ n1_ n2_ n3_ n4_ n5_
     have hcz64_0 : w63.cell? ⟨gb253, 0, none⟩ = some (.slice (some ⟨go44, 0, none⟩) t248.length co54) := yc BK253.out 0
     have hcz64_1 : w63.cell? ⟨gb253, 1, none⟩ = some (.string t251) := yc BK253.out 1
     have hcz64_2 : w63.cell? ⟨gb253, 2, none⟩ = some (.string t252) := yc BK253.out 2
     have hfz64_0 := yZ BK253.out 0
     have hfz64_1 := yZ BK253.out 1
     have hfz64_2 := yZ BK253.out 2
     have hcz65_0 : w63.cell? ⟨gb244, 0, none⟩ = some (.slice none 0 0) := yc BK244.out 0
     have hcz65_1 : w63.cell? ⟨gb244, 1, none⟩ = some (.string (⟨#[]⟩ : ByteArray)) := yc BK244.out 1
     have hcz65_2 : w63.cell? ⟨gb244, 2, none⟩ = some (.string (⟨#[]⟩ : ByteArray)) := yc BK244.out 2
     have hfz65_0 := yZ BK244.out 0
     have hfz65_1 := yZ BK244.out 1
     have hfz65_2 := yZ BK244.out 2
     try go_wp2
     refine bodyPost_ret (results_cell_row rfl _ _ gb244 27 #[.slice (some ⟨go44, 0, none⟩) t248.length co54, .string t251, .string t252] (0, 0) _ rfl (by (with_reducible repeat (first | refine yN ?_ _ | refine yD ?_ | refine yA ?_ _)); refine yP (cs := #[.slice (some ⟨go44, 0, none⟩) t248.length co54, .string t251, .string (⟨#[]⟩ : ByteArray)]) ?_ 2 _ rfl; (with_reducible repeat (first | refine yN ?_ _ | refine yD ?_ | refine yA ?_ _)); refine yP (cs := #[.slice (some ⟨go44, 0, none⟩) t248.length co54, .string (⟨#[]⟩ : ByteArray), .string (⟨#[]⟩ : ByteArray)]) ?_ 1 _ rfl; (with_reducible repeat (first | refine yN ?_ _ | refine yD ?_ | refine yA ?_ _)); refine yP (cs := #[.slice none 0 0, .string (⟨#[]⟩ : ByteArray), .string (⟨#[]⟩ : ByteArray)]) ?_ 0 _ rfl; (with_reducible repeat (first | refine yN ?_ _ | refine yD ?_ | refine yA ?_ _)); exact BK244.out) Try.underlying27 rfl (by kernel_rfl)) rfl ?_
     exact ⟨_, by first | rfl | (simp [errW_none, errW_some] <;> rfl) | (simp [*, errW_none, errW_some] <;> rfl), xH (xM (xF (p := ⟨gb244, 2, none⟩) (xF (p := ⟨gb244, 1, none⟩) (xF (p := ⟨gb244, 0, none⟩) (xT HO250.out BK244.out (by decide)) (fun _ hk => hk.2) (.slice (some ⟨go44, 0, none⟩) t248.length co54)) (fun _ hk => hk.2) (.string t251)) (fun _ hk => hk.2) (.string t252)) (fun _ hk => trivial)), zH HB.out⟩
    ·rw [if_neg c43] at H
     exact absurd H (by simp)
   ·rw [if_neg c42] at H
    exact absurd H (by simp)

end Go.Proofs.Ytfijnlhklfmoeaa.PFnUpdated
