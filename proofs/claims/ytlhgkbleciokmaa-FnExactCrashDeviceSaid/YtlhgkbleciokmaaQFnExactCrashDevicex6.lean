/- The walks of FnExactCrashDevice: Go's calls come to what the Lean functions beside them say; no condition. -/
import Derived.Test.YtlhgkbleciokmaaQFnExactCrashDevicex0
import Derived.Test.YtlhgkbleciokmaaQFnExactCrashDevicex5
namespace Go.Proofs.Ytlhgkbleciokmaa.PFnExactCrashDevice
open Go.RowKit Go.Proofs.YtlhgkbleciokmaaW.PrintWords Go.Proofs.YtlhgkbleciokmaaW.PrintLast Go.Proofs.YtlhgkbleciokmaaW.PrintMore
attribute [local go_sem] max2_int min2_int max_two min_two max_three min_three max_four min_four   -- for this text's walks alone
set_option linter.unusedVariables false
set_option linter.unusedSimpArgs false
set_option maxRecDepth 100000

/-! ### impl_CrashDevice: function 32 (by hand) -/
/-! #### performed: the sectors behind those writes that are kept, whatever function says which -/
theorem clone_eq {l t : List ByteArray} (h : slices_Clone_string_string.f l = some t) : t = l := by
 unfold slices_Clone_string_string.f at h
 split at h
 ·exact (Option.some.inj h).symm
 ·cases h
def perfL (p : Int → Bool) : List S42 → Int → List ByteArray → Option (List ByteArray)
 | [], _, out => some out
 | s :: l, i, out => if p i = true then (if 0 ≤ s.f0 then (if s.f0 < (out.length : Int) then perfL p l (i + 1) (out.set s.f0.toNat s.f1) else none) else none) else perfL p l (i + 1) out
theorem perf_at (p : Int → Bool) (l : List S42) (i : Nat) (h : i < l.length) (out : List ByteArray) : perfL p (l.drop i) (i : Int) out = if p i = true then (if 0 ≤ (rd_T42 l (i : Int)).f0 then (if (rd_T42 l (i : Int)).f0 < (out.length : Int) then perfL p (l.drop (i + 1)) ((i + 1 : Nat) : Int) (out.set (rd_T42 l (i : Int)).f0.toNat (rd_T42 l (i : Int)).f1) else none) else none) else perfL p (l.drop (i + 1)) ((i + 1 : Nat) : Int) out := by
 rw [List.drop_eq_getElem_cons h, perfL]
 have e : rd_T42 l (i : Int) = l[i] := by simp [rd_T42, List.getD_eq_getElem?_getD, h]
 rw [e]; rfl
set_option maxHeartbeats 1000000 in
theorem performed_any (gf : Nat) (lb : Array Value) (p : Int → Bool) (A0 A1 : Option Addr) (c0 c1 : Nat) (l0 : List ByteArray) (l1 : List S42) (r : List ByteArray) (w : World)
  (hr0 : Kd.C Kd.string w A0 l0.length l0) (hc0 : l0.length ≤ c0) (hr1 : Kd.C k42 w A1 l1.length l1) (hlim : slices_Clone_string_string.f l0 = some l0)
  (eg : ∀ args w, (callFunc gf args).run Try.prog w = .ok (.enter gf args) w)
  (hk : ∀ (i : Nat) (W : World), i < l1.length → Below w.heap.size w W → Calls Try.prog gf (#[.int .i64 (i : Int)] ++ lb) W fun e w' => e = .returned (.bool (p i)) ∧ Below W.heap.size W w')
  (h : perfL p l1 0 l0 = some r) :
  Calls Try.prog 63 #[.agg #[.slice A0 l0.length c0, .slice A1 l1.length c1], .func (.func gf) #[] lb] w fun e w' => ∃ v0_ : Value, e = .returned v0_ ∧ Kd.R Kd.string 9 w' w.heap.size (fun _ => True) v0_ r ∧ Below w.heap.size w w' := by
 have HR0 := aM hr0
 have HR1 := aM hr1
 have HL := aM hlim
 have HK := aM hk
 have H := aM h
 have HC := aM hc0
 have hl1 := hr1.2.1
 clear hr0 hr1 hlim hk h hc0
 go_enter Try.func63, Try.ntmps63
 go_wp2_with (first | ((with_reducible refine gate_dst (N := 2) rfl ?_); refine box_event ?hg (N := 2) ?hd (cs := #[.slice A0 l0.length c0, .slice A1 l1.length c1]) (t := 30) ?hr ?_; (case hd => rfl); (case hg => rfl); (case hr => first | (go_simp; done) | (go_simp; rfl)); intro g2 hg2 w2 hb2 hbel; have HBL := aM hbel; have HB2 := aM hb2; have hcz0 : w2.cell? ⟨g2, 0, none⟩ = some (.slice A0 l0.length c0) := (yC hb2 0).trans rfl; have hcz1 : w2.cell? ⟨g2, 1, none⟩ = some (.slice A1 l1.length c1) := (yC hb2 1).trans rfl; clear hb2 hbel hg2) | (go_at_call 66; go_loud (refine (slices_Clone_string_string.calls _ c0 l0 l0 _ (cB HR0.out (by repeat (first | exact HBL.out | apply zA | apply zN | apply zD))) HC.out HL.out).mono ?_); rintro e w3 ⟨v3, rfl, hv3, hb3⟩; have HV := aM (xL hv3 (zZ HBL.out)); have hcz1' : w3.cell? ⟨g2, 1, none⟩ = some (.slice A1 l1.length c1) := (yC (yB (by repeat (first | exact HB2.out | apply yN)) hb3) 1).trans rfl; have HBL := aM (zT (by repeat (first | exact HBL.out | apply zA | apply zN | apply zD)) hb3); clear hv3 hb3))
 have HB := HBL
 have HO_5 := HV
 clear HV HBL HL HC
 go_loopw [14] (fun v14 w' => ∃ (i : Nat) (out : List ByteArray), i ≤ l1.length ∧ v14 = .int .i64 (i : Int) ∧ Aside0 (perfL p (l1.drop i) (i : Int) out = some r) ∧ Aside0 (Kd.R Kd.string 9 w' w.heap.size (fun _ => True) v3 out) ∧ Aside0 (Below w.heap.size w w')) (fun v14 w' => l1.length - (intOf v14).toNat)
 case atStart => exact ⟨0, l0, Nat.zero_le _, rfl, H, ⟨by (with_reducible repeat (first | apply xA | apply xN | apply xD)); exact HO_5.out⟩, ⟨by repeat (first | (with_reducible first | exact HB.out | apply zA | apply zN | apply zD) | exact HB.out)⟩⟩
 case round =>
  clear H HO_5 HB
  obtain ⟨i, out, hi, rfl, H, HO_5, HB⟩ := hrel
  by_cases hlt : i < l1.length
  ·have hf := perf_at p l1 i hlt out
   have p1 : 0 ≤ (i : Int) := by omega
   have q1 : (i : Int) < (l1.length : Int) := by omega
   obtain ⟨ad1, e1, hx1_0, hx1_1⟩ := at_T42 HR1.out (i : Int) p1 q1
   cases e1
   replace hx1_0 := (HB.out.cell (World.block_lt_of_cell? w _ hx1_0)).trans hx1_0
   replace hx1_1 := (HB.out.cell (World.block_lt_of_cell? w _ hx1_1)).trans hx1_1
   (try rw [Int.toNat_natCast] at hx1_0 hx1_1)
   generalize rd_T42 l1 (i : Int) = s at hx1_0 hx1_1 hf
   have H1 := H.out
   rw [hf] at H1
   clear H hf
   by_cases hp : p (i : Int) = true
   ·rw [if_pos hp] at H1
    have HP := aM hp
    clear hp
    by_cases hs0 : 0 ≤ s.f0
    ·rw [if_pos hs0] at H1
     by_cases hs1 : s.f0 < (out.length : Int)
     ·rw [if_pos hs1] at H1
      have PH := aM hs0
      have QH := aM hs1
      clear hs0 hs1
      obtain ⟨y180, hy180⟩ : ∃ y_ : List ByteArray, y_ = (out.set s.f0.toNat s.f1) := ⟨_, rfl⟩
      rw [← hy180] at H1
      have Ny180 := aM hy180
      have H2 := aM H1
      clear hy180 H1
      go_wp2_with (first | ((with_reducible refine gate_dst (N := 7) rfl ?_); refine box_event ?hg (N := 7) ?hd (cs := #[.int .i64 0, .string (⟨#[]⟩ : ByteArray)]) (t := 42) ?hr ?_; (case hd => rfl); (case hg => rfl); (case hr => first | (go_simp; done) | (go_simp; rfl)); intro gb179 hg w13 hbox hb; have n0_ := aM (xB (by (with_reducible repeat (first | apply xA | apply xN | apply xD)); exact HO_5.out) hb); have n1_ := aM (zT (by repeat (first | (with_reducible first | exact HB.out | apply zA | apply zN | apply zD) | exact HB.out)) hb); have n2_ := aM (hbox); have n4_ := aM ((by rw [hg]; exact (zZ (by repeat (first | (with_reducible first | exact HB.out | apply zA | apply zN | apply zD) | exact HB.out))) : w.heap.size ≤ gb179)); clear HO_5; clear HB; have HO_5 := n0_; have HB := n1_; have BK179 := n2_; have GE179 := n4_; clear n0_ n1_ n2_ n4_; clear hb hbox hg; have hcz14_0 : w13.cell? ⟨gb179, 0, none⟩ = some (.int .i64 0) := (yC BK179.out 0).trans rfl; have hcz14_1 : w13.cell? ⟨gb179, 1, none⟩ = some (.string (⟨#[]⟩ : ByteArray)) := (yC BK179.out 1).trans rfl; have hfz14_0 := yZ BK179.out 0; have hfz14_1 := yZ BK179.out 1) | ((with_reducible refine gate_store (t := 42) (p := 7) rfl ?_); refine store_event (t := 42) (p := 7) (v := ?vo_w15) (w1 := ((w13.setCell ⟨gb179, 0, none⟩ (.int .i64 s.f0)).setCell ⟨gb179, 1, none⟩ (.string s.f1))) ?hg ?ho ?hn ?hr ?_; (case ho => rfl); (case hg => rfl); (case hn => rfl); (case hr => first | (go_simp; done) | (go_simp; rfl)); intro w15 hw; have n0_ : Aside0 (Kd.R Kd.string 9 w15 w.heap.size (fun _ => True) v3 out) := ⟨(by rw [hw]; exact (by (with_reducible repeat (first | apply xA | apply xN | apply xD)); exact xM (xF (p := ⟨gb179, 1, none⟩) (xF (p := ⟨gb179, 0, none⟩) (xT HO_5.out BK179.out (by decide)) (fun _ hk => hk.2) (.int .i64 s.f0)) (fun _ hk => hk.2) (.string s.f1)) (fun _ hk => trivial)))⟩; have n1_ : Aside0 (w15.heap[gb179]? = some (.cells #[.int .i64 s.f0, .string s.f1] 42 (0, 0))) := ⟨(by rw [hw]; exact (by (with_reducible repeat (first | refine yN ?_ _ | refine yD ?_ | refine yA ?_ _)); refine yP (cs := #[.int .i64 s.f0, .string (⟨#[]⟩ : ByteArray)]) ?_ 1 _ rfl; (with_reducible repeat (first | refine yN ?_ _ | refine yD ?_ | refine yA ?_ _)); refine yP (cs := #[.int .i64 0, .string (⟨#[]⟩ : ByteArray)]) ?_ 0 _ rfl; (with_reducible repeat (first | refine yN ?_ _ | refine yD ?_ | refine yA ?_ _)); exact BK179.out))⟩; have n2_ : Aside0 (Below w.heap.size w w15) := ⟨(by rw [hw]; exact (by repeat (first | (with_reducible first | exact HB.out | apply zA | apply zN | apply zD | refine zS ?_ GE179.out) | exact HB.out)))⟩; clear hw; clear HO_5; clear BK179; clear HB; have HO_5 := n0_; have BK179 := n1_; have HB := n2_; clear n0_ n1_ n2_) | (go_at_fn gf; go_loud (refine (HK.out i _ hlt (by repeat (first | (with_reducible first | exact HB.out | apply zA | apply zN | apply zD | refine zS ?_ GE179.out) | exact HB.out))).mono ?_); rintro e w16 ⟨rfl, hb16⟩; rw [HP.out]; have n0_ := aM (xB (by (with_reducible repeat (first | apply xA | apply xN | apply xD)); exact HO_5.out) hb16); have n1_ := aM (zT (by repeat (first | (with_reducible first | exact HB.out | apply zA | apply zN | apply zD | refine zS ?_ GE179.out) | exact HB.out)) hb16); have n2_ := aM (yB (by (with_reducible repeat (first | refine yN ?_ _ | refine yD ?_ | refine yA ?_ _)); exact BK179.out) hb16); clear HO_5 HB BK179 hb16; have HO_5 := n0_; have HB := n1_; have BK179 := n2_; clear n0_ n1_ n2_; have hcz16_0 : w16.cell? ⟨gb179, 0, none⟩ = some (.int .i64 s.f0) := (yC BK179.out 0).trans rfl; have hcz16_1 : w16.cell? ⟨gb179, 1, none⟩ = some (.string s.f1) := (yC BK179.out 1).trans rfl; have hfz16_0 := yZ BK179.out 0; have hfz16_1 := yZ BK179.out 1; have p12 := PH.out; have q12 := QH.out; obtain ⟨go12, co12, eo12, gb12, gl12, cl12, HG12⟩ := Kd.R_form HO_5.out (by omega); (first | cases eo12 | (injection eo12 with ea_ en_ ec_; (first | subst ea_ | (injection ea_ with ea_; subst ea_)); subst ec_; clear en_)); have GB12 := aM gb12; have GG12 := aM HG12; clear gb12 gl12 HG12; obtain ⟨hx12_0, hf12_0⟩ := Kd.R_celln (⟨#[]⟩ : ByteArray) HO_5.out (s.f0 : Int) p12 q12; have HP17 := Kd.R_putg HO_5.out (s.f0 : Int) s.f1; replace p12 := eq_true p12; replace q12 := eq_true q12) | ((with_reducible refine gate_store (t := 9) (p := 22) rfl ?_); refine store_event (t := 9) (p := 22) (v := ?vo_w18) (w1 := (w16.setCell ⟨go12, (s.f0 : Int).toNat, none⟩ (.string s.f1))) ?hg ?ho ?hn ?hr ?_; (case ho => rfl); (case hg => rfl); (case hn => rfl); (case hr => first | (go_simp; done) | (go_simp; rfl)); intro w18 hw; have hg : w16.grownBy w18 (some go12) := (by rw [hw]; exact HP17.2); have hp_ : Kd.R Kd.string 9 w18 w.heap.size (fun _ => True) (.slice (some ⟨go12, 0, none⟩) out.length co12) y180 := (by rw [hw, Ny180.out]; exact HP17.1); clear HP17; have n0_ := aM (hp_); have n2_ := aM ((by rw [hw]; exact zS (HB.out) GB12.out : Below w.heap.size w w18)); clear HO_5; clear BK179; clear HB; have HO_5 := n0_; have HB := n2_; clear n0_ n2_; clear hg hw hp_))
      go_roundw
      case rel => exact ⟨i + 1, y180, by omega, by go_num, H2, ⟨by rw [Ny180.out]; exact HP17.1⟩, ⟨zS HB.out GB12.out⟩⟩
      case measure => simp [intOf]; omega
     ·rw [if_neg hs1] at H1
      exact absurd H1 (by simp)
    ·rw [if_neg hs0] at H1
     exact absurd H1 (by simp)
   ·have hpf : p (i : Int) = false := by simpa using hp
    rw [if_neg hp] at H1
    have HP := aM hpf
    have H2 := aM H1
    clear hp hpf H1
    go_wp2_with (first | ((with_reducible refine gate_dst (N := 7) rfl ?_); refine box_event ?hg (N := 7) ?hd (cs := #[.int .i64 0, .string (⟨#[]⟩ : ByteArray)]) (t := 42) ?hr ?_; (case hd => rfl); (case hg => rfl); (case hr => first | (go_simp; done) | (go_simp; rfl)); intro gb179 hg w13 hbox hb; have n0_ := aM (xB (by (with_reducible repeat (first | apply xA | apply xN | apply xD)); exact HO_5.out) hb); have n1_ := aM (zT (by repeat (first | (with_reducible first | exact HB.out | apply zA | apply zN | apply zD) | exact HB.out)) hb); have n2_ := aM (hbox); have n4_ := aM ((by rw [hg]; exact (zZ (by repeat (first | (with_reducible first | exact HB.out | apply zA | apply zN | apply zD) | exact HB.out))) : w.heap.size ≤ gb179)); clear HO_5; clear HB; have HO_5 := n0_; have HB := n1_; have BK179 := n2_; have GE179 := n4_; clear n0_ n1_ n2_ n4_; clear hb hbox hg; have hcz14_0 : w13.cell? ⟨gb179, 0, none⟩ = some (.int .i64 0) := (yC BK179.out 0).trans rfl; have hcz14_1 : w13.cell? ⟨gb179, 1, none⟩ = some (.string (⟨#[]⟩ : ByteArray)) := (yC BK179.out 1).trans rfl; have hfz14_0 := yZ BK179.out 0; have hfz14_1 := yZ BK179.out 1) | ((with_reducible refine gate_store (t := 42) (p := 7) rfl ?_); refine store_event (t := 42) (p := 7) (v := ?vo_w15) (w1 := ((w13.setCell ⟨gb179, 0, none⟩ (.int .i64 s.f0)).setCell ⟨gb179, 1, none⟩ (.string s.f1))) ?hg ?ho ?hn ?hr ?_; (case ho => rfl); (case hg => rfl); (case hn => rfl); (case hr => first | (go_simp; done) | (go_simp; rfl)); intro w15 hw; have n0_ : Aside0 (Kd.R Kd.string 9 w15 w.heap.size (fun _ => True) v3 out) := ⟨(by rw [hw]; exact (by (with_reducible repeat (first | apply xA | apply xN | apply xD)); exact xM (xF (p := ⟨gb179, 1, none⟩) (xF (p := ⟨gb179, 0, none⟩) (xT HO_5.out BK179.out (by decide)) (fun _ hk => hk.2) (.int .i64 s.f0)) (fun _ hk => hk.2) (.string s.f1)) (fun _ hk => trivial)))⟩; have n1_ : Aside0 (w15.heap[gb179]? = some (.cells #[.int .i64 s.f0, .string s.f1] 42 (0, 0))) := ⟨(by rw [hw]; exact (by (with_reducible repeat (first | refine yN ?_ _ | refine yD ?_ | refine yA ?_ _)); refine yP (cs := #[.int .i64 s.f0, .string (⟨#[]⟩ : ByteArray)]) ?_ 1 _ rfl; (with_reducible repeat (first | refine yN ?_ _ | refine yD ?_ | refine yA ?_ _)); refine yP (cs := #[.int .i64 0, .string (⟨#[]⟩ : ByteArray)]) ?_ 0 _ rfl; (with_reducible repeat (first | refine yN ?_ _ | refine yD ?_ | refine yA ?_ _)); exact BK179.out))⟩; have n2_ : Aside0 (Below w.heap.size w w15) := ⟨(by rw [hw]; exact (by repeat (first | (with_reducible first | exact HB.out | apply zA | apply zN | apply zD | refine zS ?_ GE179.out) | exact HB.out)))⟩; clear hw; clear HO_5; clear BK179; clear HB; have HO_5 := n0_; have BK179 := n1_; have HB := n2_; clear n0_ n1_ n2_) | (go_at_fn gf; go_loud (refine (HK.out i _ hlt (by repeat (first | (with_reducible first | exact HB.out | apply zA | apply zN | apply zD | refine zS ?_ GE179.out) | exact HB.out))).mono ?_); rintro e w16 ⟨rfl, hb16⟩; rw [HP.out]; have n0_ := aM (xB (by (with_reducible repeat (first | apply xA | apply xN | apply xD)); exact HO_5.out) hb16); have n1_ := aM (zT (by repeat (first | (with_reducible first | exact HB.out | apply zA | apply zN | apply zD | refine zS ?_ GE179.out) | exact HB.out)) hb16); have n2_ := aM (yB (by (with_reducible repeat (first | refine yN ?_ _ | refine yD ?_ | refine yA ?_ _)); exact BK179.out) hb16); clear HO_5 HB BK179 hb16; have HO_5 := n0_; have HB := n1_; have BK179 := n2_; clear n0_ n1_ n2_))
    go_roundw
    case rel => exact ⟨i + 1, out, by omega, by go_num, H2, ⟨by (with_reducible repeat (first | apply xA | apply xN | apply xD)); exact HO_5.out⟩, ⟨by repeat (first | (with_reducible first | exact HB.out | apply zA | apply zN | apply zD | refine zS ?_ GE179.out) | exact HB.out)⟩⟩
    case measure => simp [intOf]; omega
  ·have hlen : i = l1.length := by omega
   have H1 := H.out
   rw [hlen, List.drop_length, perfL] at H1
   obtain rfl := Option.some.inj H1
   clear H H1 hlen
   go_wp2
   go_ret
   exact ⟨_, rfl, by (with_reducible repeat (first | apply xA | apply xN | apply xD)); exact HO_5.out, by repeat (first | (with_reducible first | exact HB.out | apply zA | apply zN | apply zD) | exact HB.out)⟩
set_option maxHeartbeats 400000 in
theorem impl_CrashDevice.clo (i : Nat) (A1 : Option Addr) (c1 : Nat) (l1 : List Bool) (g : Nat) (W : World) (hg : W.heap[g]? = some (.cells #[.slice A1 l1.length c1] 47 (0, 0))) (hr : Kd.C Kd.bool W A1 l1.length l1) (hi : i < l1.length) :
  Calls Try.prog 72 (#[.int .i64 (i : Int)] ++ #[.pointer (some ⟨g, 0, none⟩)]) W fun e w' => e = .returned (.bool (rdOf false l1 (i : Int))) ∧ Below W.heap.size W w' := by
 show Calls Try.prog 72 #[.int .i64 (i : Int), .pointer (some ⟨g, 0, none⟩)] W _
 have p1 : 0 ≤ (i : Int) := by omega
 have q1 : (i : Int) < (l1.length : Int) := by omega
 obtain ⟨ad1, e1, hx1⟩ := Kd.at_bool hr (i : Int) p1 q1
 subst e1
 have hc : W.cell? ⟨g, 0, none⟩ = some (.slice (some ad1) l1.length c1) := (yC hg 0).trans rfl
 generalize rdOf false l1 (i : Int) = b at hx1 ⊢
 (try rw [Int.toNat_natCast] at hx1)
 clear hg hr
 go_enter Try.func72, Try.ntmps72
 go_wp2
 go_ret
 exact ⟨rfl, by repeat (first | exact Below.refl _ _ | apply zD | apply zN)⟩
def impl_CrashDevice.f (l0_0 : List ByteArray) (l0_1 : List (S42)) (l1 : List Bool) : Option (List ByteArray × (List (S42)) × Bool) :=
 if goodD l0_0 l0_1 = true then (if l1.length = l0_1.length then ((slices_Clone_string_string.f l0_0).bind fun t0 => (perfL (rdOf false l1) l0_1 0 t0).bind fun t1 => some (t1, ([] : List S42), true)) else some (([] : List ByteArray), ([] : List S42), false)) else some (([] : List ByteArray), ([] : List S42), false)
set_option maxHeartbeats 2000000 in
set_option maxRecDepth 100000 in
theorem impl_CrashDevice.calls (A0_0 : Option Addr) (c0_0 : Nat) (l0_0 : List ByteArray) (A0_1 : Option Addr) (c0_1 : Nat) (l0_1 : List (S42)) (A1 : Option Addr) (c1 : Nat) (l1 : List Bool) (r1 : List ByteArray) (r2 : List (S42)) (r3 : Bool) (w : World) (hr0_0 : Kd.C Kd.string w A0_0 l0_0.length l0_0) (hc0_0 : l0_0.length ≤ c0_0) (hr0_1 : Kd.C k42 w A0_1 l0_1.length l0_1) (hc0_1 : l0_1.length ≤ c0_1) (hr1 : Kd.C Kd.bool w A1 l1.length l1) (hc1 : l1.length ≤ c1) (h : impl_CrashDevice.f l0_0 l0_1 l1 = some (r1, r2, r3)) :
  Calls Try.prog 32 #[.agg #[.slice A0_0 l0_0.length c0_0, .slice A0_1 l0_1.length c0_1], .slice A1 l1.length c1] w fun e w' => ∃ v0_ v1_ : Value, e = .returned (.tuple #[.agg #[v0_, v1_], .bool r3]) ∧ Kd.R Kd.string 9 w' w.heap.size (fun _ => True) v0_ r1 ∧ Kd.R k42 42 w' w.heap.size (fun _ => True) v1_ r2 ∧ Below w.heap.size w w' := by
 unfold impl_CrashDevice.f at h
 have hl0 := hr0_1.2.1
 have hl1 := hr1.2.1
 have HR1 := aM hr1
 clear hr1 hc1
 have HR0_0 := aM hr0_0
 have HC0_0 := aM hc0_0
 have HR0_1 := aM hr0_1
 have HC0_1 := aM hc0_1
 clear hr0_0 hc0_0 hr0_1 hc0_1
 have HB := aM (Below.refl w.heap.size w)
 by_cases hg : goodD l0_0 l0_1 = true
 ·rw [if_pos hg] at h
  have HG : Aside0 (impl_GoodDevice.f l0_0 l0_1 = some true) := ⟨by rw [← hg]; rfl⟩
  clear hg
  by_cases hn : l1.length = l0_1.length
  ·rw [if_pos hn] at h
   obtain ⟨t0, hL, h⟩ := Option.bind_eq_some_iff.mp h
   obtain rfl : l0_0 = t0 := (clone_eq hL).symm
   obtain ⟨t1, hP, h⟩ := Option.bind_eq_some_iff.mp h
   simp only [Option.some.injEq, Prod.mk.injEq] at h
   obtain ⟨rfl, rfl, rfl⟩ := h
   have HL := aM hL
   have HP := aM hP
   have LEN := aM hn
   have dn : (l1.length != l0_1.length) = false := by rw [hn]; simp
   have dn2 : (((l1.length : Int)) != (l0_1.length : Int)) = false := by rw [hn]; simp
   clear hL hP hn
   go_enter Try.func32, Try.ntmps32
   go_wp2_with (first | ((with_reducible refine gate_dst (N := 2) rfl ?_); refine box_event ?hg (N := 2) ?hd (cs := #[.slice A0_0 l0_0.length c0_0, .slice A0_1 l0_1.length c0_1]) (t := 30) ?hr ?_; (case hd => rfl); (case hg => rfl); (case hr => first | (go_simp; done) | (go_simp; rfl)); intro gb1 hg w_2 hbox hb; have n_HB := aM (zT (by repeat (first | (with_reducible first | exact HB.out | apply zA | apply zN | apply zD) | exact HB.out)) hb); have n_GE := aM ((by rw [hg]; exact (zZ (by repeat (first | (with_reducible first | exact HB.out | apply zA | apply zN | apply zD) | exact HB.out)))) : w.heap.size ≤ gb1); clear HB; have HB := n_HB; clear n_HB; have BKgb1 := aM hbox; have GEgb1 := n_GE; clear n_GE; have hcq3_0 : w_2.cell? ⟨gb1, 0, none⟩ = some (.slice A0_0 l0_0.length c0_0) := (yC BKgb1.out 0).trans rfl; have hfq3_0 := yZ BKgb1.out 0; have hcq3_1 : w_2.cell? ⟨gb1, 1, none⟩ = some (.slice A0_1 l0_1.length c0_1) := (yC BKgb1.out 1).trans rfl; have hfq3_1 := yZ BKgb1.out 1; clear hbox hb hg) | ((with_reducible refine gate_dst (N := 3) rfl ?_); refine box_event ?hg (N := 3) ?hd (cs := #[.slice A1 l1.length c1]) (t := 47) ?hr ?_; (case hd => rfl); (case hg => rfl); (case hr => first | (go_simp; done) | (go_simp; rfl)); intro gb4 hg w_5 hbox hb; have n_BKgb1 := aM (yB (g := gb1) (o := (.cells #[.slice A0_0 l0_0.length c0_0, .slice A0_1 l0_1.length c0_1] 30 (0, 0))) (by (with_reducible repeat (first | refine yN ?_ _ | refine yD ?_ | refine yA ?_ _)); exact BKgb1.out) hb); have n_HB := aM (zT (by repeat (first | (with_reducible first | exact HB.out | apply zA | apply zN | apply zD | refine zS ?_ GEgb1.out) | exact HB.out)) hb); have n_GE := aM ((by rw [hg]; exact (zZ (by repeat (first | (with_reducible first | exact HB.out | apply zA | apply zN | apply zD | refine zS ?_ GEgb1.out) | exact HB.out)))) : w.heap.size ≤ gb4); have n_NAgb1 := aM ((by rw [hg]; exact Nat.ne_of_lt (blk_lt (g := gb1) (o := (.cells #[.slice A0_0 l0_0.length c0_0, .slice A0_1 l0_1.length c0_1] 30 (0, 0))) (by (with_reducible repeat (first | refine yN ?_ _ | refine yD ?_ | refine yA ?_ _)); exact BKgb1.out))) : gb1 ≠ gb4); clear BKgb1 HB; have BKgb1 := n_BKgb1; have HB := n_HB; clear n_BKgb1 n_HB; have BKgb4 := aM hbox; have GEgb4 := n_GE; clear n_GE; have hnegb1_gb4 := n_NAgb1.out; have hnfgb1_gb4 : gb4 ≠ gb1 := fun h => n_NAgb1.out h.symm; clear n_NAgb1; have hcq6_0 : w_5.cell? ⟨gb1, 0, none⟩ = some (.slice A0_0 l0_0.length c0_0) := (yC BKgb1.out 0).trans rfl; have hfq6_0 := yZ BKgb1.out 0; have hcq6_1 : w_5.cell? ⟨gb1, 1, none⟩ = some (.slice A0_1 l0_1.length c0_1) := (yC BKgb1.out 1).trans rfl; have hfq6_1 := yZ BKgb1.out 1; have hcq7_0 : w_5.cell? ⟨gb4, 0, none⟩ = some (.slice A1 l1.length c1) := (yC BKgb4.out 0).trans rfl; have hfq7_0 := yZ BKgb4.out 0; clear hbox hb hg) | ((with_reducible refine gate_dst (N := 4) rfl ?_); refine box_event ?hg (N := 4) ?hd (cs := #[.slice none 0 0, .slice none 0 0]) (t := 30) ?hr ?_; (case hd => rfl); (case hg => rfl); (case hr => first | (go_simp; done) | (go_simp; rfl)); intro gb8 hg w_9 hbox hb; have n_BKgb1 := aM (yB (g := gb1) (o := (.cells #[.slice A0_0 l0_0.length c0_0, .slice A0_1 l0_1.length c0_1] 30 (0, 0))) (by (with_reducible repeat (first | refine yN ?_ _ | refine yD ?_ | refine yA ?_ _)); exact BKgb1.out) hb); have n_BKgb4 := aM (yB (g := gb4) (o := (.cells #[.slice A1 l1.length c1] 47 (0, 0))) (by (with_reducible repeat (first | refine yN ?_ _ | refine yD ?_ | refine yA ?_ _)); exact BKgb4.out) hb); have n_HB := aM (zT (by repeat (first | (with_reducible first | exact HB.out | apply zA | apply zN | apply zD | refine zS ?_ GEgb1.out | refine zS ?_ GEgb4.out) | exact HB.out)) hb); have n_GE := aM ((by rw [hg]; exact (zZ (by repeat (first | (with_reducible first | exact HB.out | apply zA | apply zN | apply zD | refine zS ?_ GEgb1.out | refine zS ?_ GEgb4.out) | exact HB.out)))) : w.heap.size ≤ gb8); have n_NAgb1 := aM ((by rw [hg]; exact Nat.ne_of_lt (blk_lt (g := gb1) (o := (.cells #[.slice A0_0 l0_0.length c0_0, .slice A0_1 l0_1.length c0_1] 30 (0, 0))) (by (with_reducible repeat (first | refine yN ?_ _ | refine yD ?_ | refine yA ?_ _)); exact BKgb1.out))) : gb1 ≠ gb8); have n_NAgb4 := aM ((by rw [hg]; exact Nat.ne_of_lt (blk_lt (g := gb4) (o := (.cells #[.slice A1 l1.length c1] 47 (0, 0))) (by (with_reducible repeat (first | refine yN ?_ _ | refine yD ?_ | refine yA ?_ _)); exact BKgb4.out))) : gb4 ≠ gb8); clear BKgb1 BKgb4 HB; have BKgb1 := n_BKgb1; have BKgb4 := n_BKgb4; have HB := n_HB; clear n_BKgb1 n_BKgb4 n_HB; have BKgb8 := aM hbox; have GEgb8 := n_GE; clear n_GE; have hnegb1_gb8 := n_NAgb1.out; have hnfgb1_gb8 : gb8 ≠ gb1 := fun h => n_NAgb1.out h.symm; clear n_NAgb1; have hnegb4_gb8 := n_NAgb4.out; have hnfgb4_gb8 : gb8 ≠ gb4 := fun h => n_NAgb4.out h.symm; clear n_NAgb4; have hcq10_0 : w_9.cell? ⟨gb1, 0, none⟩ = some (.slice A0_0 l0_0.length c0_0) := (yC BKgb1.out 0).trans rfl; have hfq10_0 := yZ BKgb1.out 0; have hcq10_1 : w_9.cell? ⟨gb1, 1, none⟩ = some (.slice A0_1 l0_1.length c0_1) := (yC BKgb1.out 1).trans rfl; have hfq10_1 := yZ BKgb1.out 1; have hcq11_0 : w_9.cell? ⟨gb4, 0, none⟩ = some (.slice A1 l1.length c1) := (yC BKgb4.out 0).trans rfl; have hfq11_0 := yZ BKgb4.out 0; have hcq12_0 : w_9.cell? ⟨gb8, 0, none⟩ = some (.slice none 0 0) := (yC BKgb8.out 0).trans rfl; have hfq12_0 := yZ BKgb8.out 0; have hcq12_1 : w_9.cell? ⟨gb8, 1, none⟩ = some (.slice none 0 0) := (yC BKgb8.out 1).trans rfl; have hfq12_1 := yZ BKgb8.out 1; clear hbox hb hg) | (go_at_call 16; go_loud (refine (impl_GoodDevice.calls _ c0_0 l0_0 _ c0_1 l0_1 _ _ ?s1 HC0_0.out ?s2 HC0_1.out HG.out).mono ?_); (case s1 => exact (cB HR0_0.out (by repeat (first | (with_reducible first | exact HB.out | apply zA | apply zN | apply zD | refine zS ?_ GEgb1.out | refine zS ?_ GEgb4.out | refine zS ?_ GEgb8.out) | exact HB.out)))); (case s2 => exact (cB HR0_1.out (by repeat (first | (with_reducible first | exact HB.out | apply zA | apply zN | apply zD | refine zS ?_ GEgb1.out | refine zS ?_ GEgb4.out | refine zS ?_ GEgb8.out) | exact HB.out)))); rintro e w_13 ⟨rfl, hb⟩; have n_BKgb1 := aM (yB (g := gb1) (o := (.cells #[.slice A0_0 l0_0.length c0_0, .slice A0_1 l0_1.length c0_1] 30 (0, 0))) (by (with_reducible repeat (first | refine yN ?_ _ | refine yD ?_ | refine yA ?_ _)); exact BKgb1.out) hb); have n_BKgb4 := aM (yB (g := gb4) (o := (.cells #[.slice A1 l1.length c1] 47 (0, 0))) (by (with_reducible repeat (first | refine yN ?_ _ | refine yD ?_ | refine yA ?_ _)); exact BKgb4.out) hb); have n_BKgb8 := aM (yB (g := gb8) (o := (.cells #[.slice none 0 0, .slice none 0 0] 30 (0, 0))) (by (with_reducible repeat (first | refine yN ?_ _ | refine yD ?_ | refine yA ?_ _)); exact BKgb8.out) hb); have n_HB := aM (zT (by repeat (first | (with_reducible first | exact HB.out | apply zA | apply zN | apply zD | refine zS ?_ GEgb1.out | refine zS ?_ GEgb4.out | refine zS ?_ GEgb8.out) | exact HB.out)) hb); clear BKgb1 BKgb4 BKgb8 HB; have BKgb1 := n_BKgb1; have BKgb4 := n_BKgb4; have BKgb8 := n_BKgb8; have HB := n_HB; clear n_BKgb1 n_BKgb4 n_BKgb8 n_HB; clear hb; have hcq14_0 : w_13.cell? ⟨gb1, 0, none⟩ = some (.slice A0_0 l0_0.length c0_0) := (yC BKgb1.out 0).trans rfl; have hfq14_0 := yZ BKgb1.out 0; have hcq14_1 : w_13.cell? ⟨gb1, 1, none⟩ = some (.slice A0_1 l0_1.length c0_1) := (yC BKgb1.out 1).trans rfl; have hfq14_1 := yZ BKgb1.out 1; have hcq15_0 : w_13.cell? ⟨gb4, 0, none⟩ = some (.slice A1 l1.length c1) := (yC BKgb4.out 0).trans rfl; have hfq15_0 := yZ BKgb4.out 0; have hcq16_0 : w_13.cell? ⟨gb8, 0, none⟩ = some (.slice none 0 0) := (yC BKgb8.out 0).trans rfl; have hfq16_0 := yZ BKgb8.out 0; have hcq16_1 : w_13.cell? ⟨gb8, 1, none⟩ = some (.slice none 0 0) := (yC BKgb8.out 1).trans rfl; have hfq16_1 := yZ BKgb8.out 1) | (go_at_call 63; go_loud (refine (performed_any 72 #[.pointer (some ⟨gb4, 0, none⟩)] _ _ _ c0_0 c0_1 l0_0 l0_1 _ _ ?s1 HC0_0.out ?s2 HL.out (enters_of Try.func72 (by kernel_rfl) rfl) ?s3 HP.out).mono ?_); (case s1 => exact (cB HR0_0.out (by repeat (first | (with_reducible first | exact HB.out | apply zA | apply zN | apply zD | refine zS ?_ GEgb1.out | refine zS ?_ GEgb4.out | refine zS ?_ GEgb8.out) | exact HB.out)))); (case s2 => exact (cB HR0_1.out (by repeat (first | (with_reducible first | exact HB.out | apply zA | apply zN | apply zD | refine zS ?_ GEgb1.out | refine zS ?_ GEgb4.out | refine zS ?_ GEgb8.out) | exact HB.out)))); (case s3 => exact fun i W hi hW => impl_CrashDevice.clo i _ c1 l1 gb4 W (yB (g := gb4) (o := (.cells #[.slice A1 l1.length c1] 47 (0, 0))) (by (with_reducible repeat (first | refine yN ?_ _ | refine yD ?_ | refine yA ?_ _)); exact BKgb4.out) hW) (cB HR1.out (below_then (by repeat (first | (with_reducible first | exact HB.out | apply zA | apply zN | apply zD | refine zS ?_ GEgb1.out | refine zS ?_ GEgb4.out | refine zS ?_ GEgb8.out) | exact HB.out)) (zZ (by repeat (first | (with_reducible first | exact HB.out | apply zA | apply zN | apply zD | refine zS ?_ GEgb1.out | refine zS ?_ GEgb4.out | refine zS ?_ GEgb8.out) | exact HB.out))) hW)) (by have := LEN.out; omega)); rintro e w_17 ⟨v18, rfl, ho19, hb⟩; have n_BKgb1 := aM (yB (g := gb1) (o := (.cells #[.slice A0_0 l0_0.length c0_0, .slice A0_1 l0_1.length c0_1] 30 (0, 0))) (by (with_reducible repeat (first | refine yN ?_ _ | refine yD ?_ | refine yA ?_ _)); exact BKgb1.out) hb); have n_BKgb4 := aM (yB (g := gb4) (o := (.cells #[.slice A1 l1.length c1] 47 (0, 0))) (by (with_reducible repeat (first | refine yN ?_ _ | refine yD ?_ | refine yA ?_ _)); exact BKgb4.out) hb); have n_BKgb8 := aM (yB (g := gb8) (o := (.cells #[.slice none 0 0, .slice none 0 0] 30 (0, 0))) (by (with_reducible repeat (first | refine yN ?_ _ | refine yD ?_ | refine yA ?_ _)); exact BKgb8.out) hb); have n_HB := aM (zT (by repeat (first | (with_reducible first | exact HB.out | apply zA | apply zN | apply zD | refine zS ?_ GEgb1.out | refine zS ?_ GEgb4.out | refine zS ?_ GEgb8.out) | exact HB.out)) hb); have n_HOho19 := aM (xL ho19 (zZ (by repeat (first | (with_reducible first | exact HB.out | apply zA | apply zN | apply zD | refine zS ?_ GEgb1.out | refine zS ?_ GEgb4.out | refine zS ?_ GEgb8.out) | exact HB.out)))); clear BKgb1 BKgb4 BKgb8 HB; have BKgb1 := n_BKgb1; have BKgb4 := n_BKgb4; have BKgb8 := n_BKgb8; have HB := n_HB; clear n_BKgb1 n_BKgb4 n_BKgb8 n_HB; have HOho19 := n_HOho19; clear n_HOho19 ho19; clear hb; obtain ⟨Aov18, cov18, eov18⟩ := Kd.R_slice HOho19.out; subst eov18; have hcq20_0 : w_17.cell? ⟨gb1, 0, none⟩ = some (.slice A0_0 l0_0.length c0_0) := (yC BKgb1.out 0).trans rfl; have hfq20_0 := yZ BKgb1.out 0; have hcq20_1 : w_17.cell? ⟨gb1, 1, none⟩ = some (.slice A0_1 l0_1.length c0_1) := (yC BKgb1.out 1).trans rfl; have hfq20_1 := yZ BKgb1.out 1; have hcq21_0 : w_17.cell? ⟨gb4, 0, none⟩ = some (.slice A1 l1.length c1) := (yC BKgb4.out 0).trans rfl; have hfq21_0 := yZ BKgb4.out 0; have hcq22_0 : w_17.cell? ⟨gb8, 0, none⟩ = some (.slice none 0 0) := (yC BKgb8.out 0).trans rfl; have hfq22_0 := yZ BKgb8.out 0; have hcq22_1 : w_17.cell? ⟨gb8, 1, none⟩ = some (.slice none 0 0) := (yC BKgb8.out 1).trans rfl; have hfq22_1 := yZ BKgb8.out 1))
   refine bodyPost_ret (results_ct rfl _ _ gb8 30 #[.slice Aov18 (t1).length cov18, .slice none 0 0] (0, 0) _ rfl (by (with_reducible repeat (first | refine yN ?_ _ | refine yD ?_ | refine yA ?_ _)); refine yP (cs := #[.slice Aov18 (t1).length cov18, .slice none 0 0]) ?_ 1 _ rfl; (with_reducible repeat (first | refine yN ?_ _ | refine yD ?_ | refine yA ?_ _)); refine yP (cs := #[.slice none 0 0, .slice none 0 0]) ?_ 0 _ rfl; (with_reducible repeat (first | refine yN ?_ _ | refine yD ?_ | refine yA ?_ _)); exact BKgb8.out) Try.underlying30 rfl (by kernel_rfl)) rfl ?_
   exact ⟨_, _, rfl, by (with_reducible repeat (first | apply xA | apply xN | apply xD)); exact xM (xF (p := ⟨gb8, 1, none⟩) (xF (p := ⟨gb8, 0, none⟩) (xT HOho19.out BKgb8.out (by decide)) (fun _ hk => hk.2) (.slice Aov18 (t1).length cov18)) (fun _ hk => hk.2) (.slice none 0 0)) (fun _ hk => trivial), Kd.R_nil _ _ _ _ _, by repeat (first | (with_reducible first | exact HB.out | apply zA | apply zN | apply zD | refine zS ?_ GEgb1.out | refine zS ?_ GEgb4.out | refine zS ?_ GEgb8.out) | exact HB.out)⟩
  ·rw [if_neg hn] at h
   simp only [Option.some.injEq, Prod.mk.injEq] at h
   obtain ⟨rfl, rfl, rfl⟩ := h
   have dn : (l1.length != l0_1.length) = true := by simpa using hn
   have dn2 : (((l1.length : Int)) != (l0_1.length : Int)) = true := by simp; omega
   clear hn
   go_enter Try.func32, Try.ntmps32
   go_wp2_with (first | ((with_reducible refine gate_dst (N := 2) rfl ?_); refine box_event ?hg (N := 2) ?hd (cs := #[.slice A0_0 l0_0.length c0_0, .slice A0_1 l0_1.length c0_1]) (t := 30) ?hr ?_; (case hd => rfl); (case hg => rfl); (case hr => first | (go_simp; done) | (go_simp; rfl)); intro gb1 hg w_2 hbox hb; have n_HB := aM (zT (by repeat (first | (with_reducible first | exact HB.out | apply zA | apply zN | apply zD) | exact HB.out)) hb); have n_GE := aM ((by rw [hg]; exact (zZ (by repeat (first | (with_reducible first | exact HB.out | apply zA | apply zN | apply zD) | exact HB.out)))) : w.heap.size ≤ gb1); clear HB; have HB := n_HB; clear n_HB; have BKgb1 := aM hbox; have GEgb1 := n_GE; clear n_GE; have hcq3_0 : w_2.cell? ⟨gb1, 0, none⟩ = some (.slice A0_0 l0_0.length c0_0) := (yC BKgb1.out 0).trans rfl; have hfq3_0 := yZ BKgb1.out 0; have hcq3_1 : w_2.cell? ⟨gb1, 1, none⟩ = some (.slice A0_1 l0_1.length c0_1) := (yC BKgb1.out 1).trans rfl; have hfq3_1 := yZ BKgb1.out 1; clear hbox hb hg) | ((with_reducible refine gate_dst (N := 3) rfl ?_); refine box_event ?hg (N := 3) ?hd (cs := #[.slice A1 l1.length c1]) (t := 47) ?hr ?_; (case hd => rfl); (case hg => rfl); (case hr => first | (go_simp; done) | (go_simp; rfl)); intro gb4 hg w_5 hbox hb; have n_BKgb1 := aM (yB (g := gb1) (o := (.cells #[.slice A0_0 l0_0.length c0_0, .slice A0_1 l0_1.length c0_1] 30 (0, 0))) (by (with_reducible repeat (first | refine yN ?_ _ | refine yD ?_ | refine yA ?_ _)); exact BKgb1.out) hb); have n_HB := aM (zT (by repeat (first | (with_reducible first | exact HB.out | apply zA | apply zN | apply zD | refine zS ?_ GEgb1.out) | exact HB.out)) hb); have n_GE := aM ((by rw [hg]; exact (zZ (by repeat (first | (with_reducible first | exact HB.out | apply zA | apply zN | apply zD | refine zS ?_ GEgb1.out) | exact HB.out)))) : w.heap.size ≤ gb4); have n_NAgb1 := aM ((by rw [hg]; exact Nat.ne_of_lt (blk_lt (g := gb1) (o := (.cells #[.slice A0_0 l0_0.length c0_0, .slice A0_1 l0_1.length c0_1] 30 (0, 0))) (by (with_reducible repeat (first | refine yN ?_ _ | refine yD ?_ | refine yA ?_ _)); exact BKgb1.out))) : gb1 ≠ gb4); clear BKgb1 HB; have BKgb1 := n_BKgb1; have HB := n_HB; clear n_BKgb1 n_HB; have BKgb4 := aM hbox; have GEgb4 := n_GE; clear n_GE; have hnegb1_gb4 := n_NAgb1.out; have hnfgb1_gb4 : gb4 ≠ gb1 := fun h => n_NAgb1.out h.symm; clear n_NAgb1; have hcq6_0 : w_5.cell? ⟨gb1, 0, none⟩ = some (.slice A0_0 l0_0.length c0_0) := (yC BKgb1.out 0).trans rfl; have hfq6_0 := yZ BKgb1.out 0; have hcq6_1 : w_5.cell? ⟨gb1, 1, none⟩ = some (.slice A0_1 l0_1.length c0_1) := (yC BKgb1.out 1).trans rfl; have hfq6_1 := yZ BKgb1.out 1; have hcq7_0 : w_5.cell? ⟨gb4, 0, none⟩ = some (.slice A1 l1.length c1) := (yC BKgb4.out 0).trans rfl; have hfq7_0 := yZ BKgb4.out 0; clear hbox hb hg) | ((with_reducible refine gate_dst (N := 4) rfl ?_); refine box_event ?hg (N := 4) ?hd (cs := #[.slice none 0 0, .slice none 0 0]) (t := 30) ?hr ?_; (case hd => rfl); (case hg => rfl); (case hr => first | (go_simp; done) | (go_simp; rfl)); intro gb8 hg w_9 hbox hb; have n_BKgb1 := aM (yB (g := gb1) (o := (.cells #[.slice A0_0 l0_0.length c0_0, .slice A0_1 l0_1.length c0_1] 30 (0, 0))) (by (with_reducible repeat (first | refine yN ?_ _ | refine yD ?_ | refine yA ?_ _)); exact BKgb1.out) hb); have n_BKgb4 := aM (yB (g := gb4) (o := (.cells #[.slice A1 l1.length c1] 47 (0, 0))) (by (with_reducible repeat (first | refine yN ?_ _ | refine yD ?_ | refine yA ?_ _)); exact BKgb4.out) hb); have n_HB := aM (zT (by repeat (first | (with_reducible first | exact HB.out | apply zA | apply zN | apply zD | refine zS ?_ GEgb1.out | refine zS ?_ GEgb4.out) | exact HB.out)) hb); have n_GE := aM ((by rw [hg]; exact (zZ (by repeat (first | (with_reducible first | exact HB.out | apply zA | apply zN | apply zD | refine zS ?_ GEgb1.out | refine zS ?_ GEgb4.out) | exact HB.out)))) : w.heap.size ≤ gb8); have n_NAgb1 := aM ((by rw [hg]; exact Nat.ne_of_lt (blk_lt (g := gb1) (o := (.cells #[.slice A0_0 l0_0.length c0_0, .slice A0_1 l0_1.length c0_1] 30 (0, 0))) (by (with_reducible repeat (first | refine yN ?_ _ | refine yD ?_ | refine yA ?_ _)); exact BKgb1.out))) : gb1 ≠ gb8); have n_NAgb4 := aM ((by rw [hg]; exact Nat.ne_of_lt (blk_lt (g := gb4) (o := (.cells #[.slice A1 l1.length c1] 47 (0, 0))) (by (with_reducible repeat (first | refine yN ?_ _ | refine yD ?_ | refine yA ?_ _)); exact BKgb4.out))) : gb4 ≠ gb8); clear BKgb1 BKgb4 HB; have BKgb1 := n_BKgb1; have BKgb4 := n_BKgb4; have HB := n_HB; clear n_BKgb1 n_BKgb4 n_HB; have BKgb8 := aM hbox; have GEgb8 := n_GE; clear n_GE; have hnegb1_gb8 := n_NAgb1.out; have hnfgb1_gb8 : gb8 ≠ gb1 := fun h => n_NAgb1.out h.symm; clear n_NAgb1; have hnegb4_gb8 := n_NAgb4.out; have hnfgb4_gb8 : gb8 ≠ gb4 := fun h => n_NAgb4.out h.symm; clear n_NAgb4; have hcq10_0 : w_9.cell? ⟨gb1, 0, none⟩ = some (.slice A0_0 l0_0.length c0_0) := (yC BKgb1.out 0).trans rfl; have hfq10_0 := yZ BKgb1.out 0; have hcq10_1 : w_9.cell? ⟨gb1, 1, none⟩ = some (.slice A0_1 l0_1.length c0_1) := (yC BKgb1.out 1).trans rfl; have hfq10_1 := yZ BKgb1.out 1; have hcq11_0 : w_9.cell? ⟨gb4, 0, none⟩ = some (.slice A1 l1.length c1) := (yC BKgb4.out 0).trans rfl; have hfq11_0 := yZ BKgb4.out 0; have hcq12_0 : w_9.cell? ⟨gb8, 0, none⟩ = some (.slice none 0 0) := (yC BKgb8.out 0).trans rfl; have hfq12_0 := yZ BKgb8.out 0; have hcq12_1 : w_9.cell? ⟨gb8, 1, none⟩ = some (.slice none 0 0) := (yC BKgb8.out 1).trans rfl; have hfq12_1 := yZ BKgb8.out 1; clear hbox hb hg) | (go_at_call 16; go_loud (refine (impl_GoodDevice.calls _ c0_0 l0_0 _ c0_1 l0_1 _ _ ?s1 HC0_0.out ?s2 HC0_1.out HG.out).mono ?_); (case s1 => exact (cB HR0_0.out (by repeat (first | (with_reducible first | exact HB.out | apply zA | apply zN | apply zD | refine zS ?_ GEgb1.out | refine zS ?_ GEgb4.out | refine zS ?_ GEgb8.out) | exact HB.out)))); (case s2 => exact (cB HR0_1.out (by repeat (first | (with_reducible first | exact HB.out | apply zA | apply zN | apply zD | refine zS ?_ GEgb1.out | refine zS ?_ GEgb4.out | refine zS ?_ GEgb8.out) | exact HB.out)))); rintro e w_13 ⟨rfl, hb⟩; have n_BKgb1 := aM (yB (g := gb1) (o := (.cells #[.slice A0_0 l0_0.length c0_0, .slice A0_1 l0_1.length c0_1] 30 (0, 0))) (by (with_reducible repeat (first | refine yN ?_ _ | refine yD ?_ | refine yA ?_ _)); exact BKgb1.out) hb); have n_BKgb4 := aM (yB (g := gb4) (o := (.cells #[.slice A1 l1.length c1] 47 (0, 0))) (by (with_reducible repeat (first | refine yN ?_ _ | refine yD ?_ | refine yA ?_ _)); exact BKgb4.out) hb); have n_BKgb8 := aM (yB (g := gb8) (o := (.cells #[.slice none 0 0, .slice none 0 0] 30 (0, 0))) (by (with_reducible repeat (first | refine yN ?_ _ | refine yD ?_ | refine yA ?_ _)); exact BKgb8.out) hb); have n_HB := aM (zT (by repeat (first | (with_reducible first | exact HB.out | apply zA | apply zN | apply zD | refine zS ?_ GEgb1.out | refine zS ?_ GEgb4.out | refine zS ?_ GEgb8.out) | exact HB.out)) hb); clear BKgb1 BKgb4 BKgb8 HB; have BKgb1 := n_BKgb1; have BKgb4 := n_BKgb4; have BKgb8 := n_BKgb8; have HB := n_HB; clear n_BKgb1 n_BKgb4 n_BKgb8 n_HB; clear hb; have hcq14_0 : w_13.cell? ⟨gb1, 0, none⟩ = some (.slice A0_0 l0_0.length c0_0) := (yC BKgb1.out 0).trans rfl; have hfq14_0 := yZ BKgb1.out 0; have hcq14_1 : w_13.cell? ⟨gb1, 1, none⟩ = some (.slice A0_1 l0_1.length c0_1) := (yC BKgb1.out 1).trans rfl; have hfq14_1 := yZ BKgb1.out 1; have hcq15_0 : w_13.cell? ⟨gb4, 0, none⟩ = some (.slice A1 l1.length c1) := (yC BKgb4.out 0).trans rfl; have hfq15_0 := yZ BKgb4.out 0; have hcq16_0 : w_13.cell? ⟨gb8, 0, none⟩ = some (.slice none 0 0) := (yC BKgb8.out 0).trans rfl; have hfq16_0 := yZ BKgb8.out 0; have hcq16_1 : w_13.cell? ⟨gb8, 1, none⟩ = some (.slice none 0 0) := (yC BKgb8.out 1).trans rfl; have hfq16_1 := yZ BKgb8.out 1))
   refine bodyPost_ret (results_ct rfl _ _ gb8 30 #[.slice none 0 0, .slice none 0 0] (0, 0) _ rfl (by (with_reducible repeat (first | refine yN ?_ _ | refine yD ?_ | refine yA ?_ _)); refine yP (cs := #[.slice none 0 0, .slice none 0 0]) ?_ 1 _ rfl; (with_reducible repeat (first | refine yN ?_ _ | refine yD ?_ | refine yA ?_ _)); refine yP (cs := #[.slice none 0 0, .slice none 0 0]) ?_ 0 _ rfl; (with_reducible repeat (first | refine yN ?_ _ | refine yD ?_ | refine yA ?_ _)); exact BKgb8.out) Try.underlying30 rfl (by kernel_rfl)) rfl ?_
   exact ⟨_, _, rfl, Kd.R_nil _ _ _ _ _, Kd.R_nil _ _ _ _ _, by repeat (first | (with_reducible first | exact HB.out | apply zA | apply zN | apply zD | refine zS ?_ GEgb1.out | refine zS ?_ GEgb4.out | refine zS ?_ GEgb8.out) | exact HB.out)⟩
 ·rw [if_neg hg] at h
  simp only [Option.some.injEq, Prod.mk.injEq] at h
  obtain ⟨rfl, rfl, rfl⟩ := h
  have hg' : goodD l0_0 l0_1 = false := by simpa using hg
  have HG : Aside0 (impl_GoodDevice.f l0_0 l0_1 = some false) := ⟨by rw [← hg']; rfl⟩
  clear hg hg'
  go_enter Try.func32, Try.ntmps32
  go_wp2_with (first | ((with_reducible refine gate_dst (N := 2) rfl ?_); refine box_event ?hg (N := 2) ?hd (cs := #[.slice A0_0 l0_0.length c0_0, .slice A0_1 l0_1.length c0_1]) (t := 30) ?hr ?_; (case hd => rfl); (case hg => rfl); (case hr => first | (go_simp; done) | (go_simp; rfl)); intro gb1 hg w_2 hbox hb; have n_HB := aM (zT (by repeat (first | (with_reducible first | exact HB.out | apply zA | apply zN | apply zD) | exact HB.out)) hb); have n_GE := aM ((by rw [hg]; exact (zZ (by repeat (first | (with_reducible first | exact HB.out | apply zA | apply zN | apply zD) | exact HB.out)))) : w.heap.size ≤ gb1); clear HB; have HB := n_HB; clear n_HB; have BKgb1 := aM hbox; have GEgb1 := n_GE; clear n_GE; have hcq3_0 : w_2.cell? ⟨gb1, 0, none⟩ = some (.slice A0_0 l0_0.length c0_0) := (yC BKgb1.out 0).trans rfl; have hfq3_0 := yZ BKgb1.out 0; have hcq3_1 : w_2.cell? ⟨gb1, 1, none⟩ = some (.slice A0_1 l0_1.length c0_1) := (yC BKgb1.out 1).trans rfl; have hfq3_1 := yZ BKgb1.out 1; clear hbox hb hg) | ((with_reducible refine gate_dst (N := 3) rfl ?_); refine box_event ?hg (N := 3) ?hd (cs := #[.slice A1 l1.length c1]) (t := 47) ?hr ?_; (case hd => rfl); (case hg => rfl); (case hr => first | (go_simp; done) | (go_simp; rfl)); intro gb4 hg w_5 hbox hb; have n_BKgb1 := aM (yB (g := gb1) (o := (.cells #[.slice A0_0 l0_0.length c0_0, .slice A0_1 l0_1.length c0_1] 30 (0, 0))) (by (with_reducible repeat (first | refine yN ?_ _ | refine yD ?_ | refine yA ?_ _)); exact BKgb1.out) hb); have n_HB := aM (zT (by repeat (first | (with_reducible first | exact HB.out | apply zA | apply zN | apply zD | refine zS ?_ GEgb1.out) | exact HB.out)) hb); have n_GE := aM ((by rw [hg]; exact (zZ (by repeat (first | (with_reducible first | exact HB.out | apply zA | apply zN | apply zD | refine zS ?_ GEgb1.out) | exact HB.out)))) : w.heap.size ≤ gb4); have n_NAgb1 := aM ((by rw [hg]; exact Nat.ne_of_lt (blk_lt (g := gb1) (o := (.cells #[.slice A0_0 l0_0.length c0_0, .slice A0_1 l0_1.length c0_1] 30 (0, 0))) (by (with_reducible repeat (first | refine yN ?_ _ | refine yD ?_ | refine yA ?_ _)); exact BKgb1.out))) : gb1 ≠ gb4); clear BKgb1 HB; have BKgb1 := n_BKgb1; have HB := n_HB; clear n_BKgb1 n_HB; have BKgb4 := aM hbox; have GEgb4 := n_GE; clear n_GE; have hnegb1_gb4 := n_NAgb1.out; have hnfgb1_gb4 : gb4 ≠ gb1 := fun h => n_NAgb1.out h.symm; clear n_NAgb1; have hcq6_0 : w_5.cell? ⟨gb1, 0, none⟩ = some (.slice A0_0 l0_0.length c0_0) := (yC BKgb1.out 0).trans rfl; have hfq6_0 := yZ BKgb1.out 0; have hcq6_1 : w_5.cell? ⟨gb1, 1, none⟩ = some (.slice A0_1 l0_1.length c0_1) := (yC BKgb1.out 1).trans rfl; have hfq6_1 := yZ BKgb1.out 1; have hcq7_0 : w_5.cell? ⟨gb4, 0, none⟩ = some (.slice A1 l1.length c1) := (yC BKgb4.out 0).trans rfl; have hfq7_0 := yZ BKgb4.out 0; clear hbox hb hg) | ((with_reducible refine gate_dst (N := 4) rfl ?_); refine box_event ?hg (N := 4) ?hd (cs := #[.slice none 0 0, .slice none 0 0]) (t := 30) ?hr ?_; (case hd => rfl); (case hg => rfl); (case hr => first | (go_simp; done) | (go_simp; rfl)); intro gb8 hg w_9 hbox hb; have n_BKgb1 := aM (yB (g := gb1) (o := (.cells #[.slice A0_0 l0_0.length c0_0, .slice A0_1 l0_1.length c0_1] 30 (0, 0))) (by (with_reducible repeat (first | refine yN ?_ _ | refine yD ?_ | refine yA ?_ _)); exact BKgb1.out) hb); have n_BKgb4 := aM (yB (g := gb4) (o := (.cells #[.slice A1 l1.length c1] 47 (0, 0))) (by (with_reducible repeat (first | refine yN ?_ _ | refine yD ?_ | refine yA ?_ _)); exact BKgb4.out) hb); have n_HB := aM (zT (by repeat (first | (with_reducible first | exact HB.out | apply zA | apply zN | apply zD | refine zS ?_ GEgb1.out | refine zS ?_ GEgb4.out) | exact HB.out)) hb); have n_GE := aM ((by rw [hg]; exact (zZ (by repeat (first | (with_reducible first | exact HB.out | apply zA | apply zN | apply zD | refine zS ?_ GEgb1.out | refine zS ?_ GEgb4.out) | exact HB.out)))) : w.heap.size ≤ gb8); have n_NAgb1 := aM ((by rw [hg]; exact Nat.ne_of_lt (blk_lt (g := gb1) (o := (.cells #[.slice A0_0 l0_0.length c0_0, .slice A0_1 l0_1.length c0_1] 30 (0, 0))) (by (with_reducible repeat (first | refine yN ?_ _ | refine yD ?_ | refine yA ?_ _)); exact BKgb1.out))) : gb1 ≠ gb8); have n_NAgb4 := aM ((by rw [hg]; exact Nat.ne_of_lt (blk_lt (g := gb4) (o := (.cells #[.slice A1 l1.length c1] 47 (0, 0))) (by (with_reducible repeat (first | refine yN ?_ _ | refine yD ?_ | refine yA ?_ _)); exact BKgb4.out))) : gb4 ≠ gb8); clear BKgb1 BKgb4 HB; have BKgb1 := n_BKgb1; have BKgb4 := n_BKgb4; have HB := n_HB; clear n_BKgb1 n_BKgb4 n_HB; have BKgb8 := aM hbox; have GEgb8 := n_GE; clear n_GE; have hnegb1_gb8 := n_NAgb1.out; have hnfgb1_gb8 : gb8 ≠ gb1 := fun h => n_NAgb1.out h.symm; clear n_NAgb1; have hnegb4_gb8 := n_NAgb4.out; have hnfgb4_gb8 : gb8 ≠ gb4 := fun h => n_NAgb4.out h.symm; clear n_NAgb4; have hcq10_0 : w_9.cell? ⟨gb1, 0, none⟩ = some (.slice A0_0 l0_0.length c0_0) := (yC BKgb1.out 0).trans rfl; have hfq10_0 := yZ BKgb1.out 0; have hcq10_1 : w_9.cell? ⟨gb1, 1, none⟩ = some (.slice A0_1 l0_1.length c0_1) := (yC BKgb1.out 1).trans rfl; have hfq10_1 := yZ BKgb1.out 1; have hcq11_0 : w_9.cell? ⟨gb4, 0, none⟩ = some (.slice A1 l1.length c1) := (yC BKgb4.out 0).trans rfl; have hfq11_0 := yZ BKgb4.out 0; have hcq12_0 : w_9.cell? ⟨gb8, 0, none⟩ = some (.slice none 0 0) := (yC BKgb8.out 0).trans rfl; have hfq12_0 := yZ BKgb8.out 0; have hcq12_1 : w_9.cell? ⟨gb8, 1, none⟩ = some (.slice none 0 0) := (yC BKgb8.out 1).trans rfl; have hfq12_1 := yZ BKgb8.out 1; clear hbox hb hg) | (go_at_call 16; go_loud (refine (impl_GoodDevice.calls _ c0_0 l0_0 _ c0_1 l0_1 _ _ ?s1 HC0_0.out ?s2 HC0_1.out HG.out).mono ?_); (case s1 => exact (cB HR0_0.out (by repeat (first | (with_reducible first | exact HB.out | apply zA | apply zN | apply zD | refine zS ?_ GEgb1.out | refine zS ?_ GEgb4.out | refine zS ?_ GEgb8.out) | exact HB.out)))); (case s2 => exact (cB HR0_1.out (by repeat (first | (with_reducible first | exact HB.out | apply zA | apply zN | apply zD | refine zS ?_ GEgb1.out | refine zS ?_ GEgb4.out | refine zS ?_ GEgb8.out) | exact HB.out)))); rintro e w_13 ⟨rfl, hb⟩; have n_BKgb1 := aM (yB (g := gb1) (o := (.cells #[.slice A0_0 l0_0.length c0_0, .slice A0_1 l0_1.length c0_1] 30 (0, 0))) (by (with_reducible repeat (first | refine yN ?_ _ | refine yD ?_ | refine yA ?_ _)); exact BKgb1.out) hb); have n_BKgb4 := aM (yB (g := gb4) (o := (.cells #[.slice A1 l1.length c1] 47 (0, 0))) (by (with_reducible repeat (first | refine yN ?_ _ | refine yD ?_ | refine yA ?_ _)); exact BKgb4.out) hb); have n_BKgb8 := aM (yB (g := gb8) (o := (.cells #[.slice none 0 0, .slice none 0 0] 30 (0, 0))) (by (with_reducible repeat (first | refine yN ?_ _ | refine yD ?_ | refine yA ?_ _)); exact BKgb8.out) hb); have n_HB := aM (zT (by repeat (first | (with_reducible first | exact HB.out | apply zA | apply zN | apply zD | refine zS ?_ GEgb1.out | refine zS ?_ GEgb4.out | refine zS ?_ GEgb8.out) | exact HB.out)) hb); clear BKgb1 BKgb4 BKgb8 HB; have BKgb1 := n_BKgb1; have BKgb4 := n_BKgb4; have BKgb8 := n_BKgb8; have HB := n_HB; clear n_BKgb1 n_BKgb4 n_BKgb8 n_HB; clear hb; have hcq14_0 : w_13.cell? ⟨gb1, 0, none⟩ = some (.slice A0_0 l0_0.length c0_0) := (yC BKgb1.out 0).trans rfl; have hfq14_0 := yZ BKgb1.out 0; have hcq14_1 : w_13.cell? ⟨gb1, 1, none⟩ = some (.slice A0_1 l0_1.length c0_1) := (yC BKgb1.out 1).trans rfl; have hfq14_1 := yZ BKgb1.out 1; have hcq15_0 : w_13.cell? ⟨gb4, 0, none⟩ = some (.slice A1 l1.length c1) := (yC BKgb4.out 0).trans rfl; have hfq15_0 := yZ BKgb4.out 0; have hcq16_0 : w_13.cell? ⟨gb8, 0, none⟩ = some (.slice none 0 0) := (yC BKgb8.out 0).trans rfl; have hfq16_0 := yZ BKgb8.out 0; have hcq16_1 : w_13.cell? ⟨gb8, 1, none⟩ = some (.slice none 0 0) := (yC BKgb8.out 1).trans rfl; have hfq16_1 := yZ BKgb8.out 1))
  refine bodyPost_ret (results_ct rfl _ _ gb8 30 #[.slice none 0 0, .slice none 0 0] (0, 0) _ rfl (by (with_reducible repeat (first | refine yN ?_ _ | refine yD ?_ | refine yA ?_ _)); refine yP (cs := #[.slice none 0 0, .slice none 0 0]) ?_ 1 _ rfl; (with_reducible repeat (first | refine yN ?_ _ | refine yD ?_ | refine yA ?_ _)); refine yP (cs := #[.slice none 0 0, .slice none 0 0]) ?_ 0 _ rfl; (with_reducible repeat (first | refine yN ?_ _ | refine yD ?_ | refine yA ?_ _)); exact BKgb8.out) Try.underlying30 rfl (by kernel_rfl)) rfl ?_
  exact ⟨_, _, rfl, Kd.R_nil _ _ _ _ _, Kd.R_nil _ _ _ _ _, by repeat (first | (with_reducible first | exact HB.out | apply zA | apply zN | apply zD | refine zS ?_ GEgb1.out | refine zS ?_ GEgb4.out | refine zS ?_ GEgb8.out) | exact HB.out)⟩


/-! ### laws_eqBoolS: function 33 -/
def laws_eqBoolS.l0 : Nat → List Bool → List Bool → Int → Option (Bool)
 | 0, _, _, _ => none
 | k + 1, x0, x1, x5 => if x5 < (x0.length : Int) then (if 0 ≤ x5 then (if x5 < (x1.length : Int) then (if ((rdOf false x0 x5) != (rdOf false x1 x5)) = true then (some false) else (laws_eqBoolS.l0 k x0 x1 (wrap64 (x5 + 1)))) else (none)) else (none)) else (some true)
def laws_eqBoolS.f (k : Nat) (l0 : List Bool) (l1 : List Bool) : Option (Bool) := if (l0.length : Int) = (l1.length : Int) then (laws_eqBoolS.l0 k l0 l1 0) else (some false)
theorem laws_eqBoolS.mono_l : ∀ k, (∀ y0 y1 y2, LeO (laws_eqBoolS.l0 k y0 y1 y2) (laws_eqBoolS.l0 (k + 1) y0 y1 y2))
 | 0 => fun _ _ _ r h => by change none = some r at h; cases h
 | k + 1 => by
  have ih0 := laws_eqBoolS.mono_l k
  ·intro y0 y1 y2
   unfold laws_eqBoolS.l0
   repeat' first
   | (with_reducible exact ih0 _ _ _)
   | (with_reducible exact LeO.refl _)
   | (with_reducible exact LeO.none _)
   | (with_reducible refine LeO.ite ?_ ?_)
   | (with_reducible refine LeO.bind ?_ (fun _ => ?_))
   | exact ih0 _ _ _
   | exact LeO.none _
   | refine LeO.ite ?_ ?_
   | refine LeO.bind ?_ (fun _ => ?_)
theorem laws_eqBoolS.mono : ∀ a0 a1 k, LeO (laws_eqBoolS.f k a0 a1) (laws_eqBoolS.f (k + 1) a0 a1) := by
 intro a0 a1 k
 have ih0 := laws_eqBoolS.mono_l k
 unfold laws_eqBoolS.f
 repeat' first
   | (with_reducible exact ih0 _ _ _)
   | (with_reducible exact LeO.refl _)
   | (with_reducible exact LeO.none _)
   | (with_reducible refine LeO.ite ?_ ?_)
   | (with_reducible refine LeO.bind ?_ (fun _ => ?_))
   | exact ih0 _ _ _
   | exact LeO.none _
   | refine LeO.ite ?_ ?_
   | refine LeO.bind ?_ (fun _ => ?_)
set_option maxHeartbeats 8000000 in
set_option maxRecDepth 100000 in
theorem laws_eqBoolS.calls (k : Nat) (A0 : Option Addr) (c0 : Nat) (l0 : List Bool) (A1 : Option Addr) (c1 : Nat) (l1 : List Bool) (r : Bool) (w : World) (hr0 : Kd.C Kd.bool w A0 l0.length l0) (hc0 : l0.length ≤ c0) (hr1 : Kd.C Kd.bool w A1 l1.length l1) (hc1 : l1.length ≤ c1) (h : laws_eqBoolS.f k l0 l1 = some r) :
  Calls Try.prog 33 #[.slice A0 l0.length c0, .slice A1 l1.length c1] w fun e w' => e = .returned (.bool r) ∧ Drawn0 w w' := by
 have HR0 := aM hr0
 have HC0 := aM hc0
 clear hr0 hc0
 have HR1 := aM hr1
 have HC1 := aM hc1
 clear hr1 hc1
 have H : (if (l0.length : Int) = (l1.length : Int) then (laws_eqBoolS.l0 k l0 l1 0) else (some false)) = some r := h
 clear h
 by_cases c3 : (l0.length : Int) = (l1.length : Int)
 ·rw [if_pos c3] at H
  have c3b0 : ((l0.length : Int) == (l1.length : Int)) = true := beq_iff_eq.mpr c3
  have c3b1 : ((l0.length : Int) != (l1.length : Int)) = false := bne_eq_false_iff_eq.mpr c3
  have c3b2 : (l0.length == l1.length) = true := by first | simpa using c3 | (simp at c3 ⊢; omega)
  clear c3
  have H' := aM H
  clear H
  go_enter Try.func33, Try.ntmps33
  go_wp2
  repeat (go_quiet (fail); try go_wp2)
  go_loopg [5] k (fun kq v5 w' => ∃ (x5_1 : Int), v5 = .int .i64 x5_1 ∧ Aside0 (laws_eqBoolS.l0 kq l0 l1 x5_1 = some r) ∧ Aside0 (kq ≤ k) ∧ Drawn0 w w')
  case atStart => exact ⟨(0), (by first | rfl | (simp; done) | (simp [*]; done)), H', ⟨Nat.le_refl _⟩, by repeat (first | exact Drawn0.refl _ | apply Drawn0.step)⟩
  case round =>
   clear H'
   try clear c1
   try clear p2
   try clear c3
   try clear c3b0
   try clear c3b1
   try clear c3b2
   obtain ⟨x5_1, rfl, HA, HK1, ⟨m1, rfl⟩⟩ := hrel
   cases gk with
   | zero => exact absurd HA.out (fun h_ => by change none = some _ at h_; cases h_)
   | succ k1 =>
    have H := HA.out
    clear HA
    simp only [laws_eqBoolS.l0] at H
    by_cases c4 : x5_1 < (l0.length : Int)
    ·rw [if_pos c4] at H
     have c4b0 : decide (x5_1 < (l0.length : Int)) = true := decide_eq_true c4
     clear c4
     by_cases c5 : 0 ≤ x5_1
     ·rw [if_pos c5] at H
      have c5b0 : decide (0 ≤ x5_1) = true := decide_eq_true c5
      clear c5
      by_cases c6 : x5_1 < (l1.length : Int)
      ·rw [if_pos c6] at H
       have c6b0 : decide (x5_1 < (l1.length : Int)) = true := decide_eq_true c6
       clear c6
       by_cases c7 : ((rdOf false l0 x5_1) != (rdOf false l1 x5_1)) = true
       ·rw [if_pos c7] at H
        have c7b0 : ((rdOf false l0 x5_1) != (rdOf false l1 x5_1)) = true := c7
        (try (have c7b1 : decide ((rdOf false l0 x5_1) = (rdOf false l1 x5_1)) = false := by simpa using c7))
        (try (have c7b2 : ((rdOf false l0 x5_1) == (rdOf false l1 x5_1)) = false := by simpa using c7))
        (try (have c7b3 : ¬ ((rdOf false l0 x5_1) = (rdOf false l1 x5_1)) := by simpa using c7))
        clear c7
        obtain rfl := Option.some.inj H
        have p201 : 0 ≤ (x5_1 : Int) := of_decide_eq_true (by first | (with_reducible assumption) | assumption)
        have q201 : x5_1 < (l0.length : Int) := of_decide_eq_true (by first | (with_reducible assumption) | assumption)
        obtain ⟨ad201, e201, hx201_0⟩ := Kd.at_bool HR0.out x5_1 p201 q201
        cases e201
        replace p201 := eq_true p201
        replace q201 := eq_true q201
        have p202 : 0 ≤ (x5_1 : Int) := of_decide_eq_true (by first | (with_reducible assumption) | assumption)
        have q202 : x5_1 < (l1.length : Int) := of_decide_eq_true (by first | (with_reducible assumption) | assumption)
        obtain ⟨ad202, e202, hx202_0⟩ := Kd.at_bool HR1.out x5_1 p202 q202
        cases e202
        replace p202 := eq_true p202
        replace q202 := eq_true q202
        go_wp2
        repeat (go_quiet (fail); try go_wp2)
        go_ret
        exact ⟨by first | rfl | (simp; done) | (simp [*]; done), by repeat (first | exact Drawn0.refl _ | apply Drawn0.step)⟩
       ·rw [if_neg c7] at H
        have c7b0 : ((rdOf false l0 x5_1) != (rdOf false l1 x5_1)) = false := by simpa using c7
        (try (have c7b1 : decide ((rdOf false l0 x5_1) = (rdOf false l1 x5_1)) = true := by simpa using c7))
        (try (have c7b2 : ((rdOf false l0 x5_1) == (rdOf false l1 x5_1)) = true := by simpa using c7))
        clear c7
        have H' := aM H
        clear H
        have p201 : 0 ≤ (x5_1 : Int) := of_decide_eq_true (by first | (with_reducible assumption) | assumption)
        have q201 : x5_1 < (l0.length : Int) := of_decide_eq_true (by first | (with_reducible assumption) | assumption)
        obtain ⟨ad201, e201, hx201_0⟩ := Kd.at_bool HR0.out x5_1 p201 q201
        cases e201
        replace p201 := eq_true p201
        replace q201 := eq_true q201
        have p202 : 0 ≤ (x5_1 : Int) := of_decide_eq_true (by first | (with_reducible assumption) | assumption)
        have q202 : x5_1 < (l1.length : Int) := of_decide_eq_true (by first | (with_reducible assumption) | assumption)
        obtain ⟨ad202, e202, hx202_0⟩ := Kd.at_bool HR1.out x5_1 p202 q202
        cases e202
        replace p202 := eq_true p202
        replace q202 := eq_true q202
        go_wp2
        repeat (go_quiet (fail); try go_wp2)
        go_roundg k1
        case measure => have := HK1.out; omega
        case rel => exact ⟨(wrap64 (x5_1 + 1)), (by first | rfl | (simp; done) | (simp [*]; done)), H', ⟨by have := HK1.out; omega⟩, by repeat (first | exact Drawn0.refl _ | apply Drawn0.step)⟩
      ·rw [if_neg c6] at H
       exact absurd H (by simp)
     ·rw [if_neg c5] at H
      exact absurd H (by simp)
    ·rw [if_neg c4] at H
     have c4b0 : decide (x5_1 < (l0.length : Int)) = false := decide_eq_false c4
     clear c4
     obtain rfl := Option.some.inj H
     go_wp2
     repeat (go_quiet (fail); try go_wp2)
     go_ret
     exact ⟨by first | rfl | (simp; done) | (simp [*]; done), by repeat (first | exact Drawn0.refl _ | apply Drawn0.step)⟩
 ·rw [if_neg c3] at H
  have c3b0 : ((l0.length : Int) == (l1.length : Int)) = false := beq_eq_false_iff_ne.mpr c3
  have c3b1 : ((l0.length : Int) != (l1.length : Int)) = true := bne_iff_ne.mpr c3
  have c3b2 : (l0.length == l1.length) = false := by first | simpa using c3 | (simp at c3 ⊢; omega)
  obtain rfl := Option.some.inj H
  go_enter Try.func33, Try.ntmps33
  go_wp2
  repeat (go_quiet (fail); try go_wp2)
  go_ret
  exact ⟨by first | rfl | (simp; done) | (simp [*]; done), by repeat (first | exact Drawn0.refl _ | apply Drawn0.step)⟩

/-! ### laws_markBoolS: function 34 -/
def laws_markBoolS.l0 : Nat → List Bool → Int → Int → Option (Int × List Bool)
 | 0, _, _, _ => none
 | k + 1, x0, x1, x5 => if x5 < (x0.length : Int) then (if 0 ≤ x5 then (laws_markBoolS.l0 k (x0.set (x5 : Int).toNat ((Int.tmod x1 3) == 0)) (wrap64 (x1 + 1)) (wrap64 (x5 + 1))) else (none)) else (some (x1, x0))
def laws_markBoolS.f (k : Nat) (l0 : List Bool) (a1 : Int) : Option (Int × List Bool) := laws_markBoolS.l0 k l0 a1 0
theorem laws_markBoolS.mono_l : ∀ k, (∀ y0 y1 y2, LeO (laws_markBoolS.l0 k y0 y1 y2) (laws_markBoolS.l0 (k + 1) y0 y1 y2))
 | 0 => fun _ _ _ r h => by change none = some r at h; cases h
 | k + 1 => by
  have ih0 := laws_markBoolS.mono_l k
  ·intro y0 y1 y2
   unfold laws_markBoolS.l0
   repeat' first
   | (with_reducible exact ih0 _ _ _)
   | (with_reducible exact LeO.refl _)
   | (with_reducible exact LeO.none _)
   | (with_reducible refine LeO.ite ?_ ?_)
   | (with_reducible refine LeO.bind ?_ (fun _ => ?_))
   | exact ih0 _ _ _
   | exact LeO.none _
   | refine LeO.ite ?_ ?_
   | refine LeO.bind ?_ (fun _ => ?_)
theorem laws_markBoolS.mono : ∀ a0 a1 k, LeO (laws_markBoolS.f k a0 a1) (laws_markBoolS.f (k + 1) a0 a1) := by
 intro a0 a1 k
 have ih0 := laws_markBoolS.mono_l k
 unfold laws_markBoolS.f
 repeat' first
   | (with_reducible exact ih0 _ _ _)
   | (with_reducible exact LeO.refl _)
   | (with_reducible exact LeO.none _)
   | (with_reducible refine LeO.ite ?_ ?_)
   | (with_reducible refine LeO.bind ?_ (fun _ => ?_))
   | exact ih0 _ _ _
   | exact LeO.none _
   | refine LeO.ite ?_ ?_
   | refine LeO.bind ?_ (fun _ => ?_)
set_option maxHeartbeats 8000000 in
set_option maxRecDepth 100000 in
theorem laws_markBoolS.calls (k : Nat) (P0_ : Nat → Prop) (u9000_ : Value) (l0 : List Bool) (a1 : Int) (r1 : Int) (r2 : List Bool) (w0 w : World) (hB : Below w0.heap.size w0 w) (ho0 : Kd.R Kd.bool 4 w w0.heap.size P0_ u9000_ l0) (h : laws_markBoolS.f k l0 a1 = some (r1, r2)) :
  Calls Try.prog 34 #[u9000_, .int .i64 a1] w fun e w' => e = .returned (.int .i64 r1) ∧ Kd.R Kd.bool 4 w' w0.heap.size (fun k_ => (P0_ k_ ∨ w.heap.size ≤ k_)) u9000_ r2 ∧ Below w0.heap.size w0 w' ∧ Kept w w' (fun k_ => P0_ k_) := by
 have HO0 := aM (show Kd.R Kd.bool 4 w w0.heap.size (fun k_ => (P0_ k_ ∨ w.heap.size ≤ k_)) u9000_ l0 from xM ho0 (fun k_ hk => (.inl hk)))
 have HK := aM (Kept.refl w (fun k_ => P0_ k_))
 have HW0 := aM hB.size
 have HB := aM hB
 clear hB
 have H : (laws_markBoolS.l0 k l0 a1 0) = some (r1, r2) := h
 clear h
 have H' := aM H
 clear H
 go_enter Try.func34, Try.ntmps34
 go_wp2
 go_loopg [1, 5] k (fun kq v1 v5 w' => ∃ (x0_1 : List Bool) (x1_1 : Int) (x5_1 : Int), v1 = .int .i64 x1_1 ∧ v5 = .int .i64 x5_1 ∧ Aside0 (laws_markBoolS.l0 kq x0_1 x1_1 x5_1 = some (r1, r2)) ∧ Aside0 (kq ≤ k) ∧ Aside0 (Kd.R Kd.bool 4 w' w0.heap.size (fun k_ => (P0_ k_ ∨ w.heap.size ≤ k_)) u9000_ x0_1) ∧ Aside0 (Kept w w' (fun k_ => P0_ k_)) ∧ Aside0 (Below w0.heap.size w0 w'))
 case atStart => exact ⟨(l0), (a1), (0), (by first | rfl | (simp; done) | (simp [*]; done)), (by first | rfl | (simp; done) | (simp [*]; done)), H', ⟨Nat.le_refl _⟩, ⟨by (with_reducible repeat (first | apply xA | apply xN | apply xD)); exact HO0.out⟩, ⟨by repeat (first | (with_reducible first | exact HK.out | apply Kept.alloc | apply Kept.drewN | apply Kept.drew) | exact HK.out)⟩, ⟨by repeat (first | (with_reducible first | exact HB.out | apply zA | apply zN | apply zD) | exact HB.out)⟩⟩
 case round =>
  clear H'
  try clear p2
  obtain ⟨x0_1, x1_1, x5_1, rfl, rfl, HA, HK1, HO_0, HK, HB⟩ := hrel
  cases gk with
  | zero => exact absurd HA.out (fun h_ => by change none = some _ at h_; cases h_)
  | succ k1 =>
   have H := HA.out
   clear HA
   simp only [laws_markBoolS.l0] at H
   by_cases c3 : x5_1 < (x0_1.length : Int)
   ·rw [if_pos c3] at H
    have c3b0 : decide (x5_1 < (x0_1.length : Int)) = true := decide_eq_true c3
    clear c3
    by_cases c4 : 0 ≤ x5_1
    ·rw [if_pos c4] at H
     have c4b0 : decide (0 ≤ x5_1) = true := decide_eq_true c4
     clear c4
     obtain ⟨y203, hy203⟩ : ∃ y_ : List Bool, y_ = (x0_1.set (x5_1 : Int).toNat ((Int.tmod x1_1 3) == 0)) := ⟨_, rfl⟩
     replace H : (laws_markBoolS.l0 k1 y203 (wrap64 (x1_1 + 1)) (wrap64 (x5_1 + 1))) = some (r1, r2) := by first | (rw [hy203]; with_reducible exact H) | (have H2_ := (Option.bind_some _ _).symm.trans H; rw [hy203]; with_reducible exact H2_) | (have H2_ := (Option.bind_some _ _).symm.trans H; with_reducible exact H2_) | with_reducible exact H | (rw [hy203]; exact H) | exact H
     have Ny203 := aM hy203
     clear hy203
     have H' := aM H
     clear H
     obtain ⟨Ao6, co6, eo6⟩ := Kd.R_slice HO_0.out
     subst eo6
     have p5 : 0 ≤ (x5_1 : Int) := of_decide_eq_true (by first | (with_reducible assumption) | assumption)
     have q5 : (x5_1 : Int) < ((x0_1.length : Int) : Int) := of_decide_eq_true (by first | (with_reducible assumption) | assumption)
     obtain ⟨go5, co5, eo5, gb5, gl5, cl5, HG5⟩ := Kd.R_form HO_0.out (by omega)
     (first | cases eo5 | (injection eo5 with ea_ en_ ec_; (first | subst ea_ | (injection ea_ with ea_; subst ea_)); subst ec_; clear en_))
     have GB5 := aM gb5
     have GG5 := aM HG5
     clear gb5 gl5 HG5
     have HMgo5 := aM (show (P0_ go5 ∨ w.heap.size ≤ go5) from (HO_0.out.1 _ rfl))
     obtain ⟨hx5_0, hf5_0⟩ := Kd.R_celln false HO_0.out (x5_1 : Int) p5 q5
     replace p5 := eq_true p5
     replace q5 := eq_true q5
     have HP7 := Kd.R_putg HO_0.out (x5_1 : Int) ((Int.tmod x1_1 3) == 0)
     go_wp2_with (first | ((with_reducible refine gate_store (t := 4) (p := 17) rfl ?_); refine store_event (t := 4) (p := 17) (v := ?vo_w8) (w1 := (wr.setCell ⟨go5, (x5_1 : Int).toNat, none⟩ (.bool ((Int.tmod x1_1 3) == 0)))) ?hg ?ho ?hn ?hr ?_; (case ho => rfl); (case hg => rfl); (case hn => rfl); (case hr => first | (go_simp; done) | (go_simp; rfl)); intro w8 hw; have hg : wr.grownBy w8 (some go5) := (by rw [hw]; exact HP7.2); have hp_ : Kd.R Kd.bool 4 w8 w0.heap.size (fun k_ => (P0_ k_ ∨ w.heap.size ≤ k_)) (.slice (some ⟨go5, 0, none⟩) x0_1.length co6) y203 := (by rw [hw, Ny203.out]; exact HP7.1); clear HP7; have n0_ := aM (hp_); have n1_ := aM ((by rw [hw]; exact zS (HB.out) GB5.out : Below w0.heap.size w0 w8)); have n2_ := aM (Kept.of_grown (S := (fun k_ => P0_ k_)) hg (by repeat (first | (with_reducible first | exact HK.out | apply Kept.alloc | apply Kept.drewN | apply Kept.drew) | exact HK.out)) (fun k_ e_ => (HO_0.out.1 k_ e_))); clear HO_0; clear HB; clear HK; have HO_0 := n0_; have HB := n1_; have HK := n2_; clear n0_ n1_ n2_; clear hg hw hp_))
     go_roundg k1
     case measure => have := HK1.out; omega
     case rel => exact ⟨(y203), (wrap64 (x1_1 + 1)), (wrap64 (x5_1 + 1)), (by first | rfl | (simp; done) | (simp [*]; done)), (by first | rfl | (simp; done) | (simp [*]; done)), H', ⟨by have := HK1.out; omega⟩, ⟨by (with_reducible repeat (first | apply xA | apply xN | apply xD)); exact HO_0.out⟩, ⟨by repeat (first | (with_reducible first | exact HK.out | apply Kept.alloc | apply Kept.drewN | apply Kept.drew) | exact HK.out)⟩, ⟨by repeat (first | (with_reducible first | exact HB.out | apply zA | apply zN | apply zD) | exact HB.out)⟩⟩
    ·rw [if_neg c4] at H
     exact absurd H (by simp)
   ·rw [if_neg c3] at H
    have c3b0 : decide (x5_1 < (x0_1.length : Int)) = false := decide_eq_false c3
    (try have c3b8 : decide (x5_1 < (x0_2.length : Int)) = false := by rw [← hl0_2]; exact c3b0)
    clear c3
    simp only [Option.some.injEq, Prod.mk.injEq] at H
    obtain ⟨rfl, rfl⟩ := H
    obtain ⟨Ao9, co9, eo9⟩ := Kd.R_slice HO_0.out
    subst eo9
    go_wp2
    go_ret
    exact ⟨by first | rfl | (simp [errW_none, errW_some] <;> rfl) | (simp [*, errW_none, errW_some] <;> rfl), by (with_reducible repeat (first | apply xA | apply xN | apply xD)); exact HO_0.out, by repeat (first | (with_reducible first | exact HB.out | apply zA | apply zN | apply zD) | exact HB.out), by repeat (first | (with_reducible first | exact HK.out | apply Kept.alloc | apply Kept.drewN | apply Kept.drew) | exact HK.out)⟩

end Go.Proofs.Ytlhgkbleciokmaa.PFnExactCrashDevice
