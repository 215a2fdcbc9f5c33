/- The walks of FnExactPlayDevice: Go's calls come to what the Lean functions beside them say; no condition. -/
import Derived.Test.YtlhgkbleciokmaaQFnExactPlayDevicex0
import Derived.Test.YtlhgkbleciokmaaQFnExactPlayDevicex5
namespace Go.Proofs.Ytlhgkbleciokmaa.PFnExactPlayDevice
open Go.RowKit Go.Proofs.YtlhgkbleciokmaaW.PrintWords Go.Proofs.YtlhgkbleciokmaaW.PrintLast Go.Proofs.YtlhgkbleciokmaaW.PrintMore
attribute [local go_sem] max2_int min2_int max_two min_two max_three min_three max_four min_four   -- for this text's walks alone
set_option linter.unusedVariables false
set_option linter.unusedSimpArgs false
set_option maxRecDepth 100000

/-! ### impl_FlushDevice: function 29 (by hand) -/
/-! #### performed: the sectors behind those writes that are kept, whatever function says which -/
theorem clone_eq {l t : List ByteArray} (h : slices_Clone_string_string.f l = some t) : t = l := by
 unfold slices_Clone_string_string.f at h
 split at h
 ·exact (Option.some.inj h).symm
 ·cases h
def perfL (p : Int → Bool) : List S42 → Int → List ByteArray → Option (List ByteArray)
 | [], _, out => some out
 | s :: l, i, out => if p i = true then (if 0 ≤ s.f0 then (if s.f0 < (out.length : Int) then perfL p l (i + 1) (out.set s.f0.toNat s.f1) else none) else none) else perfL p l (i + 1) out
theorem perf_at (p : Int → Bool) (l : List S42) (i : Nat) (h : i < l.length) (out : List ByteArray) : perfL p (l.drop i) (i : Int) out = if p i = true then (if 0 ≤ (rd_T42 l (i : Int)).f0 then (if (rd_T42 l (i : Int)).f0 < (out.length : Int) then perfL p (l.drop (i + 1)) ((i + 1 : Nat) : Int) (out.set (rd_T42 l (i : Int)).f0.toNat (rd_T42 l (i : Int)).f1) else none) else none) else perfL p (l.drop (i + 1)) ((i + 1 : Nat) : Int) out := by
 rw [List.drop_eq_getElem_cons h, perfL]
 have e : rd_T42 l (i : Int) = l[i] := by simp [rd_T42, List.getD_eq_getElem?_getD, h]
 rw [e]; rfl
set_option maxHeartbeats 1000000 in
theorem performed_any (gf : Nat) (lb : Array Value) (p : Int → Bool) (A0 A1 : Option Addr) (c0 c1 : Nat) (l0 : List ByteArray) (l1 : List S42) (r : List ByteArray) (w : World)
  (hr0 : Kd.C Kd.string w A0 l0.length l0) (hc0 : l0.length ≤ c0) (hr1 : Kd.C k42 w A1 l1.length l1) (hlim : slices_Clone_string_string.f l0 = some l0)
  (eg : ∀ args w, (callFunc gf args).run Try.prog w = .ok (.enter gf args) w)
  (hk : ∀ (i : Nat) (W : World), i < l1.length → Below w.heap.size w W → Calls Try.prog gf (#[.int .i64 (i : Int)] ++ lb) W fun e w' => e = .returned (.bool (p i)) ∧ Below W.heap.size W w')
  (h : perfL p l1 0 l0 = some r) :
  Calls Try.prog 63 #[.agg #[.slice A0 l0.length c0, .slice A1 l1.length c1], .func (.func gf) #[] lb] w fun e w' => ∃ v0_ : Value, e = .returned v0_ ∧ Kd.R Kd.string 9 w' w.heap.size (fun _ => True) v0_ r ∧ Below w.heap.size w w' := by
 have HR0 := aM hr0
 have HR1 := aM hr1
 have HL := aM hlim
 have HK := aM hk
 have H := aM h
 have HC := aM hc0
 have hl1 := hr1.2.1
 clear hr0 hr1 hlim hk h hc0
 go_enter Try.func63, Try.ntmps63
 go_wp2_with (first | ((with_reducible refine gate_dst (N := 2) rfl ?_); refine box_event ?hg (N := 2) ?hd (cs := #[.slice A0 l0.length c0, .slice A1 l1.length c1]) (t := 30) ?hr ?_; (case hd => rfl); (case hg => rfl); (case hr => first | (go_simp; done) | (go_simp; rfl)); intro g2 hg2 w2 hb2 hbel; have HBL := aM hbel; have HB2 := aM hb2; have hcz0 : w2.cell? ⟨g2, 0, none⟩ = some (.slice A0 l0.length c0) := (yC hb2 0).trans rfl; have hcz1 : w2.cell? ⟨g2, 1, none⟩ = some (.slice A1 l1.length c1) := (yC hb2 1).trans rfl; clear hb2 hbel hg2) | (go_at_call 66; go_loud (refine (slices_Clone_string_string.calls _ c0 l0 l0 _ (cB HR0.out (by repeat (first | exact HBL.out | apply zA | apply zN | apply zD))) HC.out HL.out).mono ?_); rintro e w3 ⟨v3, rfl, hv3, hb3⟩; have HV := aM (xL hv3 (zZ HBL.out)); have hcz1' : w3.cell? ⟨g2, 1, none⟩ = some (.slice A1 l1.length c1) := (yC (yB (by repeat (first | exact HB2.out | apply yN)) hb3) 1).trans rfl; have HBL := aM (zT (by repeat (first | exact HBL.out | apply zA | apply zN | apply zD)) hb3); clear hv3 hb3))
 have HB := HBL
 have p0' := HV
 clear HV HBL HL HC
 go_loopw [14] (fun v14 w' => ∃ (i : Nat) (out : List ByteArray), i ≤ l1.length ∧ v14 = .int .i64 (i : Int) ∧ Aside0 (perfL p (l1.drop i) (i : Int) out = some r) ∧ Aside0 (Kd.R Kd.string 9 w' w.heap.size (fun _ => True) v3 out) ∧ Aside0 (Below w.heap.size w w')) (fun v14 w' => l1.length - (intOf v14).toNat)
 case atStart => exact ⟨0, l0, Nat.zero_le _, rfl, H, ⟨xH p0'.out⟩, ⟨zH HB.out⟩⟩
 case round =>
  clear H p0' HB
  obtain ⟨i, out, hi, rfl, H, p0', HB⟩ := hrel
  by_cases hlt : i < l1.length
  ·have hf := perf_at p l1 i hlt out
   have p1 : 0 ≤ (i : Int) := by omega
   have q1 : (i : Int) < (l1.length : Int) := by omega
   obtain ⟨ad1, e1, hx1_0, hx1_1⟩ := at_T42 HR1.out (i : Int) p1 q1
   cases e1
   replace hx1_0 := (HB.out.cell (World.block_lt_of_cell? w _ hx1_0)).trans hx1_0
   replace hx1_1 := (HB.out.cell (World.block_lt_of_cell? w _ hx1_1)).trans hx1_1
   (try rw [Int.toNat_natCast] at hx1_0 hx1_1)
   generalize rd_T42 l1 (i : Int) = s at hx1_0 hx1_1 hf
   have H1 := H.out
   rw [hf] at H1
   clear H hf
   by_cases hp : p (i : Int) = true
   ·rw [if_pos hp] at H1
    have HP := aM hp
    clear hp
    by_cases hs0 : 0 ≤ s.f0
    ·rw [if_pos hs0] at H1
     by_cases hs1 : s.f0 < (out.length : Int)
     ·rw [if_pos hs1] at H1
      have PH := aM hs0
      have QH := aM hs1
      clear hs0 hs1
      obtain ⟨y180, hy180⟩ : ∃ y_ : List ByteArray, y_ = (out.set s.f0.toNat s.f1) := ⟨_, rfl⟩
      rw [← hy180] at H1
      have Ny180 := aM hy180
      have H2 := aM H1
      clear hy180 H1
      go_wp2_with (first | ((with_reducible refine gate_dst (N := 7) rfl ?_); refine box_event ?hg (N := 7) ?hd (cs := #[.int .i64 0, .string (⟨#[]⟩ : ByteArray)]) (t := 42) ?hr ?_; (case hd => rfl); (case hg => rfl); (case hr => first | (go_simp; done) | (go_simp; rfl)); intro gb179 hg w13 hbox hb; replace p0' := xK p0'.out hb; have BK179 := aM (hbox); have GE179 := aM ((by rw [hg]; exact (zZ (zH HB.out)) : w.heap.size ≤ gb179)); replace HB := aM (zT (zH HB.out) hb); clear hb hbox hg; have hcz14_0 : w13.cell? ⟨gb179, 0, none⟩ = some (.int .i64 0) := yc BK179.out 0; have hcz14_1 : w13.cell? ⟨gb179, 1, none⟩ = some (.string (⟨#[]⟩ : ByteArray)) := yc BK179.out 1; have hfz14_0 := yZ BK179.out 0; have hfz14_1 := yZ BK179.out 1) | ((with_reducible refine gate_store (t := 42) (p := 7) rfl ?_); refine store_event (t := 42) (p := 7) (v := ?vo_w15) (w1 := ((w13.setCell ⟨gb179, 0, none⟩ (.int .i64 s.f0)).setCell ⟨gb179, 1, none⟩ (.string s.f1))) ?hg ?ho ?hn ?hr ?_; (case ho => rfl); (case hg => rfl); (case hn => rfl); (case hr => first | (go_simp; done) | (go_simp; rfl)); intro w15 hw; replace p0' : Aside0 (Kd.R Kd.string 9 w15 w.heap.size (fun _ => True) v3 out) := ⟨(by rw [hw]; exact (xH (xM (xF (p := ⟨gb179, 1, none⟩) (xF (p := ⟨gb179, 0, none⟩) (xT p0'.out BK179.out (by decide)) (fun _ hk => hk.2) (.int .i64 s.f0)) (fun _ hk => hk.2) (.string s.f1)) (fun _ hk => trivial))))⟩; replace BK179 : Aside0 (w15.heap[gb179]? = some (.cells #[.int .i64 s.f0, .string s.f1] 42 (0, 0))) := ⟨(by rw [hw]; exact (by (with_reducible repeat (first | refine yN ?_ _ | refine yD ?_ | refine yA ?_ _)); refine yP (cs := #[.int .i64 s.f0, .string (⟨#[]⟩ : ByteArray)]) ?_ 1 _ rfl; (with_reducible repeat (first | refine yN ?_ _ | refine yD ?_ | refine yA ?_ _)); refine yP (cs := #[.int .i64 0, .string (⟨#[]⟩ : ByteArray)]) ?_ 0 _ rfl; (with_reducible repeat (first | refine yN ?_ _ | refine yD ?_ | refine yA ?_ _)); exact BK179.out))⟩; replace HB : Aside0 (Below w.heap.size w w15) := ⟨(by rw [hw]; exact (zH HB.out))⟩; clear hw) | (go_at_fn gf; go_loud (refine (HK.out i _ hlt (zH HB.out)).mono ?_); rintro e w16 ⟨rfl, hb16⟩; rw [HP.out]; have n0_ := aM (xB (xH p0'.out) hb16); have n1_ := aM (zT (zH HB.out) hb16); have n2_ := aM (yB (yH BK179.out) hb16); clear p0' HB BK179 hb16; have p0' := n0_; have HB := n1_; have BK179 := n2_; clear n0_ n1_ n2_; have hcz16_0 : w16.cell? ⟨gb179, 0, none⟩ = some (.int .i64 s.f0) := yc BK179.out 0; have hcz16_1 : w16.cell? ⟨gb179, 1, none⟩ = some (.string s.f1) := yc BK179.out 1; have hfz16_0 := yZ BK179.out 0; have hfz16_1 := yZ BK179.out 1; have p12 := PH.out; have q12 := QH.out; obtain ⟨go12, co12, eo12, gb12, gl12, cl12, HG12⟩ := Kd.R_form p0'.out (by omega); (first | cases eo12 | (injection eo12 with ea_ en_ ec_; (first | subst ea_ | (injection ea_ with ea_; subst ea_)); subst ec_; clear en_)); have GB12 := aM gb12; have GG12 := aM HG12; clear gb12 gl12 HG12; obtain ⟨hx12_0, hf12_0⟩ := Kd.R_celln (⟨#[]⟩ : ByteArray) p0'.out (s.f0 : Int) p12 q12; have HP17 := Kd.R_putg p0'.out (s.f0 : Int) s.f1; replace p12 := eq_true p12; replace q12 := eq_true q12) | ((with_reducible refine gate_store (t := 9) (p := 22) rfl ?_); refine store_event (t := 9) (p := 22) (v := ?vo_w18) (w1 := (w16.setCell ⟨go12, (s.f0 : Int).toNat, none⟩ (.string s.f1))) ?hg ?ho ?hn ?hr ?_; (case ho => rfl); (case hg => rfl); (case hn => rfl); (case hr => first | (go_simp; done) | (go_simp; rfl)); intro w18 hw; have hg : w16.grownBy w18 (some go12) := (by rw [hw]; exact HP17.2); have hp_ : Kd.R Kd.string 9 w18 w.heap.size (fun _ => True) (.slice (some ⟨go12, 0, none⟩) out.length co12) y180 := (by rw [hw, Ny180.out]; exact HP17.1); clear HP17; replace p0' := aM (hp_); replace HB := aM ((by rw [hw]; exact zS (HB.out) GB12.out : Below w.heap.size w w18)); clear BK179; clear hg hw hp_))
      go_roundw
      case rel => exact ⟨i + 1, y180, by omega, by go_num, H2, ⟨by rw [Ny180.out]; exact HP17.1⟩, ⟨zS HB.out GB12.out⟩⟩
      case measure => simp [intOf]; omega
     ·rw [if_neg hs1] at H1
      exact absurd H1 (by simp)
    ·rw [if_neg hs0] at H1
     exact absurd H1 (by simp)
   ·have hpf : p (i : Int) = false := by simpa using hp
    rw [if_neg hp] at H1
    have HP := aM hpf
    have H2 := aM H1
    clear hp hpf H1
    go_wp2_with (first | ((with_reducible refine gate_dst (N := 7) rfl ?_); refine box_event ?hg (N := 7) ?hd (cs := #[.int .i64 0, .string (⟨#[]⟩ : ByteArray)]) (t := 42) ?hr ?_; (case hd => rfl); (case hg => rfl); (case hr => first | (go_simp; done) | (go_simp; rfl)); intro gb179 hg w13 hbox hb; replace p0' := xK p0'.out hb; have BK179 := aM (hbox); have GE179 := aM ((by rw [hg]; exact (zZ (zH HB.out)) : w.heap.size ≤ gb179)); replace HB := aM (zT (zH HB.out) hb); clear hb hbox hg; have hcz14_0 : w13.cell? ⟨gb179, 0, none⟩ = some (.int .i64 0) := yc BK179.out 0; have hcz14_1 : w13.cell? ⟨gb179, 1, none⟩ = some (.string (⟨#[]⟩ : ByteArray)) := yc BK179.out 1; have hfz14_0 := yZ BK179.out 0; have hfz14_1 := yZ BK179.out 1) | ((with_reducible refine gate_store (t := 42) (p := 7) rfl ?_); refine store_event (t := 42) (p := 7) (v := ?vo_w15) (w1 := ((w13.setCell ⟨gb179, 0, none⟩ (.int .i64 s.f0)).setCell ⟨gb179, 1, none⟩ (.string s.f1))) ?hg ?ho ?hn ?hr ?_; (case ho => rfl); (case hg => rfl); (case hn => rfl); (case hr => first | (go_simp; done) | (go_simp; rfl)); intro w15 hw; replace p0' : Aside0 (Kd.R Kd.string 9 w15 w.heap.size (fun _ => True) v3 out) := ⟨(by rw [hw]; exact (xH (xM (xF (p := ⟨gb179, 1, none⟩) (xF (p := ⟨gb179, 0, none⟩) (xT p0'.out BK179.out (by decide)) (fun _ hk => hk.2) (.int .i64 s.f0)) (fun _ hk => hk.2) (.string s.f1)) (fun _ hk => trivial))))⟩; replace BK179 : Aside0 (w15.heap[gb179]? = some (.cells #[.int .i64 s.f0, .string s.f1] 42 (0, 0))) := ⟨(by rw [hw]; exact (by (with_reducible repeat (first | refine yN ?_ _ | refine yD ?_ | refine yA ?_ _)); refine yP (cs := #[.int .i64 s.f0, .string (⟨#[]⟩ : ByteArray)]) ?_ 1 _ rfl; (with_reducible repeat (first | refine yN ?_ _ | refine yD ?_ | refine yA ?_ _)); refine yP (cs := #[.int .i64 0, .string (⟨#[]⟩ : ByteArray)]) ?_ 0 _ rfl; (with_reducible repeat (first | refine yN ?_ _ | refine yD ?_ | refine yA ?_ _)); exact BK179.out))⟩; replace HB : Aside0 (Below w.heap.size w w15) := ⟨(by rw [hw]; exact (zH HB.out))⟩; clear hw) | (go_at_fn gf; go_loud (refine (HK.out i _ hlt (zH HB.out)).mono ?_); rintro e w16 ⟨rfl, hb16⟩; rw [HP.out]; have n0_ := aM (xB (xH p0'.out) hb16); have n1_ := aM (zT (zH HB.out) hb16); have n2_ := aM (yB (yH BK179.out) hb16); clear p0' HB BK179 hb16; have p0' := n0_; have HB := n1_; have BK179 := n2_; clear n0_ n1_ n2_))
    go_roundw
    case rel => exact ⟨i + 1, out, by omega, by go_num, H2, ⟨xH p0'.out⟩, ⟨zH HB.out⟩⟩
    case measure => simp [intOf]; omega
  ·have hlen : i = l1.length := by omega
   have H1 := H.out
   rw [hlen, List.drop_length, perfL] at H1
   obtain rfl := Option.some.inj H1
   clear H H1 hlen
   go_wp2
   go_ret
   exact ⟨_, rfl, xH p0'.out, zH HB.out⟩
theorem impl_FlushDevice.all_ (i : Nat) (W : World) : Calls Try.prog 64 (#[.int .i64 (i : Int)] ++ #[]) W fun e w' => e = .returned (.bool true) ∧ Below W.heap.size W w' := by
 show Calls Try.prog 64 #[.int .i64 (i : Int)] W _
 go_enter Try.func64, Try.ntmps64
 go_wp2
 go_ret
 exact ⟨rfl, Below.refl _ _⟩
def impl_FlushDevice.f (l0_0 : List ByteArray) (l0_1 : List (S42)) : Option (List ByteArray × (List (S42)) × Bool) :=
 if goodD l0_0 l0_1 = true then ((slices_Clone_string_string.f l0_0).bind fun t0 => (perfL (fun _ => true) l0_1 0 t0).bind fun t1 => some (t1, ([] : List S42), true)) else some (([] : List ByteArray), ([] : List S42), false)
set_option maxHeartbeats 2000000 in
set_option maxRecDepth 100000 in
theorem impl_FlushDevice.calls (A0_0 : Option Addr) (c0_0 : Nat) (l0_0 : List ByteArray) (A0_1 : Option Addr) (c0_1 : Nat) (l0_1 : List (S42)) (r1 : List ByteArray) (r2 : List (S42)) (r3 : Bool) (w : World) (hr0_0 : Kd.C Kd.string w A0_0 l0_0.length l0_0) (hc0_0 : l0_0.length ≤ c0_0) (hr0_1 : Kd.C k42 w A0_1 l0_1.length l0_1) (hc0_1 : l0_1.length ≤ c0_1) (h : impl_FlushDevice.f l0_0 l0_1 = some (r1, r2, r3)) :
  Calls Try.prog 29 #[.agg #[.slice A0_0 l0_0.length c0_0, .slice A0_1 l0_1.length c0_1]] w fun e w' => ∃ v0_ v1_ : Value, e = .returned (.tuple #[.agg #[v0_, v1_], .bool r3]) ∧ Kd.R Kd.string 9 w' w.heap.size (fun _ => True) v0_ r1 ∧ Kd.R k42 42 w' w.heap.size (fun _ => True) v1_ r2 ∧ Below w.heap.size w w' := by
 unfold impl_FlushDevice.f at h
 have HR0_0 := aM hr0_0
 have HC0_0 := aM hc0_0
 have HR0_1 := aM hr0_1
 have HC0_1 := aM hc0_1
 clear hr0_0 hc0_0 hr0_1 hc0_1
 have HB := aM (Below.refl w.heap.size w)
 by_cases hg : goodD l0_0 l0_1 = true
 ·rw [if_pos hg] at h
  obtain ⟨t0, hL, h⟩ := Option.bind_eq_some_iff.mp h
  obtain rfl : l0_0 = t0 := (clone_eq hL).symm
  obtain ⟨t1, hP, h⟩ := Option.bind_eq_some_iff.mp h
  simp only [Option.some.injEq, Prod.mk.injEq] at h
  obtain ⟨rfl, rfl, rfl⟩ := h
  have HL := aM hL
  have HP := aM hP
  have HG : Aside0 (impl_GoodDevice.f l0_0 l0_1 = some true) := ⟨by rw [← hg]; rfl⟩
  clear hL hP hg
  go_enter Try.func29, Try.ntmps29
  go_wp2_with (first | ((with_reducible refine gate_dst (N := 1) rfl ?_); refine box_event ?hg (N := 1) ?hd (cs := #[.slice A0_0 l0_0.length c0_0, .slice A0_1 l0_1.length c0_1]) (t := 30) ?hr ?_; (case hd => rfl); (case hg => rfl); (case hr => first | (go_simp; done) | (go_simp; rfl)); intro gb1 hg w_2 hbox hb; have n_HB := aM (zT (zH HB.out) hb); have n_GE := aM ((by rw [hg]; exact (zZ (zH HB.out))) : w.heap.size ≤ gb1); clear HB; have HB := n_HB; clear n_HB; have BKgb1 := aM hbox; have GEgb1 := n_GE; clear n_GE; have hcq3_0 : w_2.cell? ⟨gb1, 0, none⟩ = some (.slice A0_0 l0_0.length c0_0) := yc BKgb1.out 0; have hfq3_0 := yZ BKgb1.out 0; have hcq3_1 : w_2.cell? ⟨gb1, 1, none⟩ = some (.slice A0_1 l0_1.length c0_1) := yc BKgb1.out 1; have hfq3_1 := yZ BKgb1.out 1; clear hbox hb hg) | ((with_reducible refine gate_dst (N := 2) rfl ?_); refine box_event ?hg (N := 2) ?hd (cs := #[.slice none 0 0, .slice none 0 0]) (t := 30) ?hr ?_; (case hd => rfl); (case hg => rfl); (case hr => first | (go_simp; done) | (go_simp; rfl)); intro gb4 hg w_5 hbox hb; have n_BKgb1 := aM (yB (g := gb1) (o := (.cells #[.slice A0_0 l0_0.length c0_0, .slice A0_1 l0_1.length c0_1] 30 (0, 0))) (yH BKgb1.out) hb); have n_HB := aM (zT (zH HB.out) hb); have n_GE := aM ((by rw [hg]; exact (zZ (zH HB.out))) : w.heap.size ≤ gb4); have n_NAgb1 := aM ((by rw [hg]; exact Nat.ne_of_lt (blk_lt (g := gb1) (o := (.cells #[.slice A0_0 l0_0.length c0_0, .slice A0_1 l0_1.length c0_1] 30 (0, 0))) (yH BKgb1.out))) : gb1 ≠ gb4); clear BKgb1 HB; have BKgb1 := n_BKgb1; have HB := n_HB; clear n_BKgb1 n_HB; have BKgb4 := aM hbox; have GEgb4 := n_GE; clear n_GE; have hnegb1_gb4 := n_NAgb1.out; have hnfgb1_gb4 : gb4 ≠ gb1 := fun h => n_NAgb1.out h.symm; clear n_NAgb1; have hcq6_0 : w_5.cell? ⟨gb1, 0, none⟩ = some (.slice A0_0 l0_0.length c0_0) := yc BKgb1.out 0; have hfq6_0 := yZ BKgb1.out 0; have hcq6_1 : w_5.cell? ⟨gb1, 1, none⟩ = some (.slice A0_1 l0_1.length c0_1) := yc BKgb1.out 1; have hfq6_1 := yZ BKgb1.out 1; have hcq7_0 : w_5.cell? ⟨gb4, 0, none⟩ = some (.slice none 0 0) := yc BKgb4.out 0; have hfq7_0 := yZ BKgb4.out 0; have hcq7_1 : w_5.cell? ⟨gb4, 1, none⟩ = some (.slice none 0 0) := yc BKgb4.out 1; have hfq7_1 := yZ BKgb4.out 1; clear hbox hb hg) | (go_at_call 16; go_loud (refine (impl_GoodDevice.calls _ c0_0 l0_0 _ c0_1 l0_1 _ _ ?s1 HC0_0.out ?s2 HC0_1.out HG.out).mono ?_); (case s1 => exact (cB HR0_0.out (zH HB.out))); (case s2 => exact (cB HR0_1.out (zH HB.out))); rintro e w_8 ⟨rfl, hb⟩; have n_BKgb1 := aM (yB (g := gb1) (o := (.cells #[.slice A0_0 l0_0.length c0_0, .slice A0_1 l0_1.length c0_1] 30 (0, 0))) (yH BKgb1.out) hb); have n_BKgb4 := aM (yB (g := gb4) (o := (.cells #[.slice none 0 0, .slice none 0 0] 30 (0, 0))) (yH BKgb4.out) hb); have n_HB := aM (zT (zH HB.out) hb); clear BKgb1 BKgb4 HB; have BKgb1 := n_BKgb1; have BKgb4 := n_BKgb4; have HB := n_HB; clear n_BKgb1 n_BKgb4 n_HB; clear hb; have hcq9_0 : w_8.cell? ⟨gb1, 0, none⟩ = some (.slice A0_0 l0_0.length c0_0) := yc BKgb1.out 0; have hfq9_0 := yZ BKgb1.out 0; have hcq9_1 : w_8.cell? ⟨gb1, 1, none⟩ = some (.slice A0_1 l0_1.length c0_1) := yc BKgb1.out 1; have hfq9_1 := yZ BKgb1.out 1; have hcq10_0 : w_8.cell? ⟨gb4, 0, none⟩ = some (.slice none 0 0) := yc BKgb4.out 0; have hfq10_0 := yZ BKgb4.out 0; have hcq10_1 : w_8.cell? ⟨gb4, 1, none⟩ = some (.slice none 0 0) := yc BKgb4.out 1; have hfq10_1 := yZ BKgb4.out 1) | (go_at_call 63; go_loud (refine (performed_any 64 #[] _ _ _ c0_0 c0_1 l0_0 l0_1 _ _ ?s1 HC0_0.out ?s2 HL.out (enters_of Try.func64 (by kernel_rfl) rfl) ?s3 HP.out).mono ?_); (case s1 => exact (cB HR0_0.out (zH HB.out))); (case s2 => exact (cB HR0_1.out (zH HB.out))); (case s3 => exact fun i W _ _ => impl_FlushDevice.all_ i W); rintro e w_11 ⟨v12, rfl, ho13, hb⟩; have n_BKgb1 := aM (yB (g := gb1) (o := (.cells #[.slice A0_0 l0_0.length c0_0, .slice A0_1 l0_1.length c0_1] 30 (0, 0))) (yH BKgb1.out) hb); have n_BKgb4 := aM (yB (g := gb4) (o := (.cells #[.slice none 0 0, .slice none 0 0] 30 (0, 0))) (yH BKgb4.out) hb); have n_HB := aM (zT (zH HB.out) hb); have n_HOho13 := aM (xL ho13 (zZ (zH HB.out))); clear BKgb1 BKgb4 HB; have BKgb1 := n_BKgb1; have BKgb4 := n_BKgb4; have HB := n_HB; clear n_BKgb1 n_BKgb4 n_HB; have HOho13 := n_HOho13; clear n_HOho13 ho13; clear hb; obtain ⟨Aov12, cov12, eov12⟩ := Kd.R_slice HOho13.out; subst eov12; have hcq14_0 : w_11.cell? ⟨gb1, 0, none⟩ = some (.slice A0_0 l0_0.length c0_0) := yc BKgb1.out 0; have hfq14_0 := yZ BKgb1.out 0; have hcq14_1 : w_11.cell? ⟨gb1, 1, none⟩ = some (.slice A0_1 l0_1.length c0_1) := yc BKgb1.out 1; have hfq14_1 := yZ BKgb1.out 1; have hcq15_0 : w_11.cell? ⟨gb4, 0, none⟩ = some (.slice none 0 0) := yc BKgb4.out 0; have hfq15_0 := yZ BKgb4.out 0; have hcq15_1 : w_11.cell? ⟨gb4, 1, none⟩ = some (.slice none 0 0) := yc BKgb4.out 1; have hfq15_1 := yZ BKgb4.out 1))
  refine bodyPost_ret (results_ct rfl _ _ gb4 30 #[.slice Aov12 t1.length cov12, .slice none 0 0] (0, 0) _ rfl (by (with_reducible repeat (first | refine yN ?_ _ | refine yD ?_ | refine yA ?_ _)); refine yP (cs := #[.slice Aov12 t1.length cov12, .slice none 0 0]) ?_ 1 _ rfl; (with_reducible repeat (first | refine yN ?_ _ | refine yD ?_ | refine yA ?_ _)); refine yP (cs := #[.slice none 0 0, .slice none 0 0]) ?_ 0 _ rfl; (with_reducible repeat (first | refine yN ?_ _ | refine yD ?_ | refine yA ?_ _)); exact BKgb4.out) Try.underlying30 rfl (by kernel_rfl)) rfl ?_
  exact ⟨_, _, rfl, xH (xM (xF (p := ⟨gb4, 1, none⟩) (xF (p := ⟨gb4, 0, none⟩) (xT HOho13.out BKgb4.out (by decide)) (fun _ hk => hk.2) (.slice Aov12 t1.length cov12)) (fun _ hk => hk.2) (.slice none 0 0)) (fun _ hk => trivial)), Kd.R_nil _ _ _ _ _, zH HB.out⟩
 ·rw [if_neg hg] at h
  simp only [Option.some.injEq, Prod.mk.injEq] at h
  obtain ⟨rfl, rfl, rfl⟩ := h
  have hg' : goodD l0_0 l0_1 = false := by simpa using hg
  have HG : Aside0 (impl_GoodDevice.f l0_0 l0_1 = some false) := ⟨by rw [← hg']; rfl⟩
  clear hg hg'
  go_enter Try.func29, Try.ntmps29
  go_wp2_with (first | ((with_reducible refine gate_dst (N := 1) rfl ?_); refine box_event ?hg (N := 1) ?hd (cs := #[.slice A0_0 l0_0.length c0_0, .slice A0_1 l0_1.length c0_1]) (t := 30) ?hr ?_; (case hd => rfl); (case hg => rfl); (case hr => first | (go_simp; done) | (go_simp; rfl)); intro gb1 hg w_2 hbox hb; have n_HB := aM (zT (zH HB.out) hb); have n_GE := aM ((by rw [hg]; exact (zZ (zH HB.out))) : w.heap.size ≤ gb1); clear HB; have HB := n_HB; clear n_HB; have BKgb1 := aM hbox; have GEgb1 := n_GE; clear n_GE; have hcq3_0 : w_2.cell? ⟨gb1, 0, none⟩ = some (.slice A0_0 l0_0.length c0_0) := yc BKgb1.out 0; have hfq3_0 := yZ BKgb1.out 0; have hcq3_1 : w_2.cell? ⟨gb1, 1, none⟩ = some (.slice A0_1 l0_1.length c0_1) := yc BKgb1.out 1; have hfq3_1 := yZ BKgb1.out 1; clear hbox hb hg) | ((with_reducible refine gate_dst (N := 2) rfl ?_); refine box_event ?hg (N := 2) ?hd (cs := #[.slice none 0 0, .slice none 0 0]) (t := 30) ?hr ?_; (case hd => rfl); (case hg => rfl); (case hr => first | (go_simp; done) | (go_simp; rfl)); intro gb4 hg w_5 hbox hb; have n_BKgb1 := aM (yB (g := gb1) (o := (.cells #[.slice A0_0 l0_0.length c0_0, .slice A0_1 l0_1.length c0_1] 30 (0, 0))) (yH BKgb1.out) hb); have n_HB := aM (zT (zH HB.out) hb); have n_GE := aM ((by rw [hg]; exact (zZ (zH HB.out))) : w.heap.size ≤ gb4); have n_NAgb1 := aM ((by rw [hg]; exact Nat.ne_of_lt (blk_lt (g := gb1) (o := (.cells #[.slice A0_0 l0_0.length c0_0, .slice A0_1 l0_1.length c0_1] 30 (0, 0))) (yH BKgb1.out))) : gb1 ≠ gb4); clear BKgb1 HB; have BKgb1 := n_BKgb1; have HB := n_HB; clear n_BKgb1 n_HB; have BKgb4 := aM hbox; have GEgb4 := n_GE; clear n_GE; have hnegb1_gb4 := n_NAgb1.out; have hnfgb1_gb4 : gb4 ≠ gb1 := fun h => n_NAgb1.out h.symm; clear n_NAgb1; have hcq6_0 : w_5.cell? ⟨gb1, 0, none⟩ = some (.slice A0_0 l0_0.length c0_0) := yc BKgb1.out 0; have hfq6_0 := yZ BKgb1.out 0; have hcq6_1 : w_5.cell? ⟨gb1, 1, none⟩ = some (.slice A0_1 l0_1.length c0_1) := yc BKgb1.out 1; have hfq6_1 := yZ BKgb1.out 1; have hcq7_0 : w_5.cell? ⟨gb4, 0, none⟩ = some (.slice none 0 0) := yc BKgb4.out 0; have hfq7_0 := yZ BKgb4.out 0; have hcq7_1 : w_5.cell? ⟨gb4, 1, none⟩ = some (.slice none 0 0) := yc BKgb4.out 1; have hfq7_1 := yZ BKgb4.out 1; clear hbox hb hg) | (go_at_call 16; go_loud (refine (impl_GoodDevice.calls _ c0_0 l0_0 _ c0_1 l0_1 _ _ ?s1 HC0_0.out ?s2 HC0_1.out HG.out).mono ?_); (case s1 => exact (cB HR0_0.out (zH HB.out))); (case s2 => exact (cB HR0_1.out (zH HB.out))); rintro e w_8 ⟨rfl, hb⟩; have n_BKgb1 := aM (yB (g := gb1) (o := (.cells #[.slice A0_0 l0_0.length c0_0, .slice A0_1 l0_1.length c0_1] 30 (0, 0))) (yH BKgb1.out) hb); have n_BKgb4 := aM (yB (g := gb4) (o := (.cells #[.slice none 0 0, .slice none 0 0] 30 (0, 0))) (yH BKgb4.out) hb); have n_HB := aM (zT (zH HB.out) hb); clear BKgb1 BKgb4 HB; have BKgb1 := n_BKgb1; have BKgb4 := n_BKgb4; have HB := n_HB; clear n_BKgb1 n_BKgb4 n_HB; clear hb; have hcq9_0 : w_8.cell? ⟨gb1, 0, none⟩ = some (.slice A0_0 l0_0.length c0_0) := yc BKgb1.out 0; have hfq9_0 := yZ BKgb1.out 0; have hcq9_1 : w_8.cell? ⟨gb1, 1, none⟩ = some (.slice A0_1 l0_1.length c0_1) := yc BKgb1.out 1; have hfq9_1 := yZ BKgb1.out 1; have hcq10_0 : w_8.cell? ⟨gb4, 0, none⟩ = some (.slice none 0 0) := yc BKgb4.out 0; have hfq10_0 := yZ BKgb4.out 0; have hcq10_1 : w_8.cell? ⟨gb4, 1, none⟩ = some (.slice none 0 0) := yc BKgb4.out 1; have hfq10_1 := yZ BKgb4.out 1))
  refine bodyPost_ret (results_ct rfl _ _ gb4 30 #[.slice none 0 0, .slice none 0 0] (0, 0) _ rfl (by (with_reducible repeat (first | refine yN ?_ _ | refine yD ?_ | refine yA ?_ _)); refine yP (cs := #[.slice none 0 0, .slice none 0 0]) ?_ 1 _ rfl; (with_reducible repeat (first | refine yN ?_ _ | refine yD ?_ | refine yA ?_ _)); refine yP (cs := #[.slice none 0 0, .slice none 0 0]) ?_ 0 _ rfl; (with_reducible repeat (first | refine yN ?_ _ | refine yD ?_ | refine yA ?_ _)); exact BKgb4.out) Try.underlying30 rfl (by kernel_rfl)) rfl ?_
  exact ⟨_, _, rfl, Kd.R_nil _ _ _ _ _, Kd.R_nil _ _ _ _ _, zH HB.out⟩


/-! ### bits_Mul32: function 98 -/
def bits_Mul32.f (a0 : Int) (a1 : Int) : Option (Int × Int) := some (((IntKind.u64.wrap ((IntKind.u64.wrap (a0)) * (IntKind.u64.wrap (a1)))) / 4294967296) % 4294967296, (IntKind.u64.wrap ((IntKind.u64.wrap (a0)) * (IntKind.u64.wrap (a1)))) % 4294967296)
set_option maxHeartbeats 8000000 in
set_option maxRecDepth 100000 in
theorem bits_Mul32.calls (a0 : Int) (a1 : Int) (r1 : Int) (r2 : Int) (w : World) (h : bits_Mul32.f a0 a1 = some (r1, r2)) :
  Calls Try.prog 98 #[.int .u32 a0, .int .u32 a1] w fun e w' => e = .returned (.tuple #[.int .u32 r1, .int .u32 r2]) ∧ Drawn0 w w' := by
 have H : (some (((IntKind.u64.wrap ((IntKind.u64.wrap (a0)) * (IntKind.u64.wrap (a1)))) / 4294967296) % 4294967296, (IntKind.u64.wrap ((IntKind.u64.wrap (a0)) * (IntKind.u64.wrap (a1)))) % 4294967296)) = some (r1, r2) := h
 clear h
 simp only [Option.some.injEq, Prod.mk.injEq] at H
 obtain ⟨rfl, rfl⟩ := H
 go_enter Try.func98, Try.ntmps98
 go_wp2
 go_ret2
 exact ⟨by first | rfl | (simp; done) | (simp [*]; done), by repeat (first | exact Drawn0.refl _ | apply Drawn0.step)⟩

/-! ### bits_Mul64: function 99 -/
def bits_Mul64.f (a0 : Int) (a1 : Int) : Option (Int × Int) := some (IntKind.u64.wrap ((IntKind.u64.wrap ((IntKind.u64.wrap ((a0 / 4294967296) * (a1 / 4294967296))) + ((IntKind.u64.wrap ((IntKind.u64.wrap ((a0 / 4294967296) * (Go.bits .and .u64 a1 4294967295))) + ((IntKind.u64.wrap ((Go.bits .and .u64 a0 4294967295) * (Go.bits .and .u64 a1 4294967295))) / 4294967296))) / 4294967296))) + ((IntKind.u64.wrap ((Go.bits .and .u64 (IntKind.u64.wrap ((IntKind.u64.wrap ((a0 / 4294967296) * (Go.bits .and .u64 a1 4294967295))) + ((IntKind.u64.wrap ((Go.bits .and .u64 a0 4294967295) * (Go.bits .and .u64 a1 4294967295))) / 4294967296))) 4294967295) + (IntKind.u64.wrap ((Go.bits .and .u64 a0 4294967295) * (a1 / 4294967296))))) / 4294967296)), IntKind.u64.wrap (a0 * a1))
set_option maxHeartbeats 8000000 in
set_option maxRecDepth 100000 in
theorem bits_Mul64.calls (a0 : Int) (a1 : Int) (r1 : Int) (r2 : Int) (w : World) (h : bits_Mul64.f a0 a1 = some (r1, r2)) :
  Calls Try.prog 99 #[.int .u64 a0, .int .u64 a1] w fun e w' => e = .returned (.tuple #[.int .u64 r1, .int .u64 r2]) ∧ Drawn0 w w' := by
 have H : (some (IntKind.u64.wrap ((IntKind.u64.wrap ((IntKind.u64.wrap ((a0 / 4294967296) * (a1 / 4294967296))) + ((IntKind.u64.wrap ((IntKind.u64.wrap ((a0 / 4294967296) * (Go.bits .and .u64 a1 4294967295))) + ((IntKind.u64.wrap ((Go.bits .and .u64 a0 4294967295) * (Go.bits .and .u64 a1 4294967295))) / 4294967296))) / 4294967296))) + ((IntKind.u64.wrap ((Go.bits .and .u64 (IntKind.u64.wrap ((IntKind.u64.wrap ((a0 / 4294967296) * (Go.bits .and .u64 a1 4294967295))) + ((IntKind.u64.wrap ((Go.bits .and .u64 a0 4294967295) * (Go.bits .and .u64 a1 4294967295))) / 4294967296))) 4294967295) + (IntKind.u64.wrap ((Go.bits .and .u64 a0 4294967295) * (a1 / 4294967296))))) / 4294967296)), IntKind.u64.wrap (a0 * a1))) = some (r1, r2) := h
 clear h
 simp only [Option.some.injEq, Prod.mk.injEq] at H
 obtain ⟨rfl, rfl⟩ := H
 go_enter Try.func99, Try.ntmps99
 go_wp2
 go_ret2
 exact ⟨by first | rfl | (simp; done) | (simp [*]; done), by repeat (first | exact Drawn0.refl _ | apply Drawn0.step)⟩

/-! ### bits_Mul: function 87 -/
def bits_Mul.f (a0 : Int) (a1 : Int) : Option (Int × Int) := (bits_Mul64.f a0 a1).bind fun bt250 => (some (bt250.1, bt250.2))
set_option maxHeartbeats 8000000 in
set_option maxRecDepth 100000 in
theorem bits_Mul.calls (a0 : Int) (a1 : Int) (r1 : Int) (r2 : Int) (w : World) (h : bits_Mul.f a0 a1 = some (r1, r2)) :
  Calls Try.prog 87 #[.int .u64 a0, .int .u64 a1] w fun e w' => e = .returned (.tuple #[.int .u64 r1, .int .u64 r2]) ∧ Drawn0 w w' := by
 have H : ((bits_Mul64.f a0 a1).bind fun bt250 => (some (bt250.1, bt250.2))) = some (r1, r2) := h
 clear h
 replace H := Option.bind_eq_some_iff.mp H
 obtain ⟨⟨t250, t251⟩, A30, H⟩ := H
 replace H : (some (t250, t251)) = some (r1, r2) := H
 have A3 := aM A30
 clear A30
 simp only [Option.some.injEq, Prod.mk.injEq] at H
 obtain ⟨rfl, rfl⟩ := H
 go_enter Try.func87, Try.ntmps87
 go_wp2_with (first | ((with_reducible refine gate_callee (f := 99) rfl ?_); refine goesL_ (some 25) rfl rfl Try.func99 (by kernel_rfl) rfl #[.int .u64 a0, .int .u64 a1] rfl (by (try simp only [List.map_toArray, List.map_cons, List.map_nil]); first | done | rfl | (simp only [List.length_drop, List.length_take]; rfl)) ?_; (with_reducible refine (bits_Mul64.calls a0 a1 t250 t251 _ A3.out).mono ?_); rintro e w' ⟨rfl, ⟨nd, rfl⟩⟩; refine ⟨_, rfl, ?_⟩))
 go_ret2
 exact ⟨by first | rfl | (simp; done) | (simp [*]; done), by repeat (first | exact Drawn0.refl _ | apply Drawn0.step)⟩

/-! ### slices_Repeat_string_string: function 74 (by hand) -/
/-- a copy within one row: the first k elements behind themselves -/
theorem slices_Repeat_string_string.copyin {ops : Array Oper} {o : Oper} {a : Act} {K : Act → World → Prop} {Q : Exit → Act → World → Prop} {E : Prop} {w0 W : World} (base : Nat) (hgd : o.guard = none) (s x : Operand) (t t' e : TypeId)
  (ho : o.op = .call { callee := .builtin .copy, args := #[s, x], argTypes := #[t, t'] }) (ht : Try.prog.underlying t = some (.slice e)) (hinfo : (Try.prog.info? e).map (·.size) = some 1)
  (g N c c1 c2 : Nat) (xs ys : List ByteArray) (k m : Nat) (hN : N = xs.length) (hk : 0 < k) (hkl : k < N) (hm : m = min k (N - k))
  (hs : a.eval s = .slice (some ⟨g, k, none⟩) (N - k) c1) (hx : a.eval x = .slice (some ⟨g, 0, none⟩) k c2)
  (hy : ys = xs.take k ++ (xs.take m ++ xs.drop (k + m)))
  (HO : Kd.R Kd.string e W base (fun _ => True) (.slice (some ⟨g, 0, none⟩) N c) xs) (HB : Below base w0 W) (hbase : base ≤ W.heap.size)
  (h : ∀ w1, Kd.R Kd.string e w1 base (fun _ => True) (.slice (some ⟨g, 0, none⟩) N c) ys → Below base w0 w1 → K (a.put o.dst (.int .i64 (m : Int))) w1) :
  if Region.wanted o (yielded ops a.tmps) = true then Oper.wp Try.prog o a W K Q else E := by
 subst hN
 have hown : W.ownsRow base e 1 _ xs.length (encs Value.string xs) := Kd.own_of_R HO
 rcases hown.2 with ⟨_, hx0⟩ | ⟨g', cap, cur, hv, hb, hh, hnc, hcm, hcs, htake⟩
 ·omega
 simp only [Value.slice.injEq, Option.some.injEq, Addr.mk.injEq] at hv
 obtain ⟨⟨rfl, _, _⟩, _, rfl⟩ := hv
 have hlen : cur.size = c := by omega
 have hml : m ≤ k := by omega
 have hmx : k + m ≤ xs.length := by omega
 have hkl' : (encs Value.string (xs.take m)).length = m := by rw [encs_length, List.length_take]; omega
 have htk : cur.toList.take xs.length = encs Value.string xs := by rw [← htake, Nat.mul_one]
 have hsrc : ∀ j u, (encs Value.string (xs.take m))[j]? = some u → W.cell? ((⟨g, 0, none⟩ : Addr).add j) = some u := by
  intro j u hu
  have hj : j < m := by
   rcases Nat.lt_or_ge j m with h | h
   ·exact h
   ·rw [List.getElem?_eq_none (by rw [hkl']; exact h)] at hu
    cases hu
  have e1 : (encs Value.string xs)[j]? = some u := by
   rw [← hu]; simp [encs, List.getElem?_take, hj]
  rw [← htk, List.getElem?_take] at e1
  rw [if_pos (by omega)] at e1
  rw [show (⟨g, 0, none⟩ : Addr).add j = ⟨g, j, none⟩ by simp [Addr.add]; omega]
  rw [cell_of_row W g _ cur e (0, 0) hh]
  simpa using e1
 have hr := run_copy_cells (P := Try.prog) W t t' o.type e g k (xs.length - k) c1 ⟨g, 0, none⟩ k c2 (encs Value.string (xs.take m)) ht hinfo (by rw [hkl', hm]) hsrc
  (fun j hj => by rw [cell_of_row W g _ cur e (0, 0) hh]; simp; omega) (fun j _ => yZ hh _) (by intro u hu; simp only [encs, List.mem_map] at hu; obtain ⟨q, _, rfl⟩ := hu; rfl)
 obtain ⟨cur', h3, h4, h5⟩ := setCells_row (encs Value.string (xs.take m)) k W cur hh (by rw [hkl']; omega)
 obtain ⟨s1, s2, s3, s4⟩ := setCells_same g (encs Value.string (xs.take m)) k W
 have hgr : W.grownBy (W.setCells g k (encs Value.string (xs.take m))) (Value.slice (some ⟨g, 0, none⟩) xs.length c).ownBlock :=
  ⟨s1, s2, s3, by rw [s4]; exact Nat.le_refl _, fun q _ hq => setCells_far _ _ q (fun he => hq (by rw [he]; simp [Value.ownBlock]))⟩
 have hyl : ys.length = xs.length := by
  rw [hy, List.length_append, List.length_append, List.length_take, List.length_take, List.length_drop]; omega
 have hR : Kd.R Kd.string e (W.setCells g k (encs Value.string (xs.take m))) base (fun _ => True) (.slice (some ⟨g, 0, none⟩) xs.length c) ys := by
  refine Kd.R_of_own ?_ (fun _ _ => trivial)
  rw [hyl]
  refine ⟨by rw [encs_length, hyl, Nat.mul_one], .inr ⟨g, c, cur', rfl, hb, h3, hnc, hcm, by rw [h4, hlen, Nat.mul_one], ?_⟩⟩
  rw [h5, hkl', Nat.mul_one, hy, encs_append, encs_append]
  have hd : encs Value.string (xs.drop (k + m)) = (encs Value.string xs).drop (k + m) := by simp [encs, List.map_drop]
  have hd2 : encs Value.string (xs.take k) = (encs Value.string xs).take k := by simp [encs, List.map_take]
  rw [hd, hd2, ← htk, List.drop_take, List.take_take, Nat.min_eq_left (by omega)]
  have l1 : (cur.toList.take k).length = k := by rw [List.length_take, Array.length_toList]; omega
  have t1 : List.take xs.length (cur.toList.take k) = cur.toList.take k := List.take_of_length_le (by rw [l1]; omega)
  have t2 : List.take (xs.length - k) (encs Value.string (xs.take m)) = encs Value.string (xs.take m) := List.take_of_length_le (by rw [hkl']; omega)
  rw [List.append_assoc, List.take_append, List.take_append, l1, hkl', t1, t2]
  rw [show xs.length - k - m = xs.length - (k + m) by omega]
 have hw : Region.wanted o (yielded ops a.tmps) = true := by simp [Region.wanted, hgd]
 rw [if_pos hw]
 unfold Oper.wp execOp
 simp only [ho, resolve, invoke, builtin, Sem.run_bind, Sem.run_pure, Result.andThen_ok, List.map_toArray, List.map_cons, List.map_nil, hs, hx, hr, hkl']
 exact h _ hR (HB.grown hgr hbase (Kd.R_base HO))
theorem slices_Repeat_string_string.rep_step (z : ByteArray) (n k m : Nat) (hk : k ≤ n) (hm : m = min k (n - k)) : List.replicate (k + m) z ++ List.replicate (n - (k + m)) ByteArray.empty = (List.replicate k z ++ List.replicate (n - k) ByteArray.empty).take k ++ ((List.replicate k z ++ List.replicate (n - k) ByteArray.empty).take m ++ (List.replicate k z ++ List.replicate (n - k) ByteArray.empty).drop (k + m)) := by
 have e1 : (List.replicate k z ++ List.replicate (n - k) ByteArray.empty).take k = List.replicate k z := by
  rw [List.take_append_of_le_length (by simp), List.take_of_length_le (by simp)]
 have e2 : (List.replicate k z ++ List.replicate (n - k) ByteArray.empty).take m = List.replicate m z := by
  rw [List.take_append_of_le_length (by rw [List.length_replicate]; omega), List.take_replicate, Nat.min_eq_left (by omega)]
 have e3 : (List.replicate k z ++ List.replicate (n - k) ByteArray.empty).drop (k + m) = List.replicate (n - (k + m)) ByteArray.empty := by
  rw [List.drop_append, List.length_replicate, List.drop_replicate, List.drop_replicate, show k - (k + m) = 0 by omega, List.replicate_zero, List.nil_append, show n - k - (k + m - k) = n - (k + m) by omega]
 rw [e1, e2, e3, ← List.append_assoc, List.replicate_append_replicate]
theorem slices_Repeat_string_string.one (n : Nat) (h : 1 ≤ n) : (min 1 (List.replicate n ByteArray.empty).length) = 1 := by rw [List.length_replicate]; omega
theorem slices_Repeat_string_string.start (z : ByteArray) (n : Nat) (h : 1 ≤ n) : [z].take (min 1 (List.replicate n ByteArray.empty).length) ++ (List.replicate n ByteArray.empty).drop (min 1 (List.replicate n ByteArray.empty).length) = List.replicate 1 z ++ List.replicate (n - 1) ByteArray.empty := by
 rw [slices_Repeat_string_string.one n h, List.drop_replicate]; rfl
/-- slices.Repeat at one text -/
def slices_Repeat_string_string.f (l0 : List ByteArray) (a1 : Int) : Option (List ByteArray) :=
 if l0.length = 1 ∧ 1 ≤ a1 ∧ a1 ≤ 32 then some (List.replicate a1.toNat (rdOf ByteArray.empty l0 0)) else none
set_option maxHeartbeats 4000000 in
set_option maxRecDepth 100000 in
theorem slices_Repeat_string_string.calls (A0 : Option Addr) (c0 : Nat) (l0 : List ByteArray) (a1 : Int) (r : List ByteArray) (w : World) (hr0 : Kd.C Kd.string w A0 l0.length l0) (hc0 : l0.length ≤ c0) (h : slices_Repeat_string_string.f l0 a1 = some r) :
  Calls Try.prog 74 #[.slice A0 l0.length c0, .int .i64 a1] w fun e w' => ∃ v0_ : Value, e = .returned (v0_) ∧ Kd.R Kd.string 9 w' w.heap.size (fun _ => True) v0_ r ∧ Below w.heap.size w w' := by
 unfold slices_Repeat_string_string.f at h
 by_cases hl : l0.length = 1 ∧ 1 ≤ a1 ∧ a1 ≤ 32
 case neg => rw [if_neg hl] at h; cases h
 rw [if_pos hl] at h
 obtain rfl := Option.some.inj h
 clear h
 obtain ⟨hl1, h1, h2⟩ := hl
 obtain ⟨n, rfl⟩ : ∃ n : Nat, a1 = (n : Int) := ⟨a1.toNat, by omega⟩
 obtain ⟨z, rfl⟩ : ∃ z, l0 = [z] := by
  match l0, hl1 with
  | [z], _ => exact ⟨z, rfl⟩
 have hn1 : 1 ≤ n := by omega
 have hn2 : n ≤ 32 := by omega
 clear hl1 h1 h2
 have hM : ∀ n : Nat, n < 33 → bits_Mul.f 1 (n : Int) = some (0, (n : Int)) := by decide +kernel
 have HM := aM (hM n (by omega))
 clear hM
 have HR0 := aM hr0
 clear hr0 hc0
 have HB := aM (Below.refl w.heap.size w)
 have N1 := aM hn1
 have N2 := aM hn2
 have d1 : decide ((n : Int) < 0) = false := decide_eq_false (by omega)
 have d2 : IntKind.u64.wrap (n : Int) = (n : Int) := by show (n : Int) % 18446744073709551616 = n; omega
 have d3 : decide ((n : Int) > 9223372036854775807) = false := decide_eq_false (by omega)
 have d4 : IntKind.i64.wrap (n : Int) = (n : Int) := by rw [i64_w]; unfold wrap64; omega
 have d5 : wrap64 (n : Int) = (n : Int) := by unfold wrap64; omega
 clear hn1 hn2
 show Calls _ _ _ _ fun e w' => ∃ v0_ : Value, e = .returned v0_ ∧ Kd.R Kd.string 9 w' w.heap.size (fun _ => True) v0_ (List.replicate n z) ∧ Below w.heap.size w w'
 go_enter Try.func74, Try.ntmps74
 go_wp2_with (first | ((with_reducible refine gate_callee (f := 87) rfl ?_); refine goesL_ (some 18) rfl rfl Try.func87 (by kernel_rfl) rfl #[.int .u64 1, .int .u64 (n : Int)] rfl (by (try simp only [List.map_toArray, List.map_cons, List.map_nil]); first | done | rfl) ?_; (with_reducible refine (bits_Mul.calls 1 n 0 n _ HM.out).mono ?_); rintro e w' ⟨rfl, ⟨nd, rfl⟩⟩; refine ⟨_, rfl, ?_⟩) | ((with_reducible refine gate_dst (N := 30) rfl ?_); refine Kd.R_make Kd.string _ 9 rfl (N := 30) rfl 22 _ _ rfl (n : Int) rfl rfl Try.underlying22 (.string ByteArray.empty) 16 (by kernel_rfl) rfl (by decide) (by omega) ByteArray.empty (ok := fun _ => True) (okp := fun _ => True) rfl (fun _ hk => hk) trivial (by omega) (by have := N2.out; rw [Int.toNat_natCast]; omega) (Below.refl _ _) (Nat.le_refl _) ?_; intro v30 w4 ho5 hb hg_ hnew_; clear hg_ hnew_; rw [Int.toNat_natCast] at ho5; have HO := aM (xL ho5 (zZ (zH HB.out))); replace HB := aM (zT (zH HB.out) hb); clear hb ho5; obtain ⟨g30, cap30, ev30, GE0, _⟩ := Kd.R_form HO.out (by rw [List.length_replicate]; exact N1.out); rw [List.length_replicate] at ev30; subst ev30; have GE := aM GE0; clear GE0) | ((with_reducible refine gate_dst (N := 33) rfl ?_); refine Kd.R_copy (enc := Value.string) (h1 := fun _ => rfl) ByteArray.empty w.heap.size ?c1 (.tmp 31) (.tmp 32) 22 22 9 ?c2 ?c3 ?c4 _ (List.replicate n ByteArray.empty) [z] A0 1 c0 (fun _ => True) ?c5 ?c6 (xH HO.out) (cB HR0.out (zH HB.out)) (zH HB.out) (zZ (zH HB.out)) ?_; (case c1 => rfl); (case c2 => rfl); (case c3 => exact Try.underlying22); (case c4 => kernel_rfl); (case c5 => rfl); (case c6 => rfl); intro w5 ho hb hg; rw [slices_Repeat_string_string.start z n N1.out] at ho; rw [slices_Repeat_string_string.one n N1.out]; have HO2 := aM ho; have HB2 := aM hb; clear HO HB ho hb hg; have HO := HO2; have HB := HB2; clear HO2 HB2))
 go_loopw [8] (fun v8 w' => ∃ k : Nat, 1 ≤ k ∧ k ≤ n ∧ v8 = .int .i64 (k : Int) ∧ Aside0 (Kd.R Kd.string 9 w' w.heap.size (fun _ => True) (.slice (some ⟨g30, 0, none⟩) n cap30) (List.replicate k z ++ List.replicate (n - k) ByteArray.empty)) ∧ Aside0 (Below w.heap.size w w')) (fun v8 w' => n - (intOf v8).toNat)
 case atStart => exact ⟨1, Nat.le_refl _, N1.out, rfl, ⟨xH HO.out⟩, ⟨zH HB.out⟩⟩
 case round =>
  clear HO HB
  obtain ⟨k, hk1, hk2, rfl, HO, HB⟩ := hrel
  by_cases hlt : k < n
  ·have hcap : n ≤ cap30 := by
    rcases (Kd.own_of_R HO.out).2 with ⟨_, hx0⟩ | ⟨g', cap, cur, hv, hb, hh, hnc, hcm, hcs, htake⟩
    ·rw [List.length_append, List.length_replicate, List.length_replicate] at hx0; omega
    ·simp only [Value.slice.injEq] at hv; rw [List.length_append, List.length_replicate, List.length_replicate] at hnc; omega
   have p1 : 0 ≤ (k : Int) := by omega
   have p2 : (k : Int) ≤ (n : Int) := by omega
   have p3 : (k : Int) ≤ (cap30 : Int) := by omega
   have p4 : (n : Int) ≤ (cap30 : Int) := by omega
   have p5 : (cap30 = k) = False := eq_false (by omega)
   obtain ⟨m, hm⟩ : ∃ m, m = min k (n - k) := ⟨_, rfl⟩
   have q1 : Aside0 (n = (List.replicate k z ++ List.replicate (n - k) ByteArray.empty).length) := ⟨by rw [List.length_append, List.length_replicate, List.length_replicate]; omega⟩
   have q2 : Aside0 (0 < k) := ⟨by omega⟩
   have hst := slices_Repeat_string_string.rep_step z n k m hk2 hm
   have hw0 : wrap64 ((k : Int) + (m : Int)) = ((k + m : Nat) : Int) := by have := N2.out; unfold wrap64; omega
   have hw1 : IntKind.i64.wrap ((k : Int) + (m : Int)) = ((k + m : Nat) : Int) := by rw [i64_w, hw0]
   have HM2 := aM hm
   clear hm hw0
   go_wp2
   go_region_law (refine slices_Repeat_string_string.copyin w.heap.size rfl (.tmp 41) (.tmp 44) 22 22 9 rfl Try.underlying22 (by kernel_rfl) g30 n cap30 (cap30 - k) cap30 (List.replicate k z ++ List.replicate (n - k) ByteArray.empty) (List.replicate (k + m) z ++ List.replicate (n - (k + m)) ByteArray.empty) k m q1.out q2.out hlt HM2.out (by simp [Act.eval, Act.put, p5]) (by simp [Act.eval, Act.put]) hst (xH HO.out) (zH HB.out) (zZ (zH HB.out)) (fun w6 ho hb => ?_))
   have HO2 := aM ho
   have HB2 := aM hb
   clear HO HB ho hb
   have HO := HO2
   have HB := HB2
   clear HO2 HB2
   refine ⟨⟨.int .i64 ((k : Int) + (m : Int)), ?a1, ?a2, ?a3, ?a4, ?a5, ?a6, ?a7, ?a8, ?a9, ?a10, ?a11, ?a12, ?a13, ⟨k + m, by omega, by have := HM2.out; omega, by rw [Int.natCast_add], HO, HB⟩, ?eq⟩, ?me⟩
   case eq => rfl
   case me => have := HM2.out; show n - (intOf (.int .i64 ((k : Int) + (m : Int)))).toNat < n - (intOf (.int .i64 (k : Int))).toNat; simp [intOf]; omega
  ·obtain rfl : k = n := by omega
   go_wp2
   go_ret
   refine ⟨_, rfl, ?_, zH HB.out⟩
   have h0 := HO.out
   rw [Nat.sub_self, List.replicate_zero, List.append_nil] at h0
   (with_reducible repeat (first | apply xA | apply xN | apply xD))
   exact h0


/-! ### strings_Repeat: function 75 (by hand) -/
section
open Go.Shelf Go.Lib
def repLay_ren : Go.Shelf.Ren := ⟨fun | 105 => 75 | 212 => 87 | 99 => 88 | 165 => 89 | 166 => 90 | 170 => 91 | 169 => 92 | 263 => 98 | 264 => 99 | 206 => 100 | 240 => 101 | 241 => 102 | 276 => 115 | 277 => 116 | n => n, fun | 9 => 9 | 3 => 3 | 4 => 4 | 20 => 20 | 0 => 0 | 46 => 103 | 109 => 104 | 5 => 5 | 72 => 109 | 76 => 113 | 51 => 121 | 146 => 122 | 53 => 95 | 148 => 124 | 70 => 107 | 37 => 66 | 75 => 112 | 127 => 126 | 164 => 138 | 80 => 116 | n => n, fun | n => n⟩
theorem repLay : Go.Proofs.Lays.n105 Try.prog repLay_ren := {
 mixed := by kernel_rfl,
 f99 := Try.func88.trans (congrArg some (by kernel_rfl)),
 f105 := Try.func75.trans (congrArg some (by kernel_rfl)),
 f165 := Try.func89.trans (congrArg some (by kernel_rfl)),
 f166 := Try.func90.trans (congrArg some (by kernel_rfl)),
 f169 := Try.func92.trans (congrArg some (by kernel_rfl)),
 f170 := Try.func91.trans (congrArg some (by kernel_rfl)),
 f206 := Try.func100.trans (congrArg some (by kernel_rfl)),
 f212 := Try.func87.trans (congrArg some (by kernel_rfl)),
 f240 := Try.func101.trans (congrArg some (by kernel_rfl)),
 f241 := Try.func102.trans (congrArg some (by kernel_rfl)),
 f263 := Try.func98.trans (congrArg some (by kernel_rfl)),
 f264 := Try.func99.trans (congrArg some (by kernel_rfl)),
 f276 := Try.func115.trans (congrArg some (by kernel_rfl)),
 f277 := Try.func116.trans (congrArg some (by kernel_rfl)),
 t0 := Try.underlying0,
 a0 := Try.isAgg0,
 z0 := Try.sizeOf0,
 v0 := Try.zeroValue0,
 t3 := Try.underlying3,
 a3 := Try.isAgg3,
 z3 := Try.sizeOf3,
 v3 := Try.zeroValue3,
 t4 := Try.underlying4,
 a4 := Try.isAgg4,
 z4 := Try.sizeOf4,
 v4 := Try.zeroValue4,
 t5 := Try.underlying5,
 a5 := Try.isAgg5,
 z5 := Try.sizeOf5,
 v5 := Try.zeroValue5,
 t9 := Try.underlying9,
 a9 := Try.isAgg9,
 z9 := Try.sizeOf9,
 v9 := Try.zeroValue9,
 t20 := Try.underlying20,
 a20 := Try.isAgg20,
 z20 := Try.sizeOf20,
 v20 := Try.zeroValue20,
 t37 := Try.underlying66,
 a37 := Try.isAgg66,
 z37 := Try.sizeOf66,
 v37 := Try.zeroValue66,
 t46 := Try.underlying103,
 a46 := Try.isAgg103,
 z46 := Try.sizeOf103,
 v46 := Try.zeroValue103,
 t51 := Try.underlying121,
 a51 := Try.isAgg121,
 z51 := Try.sizeOf121,
 v51 := Try.zeroValue121,
 t53 := Try.underlying95,
 a53 := Try.isAgg95,
 z53 := Try.sizeOf95,
 v53 := Try.zeroValue95,
 t70 := Try.underlying107,
 a70 := Try.isAgg107,
 z70 := Try.sizeOf107,
 v70 := Try.zeroValue107,
 t72 := Try.underlying109,
 a72 := Try.isAgg109,
 z72 := Try.sizeOf109,
 v72 := Try.zeroValue109,
 t75 := Try.underlying112,
 a75 := Try.isAgg112,
 z75 := Try.sizeOf112,
 v75 := Try.zeroValue112,
 t76 := Try.underlying113,
 a76 := Try.isAgg113,
 z76 := Try.sizeOf113,
 v76 := Try.zeroValue113,
 t109 := Try.underlying104,
 a109 := Try.isAgg104,
 z109 := Try.sizeOf104,
 v109 := Try.zeroValue104,
 t127 := Try.underlying126,
 a127 := Try.isAgg126,
 z127 := Try.sizeOf126,
 v127 := Try.zeroValue126,
 t146 := Try.underlying122,
 a146 := Try.isAgg122,
 z146 := Try.sizeOf122,
 v146 := Try.zeroValue122,
 t148 := Try.underlying124,
 a148 := Try.isAgg124,
 z148 := Try.sizeOf124,
 v148 := Try.zeroValue124,
 t164 := Try.underlying138,
 a164 := Try.isAgg138,
 z164 := Try.sizeOf138,
 v164 := Try.zeroValue138 }
theorem repExtra : Builder.Extra Try.prog repLay_ren := {
 sizeBuilder := by kernel_rfl,
 liesBuilder := by kernel_rfl,
 t5 := repLay.t5,
 a5 := repLay.a5,
 z5 := repLay.z5,
 v5 := repLay.v5,
 infoByte := by kernel_rfl,
 cellsByte := by kernel_rfl,
 sizeByte := by kernel_rfl,
 neB5 := by decide }
end
/-- strings.Repeat: a short text, not often -/
def strings_Repeat.f (a0 : ByteArray) (a1 : Int) : Option (ByteArray) :=
 if 0 ≤ a1 ∧ a1 ≤ 1000 ∧ a0.size ≤ 1000 then some (⟨(Lib.repeatL a0.data.toList a1.toNat).toArray⟩ : ByteArray) else none
set_option maxHeartbeats 2000000 in
theorem strings_Repeat.calls (a0 : ByteArray) (a1 : Int) (r : ByteArray) (w : World) (h : strings_Repeat.f a0 a1 = some r) :
  Calls Try.prog 75 #[.string a0, .int .i64 a1] w fun e w' => e = .returned (.string r) ∧ Below w.heap.size w w' := by
 unfold strings_Repeat.f at h
 by_cases hl : 0 ≤ a1 ∧ a1 ≤ 1000 ∧ a0.size ≤ 1000
 case neg => rw [if_neg hl] at h; cases h
 rw [if_pos hl] at h
 obtain rfl := Option.some.inj h
 clear h
 obtain ⟨h0, h1, h2⟩ := hl
 obtain ⟨n, rfl⟩ : ∃ n : Nat, a1 = (n : Int) := ⟨a1.toNat, by omega⟩
 rw [Int.toNat_natCast]
 exact Any.strings_Repeat repLay repExtra a0 n w (by omega) (Nat.le_trans (Nat.mul_le_mul h2 (show n ≤ 1000 by omega)) (by decide))


/-! ### impl_NewDevice: function 36 -/
def impl_NewDevice.f (a0 : Int) : Option (List ByteArray × (List (S42)) × Bool) := (impl_within.f a0 1 32).bind fun t253 => (if t253 = true then ((strings_Repeat.f (⟨#[0]⟩ : ByteArray) 8).bind fun t254 => ((slices_Repeat_string_string.f (([t254] : List ByteArray)) a0).bind fun t258 => (some (t258, ([] : List (S42)), true)))) else (some (([] : List ByteArray), ([] : List (S42)), false)))
set_option maxHeartbeats 8000000 in
set_option maxRecDepth 100000 in
theorem impl_NewDevice.calls (a0 : Int) (r1 : List ByteArray) (r2 : List (S42)) (r3 : Bool) (w : World) (h : impl_NewDevice.f a0 = some (r1, r2, r3)) :
  Calls Try.prog 36 #[.int .i64 a0] w fun e w' => ∃ v0_ v1_ : Value, e = .returned (.tuple #[.agg #[v0_, v1_], .bool r3]) ∧ Kd.R Kd.string 9 w' w.heap.size (fun _ => True) v0_ r1 ∧ Kd.R k42 42 w' w.heap.size (fun _ => True) v1_ r2 ∧ Below w.heap.size w w' := by
 have hu30 := Try.underlying30
 have HB := aM (Below.refl w.heap.size w)
 have H : ((impl_within.f a0 1 32).bind fun t253 => (if t253 = true then ((strings_Repeat.f (⟨#[0]⟩ : ByteArray) 8).bind fun t254 => ((slices_Repeat_string_string.f (([t254] : List ByteArray)) a0).bind fun t258 => (some (t258, ([] : List (S42)), true)))) else (some (([] : List ByteArray), ([] : List (S42)), false)))) = some (r1, r2, r3) := h
 clear h
 replace H := Option.bind_eq_some_iff.mp H
 obtain ⟨t253, A20, H⟩ := H
 replace H : (if t253 = true then ((strings_Repeat.f (⟨#[0]⟩ : ByteArray) 8).bind fun t254 => ((slices_Repeat_string_string.f (([t254] : List ByteArray)) a0).bind fun t258 => (some (t258, ([] : List (S42)), true)))) else (some (([] : List ByteArray), ([] : List (S42)), false))) = some (r1, r2, r3) := H
 have A2 := aM A20
 clear A20
 by_cases c3 : t253 = true
 ·subst c3
  have H1 : ((strings_Repeat.f (⟨#[0]⟩ : ByteArray) 8).bind fun t254 => ((slices_Repeat_string_string.f (([t254] : List ByteArray)) a0).bind fun t258 => (some (t258, ([] : List (S42)), true)))) = some (r1, r2, r3) := by rw [if_pos rfl] at H; exact H
  clear H
  have H := H1
  clear H1
  replace H := Option.bind_eq_some_iff.mp H
  obtain ⟨t254, A40, H⟩ := H
  replace H : ((slices_Repeat_string_string.f (([t254] : List ByteArray)) a0).bind fun t258 => (some (t258, ([] : List (S42)), true))) = some (r1, r2, r3) := H
  have A4 := aM A40
  clear A40
  obtain ⟨y255, hy255⟩ : ∃ y_ : List ByteArray, y_ = (([t254] : List ByteArray)) := ⟨_, rfl⟩
  replace H : ((slices_Repeat_string_string.f y255 a0).bind fun t258 => (some (t258, ([] : List (S42)), true))) = some (r1, r2, r3) := by first | (rw [hy255]; with_reducible exact H) | (have H2_ := (Option.bind_some _ _).symm.trans H; rw [hy255]; with_reducible exact H2_) | (have H2_ := (Option.bind_some _ _).symm.trans H; with_reducible exact H2_) | with_reducible exact H | (rw [hy255]; exact H) | exact H
  have Ny255 := aM hy255
  clear hy255
  replace H := Option.bind_eq_some_iff.mp H
  obtain ⟨t258, A50, H⟩ := H
  replace H : (some (t258, ([] : List (S42)), true)) = some (r1, r2, r3) := H
  have A5 := aM A50
  clear A50
  simp only [Option.some.injEq, Prod.mk.injEq] at H
  obtain ⟨rfl, rfl, rfl⟩ := H
  go_enter Try.func36, Try.ntmps36
  go_wp2_with (first | ((with_reducible refine gate_dst (N := 2) rfl ?_); refine box_event ?hg (N := 2) ?hd (cs := #[.slice none 0 0, .slice none 0 0]) (t := 30) ?hr ?_; (case hd => rfl); (case hg => rfl); (case hr => first | (go_simp; done) | (go_simp; rfl)); intro gb252 hg w6 hbox hb; have BK252 := aM (hbox); have GW252 := aM ((by rw [hg]; exact (zZ (zH HB.out)) : w.heap.size ≤ gb252)); have GE252 := aM ((by rw [hg]; exact (zZ (zH HB.out)) : w.heap.size ≤ gb252)); replace HB := aM (zT (zH HB.out) hb); clear hb hbox hg) | ((with_reducible refine gate_callee (f := 55) rfl ?_); refine goesL_ (some 5) rfl rfl Try.func55 (by kernel_rfl) rfl #[.int .i64 a0, .int .i64 1, .int .i64 32] rfl (by (try simp only [List.map_toArray, List.map_cons, List.map_nil]); first | done | rfl | (simp only [List.length_drop, List.length_take]; rfl)) ?_; (with_reducible refine (impl_within.calls a0 1 32 true _ A2.out).mono ?_); rintro e w' ⟨rfl, ⟨nd, rfl⟩⟩; refine ⟨_, rfl, ?_⟩; (try (rw [drewN_self w6]; generalize hq_ : World.drewN w6 _ = w6; have n0_ : Aside0 (w6.heap[gb252]? = some (.cells #[.slice none 0 0, .slice none 0 0] 30 (0, 0))) := ⟨by rw [← hq_]; exact (yH BK252.out)⟩; have n1_ : Aside0 (Below w.heap.size w w6) := ⟨by rw [← hq_]; exact (zH HB.out)⟩; clear BK252 HB hq_; have BK252 := n0_; have HB := n1_; clear n0_ n1_))) | ((with_reducible refine gate_callee (f := 75) rfl ?_); refine goesL_ (some 8) rfl rfl Try.func75 (by kernel_rfl) rfl #[.string (⟨#[0]⟩ : ByteArray), .int .i64 8] rfl (by (try simp only [List.map_toArray, List.map_cons, List.map_nil]); first | done | rfl | (simp only [List.length_drop, List.length_take]; rfl)) ?_; (with_reducible refine (strings_Repeat.calls (⟨#[0]⟩ : ByteArray) 8 t254 _ A4.out).mono ?_); rintro e w7 ⟨rfl, hb⟩; refine ⟨_, rfl, ?_⟩; replace BK252 := yK BK252.out hb; replace HB := aM (zT (zH HB.out) hb); (try clear hb)) | ((with_reducible refine gate_dst (N := 9) rfl ?_); refine Kd.R_lit Kd.string _ 9 ?hg (N := 9) ?hd (xs := ([t254] : List ByteArray)) (inner := [.string t254]) (ok := fun _ => True) (okp := fun _ => True) ?hr ?hp (fun _ hk => hk) trivial (Below.refl _ _) (Nat.le_refl _) (by simp) ?_; (case hd => rfl); (case hg => rfl); (case hr => first | (go_simp; done) | (go_simp; rfl)); (case hp => exact (Reps.one (show Kd.M Kd.string _ _ _ t254 [.string t254] from rfl) (Reps.none _ _))); intro v256 w8 ho9 hb hg_ hnew_; clear hg_ hnew_; (first | rw [← Ny255.out] at ho9 | (simp only [Int.reduceToNat] at ho9; rw [← Ny255.out] at ho9)); have HO257 := aM (xL ho9 (zZ (zH HB.out))); replace BK252 := yK BK252.out hb; replace HB := aM (zT (zH HB.out) hb); clear hb ho9; obtain ⟨Ao10, co10, eo10⟩ := Kd.R_slice HO257.out; subst eo10) | ((with_reducible refine gate_callee (f := 74) rfl ?_); refine goesL_ (some 11) rfl rfl Try.func74 (by kernel_rfl) rfl #[.slice Ao10 y255.length co10, .int .i64 a0] rfl (by (try simp only [List.map_toArray, List.map_cons, List.map_nil]); first | done | rfl | (simp only [List.length_drop, List.length_take]; rfl)) ?_; (with_reducible refine (slices_Repeat_string_string.calls _ _ y255 a0 t258 _ ?side1 ?side2 A5.out).mono ?_); (case side1 => repeat (first | exact (Kd.R_reads' HO257.out).2.2 | (with_reducible refine cA ?_ _) | (with_reducible refine cN ?_ _) | (with_reducible refine cD ?_))); (case side2 => exact (Kd.R_reads' HO257.out).2.1); rintro e w11 ⟨v259, rfl, ho0, hb⟩; refine ⟨_, rfl, ?_⟩; have HO260 := aM (xL (Kd.R_new' ho0 (Kd.R_lt (xH HO257.out))) (zZ (zH HB.out))); replace HO257 := aM (Kd.R_elder' (xH HO257.out) (Kd.R_base ho0) hb); replace BK252 := yK BK252.out hb; replace HB := aM (zT (zH HB.out) hb); (try clear hb); (try clear ho0); obtain ⟨Ao12, co12, eo12⟩ := Kd.R_slice HO260.out; subst eo12; have hcz13_0 : w11.cell? ⟨gb252, 0, none⟩ = some (.slice none 0 0) := yc BK252.out 0; have hcz13_1 : w11.cell? ⟨gb252, 1, none⟩ = some (.slice none 0 0) := yc BK252.out 1; have hfz13_0 := yZ BK252.out 0; have hfz13_1 := yZ BK252.out 1))
  refine bodyPost_ret (results_ct rfl _ _ gb252 30 #[.slice Ao12 t258.length co12, .slice none 0 0] (0, 0) _ rfl (by (with_reducible repeat (first | refine yN ?_ _ | refine yD ?_ | refine yA ?_ _)); refine yP (cs := #[.slice Ao12 t258.length co12, .slice none 0 0]) ?_ 1 _ rfl; (with_reducible repeat (first | refine yN ?_ _ | refine yD ?_ | refine yA ?_ _)); refine yP (cs := #[.slice none 0 0, .slice none 0 0]) ?_ 0 _ rfl; (with_reducible repeat (first | refine yN ?_ _ | refine yD ?_ | refine yA ?_ _)); exact BK252.out) Try.underlying30 rfl (by kernel_rfl)) rfl ?_
  exact ⟨_, _, by first | rfl | (simp [errW_none, errW_some] <;> rfl) | (simp [*, errW_none, errW_some] <;> rfl), xH (xM (xF (p := ⟨gb252, 1, none⟩) (xF (p := ⟨gb252, 0, none⟩) (xT HO260.out BK252.out (by decide)) (fun _ hk => hk.2) (.slice Ao12 t258.length co12)) (fun _ hk => hk.2) (.slice none 0 0)) (fun _ hk => trivial)), by first | exact Kd.R_nil _ _ _ _ _ | exact Kd.N_nil _ _ _ _ _ | exact Kd.V_nil _ _ _ _ _ | exact Kd.Q_nil _ _ _ _ _ | exact Kd.S_nil _ _ _ _ _, zH HB.out⟩
 ·replace c3 := Bool.eq_false_iff.mpr c3
  subst c3
  have H1 : (some (([] : List ByteArray), ([] : List (S42)), false)) = some (r1, r2, r3) := by rw [if_neg (show ¬ (false = true) by decide)] at H; exact H
  clear H
  have H := H1
  clear H1
  simp only [Option.some.injEq, Prod.mk.injEq] at H
  obtain ⟨rfl, rfl, rfl⟩ := H
  go_enter Try.func36, Try.ntmps36
  go_wp2_with (first | ((with_reducible refine gate_dst (N := 2) rfl ?_); refine box_event ?hg (N := 2) ?hd (cs := #[.slice none 0 0, .slice none 0 0]) (t := 30) ?hr ?_; (case hd => rfl); (case hg => rfl); (case hr => first | (go_simp; done) | (go_simp; rfl)); intro gb252 hg w14 hbox hb; have BK252 := aM (hbox); have GW252 := aM ((by rw [hg]; exact (zZ (zH HB.out)) : w.heap.size ≤ gb252)); have GE252 := aM ((by rw [hg]; exact (zZ (zH HB.out)) : w.heap.size ≤ gb252)); replace HB := aM (zT (zH HB.out) hb); clear hb hbox hg) | ((with_reducible refine gate_callee (f := 55) rfl ?_); refine goesL_ (some 5) rfl rfl Try.func55 (by kernel_rfl) rfl #[.int .i64 a0, .int .i64 1, .int .i64 32] rfl (by (try simp only [List.map_toArray, List.map_cons, List.map_nil]); first | done | rfl | (simp only [List.length_drop, List.length_take]; rfl)) ?_; (with_reducible refine (impl_within.calls a0 1 32 false _ A2.out).mono ?_); rintro e w' ⟨rfl, ⟨nd, rfl⟩⟩; refine ⟨_, rfl, ?_⟩; (try (rw [drewN_self w14]; generalize hq_ : World.drewN w14 _ = w14; have n0_ : Aside0 (w14.heap[gb252]? = some (.cells #[.slice none 0 0, .slice none 0 0] 30 (0, 0))) := ⟨by rw [← hq_]; exact (yH BK252.out)⟩; have n1_ : Aside0 (Below w.heap.size w w14) := ⟨by rw [← hq_]; exact (zH HB.out)⟩; clear BK252 HB hq_; have BK252 := n0_; have HB := n1_; clear n0_ n1_)); have hcz15_0 : w14.cell? ⟨gb252, 0, none⟩ = some (.slice none 0 0) := yc BK252.out 0; have hcz15_1 : w14.cell? ⟨gb252, 1, none⟩ = some (.slice none 0 0) := yc BK252.out 1; have hfz15_0 := yZ BK252.out 0; have hfz15_1 := yZ BK252.out 1))
  refine bodyPost_ret (results_ct rfl _ _ gb252 30 #[.slice none 0 0, .slice none 0 0] (0, 0) _ rfl (by (with_reducible repeat (first | refine yN ?_ _ | refine yD ?_ | refine yA ?_ _)); refine yP (cs := #[.slice none 0 0, .slice none 0 0]) ?_ 1 _ rfl; (with_reducible repeat (first | refine yN ?_ _ | refine yD ?_ | refine yA ?_ _)); refine yP (cs := #[.slice none 0 0, .slice none 0 0]) ?_ 0 _ rfl; (with_reducible repeat (first | refine yN ?_ _ | refine yD ?_ | refine yA ?_ _)); exact BK252.out) Try.underlying30 rfl (by kernel_rfl)) rfl ?_
  exact ⟨_, _, by first | rfl | (simp [errW_none, errW_some] <;> rfl) | (simp [*, errW_none, errW_some] <;> rfl), by first | exact Kd.R_nil _ _ _ _ _ | exact Kd.N_nil _ _ _ _ _ | exact Kd.V_nil _ _ _ _ _ | exact Kd.Q_nil _ _ _ _ _ | exact Kd.S_nil _ _ _ _ _, by first | exact Kd.R_nil _ _ _ _ _ | exact Kd.N_nil _ _ _ _ _ | exact Kd.V_nil _ _ _ _ _ | exact Kd.Q_nil _ _ _ _ _ | exact Kd.S_nil _ _ _ _ _, zH HB.out⟩

end Go.Proofs.Ytlhgkbleciokmaa.PFnExactPlayDevice
