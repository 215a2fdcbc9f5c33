/- The walks of FnExactPlayDevice: Go's calls come to what the Lean functions beside them say; no condition. -/
import Derived.Test.YtlhgkbleciokmaaQFnExactPlayDevicex0
import Derived.Test.YtlhgkbleciokmaaQFnExactPlayDevicex4
namespace Go.Proofs.Ytlhgkbleciokmaa.PFnExactPlayDevice
open Go.RowKit Go.Proofs.YtlhgkbleciokmaaW.PrintWords Go.Proofs.YtlhgkbleciokmaaW.PrintLast Go.Proofs.YtlhgkbleciokmaaW.PrintMore
attribute [local go_sem] max2_int min2_int max_two min_two max_three min_three max_four min_four   -- for this text's walks alone
set_option linter.unusedVariables false
set_option linter.unusedSimpArgs false
set_option maxRecDepth 100000

/-! ### laws_toWriteS: function 39 -/
def laws_toWriteS.l0 : Nat → List (S38) → List (S42) → Int → Option ((List (S42)))
 | 0, _, _, _ => none
 | k + 1, x0, x3, x4 => if x4 < (x0.length : Int) then (if 0 ≤ x4 then ((laws_toWrite.f ((rd_T38 x0 x4).f0) ((rd_T38 x0 x4).f1)).bind fun bt229 => (if x4 < (x3.length : Int) then (laws_toWriteS.l0 k x0 (x3.set (x4 : Int).toNat (⟨bt229.1, bt229.2⟩ : S42)) (wrap64 (x4 + 1))) else (none))) else (none)) else (some x3)
def laws_toWriteS.f (k : Nat) (l0 : List (S38)) : Option ((List (S42))) := if 0 ≤ (l0.length : Int) then (if ((l0.length : Int) : Int).toNat ≤ 11728124029610 then (laws_toWriteS.l0 k l0 (List.replicate ((l0.length : Int) : Int).toNat z42) 0) else (none)) else (none)
theorem laws_toWriteS.mono_l : ∀ k, (∀ y0 y1 y2, LeO (laws_toWriteS.l0 k y0 y1 y2) (laws_toWriteS.l0 (k + 1) y0 y1 y2))
 | 0 => fun _ _ _ r h => by change none = some r at h; cases h
 | k + 1 => by
  have ih0 := laws_toWriteS.mono_l k
  ·intro y0 y1 y2
   unfold laws_toWriteS.l0
   repeat' first
   | (with_reducible exact ih0 _ _ _)
   | (with_reducible exact LeO.refl _)
   | (with_reducible exact LeO.none _)
   | (with_reducible refine LeO.ite ?_ ?_)
   | (with_reducible refine LeO.bind ?_ (fun _ => ?_))
   | exact ih0 _ _ _
   | exact LeO.none _
   | refine LeO.ite ?_ ?_
   | refine LeO.bind ?_ (fun _ => ?_)
theorem laws_toWriteS.mono : ∀ a0 k, LeO (laws_toWriteS.f k a0) (laws_toWriteS.f (k + 1) a0) := by
 intro a0 k
 have ih0 := laws_toWriteS.mono_l k
 unfold laws_toWriteS.f
 repeat' first
   | (with_reducible exact ih0 _ _ _)
   | (with_reducible exact LeO.refl _)
   | (with_reducible exact LeO.none _)
   | (with_reducible refine LeO.ite ?_ ?_)
   | (with_reducible refine LeO.bind ?_ (fun _ => ?_))
   | exact ih0 _ _ _
   | exact LeO.none _
   | refine LeO.ite ?_ ?_
   | refine LeO.bind ?_ (fun _ => ?_)
set_option maxHeartbeats 8000000 in
set_option maxRecDepth 100000 in
theorem laws_toWriteS.calls (k : Nat) (A0 : Option Addr) (c0 : Nat) (l0 : List (S38)) (r : List (S42)) (w : World) (hr0 : Kd.C k38 w A0 l0.length l0) (hc0 : l0.length ≤ c0) (h : laws_toWriteS.f k l0 = some r) :
  Calls Try.prog 39 #[.slice A0 l0.length c0] w fun e w' => ∃ v0_ : Value, e = .returned (v0_) ∧ Kd.R k42 42 w' w.heap.size (fun _ => True) v0_ r ∧ Below w.heap.size w w' := by
 have hu38 := Try.underlying38
 have hu42 := Try.underlying42
 have HR0 := aM hr0
 have HC0 := aM hc0
 clear hr0 hc0
 have HB := aM (Below.refl w.heap.size w)
 have H : (if 0 ≤ (l0.length : Int) then (if ((l0.length : Int) : Int).toNat ≤ 11728124029610 then (laws_toWriteS.l0 k l0 (List.replicate ((l0.length : Int) : Int).toNat z42) 0) else (none)) else (none)) = some r := h
 clear h
 by_cases c2 : 0 ≤ (l0.length : Int)
 ·rw [if_pos c2] at H
  have c2b0 := eq_true c2
  have c2b1 : decide (0 ≤ (l0.length : Int)) = true := decide_eq_true c2
  clear c2
  by_cases c3 : ((l0.length : Int) : Int).toNat ≤ 11728124029610
  ·rw [if_pos c3] at H
   have c3b0 := eq_true c3
   have c3b1 : decide (((l0.length : Int) : Int).toNat ≤ 11728124029610) = true := decide_eq_true c3
   clear c3
   obtain ⟨y225, hy225⟩ : ∃ y_ : List (S42), y_ = (List.replicate ((l0.length : Int) : Int).toNat z42) := ⟨_, rfl⟩
   replace H : (laws_toWriteS.l0 k l0 y225 0) = some r := by first | (rw [hy225]; with_reducible exact H) | (have H2_ := (Option.bind_some _ _).symm.trans H; rw [hy225]; with_reducible exact H2_) | (have H2_ := (Option.bind_some _ _).symm.trans H; with_reducible exact H2_) | with_reducible exact H | (rw [hy225]; exact H) | exact H
   have Ny225 := aM hy225
   clear hy225
   have H' := aM H
   clear H
   go_enter Try.func39, Try.ntmps39
   go_wp2_with (first | ((with_reducible refine gate_dst (N := 7) rfl ?_); refine Kd.R_make k42 _ 42 rfl (N := 7) rfl 28 _ _ rfl (l0.length : Int) rfl rfl Try.underlying28 (.agg #[(.int .i64 0), (.string ⟨#[]⟩)]) 24 info42 rfl (by decide) (by omega) z42 (ok := fun _ => True) (okp := fun _ => True) (k42_mkM _ _ _ z42 ) (fun _ hk => hk) trivial (of_decide_eq_true (by first | (with_reducible assumption) | assumption)) (Nat.le_trans (Nat.mul_le_mul_right _ (of_decide_eq_true (by first | (with_reducible assumption) | assumption) : (l0.length : Int).toNat ≤ 11728124029610)) (by omega)) (Below.refl _ _) (Nat.le_refl _) ?_; intro v226 w4 ho5 hb hg_ hnew_; clear hg_ hnew_; (first | rw [← Ny225.out] at ho5 | (simp only [Int.reduceToNat] at ho5; rw [← Ny225.out] at ho5)); have HO227 := aM (xL ho5 (zZ (zH HB.out))); replace HB := aM (zT (zH HB.out) hb); clear hb ho5))
   go_loopg [4] k (fun kq v4 w' => ∃ (x3_1 : List (S42)) (x4_1 : Int), v4 = .int .i64 x4_1 ∧ Aside0 (laws_toWriteS.l0 kq l0 x3_1 x4_1 = some r) ∧ Aside0 (kq ≤ k) ∧ Aside0 (Kd.R k42 42 w' w.heap.size (fun _ => True) v226 x3_1) ∧ Aside0 (Below w.heap.size w w'))
   case atStart => exact ⟨(y225), (0), (by first | rfl | (simp; done) | (simp [*]; done)), H', ⟨Nat.le_refl _⟩, ⟨xH HO227.out⟩, ⟨zH HB.out⟩⟩
   case round =>
    clear H'
    (try clear c2); (try clear c2b0); (try clear c2b1); (try clear p2); (try clear c3); (try clear c3b0); (try clear c3b1)
    obtain ⟨x3_1, x4_1, rfl, HA, HK1, p0', HB⟩ := hrel
    cases gk with
    | zero => exact absurd HA.out (fun h_ => by change none = some _ at h_; cases h_)
    | succ k1 =>
     have H := HA.out
     clear HA
     simp only [laws_toWriteS.l0] at H
     by_cases c6 : x4_1 < (l0.length : Int)
     ·rw [if_pos c6] at H
      have c6b0 : decide (x4_1 < (l0.length : Int)) = true := decide_eq_true c6
      clear c6
      by_cases c7 : 0 ≤ x4_1
      ·rw [if_pos c7] at H
       have c7b0 : decide (0 ≤ x4_1) = true := decide_eq_true c7
       clear c7
       replace H := Option.bind_eq_some_iff.mp H
       obtain ⟨⟨t229, t230⟩, A80, H⟩ := H
       replace H : (if x4_1 < (x3_1.length : Int) then (laws_toWriteS.l0 k1 l0 (x3_1.set (x4_1 : Int).toNat (⟨t229, t230⟩ : S42)) (wrap64 (x4_1 + 1))) else (none)) = some r := H
       have A8 := aM A80
       clear A80
       by_cases c9 : x4_1 < (x3_1.length : Int)
       ·rw [if_pos c9] at H
        have c9b0 : decide (x4_1 < (x3_1.length : Int)) = true := decide_eq_true c9
        clear c9
        obtain ⟨y231, hy231⟩ : ∃ y_ : List (S42), y_ = (x3_1.set (x4_1 : Int).toNat (⟨t229, t230⟩ : S42)) := ⟨_, rfl⟩
        replace H : (laws_toWriteS.l0 k1 l0 y231 (wrap64 (x4_1 + 1))) = some r := by first | (rw [hy231]; with_reducible exact H) | (have H2_ := (Option.bind_some _ _).symm.trans H; rw [hy231]; with_reducible exact H2_) | (have H2_ := (Option.bind_some _ _).symm.trans H; with_reducible exact H2_) | with_reducible exact H | (rw [hy231]; exact H) | exact H
        have Ny231 := aM hy231
        clear hy231
        have H' := aM H
        clear H
        have p228 : 0 ≤ (x4_1 : Int) := of_decide_eq_true (by first | (with_reducible assumption) | assumption)
        have q228 : x4_1 < (l0.length : Int) := of_decide_eq_true (by first | (with_reducible assumption) | assumption)
        obtain ⟨ad228, e228, hx228_0, hx228_1⟩ := at_T38 HR0.out x4_1 p228 q228
        cases e228
        replace hx228_0 := (HB.out.cell (World.block_lt_of_cell? w _ hx228_0)).trans hx228_0
        replace hx228_1 := (HB.out.cell (World.block_lt_of_cell? w _ hx228_1)).trans hx228_1
        replace p228 := eq_true p228
        replace q228 := eq_true q228
        go_wp2_with (first | ((with_reducible refine gate_callee (f := 24) rfl ?_); refine goesL_ (some 20) rfl rfl Try.func24 (by kernel_rfl) rfl #[.agg #[.int .i64 ((rd_T38 l0 x4_1).f0), .string ((rd_T38 l0 x4_1).f1)]] rfl (by (try simp only [List.map_toArray, List.map_cons, List.map_nil]); first | done | rfl | (simp only [List.length_drop, List.length_take]; rfl)) ?_; (with_reducible refine (laws_toWrite.calls ((rd_T38 l0 x4_1).f0) ((rd_T38 l0 x4_1).f1) t229 t230 _ A8.out).mono ?_); rintro e w11 ⟨rfl, hb⟩; refine ⟨_, rfl, ?_⟩; replace p0' := xK p0'.out hb; replace HB := aM (zT (zH HB.out) hb); (try clear hb); have p10 : 0 ≤ (x4_1 : Int) := of_decide_eq_true (by first | (with_reducible assumption) | assumption); have q10 : (x4_1 : Int) < ((x3_1.length : Int) : Int) := of_decide_eq_true (by first | (with_reducible assumption) | assumption); obtain ⟨go10, co10, eo10, gb10, gl10, cl10, HG10⟩ := Kd.R_form p0'.out (by omega); (first | cases eo10 | (injection eo10 with ea_ en_ ec_; (first | subst ea_ | (injection ea_ with ea_; subst ea_)); subst ec_; clear en_)); have GB10 := aM gb10; have GG10 := aM HG10; clear gb10 gl10 HG10; obtain ⟨ce10, hcl10, hM10, hcc10, hfr10⟩ := Kd.R_elem p0'.out z42 (x4_1 : Int) p10 q10; obtain rfl := k42_openM hM10; have hx10_0 : w11.cell? ⟨go10, (x4_1 : Int).toNat * 2, none⟩ = some (.int .i64 ((rd_T42 x3_1 x4_1).f0)) := hcc10 0 _ rfl; have hx10_1 : w11.cell? ⟨go10, (x4_1 : Int).toNat * 2 + 1, none⟩ = some (.string ((rd_T42 x3_1 x4_1).f1)) := hcc10 1 _ rfl; have hf10_0 : w11.frozen? ⟨go10, (x4_1 : Int).toNat * 2, none⟩ = false := hfr10 0; have hf10_1 : w11.frozen? ⟨go10, (x4_1 : Int).toNat * 2 + 1, none⟩ = false := hfr10 1; clear hcl10 hcc10 hfr10 hM10; replace p10 := eq_true p10; replace q10 := eq_true q10; have HX12 := aM (show Kd.R k42 42 w11 w.heap.size (fun _ => True) (.slice (some ⟨go10, 0, none⟩) x3_1.length co10) x3_1 from (xH p0'.out)); obtain ⟨ce12, hcl12, hM12, hcc12, hfr12⟩ := Kd.R_elem HX12.out z42 (x4_1 : Int) (of_decide_eq_true (by first | (with_reducible assumption) | assumption)) (by have h_ : (x4_1 : Int) < ((x3_1.length : Int) : Int) := of_decide_eq_true (by first | (with_reducible assumption) | assumption); first | exact h_ | (have e_ := (Kd.R_reads' p0'.out).1; omega) | simpa using h_); obtain rfl := k42_openM hM12; have HP12 := Kd.R_seg HX12.out (x4_1 : Int) (of_decide_eq_true (by first | (with_reducible assumption) | assumption)) (by have h_ : (x4_1 : Int) < ((x3_1.length : Int) : Int) := of_decide_eq_true (by first | (with_reducible assumption) | assumption); first | exact h_ | (have e_ := (Kd.R_reads' p0'.out).1; omega) | simpa using h_) (seg := [.int .i64 t229, .string t230]) (j := 0) hcl12 hcc12 (show 2 ≤ 2 from by decide) (x' := (⟨t229, t230⟩ : S42)) (k42_mkM _ _ _ (⟨t229, t230⟩ : S42) ) (fun _ hk => hk); have hx12_0 := hcc12 0 _ rfl; (try simp only [show (k42).sz = 2 from rfl, Nat.mul_one, Nat.add_zero] at hx12_0); have hf12_0 := hfr12 0; (try simp only [show (k42).sz = 2 from rfl, Nat.mul_one, Nat.add_zero] at hf12_0); have hx12_1 := hcc12 1 _ rfl; (try simp only [show (k42).sz = 2 from rfl, Nat.mul_one, Nat.add_zero] at hx12_1); have hf12_1 := hfr12 1; (try simp only [show (k42).sz = 2 from rfl, Nat.mul_one, Nat.add_zero] at hf12_1); clear hcl12 hcc12 hfr12 hM12) | ((with_reducible refine gate_store (t := 42) (p := 21) rfl ?_); refine store_event (t := 42) (p := 21) (v := ?vo_w13) (w1 := ((w11.setCell ⟨go10, (x4_1 : Int).toNat * 2, none⟩ (.int .i64 t229)).setCell ⟨go10, (x4_1 : Int).toNat * 2 + 1, none⟩ (.string t230))) ?hg ?ho ?hn ?hr ?_; (case ho => rfl); (case hg => rfl); (case hn => rfl); (case hr => first | (go_simp; done) | (go_simp; rfl)); intro w13 hw; have hg : w11.grownBy w13 (some go10) := (by rw [hw]; exact HP12.2); have hp_ : Kd.R k42 42 w13 w.heap.size (fun _ => True) (.slice (some ⟨go10, 0, none⟩) x3_1.length co10) y231 := (by rw [hw, Ny231.out]; exact HP12.1); clear HP12; replace p0' := aM (hp_); replace HB := aM ((by rw [hw]; exact zS (zS (HB.out) GB10.out) GB10.out : Below w.heap.size w w13)); clear hg hw hp_))
        go_roundg k1
        case measure => have := HK1.out; omega
        case rel => exact ⟨(y231), (wrap64 (x4_1 + 1)), (by first | rfl | (simp; done) | (simp [*]; done)), H', ⟨by have := HK1.out; omega⟩, ⟨xH p0'.out⟩, ⟨zH HB.out⟩⟩
       ·rw [if_neg c9] at H
        exact absurd H (by simp)
      ·rw [if_neg c7] at H
       exact absurd H (by simp)
     ·rw [if_neg c6] at H
      have c6b0 : decide (x4_1 < (l0.length : Int)) = false := decide_eq_false c6
      clear c6
      obtain rfl := Option.some.inj H
      go_wp2
      go_ret
      exact ⟨_, by first | rfl | (simp [errW_none, errW_some] <;> rfl) | (simp [*, errW_none, errW_some] <;> rfl), xH p0'.out, zH HB.out⟩
  ·rw [if_neg c3] at H
   exact absurd H (by simp)
 ·rw [if_neg c2] at H
  exact absurd H (by simp)

/-! ### impl_within: function 55 -/
def impl_within.f (a0 : Int) (a1 : Int) (a2 : Int) : Option (Bool) := if a0 ≥ a1 then (some (decide (a0 ≤ a2))) else (some false)
set_option maxHeartbeats 8000000 in
set_option maxRecDepth 100000 in
theorem impl_within.calls (a0 : Int) (a1 : Int) (a2 : Int) (r : Bool) (w : World) (h : impl_within.f a0 a1 a2 = some r) :
  Calls Try.prog 55 #[.int .i64 a0, .int .i64 a1, .int .i64 a2] w fun e w' => e = .returned (.bool r) ∧ Drawn0 w w' := by
 have H : (if a0 ≥ a1 then (some (decide (a0 ≤ a2))) else (some false)) = some r := h
 clear h
 by_cases c4 : a0 ≥ a1
 ·rw [if_pos c4] at H
  have c4b0 : decide (a1 ≤ a0) = true := decide_eq_true c4
  clear c4
  obtain rfl := Option.some.inj H
  go_enter Try.func55, Try.ntmps55
  go_wp2
  go_ret
  exact ⟨by first | rfl | (simp; done) | (simp [*]; done), by repeat (first | exact Drawn0.refl _ | apply Drawn0.step)⟩
 ·rw [if_neg c4] at H
  have c4b0 : decide (a1 ≤ a0) = false := decide_eq_false c4
  clear c4
  obtain rfl := Option.some.inj H
  go_enter Try.func55, Try.ntmps55
  go_wp2
  go_ret
  exact ⟨by first | rfl | (simp; done) | (simp [*]; done), by repeat (first | exact Drawn0.refl _ | apply Drawn0.step)⟩

/-! ### impl_GoodDevice: function 16 (by hand) -/

def impl_GoodDevice.firstS (p : ByteArray → Bool) : List ByteArray → Int → Int
 | [], _ => -1
 | x :: l, i => if p x = true then i else impl_GoodDevice.firstS p l (i + 1)
theorem impl_GoodDevice.first_anyS (p : ByteArray → Bool) : ∀ (l : List ByteArray) (i : Int), 0 ≤ i → (decide (impl_GoodDevice.firstS p l i ≥ 0)) = l.any p
 | [], i, _ => rfl
 | x :: l, i, h => by
  have ih := impl_GoodDevice.first_anyS p l (i + 1) (by omega)
  rw [List.any_cons, ← ih]
  have e : impl_GoodDevice.firstS p (x :: l) i = if p x = true then i else impl_GoodDevice.firstS p l (i + 1) := rfl
  generalize impl_GoodDevice.firstS p (x :: l) i = u at e ⊢
  generalize impl_GoodDevice.firstS p l (i + 1) = v at e ⊢
  subst e
  cases hp : p x with
  | true => rw [if_pos rfl, decide_eq_true h]; rfl
  | false => rw [if_neg (by decide)]; rfl
theorem impl_GoodDevice.first_atS (p : ByteArray → Bool) (l : List ByteArray) (i : Nat) (h : i < l.length) : impl_GoodDevice.firstS p (l.drop i) (i : Int) = if p (rdOf ByteArray.empty l (i : Int)) = true then (i : Int) else impl_GoodDevice.firstS p (l.drop (i + 1)) ((i + 1 : Nat) : Int) := by
 rw [List.drop_eq_getElem_cons h, impl_GoodDevice.firstS]
 have e : rdOf ByteArray.empty l (i : Int) = l[i] := by simp [rdOf, List.getD_eq_getElem?_getD, h]
 rw [e]; rfl
set_option maxHeartbeats 8000000 in
set_option maxRecDepth 100000 in
theorem impl_GoodDevice.indexS (p : ByteArray → Bool) (A0 : Option Addr) (c0 : Nat) (l0 : List ByteArray) (w : World) (hr0 : Kd.C Kd.string w A0 l0.length l0)
  (hclo : ∀ (s : ByteArray) (m : Nat), Calls Try.prog 57 #[.string s] (w.drewN m) fun e w' => e = .returned (.bool (p s)) ∧ Drawn0 (w.drewN m) w') :
  Calls Try.prog 85 #[.slice A0 l0.length c0, .func (.func 57) #[] #[]] w fun e w' => e = .returned (.int .i64 (impl_GoodDevice.firstS p l0 0)) ∧ Drawn0 w w' := by
 have HR0 := aM hr0
 have HCL := aM hclo
 have HL : l0.length ≤ 9223372036854775807 := hr0.2.1
 clear hr0 hclo
 go_enter Try.func85, Try.ntmps85
 go_wp2
 go_loopw [8] (fun v8 w' => ∃ i : Nat, i ≤ l0.length ∧ v8 = .int .i64 (i : Int) ∧ Aside0 (impl_GoodDevice.firstS p l0 0 = impl_GoodDevice.firstS p (l0.drop i) (i : Int)) ∧ Drawn0 w w') (fun v8 w' => l0.length - (intOf v8).toNat)
 case atStart => exact ⟨0, Nat.zero_le _, rfl, ⟨rfl⟩, Drawn0.refl _⟩
 case round =>
  obtain ⟨i, hi, rfl, HA, ⟨m1, rfl⟩⟩ := hrel
  by_cases hlt : i < l0.length
  ·have hf := impl_GoodDevice.first_atS p l0 i hlt
   have p1 : 0 ≤ (i : Int) := by omega
   have q1 : (i : Int) < (l0.length : Int) := by omega
   obtain ⟨ad1, e1, hx1⟩ := Kd.at_string HR0.out (i : Int) p1 q1
   cases e1
   (try rw [Int.toNat_natCast] at hx1)
   have hw1 : wrap64 ((i : Int) + 1) = ((i + 1 : Nat) : Int) := by unfold wrap64; omega
   generalize hs : rdOf ByteArray.empty l0 (i : Int) = s at hx1 hf
   have cl := HCL.out s
   by_cases hp : p s = true
   ·have HF := aM (show impl_GoodDevice.firstS p l0 0 = (i : Int) by rw [HA.out, hf, if_pos hp])
    have HCS := aM cl
    have HP := aM hp
    clear hf cl hs hp HA hw1
    go_wp2_with (go_at_call 57; refine (HCS.out _).mono ?_; rintro e w2 ⟨rfl, ⟨m2, rfl⟩⟩; rw [HP.out])
    go_ret
    exact ⟨by rw [HF.out]; rfl, by repeat (first | exact Drawn0.refl _ | apply Drawn0.step)⟩
   ·have hpf : p s = false := by simpa using hp
    have HF := aM (show impl_GoodDevice.firstS p l0 0 = impl_GoodDevice.firstS p (l0.drop (i + 1)) ((i + 1 : Nat) : Int) by rw [HA.out, hf, if_neg hp])
    have HCS := aM cl
    have HP := aM hpf
    have HW1 := aM hw1
    clear hf cl hs hp hpf HA hw1
    go_wp2_with (go_at_call 57; refine (HCS.out _).mono ?_; rintro e w2 ⟨rfl, ⟨m2, rfl⟩⟩; rw [HP.out])
    go_roundw
    case rel => exact ⟨i + 1, by omega, by go_num, HF, by repeat (first | exact Drawn0.refl _ | apply Drawn0.step)⟩
    case measure => simp [intOf]; omega
  ·have hlen : i = l0.length := by omega
   have HF := aM (show impl_GoodDevice.firstS p l0 0 = -1 by rw [HA.out, hlen, List.drop_length]; rfl)
   clear HA hlen
   go_wp2
   go_ret
   exact ⟨by rw [HF.out]; rfl, by repeat (first | exact Drawn0.refl _ | apply Drawn0.step)⟩
set_option maxHeartbeats 8000000 in
theorem impl_GoodDevice.containsS (p : ByteArray → Bool) (A0 : Option Addr) (c0 : Nat) (l0 : List ByteArray) (w : World) (hr0 : Kd.C Kd.string w A0 l0.length l0)
  (hclo : ∀ (s : ByteArray) (m : Nat), Calls Try.prog 57 #[.string s] (w.drewN m) fun e w' => e = .returned (.bool (p s)) ∧ Drawn0 (w.drewN m) w') :
  Calls Try.prog 56 #[.slice A0 l0.length c0, .func (.func 57) #[] #[]] w fun e w' => e = .returned (.bool (l0.any p)) ∧ Drawn0 w w' := by
 have HI := aM (impl_GoodDevice.indexS p A0 c0 l0 w hr0 hclo)
 have HE := aM (impl_GoodDevice.first_anyS p l0 0 (by omega))
 clear hr0 hclo
 go_enter Try.func56, Try.ntmps56
 go_wp2_with (go_at_call 85; refine HI.out.mono ?_; rintro e w2 ⟨rfl, ⟨m2, rfl⟩⟩)
 go_ret
 exact ⟨by rw [← HE.out]; rfl, by repeat (first | exact Drawn0.refl _ | apply Drawn0.step)⟩

def impl_GoodDevice.firstW (p : S42 → Bool) : List S42 → Int → Int
 | [], _ => -1
 | x :: l, i => if p x = true then i else impl_GoodDevice.firstW p l (i + 1)
theorem impl_GoodDevice.first_anyW (p : S42 → Bool) : ∀ (l : List S42) (i : Int), 0 ≤ i → (decide (impl_GoodDevice.firstW p l i ≥ 0)) = l.any p
 | [], i, _ => rfl
 | x :: l, i, h => by
  have ih := impl_GoodDevice.first_anyW p l (i + 1) (by omega)
  rw [List.any_cons, ← ih]
  have e : impl_GoodDevice.firstW p (x :: l) i = if p x = true then i else impl_GoodDevice.firstW p l (i + 1) := rfl
  generalize impl_GoodDevice.firstW p (x :: l) i = u at e ⊢
  generalize impl_GoodDevice.firstW p l (i + 1) = v at e ⊢
  subst e
  cases hp : p x with
  | true => rw [if_pos rfl, decide_eq_true h]; rfl
  | false => rw [if_neg (by decide)]; rfl
theorem impl_GoodDevice.first_atW (p : S42 → Bool) (l : List S42) (i : Nat) (h : i < l.length) : impl_GoodDevice.firstW p (l.drop i) (i : Int) = if p (rd_T42 l (i : Int)) = true then (i : Int) else impl_GoodDevice.firstW p (l.drop (i + 1)) ((i + 1 : Nat) : Int) := by
 rw [List.drop_eq_getElem_cons h, impl_GoodDevice.firstW]
 have e : rd_T42 l (i : Int) = l[i] := by simp [rd_T42, List.getD_eq_getElem?_getD, h]
 rw [e]; rfl
set_option maxHeartbeats 8000000 in
set_option maxRecDepth 100000 in
theorem impl_GoodDevice.indexW (p : S42 → Bool) (A0 : Option Addr) (c0 : Nat) (l0 : List S42) (g : Nat) (w : World) (hr0 : Kd.C k42 w A0 l0.length l0)
  (hclo : ∀ (s : S42) (w1 : World), Below w.heap.size w w1 → Calls Try.prog 59 #[.agg #[.int .i64 s.f0, .string s.f1], .pointer (some ⟨g, 0, none⟩)] w1 fun e w' => e = .returned (.bool (p s)) ∧ Below w1.heap.size w1 w') :
  Calls Try.prog 86 #[.slice A0 l0.length c0, .func (.func 59) #[] #[.pointer (some ⟨g, 0, none⟩)]] w fun e w' => e = .returned (.int .i64 (impl_GoodDevice.firstW p l0 0)) ∧ Below w.heap.size w w' := by
 have HR0 := aM hr0
 have HCL := aM hclo
 have HL : l0.length ≤ 9223372036854775807 := hr0.2.1
 clear hr0 hclo
 go_enter Try.func86, Try.ntmps86
 go_wp2
 go_loopw [8] (fun v8 w' => ∃ i : Nat, i ≤ l0.length ∧ v8 = .int .i64 (i : Int) ∧ Aside0 (impl_GoodDevice.firstW p l0 0 = impl_GoodDevice.firstW p (l0.drop i) (i : Int)) ∧ Aside0 (Below w.heap.size w w')) (fun v8 w' => l0.length - (intOf v8).toNat)
 case atStart => exact ⟨0, Nat.zero_le _, rfl, ⟨rfl⟩, ⟨by repeat (first | exact Below.refl _ _ | apply zD | apply zN)⟩⟩
 case round =>
  obtain ⟨i, hi, rfl, HA, HB⟩ := hrel
  by_cases hlt : i < l0.length
  ·have hf := impl_GoodDevice.first_atW p l0 i hlt
   have p1 : 0 ≤ (i : Int) := by omega
   have q1 : (i : Int) < (l0.length : Int) := by omega
   obtain ⟨ad1, e1, hx1_0, hx1_1⟩ := at_T42 (cB HR0.out HB.out) (i : Int) p1 q1
   cases e1
   (try rw [Int.toNat_natCast] at hx1_0 hx1_1)
   have hw1 : wrap64 ((i : Int) + 1) = ((i + 1 : Nat) : Int) := by unfold wrap64; omega
   generalize hs : rd_T42 l0 (i : Int) = s at hx1_0 hx1_1 hf
   have cl := HCL.out s
   by_cases hp : p s = true
   ·have HF := aM (show impl_GoodDevice.firstW p l0 0 = (i : Int) by rw [HA.out, hf, if_pos hp])
    have HCS := aM cl
    have HP := aM hp
    clear hf cl hs hp HA hw1
    go_wp2_with (go_at_call 59; go_loud (refine (HCS.out _ (by repeat (first | exact HB.out | apply zD | apply zN))).mono ?_); rintro e w2 ⟨rfl, hb2⟩; have HB2 := aM (zT (by repeat (first | exact HB.out | apply zD | apply zN)) hb2); clear hb2; rw [HP.out])
    go_ret
    exact ⟨by rw [HF.out]; rfl, by repeat (first | exact HB2.out | exact HB.out | apply zD | apply zN)⟩
   ·have hpf : p s = false := by simpa using hp
    have HF := aM (show impl_GoodDevice.firstW p l0 0 = impl_GoodDevice.firstW p (l0.drop (i + 1)) ((i + 1 : Nat) : Int) by rw [HA.out, hf, if_neg hp])
    have HCS := aM cl
    have HP := aM hpf
    have HW1 := aM hw1
    clear hf cl hs hp hpf HA hw1
    go_wp2_with (go_at_call 59; go_loud (refine (HCS.out _ (by repeat (first | exact HB.out | apply zD | apply zN))).mono ?_); rintro e w2 ⟨rfl, hb2⟩; have HB2 := aM (zT (by repeat (first | exact HB.out | apply zD | apply zN)) hb2); clear hb2; rw [HP.out])
    go_roundw
    case rel => exact ⟨i + 1, by omega, by go_num, HF, ⟨by repeat (first | exact HB2.out | apply zD | apply zN)⟩⟩
    case measure => simp [intOf]; omega
  ·have hlen : i = l0.length := by omega
   have HF := aM (show impl_GoodDevice.firstW p l0 0 = -1 by rw [HA.out, hlen, List.drop_length]; rfl)
   clear HA hlen
   go_wp2
   go_ret
   exact ⟨by rw [HF.out]; rfl, by repeat (first | exact HB.out | apply zD | apply zN)⟩
set_option maxHeartbeats 8000000 in
theorem impl_GoodDevice.containsW (p : S42 → Bool) (A0 : Option Addr) (c0 : Nat) (l0 : List S42) (g : Nat) (w : World) (hr0 : Kd.C k42 w A0 l0.length l0)
  (hclo : ∀ (s : S42) (w1 : World), Below w.heap.size w w1 → Calls Try.prog 59 #[.agg #[.int .i64 s.f0, .string s.f1], .pointer (some ⟨g, 0, none⟩)] w1 fun e w' => e = .returned (.bool (p s)) ∧ Below w1.heap.size w1 w') :
  Calls Try.prog 58 #[.slice A0 l0.length c0, .func (.func 59) #[] #[.pointer (some ⟨g, 0, none⟩)]] w fun e w' => e = .returned (.bool (l0.any p)) ∧ Below w.heap.size w w' := by
 have HI := aM (impl_GoodDevice.indexW p A0 c0 l0 g w hr0 hclo)
 have HE := aM (impl_GoodDevice.first_anyW p l0 0 (by omega))
 clear hr0 hclo
 go_enter Try.func58, Try.ntmps58
 go_wp2_with (go_at_call 86; refine HI.out.mono ?_; rintro e w2 ⟨rfl, hb2⟩; have HB2 := aM hb2; clear hb2)
 go_ret
 exact ⟨by rw [← HE.out]; rfl, by repeat (first | exact HB2.out | apply zD | apply zN)⟩

set_option maxHeartbeats 8000000 in
theorem impl_GoodDevice.cloS (s : ByteArray) (w : World) : Calls Try.prog 57 #[.string s] w fun e w' => e = .returned (.bool ((s.size : Int) != 8)) ∧ Drawn0 w w' := by
 go_enter Try.func57, Try.ntmps57
 go_wp2
 go_ret
 exact ⟨by first | rfl | (simp; done) | (simp [*]; done), by repeat (first | exact Drawn0.refl _ | apply Drawn0.step)⟩
set_option maxHeartbeats 400000 in
theorem impl_GoodDevice.cloW0 (s : S42) (A0 : Option Addr) (c0 : Nat) (l0 : List ByteArray) (v1 : Value) (g : Nat) (w : World) (b : Bool) (hg : w.heap[g]? = some (.cells #[.slice A0 l0.length c0, v1] 30 (0, 0))) (hb : impl_within.f s.f0 0 (wrap64 ((l0.length : Int) - 1)) = some b) :
  Calls Try.prog 59 #[.agg #[.int .i64 s.f0, .string s.f1], .pointer (some ⟨g, 0, none⟩)] w fun e w' => e = .returned (.bool (!b || (s.f1.size : Int) != 8)) ∧ Below w.heap.size w w' := by
 have hlt := blk_lt hg
 have HG := aM hg
 have HW := aM hb
 clear hg hb
 cases b
 all_goals
  go_enter Try.func59, Try.ntmps59
  go_wp2_with (first | ((with_reducible refine gate_dst (N := 2) rfl ?_); refine box_event ?hg (N := 2) ?hd (cs := #[.int .i64 s.f0, .string s.f1]) (t := 42) ?hr ?_; (case hd => rfl); (case hg => rfl); (case hr => first | (go_simp; done) | (go_simp; rfl)); intro g2 hg2 w2 hb2 hbel; have HBL := aM hbel; have hcz0 : w2.cell? ⟨g2, 0, none⟩ = some (.int .i64 s.f0) := (yC hb2 0).trans rfl; have hcz1 : w2.cell? ⟨g2, 1, none⟩ = some (.string s.f1) := (yC hb2 1).trans rfl; have hcg : w2.cell? ⟨g, 0, none⟩ = some (.slice A0 l0.length c0) := (yC (yB HG.out hbel) 0).trans rfl; clear hb2 hbel hg2) | (go_at_call 55; refine (impl_within.calls _ _ _ _ _ HW.out).mono ?_; rintro e w3 ⟨rfl, ⟨m3, rfl⟩⟩))
  go_ret
  exact ⟨by first | rfl | (simp; done) | (simp [*]; done), by repeat (first | exact HBL.out | apply zA | apply zN | apply zD)⟩
/-- a write that does not fit n sectors -/
def badWrite (n : Nat) (s : S42) : Bool := !(decide (s.f0 ≥ 0 ∧ s.f0 ≤ (n : Int) - 1)) || (s.f1.size : Int) != 8
theorem impl_GoodDevice.within_w (x : Int) (n : Nat) (hl : n ≤ 9223372036854775807) : impl_within.f x 0 (wrap64 ((n : Int) - 1)) = some (decide (x ≥ 0 ∧ x ≤ (n : Int) - 1)) := by
 have w1 : wrap64 ((n : Int) - 1) = (n : Int) - 1 := by unfold wrap64; omega
 rw [w1]
 unfold impl_within.f
 by_cases h : x ≥ 0
 ·rw [if_pos h]; congr 1; rw [decide_eq_decide]; omega
 ·rw [if_neg h]; congr 1; exact (decide_eq_false (by omega)).symm
theorem impl_GoodDevice.cloW (s : S42) (A0 : Option Addr) (c0 : Nat) (l0 : List ByteArray) (v1 : Value) (g : Nat) (w : World) (hg : w.heap[g]? = some (.cells #[.slice A0 l0.length c0, v1] 30 (0, 0))) (hl : l0.length ≤ 9223372036854775807) :
  Calls Try.prog 59 #[.agg #[.int .i64 s.f0, .string s.f1], .pointer (some ⟨g, 0, none⟩)] w fun e w' => e = .returned (.bool (badWrite l0.length s)) ∧ Below w.heap.size w w' :=
 impl_GoodDevice.cloW0 s A0 c0 l0 v1 g w _ hg (impl_GoodDevice.within_w s.f0 l0.length hl)
theorem impl_GoodDevice.cont1 (A0 : Option Addr) (c0 : Nat) (l0 : List ByteArray) (w : World) (hr0 : Kd.C Kd.string w A0 l0.length l0) (b : Bool) (hb : (l0.any fun s => (s.size : Int) != 8) = b) :
  Calls Try.prog 56 #[.slice A0 l0.length c0, .func (.func 57) #[] #[]] w fun e w' => e = .returned (.bool b) ∧ Drawn0 w w' := by
 subst hb
 exact impl_GoodDevice.containsS _ A0 c0 l0 w hr0 (fun s m => impl_GoodDevice.cloS s _)
theorem impl_GoodDevice.cont2 (A0 A1 : Option Addr) (c0 c1 : Nat) (l0 : List ByteArray) (l1 : List S42) (v1 : Value) (g : Nat) (w : World) (hg : w.heap[g]? = some (.cells #[.slice A0 l0.length c0, v1] 30 (0, 0))) (hl : l0.length ≤ 9223372036854775807) (hr1 : Kd.C k42 w A1 l1.length l1) (b : Bool) (hb : l1.any (badWrite l0.length) = b) :
  Calls Try.prog 58 #[.slice A1 l1.length c1, .func (.func 59) #[] #[.pointer (some ⟨g, 0, none⟩)]] w fun e w' => e = .returned (.bool b) ∧ Below w.heap.size w w' := by
 subst hb
 exact impl_GoodDevice.containsW _ A1 c1 l1 g w hr1 (fun s w1 hw1 => impl_GoodDevice.cloW s A0 c0 l0 v1 g w1 (yB hg hw1) hl)
/-- what a device's form asks -/
def goodD (xs : List ByteArray) (ws : List S42) : Bool :=
 decide (1 ≤ xs.length ∧ xs.length ≤ 32) && (decide (ws.length ≤ 60) && (!(xs.any fun s => (s.size : Int) != 8) && !(ws.any (badWrite xs.length))))
def impl_GoodDevice.f (l0_0 : List ByteArray) (l0_1 : List (S42)) : Option (Bool) :=
 some (goodD l0_0 l0_1)
set_option maxHeartbeats 800000 in
set_option maxRecDepth 100000 in
theorem impl_GoodDevice.calls (A0_0 : Option Addr) (c0_0 : Nat) (l0_0 : List ByteArray) (A0_1 : Option Addr) (c0_1 : Nat) (l0_1 : List (S42)) (r : Bool) (w : World) (hr0_0 : Kd.C Kd.string w A0_0 l0_0.length l0_0) (hc0_0 : l0_0.length ≤ c0_0) (hr0_1 : Kd.C k42 w A0_1 l0_1.length l0_1) (hc0_1 : l0_1.length ≤ c0_1) (h : impl_GoodDevice.f l0_0 l0_1 = some r) :
  Calls Try.prog 16 #[.agg #[.slice A0_0 l0_0.length c0_0, .slice A0_1 l0_1.length c0_1]] w fun e w' => e = .returned (.bool r) ∧ Below w.heap.size w w' := by
 obtain rfl := Option.some.inj h
 clear h
 have hl0 := hr0_0.2.1
 have hl1 := hr0_1.2.1
 have HR0 := aM hr0_0
 have HR1 := aM hr0_1
 have HL0 := aM hl0
 obtain ⟨b1, e1⟩ : ∃ b, (l0_0.any fun s => (s.size : Int) != 8) = b := ⟨_, rfl⟩
 obtain ⟨b2, e2⟩ : ∃ b, l0_1.any (badWrite l0_0.length) = b := ⟨_, rfl⟩
 have HE1 := aM e1
 have HE2 := aM e2
 obtain ⟨b0, e0⟩ : ∃ b, decide (1 ≤ l0_0.length ∧ l0_0.length ≤ 32) = b := ⟨_, rfl⟩
 have HW := aM (show impl_within.f (l0_0.length : Int) 1 32 = some b0 by
  subst e0
  unfold impl_within.f
  by_cases h2 : (l0_0.length : Int) ≥ 1
  ·rw [if_pos h2]; congr 1; rw [decide_eq_decide]; omega
  ·rw [if_neg h2]; congr 1; exact (decide_eq_false (by omega)).symm)
 have HG : Aside0 (goodD l0_0 l0_1 = (b0 && (decide (l0_1.length ≤ 60) && (!b1 && !b2)))) := ⟨by unfold goodD; rw [e0, e1, e2]⟩
 rw [HG.out]
 clear e1 e2 e0 hr0_0 hr0_1 hc0_0 hc0_1 HG hl0
 by_cases h60 : l0_1.length ≤ 60
 all_goals
  first
  | (have d60 : decide ((l0_1.length : Int) > 60) = false := decide_eq_false (by omega))
  | (have d60 : decide ((l0_1.length : Int) > 60) = true := decide_eq_true (by omega))
  first | rw [decide_eq_true h60] | rw [decide_eq_false h60]
  clear h60
  cases b0
  all_goals
   cases b1
   all_goals
    go_enter Try.func16, Try.ntmps16
    go_wp2_with (first | ((with_reducible refine gate_dst (N := 1) rfl ?_); refine box_event ?hg (N := 1) ?hd (cs := #[.slice A0_0 l0_0.length c0_0, .slice A0_1 l0_1.length c0_1]) (t := 30) ?hr ?_; (case hd => rfl); (case hg => rfl); (case hr => first | (go_simp; done) | (go_simp; rfl)); intro g2 hg2 w2 hb2 hbel; have HBL := aM hbel; have HB2 := aM hb2; have hcz0 : w2.cell? ⟨g2, 0, none⟩ = some (.slice A0_0 l0_0.length c0_0) := (yC hb2 0).trans rfl; have hcz1 : w2.cell? ⟨g2, 1, none⟩ = some (.slice A0_1 l0_1.length c0_1) := (yC hb2 1).trans rfl; clear hb2 hbel hg2) | (go_at_call 55; refine (impl_within.calls _ _ _ _ _ HW.out).mono ?_; rintro e w3 ⟨rfl, ⟨m3, rfl⟩⟩) | (go_at_call 56; go_loud (refine (impl_GoodDevice.cont1 _ c0_0 l0_0 _ (cB HR0.out (by repeat (first | exact HBL.out | apply zA | apply zN | apply zD))) _ HE1.out).mono ?_); rintro e w4 ⟨rfl, ⟨m4, rfl⟩⟩) | (go_at_call 58; go_loud (refine (impl_GoodDevice.cont2 A0_0 _ c0_0 c0_1 l0_0 l0_1 _ g2 _ (by repeat (first | exact HB2.out | apply yN)) HL0.out (cB HR1.out (by repeat (first | exact HBL.out | apply zA | apply zN | apply zD))) _ HE2.out).mono ?_); rintro e w5 ⟨rfl, hbf⟩; have HBL := aM (zT (by repeat (first | exact HBL.out | apply zD | apply zN)) hbf); clear hbf))
    go_ret
    exact ⟨by first | rfl | (simp; done) | (simp [*]; done), by repeat (first | exact HBL.out | apply zA | apply zN | apply zD)⟩


/-! ### slices_Clone_string_string: function 66 (by hand) -/
/-- slices.Clone -/
def slices_Clone_string_string.f (l0 : List ByteArray) : Option (List ByteArray) :=
 if l0.length < 8796093022208 then some l0 else none
set_option maxHeartbeats 8000000 in
set_option maxRecDepth 100000 in
theorem slices_Clone_string_string.calls (A0 : Option Addr) (c0 : Nat) (l0 : List ByteArray) (r : List ByteArray) (w : World) (hr0 : Kd.C Kd.string w A0 l0.length l0) (hc0 : l0.length ≤ c0) (h : slices_Clone_string_string.f l0 = some r) :
  Calls Try.prog 66 #[.slice A0 l0.length c0] w fun e w' => ∃ v0_ : Value, e = .returned (v0_) ∧ Kd.R Kd.string 9 w' w.heap.size (fun _ => True) v0_ r ∧ Below w.heap.size w w' := by
 unfold slices_Clone_string_string.f at h
 by_cases hl : l0.length < 8796093022208
 case neg => rw [if_neg hl] at h; cases h
 rw [if_pos hl] at h
 obtain rfl := Option.some.inj h
 clear h
 have LM := aM hl
 clear hl
 have HR0 := aM hr0
 have HC0 := aM hc0
 clear hr0 hc0
 have HB := aM (Below.refl w.heap.size w)
 cases A0 with
 | none =>
  obtain rfl : l0 = [] := by
   rcases Nat.eq_zero_or_pos l0.length with h0 | h0
   ·exact List.eq_nil_of_length_eq_zero h0
   ·obtain ⟨a, ha, _⟩ := HR0.out.2.2 h0; cases ha
  have he : ∀ w : World, (binOp .eql 22 (.slice none 0 c0) (.slice none 0 0)).run Try.prog w = .ok (.bool true) w := fun _ => rfl
  go_enter Try.func66, Try.ntmps66
  go_wp2
  go_ret
  exact ⟨_, rfl, Kd.R_nil _ _ _ _ _, by repeat (first | exact HB.out | apply zA | apply zN | apply zD)⟩
 | some a_ =>
  have he : ∀ w : World, (binOp .eql 22 (.slice (some a_) l0.length c0) (.slice none 0 0)).run Try.prog w = .ok (.bool false) w := fun _ => rfl
  go_enter Try.func66, Try.ntmps66
  go_wp2_with (first | ((with_reducible refine gate_dst (N := 5) rfl ?_); refine Kd.R_lit Kd.string _ 9 ?hg (N := 5) ?hd (xs := ([] : List ByteArray)) (inner := []) (ok := fun _ => True) (okp := fun _ => True) ?hr ?hp (fun _ hk => hk) trivial (Below.refl _ _) (Nat.le_refl _) (by simp) ?_; (case hd => rfl); (case hg => rfl); (case hr => first | (go_simp; done) | (go_simp; rfl)); (case hp => exact (Reps.none _ _)); intro v158 w5 ho6 hb hg_ hnew_; clear hg_ hnew_; have HO159 := aM (xL ho6 (zZ (by repeat (first | exact HB.out | apply zA | apply zN | apply zD)))); replace HB := aM (zT (by repeat (first | exact HB.out | apply zA | apply zN | apply zD)) hb); clear hb ho6) | ((with_reducible refine gate_builtin (b := .append) (xs := #[.tmp 5, .tmp 6]) rfl ?_); at_builtin; refine Kd.R_append_rows Kd.string (w0 := w) w.heap.size rfl (.tmp 5) (.tmp 6) 22 9 ((.string ⟨#[]⟩)) 16 rfl Try.underlying22 (by kernel_rfl) rfl (by decide) (by omega) v158 [] l0 _ _ _ (fun _ => True) (fun _ => False) rfl rfl ?aO ?aR (fun _ _ h => h) (fun _ h => h.elim) ?aF ?aB ?aS ?aL ?_; (case aR => exact cK HR0.out HB.out); (case aB => exact (by repeat (first | exact HB.out | apply zA | apply zN | apply zD))); (case aF => exact (fun _ _ => trivial)); (case aO => exact (xH HO159.out)); (case aS => exact (zZ (by repeat (first | exact HB.out | apply zA | apply zN | apply zD)))); (case aL => have := LM.out; simp only [List.length_nil]; omega); intro v161 w9 ho hb hg hat; replace HB := aM (hb); have HO162 := aM (ho); clear HO159; clear ho hb hg hat; obtain ⟨Ao10, co10, eo10⟩ := Kd.R_slice HO162.out; subst eo10))
  go_ret
  exact ⟨_, rfl, xH HO162.out, by repeat (first | exact HB.out | apply zA | apply zN | apply zD)⟩


/-! ### impl_Write: function 67 (by hand) -/
/-- slices.Clone -/
def impl_Write.f (l0 : List (S42)) : Option ((List (S42))) :=
 if l0.length < 5864062014805 then some l0 else none
set_option maxHeartbeats 8000000 in
set_option maxRecDepth 100000 in
theorem impl_Write.calls (A0 : Option Addr) (c0 : Nat) (l0 : List (S42)) (r : List (S42)) (w : World) (hr0 : Kd.C k42 w A0 l0.length l0) (hc0 : l0.length ≤ c0) (h : impl_Write.f l0 = some r) :
  Calls Try.prog 67 #[.slice A0 l0.length c0] w fun e w' => ∃ v0_ : Value, e = .returned (v0_) ∧ Kd.R k42 42 w' w.heap.size (fun _ => True) v0_ r ∧ Below w.heap.size w w' := by
 unfold impl_Write.f at h
 by_cases hl : l0.length < 5864062014805
 case neg => rw [if_neg hl] at h; cases h
 rw [if_pos hl] at h
 obtain rfl := Option.some.inj h
 clear h
 have LM := aM hl
 clear hl
 have HR0 := aM hr0
 have HC0 := aM hc0
 clear hr0 hc0
 have HB := aM (Below.refl w.heap.size w)
 cases A0 with
 | none =>
  obtain rfl : l0 = [] := by
   rcases Nat.eq_zero_or_pos l0.length with h0 | h0
   ·exact List.eq_nil_of_length_eq_zero h0
   ·obtain ⟨a, ha, _⟩ := HR0.out.2.2 h0; cases ha
  have he : ∀ w : World, (binOp .eql 28 (.slice none 0 c0) (.slice none 0 0)).run Try.prog w = .ok (.bool true) w := fun _ => rfl
  go_enter Try.func67, Try.ntmps67
  go_wp2
  go_ret
  exact ⟨_, rfl, Kd.R_nil _ _ _ _ _, by repeat (first | exact HB.out | apply zA | apply zN | apply zD)⟩
 | some a_ =>
  have he : ∀ w : World, (binOp .eql 28 (.slice (some a_) l0.length c0) (.slice none 0 0)).run Try.prog w = .ok (.bool false) w := fun _ => rfl
  go_enter Try.func67, Try.ntmps67
  go_wp2_with (first | ((with_reducible refine gate_dst (N := 5) rfl ?_); refine Kd.R_lit k42 _ 42 ?hg (N := 5) ?hd (xs := ([] : List S42)) (inner := []) (ok := fun _ => True) (okp := fun _ => True) ?hr ?hp (fun _ hk => hk) trivial (Below.refl _ _) (Nat.le_refl _) (by simp) ?_; (case hd => rfl); (case hg => rfl); (case hr => first | (go_simp; done) | (go_simp; rfl)); (case hp => exact (Reps.none _ _)); intro v158 w5 ho6 hb hg_ hnew_; clear hg_ hnew_; have HO159 := aM (xL ho6 (zZ (by repeat (first | exact HB.out | apply zA | apply zN | apply zD)))); replace HB := aM (zT (by repeat (first | exact HB.out | apply zA | apply zN | apply zD)) hb); clear hb ho6) | ((with_reducible refine gate_builtin (b := .append) (xs := #[.tmp 5, .tmp 6]) rfl ?_); at_builtin; refine Kd.R_append_rows k42 (w0 := w) w.heap.size rfl (.tmp 5) (.tmp 6) 28 42 ((.agg #[(.int .i64 0), (.string ⟨#[]⟩)])) 24 rfl Try.underlying28 (by kernel_rfl) rfl (by decide) (by omega) v158 [] l0 _ _ _ (fun _ => True) (fun _ => False) rfl rfl ?aO ?aR (fun _ _ h => h) (fun _ h => h.elim) ?aF ?aB ?aS ?aL ?_; (case aR => exact cK HR0.out HB.out); (case aB => exact (by repeat (first | exact HB.out | apply zA | apply zN | apply zD))); (case aF => exact (fun _ _ => trivial)); (case aO => exact (xH HO159.out)); (case aS => exact (zZ (by repeat (first | exact HB.out | apply zA | apply zN | apply zD)))); (case aL => have := LM.out; simp only [List.length_nil]; omega); intro v161 w9 ho hb hg hat; replace HB := aM (hb); have HO162 := aM (ho); clear HO159; clear ho hb hg hat; obtain ⟨Ao10, co10, eo10⟩ := Kd.R_slice HO162.out; subst eo10))
  go_ret
  exact ⟨_, rfl, xH HO162.out, by repeat (first | exact HB.out | apply zA | apply zN | apply zD)⟩


end Go.Proofs.Ytlhgkbleciokmaa.PFnExactPlayDevice
