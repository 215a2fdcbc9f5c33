/- The walks of FnBuddies: Go's calls come to what the Lean functions beside them say; no condition. -/
import Derived.Test.YtbjcioihomeikaaQFnBuddiesx0
import Derived.Test.YtbjcioihomeikaaQFnBuddiesx6
import Derived.Test.YtbjcioihomeikaaQFnBuddiesx7
import Derived.Test.YtbjcioihomeikaaQFnBuddiesx8
namespace Go.Proofs.Ytbjcioihomeikaa.PFnBuddies
open Go.RowKit Go.Proofs.YtbjcioihomeikaaW.PrintWords Go.Proofs.YtbjcioihomeikaaW.PrintLast Go.Proofs.YtbjcioihomeikaaW.PrintMore
attribute [local go_sem] max2_int min2_int max_two min_two max_three min_three max_four min_four   -- for this text's walks alone
set_option linter.unusedVariables false
set_option linter.unusedSimpArgs false
set_option maxRecDepth 100000

/-! ### impl_GoodBuddy_1: function 54 -/
def impl_GoodBuddy_1.f (k : Nat) (a0_0 : Int) (a0_1 : Int) (a1_0 : Int) (l1_1 : List (S45)) (l1_2 : List (S45)) : Option (Bool) := (impl_Block_buddy.f a0_0 a0_1).bind fun bt230 => ((impl_Block_37.f k l1_1 bt230.1 bt230.2).bind fun t232 => (some t232))
theorem impl_GoodBuddy_1.mono : ∀ a0 a1 a2 a3 a4 k, LeO (impl_GoodBuddy_1.f k a0 a1 a2 a3 a4) (impl_GoodBuddy_1.f (k + 1) a0 a1 a2 a3 a4) := by
 intro a0 a1 a2 a3 a4 k
 unfold impl_GoodBuddy_1.f
 repeat' first
   | (with_reducible exact impl_Block_37.mono _ _ _ _)
   | (with_reducible exact LeO.refl _)
   | (with_reducible exact LeO.none _)
   | (with_reducible refine LeO.ite ?_ ?_)
   | (with_reducible refine LeO.bind ?_ (fun _ => ?_))
   | exact impl_Block_37.mono _ _ _ _
   | exact LeO.none _
   | refine LeO.ite ?_ ?_
   | refine LeO.bind ?_ (fun _ => ?_)
set_option maxHeartbeats 8000000 in
set_option maxRecDepth 100000 in
theorem impl_GoodBuddy_1.calls (k : Nat) (a0_0 : Int) (a0_1 : Int) (a1_0 : Int) (A1_1 : Option Addr) (c1_1 : Nat) (l1_1 : List (S45)) (A1_2 : Option Addr) (c1_2 : Nat) (l1_2 : List (S45)) (r : Bool) (w : World) (gbx : Nat) (hgbx : w.heap[gbx]? = some (.cells #[.int .i64 a1_0, .slice A1_1 l1_1.length c1_1, .slice A1_2 l1_2.length c1_2] 28 (0, 0))) (hr1_1 : Kd.C k45 w A1_1 l1_1.length l1_1) (hc1_1 : l1_1.length ≤ c1_1) (hr1_2 : Kd.C k45 w A1_2 l1_2.length l1_2) (hc1_2 : l1_2.length ≤ c1_2) (h : impl_GoodBuddy_1.f k a0_0 a0_1 a1_0 l1_1 l1_2 = some r) :
  Calls Try.prog 54 #[.agg #[.int .i64 a0_0, .int .i64 a0_1], .pointer (some ⟨gbx, 0, none⟩)] w fun e w' => e = .returned (.bool r) ∧ Below w.heap.size w w' := by
 have hu45 := Try.underlying45; have hu28 := Try.underlying28; have HR1_1 := aM hr1_1; have HC1_1 := aM hc1_1; clear hr1_1 hc1_1; have HR1_2 := aM hr1_2; have HC1_2 := aM hc1_2; clear hr1_2 hc1_2; have HB := aM (Below.refl w.heap.size w); have BK229 := aM hgbx; clear hgbx
 have H : ((impl_Block_buddy.f a0_0 a0_1).bind fun bt230 => ((impl_Block_37.f k l1_1 bt230.1 bt230.2).bind fun t232 => (some t232))) = some r := h
 clear h; replace H := Option.bind_eq_some_iff.mp H; obtain ⟨⟨t230, t231⟩, A30, H⟩ := H
 replace H : ((impl_Block_37.f k l1_1 t230 t231).bind fun t232 => (some t232)) = some r := H
 have A3 := aM A30; clear A30; replace H := Option.bind_eq_some_iff.mp H; obtain ⟨t232, A40, H⟩ := H; replace H : (some t232) = some r := H; have A4 := aM A40; clear A40; obtain rfl := Option.some.inj H
 go_enter Try.func54, Try.ntmps54
 try go_wp2_with (first | ((with_reducible refine gate_dst (N := 2) rfl ?_); refine bE 2 #[.int .i64 a0_0, .int .i64 a0_1] 45 ?_; intro gb228 hg w5 hbox hb; have BK228 := aM (hbox); have GW228 := gW hg HB.out; have GE228 := GW228; replace HB := aM (zT (zH HB.out) hb); have nB_ := aM (yB BK229.out hb); clear BK229; have BK229 := nB_; clear nB_; clear hb hbox hg))
 replace BK228 := aM (yD BK228.out); replace BK229 := aM (yD BK229.out); replace HB := aM (zD HB.out)
 refine start_ (n := 6) (S := fun w' => w'.cell? ⟨gbx, 0, none⟩ = some (.int .i64 a1_0) ∧ w'.cell? ⟨gbx, 1, none⟩ = some (.slice A1_1 l1_1.length c1_1) ∧ w'.cell? ⟨gbx, 2, none⟩ = some (.slice A1_2 l1_2.length c1_2) ∧ w'.cell? ⟨gb228, 0, none⟩ = some (.int .i64 a0_0) ∧ w'.cell? ⟨gb228, 1, none⟩ = some (.int .i64 a0_1)) (ds := []) #[fF,fF,fF,fF,fF,fF] (by kernel_rfl) rfl rfl ⟨yc BK229.out 0, yc BK229.out 1, yc BK229.out 2, yc BK228.out 0, yc BK228.out 1⟩ (fun hHeld => ?_)
 generalize w5.drew = w7 at BK228 BK229 HB hHeld ⊢
 refine pure_ (i := 0) (N := some 4) (v := ?_) (a' := ?_) #[tT,fF,fF,fF,fF,fF] rfl rfl (by kernel_rfl) (fun _ _ _ h => h) (Or.inl ⟨by rfl, ?_⟩) ?_ ?_
 rotate_left
 ·intro w'
  go_simp
  with_reducible rfl
 rotate_left
 ·simp only [Act.put, qA, qB, qC, i64_w, i32_w]
  rfl
 refine take_ (i := 1) (N := some 5) (v := ?_) (a' := ?_) #[tT,tT,fF,fF,fF,fF] rfl rfl (by kernel_rfl) (fun _ _ _ h => h) (Or.inl ⟨by rfl, ?_⟩) hHeld ?_ ?_
 rotate_left
 ·rintro w' ⟨s0, s1, s2, s3, s4⟩
  go_simp
  with_reducible rfl
 rotate_left
 ·simp only [Act.put, qA, qB, qC, i64_w, i32_w]
  rfl
 refine take_ (i := 2) (N := some 6) (v := ?_) (a' := ?_) #[tT,tT,tT,fF,fF,fF] rfl rfl (by kernel_rfl) (fun _ _ _ h => h) (Or.inl ⟨by rfl, ?_⟩) hHeld ?_ ?_
 rotate_left
 ·rintro w' ⟨s0, s1, s2, s3, s4⟩
  go_simp
  with_reducible rfl
 rotate_left
 ·simp only [Act.put, qA, qB, qC, i64_w, i32_w]
  rfl
 refine one_ (i := 3) (N := some 7) #[tT,tT,tT,tT,fF,fF] rfl rfl (by kernel_rfl) (by decide) (fun K hK => ?_)
 refine gS Try.func38 (by kernel_rfl) rfl #[.agg #[.int .i64 a0_0, .int .i64 a0_1]] (by rfl) rfl rfl ?_
 with_reducible refine (impl_Block_buddy.calls a0_0 a0_1 t230 t231 _ A3.out).mono ?_
 rintro e w8 ⟨rfl, hb⟩
 refine ⟨_, rfl, ?_⟩
 replace BK228 := yK BK228.out hb; replace BK229 := yK BK229.out hb; replace HB := aM (zT (zH HB.out) hb)
 (try clear hb)
 refine hK.out _ _ ⟨yc BK229.out 0, yc BK229.out 1, yc BK229.out 2, yc BK228.out 0, yc BK228.out 1⟩ (fun hHeld => ?_)
 clear hK K; refine nN 7 ?_
 refine one_ (i := 4) (N := some 8) #[tT,tT,tT,tT,tT,fF] rfl rfl (by kernel_rfl) (by decide) (fun K hK => ?_)
 refine gS Try.func37 (by kernel_rfl) rfl #[.slice A1_1 l1_1.length c1_1, .agg #[.int .i64 t230, .int .i64 t231]] (by rfl) rfl rfl ?_
 with_reducible refine (impl_Block_37.calls k _ _ l1_1 t230 t231 t232 _ ?side1 ?side2 A4.out).mono ?_
 (case side1 => exact cK HR1_1.out HB.out)
 (case side2 => exact HC1_1.out)
 rintro e w9 ⟨rfl, hb⟩
 refine ⟨_, rfl, ?_⟩
 replace BK228 := yK BK228.out hb; replace BK229 := yK BK229.out hb; replace HB := aM (zT (zH HB.out) hb)
 (try clear hb)
 refine hK.out _ _ ⟨yc BK229.out 0, yc BK229.out 1, yc BK229.out 2, yc BK228.out 0, yc BK228.out 1⟩ (fun hHeld => ?_)
 clear hK K; refine nN 8 ?_
 refine pure_ (i := 5) (N := some 3) (v := ?_) (a' := ?_) #[tT,tT,tT,tT,tT,tT] rfl rfl (by kernel_rfl) (fun _ _ _ h => h) (Or.inl ⟨by rfl, ?_⟩) ?_ ?_
 rotate_left
 ·intro w'
  go_simp
  with_reducible rfl
 rotate_left
 ·simp only [Act.put, qA, qB, qC, i64_w, i32_w]
  rfl
 refine done_ (by kernel_rfl) ?_
 try go_wp2
 go_ret
 exact ⟨eW, zH HB.out⟩

/-! ### impl_Block_53: function 53 (by hand) -/
/-- the first block that is so, from i on; -1 if none -/
def firstB (p : S45 → Bool) : List S45 → Int → Int
 | [], _ => -1
 | x :: l, i => if p x = true then i else firstB p l (i + 1)
theorem firstB_at (p : S45 → Bool) (l : List S45) (i : Nat) (h : i < l.length) : firstB p (l.drop i) (i : Int) = if p (rd_T45 l (i : Int)) = true then (i : Int) else firstB p (l.drop (i + 1)) ((i + 1 : Nat) : Int) := by
 rw [List.drop_eq_getElem_cons h, firstB]
 have e : rd_T45 l (i : Int) = l[i] := by simp [rd_T45, List.getD_eq_getElem?_getD, h]
 rw [e]; rfl
theorem firstB_lt (p : S45 → Bool) : ∀ (l : List S45) (i : Int), 0 ≤ i → decide (firstB p l i ≥ 0) = l.any p
 | [], i, _ => rfl
 | x :: l, i, hi => by
  rw [firstB, List.any_cons]
  by_cases h : p x = true
  ·rw [if_pos h, h, Bool.true_or]; exact decide_eq_true hi
  ·rw [if_neg h, Bool.eq_false_iff.mpr h, Bool.false_or]; exact firstB_lt p l (i + 1) (by omega)
set_option maxHeartbeats 8000000 in
set_option maxRecDepth 100000 in
theorem indexB (p : S45 → Bool) (gf : Nat) (lb : Array Value) (A0 : Option Addr) (c0 : Nat) (l0 : List S45) (w : World) (hr0 : Kd.C k45 w A0 l0.length l0)
  (eg : ∀ args w, (callFunc gf args).run Try.prog w = .ok (.enter gf args) w)
  (hclo : ∀ s ∈ l0, ∀ (w1 : World), Below w.heap.size w w1 → Calls Try.prog gf (#[.agg #[.int .i64 s.f0, .int .i64 s.f1]] ++ lb) w1 fun e w' => e = .returned (.bool (p s)) ∧ Below w1.heap.size w1 w') :
  Calls Try.prog 33 #[.slice A0 l0.length c0, .func (.func gf) #[] lb] w fun e w' => e = .returned (.int .i64 (firstB p l0 0)) ∧ Below w.heap.size w w' := by
 have HR0 := aM hr0; have HCL := aM hclo; have HL : l0.length ≤ 9223372036854775807 := hr0.2.1; clear hr0 hclo
 go_enter Try.func33, Try.ntmps33
 go_wp2
 go_loopw [8] (fun v8 w' => ∃ i : Nat, i ≤ l0.length ∧ v8 = .int .i64 (i : Int) ∧ Aside0 (firstB p l0 0 = firstB p (l0.drop i) (i : Int)) ∧ Aside0 (Below w.heap.size w w')) (fun v8 w' => l0.length - (intOf v8).toNat)
 case atStart => exact ⟨0, Nat.zero_le _, rfl, ⟨rfl⟩, ⟨by repeat (first | exact Below.refl _ _ | apply zD | apply zN)⟩⟩
 case round =>
  obtain ⟨i, hi, rfl, HA, HB⟩ := hrel
  by_cases hlt : i < l0.length
  ·have hf := firstB_at p l0 i hlt
   have p1 : 0 ≤ (i : Int) := by omega
   have q1 : (i : Int) < (l0.length : Int) := by omega
   obtain ⟨ad1, e1, hx1_0, hx1_1⟩ := at_T45 (cB HR0.out HB.out) (i : Int) p1 q1
   cases e1
   (try rw [Int.toNat_natCast] at hx1_0 hx1_1)
   have hw1 : wrap64 ((i : Int) + 1) = ((i + 1 : Nat) : Int) := by unfold wrap64; omega
   have cl := HCL.out (rd_T45 l0 (i : Int)) (by rw [show rd_T45 l0 (i : Int) = l0[i] by simp [rd_T45, List.getD_eq_getElem?_getD, hlt]]; exact List.getElem_mem hlt)
   generalize hs : rd_T45 l0 (i : Int) = s at hx1_0 hx1_1 hf cl
   by_cases hp : p s = true
   ·have HF := aM (show firstB p l0 0 = (i : Int) by rw [HA.out, hf, if_pos hp])
    have HCS := aM cl; have HP := aM hp; clear hf cl hs hp HA hw1
    go_wp2_with (go_at_fn gf; go_loud (refine (HCS.out _ (by repeat (first | exact HB.out | apply zD | apply zN))).mono ?_); rintro e w2 ⟨rfl, hb2⟩; have HB2 := aM (zT (by repeat (first | exact HB.out | apply zD | apply zN)) hb2); clear hb2; rw [HP.out])
    go_ret
    exact ⟨by rw [HF.out]; rfl, by repeat (first | exact HB2.out | exact HB.out | apply zD | apply zN)⟩
   ·have hpf : p s = false := by simpa using hp
    have HF := aM (show firstB p l0 0 = firstB p (l0.drop (i + 1)) ((i + 1 : Nat) : Int) by rw [HA.out, hf, if_neg hp])
    have HCS := aM cl; have HP := aM hpf; have HW1 := aM hw1; clear hf cl hs hp hpf HA hw1
    go_wp2_with (go_at_fn gf; go_loud (refine (HCS.out _ (by repeat (first | exact HB.out | apply zD | apply zN))).mono ?_); rintro e w2 ⟨rfl, hb2⟩; have HB2 := aM (zT (by repeat (first | exact HB.out | apply zD | apply zN)) hb2); clear hb2; rw [HP.out])
    go_roundw
    case rel => exact ⟨i + 1, by omega, by go_num, HF, ⟨by repeat (first | exact HB2.out | apply zD | apply zN)⟩⟩
    case measure => simp [intOf]; omega
  ·have hlen : i = l0.length := by omega
   have HF := aM (show firstB p l0 0 = -1 by rw [HA.out, hlen, List.drop_length]; rfl)
   clear HA hlen
   go_wp2
   go_ret
   exact ⟨by rw [HF.out]; rfl, by repeat (first | exact HB.out | apply zD | apply zN)⟩
/-- whether the buddy of a block is among the blocks -/
def budB (k : Nat) (l : List S45) (x : S45) : Option Bool := (impl_Block_buddy.f x.f0 x.f1).bind fun b => impl_Block_37.f k l b.1 b.2
theorem budB_mono (k : Nat) (l : List S45) (x : S45) : LeO (budB k l x) (budB (k + 1) l x) := LeO.bind (LeO.refl _) (fun _ => impl_Block_37.mono _ _ _ k)
def impl_Block_53.f (k : Nat) (l0 : List (S45)) (l1 : List (S45)) : Option (Bool) :=
 if (l0.all fun x => (budB k l1 x).isSome) = true then some (l0.any fun x => (budB k l1 x).getD false) else none
theorem impl_Block_53.mono : ∀ a0 a1 k, LeO (impl_Block_53.f k a0 a1) (impl_Block_53.f (k + 1) a0 a1) := by
 intro a0 a1 k r h
 unfold impl_Block_53.f at h ⊢
 split at h
 ·rename_i hall
  have key : ∀ x ∈ a0, budB (k + 1) a1 x = budB k a1 x := fun x hx => by
   have hs := List.all_eq_true.mp hall x hx; obtain ⟨b, hb⟩ := Option.isSome_iff_exists.mp hs
   rw [hb]; exact budB_mono k a1 x b hb
  have e1 : (a0.all fun x => (budB (k + 1) a1 x).isSome) = true := List.all_eq_true.mpr (fun x hx => by rw [key x hx]; exact List.all_eq_true.mp hall x hx)
  have e2 : (a0.any fun x => (budB (k + 1) a1 x).getD false) = a0.any fun x => (budB k a1 x).getD false := by
   rw [Bool.eq_iff_iff, List.any_eq_true, List.any_eq_true]
   exact ⟨fun ⟨x, hx, h'⟩ => ⟨x, hx, by rw [← key x hx]; exact h'⟩, fun ⟨x, hx, h'⟩ => ⟨x, hx, by rw [key x hx]; exact h'⟩⟩
  rw [if_pos e1, e2]; exact h
 ·cases h
set_option maxHeartbeats 1000000 in
theorem impl_Block_53.calls (k : Nat) (A0 : Option Addr) (c0 : Nat) (l0 : List S45) (a0 : Int) (A2 : Option Addr) (c2 : Nat) (l2 : List S45) (g : Nat) (r : Bool) (w : World) (hr0 : Kd.C k45 w A0 l0.length l0) (hc0 : l0.length ≤ c0) (hr2 : Kd.C k45 w A2 l2.length l2) (hc2 : l2.length ≤ c2)
  (hg : w.heap[g]? = some (.cells #[.int .i64 a0, .slice A0 l0.length c0, .slice A2 l2.length c2] 28 (0, 0))) (h : impl_Block_53.f k l0 l0 = some r) :
  Calls Try.prog 53 #[.slice A0 l0.length c0, .func (.func 54) #[] #[.pointer (some ⟨g, 0, none⟩)]] w fun e w' => e = .returned (.bool r) ∧ Below w.heap.size w w' := by
 unfold impl_Block_53.f at h
 split at h
 case isFalse => cases h
 rename_i hall
 obtain rfl := Option.some.inj h; clear h
 have HCALL : Aside0 (∀ W : World, Below w.heap.size w W → Calls Try.prog 33 #[.slice A0 l0.length c0, .func (.func 54) #[] #[.pointer (some ⟨g, 0, none⟩)]] W fun e w' => e = .returned (.int .i64 (firstB (fun x => (budB k l0 x).getD false) l0 0)) ∧ Below W.heap.size W w') := ⟨fun W hb =>
  indexB (fun x => (budB k l0 x).getD false) 54 #[.pointer (some ⟨g, 0, none⟩)] A0 c0 l0 W (cB hr0 hb) (enters_of Try.func54 (by kernel_rfl) rfl) (fun s hs w1 hb1 => by
   have hb2 := zT hb hb1; have hsome := List.all_eq_true.mp hall s hs; obtain ⟨b, hbb⟩ := Option.isSome_iff_exists.mp hsome
   have hf : impl_GoodBuddy_1.f k s.f0 s.f1 a0 l0 l2 = some b := by
    unfold impl_GoodBuddy_1.f
    unfold budB at hbb
    cases hbu : impl_Block_buddy.f s.f0 s.f1 with
    | none => rw [hbu] at hbb; cases hbb
    | some q => rw [hbu] at hbb; simp only [Option.bind_some] at hbb ⊢; rw [hbb]; rfl
   have hc := impl_GoodBuddy_1.calls k s.f0 s.f1 a0 A0 c0 l0 A2 c2 l2 b w1 g (yB hg hb2) (cB hr0 hb2) hc0 (cB hr2 hb2) hc2 hf
   refine hc.mono ?_
   rintro e w' ⟨rfl, hb3⟩
   exact ⟨by rw [hbb]; rfl, hb3⟩)⟩
 have HFIN := aM (firstB_lt (fun x => (budB k l0 x).getD false) l0 0 (by omega))
 have HB := aM (Below.refl w.heap.size w); clear hr0 hr2 hg hall hc0 hc2
 generalize firstB (fun x => (budB k l0 x).getD false) l0 0 = q at HCALL HFIN
 generalize (l0.any fun x => (budB k l0 x).getD false) = rr at HFIN ⊢
 go_enter Try.func53, Try.ntmps53
 go_wp2_with (go_at_call 33; go_loud (refine (HCALL.out _ (by repeat (first | exact HB.out | apply zD | apply zN))).mono ?_); rintro e w2 ⟨rfl, hb2⟩; have HB2 := aM (zT (by repeat (first | exact HB.out | apply zD | apply zN)) hb2); clear hb2)
 go_ret
 exact ⟨by rw [← HFIN.out]; first | rfl | (simp; done), by repeat (first | exact HB2.out | apply zD | apply zN)⟩


/-! ### impl_GoodBuddy: function 19 -/
mutual
def impl_GoodBuddy.j0 : Nat → Bool → Int → List (S45) → List (S45) → Option (Bool)
 | 0, _, _, _, _ => none
 | k + 1, x22, x234000, x234001, x234002 => if x22 = true then (some false) else ((impl_Block_35.f x234001).bind fun t237 => (if t237.length + x234002.length < 8796093022208 then ((some (sortB (t237 ++ x234002) : List (S45))).bind fun y240 => (impl_GoodBuddy.l0 k 0 y240 (y240.length : Int) 0 x234000 x234001 x234002)) else (none)))
def impl_GoodBuddy.l0 : Nat → Int → List (S45) → Int → Int → Int → List (S45) → List (S45) → Option (Bool)
 | 0, _, _, _, _, _, _, _ => none
 | k + 1, x4, x31, x32, x33, x234000, x234001, x234002 => if x33 < x32 then (if 0 ≤ x33 then (if x33 < (x31.length : Int) then ((impl_isBlock.f ((rd_T45 x31 x33).f0) ((rd_T45 x31 x33).f1)).bind fun t246 => (if t246 = true then (if ((rd_T45 x31 x33).f0) = x4 then ((impl_Block_size.f ((rd_T45 x31 x33).f0) ((rd_T45 x31 x33).f1)).bind fun t247 => (impl_GoodBuddy.l0 k (wrap64 (x4 + t247)) x31 x32 (wrap64 (x33 + 1)) x234000 x234001 x234002)) else (some false)) else (some false))) else (none)) else (none)) else (if 0 ≤ x234000 then (if x4 = (shl .i64 1 x234000) then ((impl_Block_53.f k x234001 x234001).bind fun t243 => (some (!t243))) else (some false)) else (none))
end
def impl_GoodBuddy.f (k : Nat) (a0_0 : Int) (l0_1 : List (S45)) (l0_2 : List (S45)) : Option (Bool) := (impl_within.f a0_0 0 8).bind fun t234 => (if t234 = true then ((impl_isRising.f k l0_1).bind fun t235 => (if t235 = true then ((impl_isRising.f k l0_2).bind fun t236 => (impl_GoodBuddy.j0 k (!t236) a0_0 l0_1 l0_2)) else (impl_GoodBuddy.j0 k true a0_0 l0_1 l0_2))) else (impl_GoodBuddy.j0 k true a0_0 l0_1 l0_2))
theorem impl_GoodBuddy.mono_l : ∀ k, (∀ y0 y1 y2 y3, LeO (impl_GoodBuddy.j0 k y0 y1 y2 y3) (impl_GoodBuddy.j0 (k + 1) y0 y1 y2 y3)) ∧ (∀ y0 y1 y2 y3 y4 y5 y6, LeO (impl_GoodBuddy.l0 k y0 y1 y2 y3 y4 y5 y6) (impl_GoodBuddy.l0 (k + 1) y0 y1 y2 y3 y4 y5 y6))
 | 0 => ⟨fun _ _ _ _ r h => by simp [impl_GoodBuddy.j0] at h, fun _ _ _ _ _ _ _ r h => by simp [impl_GoodBuddy.l0] at h⟩
 | k + 1 => by
  obtain ⟨ih0, ih1⟩ := impl_GoodBuddy.mono_l k
  refine ⟨?_, ?_⟩
  ·intro y0 y1 y2 y3
   unfold impl_GoodBuddy.j0
   repeat' first
   | (with_reducible exact ih0 _ _ _ _)
   | (with_reducible exact ih1 _ _ _ _ _ _ _)
   | (with_reducible exact impl_Block_53.mono _ _ _)
   | (with_reducible exact impl_isRising.mono _ _)
   | (with_reducible exact LeO.refl _)
   | (with_reducible exact LeO.none _)
   | (with_reducible refine LeO.ite ?_ ?_)
   | (with_reducible refine LeO.bind ?_ (fun _ => ?_))
   | exact ih0 _ _ _ _
   | exact ih1 _ _ _ _ _ _ _
   | exact impl_Block_53.mono _ _ _
   | exact impl_isRising.mono _ _
   | exact LeO.none _
   | refine LeO.ite ?_ ?_
   | refine LeO.bind ?_ (fun _ => ?_)
  ·intro y0 y1 y2 y3 y4 y5 y6
   unfold impl_GoodBuddy.l0
   repeat' first
   | (with_reducible exact ih0 _ _ _ _)
   | (with_reducible exact ih1 _ _ _ _ _ _ _)
   | (with_reducible exact impl_Block_53.mono _ _ _)
   | (with_reducible exact impl_isRising.mono _ _)
   | (with_reducible exact LeO.refl _)
   | (with_reducible exact LeO.none _)
   | (with_reducible refine LeO.ite ?_ ?_)
   | (with_reducible refine LeO.bind ?_ (fun _ => ?_))
   | exact ih0 _ _ _ _
   | exact ih1 _ _ _ _ _ _ _
   | exact impl_Block_53.mono _ _ _
   | exact impl_isRising.mono _ _
   | exact LeO.none _
   | refine LeO.ite ?_ ?_
   | refine LeO.bind ?_ (fun _ => ?_)
theorem impl_GoodBuddy.mono : ∀ a0 a1 a2 k, LeO (impl_GoodBuddy.f k a0 a1 a2) (impl_GoodBuddy.f (k + 1) a0 a1 a2) := by
 intro a0 a1 a2 k
 obtain ⟨ih0, ih1⟩ := impl_GoodBuddy.mono_l k
 unfold impl_GoodBuddy.f
 repeat' first
   | (with_reducible exact ih0 _ _ _ _)
   | (with_reducible exact ih1 _ _ _ _ _ _ _)
   | (with_reducible exact impl_Block_53.mono _ _ _)
   | (with_reducible exact impl_isRising.mono _ _)
   | (with_reducible exact LeO.refl _)
   | (with_reducible exact LeO.none _)
   | (with_reducible refine LeO.ite ?_ ?_)
   | (with_reducible refine LeO.bind ?_ (fun _ => ?_))
   | exact ih0 _ _ _ _
   | exact ih1 _ _ _ _ _ _ _
   | exact impl_Block_53.mono _ _ _
   | exact impl_isRising.mono _ _
   | exact LeO.none _
   | refine LeO.ite ?_ ?_
   | refine LeO.bind ?_ (fun _ => ?_)
set_option maxHeartbeats 8000000 in
set_option maxRecDepth 100000 in
theorem impl_GoodBuddy.calls (k : Nat) (a0_0 : Int) (A0_1 : Option Addr) (c0_1 : Nat) (l0_1 : List (S45)) (A0_2 : Option Addr) (c0_2 : Nat) (l0_2 : List (S45)) (r : Bool) (w : World) (hr0_1 : Kd.C k45 w A0_1 l0_1.length l0_1) (hc0_1 : l0_1.length ≤ c0_1) (hr0_2 : Kd.C k45 w A0_2 l0_2.length l0_2) (hc0_2 : l0_2.length ≤ c0_2) (h : impl_GoodBuddy.f k a0_0 l0_1 l0_2 = some r) :
  Calls Try.prog 19 #[.agg #[.int .i64 a0_0, .slice A0_1 l0_1.length c0_1, .slice A0_2 l0_2.length c0_2]] w fun e w' => e = .returned (.bool r) ∧ Below w.heap.size w w' := by
 have hu28 := Try.underlying28; have hu45 := Try.underlying45; have HR0_1 := aM hr0_1; have HC0_1 := aM hc0_1; clear hr0_1 hc0_1; have HR0_2 := aM hr0_2; have HC0_2 := aM hc0_2; clear hr0_2 hc0_2; have HB := aM (Below.refl w.heap.size w)
 have H : ((impl_within.f a0_0 0 8).bind fun t234 => (if t234 = true then ((impl_isRising.f k l0_1).bind fun t235 => (if t235 = true then ((impl_isRising.f k l0_2).bind fun t236 => (impl_GoodBuddy.j0 k (!t236) a0_0 l0_1 l0_2)) else (impl_GoodBuddy.j0 k true a0_0 l0_1 l0_2))) else (impl_GoodBuddy.j0 k true a0_0 l0_1 l0_2))) = some r := h
 clear h; have HC2 := aM H; clear H
 go_enter Try.func19, Try.ntmps19
 go_upto_region 1 with (first | ((with_reducible refine gate_dst (N := 1) rfl ?_); refine bE 1 #[.int .i64 a0_0, .slice A0_1 l0_1.length c0_1, .slice A0_2 l0_2.length c0_2] 28 ?_; intro gb233 hg w3 hbox hb; have BK233 := aM (hbox); have GW233 := gW hg HB.out; have GE233 := GW233; replace HB := aM (zT (zH HB.out) hb); clear hb hbox hg))
 (try simp only [Act.put, qA, qB, qC])
 go_cut [22] (fun v22 wc => ∃ (kq : Nat) (x22_1 : Bool), v22 = .bool x22_1 ∧ Aside0 (impl_GoodBuddy.j0 kq x22_1 a0_0 l0_1 l0_2 = some r) ∧ Aside0 (kq ≤ k) ∧ Aside0 (wc.heap[gb233]? = some (.cells #[.int .i64 a0_0, (.slice A0_1 l0_1.length c0_1), (.slice A0_2 l0_2.length c0_2)] 28 (0, 0))) ∧ Aside0 (Below w.heap.size w wc))
 case first =>
  have H := HC2.out; clear HC2; replace H := Option.bind_eq_some_iff.mp H; obtain ⟨t234, A40, H⟩ := H
  replace H : (if t234 = true then ((impl_isRising.f k l0_1).bind fun t235 => (if t235 = true then ((impl_isRising.f k l0_2).bind fun t236 => (impl_GoodBuddy.j0 k (!t236) a0_0 l0_1 l0_2)) else (impl_GoodBuddy.j0 k true a0_0 l0_1 l0_2))) else (impl_GoodBuddy.j0 k true a0_0 l0_1 l0_2)) = some r := H
  have A4 := aM A40; clear A40
  by_cases c5 : t234 = true
  ·subst c5
   have H1 : ((impl_isRising.f k l0_1).bind fun t235 => (if t235 = true then ((impl_isRising.f k l0_2).bind fun t236 => (impl_GoodBuddy.j0 k (!t236) a0_0 l0_1 l0_2)) else (impl_GoodBuddy.j0 k true a0_0 l0_1 l0_2))) = some r := by rw [if_pos rfl] at H; exact H
   clear H; have H := H1; clear H1; replace H := Option.bind_eq_some_iff.mp H; obtain ⟨t235, A60, H⟩ := H
   replace H : (if t235 = true then ((impl_isRising.f k l0_2).bind fun t236 => (impl_GoodBuddy.j0 k (!t236) a0_0 l0_1 l0_2)) else (impl_GoodBuddy.j0 k true a0_0 l0_1 l0_2)) = some r := H
   have A6 := aM A60; clear A60
   by_cases c7 : t235 = true
   ·subst c7
    have H1 : ((impl_isRising.f k l0_2).bind fun t236 => (impl_GoodBuddy.j0 k (!t236) a0_0 l0_1 l0_2)) = some r := by rw [if_pos rfl] at H; exact H
    clear H; have H := H1; clear H1; replace H := Option.bind_eq_some_iff.mp H; obtain ⟨t236, A80, H⟩ := H; replace H : (impl_GoodBuddy.j0 k (!t236) a0_0 l0_1 l0_2) = some r := H; have A8 := aM A80; clear A80; have H' := aM H; clear H; obtain ⟨Z9_0, Z9_1, Z9_2, Y9_0, Y9_1, Y9_2⟩ := y3 BK233.out
    go_wp2_with (first | ((with_reducible refine gate_callee (f := 44) rfl ?_); refine goesL_ (some 9) rfl rfl Try.func44 (by kernel_rfl) rfl #[.int .i64 a0_0, .int .i64 0, .int .i64 8] rfl mA ?_; (with_reducible refine (impl_within.calls a0_0 0 8 true _ A4.out).mono ?_); rintro e w' ⟨rfl, ⟨nd, rfl⟩⟩; refine ⟨_, rfl, ?_⟩) | (go_at_call 48; (with_reducible refine (impl_isRising.calls k _ _ l0_1 true _ ?side1 ?side2 A6.out).mono ?_); (case side1 => repeat (first | exact (cB HR0_1.out (zH HB.out)) | (with_reducible refine cA ?_ _) | (with_reducible refine cN ?_ _) | (with_reducible refine cD ?_))); (case side2 => exact HC0_1.out); rintro e w' ⟨rfl, ⟨nd, rfl⟩⟩) | (go_at_call 48; (with_reducible refine (impl_isRising.calls k _ _ l0_2 t236 _ ?side1 ?side2 A8.out).mono ?_); (case side1 => repeat (first | exact (cB HR0_2.out (zH HB.out)) | (with_reducible refine cA ?_ _) | (with_reducible refine cN ?_ _) | (with_reducible refine cD ?_))); (case side2 => exact HC0_2.out); rintro e w' ⟨rfl, ⟨nd, rfl⟩⟩))
    go_meet
    case rel => exact ⟨_, (!t236), (by first | rfl | (simp; done) | (simp [*]; done)), H', ⟨by first | omega | exact Nat.le_refl _⟩, ⟨yH BK233.out⟩, ⟨zH HB.out⟩⟩
   ·replace c7 := Bool.eq_false_iff.mpr c7
    subst c7
    have H1 : (impl_GoodBuddy.j0 k true a0_0 l0_1 l0_2) = some r := by rw [if_neg (show ¬ (false = true) by decide)] at H; exact H
    clear H; have H := H1; clear H1; have H' := aM H; clear H; obtain ⟨Z10_0, Z10_1, Z10_2, Y10_0, Y10_1, Y10_2⟩ := y3 BK233.out
    go_wp2_with (first | ((with_reducible refine gate_callee (f := 44) rfl ?_); refine goesL_ (some 9) rfl rfl Try.func44 (by kernel_rfl) rfl #[.int .i64 a0_0, .int .i64 0, .int .i64 8] rfl mA ?_; (with_reducible refine (impl_within.calls a0_0 0 8 true _ A4.out).mono ?_); rintro e w' ⟨rfl, ⟨nd, rfl⟩⟩; refine ⟨_, rfl, ?_⟩) | (go_at_call 48; (with_reducible refine (impl_isRising.calls k _ _ l0_1 false _ ?side1 ?side2 A6.out).mono ?_); (case side1 => repeat (first | exact (cB HR0_1.out (zH HB.out)) | (with_reducible refine cA ?_ _) | (with_reducible refine cN ?_ _) | (with_reducible refine cD ?_))); (case side2 => exact HC0_1.out); rintro e w' ⟨rfl, ⟨nd, rfl⟩⟩))
    go_meet
    case rel => exact ⟨_, (true), (by first | rfl | (simp; done) | (simp [*]; done)), H', ⟨by first | omega | exact Nat.le_refl _⟩, ⟨yH BK233.out⟩, ⟨zH HB.out⟩⟩
  ·replace c5 := Bool.eq_false_iff.mpr c5
   subst c5
   have H1 : (impl_GoodBuddy.j0 k true a0_0 l0_1 l0_2) = some r := by rw [if_neg (show ¬ (false = true) by decide)] at H; exact H
   clear H; have H := H1; clear H1; have H' := aM H; clear H; obtain ⟨Z11_0, Z11_1, Z11_2, Y11_0, Y11_1, Y11_2⟩ := y3 BK233.out
   go_wp2_with (first | ((with_reducible refine gate_callee (f := 44) rfl ?_); refine goesL_ (some 9) rfl rfl Try.func44 (by kernel_rfl) rfl #[.int .i64 a0_0, .int .i64 0, .int .i64 8] rfl mA ?_; (with_reducible refine (impl_within.calls a0_0 0 8 false _ A4.out).mono ?_); rintro e w' ⟨rfl, ⟨nd, rfl⟩⟩; refine ⟨_, rfl, ?_⟩))
   go_meet
   case rel => exact ⟨_, (true), (by first | rfl | (simp; done) | (simp [*]; done)), H', ⟨by first | omega | exact Nat.le_refl _⟩, ⟨yH BK233.out⟩, ⟨zH HB.out⟩⟩
 case rest =>
  clear HC2
  (try clear c5); (try clear c7); (try clear Z10_0 Z10_1 Z10_2 Y10_0 Y10_1 Y10_2); (try clear Z11_0 Z11_1 Z11_2 Y11_0 Y11_1 Y11_2); (try clear Z9_0 Z9_1 Z9_2 Y9_0 Y9_1 Y9_2)
  obtain ⟨kq, x22_1, rfl, HA, HJ1, BK233, HB⟩ := hcut
  cases kq with
  | zero => exact absurd HA.out (fun h_ => by change none = some _ at h_; cases h_)
  | succ kj1 =>
   have H := HA.out; clear HA
   simp only [impl_GoodBuddy.j0] at H
   by_cases c12 : x22_1 = true
   ·subst c12
    have H1 : (some false) = some r := by rw [if_pos rfl] at H; exact H
    clear H; have H := H1; clear H1; obtain rfl := Option.some.inj H
    go_wp2
    go_ret
    exact ⟨eW, zH HB.out⟩
   ·replace c12 := Bool.eq_false_iff.mpr c12
    subst c12
    have H1 : ((impl_Block_35.f l0_1).bind fun t237 => (if t237.length + l0_2.length < 8796093022208 then ((some (sortB (t237 ++ l0_2) : List (S45))).bind fun y240 => (impl_GoodBuddy.l0 kj1 0 y240 (y240.length : Int) 0 a0_0 l0_1 l0_2)) else (none))) = some r := by rw [if_neg (show ¬ (false = true) by decide)] at H; exact H
    clear H; have H := H1; clear H1; replace H := Option.bind_eq_some_iff.mp H; obtain ⟨t237, A130, H⟩ := H
    replace H : (if t237.length + l0_2.length < 8796093022208 then ((some (sortB (t237 ++ l0_2) : List (S45))).bind fun y240 => (impl_GoodBuddy.l0 kj1 0 y240 (y240.length : Int) 0 a0_0 l0_1 l0_2)) else (none)) = some r := H
    have A13 := aM A130; clear A130
    by_cases c14 : t237.length + l0_2.length < 8796093022208
    ·rw [if_pos c14] at H
     have LMc14 := aM c14; clear c14; obtain ⟨y240, hy240⟩ : ∃ y_ : List (S45), y_ = (sortB (t237 ++ l0_2)) := ⟨_, rfl⟩
     replace H : (impl_GoodBuddy.l0 kj1 0 y240 (y240.length : Int) 0 a0_0 l0_1 l0_2) = some r := by first | (rw [hy240]; with_reducible exact H) | (have H2_ := (Option.bind_some _ _).symm.trans H; rw [hy240]; with_reducible exact H2_) | (have H2_ := (Option.bind_some _ _).symm.trans H; with_reducible exact H2_) | with_reducible exact H | (rw [hy240]; exact H) | exact H
     have Ny240 := aM hy240; clear hy240; have H' := aM H; clear H
     try go_wp2
     replace BK233 := aM (yD BK233.out); replace HB := aM (zD HB.out)
     refine start_ (n := 7) (S := fun w' => w'.cell? ⟨gb233, 0, none⟩ = some (.int .i64 a0_0) ∧ w'.cell? ⟨gb233, 1, none⟩ = some (.slice A0_1 l0_1.length c0_1) ∧ w'.cell? ⟨gb233, 2, none⟩ = some (.slice A0_2 l0_2.length c0_2)) (ds := []) #[fF,fF,fF,fF,fF,fF,fF] (by kernel_rfl) rfl rfl ⟨yc BK233.out 0, yc BK233.out 1, yc BK233.out 2⟩ (fun hHeld => ?_)
     generalize wc.drew = w15 at BK233 HB hHeld ⊢
     refine pure_ (i := 0) (N := some 23) (v := ?_) (a' := ?_) #[tT,fF,fF,fF,fF,fF,fF] rfl rfl (by kernel_rfl) (fun _ _ _ h => h) (Or.inl ⟨by rfl, ?_⟩) ?_ ?_
     rotate_left
     ·intro w'
      go_simp
      with_reducible rfl
     rotate_left
     ·simp only [Act.put, qA, qB, qC, i64_w, i32_w]
      rfl
     refine pure_ (i := 3) (N := some 26) (v := ?_) (a' := ?_) #[tT,fF,fF,tT,fF,fF,fF] rfl rfl (by kernel_rfl) (fun _ _ _ h => h) (Or.inl ⟨by rfl, ?_⟩) ?_ ?_
     rotate_left
     ·intro w'
      go_simp
      with_reducible rfl
     rotate_left
     ·simp only [Act.put, qA, qB, qC, i64_w, i32_w]
      rfl
     refine take_ (i := 1) (N := some 24) (v := ?_) (a' := ?_) #[tT,tT,fF,tT,fF,fF,fF] rfl rfl (by kernel_rfl) (fun _ _ _ h => h) (Or.inl ⟨by rfl, ?_⟩) hHeld ?_ ?_
     rotate_left
     ·rintro w' ⟨s0, s1, s2⟩
      go_simp
      with_reducible rfl
     rotate_left
     ·simp only [Act.put, qA, qB, qC, i64_w, i32_w]
      rfl
     refine take_ (i := 4) (N := some 27) (v := ?_) (a' := ?_) #[tT,tT,fF,tT,tT,fF,fF] rfl rfl (by kernel_rfl) (fun _ _ _ h => h) (Or.inl ⟨by rfl, ?_⟩) hHeld ?_ ?_
     rotate_left
     ·rintro w' ⟨s0, s1, s2⟩
      go_simp
      with_reducible rfl
     rotate_left
     ·simp only [Act.put, qA, qB, qC, i64_w, i32_w]
      rfl
     refine one_ (i := 2) (N := some 25) #[tT,tT,tT,tT,tT,fF,fF] rfl rfl (by kernel_rfl) (by decide) (fun K hK => ?_)
     refine gS Try.func35 (by kernel_rfl) rfl #[.slice A0_1 l0_1.length c0_1] (by rfl) rfl rfl ?_
     with_reducible refine (impl_Block_35.calls _ _ l0_1 t237 _ ?side1 ?side2 A13.out).mono ?_
     (case side1 => exact cK HR0_1.out HB.out)
     (case side2 => exact HC0_1.out)
     rintro e w16 ⟨v238, rfl, ho0, hb⟩
     refine ⟨_, rfl, ?_⟩
     have HO239 := aM (xL ho0 (zZ (zH HB.out))); replace BK233 := yK BK233.out hb; replace HB := aM (zT (zH HB.out) hb)
     (try clear hb); (try clear ho0)
     refine hK.out _ _ ⟨yc BK233.out 0, yc BK233.out 1, yc BK233.out 2⟩ (fun hHeld => ?_)
     clear hK K; refine nN 25 ?_
     refine one_ (i := 5) (N := some 28) #[tT,tT,tT,tT,tT,tT,fF] rfl rfl (by kernel_rfl) (by decide) (fun K hK => ?_)
     refine Kd.R_append_rows_step k45 (w0 := w) w.heap.size (by rfl) (.tmp 25) (.tmp 27) 26 45 (.agg #[(.int .i64 0), (.int .i64 0)]) 16 rfl Try.underlying26 info45 rfl (by decide) (by omega) v238 t237 l0_2 _ _ _ (fun _ => True) (fun _ => False) rfl rfl ?aO ?aR (fun _ _ h => h) (fun _ h => h.elim) ?aF ?aB ?aS ?aL ?_
     (case aR => exact cK HR0_2.out HB.out)
     (case aB => exact (zH HB.out))
     (case aF => exact (fun _ _ => trivial))
     (case aO => exact (xH HO239.out))
     (case aS => exact (zZ (zH HB.out)))
     (case aL => have := LMc14.out; omega)
     intro v241 w17 ho hb hg hat
     replace BK233 := aM (blk_grown (g := gb233) (o := .cells #[.int .i64 a0_0, .slice A0_1 l0_1.length c0_1, .slice A0_2 l0_2.length c0_2] 28 (0, 0)) (yH BK233.out) hg (Kd.R_ne HO239.out BK233.out (by decide)))
     replace HB := aM (hb); have HO242 := aM (ho); clear HO239 ho hb hg hat
     refine hK.out _ _ ⟨yc BK233.out 0, yc BK233.out 1, yc BK233.out 2⟩ (fun hHeld => ?_)
     clear hK K; refine nN 28 ?_
     refine pure_ (i := 6) (N := some 3) (v := ?_) (a' := ?_) #[tT,tT,tT,tT,tT,tT,tT] rfl rfl (by kernel_rfl) (fun _ _ _ h => h) (Or.inl ⟨by rfl, ?_⟩) ?_ ?_
     rotate_left
     ·intro w'
      go_simp
      with_reducible rfl
     rotate_left
     ·simp only [Act.put, qA, qB, qC, i64_w, i32_w]
      rfl
     refine done_ (by kernel_rfl) ?_
     go_wp2_with ((with_reducible refine gate_callee (f := 49) rfl ?_); refine goesL_ (some 30) rfl rfl Try.func49 (by kernel_rfl) rfl #[v241, .func (.func 50) #[] #[]] rfl (by (try simp only [List.map_toArray, List.map_cons, List.map_nil]); first | done | rfl) ?_; (with_reducible refine (sort_own (xH HO242.out) (by have := LMc14.out; rw [List.length_append]; omega)).mono ?_); rintro e w_s ⟨rfl, hso, hsg⟩; refine ⟨_, rfl, ?_⟩; rw [← Ny240.out] at hso; have n0_ := aM (blk_grown (g := gb233) (o := .cells #[.int .i64 a0_0, .slice A0_1 l0_1.length c0_1, .slice A0_2 l0_2.length c0_2] 28 (0, 0)) (yH BK233.out) hsg (Kd.R_ne HO242.out BK233.out (by decide))); have n1_ := aM (Below.grown (zH HB.out) hsg (zZ (zH HB.out)) (fun j_ hj_ => Kd.R_base HO242.out j_ hj_)); have n2_ := aM hso; clear BK233; clear HB; clear HO242; clear hso hsg; have BK233 := n0_; have HB := n1_; have HO242 := n2_; clear n0_ n1_ n2_; obtain ⟨Ao18, co18, eo_⟩ := Kd.R_slice HO242.out; subst eo_)
     go_loopg [4, 33] kj1 (fun kq v4 v33 w' => ∃ (x4_2 : Int) (x33_2 : Int), v4 = .int .i64 x4_2 ∧ v33 = .int .i64 x33_2 ∧ Aside0 (impl_GoodBuddy.l0 kq x4_2 y240 (y240.length : Int) x33_2 a0_0 l0_1 l0_2 = some r) ∧ Aside0 (kq ≤ kj1) ∧ Aside0 (Kd.R k45 45 w' w.heap.size (fun _ => True) (.slice Ao18 y240.length co18) y240) ∧ Aside0 (w'.heap[gb233]? = some (.cells #[.int .i64 a0_0, (.slice A0_1 l0_1.length c0_1), (.slice A0_2 l0_2.length c0_2)] 28 (0, 0))) ∧ Aside0 (Below w.heap.size w w'))
     case atStart => exact ⟨(0), (0), (by first | rfl | (simp; done) | (simp [*]; done)), (by first | rfl | (simp; done) | (simp [*]; done)), H', ⟨Nat.le_refl _⟩, ⟨xH HO242.out⟩, ⟨yH BK233.out⟩, ⟨zH HB.out⟩⟩
     case round =>
      clear H'
      (try clear c5); (try clear c7); (try clear c12); (try clear c14); (try clear Z10_0 Z10_1 Z10_2 Y10_0 Y10_1 Y10_2); (try clear Z11_0 Z11_1 Z11_2 Y11_0 Y11_1 Y11_2); (try clear Z9_0 Z9_1 Z9_2 Y9_0 Y9_1 Y9_2)
      obtain ⟨x4_2, x33_2, rfl, rfl, HA, HK2, p0', BK233, HB⟩ := hrel
      cases gk with
      | zero => exact absurd HA.out (fun h_ => by change none = some _ at h_; cases h_)
      | succ k2 =>
       have H := HA.out; clear HA
       simp only [impl_GoodBuddy.l0] at H
       by_cases c19 : x33_2 < (y240.length : Int)
       ·rw [if_pos c19] at H
        have c19b0 : decide (x33_2 < (y240.length : Int)) = true := decide_eq_true c19; clear c19
        by_cases c20 : 0 ≤ x33_2
        ·rw [if_pos c20] at H
         have c20b0 : decide (0 ≤ x33_2) = true := decide_eq_true c20; clear c20
         by_cases c21 : x33_2 < (y240.length : Int)
         ·rw [if_pos c21] at H
          have c21b0 : decide (x33_2 < (y240.length : Int)) = true := decide_eq_true c21; clear c21; replace H := Option.bind_eq_some_iff.mp H; obtain ⟨t246, A220, H⟩ := H
          replace H : (if t246 = true then (if ((rd_T45 y240 x33_2).f0) = x4_2 then ((impl_Block_size.f ((rd_T45 y240 x33_2).f0) ((rd_T45 y240 x33_2).f1)).bind fun t247 => (impl_GoodBuddy.l0 k2 (wrap64 (x4_2 + t247)) y240 (y240.length : Int) (wrap64 (x33_2 + 1)) a0_0 l0_1 l0_2)) else (some false)) else (some false)) = some r := H
          have A22 := aM A220; clear A220
          by_cases c23 : t246 = true
          ·subst c23
           have H1 : (if ((rd_T45 y240 x33_2).f0) = x4_2 then ((impl_Block_size.f ((rd_T45 y240 x33_2).f0) ((rd_T45 y240 x33_2).f1)).bind fun t247 => (impl_GoodBuddy.l0 k2 (wrap64 (x4_2 + t247)) y240 (y240.length : Int) (wrap64 (x33_2 + 1)) a0_0 l0_1 l0_2)) else (some false)) = some r := by rw [if_pos rfl] at H; exact H
           clear H; have H := H1; clear H1
           by_cases c24 : ((rd_T45 y240 x33_2).f0) = x4_2
           ·rw [if_pos c24] at H
            have c24b0 : (((rd_T45 y240 x33_2).f0) == x4_2) = true := beq_iff_eq.mpr c24; have c24b1 : (((rd_T45 y240 x33_2).f0) != x4_2) = false := bne_eq_false_iff_eq.mpr c24; clear c24; replace H := Option.bind_eq_some_iff.mp H; obtain ⟨t247, A250, H⟩ := H; replace H : (impl_GoodBuddy.l0 k2 (wrap64 (x4_2 + t247)) y240 (y240.length : Int) (wrap64 (x33_2 + 1)) a0_0 l0_1 l0_2) = some r := H; have A25 := aM A250; clear A250; have H' := aM H; clear H
            have p244 : 0 ≤ (x33_2 : Int) := of_decide_eq_true (by first | (with_reducible assumption) | assumption)
            have q244 : x33_2 < (y240.length : Int) := of_decide_eq_true (by first | (with_reducible assumption) | assumption)
            obtain ⟨ad244, e244, hx244_0, hx244_1⟩ := at_T45 (Kd.R_reads' p0'.out).2.2 x33_2 p244 q244
            cases e244
            replace p244 := eq_true p244; replace q244 := eq_true q244
            go_wp2_with (first | ((with_reducible refine gate_dst (N := 6) rfl ?_); refine bE 6 #[.int .i64 0, .int .i64 0] 45 ?_; intro gb245 hg w26 hbox hb; replace p0' := eB p0'.out hb hg; have BK245 := aM (hbox); have GW245 := gW hg HB.out; have GE245 := GW245; replace HB := aM (zT (zH HB.out) hb); have NB233_245 := nL BK233.out hg; have NB245_233 := nR BK233.out hg; replace BK233 := yK BK233.out hb; clear hb hbox hg; have M27 := NB245_233.out; have L27 := NB233_245.out; obtain ⟨Z28_0, Z28_1, Y28_0, Y28_1⟩ := y2 BK245.out) | ((with_reducible refine gate_callee (f := 51) rfl ?_); refine goesL_ (some 38) rfl rfl Try.func51 (by kernel_rfl) rfl #[.agg #[.int .i64 ((rd_T45 y240 x33_2).f0), .int .i64 ((rd_T45 y240 x33_2).f1)]] rfl mA ?_; (with_reducible refine (impl_isBlock.calls ((rd_T45 y240 x33_2).f0) ((rd_T45 y240 x33_2).f1) true _ A22.out).mono ?_); rintro e w29 ⟨rfl, hb⟩; refine ⟨_, rfl, ?_⟩; replace p0' := q2 p0'.out hb (g := gb245) (fun _ hk => hk.2); replace BK233 := yQ BK233.out hb; replace BK245 := aM (yB (g := gb245) (o := .cells #[.int .i64 ((rd_T45 y240 x33_2).f0), .int .i64 ((rd_T45 y240 x33_2).f1)] 45 (0, 0)) (by refine yW ?_; refine yP (cs := #[.int .i64 ((rd_T45 y240 x33_2).f0), .int .i64 0]) ?_ 1 _ rfl; refine yW ?_; refine yP (cs := #[.int .i64 0, .int .i64 0]) ?_ 0 _ rfl; refine yW ?_; exact BK245.out) hb); replace HB := aM (zT (zH HB.out) hb); (try clear hb); obtain ⟨Z30_0, Z30_1, Y30_0, Y30_1⟩ := y2 BK245.out) | ((with_reducible refine gate_callee (f := 52) rfl ?_); refine goesL_ (some 48) rfl rfl Try.func52 (by kernel_rfl) rfl #[.agg #[.int .i64 ((rd_T45 y240 x33_2).f0), .int .i64 ((rd_T45 y240 x33_2).f1)]] rfl mA ?_; (with_reducible refine (impl_Block_size.calls ((rd_T45 y240 x33_2).f0) ((rd_T45 y240 x33_2).f1) t247 _ A25.out).mono ?_); rintro e w31 ⟨rfl, hb⟩; refine ⟨_, rfl, ?_⟩; replace p0' := xK p0'.out hb; replace BK233 := yK BK233.out hb; replace BK245 := yK BK245.out hb; replace HB := aM (zT (zH HB.out) hb); (try clear hb)))
            go_roundg k2
            case measure => have := HJ1.out; have := HK2.out; omega
            case rel => exact ⟨(wrap64 (x4_2 + t247)), (wrap64 (x33_2 + 1)), (by first | rfl | (simp; done) | (simp [*]; done)), (by first | rfl | (simp; done) | (simp [*]; done)), H', ⟨by have := HJ1.out; have := HK2.out; omega⟩, ⟨xH (xM p0'.out (fun _ hk => trivial))⟩, ⟨yH BK233.out⟩, ⟨zH HB.out⟩⟩
           ·rw [if_neg c24] at H
            have c24b0 : (((rd_T45 y240 x33_2).f0) == x4_2) = false := beq_eq_false_iff_ne.mpr c24; have c24b1 : (((rd_T45 y240 x33_2).f0) != x4_2) = true := bne_iff_ne.mpr c24; obtain rfl := Option.some.inj H
            have p244 : 0 ≤ (x33_2 : Int) := of_decide_eq_true (by first | (with_reducible assumption) | assumption)
            have q244 : x33_2 < (y240.length : Int) := of_decide_eq_true (by first | (with_reducible assumption) | assumption)
            obtain ⟨ad244, e244, hx244_0, hx244_1⟩ := at_T45 (Kd.R_reads' p0'.out).2.2 x33_2 p244 q244
            cases e244
            replace p244 := eq_true p244; replace q244 := eq_true q244
            go_wp2_with (first | ((with_reducible refine gate_dst (N := 6) rfl ?_); refine bE 6 #[.int .i64 0, .int .i64 0] 45 ?_; intro gb245 hg w32 hbox hb; replace p0' := eB p0'.out hb hg; have BK245 := aM (hbox); have GW245 := gW hg HB.out; have GE245 := GW245; replace HB := aM (zT (zH HB.out) hb); have NB233_245 := nL BK233.out hg; have NB245_233 := nR BK233.out hg; replace BK233 := yK BK233.out hb; clear hb hbox hg; have M33 := NB245_233.out; have L33 := NB233_245.out; obtain ⟨Z34_0, Z34_1, Y34_0, Y34_1⟩ := y2 BK245.out) | ((with_reducible refine gate_callee (f := 51) rfl ?_); refine goesL_ (some 38) rfl rfl Try.func51 (by kernel_rfl) rfl #[.agg #[.int .i64 ((rd_T45 y240 x33_2).f0), .int .i64 ((rd_T45 y240 x33_2).f1)]] rfl mA ?_; (with_reducible refine (impl_isBlock.calls ((rd_T45 y240 x33_2).f0) ((rd_T45 y240 x33_2).f1) true _ A22.out).mono ?_); rintro e w35 ⟨rfl, hb⟩; refine ⟨_, rfl, ?_⟩; replace p0' := q2 p0'.out hb (g := gb245) (fun _ hk => hk.2); replace BK233 := yQ BK233.out hb; replace BK245 := aM (yB (g := gb245) (o := .cells #[.int .i64 ((rd_T45 y240 x33_2).f0), .int .i64 ((rd_T45 y240 x33_2).f1)] 45 (0, 0)) (by refine yW ?_; refine yP (cs := #[.int .i64 ((rd_T45 y240 x33_2).f0), .int .i64 0]) ?_ 1 _ rfl; refine yW ?_; refine yP (cs := #[.int .i64 0, .int .i64 0]) ?_ 0 _ rfl; refine yW ?_; exact BK245.out) hb); replace HB := aM (zT (zH HB.out) hb); (try clear hb); obtain ⟨Z36_0, Z36_1, Y36_0, Y36_1⟩ := y2 BK245.out))
            go_ret
            exact ⟨eW, zH HB.out⟩
          ·replace c23 := Bool.eq_false_iff.mpr c23
           subst c23
           have H1 : (some false) = some r := by rw [if_neg (show ¬ (false = true) by decide)] at H; exact H
           clear H; have H := H1; clear H1; obtain rfl := Option.some.inj H
           have p244 : 0 ≤ (x33_2 : Int) := of_decide_eq_true (by first | (with_reducible assumption) | assumption)
           have q244 : x33_2 < (y240.length : Int) := of_decide_eq_true (by first | (with_reducible assumption) | assumption)
           obtain ⟨ad244, e244, hx244_0, hx244_1⟩ := at_T45 (Kd.R_reads' p0'.out).2.2 x33_2 p244 q244
           cases e244
           replace p244 := eq_true p244; replace q244 := eq_true q244
           go_wp2_with (first | ((with_reducible refine gate_dst (N := 6) rfl ?_); refine bE 6 #[.int .i64 0, .int .i64 0] 45 ?_; intro gb245 hg w37 hbox hb; replace p0' := eB p0'.out hb hg; have BK245 := aM (hbox); have GW245 := gW hg HB.out; have GE245 := GW245; replace HB := aM (zT (zH HB.out) hb); have NB233_245 := nL BK233.out hg; have NB245_233 := nR BK233.out hg; replace BK233 := yK BK233.out hb; clear hb hbox hg; have M38 := NB245_233.out; have L38 := NB233_245.out; obtain ⟨Z39_0, Z39_1, Y39_0, Y39_1⟩ := y2 BK245.out) | ((with_reducible refine gate_callee (f := 51) rfl ?_); refine goesL_ (some 38) rfl rfl Try.func51 (by kernel_rfl) rfl #[.agg #[.int .i64 ((rd_T45 y240 x33_2).f0), .int .i64 ((rd_T45 y240 x33_2).f1)]] rfl mA ?_; (with_reducible refine (impl_isBlock.calls ((rd_T45 y240 x33_2).f0) ((rd_T45 y240 x33_2).f1) false _ A22.out).mono ?_); rintro e w40 ⟨rfl, hb⟩; refine ⟨_, rfl, ?_⟩; replace p0' := q2 p0'.out hb (g := gb245) (fun _ hk => hk.2); replace BK233 := yQ BK233.out hb; replace BK245 := aM (yB (g := gb245) (o := .cells #[.int .i64 ((rd_T45 y240 x33_2).f0), .int .i64 ((rd_T45 y240 x33_2).f1)] 45 (0, 0)) (by refine yW ?_; refine yP (cs := #[.int .i64 ((rd_T45 y240 x33_2).f0), .int .i64 0]) ?_ 1 _ rfl; refine yW ?_; refine yP (cs := #[.int .i64 0, .int .i64 0]) ?_ 0 _ rfl; refine yW ?_; exact BK245.out) hb); replace HB := aM (zT (zH HB.out) hb); (try clear hb)))
           go_ret
           exact ⟨eW, zH HB.out⟩
         ·rw [if_neg c21] at H
          exact absurd H (by simp)
        ·rw [if_neg c20] at H
         exact absurd H (by simp)
       ·rw [if_neg c19] at H
        have c19b0 : decide (x33_2 < (y240.length : Int)) = false := decide_eq_false c19; clear c19
        by_cases c41 : 0 ≤ a0_0
        ·rw [if_pos c41] at H
         have c41b0 := eq_true c41; have c41b1 : decide (0 ≤ a0_0) = true := decide_eq_true c41; clear c41; obtain ⟨ji42, hji42⟩ : ∃ j_ : Int, (shl .i64 1 a0_0) = j_ := ⟨_, rfl⟩
         replace H : (if x4_2 = (ji42) then ((impl_Block_53.f k2 l0_1 l0_1).bind fun t243 => (some (!t243))) else (some false)) = some r := by first | (rw [hji42] at H; exact H) | (simp only [hji42] at H ⊢; exact H)
         have hji42_ : (IntKind.i64.wrap (1 * 2 ^ min a0_0.toNat 64)) = ji42 := hji42; have hji42z : a0_0 ≤ 64 → (IntKind.i64.wrap (1 * 2 ^ a0_0.toNat)) = ji42 := shl_small hji42
         have hji42u : (IntKind.i64.wrap (2 ^ min a0_0.toNat 64)) = ji42 := by have h_ := hji42_; rw [Int.one_mul] at h_; exact h_
         have hji42v : a0_0 ≤ 64 → (IntKind.i64.wrap (2 ^ a0_0.toNat)) = ji42 := fun hle_ => by have h_ := hji42z hle_; rw [Int.one_mul] at h_; exact h_
         have hji42y : (wrap64 (1 * 2 ^ min a0_0.toNat 64)) = ji42 := (i64_w _).symm.trans hji42_
         have hji42x : a0_0 ≤ 64 → (wrap64 (1 * 2 ^ a0_0.toNat)) = ji42 := fun h_ => (i64_w _).symm.trans (hji42z h_)
         by_cases c43 : x4_2 = (ji42)
         ·rw [if_pos c43] at H
          have c43b0 : (x4_2 == (ji42)) = true := beq_iff_eq.mpr c43; have c43b1 : (x4_2 != (ji42)) = false := bne_eq_false_iff_eq.mpr c43; clear c43; replace H := Option.bind_eq_some_iff.mp H; obtain ⟨t243, A440, H⟩ := H; replace H : (some (!t243)) = some r := H; have A44 := aM A440; clear A440; obtain rfl := Option.some.inj H; have Z45_0 : wr.cell? ⟨gb233, 0, none⟩ = some (.int .i64 a0_0) := yc BK233.out 0; have Z45_1 : wr.cell? ⟨gb233, 1, none⟩ = some (.slice A0_1 l0_1.length c0_1) := yc BK233.out 1; have Z45_2 : wr.cell? ⟨gb233, 2, none⟩ = some (.slice A0_2 l0_2.length c0_2) := yc BK233.out 2; have Y45_0 := yZ BK233.out 0; have Y45_1 := yZ BK233.out 1; have Y45_2 := yZ BK233.out 2; have HH_ := aM (impl_Block_53.calls k2 _ _ l0_1 a0_0 _ _ l0_2 gb233 t243 wr (cB HR0_1.out HB.out) HC0_1.out (cB HR0_2.out HB.out) HC0_2.out BK233.out A44.out)
          go_wp2_with (first | (go_at_call 53; (with_reducible refine (HH_.out).mono ?_); rintro e w46 ⟨rfl, hb⟩; replace p0' := xK p0'.out hb; replace BK233 := yK BK233.out hb; replace HB := aM (zT (zH HB.out) hb); (try clear hb)))
          go_ret
          exact ⟨by first | rfl | (simp [errW_none, errW_some] <;> rfl) | (simp only [← hji42]; first | rfl | (simp [errW_none, errW_some] <;> rfl)) | (simp [*, errW_none, errW_some] <;> rfl), zH HB.out⟩
         ·rw [if_neg c43] at H
          have c43b0 : (x4_2 == (ji42)) = false := beq_eq_false_iff_ne.mpr c43; have c43b1 : (x4_2 != (ji42)) = true := bne_iff_ne.mpr c43; obtain rfl := Option.some.inj H; have Z47_0 : wr.cell? ⟨gb233, 0, none⟩ = some (.int .i64 a0_0) := yc BK233.out 0; have Z47_1 : wr.cell? ⟨gb233, 1, none⟩ = some (.slice A0_1 l0_1.length c0_1) := yc BK233.out 1; have Z47_2 : wr.cell? ⟨gb233, 2, none⟩ = some (.slice A0_2 l0_2.length c0_2) := yc BK233.out 2; have Y47_0 := yZ BK233.out 0; have Y47_1 := yZ BK233.out 1; have Y47_2 := yZ BK233.out 2
          go_wp2
          go_ret
          exact ⟨by first | rfl | (simp [errW_none, errW_some] <;> rfl) | (simp only [← hji42]; first | rfl | (simp [errW_none, errW_some] <;> rfl)) | (simp [*, errW_none, errW_some] <;> rfl), zH HB.out⟩
        ·rw [if_neg c41] at H
         exact absurd H (by simp)
    ·rw [if_neg c14] at H
     exact absurd H (by simp)

/-! ### impl_Block_33: function 33 (by hand) -/
-- over the words of impl_Block_53 (indexB)
theorem atB_walk (y : S45) (gb : Nat) (x : Int) (w : World) (hbx : w.heap[gb]? = some (.cells #[.int .i64 x] 3 (0, 0))) :
  Calls Try.prog 34 #[.agg #[.int .i64 y.f0, .int .i64 y.f1], .pointer (some ⟨gb, 0, none⟩)] w fun e w' => e = .returned (.bool (y.f0 == x)) ∧ Below w.heap.size w w' := by
 have HX := aM hbx; have HB := aM (Below.refl w.heap.size w); clear hbx
 go_enter Try.func34, Try.ntmps34
 go_wp2_with (first | ((with_reducible refine gate_dst (N := 2) rfl ?_); refine bE 2 #[.int .i64 y.f0, .int .i64 y.f1] 45 ?_; intro gb1 hg w3 hbox hb; have n0_ := aM hb; have h0 : w3.cell? ⟨gb, 0, none⟩ = some (.int .i64 x) := (yC (yB HX.out hb) 0).trans rfl; have h2 : w3.cell? ⟨gb1, 0, none⟩ = some (.int .i64 y.f0) := (yC hbox 0).trans rfl; have h3 : w3.cell? ⟨gb1, 1, none⟩ = some (.int .i64 y.f1) := (yC hbox 1).trans rfl; clear hb hbox hg))
 all_goals go_ret
 all_goals exact ⟨by first | rfl | (simp; done) | (simp [*]; done), n0_.out⟩
def impl_Block_33.f (l0 : List (S45)) (a1 : Int) : Option (Int) :=
 some (firstB (fun y => y.f0 == a1) l0 0)
theorem impl_Block_33.calls (A0 : Option Addr) (c0 : Nat) (l0 : List S45) (a1 : Int) (r : Int) (w : World) (gbx : Nat) (hgbx : w.heap[gbx]? = some (.cells #[.int .i64 a1] 3 (0, 0))) (hr0 : Kd.C k45 w A0 l0.length l0) (hc0 : l0.length ≤ c0) (h : impl_Block_33.f l0 a1 = some r) :
  Calls Try.prog 33 #[.slice A0 l0.length c0, .func (.func 34) #[] #[.pointer (some ⟨gbx, 0, none⟩)]] w fun e w' => e = .returned (.int .i64 r) ∧ Below w.heap.size w w' := by
 obtain rfl := Option.some.inj h
 exact indexB (fun y => y.f0 == a1) 34 #[.pointer (some ⟨gbx, 0, none⟩)] A0 c0 l0 w hr0 (enters_of Try.func34 (by kernel_rfl) rfl) (fun s _ w1 hb => atB_walk s gbx a1 w1 (yB hgbx hb))


end Go.Proofs.Ytbjcioihomeikaa.PFnBuddies
