/- The program's branches in memory; isLeaf, depth, allKeys; no condition. -/
import Derived.Test.YtmgbfbpolmbnfaaQFnExactKeysOft0
namespace Go.Proofs.Ytmgbfbpolmbnfaa.PFnExactKeysOf
open Go.RowKit Go.Proofs.YtmgbfbpolmbnfaaW.PrintWords Go.Proofs.YtmgbfbpolmbnfaaW.PrintLast Go.Proofs.YtmgbfbpolmbnfaaW.PrintMore
set_option linter.unusedVariables false
set_option linter.unusedSimpArgs false
set_option maxRecDepth 100000

/-! #### trees of branches: a block with the keys and the row of pointers to the kids, below it the kids' blocks -/
def KidsB (R : World → S47 → Value → Prop) (w : World) (A : Option Addr) (xs : List S47) : Prop :=
  xs.length ≤ 9223372036854775807 ∧ (0 < xs.length → ∃ ad, A = some ad ∧ ∀ (i : Nat) (h : i < xs.length), ∃ v, w.cell? (ad.add i) = some v ∧ R w xs[i] v)
def RepB : Nat → World → S47 → Value → Prop
  | 0, _, _, _ => False
  | n + 1, w, x, v => ∃ g A0 c0 A1 c1, v = .pointer (some ⟨g, 0, none⟩) ∧ w.heap[g]? = some (.cells #[.slice A0 x.f0.length c0, .slice A1 x.f1.length c1] 65 (0, 0)) ∧ x.f0.length ≤ c0 ∧ (Kd.int .i64).C w A0 x.f0.length x.f0 ∧ x.f1.length ≤ c1 ∧ KidsB (RepB n) w A1 x.f1
theorem KidsB.imp {R R' : World → S47 → Value → Prop} {w w' : World} {A : Option Addr} {xs : List S47} (h : KidsB R w A xs) (hb : Below w.heap.size w w') (hR : ∀ x v, R w x v → R' w' x v) : KidsB R' w' A xs :=
  ⟨h.1, fun h0 => by
    obtain ⟨ad, e, hk⟩ := h.2 h0
    refine ⟨ad, e, fun i hi => ?_⟩
    obtain ⟨v, hv, hr⟩ := hk i hi
    exact ⟨v, (hb.cell (World.block_lt_of_cell? _ _ hv)).trans hv, hR _ _ hr⟩⟩
theorem RepB_below : ∀ (n : Nat) {w w' : World} {x : S47} {v : Value}, RepB n w x v → Below w.heap.size w w' → RepB n w' x v
  | 0, _, _, _, _, h, _ => h
  | n + 1, w, w', x, v, h, hb => by
    obtain ⟨g, A0, c0, A1, c1, e, hg, h1, h2, h3, h4⟩ := h
    exact ⟨g, A0, c0, A1, c1, e, blk_below hg hb, h1, Kd.C_below h2 hb, h3, h4.imp hb (fun x v q => RepB_below n q hb)⟩
theorem RepB_mono : ∀ (n : Nat) {w : World} {x : S47} {v : Value}, RepB n w x v → RepB (n + 1) w x v
  | 0, _, _, _, h => h.elim
  | n + 1, w, x, v, h => by
    obtain ⟨g, A0, c0, A1, c1, e, hg, h1, h2, h3, h4⟩ := h
    exact ⟨g, A0, c0, A1, c1, e, hg, h1, h2, h3, h4.imp (Below.refl _ _) (fun x v q => RepB_mono n q)⟩
theorem RepB_le {n m : Nat} (hnm : n ≤ m) {w : World} {x : S47} {v : Value} (h : RepB n w x v) : RepB m w x v := by
  obtain ⟨k, rfl⟩ := Nat.exists_eq_add_of_le hnm
  clear hnm
  induction k with
  | zero => exact h
  | succ k ih => exact RepB_mono _ ih
/-! #### isLeaf, depth -/
theorem leaf_walk {n : Nat} {w : World} {x : S47} {v : Value} (h : RepB n w x v) : Calls Try.prog 34 #[v] w fun e w' => e = .returned (.bool (decide (x.f1.length = 0))) ∧ Below w.heap.size w w' := by
  cases n with
  | zero => exact h.elim
  | succ n =>
    obtain ⟨g, A0, c0, A1, c1, rfl, hg, h1, h2, h3, h4⟩ := h
    have q1 : w.cell? ⟨g, 1, none⟩ = some (.slice A1 x.f1.length c1) := (blk_cell hg 1).trans rfl
    have HB := Aside0.mk (Below.refl w.heap.size w)
    clear hg h1 h2 h3 h4
    by_cases hl : x.f1.length = 0
    · have hz : ((x.f1.length : Int) == 0) = true := by simp [hl]
      rw [decide_eq_true hl]
      go_enter Try.func34, Try.ntmps34
      go_wp2
      go_ret
      exact ⟨by first | rfl | (simp; done) | (simp [*]; done), HB.out⟩
    · have hz : ((x.f1.length : Int) == 0) = false := by simp [hl]
      rw [decide_eq_false hl]
      go_enter Try.func34, Try.ntmps34
      go_wp2
      go_ret
      exact ⟨by first | rfl | (simp; done) | (simp [*]; done), HB.out⟩
def depthF : Nat → S47 → Int
  | 0, _ => 0
  | n + 1, x => if x.f1.length = 0 then 1 else wrap64 (1 + depthF n (x.f1.getD 0 z47))
theorem depth_walk : ∀ (n : Nat) {w : World} {x : S47} {v : Value}, RepB n w x v → Calls Try.prog 28 #[v] w fun e w' => e = .returned (.int .i64 (depthF n x)) ∧ Below w.heap.size w w'
  | 0, _, _, _, h => h.elim
  | n + 1, w, x, v, h => by
    have hleaf := leaf_walk h
    obtain ⟨g, A0, c0, A1, c1, rfl, hg, h1, h2, h3, h4⟩ := h
    have HG := Aside0.mk hg
    have HK := Aside0.mk h4
    have HB := Aside0.mk (Below.refl w.heap.size w)
    clear hg h1 h2 h3 h4
    rw [depthF]
    by_cases hl : x.f1.length = 0
    · rw [decide_eq_true hl] at hleaf
      rw [if_pos hl]
      go_enter Try.func28, Try.ntmps28
      go_wp2_with (go_at_call 34; refine hleaf.mono ?_; rintro e w2 ⟨rfl, hb2⟩; have HB2 := Aside0.mk (below_step HB.out hb2); clear hb2)
      go_ret
      exact ⟨rfl, HB2.out⟩
    · rw [decide_eq_false hl] at hleaf
      rw [if_neg hl]
      obtain ⟨ad, rfl, hk⟩ := HK.out.2 (by omega)
      obtain ⟨vk, hvk, hR⟩ := hk 0 (by omega)
      have hx0 : x.f1.getD 0 z47 = x.f1[0]'(by omega) := by simp [List.getD_eq_getElem?_getD, List.getElem?_eq_getElem (show 0 < x.f1.length by omega)]
      rw [hx0]
      have HR := Aside0.mk hR
      have HV := Aside0.mk hvk
      clear hk hR hvk hx0
      have hw := depth_walk n (HR.out)
      have ih := fun (W : World) (hb : Below w.heap.size w W) => depth_walk n (RepB_below n HR.out hb)
      have IH := Aside0.mk ih
      clear hw ih
      have pl : (0 : Int) < (x.f1.length : Int) := by omega
      have pn : 0 < x.f1.length := by omega
      go_enter Try.func28, Try.ntmps28
      go_wp2_with (first | (go_at_call 34; refine hleaf.mono ?_; rintro e w2 ⟨rfl, hb2⟩; have HB2 := Aside0.mk (below_step HB.out hb2); have q1 : w2.cell? ⟨g, 1, none⟩ = some (.slice (some ad) x.f1.length c1) := (blk_cell (blk_below HG.out hb2) 1).trans rfl; have q2 : w2.cell? ad = some vk := (hb2.cell (World.block_lt_of_cell? _ _ HV.out)).trans HV.out; clear hb2) | (go_at_call 28; refine (IH.out _ HB2.out).mono ?_; rintro e w3 ⟨rfl, hb3⟩; have HB3 := Aside0.mk (below_step HB2.out hb3); clear hb3))
      go_ret
      exact ⟨rfl, HB3.out⟩
/-! #### allKeys -/
def kidF (x : S47) (i : Nat) : S47 := x.f1.getD i z47
/-- what stands in the keys' row behind i keys -/
def preF (g : S47 → List Int) (x : S47) : Nat → List Int
  | 0 => []
  | i + 1 => (preF g x i ++ (if x.f1.length = 0 then [] else g (kidF x i))) ++ [x.f0.getD i 0]
def keysF : Nat → S47 → List Int
  | 0, _ => []
  | n + 1, x => preF (keysF n) x x.f0.length ++ (if x.f1.length = 0 then [] else keysF n (kidF x x.f0.length))
def ShapeF : Nat → S47 → Prop
  | 0, _ => False
  | n + 1, x => x.f1.length = 0 ∨ (x.f1.length = x.f0.length + 1 ∧ ∀ i, i < x.f1.length → ShapeF n (kidF x i))
theorem preF_le (g : S47 → List Int) (x : S47) : ∀ (j i : Nat), (preF g x i).length ≤ (preF g x (i + j)).length
  | 0, i => Nat.le_refl _
  | j + 1, i => by
    refine Nat.le_trans (preF_le g x j i) ?_
    rw [← Nat.add_assoc, preF, List.length_append, List.length_append]
    omega
theorem preF_kid (g : S47 → List Int) (x : S47) (h : x.f1.length ≠ 0) (i : Nat) : (preF g x i).length + (g (kidF x i)).length + 1 = (preF g x (i + 1)).length := by
  rw [preF, if_neg h, List.length_append, List.length_append]
  rfl
theorem kidF_at {x : S47} {i : Nat} (h : i < x.f1.length) : kidF x i = x.f1[i] := by simp [kidF, List.getD_eq_getElem?_getD, List.getElem?_eq_getElem h]
theorem wrap_inc (j : Nat) (h : j < 1099511627776) : wrap64 ((j : Int) + 1) = ((j + 1 : Nat) : Int) := by unfold wrap64; omega
theorem meas_dec {n j g : Nat} (h : n - j ≤ g) (hj : j < n) : n - (j + 1) < g := by omega
theorem rd_get (l : List Int) (i : Nat) : rd l (i : Int) = l.getD i 0 := by unfold rd; rw [Int.toNat_natCast]
theorem info_int : (Try.prog.info? 3).map (fun i => (i.zero, i.size, i.bytes)) = some (some (.int .i64 0), 1, 8) := by kernel_rfl
set_option maxHeartbeats 4000000 in
theorem keys_walk : ∀ (n : Nat) {w : World} {x : S47} {v : Value}, RepB n w x v → ShapeF n x → (keysF n x).length < 1099511627776 → Calls Try.prog 30 #[v] w fun e w' => ∃ v1, e = .returned v1 ∧ Kd.R (Kd.int .i64) 3 w' w.heap.size (fun _ => True) v1 (keysF n x) ∧ Below w.heap.size w w'
  | 0, _, _, _, h, _, _ => h.elim
  | n + 1, w, x, v, h, hs, hl => by
    have LEAF : Aside0 (∀ W : World, Below w.heap.size w W → Calls Try.prog 34 #[v] W fun e w' => e = .returned (.bool (decide (x.f1.length = 0))) ∧ Below W.heap.size W w') := ⟨fun W hb => leaf_walk (RepB_below _ h hb)⟩
    obtain ⟨g, A0, c0, A1, c1, rfl, hg, h1, h2, h3, h4⟩ := h
    have HG := Aside0.mk hg
    have HC := Aside0.mk h2
    have hk0 : keysF (n + 1) x = preF (keysF n) x x.f0.length ++ (if x.f1.length = 0 then [] else keysF n (kidF x x.f0.length)) := rfl
    have hpl : (preF (keysF n) x x.f0.length).length < 1099511627776 := by rw [hk0, List.length_append] at hl; omega
    have HPL : Aside0 (∀ i, i ≤ x.f0.length → (preF (keysF n) x i).length < 1099511627776) := ⟨fun i hi => by
      have := preF_le (keysF n) x (x.f0.length - i) i
      rw [show i + (x.f0.length - i) = x.f0.length by omega] at this
      omega⟩
    have hkl : x.f0.length < 1099511627776 := by
      have q : ∀ i, i ≤ (preF (keysF n) x i).length := fun i => by
        induction i with
        | zero => exact Nat.zero_le _
        | succ i ih => rw [preF, List.length_append, List.length_append]; show i + 1 ≤ _ + _ + 1; omega
      exact Nat.lt_of_le_of_lt (q _) hpl
    have HKL := Aside0.mk hkl
    -- a kid: its pointer, its contract
    have KID : Aside0 (∀ i, i < x.f1.length → x.f1.length ≠ 0 → (keysF n (kidF x i)).length < 1099511627776 → ∃ ad vk, A1 = some ad ∧ w.cell? (ad.add i) = some vk ∧ ∀ W : World, Below w.heap.size w W → Calls Try.prog 30 #[vk] W fun e w' => ∃ v1, e = .returned v1 ∧ Kd.R (Kd.int .i64) 3 w' W.heap.size (fun _ => True) v1 (keysF n (kidF x i)) ∧ Below W.heap.size W w') := ⟨fun i hi hne hkl => by
      obtain ⟨ad, e, hk⟩ := h4.2 (by omega)
      obtain ⟨vk, hv, hR⟩ := hk i hi
      rw [← kidF_at hi] at hR
      have hsh : ShapeF n (kidF x i) := by
        rcases hs with h | h
        · exact absurd h hne
        · exact h.2 i hi
      exact ⟨ad, vk, e, hv, fun W hb => keys_walk n (RepB_below n hR hb) hsh hkl⟩⟩
    have HS := Aside0.mk (hs.imp_right (fun q => q.1))
    have HL := Aside0.mk hl
    have HB := Aside0.mk (Below.refl w.heap.size w)
    have q0 : w.cell? ⟨g, 0, none⟩ = some (.slice A0 x.f0.length c0) := (blk_cell hg 0).trans rfl
    clear hg h1 h2 h3 h4 hs hl hpl hkl hk0
    go_enter Try.func30, Try.ntmps30
    go_wp2_with (first | ((with_reducible refine gate_dst (N := 6) rfl ?_); refine Kd.R_lit (Kd.int .i64) _ 3 ?hg (N := 6) ?hd (xs := ([] : List Int)) (inner := []) (ok := fun _ => True) (okp := fun _ => True) ?hr ?hp (fun _ hk => hk) trivial (Below.refl _ _) (Nat.le_refl _) (by simp) ?_; (case hd => rfl); (case hg => rfl); (case hr => first | (go_simp; done) | (go_simp; rfl)); (case hp => exact (Reps.none _ _)); intro v158 w5 ho6 hb hg_ hnew_; clear hg_ hnew_; have n0_ := Aside0.mk (Kd.R_lower ho6 (below_size HB.out)); have n3_ := Aside0.mk (below_step HB.out hb); have q0' : w5.cell? ⟨g, 0, none⟩ = some (.slice A0 x.f0.length c0) := (blk_cell (blk_below HG.out n3_.out) 0).trans rfl; clear HB q0; have HO := n0_; have HB := n3_; clear n0_ n3_; clear hb ho6))
    go_loopg [3, 12] x.f0.length (fun kq v3 v12 w' => ∃ i : Nat, v12 = .int .i64 (i : Int) ∧ i ≤ x.f0.length ∧ x.f0.length - i ≤ kq ∧ Aside0 (Kd.R (Kd.int .i64) 3 w' w.heap.size (fun _ => True) v3 (preF (keysF n) x i)) ∧ Aside0 (Below w.heap.size w w'))
    case atStart => exact ⟨0, rfl, Nat.zero_le _, by omega, HO, HB⟩
    case round =>
      clear HO HB
      obtain ⟨i, rfl, hin, hkq, HO2, HB2⟩ := hrel
      obtain ⟨Ao, co, eo⟩ := Kd.R_slice HO2.out
      subst eo
      by_cases hlt : i < x.f0.length
      · have pi : 0 ≤ (i : Int) := Int.natCast_nonneg i
        have qi : (i : Int) < (x.f0.length : Int) := Int.ofNat_lt.mpr hlt
        obtain ⟨adk, ek, hxk⟩ := Kd.at_int (Kd.C_below HC.out HB2.out) (i : Int) pi qi
        cases ek
        rw [rd_get, Int.toNat_natCast] at hxk
        obtain ⟨ky, hky⟩ : ∃ ky, x.f0.getD i 0 = ky := ⟨_, rfl⟩
        rw [hky] at hxk
        have HW := Aside0.mk (wrap_inc i (Nat.lt_trans hlt HKL.out))
        have HME := Aside0.mk (meas_dec hkq hlt)
        clear hkq
        by_cases hz : x.f1.length = 0
        · have hst : preF (keysF n) x (i + 1) = preF (keysF n) x i ++ [ky] := by rw [preF, if_pos hz, List.append_nil, hky]
          have HST := Aside0.mk hst
          clear hst hky
          go_wp2_with (first | (go_at_call 34; refine (LEAF.out _ HB2.out).mono ?_; rintro e w3 ⟨rfl, hb3⟩; rw [decide_eq_true hz]; have HB3 := Aside0.mk (below_step HB2.out hb3); have HO3 := Aside0.mk (Kd.R_below HO2.out hb3); clear hb3) | ((with_reducible refine gate_builtin (b := .append) (xs := #[.tmp 30, .tmp 32]) rfl ?_); at_builtin; refine Kd.R_append (Kd.int .i64) (w0 := w) w.heap.size rfl (.tmp 30) (.tmp 32) 35 3 (.int .i64 0) 8 rfl Try.underlying35 info_int rfl (by decide) (by omega) (.slice Ao (preF (keysF n) x i).length co) (preF (keysF n) x i) ky [.int .i64 ky] (fun _ => True) (fun _ => False) rfl rfl ?aP (fun _ hk => hk.elim) ?aF ?aO ?aB ?aS ?aL ?_; (case aP => exact rfl); (case aF => exact (fun _ _ => trivial)); (case aO => exact HO3.out); (case aB => exact HB3.out); (case aS => exact (below_size HB3.out)); (case aL => have := HPL.out i hin; omega); intro v9 w9 ho hb hg hat; have HO9 := Aside0.mk ho; have HB9 := Aside0.mk hb; clear ho hb hg hat))
          obtain ⟨Ao9, co9, eo9⟩ := Kd.R_slice HO9.out
          subst eo9
          go_roundg (x.f0.length - (i + 1))
          case measure => exact HME.out
          case rel => exact ⟨i + 1, by rw [HW.out], hlt, Nat.le_refl _, ⟨by rw [HST.out]; exact HO9.out⟩, HB9⟩
        · have hkk : i < x.f1.length := by rcases HS.out with h | h <;> omega
          have hpk := preF_kid (keysF n) x hz i
          have hp1 := HPL.out (i + 1) hlt
          obtain ⟨ad, vk, eA, hvk, hK⟩ := KID.out i hkk hz (by omega)
          subst eA
          have HK := Aside0.mk hK
          have HVK := Aside0.mk hvk
          have hst : preF (keysF n) x (i + 1) = (preF (keysF n) x i ++ keysF n (kidF x i)) ++ [ky] := by rw [preF, if_neg hz, hky]
          have HST := Aside0.mk hst
          have HLN := Aside0.mk (show (preF (keysF n) x i).length + (keysF n (kidF x i)).length + 1 < 1099511627776 by omega)
          have pk : (i : Int) < (x.f1.length : Int) := Int.ofNat_lt.mpr hkk
          clear hst hky hK hvk hpk hp1
          go_wp2_with (first | (go_at_call 34; refine (LEAF.out _ HB2.out).mono ?_; rintro e w3 ⟨rfl, hb3⟩; rw [decide_eq_false hz]; have HB3 := Aside0.mk (below_step HB2.out hb3); have HO3 := Aside0.mk (Kd.R_below HO2.out hb3); have q1 : w3.cell? ⟨g, 1, none⟩ = some (.slice (some ad) x.f1.length c1) := (blk_cell (blk_below HG.out HB3.out) 1).trans rfl; have q2 : w3.cell? (ad.add (i)) = some vk := (HB3.out.cell (World.block_lt_of_cell? _ _ HVK.out)).trans HVK.out; clear hb3) | (go_at_call 30; refine (HK.out _ HB3.out).mono ?_; rintro e w4 ⟨v4, rfl, ho4, hb4⟩; have HO4 := Aside0.mk (Kd.R_below HO3.out hb4); have HB4 := Aside0.mk (below_step HB3.out hb4); obtain ⟨Ak, ck, ek⟩ := Kd.R_slice ho4; subst ek; have HY4 := Aside0.mk ho4; clear ho4 hb4) | ((with_reducible refine gate_builtin (b := .append) (xs := #[.tmp 20, .tmp 28]) rfl ?_); at_builtin; refine Kd.R_append_rows (Kd.int .i64) (w0 := w) w.heap.size rfl (.tmp 20) (.tmp 28) 35 3 (.int .i64 0) 8 rfl Try.underlying35 info_int rfl (by decide) (by omega) (.slice Ao (preF (keysF n) x i).length co) (preF (keysF n) x i) (keysF n (kidF x i)) _ _ _ (fun _ => True) (fun _ => False) rfl rfl ?aO ?aR (fun _ _ h => h) (fun _ h => h.elim) ?aF ?aB ?aS ?aL ?_; (case aR => exact (Kd.R_reads' HY4.out).2.2); (case aB => exact HB4.out); (case aF => exact (fun _ _ => trivial)); (case aO => exact HO4.out); (case aS => exact (below_size HB4.out)); (case aL => have := HLN.out; omega); intro v7 w7 ho hb hg hat; obtain ⟨L7, hL7⟩ : ∃ L7, L7 = preF (keysF n) x i ++ keysF n (kidF x i) := ⟨_, rfl⟩; rw [← hL7] at ho; have HL7 := Aside0.mk hL7; clear hL7; have HO7 := Aside0.mk ho; have HB7 := Aside0.mk hb; clear ho hb hg hat; obtain ⟨Ao7, co7, eo7⟩ := Kd.R_slice HO7.out; subst eo7) | ((with_reducible refine gate_builtin (b := .append) (xs := #[.tmp 30, .tmp 32]) rfl ?_); at_builtin; refine Kd.R_append (Kd.int .i64) (w0 := w) w.heap.size rfl (.tmp 30) (.tmp 32) 35 3 (.int .i64 0) 8 rfl Try.underlying35 info_int rfl (by decide) (by omega) (.slice Ao7 L7.length co7) L7 ky [.int .i64 ky] (fun _ => True) (fun _ => False) rfl rfl ?aP (fun _ hk => hk.elim) ?aF ?aO ?aB ?aS ?aL ?_; (case aP => exact rfl); (case aF => exact (fun _ _ => trivial)); (case aO => exact HO7.out); (case aB => exact HB7.out); (case aS => exact (below_size HB7.out)); (case aL => have := HLN.out; rw [HL7.out, List.length_append]; omega); intro v9 w9 ho hb hg hat; have HO9 := Aside0.mk ho; have HB9 := Aside0.mk hb; clear ho hb hg hat))
          obtain ⟨Ao9, co9, eo9⟩ := Kd.R_slice HO9.out
          subst eo9
          go_roundg (x.f0.length - (i + 1))
          case measure => exact HME.out
          case rel => exact ⟨i + 1, by rw [HW.out], hlt, Nat.le_refl _, ⟨by rw [HST.out, ← HL7.out]; exact HO9.out⟩, HB9⟩
      · obtain rfl : i = x.f0.length := Nat.le_antisymm hin (Nat.not_lt.mp hlt)
        have hnl : ¬ ((x.f0.length : Int) < (x.f0.length : Int)) := Int.lt_irrefl _
        clear hkq hlt hin
        by_cases hz : x.f1.length = 0
        · have HST := Aside0.mk (show keysF (n + 1) x = preF (keysF n) x x.f0.length by rw [keysF, if_pos hz, List.append_nil])
          go_wp2_with (first | (go_at_call 34; refine (LEAF.out _ HB2.out).mono ?_; rintro e w3 ⟨rfl, hb3⟩; rw [decide_eq_true hz]; have HB3 := Aside0.mk (below_step HB2.out hb3); have HO3 := Aside0.mk (Kd.R_below HO2.out hb3); clear hb3))
          go_ret
          exact ⟨_, rfl, by rw [HST.out]; exact HO3.out, HB3.out⟩
        · have hkk : x.f0.length < x.f1.length := by rcases HS.out with h | h <;> omega
          have HST := Aside0.mk (show keysF (n + 1) x = preF (keysF n) x x.f0.length ++ keysF n (kidF x x.f0.length) by rw [keysF, if_neg hz])
          have hlt2 : (preF (keysF n) x x.f0.length).length + (keysF n (kidF x x.f0.length)).length < 1099511627776 := by have := HL.out; rw [HST.out, List.length_append] at this; exact this
          obtain ⟨ad, vk, eA, hvk, hK⟩ := KID.out x.f0.length hkk hz (by omega)
          subst eA
          have HK := Aside0.mk hK
          have HVK := Aside0.mk hvk
          have HLN := Aside0.mk hlt2
          have pi : 0 ≤ (x.f0.length : Int) := Int.natCast_nonneg _
          have pk : (x.f0.length : Int) < (x.f1.length : Int) := Int.ofNat_lt.mpr hkk
          clear hK hvk hlt2
          have SB : Aside0 (∀ W : World, Below w.heap.size w W → W.cell? ⟨g, 0, none⟩ = some (.slice A0 x.f0.length c0) ∧ W.cell? ⟨g, 1, none⟩ = some (.slice (some ad) x.f1.length c1) ∧ W.cell? (ad.add x.f0.length) = some vk ∧ Below w.heap.size w W) := ⟨fun W hb => ⟨(blk_cell (blk_below HG.out hb) 0).trans rfl, (blk_cell (blk_below HG.out hb) 1).trans rfl, (hb.cell (World.block_lt_of_cell? _ _ HVK.out)).trans HVK.out, hb⟩⟩
          go_wp2_with (first | (go_at_call 34; refine (LEAF.out _ HB2.out).mono ?_; rintro e w3 ⟨rfl, hb3⟩; rw [decide_eq_false hz]; have HB3 := Aside0.mk (below_step HB2.out hb3); have HO3 := Aside0.mk (Kd.R_below HO2.out hb3); have q1 : w3.cell? ⟨g, 1, none⟩ = some (.slice (some ad) x.f1.length c1) := (blk_cell (blk_below HG.out HB3.out) 1).trans rfl; have q2 : w3.cell? (ad.add (x.f0.length)) = some vk := (HB3.out.cell (World.block_lt_of_cell? _ _ HVK.out)).trans HVK.out; have q0 : w3.cell? ⟨g, 0, none⟩ = some (.slice A0 x.f0.length c0) := (blk_cell (blk_below HG.out HB3.out) 0).trans rfl; clear hb3))
          have hd3 : Below w.heap.size w w3.drew := below_drew1 HB3.out
          obtain ⟨d1, d2, d3, _⟩ := SB.out _ hd3
          go_region_held3 (fun w' => w'.cell? ⟨g, 0, none⟩ = some (.slice A0 x.f0.length c0) ∧ w'.cell? ⟨g, 1, none⟩ = some (.slice (some ad) x.f1.length c1) ∧ w'.cell? (ad.add x.f0.length) = some vk ∧ Below w.heap.size w w') (first | (go_keep; done) | (exact SB.out _ (by first | assumption | exact hd3)))
            (first | (go_at_call 30; refine (HK.out _ (by first | assumption | exact hd3)).mono ?_; rintro e w4 ⟨v4, rfl, ho4, hb4⟩; have HO4 := Aside0.mk (Kd.R_below (Kd.R_drew HO3.out) hb4); have hB4 : Below w.heap.size w w4 := below_step hd3 hb4; obtain ⟨Ak, ck, ek⟩ := Kd.R_slice ho4; subst ek; have HY4 := Aside0.mk ho4; obtain ⟨s1, s2, s3, _⟩ := SB.out _ hB4; clear ho4 hb4) | (refine Kd.R_append_rows_step (Kd.int .i64) (w0 := w) w.heap.size rfl (.tmp 38) (.tmp 50) 35 3 (.int .i64 0) 8 rfl Try.underlying35 info_int rfl (by decide) (by omega) (.slice Ao (preF (keysF n) x x.f0.length).length co) (preF (keysF n) x x.f0.length) (keysF n (kidF x x.f0.length)) _ _ _ (fun _ => True) (fun _ => False) rfl rfl HO4.out (Kd.R_reads' HY4.out).2.2 (fun _ _ h => h) (fun _ h => h.elim) (fun _ _ => trivial) hB4 (below_size hB4) (by have := HLN.out; omega) ?_; intro v7 w7 ho hB7 hg hat; have HO7 := Aside0.mk ho; obtain ⟨s4, s5, s6, _⟩ := SB.out _ hB7; clear ho hg hat))
          all_goals go_wp2
          all_goals go_ret
          all_goals exact ⟨_, rfl, by rw [HST.out]; exact HO7.out, hB7⟩

end Go.Proofs.Ytmgbfbpolmbnfaa.PFnExactKeysOf
