/- The walks of FnParity: Go's calls come to what the Lean functions beside them say; no condition. -/
import Derived.Test.YtfijnlhklfmoeaaQFnParityx0
import Derived.Test.YtfijnlhklfmoeaaQFnParityx3
import Derived.Test.YtfijnlhklfmoeaaQFnParityx5
namespace Go.Proofs.Ytfijnlhklfmoeaa.PFnParity
open Go.RowKit Go.Proofs.YtfijnlhklfmoeaaW.PrintWords Go.Proofs.YtfijnlhklfmoeaaW.PrintLast Go.Proofs.YtfijnlhklfmoeaaW.PrintMore
attribute [local go_sem] max2_int min2_int max_two min_two max_three min_three max_four min_four   -- for this text's walks alone
set_option linter.unusedVariables false
set_option linter.unusedSimpArgs false
set_option maxRecDepth 100000

/-! ### spec_l3Times: function 53 (by hand) -/
/-- a text, its bytes times a number -/
def spec_l3Times.f (k : Nat) (a0 : Int) (a1 : ByteArray) : Option (ByteArray) :=
 if a1.size ≤ 4611686018427387904 then (Go.Proofs.Ytfijnlhklfmoeaa.Bytes.allOf (fun j => spec_l2Mul.f k a0 (bt a1 (j : Int))) a1.size).bind fun l => some (strOfNums l) else none
theorem spec_l3Times.mono : ∀ a0 a1 k, LeO (spec_l3Times.f k a0 a1) (spec_l3Times.f (k + 1) a0 a1) := by
 intro a0 a1 k
 unfold spec_l3Times.f
 refine LeO.ite ?_ (LeO.none _)
 exact LeO.bind (Go.Proofs.Ytfijnlhklfmoeaa.Bytes.allOf_mono (fun _ => spec_l2Mul.mono _ _ _) _) (fun _ => LeO.refl _)
set_option maxHeartbeats 8000000 in
set_option maxRecDepth 100000 in
theorem spec_l3Times.calls (k : Nat) (a0 : Int) (a1 : ByteArray) (r : ByteArray) (w : World) (h : spec_l3Times.f k a0 a1 = some r) :
  Calls Try.prog 53 #[.int .u8 a0, .string a1] w fun e w' => e = .returned (.string r) ∧ Below w.heap.size w w' := by
 unfold spec_l3Times.f at h
 by_cases hl : a1.size ≤ 4611686018427387904
 case neg => rw [if_neg hl] at h; cases h
 rw [if_pos hl] at h
 obtain ⟨l, hall, h⟩ := Option.bind_eq_some_iff.mp h; obtain rfl := Option.some.inj h; clear h; obtain ⟨hll, hlj⟩ := Go.Proofs.Ytfijnlhklfmoeaa.Bytes.allOf_tells hall; clear hall; have HLE := aM hl; have HLL := aM hll; have HLJ := aM hlj; clear hl hll hlj; have hu9 := Try.underlying9; have hu48 := Try.underlying48; have hu5 := Try.underlying5
 go_enter Try.func53, Try.ntmps53
 go_wp2_with ((with_reducible refine gate_dst (N := 8) rfl ?_); go_loud (refine Go.Proofs.Ytfijnlhklfmoeaa.Bytes.conv_event ?hg (N := 8) ?hd (src := 9) (dst := 48) (e := 5) (s := a1) hu9 hu48 hu5 ?hex ?_); (case hd => rfl); (case hg => rfl); (case hex => go_simp); intro g c w1 hg hrow hbel hc; have HR := aM hrow; have HB := aM hbel; have HG := aM hg; have HC := aM hc; clear hrow hbel hg hc)
 have hL0 := bytesOf_length a1
 go_loopw [11] (fun v11 w' => ∃ (i : Nat) (ys : List Int), i ≤ a1.size ∧ v11 = .int .i64 (i : Int) ∧ Aside0 (Go.Proofs.Ytfijnlhklfmoeaa.Bytes.RowB w' 5 g ys) ∧ Aside0 (ys.length = a1.size) ∧ Aside0 (∀ j : Nat, j < a1.size → ys.getD j 0 = if j < i then l.getD j 0 else bt a1 (j : Int)) ∧ Aside0 (Below w.heap.size w w')) (fun v11 w' => a1.size - (intOf v11).toNat)
 case atStart => exact ⟨0, bytesOf a1, Nat.zero_le _, rfl, ⟨by first | exact HR.out | exact HR.out.drewN⟩, ⟨hL0⟩, ⟨fun j hj => by rw [if_neg (by omega)]; have := rd_bytesOf a1 (j : Int); unfold rd at this; rw [Int.toNat_natCast] at this; exact this⟩, ⟨by repeat (first | exact HB.out | apply zD | apply zN)⟩⟩
 case round =>
  obtain ⟨i, ys, hi, rfl, HRi, HLi, HVi, HBi⟩ := hrel
  by_cases hlt : i < a1.size
  ·have hbig : a1.size ≤ 4611686018427387904 := HLE.out
   have hil : i < ys.length := by rw [HLi.out]; exact hlt
   have hcell := HRi.out.cell i hil; have hv := HVi.out i hlt
   rw [if_neg (by omega)] at hv
   rw [hv] at hcell
   have hfree := HRi.out.free i hil; have HM := aM (HLJ.out i hlt); have HS := aM (HRi.out.set i hil (l.getD i 0))
   have hcell' : ∀ n_ : Nat, (wr.drewN n_).cell? ⟨g, i, none⟩ = some (.int .u8 (bt a1 (i : Int))) := fun n_ => hcell
   have hfree' : ∀ n_ : Nat, (wr.drewN n_).frozen? ⟨g, i, none⟩ = false := fun n_ => hfree
   clear hv
   go_wp2_with (first | ((with_reducible refine gate_callee (f := 73) rfl ?_); refine goesL_ (some 21) rfl rfl Try.func73 (by kernel_rfl) rfl #[.int .u8 a0, .int .u8 (bt a1 (i : Int))] rfl (by (try simp only [List.map_toArray, List.map_cons, List.map_nil]); first | done | rfl) ?_; (with_reducible refine (spec_l2Mul.calls k a0 (bt a1 (i : Int)) (l.getD i 0) _ HM.out).mono ?_); rintro e w' ⟨rfl, ⟨nd2, rfl⟩⟩; refine ⟨_, rfl, ?_⟩))
   go_roundw
   case rel => exact ⟨i + 1, ys.set i (l.getD i 0), by omega, by go_num, ⟨by first | exact HS.out | exact HS.out.drew | exact HS.out.drewN⟩, ⟨by rw [List.length_set]; exact HLi.out⟩, ⟨fun j hj => by
     rw [Go.Proofs.Ytfijnlhklfmoeaa.Bytes.getD_set _ _ _ _ hil]
     by_cases hji : j = i
     ·subst hji; rw [if_pos rfl, if_pos (by omega)]
     ·rw [if_neg hji, HVi.out j hj]
      by_cases h2 : j < i
      ·rw [if_pos h2, if_pos (by omega)]
      ·rw [if_neg h2, if_neg (by omega)]⟩, ⟨by repeat (first | exact HBi.out | apply zD | apply zN | (refine Go.Proofs.Ytfijnlhklfmoeaa.Bytes.RowB.setBelow ?_ (by rw [HG.out]; exact Nat.le_refl _) _ _))⟩⟩
   case measure => simp [intOf]; omega
  ·have hin : i = a1.size := by omega
   have HY := aM (show ys = l by
    apply List.ext_getElem (by rw [HLi.out, HLL.out])
    intro j h1 h2
    have h3 : j < a1.size := by rw [← HLL.out]; exact h2
    have h4 := HVi.out j h3
    rw [if_pos (by omega)] at h4
    rw [List.getD_eq_getElem?_getD, List.getD_eq_getElem?_getD, List.getElem?_eq_getElem h1, List.getElem?_eq_getElem h2] at h4
    simpa using h4)
   have hcv : (convert 48 9 (.slice (some ⟨g, 0, none⟩) a1.size c)).run Try.prog wr = .ok (.string (strOfNums ys)) wr := HRi.out.text hu48 hu5 hu9 _ _ HLi.out.symm; clear hin
   go_wp2
   go_ret
   exact ⟨by rw [← HY.out]; rfl, by repeat (first | exact HBi.out | apply zD | apply zN)⟩


/-! ### spec_l2Pow: function 54 -/
def spec_l2Pow.l0 : Nat → Int → Int → Int → Option (Int)
 | 0, _, _, _ => none
 | k + 1, x0, x1, x5 => if x1 > 0 then ((spec_l2Mul.f k x5 x0).bind fun t212 => (spec_l2Pow.l0 k x0 (wrap64 (x1 - 1)) t212)) else (some x5)
def spec_l2Pow.f (k : Nat) (a0 : Int) (a1 : Int) : Option (Int) := spec_l2Pow.l0 k a0 a1 1
theorem spec_l2Pow.mono_l : ∀ k, (∀ y0 y1 y2, LeO (spec_l2Pow.l0 k y0 y1 y2) (spec_l2Pow.l0 (k + 1) y0 y1 y2))
 | 0 => fun _ _ _ r h => by change none = some r at h; cases h
 | k + 1 => by
  have ih0 := spec_l2Pow.mono_l k
  ·intro y0 y1 y2
   unfold spec_l2Pow.l0
   repeat' first
   | (with_reducible exact ih0 _ _ _)
   | (with_reducible exact spec_l2Mul.mono _ _ _)
   | (with_reducible exact LeO.refl _)
   | (with_reducible exact LeO.none _)
   | (with_reducible refine LeO.ite ?_ ?_)
   | (with_reducible refine LeO.bind ?_ (fun _ => ?_))
   | exact ih0 _ _ _
   | exact spec_l2Mul.mono _ _ _
   | exact LeO.none _
   | refine LeO.ite ?_ ?_
   | refine LeO.bind ?_ (fun _ => ?_)
theorem spec_l2Pow.mono : ∀ a0 a1 k, LeO (spec_l2Pow.f k a0 a1) (spec_l2Pow.f (k + 1) a0 a1) := by
 intro a0 a1 k
 have ih0 := spec_l2Pow.mono_l k
 unfold spec_l2Pow.f
 repeat' first
   | (with_reducible exact ih0 _ _ _)
   | (with_reducible exact spec_l2Mul.mono _ _ _)
   | (with_reducible exact LeO.refl _)
   | (with_reducible exact LeO.none _)
   | (with_reducible refine LeO.ite ?_ ?_)
   | (with_reducible refine LeO.bind ?_ (fun _ => ?_))
   | exact ih0 _ _ _
   | exact spec_l2Mul.mono _ _ _
   | exact LeO.none _
   | refine LeO.ite ?_ ?_
   | refine LeO.bind ?_ (fun _ => ?_)
set_option maxHeartbeats 8000000 in
set_option maxRecDepth 100000 in
theorem spec_l2Pow.calls (k : Nat) (a0 : Int) (a1 : Int) (r : Int) (w : World) (h : spec_l2Pow.f k a0 a1 = some r) :
  Calls Try.prog 54 #[.int .u8 a0, .int .i64 a1] w fun e w' => e = .returned (.int .u8 r) ∧ Drawn0 w w' := by
 have H : (spec_l2Pow.l0 k a0 a1 1) = some r := h; clear h; have H' := aM H; clear H
 go_enter Try.func54, Try.ntmps54
 go_wp2
 go_loopg [1, 5] k (fun kq v1 v5 w' => ∃ (x1_1 : Int) (x5_1 : Int), v1 = .int .i64 x1_1 ∧ v5 = .int .u8 x5_1 ∧ Aside0 (spec_l2Pow.l0 kq a0 x1_1 x5_1 = some r) ∧ Aside0 (kq ≤ k) ∧ Drawn0 w w')
 case atStart => exact ⟨(a1), (1), (by first | rfl | (simp; done) | (simp [*]; done)), (by first | rfl | (simp; done) | (simp [*]; done)), H', ⟨Nat.le_refl _⟩, by repeat (first | exact Drawn0.refl _ | apply Drawn0.step)⟩
 case round =>
  clear H'; obtain ⟨x1_1, x5_1, rfl, rfl, HA, HK1, ⟨m1, rfl⟩⟩ := hrel
  cases gk with
  | zero => exact absurd HA.out (fun h_ => by change none = some _ at h_; cases h_)
  | succ k1 =>
   have H := HA.out; clear HA
   simp only [spec_l2Pow.l0] at H
   by_cases c3 : x1_1 > 0
   ·rw [if_pos c3] at H
    have c3b0 : decide (0 < x1_1) = true := decide_eq_true c3; clear c3; replace H := Option.bind_eq_some_iff.mp H; obtain ⟨t212, A40, H⟩ := H; replace H : (spec_l2Pow.l0 k1 a0 (wrap64 (x1_1 - 1)) t212) = some r := H; have A4 := aM A40; clear A40; have H' := aM H; clear H
    go_wp2_with (first | ((with_reducible refine gate_callee (f := 73) rfl ?_); refine goesL_ (some 12) rfl rfl Try.func73 (by kernel_rfl) rfl #[.int .u8 x5_1, .int .u8 a0] rfl mA ?_; (with_reducible refine (spec_l2Mul.calls k1 x5_1 a0 t212 _ A4.out).mono ?_); rintro e w' ⟨rfl, ⟨nd, rfl⟩⟩; refine ⟨_, rfl, ?_⟩))
    go_roundg k1
    case measure => have := HK1.out; omega
    case rel => exact ⟨(wrap64 (x1_1 - 1)), (t212), (by first | rfl | (simp; done) | (simp [*]; done)), (by first | rfl | (simp; done) | (simp [*]; done)), H', ⟨by have := HK1.out; omega⟩, by repeat (first | exact Drawn0.refl _ | apply Drawn0.step)⟩
   ·rw [if_neg c3] at H
    have c3b0 : decide (0 < x1_1) = false := decide_eq_false c3; clear c3; obtain rfl := Option.some.inj H
    go_wp2
    go_ret
    exact ⟨by first | rfl | (simp; done) | (simp [*]; done), by repeat (first | exact Drawn0.refl _ | apply Drawn0.step)⟩

/-! ### spec_l3Own: function 51 -/
def spec_l3Own.f (l0_0 : List ByteArray) (a0_1 : ByteArray) (a0_2 : ByteArray) : Option (List ByteArray × ByteArray × ByteArray) := (some (([] : List ByteArray) : List ByteArray)).bind fun y215 => (if y215.length + l0_0.length < 8796093022208 then (some ((y215 ++ l0_0), a0_1, a0_2)) else (none))
set_option maxHeartbeats 8000000 in
set_option maxRecDepth 100000 in
theorem spec_l3Own.calls (A0_0 : Option Addr) (c0_0 : Nat) (l0_0 : List ByteArray) (a0_1 : ByteArray) (a0_2 : ByteArray) (r1 : List ByteArray) (r2 : ByteArray) (r3 : ByteArray) (w : World) (hr0_0 : Kd.C Kd.string w A0_0 l0_0.length l0_0) (hc0_0 : l0_0.length ≤ c0_0) (h : spec_l3Own.f l0_0 a0_1 a0_2 = some (r1, r2, r3)) :
  Calls Try.prog 51 #[.agg #[.slice A0_0 l0_0.length c0_0, .string a0_1, .string a0_2]] w fun e w' => ∃ v0_ : Value, e = .returned (.agg #[v0_, .string r2, .string r3]) ∧ Kd.R Kd.string 9 w' w.heap.size (fun _ => True) v0_ r1 ∧ Below w.heap.size w w' := by
 have hu27 := Try.underlying27; have HR0_0 := aM hr0_0; have HC0_0 := aM hc0_0; clear hr0_0 hc0_0; have HB := aM (Below.refl w.heap.size w)
 have H : ((some (([] : List ByteArray) : List ByteArray)).bind fun y215 => (if y215.length + l0_0.length < 8796093022208 then (some ((y215 ++ l0_0), a0_1, a0_2)) else (none))) = some (r1, r2, r3) := h
 clear h; obtain ⟨y215, hy215⟩ : ∃ y_ : List ByteArray, y_ = (([] : List ByteArray)) := ⟨_, rfl⟩
 replace H : (if y215.length + l0_0.length < 8796093022208 then (some ((y215 ++ l0_0), a0_1, a0_2)) else (none)) = some (r1, r2, r3) := by first | (rw [hy215]; with_reducible exact H) | (have H2_ := (Option.bind_some _ _).symm.trans H; rw [hy215]; with_reducible exact H2_) | (have H2_ := (Option.bind_some _ _).symm.trans H; with_reducible exact H2_) | with_reducible exact H | (rw [hy215]; exact H) | exact H
 have Ny215 := aM hy215; clear hy215
 by_cases c2 : y215.length + l0_0.length < 8796093022208
 ·rw [if_pos c2] at H
  have LMc2 := aM c2; clear c2; obtain ⟨y218, hy218⟩ : ∃ y_ : List ByteArray, y_ = (y215 ++ l0_0) := ⟨_, rfl⟩
  replace H : (some (y218, a0_1, a0_2)) = some (r1, r2, r3) := by first | (rw [hy218]; with_reducible exact H) | (have H2_ := (Option.bind_some _ _).symm.trans H; rw [hy218]; with_reducible exact H2_) | (have H2_ := (Option.bind_some _ _).symm.trans H; with_reducible exact H2_) | with_reducible exact H | (rw [hy218]; exact H) | exact H
  have Ny218 := aM hy218; clear hy218
  simp only [Option.some.injEq, Prod.mk.injEq] at H
  obtain ⟨rfl, rfl, rfl⟩ := H
  go_enter Try.func51, Try.ntmps51
  go_wp2_with (first | ((with_reducible refine gate_dst (N := 1) rfl ?_); refine box_event ?hg (N := 1) ?hd (cs := #[.slice A0_0 l0_0.length c0_0, .string a0_1, .string a0_2]) (t := 27) ?hr ?_; (case hd => rfl); (case hg => rfl); (case hr => first | (go_simp; done) | (go_simp; rfl)); intro gb213 hg w3 hbox hb; have BK213 := aM (hbox); have GW213 := aM ((by rw [hg]; exact (zZ (zH HB.out)) : w.heap.size ≤ gb213)); have GE213 := aM ((by rw [hg]; exact (zZ (zH HB.out)) : w.heap.size ≤ gb213)); replace HB := aM (zT (zH HB.out) hb); clear hb hbox hg) | ((with_reducible refine gate_dst (N := 2) rfl ?_); refine box_event ?hg (N := 2) ?hd (cs := #[.slice none 0 0, .string (⟨#[]⟩ : ByteArray), .string (⟨#[]⟩ : ByteArray)]) (t := 27) ?hr ?_; (case hd => rfl); (case hg => rfl); (case hr => first | (go_simp; done) | (go_simp; rfl)); intro gb214 hg w4 hbox hb; have BK214 := aM (hbox); have GW214 := aM ((by rw [hg]; exact (zZ (zH HB.out)) : w.heap.size ≤ gb214)); have GE214 := aM ((by rw [hg]; exact (zZ (zH HB.out)) : w.heap.size ≤ gb214)); replace HB := aM (zT (zH HB.out) hb); have NB213_214 := nL BK213.out hg; have NB214_213 := nR BK213.out hg; replace BK213 := yK BK213.out hb; clear hb hbox hg) | ((with_reducible refine gate_dst (N := 3) rfl ?_); refine Kd.R_lit Kd.string _ 9 ?hg (N := 3) ?hd (xs := ([] : List ByteArray)) (inner := []) (ok := fun _ => True) (okp := fun _ => True) ?hr ?hp (fun _ hk => hk) trivial (Below.refl _ _) (Nat.le_refl _) (by simp) ?_; (case hd => rfl); (case hg => rfl); (case hr => first | (go_simp; done) | (go_simp; rfl)); (case hp => exact (Reps.none _ _)); intro v216 w5 ho6 hb hg_ hnew_; clear hg_ hnew_; (first | rw [← Ny215.out] at ho6 | (simp only [Int.reduceToNat] at ho6; rw [← Ny215.out] at ho6)); have HO217 := aM (xL ho6 (zZ (zH HB.out))); replace BK213 := yK BK213.out hb; replace BK214 := yK BK214.out hb; replace HB := aM (zT (zH HB.out) hb); clear hb ho6; have hnb7 := NB213_214.out; have hnc7 := NB214_213.out; have hcz8_0 : w5.cell? ⟨gb213, 0, none⟩ = some (.slice A0_0 l0_0.length c0_0) := yc BK213.out 0; have hcz8_1 : w5.cell? ⟨gb213, 1, none⟩ = some (.string a0_1) := yc BK213.out 1; have hcz8_2 : w5.cell? ⟨gb213, 2, none⟩ = some (.string a0_2) := yc BK213.out 2; have hfz8_0 := yZ BK213.out 0; have hfz8_1 := yZ BK213.out 1; have hfz8_2 := yZ BK213.out 2) | ((with_reducible refine gate_builtin (b := .append) (xs := #[.tmp 3, .tmp 5]) rfl ?_); at_builtin; refine Kd.R_append_rows Kd.string (w0 := w) w.heap.size rfl (.tmp 3) (.tmp 5) 22 9 (.string ⟨#[]⟩) 16 rfl Try.underlying22 info9 rfl (by decide) (by omega) v216 y215 l0_0 _ _ _ (fun _ => True) (fun _ => False) rfl rfl ?aO ?aR (fun _ _ h => h) (fun _ h => h.elim) ?aF ?aB ?aS ?aL ?_; (case aR => exact cK HR0_0.out HB.out); (case aB => exact (zH HB.out)); (case aF => exact (fun _ _ => trivial)); (case aO => exact (xH HO217.out)); (case aS => exact (zZ (zH HB.out))); (case aL => have := LMc2.out; omega); intro v219 w9 ho hb hg hat; rw [← Ny218.out] at ho; replace BK213 := aM (blk_grown (g := gb213) (o := .cells #[.slice A0_0 l0_0.length c0_0, .string a0_1, .string a0_2] 27 (0, 0)) (yH BK213.out) hg (Kd.R_ne HO217.out BK213.out (by decide))); replace BK214 := aM (blk_grown (g := gb214) (o := .cells #[.slice none 0 0, .string (⟨#[]⟩ : ByteArray), .string (⟨#[]⟩ : ByteArray)] 27 (0, 0)) (yH BK214.out) hg (Kd.R_ne HO217.out BK214.out (by decide))); replace HB := aM (hb); have HO220 := aM (ho); clear HO217; clear ho hb hg hat; obtain ⟨Ao10, co10, eo10⟩ := Kd.R_slice HO220.out; subst eo10; have hcz11_0 : w9.cell? ⟨gb213, 0, none⟩ = some (.slice A0_0 l0_0.length c0_0) := yc BK213.out 0; have hcz11_1 : w9.cell? ⟨gb213, 1, none⟩ = some (.string a0_1) := yc BK213.out 1; have hcz11_2 : w9.cell? ⟨gb213, 2, none⟩ = some (.string a0_2) := yc BK213.out 2; have hfz11_0 := yZ BK213.out 0; have hfz11_1 := yZ BK213.out 1; have hfz11_2 := yZ BK213.out 2; have hcz12_0 : w9.cell? ⟨gb214, 0, none⟩ = some (.slice none 0 0) := yc BK214.out 0; have hcz12_1 : w9.cell? ⟨gb214, 1, none⟩ = some (.string (⟨#[]⟩ : ByteArray)) := yc BK214.out 1; have hcz12_2 : w9.cell? ⟨gb214, 2, none⟩ = some (.string (⟨#[]⟩ : ByteArray)) := yc BK214.out 2; have hfz12_0 := yZ BK214.out 0; have hfz12_1 := yZ BK214.out 1; have hfz12_2 := yZ BK214.out 2))
  refine bodyPost_ret (results_cell_row rfl _ _ gb214 27 #[.slice Ao10 y218.length co10, .string a0_1, .string a0_2] (0, 0) _ rfl (by refine yW ?_; refine yP (cs := #[.slice Ao10 y218.length co10, .string a0_1, .string (⟨#[]⟩ : ByteArray)]) ?_ 2 _ rfl; refine yW ?_; refine yP (cs := #[.slice Ao10 y218.length co10, .string (⟨#[]⟩ : ByteArray), .string (⟨#[]⟩ : ByteArray)]) ?_ 1 _ rfl; refine yW ?_; refine yP (cs := #[.slice none 0 0, .string (⟨#[]⟩ : ByteArray), .string (⟨#[]⟩ : ByteArray)]) ?_ 0 _ rfl; refine yW ?_; refine yF ?_ NB214_213.out _; refine yW ?_; exact BK214.out) Try.underlying27 rfl (by kernel_rfl)) rfl ?_
  exact ⟨_, eW, xH (xM (xF (p := ⟨gb214, 2, none⟩) (xF (p := ⟨gb214, 1, none⟩) (xF (p := ⟨gb214, 0, none⟩) (xF (p := ⟨gb213, 0, none⟩) (xT (xT HO220.out BK213.out (by decide)) BK214.out (by decide)) (fun _ hk => hk.1.2) (.slice Ao10 y218.length co10)) (fun _ hk => hk.2) (.slice Ao10 y218.length co10)) (fun _ hk => hk.2) (.string a0_1)) (fun _ hk => hk.2) (.string a0_2)) (fun _ hk => trivial)), zH HB.out⟩
 ·rw [if_neg c2] at H
  exact absurd H (by simp)

/-! ### spec_l1Zeros: function 82 -/
def spec_l1Zeros.f (a0 : Int) : Option (ByteArray) := if 0 ≤ a0 then (if (a0 : Int).toNat ≤ 281474976710656 then (some (strOfNums (List.replicate (a0 : Int).toNat 0))) else (none)) else (none)
set_option maxHeartbeats 8000000 in
set_option maxRecDepth 100000 in
theorem spec_l1Zeros.calls (a0 : Int) (r : ByteArray) (w : World) (h : spec_l1Zeros.f a0 = some r) :
  Calls Try.prog 82 #[.int .i64 a0] w fun e w' => e = .returned (.string r) ∧ Below w.heap.size w w' := by
 have HB := aM (Below.refl w.heap.size w); have H : (if 0 ≤ a0 then (if (a0 : Int).toNat ≤ 281474976710656 then (some (strOfNums (List.replicate (a0 : Int).toNat 0))) else (none)) else (none)) = some r := h; clear h
 by_cases c2 : 0 ≤ a0
 ·rw [if_pos c2] at H
  have c2b0 := eq_true c2; have c2b1 : decide (0 ≤ a0) = true := decide_eq_true c2; clear c2
  by_cases c3 : (a0 : Int).toNat ≤ 281474976710656
  ·rw [if_pos c3] at H
   have c3b0 := eq_true c3; have c3b1 : decide ((a0 : Int).toNat ≤ 281474976710656) = true := decide_eq_true c3; clear c3; obtain ⟨y221, hy221⟩ : ∃ y_ : List Int, y_ = (List.replicate (a0 : Int).toNat 0) := ⟨_, rfl⟩
   replace H : (some (strOfNums y221)) = some r := by first | (rw [hy221]; with_reducible exact H) | (have H2_ := (Option.bind_some _ _).symm.trans H; rw [hy221]; with_reducible exact H2_) | (have H2_ := (Option.bind_some _ _).symm.trans H; with_reducible exact H2_) | with_reducible exact H | (rw [hy221]; exact H) | exact H
   have Ny221 := aM hy221; clear hy221; obtain rfl := Option.some.inj H
   go_enter Try.func82, Try.ntmps82
   go_wp2_with (first | ((with_reducible refine gate_dst (N := 4) rfl ?_); refine Kd.R_make (Kd.int .u8) _ 5 rfl (N := 4) rfl 48 _ _ rfl a0 rfl rfl Try.underlying48 (.int .u8 0) 1 info5 rfl (by decide) (by omega) 0 (ok := fun _ => True) (okp := fun _ => True) rfl (fun _ hk => hk) trivial (of_decide_eq_true (by first | (with_reducible assumption) | assumption)) (Nat.le_trans (Nat.mul_le_mul_right _ (of_decide_eq_true (by first | (with_reducible assumption) | assumption) : a0.toNat ≤ 281474976710656)) (by omega)) (Below.refl _ _) (Nat.le_refl _) ?_; intro v222 w4 ho5 hb hg_ hnew_; clear hg_ hnew_; (first | rw [← Ny221.out] at ho5 | (simp only [Int.reduceToNat] at ho5; rw [← Ny221.out] at ho5)); have HO223 := aM (xL ho5 (zZ (zH HB.out))); replace HB := aM (zT (zH HB.out) hb); clear hb ho5; have hcv6 := own_string (P := Try.prog) Try.underlying48 Try.underlying5 Try.underlying9 (Kd.own_of_R HO223.out)))
   go_ret
   exact ⟨eW, zH HB.out⟩
  ·rw [if_neg c3] at H
   exact absurd H (by simp)
 ·rw [if_neg c2] at H
  exact absurd H (by simp)

/-! ### spec_l3Blank: function 75 -/
def spec_l3Blank.f (l0_0 : List ByteArray) (a0_1 : ByteArray) (a0_2 : ByteArray) (a1 : Int) : Option (List ByteArray × ByteArray × ByteArray) := (spec_l3Own.f l0_0 a0_1 a0_2).bind fun bt226 => (if a1 < (bt226.1.length : Int) then ((spec_l1Zeros.f (bt226.2.1.size : Int)).bind fun t231 => (if 0 ≤ a1 then (some ((bt226.1.set (a1 : Int).toNat t231), bt226.2.1, bt226.2.2)) else (none))) else (if a1 = (bt226.1.length : Int) then ((spec_l1Zeros.f (bt226.2.1.size : Int)).bind fun t233 => (some (bt226.1, t233, bt226.2.2))) else ((spec_l1Zeros.f (bt226.2.2.size : Int)).bind fun t234 => (some (bt226.1, bt226.2.1, t234)))))
def spec_l3Blank.T5 : Bool × List (List Nat × List Nat) := (true, [([], []), ([0], [0]), ([], []), ([], []), ([3], [3]), ([4], [4]), ([5], [5]), ([1, 2, 0, 1, 2, 3, 4, 5, 6], [1, 2]), ([7, 6, 6, 0, 1, 2, 3, 4, 5, 6], [6, 7])])
def spec_l3Blank.B5 : List Nat := [0, 1, 0, 0, 8, 24, 56, 127, 255]
theorem spec_l3Blank.tab5 : rtab .any (opsOf Try.f75 5) = spec_l3Blank.T5 := by kernel_rfl
theorem spec_l3Blank.bits5 : waitsOk spec_l3Blank.T5.2 spec_l3Blank.B5 = true := by kernel_rfl
set_option maxHeartbeats 8000000 in
set_option maxRecDepth 100000 in
theorem spec_l3Blank.calls (A0_0 : Option Addr) (c0_0 : Nat) (l0_0 : List ByteArray) (a0_1 : ByteArray) (a0_2 : ByteArray) (a1 : Int) (r1 : List ByteArray) (r2 : ByteArray) (r3 : ByteArray) (w : World) (hr0_0 : Kd.C Kd.string w A0_0 l0_0.length l0_0) (hc0_0 : l0_0.length ≤ c0_0) (h : spec_l3Blank.f l0_0 a0_1 a0_2 a1 = some (r1, r2, r3)) :
  Calls Try.prog 75 #[.agg #[.slice A0_0 l0_0.length c0_0, .string a0_1, .string a0_2], .int .i64 a1] w fun e w' => ∃ v0_ : Value, e = .returned (.agg #[v0_, .string r2, .string r3]) ∧ Kd.R Kd.string 9 w' w.heap.size (fun _ => True) v0_ r1 ∧ Below w.heap.size w w' := by
 have hu27 := Try.underlying27; have HR0_0 := aM hr0_0; have HC0_0 := aM hc0_0; clear hr0_0 hc0_0; have HB := aM (Below.refl w.heap.size w)
 have H : ((spec_l3Own.f l0_0 a0_1 a0_2).bind fun bt226 => (if a1 < (bt226.1.length : Int) then ((spec_l1Zeros.f (bt226.2.1.size : Int)).bind fun t231 => (if 0 ≤ a1 then (some ((bt226.1.set (a1 : Int).toNat t231), bt226.2.1, bt226.2.2)) else (none))) else (if a1 = (bt226.1.length : Int) then ((spec_l1Zeros.f (bt226.2.1.size : Int)).bind fun t233 => (some (bt226.1, t233, bt226.2.2))) else ((spec_l1Zeros.f (bt226.2.2.size : Int)).bind fun t234 => (some (bt226.1, bt226.2.1, t234)))))) = some (r1, r2, r3) := h
 clear h; replace H := Option.bind_eq_some_iff.mp H; obtain ⟨⟨t226, t229, t230⟩, A30, H⟩ := H
 replace H : (if a1 < (t226.length : Int) then ((spec_l1Zeros.f (t229.size : Int)).bind fun t231 => (if 0 ≤ a1 then (some ((t226.set (a1 : Int).toNat t231), t229, t230)) else (none))) else (if a1 = (t226.length : Int) then ((spec_l1Zeros.f (t229.size : Int)).bind fun t233 => (some (t226, t233, t230))) else ((spec_l1Zeros.f (t230.size : Int)).bind fun t234 => (some (t226, t229, t234))))) = some (r1, r2, r3) := H
 have A3 := aM A30; clear A30
 by_cases c4 : a1 < (t226.length : Int)
 ·rw [if_pos c4] at H
  have c4b0 : decide (a1 < (t226.length : Int)) = true := decide_eq_true c4; clear c4; replace H := Option.bind_eq_some_iff.mp H; obtain ⟨t231, A50, H⟩ := H; replace H : (if 0 ≤ a1 then (some ((t226.set (a1 : Int).toNat t231), t229, t230)) else (none)) = some (r1, r2, r3) := H; have A5 := aM A50; clear A50
  by_cases c6 : 0 ≤ a1
  ·rw [if_pos c6] at H
   have c6b0 : decide (0 ≤ a1) = true := decide_eq_true c6; clear c6; obtain ⟨y232, hy232⟩ : ∃ y_ : List ByteArray, y_ = (t226.set (a1 : Int).toNat t231) := ⟨_, rfl⟩
   replace H : (some (y232, t229, t230)) = some (r1, r2, r3) := by first | (rw [hy232]; with_reducible exact H) | (have H2_ := (Option.bind_some _ _).symm.trans H; rw [hy232]; with_reducible exact H2_) | (have H2_ := (Option.bind_some _ _).symm.trans H; with_reducible exact H2_) | with_reducible exact H | (rw [hy232]; exact H) | exact H
   have Ny232 := aM hy232; clear hy232
   simp only [Option.some.injEq, Prod.mk.injEq] at H
   obtain ⟨rfl, rfl, rfl⟩ := H
   go_enter Try.func75, Try.ntmps75
   try go_wp2_with (first | ((with_reducible refine gate_dst (N := 2) rfl ?_); refine box_event ?hg (N := 2) ?hd (cs := #[.slice A0_0 l0_0.length c0_0, .string a0_1, .string a0_2]) (t := 27) ?hr ?_; (case hd => rfl); (case hg => rfl); (case hr => first | (go_simp; done) | (go_simp; rfl)); intro gb224 hg w8 hbox hb; have BK224 := aM (hbox); have GW224 := aM ((by rw [hg]; exact (zZ (zH HB.out)) : w.heap.size ≤ gb224)); have GE224 := aM ((by rw [hg]; exact (zZ (zH HB.out)) : w.heap.size ≤ gb224)); replace HB := aM (zT (zH HB.out) hb); clear hb hbox hg) | ((with_reducible refine gate_dst (N := 4) rfl ?_); refine box_event ?hg (N := 4) ?hd (cs := #[.slice none 0 0, .string (⟨#[]⟩ : ByteArray), .string (⟨#[]⟩ : ByteArray)]) (t := 27) ?hr ?_; (case hd => rfl); (case hg => rfl); (case hr => first | (go_simp; done) | (go_simp; rfl)); intro gb225 hg w9 hbox hb; have BK225 := aM (hbox); have GW225 := aM ((by rw [hg]; exact (zZ (zH HB.out)) : w.heap.size ≤ gb225)); have GE225 := aM ((by rw [hg]; exact (zZ (zH HB.out)) : w.heap.size ≤ gb225)); replace HB := aM (zT (zH HB.out) hb); have NB224_225 := nL BK224.out hg; have NB225_224 := nR BK224.out hg; replace BK224 := yK BK224.out hb; clear hb hbox hg; have hnb10 := NB224_225.out; have hnc10 := NB225_224.out; have hcz11_0 : w9.cell? ⟨gb224, 0, none⟩ = some (.slice A0_0 l0_0.length c0_0) := yc BK224.out 0; have hcz11_1 : w9.cell? ⟨gb224, 1, none⟩ = some (.string a0_1) := yc BK224.out 1; have hcz11_2 : w9.cell? ⟨gb224, 2, none⟩ = some (.string a0_2) := yc BK224.out 2; have hfz11_0 := yZ BK224.out 0; have hfz11_1 := yZ BK224.out 1; have hfz11_2 := yZ BK224.out 2) | ((with_reducible refine gate_callee (f := 51) rfl ?_); refine goesL_ (some 7) rfl rfl Try.func51 (by kernel_rfl) rfl #[.agg #[.slice A0_0 l0_0.length c0_0, .string a0_1, .string a0_2]] rfl mA ?_; (with_reducible refine (spec_l3Own.calls _ _ l0_0 a0_1 a0_2 t226 t229 t230 _ ?side1 ?side2 A3.out).mono ?_); (case side1 => exact cK HR0_0.out HB.out); (case side2 => exact HC0_0.out); rintro e w12 ⟨v227, rfl, ho0, hb⟩; refine ⟨_, rfl, ?_⟩; have HO228 := aM (xL ho0 (zZ (zH HB.out))); replace BK224 := yK BK224.out hb; replace BK225 := yK BK225.out hb; replace HB := aM (zT (zH HB.out) hb); (try clear hb); (try clear ho0); obtain ⟨Ao13, co13, eo13⟩ := Kd.R_slice HO228.out; subst eo13; have hcz14_0 : w12.cell? ⟨gb224, 0, none⟩ = some (.slice A0_0 l0_0.length c0_0) := yc BK224.out 0; have hcz14_1 : w12.cell? ⟨gb224, 1, none⟩ = some (.string a0_1) := yc BK224.out 1; have hcz14_2 : w12.cell? ⟨gb224, 2, none⟩ = some (.string a0_2) := yc BK224.out 2; have hfz14_0 := yZ BK224.out 0; have hfz14_1 := yZ BK224.out 1; have hfz14_2 := yZ BK224.out 2))
   have n0_ : Aside0 (Kd.R Kd.string 9 (((w12.setCell ⟨gb224, 0, none⟩ (.slice Ao13 t226.length co13)).setCell ⟨gb224, 1, none⟩ (.string t229)).setCell ⟨gb224, 2, none⟩ (.string t230)) w.heap.size (fun _ => True) (.slice Ao13 t226.length co13) t226) := ⟨xH (xM (xF (p := ⟨gb224, 2, none⟩) (xF (p := ⟨gb224, 1, none⟩) (xF (p := ⟨gb224, 0, none⟩) (xT HO228.out BK224.out (by decide)) (fun _ hk => hk.2) (.slice Ao13 t226.length co13)) (fun _ hk => hk.2) (.string t229)) (fun _ hk => hk.2) (.string t230)) (fun _ hk => trivial))⟩
   have n1_ : Aside0 ((((w12.setCell ⟨gb224, 0, none⟩ (.slice Ao13 t226.length co13)).setCell ⟨gb224, 1, none⟩ (.string t229)).setCell ⟨gb224, 2, none⟩ (.string t230)).heap[gb224]? = some (.cells #[.slice Ao13 t226.length co13, .string t229, .string t230] 27 (0, 0))) := ⟨by refine yW ?_; refine yP (cs := #[.slice Ao13 t226.length co13, .string t229, .string a0_2]) ?_ 2 _ rfl; refine yW ?_; refine yP (cs := #[.slice Ao13 t226.length co13, .string a0_1, .string a0_2]) ?_ 1 _ rfl; refine yW ?_; refine yP (cs := #[.slice A0_0 l0_0.length c0_0, .string a0_1, .string a0_2]) ?_ 0 _ rfl; refine yW ?_; exact BK224.out⟩
   have n2_ : Aside0 ((((w12.setCell ⟨gb224, 0, none⟩ (.slice Ao13 t226.length co13)).setCell ⟨gb224, 1, none⟩ (.string t229)).setCell ⟨gb224, 2, none⟩ (.string t230)).heap[gb225]? = some (.cells #[.slice none 0 0, .string (⟨#[]⟩ : ByteArray), .string (⟨#[]⟩ : ByteArray)] 27 (0, 0))) := ⟨by refine yW ?_; refine yF ?_ NB225_224.out _; refine yW ?_; refine yF ?_ NB225_224.out _; refine yW ?_; refine yF ?_ NB225_224.out _; refine yW ?_; exact BK225.out⟩
   have n3_ : Aside0 (Below w.heap.size w (((w12.setCell ⟨gb224, 0, none⟩ (.slice Ao13 t226.length co13)).setCell ⟨gb224, 1, none⟩ (.string t229)).setCell ⟨gb224, 2, none⟩ (.string t230))) := ⟨zH HB.out⟩
   (try clear HO228); (try clear BK224); (try clear BK225); (try clear HB)
   generalize (((w12.setCell ⟨gb224, 0, none⟩ (.slice Ao13 t226.length co13)).setCell ⟨gb224, 1, none⟩ (.string t229)).setCell ⟨gb224, 2, none⟩ (.string t230)) = w15 at n0_ n1_ n2_ n3_ ⊢
   have HO228 := n0_; have BK224 := n1_; have BK225 := n2_; have HB := n3_; clear n0_ n1_ n2_ n3_; replace HO228 := aM (xD HO228.out); replace BK224 := aM (yD BK224.out); replace BK225 := aM (yD BK225.out); replace HB := aM (zD HB.out)
   refine start_ (n := 9) (S := fun w' => w'.cell? ⟨gb224, 0, none⟩ = some (.slice Ao13 t226.length co13) ∧ w'.cell? ⟨gb224, 1, none⟩ = some (.string t229) ∧ w'.cell? ⟨gb224, 2, none⟩ = some (.string t230)) (ds := [8]) #[fF,fF,fF,fF,fF,fF,fF,fF,fF] (by kernel_rfl) rfl rfl ⟨yc BK224.out 0, yc BK224.out 1, yc BK224.out 2⟩ (fun hHeld => ?_); refine with_tabW spec_l3Blank.tab5 spec_l3Blank.bits5 (fun HT_ HW_ => ?_)
   generalize w15.drew = w16 at HO228 BK224 BK225 HB hHeld ⊢
   refine pure_ (i := 0) (N := some 20) (v := ?_) (a' := ?_) #[tT,fF,fF,fF,fF,fF,fF,fF,fF] rfl rfl (any_of HT_.out (by kernel_rfl)) (fun _ _ _ h => h) (Or.inl ⟨by rfl, ?_⟩) ?_ ?_
   rotate_left
   ·intro w'
    go_simp
    with_reducible rfl
   rotate_left
   ·simp only [Act.put, qA, qB, qC, i64_w, i32_w]
    rfl
   refine pure_ (i := 2) (N := some 22) (v := ?_) (a' := ?_) #[tT,fF,tT,fF,fF,fF,fF,fF,fF] rfl rfl (any_of HT_.out (by kernel_rfl)) (fun _ _ _ h => h) (Or.inl ⟨by rfl, ?_⟩) ?_ ?_
   rotate_left
   ·intro w'
    go_simp
    with_reducible rfl
   rotate_left
   ·simp only [Act.put, qA, qB, qC, i64_w, i32_w]
    rfl
   refine pure_ (i := 3) (N := some 23) (v := ?_) (a' := ?_) #[tT,fF,tT,tT,fF,fF,fF,fF,fF] rfl rfl (any_of HT_.out (by kernel_rfl)) (fun _ _ _ h => h) (Or.inl ⟨by rfl, ?_⟩) ?_ ?_
   rotate_left
   ·intro w'
    go_simp
    with_reducible rfl
   rotate_left
   ·simp only [Act.put, qA, qB, qC, i64_w, i32_w]
    rfl
   refine take_ (i := 1) (N := some 21) (v := ?_) (a' := ?_) #[tT,tT,tT,tT,fF,fF,fF,fF,fF] rfl rfl (take_ofW HT_.out HW_.out (by kernel_rfl)) (fun _ _ _ h => h) (Or.inl ⟨by rfl, ?_⟩) hHeld ?_ ?_
   rotate_left
   ·rintro w' ⟨s0, s1, s2⟩
    go_simp
    with_reducible rfl
   rotate_left
   ·simp only [Act.put, qA, qB, qC, i64_w, i32_w]
    rfl
   refine take_ (i := 4) (N := some 24) (v := ?_) (a' := ?_) #[tT,tT,tT,tT,tT,fF,fF,fF,fF] rfl rfl (take_ofW HT_.out HW_.out (by kernel_rfl)) (fun _ _ _ h => h) (Or.inl ⟨by rfl, ?_⟩) hHeld ?_ ?_
   rotate_left
   ·rintro w' ⟨s0, s1, s2⟩
    go_simp
    with_reducible rfl
   rotate_left
   ·simp only [Act.put, qA, qB, qC, i64_w, i32_w]
    rfl
   refine pure_ (i := 5) (N := some 25) (v := ?_) (a' := ?_) #[tT,tT,tT,tT,tT,tT,fF,fF,fF] rfl rfl (any_of HT_.out (by kernel_rfl)) (fun _ _ _ h => h) (Or.inl ⟨by rfl, ?_⟩) ?_ ?_
   rotate_left
   ·intro w'
    go_simp
    with_reducible rfl
   rotate_left
   ·simp only [Act.put, qA, qB, qC, i64_w, i32_w]
    rfl
   refine one_ (i := 6) (N := some 26) #[tT,tT,tT,tT,tT,tT,tT,fF,fF] rfl rfl (one_of HT_.out (by kernel_rfl)) (by decide) (fun K hK => ?_)
   refine gS Try.func82 (by kernel_rfl) rfl #[.int .i64 (t229.size : Int)] (by rfl) rfl rfl ?_
   with_reducible refine (spec_l1Zeros.calls (t229.size : Int) t231 _ A5.out).mono ?_
   rintro e w17 ⟨rfl, hb⟩
   refine ⟨_, rfl, ?_⟩
   replace HO228 := xK HO228.out hb; replace BK224 := yK BK224.out hb; replace BK225 := yK BK225.out hb; replace HB := aM (zT (zH HB.out) hb)
   (try clear hb)
   have p7 : 0 ≤ (a1 : Int) := of_decide_eq_true (by first | (with_reducible assumption) | assumption)
   have q7 : (a1 : Int) < ((t226.length : Int) : Int) := of_decide_eq_true (by first | (with_reducible assumption) | assumption)
   obtain ⟨go7, co7, eo7, gb7, gl7, cl7, HG7⟩ := Kd.R_form HO228.out (by omega)
   (first | cases eo7 | (injection eo7 with ea_ en_ ec_; (first | subst ea_ | (injection ea_ with ea_; subst ea_)); subst ec_; clear en_))
   have GB7 := aM gb7; have GG7 := aM HG7; clear gb7 gl7 HG7; obtain ⟨hx7_0, hf7_0⟩ := Kd.R_celln (⟨#[]⟩ : ByteArray) HO228.out (a1 : Int) p7 q7; replace p7 := eq_true p7; replace q7 := eq_true q7; have HP18 := Kd.R_putn HO228.out (a1 : Int) t231
   rw [← Ny232.out] at HP18
   have HQ18 := aM HP18; clear HP18
   refine hK.out _ _ ⟨yc BK224.out 0, yc BK224.out 1, yc BK224.out 2⟩ (fun hHeld => ?_)
   clear hK K; refine norm_ (a' := ?_) ?_ ?_; rotate_left
   ·show Act.put _ (some 26) _ = _
    simp only [Act.put, qA, qB, qC, i64_w, i32_w]
    rfl
   refine pure_ (i := 7) (N := some 27) (v := ?_) (a' := ?_) #[tT,tT,tT,tT,tT,tT,tT,tT,fF] rfl rfl (any_of HT_.out (by kernel_rfl)) (fun _ _ _ h => h) (Or.inl ⟨by rfl, ?_⟩) ?_ ?_
   rotate_left
   ·intro w'
    go_simp
    with_reducible rfl
   rotate_left
   ·simp only [Act.put, qA, qB, qC, i64_w, i32_w]
    rfl
   refine last_ (i := 8) (N := none) #[tT,tT,tT,tT,tT,tT,tT,tT,tT] rfl rfl (one_of HT_.out (by kernel_rfl)) (by decide) (fun K hK => ?_)
   refine skip_ (w1 := ?_) (by rfl) rfl ?_ ?_
   rotate_left
   ·go_simp
    rfl
   refine hK.out _ _ ?_
   clear hK K
   refine done_ (done_of HT_.out (by kernel_rfl)) ?_
   have n0_ : Aside0 (Kd.R Kd.string 9 (w17.setCell ⟨go7, (a1 : Int).toNat, none⟩ (.string t231)) w.heap.size (fun _ => True) (.slice (some ⟨go7, 0, none⟩) t226.length co13) y232) := ⟨xH HQ18.out⟩
   have n1_ : Aside0 ((w17.setCell ⟨go7, (a1 : Int).toNat, none⟩ (.string t231)).heap[gb224]? = some (.cells #[.slice (some ⟨go7, 0, none⟩) t226.length co13, .string t229, .string t230] 27 (0, 0))) := ⟨by refine yW ?_; refine yF ?_ (by have h_ := Kd.R_ne HO228.out BK224.out (by decide); intro e_; exact h_ (by rw [e_]; rfl)) _; refine yW ?_; exact BK224.out⟩
   have n2_ : Aside0 ((w17.setCell ⟨go7, (a1 : Int).toNat, none⟩ (.string t231)).heap[gb225]? = some (.cells #[.slice none 0 0, .string (⟨#[]⟩ : ByteArray), .string (⟨#[]⟩ : ByteArray)] 27 (0, 0))) := ⟨by refine yW ?_; refine yF ?_ (by have h_ := Kd.R_ne HO228.out BK225.out (by decide); intro e_; exact h_ (by rw [e_]; rfl)) _; refine yW ?_; exact BK225.out⟩
   have n3_ : Aside0 (Below w.heap.size w (w17.setCell ⟨go7, (a1 : Int).toNat, none⟩ (.string t231))) := ⟨by repeat (first | (with_reducible first | exact HB.out | apply zA | apply zN | apply zD | refine zS ?_ GB7.out | refine zS ?_ GE224.out | refine zS ?_ GE225.out) | exact HB.out)⟩
   (try clear HO228); (try clear BK224); (try clear BK225); (try clear HB)
   generalize (w17.setCell ⟨go7, (a1 : Int).toNat, none⟩ (.string t231)) = w19 at n0_ n1_ n2_ n3_ ⊢
   have HO228 := n0_; have BK224 := n1_; have BK225 := n2_; have HB := n3_; clear n0_ n1_ n2_ n3_; have hcz20_0 : w19.cell? ⟨gb224, 0, none⟩ = some (.slice (some ⟨go7, 0, none⟩) t226.length co13) := yc BK224.out 0; have hcz20_1 : w19.cell? ⟨gb224, 1, none⟩ = some (.string t229) := yc BK224.out 1; have hcz20_2 : w19.cell? ⟨gb224, 2, none⟩ = some (.string t230) := yc BK224.out 2; have hfz20_0 := yZ BK224.out 0; have hfz20_1 := yZ BK224.out 1; have hfz20_2 := yZ BK224.out 2; have hcz21_0 : w19.cell? ⟨gb225, 0, none⟩ = some (.slice none 0 0) := yc BK225.out 0; have hcz21_1 : w19.cell? ⟨gb225, 1, none⟩ = some (.string (⟨#[]⟩ : ByteArray)) := yc BK225.out 1; have hcz21_2 : w19.cell? ⟨gb225, 2, none⟩ = some (.string (⟨#[]⟩ : ByteArray)) := yc BK225.out 2; have hfz21_0 := yZ BK225.out 0; have hfz21_1 := yZ BK225.out 1; have hfz21_2 := yZ BK225.out 2
   try go_wp2
   refine bodyPost_ret (results_cell_row rfl _ _ gb225 27 #[.slice (some ⟨go7, 0, none⟩) t226.length co13, .string t229, .string t230] (0, 0) _ rfl (by refine yW ?_; refine yP (cs := #[.slice (some ⟨go7, 0, none⟩) t226.length co13, .string t229, .string (⟨#[]⟩ : ByteArray)]) ?_ 2 _ rfl; refine yW ?_; refine yP (cs := #[.slice (some ⟨go7, 0, none⟩) t226.length co13, .string (⟨#[]⟩ : ByteArray), .string (⟨#[]⟩ : ByteArray)]) ?_ 1 _ rfl; refine yW ?_; refine yP (cs := #[.slice none 0 0, .string (⟨#[]⟩ : ByteArray), .string (⟨#[]⟩ : ByteArray)]) ?_ 0 _ rfl; refine yW ?_; exact BK225.out) Try.underlying27 rfl (by kernel_rfl)) rfl ?_
   exact ⟨_, eW, xH (xM (xF (p := ⟨gb225, 2, none⟩) (xF (p := ⟨gb225, 1, none⟩) (xF (p := ⟨gb225, 0, none⟩) (xT HO228.out BK225.out (by decide)) (fun _ hk => hk.2) (.slice (some ⟨go7, 0, none⟩) t226.length co13)) (fun _ hk => hk.2) (.string t229)) (fun _ hk => hk.2) (.string t230)) (fun _ hk => trivial)), zH HB.out⟩
  ·rw [if_neg c6] at H
   exact absurd H (by simp)
 ·rw [if_neg c4] at H
  have c4b0 : decide (a1 < (t226.length : Int)) = false := decide_eq_false c4; clear c4
  by_cases c22 : a1 = (t226.length : Int)
  ·rw [if_pos c22] at H
   have c22b0 : (a1 == (t226.length : Int)) = true := beq_iff_eq.mpr c22; have c22b1 : (a1 != (t226.length : Int)) = false := bne_eq_false_iff_eq.mpr c22; clear c22; replace H := Option.bind_eq_some_iff.mp H; obtain ⟨t233, A230, H⟩ := H; replace H : (some (t226, t233, t230)) = some (r1, r2, r3) := H; have A23 := aM A230; clear A230
   simp only [Option.some.injEq, Prod.mk.injEq] at H
   obtain ⟨rfl, rfl, rfl⟩ := H
   go_enter Try.func75, Try.ntmps75
   go_wp2_with (first | ((with_reducible refine gate_dst (N := 2) rfl ?_); refine box_event ?hg (N := 2) ?hd (cs := #[.slice A0_0 l0_0.length c0_0, .string a0_1, .string a0_2]) (t := 27) ?hr ?_; (case hd => rfl); (case hg => rfl); (case hr => first | (go_simp; done) | (go_simp; rfl)); intro gb224 hg w24 hbox hb; have BK224 := aM (hbox); have GW224 := aM ((by rw [hg]; exact (zZ (zH HB.out)) : w.heap.size ≤ gb224)); have GE224 := aM ((by rw [hg]; exact (zZ (zH HB.out)) : w.heap.size ≤ gb224)); replace HB := aM (zT (zH HB.out) hb); clear hb hbox hg) | ((with_reducible refine gate_dst (N := 4) rfl ?_); refine box_event ?hg (N := 4) ?hd (cs := #[.slice none 0 0, .string (⟨#[]⟩ : ByteArray), .string (⟨#[]⟩ : ByteArray)]) (t := 27) ?hr ?_; (case hd => rfl); (case hg => rfl); (case hr => first | (go_simp; done) | (go_simp; rfl)); intro gb225 hg w25 hbox hb; have BK225 := aM (hbox); have GW225 := aM ((by rw [hg]; exact (zZ (zH HB.out)) : w.heap.size ≤ gb225)); have GE225 := aM ((by rw [hg]; exact (zZ (zH HB.out)) : w.heap.size ≤ gb225)); replace HB := aM (zT (zH HB.out) hb); have NB224_225 := nL BK224.out hg; have NB225_224 := nR BK224.out hg; replace BK224 := yK BK224.out hb; clear hb hbox hg; have hnb26 := NB224_225.out; have hnc26 := NB225_224.out; have hcz27_0 : w25.cell? ⟨gb224, 0, none⟩ = some (.slice A0_0 l0_0.length c0_0) := yc BK224.out 0; have hcz27_1 : w25.cell? ⟨gb224, 1, none⟩ = some (.string a0_1) := yc BK224.out 1; have hcz27_2 : w25.cell? ⟨gb224, 2, none⟩ = some (.string a0_2) := yc BK224.out 2; have hfz27_0 := yZ BK224.out 0; have hfz27_1 := yZ BK224.out 1; have hfz27_2 := yZ BK224.out 2) | ((with_reducible refine gate_callee (f := 51) rfl ?_); refine goesL_ (some 7) rfl rfl Try.func51 (by kernel_rfl) rfl #[.agg #[.slice A0_0 l0_0.length c0_0, .string a0_1, .string a0_2]] rfl mA ?_; (with_reducible refine (spec_l3Own.calls _ _ l0_0 a0_1 a0_2 t226 t229 t230 _ ?side1 ?side2 A3.out).mono ?_); (case side1 => exact cK HR0_0.out HB.out); (case side2 => exact HC0_0.out); rintro e w28 ⟨v227, rfl, ho0, hb⟩; refine ⟨_, rfl, ?_⟩; have HO228 := aM (xL ho0 (zZ (zH HB.out))); replace BK224 := yK BK224.out hb; replace BK225 := yK BK225.out hb; replace HB := aM (zT (zH HB.out) hb); (try clear hb); (try clear ho0); obtain ⟨Ao29, co29, eo29⟩ := Kd.R_slice HO228.out; subst eo29; have hcz30_0 : w28.cell? ⟨gb224, 0, none⟩ = some (.slice A0_0 l0_0.length c0_0) := yc BK224.out 0; have hcz30_1 : w28.cell? ⟨gb224, 1, none⟩ = some (.string a0_1) := yc BK224.out 1; have hcz30_2 : w28.cell? ⟨gb224, 2, none⟩ = some (.string a0_2) := yc BK224.out 2; have hfz30_0 := yZ BK224.out 0; have hfz30_1 := yZ BK224.out 1; have hfz30_2 := yZ BK224.out 2) | ((with_reducible refine gate_callee (f := 82) rfl ?_); refine goesL_ (some 35) rfl rfl Try.func82 (by kernel_rfl) rfl #[.int .i64 (t229.size : Int)] rfl mA ?_; (with_reducible refine (spec_l1Zeros.calls (t229.size : Int) t233 _ A23.out).mono ?_); rintro e w31 ⟨rfl, hb⟩; refine ⟨_, rfl, ?_⟩; replace HO228 := aM (xB (xH ((x3 HO228.out BK224.out (by decide) (.slice Ao29 t226.length co29) (.string t229) (.string t230)))) hb); replace BK224 := aM (yB (g := gb224) (o := .cells #[.slice Ao29 t226.length co29, .string t229, .string t230] 27 (0, 0)) (by refine yW ?_; refine yP (cs := #[.slice Ao29 t226.length co29, .string t229, .string a0_2]) ?_ 2 _ rfl; refine yW ?_; refine yP (cs := #[.slice Ao29 t226.length co29, .string a0_1, .string a0_2]) ?_ 1 _ rfl; refine yW ?_; refine yP (cs := #[.slice A0_0 l0_0.length c0_0, .string a0_1, .string a0_2]) ?_ 0 _ rfl; refine yW ?_; exact BK224.out) hb); replace BK225 := aM (yB (g := gb225) (o := .cells #[.slice none 0 0, .string (⟨#[]⟩ : ByteArray), .string (⟨#[]⟩ : ByteArray)] 27 (0, 0)) (by refine yW ?_; refine yF ?_ NB225_224.out _; refine yW ?_; refine yF ?_ NB225_224.out _; refine yW ?_; refine yF ?_ NB225_224.out _; refine yW ?_; exact BK225.out) hb); replace HB := aM (zT (zH HB.out) hb); (try clear hb); have hcz32_0 : w31.cell? ⟨gb224, 0, none⟩ = some (.slice Ao29 t226.length co29) := yc BK224.out 0; have hcz32_1 : w31.cell? ⟨gb224, 1, none⟩ = some (.string t229) := yc BK224.out 1; have hcz32_2 : w31.cell? ⟨gb224, 2, none⟩ = some (.string t230) := yc BK224.out 2; have hfz32_0 := yZ BK224.out 0; have hfz32_1 := yZ BK224.out 1; have hfz32_2 := yZ BK224.out 2; have hcz33_0 : w31.cell? ⟨gb225, 0, none⟩ = some (.slice none 0 0) := yc BK225.out 0; have hcz33_1 : w31.cell? ⟨gb225, 1, none⟩ = some (.string (⟨#[]⟩ : ByteArray)) := yc BK225.out 1; have hcz33_2 : w31.cell? ⟨gb225, 2, none⟩ = some (.string (⟨#[]⟩ : ByteArray)) := yc BK225.out 2; have hfz33_0 := yZ BK225.out 0; have hfz33_1 := yZ BK225.out 1; have hfz33_2 := yZ BK225.out 2))
   refine bodyPost_ret (results_cell_row rfl _ _ gb225 27 #[.slice Ao29 t226.length co29, .string t233, .string t230] (0, 0) _ rfl (by refine yW ?_; refine yP (cs := #[.slice Ao29 t226.length co29, .string t233, .string (⟨#[]⟩ : ByteArray)]) ?_ 2 _ rfl; refine yW ?_; refine yP (cs := #[.slice Ao29 t226.length co29, .string (⟨#[]⟩ : ByteArray), .string (⟨#[]⟩ : ByteArray)]) ?_ 1 _ rfl; refine yW ?_; refine yP (cs := #[.slice none 0 0, .string (⟨#[]⟩ : ByteArray), .string (⟨#[]⟩ : ByteArray)]) ?_ 0 _ rfl; refine yW ?_; refine yF ?_ NB225_224.out _; refine yW ?_; exact BK225.out) Try.underlying27 rfl (by kernel_rfl)) rfl ?_
   exact ⟨_, eW, xH (xM (xF (p := ⟨gb225, 2, none⟩) (xF (p := ⟨gb225, 1, none⟩) (xF (p := ⟨gb225, 0, none⟩) (xF (p := ⟨gb224, 1, none⟩) (xT (xT HO228.out BK224.out (by decide)) BK225.out (by decide)) (fun _ hk => hk.1.2) (.string t233)) (fun _ hk => hk.2) (.slice Ao29 t226.length co29)) (fun _ hk => hk.2) (.string t233)) (fun _ hk => hk.2) (.string t230)) (fun _ hk => trivial)), zH HB.out⟩
  ·rw [if_neg c22] at H
   have c22b0 : (a1 == (t226.length : Int)) = false := beq_eq_false_iff_ne.mpr c22; have c22b1 : (a1 != (t226.length : Int)) = true := bne_iff_ne.mpr c22; replace H := Option.bind_eq_some_iff.mp H; obtain ⟨t234, A340, H⟩ := H; replace H : (some (t226, t229, t234)) = some (r1, r2, r3) := H; have A34 := aM A340; clear A340
   simp only [Option.some.injEq, Prod.mk.injEq] at H
   obtain ⟨rfl, rfl, rfl⟩ := H
   go_enter Try.func75, Try.ntmps75
   go_wp2_with (first | ((with_reducible refine gate_dst (N := 2) rfl ?_); refine box_event ?hg (N := 2) ?hd (cs := #[.slice A0_0 l0_0.length c0_0, .string a0_1, .string a0_2]) (t := 27) ?hr ?_; (case hd => rfl); (case hg => rfl); (case hr => first | (go_simp; done) | (go_simp; rfl)); intro gb224 hg w35 hbox hb; have BK224 := aM (hbox); have GW224 := aM ((by rw [hg]; exact (zZ (zH HB.out)) : w.heap.size ≤ gb224)); have GE224 := aM ((by rw [hg]; exact (zZ (zH HB.out)) : w.heap.size ≤ gb224)); replace HB := aM (zT (zH HB.out) hb); clear hb hbox hg) | ((with_reducible refine gate_dst (N := 4) rfl ?_); refine box_event ?hg (N := 4) ?hd (cs := #[.slice none 0 0, .string (⟨#[]⟩ : ByteArray), .string (⟨#[]⟩ : ByteArray)]) (t := 27) ?hr ?_; (case hd => rfl); (case hg => rfl); (case hr => first | (go_simp; done) | (go_simp; rfl)); intro gb225 hg w36 hbox hb; have BK225 := aM (hbox); have GW225 := aM ((by rw [hg]; exact (zZ (zH HB.out)) : w.heap.size ≤ gb225)); have GE225 := aM ((by rw [hg]; exact (zZ (zH HB.out)) : w.heap.size ≤ gb225)); replace HB := aM (zT (zH HB.out) hb); have NB224_225 := nL BK224.out hg; have NB225_224 := nR BK224.out hg; replace BK224 := yK BK224.out hb; clear hb hbox hg; have hnb37 := NB224_225.out; have hnc37 := NB225_224.out; have hcz38_0 : w36.cell? ⟨gb224, 0, none⟩ = some (.slice A0_0 l0_0.length c0_0) := yc BK224.out 0; have hcz38_1 : w36.cell? ⟨gb224, 1, none⟩ = some (.string a0_1) := yc BK224.out 1; have hcz38_2 : w36.cell? ⟨gb224, 2, none⟩ = some (.string a0_2) := yc BK224.out 2; have hfz38_0 := yZ BK224.out 0; have hfz38_1 := yZ BK224.out 1; have hfz38_2 := yZ BK224.out 2) | ((with_reducible refine gate_callee (f := 51) rfl ?_); refine goesL_ (some 7) rfl rfl Try.func51 (by kernel_rfl) rfl #[.agg #[.slice A0_0 l0_0.length c0_0, .string a0_1, .string a0_2]] rfl mA ?_; (with_reducible refine (spec_l3Own.calls _ _ l0_0 a0_1 a0_2 t226 t229 t230 _ ?side1 ?side2 A3.out).mono ?_); (case side1 => exact cK HR0_0.out HB.out); (case side2 => exact HC0_0.out); rintro e w39 ⟨v227, rfl, ho0, hb⟩; refine ⟨_, rfl, ?_⟩; have HO228 := aM (xL ho0 (zZ (zH HB.out))); replace BK224 := yK BK224.out hb; replace BK225 := yK BK225.out hb; replace HB := aM (zT (zH HB.out) hb); (try clear hb); (try clear ho0); obtain ⟨Ao40, co40, eo40⟩ := Kd.R_slice HO228.out; subst eo40; have hcz41_0 : w39.cell? ⟨gb224, 0, none⟩ = some (.slice A0_0 l0_0.length c0_0) := yc BK224.out 0; have hcz41_1 : w39.cell? ⟨gb224, 1, none⟩ = some (.string a0_1) := yc BK224.out 1; have hcz41_2 : w39.cell? ⟨gb224, 2, none⟩ = some (.string a0_2) := yc BK224.out 2; have hfz41_0 := yZ BK224.out 0; have hfz41_1 := yZ BK224.out 1; have hfz41_2 := yZ BK224.out 2) | ((with_reducible refine gate_callee (f := 82) rfl ?_); refine goesL_ (some 14) rfl rfl Try.func82 (by kernel_rfl) rfl #[.int .i64 (t230.size : Int)] rfl mA ?_; (with_reducible refine (spec_l1Zeros.calls (t230.size : Int) t234 _ A34.out).mono ?_); rintro e w42 ⟨rfl, hb⟩; refine ⟨_, rfl, ?_⟩; replace HO228 := aM (xB (xH ((x3 HO228.out BK224.out (by decide) (.slice Ao40 t226.length co40) (.string t229) (.string t230)))) hb); replace BK224 := aM (yB (g := gb224) (o := .cells #[.slice Ao40 t226.length co40, .string t229, .string t230] 27 (0, 0)) (by refine yW ?_; refine yP (cs := #[.slice Ao40 t226.length co40, .string t229, .string a0_2]) ?_ 2 _ rfl; refine yW ?_; refine yP (cs := #[.slice Ao40 t226.length co40, .string a0_1, .string a0_2]) ?_ 1 _ rfl; refine yW ?_; refine yP (cs := #[.slice A0_0 l0_0.length c0_0, .string a0_1, .string a0_2]) ?_ 0 _ rfl; refine yW ?_; exact BK224.out) hb); replace BK225 := aM (yB (g := gb225) (o := .cells #[.slice none 0 0, .string (⟨#[]⟩ : ByteArray), .string (⟨#[]⟩ : ByteArray)] 27 (0, 0)) (by refine yW ?_; refine yF ?_ NB225_224.out _; refine yW ?_; refine yF ?_ NB225_224.out _; refine yW ?_; refine yF ?_ NB225_224.out _; refine yW ?_; exact BK225.out) hb); replace HB := aM (zT (zH HB.out) hb); (try clear hb); have hcz43_0 : w42.cell? ⟨gb224, 0, none⟩ = some (.slice Ao40 t226.length co40) := yc BK224.out 0; have hcz43_1 : w42.cell? ⟨gb224, 1, none⟩ = some (.string t229) := yc BK224.out 1; have hcz43_2 : w42.cell? ⟨gb224, 2, none⟩ = some (.string t230) := yc BK224.out 2; have hfz43_0 := yZ BK224.out 0; have hfz43_1 := yZ BK224.out 1; have hfz43_2 := yZ BK224.out 2; have hcz44_0 : w42.cell? ⟨gb225, 0, none⟩ = some (.slice none 0 0) := yc BK225.out 0; have hcz44_1 : w42.cell? ⟨gb225, 1, none⟩ = some (.string (⟨#[]⟩ : ByteArray)) := yc BK225.out 1; have hcz44_2 : w42.cell? ⟨gb225, 2, none⟩ = some (.string (⟨#[]⟩ : ByteArray)) := yc BK225.out 2; have hfz44_0 := yZ BK225.out 0; have hfz44_1 := yZ BK225.out 1; have hfz44_2 := yZ BK225.out 2))
   refine bodyPost_ret (results_cell_row rfl _ _ gb225 27 #[.slice Ao40 t226.length co40, .string t229, .string t234] (0, 0) _ rfl (by refine yW ?_; refine yP (cs := #[.slice Ao40 t226.length co40, .string t229, .string (⟨#[]⟩ : ByteArray)]) ?_ 2 _ rfl; refine yW ?_; refine yP (cs := #[.slice Ao40 t226.length co40, .string (⟨#[]⟩ : ByteArray), .string (⟨#[]⟩ : ByteArray)]) ?_ 1 _ rfl; refine yW ?_; refine yP (cs := #[.slice none 0 0, .string (⟨#[]⟩ : ByteArray), .string (⟨#[]⟩ : ByteArray)]) ?_ 0 _ rfl; refine yW ?_; refine yF ?_ NB225_224.out _; refine yW ?_; exact BK225.out) Try.underlying27 rfl (by kernel_rfl)) rfl ?_
   exact ⟨_, eW, xH (xM (xF (p := ⟨gb225, 2, none⟩) (xF (p := ⟨gb225, 1, none⟩) (xF (p := ⟨gb225, 0, none⟩) (xF (p := ⟨gb224, 2, none⟩) (xT (xT HO228.out BK224.out (by decide)) BK225.out (by decide)) (fun _ hk => hk.1.2) (.string t234)) (fun _ hk => hk.2) (.slice Ao40 t226.length co40)) (fun _ hk => hk.2) (.string t229)) (fun _ hk => hk.2) (.string t234)) (fun _ hk => trivial)), zH HB.out⟩

/-! ### spec_l3One: function 59 -/
def spec_l3One.f (k : Nat) (l0_0 : List ByteArray) (a0_1 : ByteArray) (a0_2 : ByteArray) (a1 : Int) : Option (List ByteArray × ByteArray × ByteArray) := (spec_l3Blank.f l0_0 a0_1 a0_2 a1).bind fun bt237 => ((spec_l3Parities.f k bt237.1).bind fun bt242 => (if a1 < (bt237.1.length : Int) then ((spec_l3Xor.f bt242.1 bt237.2.1).bind fun t244 => (if 0 ≤ a1 then (some ((bt237.1.set (a1 : Int).toNat t244), bt237.2.1, bt237.2.2)) else (none))) else (if a1 = (bt237.1.length : Int) then (some (bt237.1, bt242.1, bt237.2.2)) else (some (bt237.1, bt237.2.1, bt242.2)))))
theorem spec_l3One.mono : ∀ a0 a1 a2 a3 k, LeO (spec_l3One.f k a0 a1 a2 a3) (spec_l3One.f (k + 1) a0 a1 a2 a3) := by
 intro a0 a1 a2 a3 k
 unfold spec_l3One.f
 repeat' first
   | (with_reducible exact spec_l3Parities.mono _ _)
   | (with_reducible exact LeO.refl _)
   | (with_reducible exact LeO.none _)
   | (with_reducible refine LeO.ite ?_ ?_)
   | (with_reducible refine LeO.bind ?_ (fun _ => ?_))
   | exact spec_l3Parities.mono _ _
   | exact LeO.none _
   | refine LeO.ite ?_ ?_
   | refine LeO.bind ?_ (fun _ => ?_)
def spec_l3One.T6 : Bool × List (List Nat × List Nat) := (true, [([], []), ([0], [0]), ([], []), ([], []), ([], []), ([4], [4]), ([3, 5], [3, 5]), ([1, 2, 0, 1, 2, 3, 4, 5, 6], [1, 2]), ([7, 6, 6, 0, 1, 2, 3, 4, 5, 6], [6, 7])])
def spec_l3One.B6 : List Nat := [0, 1, 0, 0, 0, 16, 56, 127, 255]
theorem spec_l3One.tab6 : rtab .any (opsOf Try.f59 6) = spec_l3One.T6 := by kernel_rfl
theorem spec_l3One.bits6 : waitsOk spec_l3One.T6.2 spec_l3One.B6 = true := by kernel_rfl
set_option maxHeartbeats 8000000 in
set_option maxRecDepth 100000 in
theorem spec_l3One.calls (k : Nat) (A0_0 : Option Addr) (c0_0 : Nat) (l0_0 : List ByteArray) (a0_1 : ByteArray) (a0_2 : ByteArray) (a1 : Int) (r1 : List ByteArray) (r2 : ByteArray) (r3 : ByteArray) (w : World) (hr0_0 : Kd.C Kd.string w A0_0 l0_0.length l0_0) (hc0_0 : l0_0.length ≤ c0_0) (h : spec_l3One.f k l0_0 a0_1 a0_2 a1 = some (r1, r2, r3)) :
  Calls Try.prog 59 #[.agg #[.slice A0_0 l0_0.length c0_0, .string a0_1, .string a0_2], .int .i64 a1] w fun e w' => ∃ v0_ : Value, e = .returned (.agg #[v0_, .string r2, .string r3]) ∧ Kd.R Kd.string 9 w' w.heap.size (fun _ => True) v0_ r1 ∧ Below w.heap.size w w' := by
 have hu27 := Try.underlying27; have HR0_0 := aM hr0_0; have HC0_0 := aM hc0_0; clear hr0_0 hc0_0; have HB := aM (Below.refl w.heap.size w)
 have H : ((spec_l3Blank.f l0_0 a0_1 a0_2 a1).bind fun bt237 => ((spec_l3Parities.f k bt237.1).bind fun bt242 => (if a1 < (bt237.1.length : Int) then ((spec_l3Xor.f bt242.1 bt237.2.1).bind fun t244 => (if 0 ≤ a1 then (some ((bt237.1.set (a1 : Int).toNat t244), bt237.2.1, bt237.2.2)) else (none))) else (if a1 = (bt237.1.length : Int) then (some (bt237.1, bt242.1, bt237.2.2)) else (some (bt237.1, bt237.2.1, bt242.2)))))) = some (r1, r2, r3) := h
 clear h; replace H := Option.bind_eq_some_iff.mp H; obtain ⟨⟨t237, t240, t241⟩, A30, H⟩ := H
 replace H : ((spec_l3Parities.f k t237).bind fun bt242 => (if a1 < (t237.length : Int) then ((spec_l3Xor.f bt242.1 t240).bind fun t244 => (if 0 ≤ a1 then (some ((t237.set (a1 : Int).toNat t244), t240, t241)) else (none))) else (if a1 = (t237.length : Int) then (some (t237, bt242.1, t241)) else (some (t237, t240, bt242.2))))) = some (r1, r2, r3) := H
 have A3 := aM A30; clear A30; replace H := Option.bind_eq_some_iff.mp H; obtain ⟨⟨t242, t243⟩, A40, H⟩ := H
 replace H : (if a1 < (t237.length : Int) then ((spec_l3Xor.f t242 t240).bind fun t244 => (if 0 ≤ a1 then (some ((t237.set (a1 : Int).toNat t244), t240, t241)) else (none))) else (if a1 = (t237.length : Int) then (some (t237, t242, t241)) else (some (t237, t240, t243)))) = some (r1, r2, r3) := H
 have A4 := aM A40; clear A40
 by_cases c5 : a1 < (t237.length : Int)
 ·rw [if_pos c5] at H
  have c5b0 : decide (a1 < (t237.length : Int)) = true := decide_eq_true c5; clear c5; replace H := Option.bind_eq_some_iff.mp H; obtain ⟨t244, A60, H⟩ := H; replace H : (if 0 ≤ a1 then (some ((t237.set (a1 : Int).toNat t244), t240, t241)) else (none)) = some (r1, r2, r3) := H; have A6 := aM A60; clear A60
  by_cases c7 : 0 ≤ a1
  ·rw [if_pos c7] at H
   have c7b0 : decide (0 ≤ a1) = true := decide_eq_true c7; clear c7; obtain ⟨y245, hy245⟩ : ∃ y_ : List ByteArray, y_ = (t237.set (a1 : Int).toNat t244) := ⟨_, rfl⟩
   replace H : (some (y245, t240, t241)) = some (r1, r2, r3) := by first | (rw [hy245]; with_reducible exact H) | (have H2_ := (Option.bind_some _ _).symm.trans H; rw [hy245]; with_reducible exact H2_) | (have H2_ := (Option.bind_some _ _).symm.trans H; with_reducible exact H2_) | with_reducible exact H | (rw [hy245]; exact H) | exact H
   have Ny245 := aM hy245; clear hy245
   simp only [Option.some.injEq, Prod.mk.injEq] at H
   obtain ⟨rfl, rfl, rfl⟩ := H
   go_enter Try.func59, Try.ntmps59
   try go_wp2_with (first | ((with_reducible refine gate_dst (N := 2) rfl ?_); refine box_event ?hg (N := 2) ?hd (cs := #[.slice A0_0 l0_0.length c0_0, .string a0_1, .string a0_2]) (t := 27) ?hr ?_; (case hd => rfl); (case hg => rfl); (case hr => first | (go_simp; done) | (go_simp; rfl)); intro gb235 hg w9 hbox hb; have BK235 := aM (hbox); have GW235 := aM ((by rw [hg]; exact (zZ (zH HB.out)) : w.heap.size ≤ gb235)); have GE235 := aM ((by rw [hg]; exact (zZ (zH HB.out)) : w.heap.size ≤ gb235)); replace HB := aM (zT (zH HB.out) hb); clear hb hbox hg) | ((with_reducible refine gate_dst (N := 4) rfl ?_); refine box_event ?hg (N := 4) ?hd (cs := #[.slice none 0 0, .string (⟨#[]⟩ : ByteArray), .string (⟨#[]⟩ : ByteArray)]) (t := 27) ?hr ?_; (case hd => rfl); (case hg => rfl); (case hr => first | (go_simp; done) | (go_simp; rfl)); intro gb236 hg w10 hbox hb; have BK236 := aM (hbox); have GW236 := aM ((by rw [hg]; exact (zZ (zH HB.out)) : w.heap.size ≤ gb236)); have GE236 := aM ((by rw [hg]; exact (zZ (zH HB.out)) : w.heap.size ≤ gb236)); replace HB := aM (zT (zH HB.out) hb); have NB235_236 := nL BK235.out hg; have NB236_235 := nR BK235.out hg; replace BK235 := yK BK235.out hb; clear hb hbox hg; have hnb11 := NB235_236.out; have hnc11 := NB236_235.out; have hcz12_0 : w10.cell? ⟨gb235, 0, none⟩ = some (.slice A0_0 l0_0.length c0_0) := yc BK235.out 0; have hcz12_1 : w10.cell? ⟨gb235, 1, none⟩ = some (.string a0_1) := yc BK235.out 1; have hcz12_2 : w10.cell? ⟨gb235, 2, none⟩ = some (.string a0_2) := yc BK235.out 2; have hfz12_0 := yZ BK235.out 0; have hfz12_1 := yZ BK235.out 1; have hfz12_2 := yZ BK235.out 2) | ((with_reducible refine gate_callee (f := 75) rfl ?_); refine goesL_ (some 10) rfl rfl Try.func75 (by kernel_rfl) rfl #[.agg #[.slice A0_0 l0_0.length c0_0, .string a0_1, .string a0_2], .int .i64 a1] rfl mA ?_; (with_reducible refine (spec_l3Blank.calls _ _ l0_0 a0_1 a0_2 a1 t237 t240 t241 _ ?side1 ?side2 A3.out).mono ?_); (case side1 => exact cK HR0_0.out HB.out); (case side2 => exact HC0_0.out); rintro e w13 ⟨v238, rfl, ho0, hb⟩; refine ⟨_, rfl, ?_⟩; have HO239 := aM (xL ho0 (zZ (zH HB.out))); replace BK235 := yK BK235.out hb; replace BK236 := yK BK236.out hb; replace HB := aM (zT (zH HB.out) hb); (try clear hb); (try clear ho0); obtain ⟨Ao14, co14, eo14⟩ := Kd.R_slice HO239.out; subst eo14; have hcz15_0 : w13.cell? ⟨gb235, 0, none⟩ = some (.slice A0_0 l0_0.length c0_0) := yc BK235.out 0; have hcz15_1 : w13.cell? ⟨gb235, 1, none⟩ = some (.string a0_1) := yc BK235.out 1; have hcz15_2 : w13.cell? ⟨gb235, 2, none⟩ = some (.string a0_2) := yc BK235.out 2; have hfz15_0 := yZ BK235.out 0; have hfz15_1 := yZ BK235.out 1; have hfz15_2 := yZ BK235.out 2) | ((with_reducible refine gate_callee (f := 45) rfl ?_); refine goesL_ (some 14) rfl rfl Try.func45 (by kernel_rfl) rfl #[.slice Ao14 t237.length co14] rfl mA ?_; (with_reducible refine (spec_l3Parities.calls k _ _ t237 t242 t243 _ ?side1 ?side2 A4.out).mono ?_); (case side1 => exact rC (n := t237.length) (c := co14) ((x3 HO239.out BK235.out (by decide) (.slice Ao14 t237.length co14) (.string t240) (.string t241)))); (case side2 => exact (Kd.R_reads' HO239.out).2.1); rintro e w16 ⟨rfl, hb⟩; refine ⟨_, rfl, ?_⟩; replace HO239 := aM (xB (xH ((x3 HO239.out BK235.out (by decide) (.slice Ao14 t237.length co14) (.string t240) (.string t241)))) hb); replace BK235 := aM (yB (g := gb235) (o := .cells #[.slice Ao14 t237.length co14, .string t240, .string t241] 27 (0, 0)) (by refine yW ?_; refine yP (cs := #[.slice Ao14 t237.length co14, .string t240, .string a0_2]) ?_ 2 _ rfl; refine yW ?_; refine yP (cs := #[.slice Ao14 t237.length co14, .string a0_1, .string a0_2]) ?_ 1 _ rfl; refine yW ?_; refine yP (cs := #[.slice A0_0 l0_0.length c0_0, .string a0_1, .string a0_2]) ?_ 0 _ rfl; refine yW ?_; exact BK235.out) hb); replace BK236 := aM (yB (g := gb236) (o := .cells #[.slice none 0 0, .string (⟨#[]⟩ : ByteArray), .string (⟨#[]⟩ : ByteArray)] 27 (0, 0)) (by refine yW ?_; refine yF ?_ NB236_235.out _; refine yW ?_; refine yF ?_ NB236_235.out _; refine yW ?_; refine yF ?_ NB236_235.out _; refine yW ?_; exact BK236.out) hb); replace HB := aM (zT (zH HB.out) hb); (try clear hb); have hcz17_0 : w16.cell? ⟨gb235, 0, none⟩ = some (.slice Ao14 t237.length co14) := yc BK235.out 0; have hcz17_1 : w16.cell? ⟨gb235, 1, none⟩ = some (.string t240) := yc BK235.out 1; have hcz17_2 : w16.cell? ⟨gb235, 2, none⟩ = some (.string t241) := yc BK235.out 2; have hfz17_0 := yZ BK235.out 0; have hfz17_1 := yZ BK235.out 1; have hfz17_2 := yZ BK235.out 2))
   replace HO239 := aM (xD HO239.out); replace BK235 := aM (yD BK235.out); replace BK236 := aM (yD BK236.out); replace HB := aM (zD HB.out)
   refine start_ (n := 9) (S := fun w' => w'.cell? ⟨gb235, 0, none⟩ = some (.slice Ao14 t237.length co14) ∧ w'.cell? ⟨gb235, 1, none⟩ = some (.string t240) ∧ w'.cell? ⟨gb235, 2, none⟩ = some (.string t241)) (ds := [8]) #[fF,fF,fF,fF,fF,fF,fF,fF,fF] (by kernel_rfl) rfl rfl ⟨yc BK235.out 0, yc BK235.out 1, yc BK235.out 2⟩ (fun hHeld => ?_); refine with_tabW spec_l3One.tab6 spec_l3One.bits6 (fun HT_ HW_ => ?_)
   generalize w16.drew = w18 at HO239 BK235 BK236 HB hHeld ⊢
   refine pure_ (i := 0) (N := some 26) (v := ?_) (a' := ?_) #[tT,fF,fF,fF,fF,fF,fF,fF,fF] rfl rfl (any_of HT_.out (by kernel_rfl)) (fun _ _ _ h => h) (Or.inl ⟨by rfl, ?_⟩) ?_ ?_
   rotate_left
   ·intro w'
    go_simp
    with_reducible rfl
   rotate_left
   ·simp only [Act.put, qA, qB, qC, i64_w, i32_w]
    rfl
   refine pure_ (i := 2) (N := some 28) (v := ?_) (a' := ?_) #[tT,fF,tT,fF,fF,fF,fF,fF,fF] rfl rfl (any_of HT_.out (by kernel_rfl)) (fun _ _ _ h => h) (Or.inl ⟨by rfl, ?_⟩) ?_ ?_
   rotate_left
   ·intro w'
    go_simp
    with_reducible rfl
   rotate_left
   ·simp only [Act.put, qA, qB, qC, i64_w, i32_w]
    rfl
   refine pure_ (i := 3) (N := some 29) (v := ?_) (a' := ?_) #[tT,fF,tT,tT,fF,fF,fF,fF,fF] rfl rfl (any_of HT_.out (by kernel_rfl)) (fun _ _ _ h => h) (Or.inl ⟨by rfl, ?_⟩) ?_ ?_
   rotate_left
   ·intro w'
    go_simp
    with_reducible rfl
   rotate_left
   ·simp only [Act.put, qA, qB, qC, i64_w, i32_w]
    rfl
   refine pure_ (i := 4) (N := some 30) (v := ?_) (a' := ?_) #[tT,fF,tT,tT,tT,fF,fF,fF,fF] rfl rfl (any_of HT_.out (by kernel_rfl)) (fun _ _ _ h => h) (Or.inl ⟨by rfl, ?_⟩) ?_ ?_
   rotate_left
   ·intro w'
    go_simp
    with_reducible rfl
   rotate_left
   ·simp only [Act.put, qA, qB, qC, i64_w, i32_w]
    rfl
   refine take_ (i := 1) (N := some 27) (v := ?_) (a' := ?_) #[tT,tT,tT,tT,tT,fF,fF,fF,fF] rfl rfl (take_ofW HT_.out HW_.out (by kernel_rfl)) (fun _ _ _ h => h) (Or.inl ⟨by rfl, ?_⟩) hHeld ?_ ?_
   rotate_left
   ·rintro w' ⟨s0, s1, s2⟩
    go_simp
    with_reducible rfl
   rotate_left
   ·simp only [Act.put, qA, qB, qC, i64_w, i32_w]
    rfl
   refine take_ (i := 5) (N := some 31) (v := ?_) (a' := ?_) #[tT,tT,tT,tT,tT,tT,fF,fF,fF] rfl rfl (take_ofW HT_.out HW_.out (by kernel_rfl)) (fun _ _ _ h => h) (Or.inl ⟨by rfl, ?_⟩) hHeld ?_ ?_
   rotate_left
   ·rintro w' ⟨s0, s1, s2⟩
    go_simp
    with_reducible rfl
   rotate_left
   ·simp only [Act.put, qA, qB, qC, i64_w, i32_w]
    rfl
   refine one_ (i := 6) (N := some 32) #[tT,tT,tT,tT,tT,tT,tT,fF,fF] rfl rfl (one_of HT_.out (by kernel_rfl)) (by decide) (fun K hK => ?_)
   refine gS Try.func52 (by kernel_rfl) rfl #[.string t242, .string t240] (by rfl) rfl rfl ?_
   with_reducible refine (spec_l3Xor.calls t242 t240 t244 _ A6.out).mono ?_
   rintro e w19 ⟨rfl, hb⟩
   refine ⟨_, rfl, ?_⟩
   replace HO239 := xK HO239.out hb; replace BK235 := yK BK235.out hb; replace BK236 := yK BK236.out hb; replace HB := aM (zT (zH HB.out) hb)
   (try clear hb)
   have p8 : 0 ≤ (a1 : Int) := of_decide_eq_true (by first | (with_reducible assumption) | assumption)
   have q8 : (a1 : Int) < ((t237.length : Int) : Int) := of_decide_eq_true (by first | (with_reducible assumption) | assumption)
   obtain ⟨go8, co8, eo8, gb8, gl8, cl8, HG8⟩ := Kd.R_form HO239.out (by omega)
   (first | cases eo8 | (injection eo8 with ea_ en_ ec_; (first | subst ea_ | (injection ea_ with ea_; subst ea_)); subst ec_; clear en_))
   have GB8 := aM gb8; have GG8 := aM HG8; clear gb8 gl8 HG8; obtain ⟨hx8_0, hf8_0⟩ := Kd.R_celln (⟨#[]⟩ : ByteArray) HO239.out (a1 : Int) p8 q8; replace p8 := eq_true p8; replace q8 := eq_true q8; have HP20 := Kd.R_putn HO239.out (a1 : Int) t244
   rw [← Ny245.out] at HP20
   have HQ20 := aM HP20; clear HP20
   refine hK.out _ _ ⟨yc BK235.out 0, yc BK235.out 1, yc BK235.out 2⟩ (fun hHeld => ?_)
   clear hK K; refine norm_ (a' := ?_) ?_ ?_; rotate_left
   ·show Act.put _ (some 32) _ = _
    simp only [Act.put, qA, qB, qC, i64_w, i32_w]
    rfl
   refine pure_ (i := 7) (N := some 33) (v := ?_) (a' := ?_) #[tT,tT,tT,tT,tT,tT,tT,tT,fF] rfl rfl (any_of HT_.out (by kernel_rfl)) (fun _ _ _ h => h) (Or.inl ⟨by rfl, ?_⟩) ?_ ?_
   rotate_left
   ·intro w'
    go_simp
    with_reducible rfl
   rotate_left
   ·simp only [Act.put, qA, qB, qC, i64_w, i32_w]
    rfl
   refine last_ (i := 8) (N := none) #[tT,tT,tT,tT,tT,tT,tT,tT,tT] rfl rfl (one_of HT_.out (by kernel_rfl)) (by decide) (fun K hK => ?_)
   refine skip_ (w1 := ?_) (by rfl) rfl ?_ ?_
   rotate_left
   ·go_simp
    rfl
   refine hK.out _ _ ?_
   clear hK K
   refine done_ (done_of HT_.out (by kernel_rfl)) ?_
   have n0_ : Aside0 (Kd.R Kd.string 9 (w19.setCell ⟨go8, (a1 : Int).toNat, none⟩ (.string t244)) w.heap.size (fun _ => True) (.slice (some ⟨go8, 0, none⟩) t237.length co14) y245) := ⟨xH HQ20.out⟩
   have n1_ : Aside0 ((w19.setCell ⟨go8, (a1 : Int).toNat, none⟩ (.string t244)).heap[gb235]? = some (.cells #[.slice (some ⟨go8, 0, none⟩) t237.length co14, .string t240, .string t241] 27 (0, 0))) := ⟨by refine yW ?_; refine yF ?_ (by have h_ := Kd.R_ne HO239.out BK235.out (by decide); intro e_; exact h_ (by rw [e_]; rfl)) _; refine yW ?_; exact BK235.out⟩
   have n2_ : Aside0 ((w19.setCell ⟨go8, (a1 : Int).toNat, none⟩ (.string t244)).heap[gb236]? = some (.cells #[.slice none 0 0, .string (⟨#[]⟩ : ByteArray), .string (⟨#[]⟩ : ByteArray)] 27 (0, 0))) := ⟨by refine yW ?_; refine yF ?_ (by have h_ := Kd.R_ne HO239.out BK236.out (by decide); intro e_; exact h_ (by rw [e_]; rfl)) _; refine yW ?_; exact BK236.out⟩
   have n3_ : Aside0 (Below w.heap.size w (w19.setCell ⟨go8, (a1 : Int).toNat, none⟩ (.string t244))) := ⟨by repeat (first | (with_reducible first | exact HB.out | apply zA | apply zN | apply zD | refine zS ?_ GB8.out | refine zS ?_ GE235.out | refine zS ?_ GE236.out) | exact HB.out)⟩
   (try clear HO239); (try clear BK235); (try clear BK236); (try clear HB)
   generalize (w19.setCell ⟨go8, (a1 : Int).toNat, none⟩ (.string t244)) = w21 at n0_ n1_ n2_ n3_ ⊢
   have HO239 := n0_; have BK235 := n1_; have BK236 := n2_; have HB := n3_; clear n0_ n1_ n2_ n3_; have hcz22_0 : w21.cell? ⟨gb235, 0, none⟩ = some (.slice (some ⟨go8, 0, none⟩) t237.length co14) := yc BK235.out 0; have hcz22_1 : w21.cell? ⟨gb235, 1, none⟩ = some (.string t240) := yc BK235.out 1; have hcz22_2 : w21.cell? ⟨gb235, 2, none⟩ = some (.string t241) := yc BK235.out 2; have hfz22_0 := yZ BK235.out 0; have hfz22_1 := yZ BK235.out 1; have hfz22_2 := yZ BK235.out 2; have hcz23_0 : w21.cell? ⟨gb236, 0, none⟩ = some (.slice none 0 0) := yc BK236.out 0; have hcz23_1 : w21.cell? ⟨gb236, 1, none⟩ = some (.string (⟨#[]⟩ : ByteArray)) := yc BK236.out 1; have hcz23_2 : w21.cell? ⟨gb236, 2, none⟩ = some (.string (⟨#[]⟩ : ByteArray)) := yc BK236.out 2; have hfz23_0 := yZ BK236.out 0; have hfz23_1 := yZ BK236.out 1; have hfz23_2 := yZ BK236.out 2
   try go_wp2
   refine bodyPost_ret (results_cell_row rfl _ _ gb236 27 #[.slice (some ⟨go8, 0, none⟩) t237.length co14, .string t240, .string t241] (0, 0) _ rfl (by refine yW ?_; refine yP (cs := #[.slice (some ⟨go8, 0, none⟩) t237.length co14, .string t240, .string (⟨#[]⟩ : ByteArray)]) ?_ 2 _ rfl; refine yW ?_; refine yP (cs := #[.slice (some ⟨go8, 0, none⟩) t237.length co14, .string (⟨#[]⟩ : ByteArray), .string (⟨#[]⟩ : ByteArray)]) ?_ 1 _ rfl; refine yW ?_; refine yP (cs := #[.slice none 0 0, .string (⟨#[]⟩ : ByteArray), .string (⟨#[]⟩ : ByteArray)]) ?_ 0 _ rfl; refine yW ?_; exact BK236.out) Try.underlying27 rfl (by kernel_rfl)) rfl ?_
   exact ⟨_, eW, xH (xM (xF (p := ⟨gb236, 2, none⟩) (xF (p := ⟨gb236, 1, none⟩) (xF (p := ⟨gb236, 0, none⟩) (xT HO239.out BK236.out (by decide)) (fun _ hk => hk.2) (.slice (some ⟨go8, 0, none⟩) t237.length co14)) (fun _ hk => hk.2) (.string t240)) (fun _ hk => hk.2) (.string t241)) (fun _ hk => trivial)), zH HB.out⟩
  ·rw [if_neg c7] at H
   exact absurd H (by simp)
 ·rw [if_neg c5] at H
  have c5b0 : decide (a1 < (t237.length : Int)) = false := decide_eq_false c5; clear c5
  by_cases c24 : a1 = (t237.length : Int)
  ·rw [if_pos c24] at H
   have c24b0 : (a1 == (t237.length : Int)) = true := beq_iff_eq.mpr c24; have c24b1 : (a1 != (t237.length : Int)) = false := bne_eq_false_iff_eq.mpr c24; clear c24
   simp only [Option.some.injEq, Prod.mk.injEq] at H
   obtain ⟨rfl, rfl, rfl⟩ := H
   go_enter Try.func59, Try.ntmps59
   go_wp2_with (first | ((with_reducible refine gate_dst (N := 2) rfl ?_); refine box_event ?hg (N := 2) ?hd (cs := #[.slice A0_0 l0_0.length c0_0, .string a0_1, .string a0_2]) (t := 27) ?hr ?_; (case hd => rfl); (case hg => rfl); (case hr => first | (go_simp; done) | (go_simp; rfl)); intro gb235 hg w25 hbox hb; have BK235 := aM (hbox); have GW235 := aM ((by rw [hg]; exact (zZ (zH HB.out)) : w.heap.size ≤ gb235)); have GE235 := aM ((by rw [hg]; exact (zZ (zH HB.out)) : w.heap.size ≤ gb235)); replace HB := aM (zT (zH HB.out) hb); clear hb hbox hg) | ((with_reducible refine gate_dst (N := 4) rfl ?_); refine box_event ?hg (N := 4) ?hd (cs := #[.slice none 0 0, .string (⟨#[]⟩ : ByteArray), .string (⟨#[]⟩ : ByteArray)]) (t := 27) ?hr ?_; (case hd => rfl); (case hg => rfl); (case hr => first | (go_simp; done) | (go_simp; rfl)); intro gb236 hg w26 hbox hb; have BK236 := aM (hbox); have GW236 := aM ((by rw [hg]; exact (zZ (zH HB.out)) : w.heap.size ≤ gb236)); have GE236 := aM ((by rw [hg]; exact (zZ (zH HB.out)) : w.heap.size ≤ gb236)); replace HB := aM (zT (zH HB.out) hb); have NB235_236 := nL BK235.out hg; have NB236_235 := nR BK235.out hg; replace BK235 := yK BK235.out hb; clear hb hbox hg; have hnb27 := NB235_236.out; have hnc27 := NB236_235.out; have hcz28_0 : w26.cell? ⟨gb235, 0, none⟩ = some (.slice A0_0 l0_0.length c0_0) := yc BK235.out 0; have hcz28_1 : w26.cell? ⟨gb235, 1, none⟩ = some (.string a0_1) := yc BK235.out 1; have hcz28_2 : w26.cell? ⟨gb235, 2, none⟩ = some (.string a0_2) := yc BK235.out 2; have hfz28_0 := yZ BK235.out 0; have hfz28_1 := yZ BK235.out 1; have hfz28_2 := yZ BK235.out 2) | ((with_reducible refine gate_callee (f := 75) rfl ?_); refine goesL_ (some 10) rfl rfl Try.func75 (by kernel_rfl) rfl #[.agg #[.slice A0_0 l0_0.length c0_0, .string a0_1, .string a0_2], .int .i64 a1] rfl mA ?_; (with_reducible refine (spec_l3Blank.calls _ _ l0_0 a0_1 a0_2 a1 t237 t240 t241 _ ?side1 ?side2 A3.out).mono ?_); (case side1 => exact cK HR0_0.out HB.out); (case side2 => exact HC0_0.out); rintro e w29 ⟨v238, rfl, ho0, hb⟩; refine ⟨_, rfl, ?_⟩; have HO239 := aM (xL ho0 (zZ (zH HB.out))); replace BK235 := yK BK235.out hb; replace BK236 := yK BK236.out hb; replace HB := aM (zT (zH HB.out) hb); (try clear hb); (try clear ho0); obtain ⟨Ao30, co30, eo30⟩ := Kd.R_slice HO239.out; subst eo30; have hcz31_0 : w29.cell? ⟨gb235, 0, none⟩ = some (.slice A0_0 l0_0.length c0_0) := yc BK235.out 0; have hcz31_1 : w29.cell? ⟨gb235, 1, none⟩ = some (.string a0_1) := yc BK235.out 1; have hcz31_2 : w29.cell? ⟨gb235, 2, none⟩ = some (.string a0_2) := yc BK235.out 2; have hfz31_0 := yZ BK235.out 0; have hfz31_1 := yZ BK235.out 1; have hfz31_2 := yZ BK235.out 2) | ((with_reducible refine gate_callee (f := 45) rfl ?_); refine goesL_ (some 14) rfl rfl Try.func45 (by kernel_rfl) rfl #[.slice Ao30 t237.length co30] rfl mA ?_; (with_reducible refine (spec_l3Parities.calls k _ _ t237 t242 t243 _ ?side1 ?side2 A4.out).mono ?_); (case side1 => exact rC (n := t237.length) (c := co30) ((x3 HO239.out BK235.out (by decide) (.slice Ao30 t237.length co30) (.string t240) (.string t241)))); (case side2 => exact (Kd.R_reads' HO239.out).2.1); rintro e w32 ⟨rfl, hb⟩; refine ⟨_, rfl, ?_⟩; replace HO239 := aM (xB (xH ((x3 HO239.out BK235.out (by decide) (.slice Ao30 t237.length co30) (.string t240) (.string t241)))) hb); replace BK235 := aM (yB (g := gb235) (o := .cells #[.slice Ao30 t237.length co30, .string t240, .string t241] 27 (0, 0)) (by refine yW ?_; refine yP (cs := #[.slice Ao30 t237.length co30, .string t240, .string a0_2]) ?_ 2 _ rfl; refine yW ?_; refine yP (cs := #[.slice Ao30 t237.length co30, .string a0_1, .string a0_2]) ?_ 1 _ rfl; refine yW ?_; refine yP (cs := #[.slice A0_0 l0_0.length c0_0, .string a0_1, .string a0_2]) ?_ 0 _ rfl; refine yW ?_; exact BK235.out) hb); replace BK236 := aM (yB (g := gb236) (o := .cells #[.slice none 0 0, .string (⟨#[]⟩ : ByteArray), .string (⟨#[]⟩ : ByteArray)] 27 (0, 0)) (by refine yW ?_; refine yF ?_ NB236_235.out _; refine yW ?_; refine yF ?_ NB236_235.out _; refine yW ?_; refine yF ?_ NB236_235.out _; refine yW ?_; exact BK236.out) hb); replace HB := aM (zT (zH HB.out) hb); (try clear hb); have hcz33_0 : w32.cell? ⟨gb235, 0, none⟩ = some (.slice Ao30 t237.length co30) := yc BK235.out 0; have hcz33_1 : w32.cell? ⟨gb235, 1, none⟩ = some (.string t240) := yc BK235.out 1; have hcz33_2 : w32.cell? ⟨gb235, 2, none⟩ = some (.string t241) := yc BK235.out 2; have hfz33_0 := yZ BK235.out 0; have hfz33_1 := yZ BK235.out 1; have hfz33_2 := yZ BK235.out 2; have hcz34_0 : w32.cell? ⟨gb236, 0, none⟩ = some (.slice none 0 0) := yc BK236.out 0; have hcz34_1 : w32.cell? ⟨gb236, 1, none⟩ = some (.string (⟨#[]⟩ : ByteArray)) := yc BK236.out 1; have hcz34_2 : w32.cell? ⟨gb236, 2, none⟩ = some (.string (⟨#[]⟩ : ByteArray)) := yc BK236.out 2; have hfz34_0 := yZ BK236.out 0; have hfz34_1 := yZ BK236.out 1; have hfz34_2 := yZ BK236.out 2))
   refine bodyPost_ret (results_cell_row rfl _ _ gb236 27 #[.slice Ao30 t237.length co30, .string t242, .string t241] (0, 0) _ rfl (by refine yW ?_; refine yP (cs := #[.slice Ao30 t237.length co30, .string t242, .string (⟨#[]⟩ : ByteArray)]) ?_ 2 _ rfl; refine yW ?_; refine yP (cs := #[.slice Ao30 t237.length co30, .string (⟨#[]⟩ : ByteArray), .string (⟨#[]⟩ : ByteArray)]) ?_ 1 _ rfl; refine yW ?_; refine yP (cs := #[.slice none 0 0, .string (⟨#[]⟩ : ByteArray), .string (⟨#[]⟩ : ByteArray)]) ?_ 0 _ rfl; refine yW ?_; refine yF ?_ NB236_235.out _; refine yW ?_; exact BK236.out) Try.underlying27 rfl (by kernel_rfl)) rfl ?_
   exact ⟨_, eW, xH (xM (xF (p := ⟨gb236, 2, none⟩) (xF (p := ⟨gb236, 1, none⟩) (xF (p := ⟨gb236, 0, none⟩) (xF (p := ⟨gb235, 1, none⟩) (xT (xT HO239.out BK235.out (by decide)) BK236.out (by decide)) (fun _ hk => hk.1.2) (.string t242)) (fun _ hk => hk.2) (.slice Ao30 t237.length co30)) (fun _ hk => hk.2) (.string t242)) (fun _ hk => hk.2) (.string t241)) (fun _ hk => trivial)), zH HB.out⟩
  ·rw [if_neg c24] at H
   have c24b0 : (a1 == (t237.length : Int)) = false := beq_eq_false_iff_ne.mpr c24; have c24b1 : (a1 != (t237.length : Int)) = true := bne_iff_ne.mpr c24
   simp only [Option.some.injEq, Prod.mk.injEq] at H
   obtain ⟨rfl, rfl, rfl⟩ := H
   go_enter Try.func59, Try.ntmps59
   go_wp2_with (first | ((with_reducible refine gate_dst (N := 2) rfl ?_); refine box_event ?hg (N := 2) ?hd (cs := #[.slice A0_0 l0_0.length c0_0, .string a0_1, .string a0_2]) (t := 27) ?hr ?_; (case hd => rfl); (case hg => rfl); (case hr => first | (go_simp; done) | (go_simp; rfl)); intro gb235 hg w35 hbox hb; have BK235 := aM (hbox); have GW235 := aM ((by rw [hg]; exact (zZ (zH HB.out)) : w.heap.size ≤ gb235)); have GE235 := aM ((by rw [hg]; exact (zZ (zH HB.out)) : w.heap.size ≤ gb235)); replace HB := aM (zT (zH HB.out) hb); clear hb hbox hg) | ((with_reducible refine gate_dst (N := 4) rfl ?_); refine box_event ?hg (N := 4) ?hd (cs := #[.slice none 0 0, .string (⟨#[]⟩ : ByteArray), .string (⟨#[]⟩ : ByteArray)]) (t := 27) ?hr ?_; (case hd => rfl); (case hg => rfl); (case hr => first | (go_simp; done) | (go_simp; rfl)); intro gb236 hg w36 hbox hb; have BK236 := aM (hbox); have GW236 := aM ((by rw [hg]; exact (zZ (zH HB.out)) : w.heap.size ≤ gb236)); have GE236 := aM ((by rw [hg]; exact (zZ (zH HB.out)) : w.heap.size ≤ gb236)); replace HB := aM (zT (zH HB.out) hb); have NB235_236 := nL BK235.out hg; have NB236_235 := nR BK235.out hg; replace BK235 := yK BK235.out hb; clear hb hbox hg; have hnb37 := NB235_236.out; have hnc37 := NB236_235.out; have hcz38_0 : w36.cell? ⟨gb235, 0, none⟩ = some (.slice A0_0 l0_0.length c0_0) := yc BK235.out 0; have hcz38_1 : w36.cell? ⟨gb235, 1, none⟩ = some (.string a0_1) := yc BK235.out 1; have hcz38_2 : w36.cell? ⟨gb235, 2, none⟩ = some (.string a0_2) := yc BK235.out 2; have hfz38_0 := yZ BK235.out 0; have hfz38_1 := yZ BK235.out 1; have hfz38_2 := yZ BK235.out 2) | ((with_reducible refine gate_callee (f := 75) rfl ?_); refine goesL_ (some 10) rfl rfl Try.func75 (by kernel_rfl) rfl #[.agg #[.slice A0_0 l0_0.length c0_0, .string a0_1, .string a0_2], .int .i64 a1] rfl mA ?_; (with_reducible refine (spec_l3Blank.calls _ _ l0_0 a0_1 a0_2 a1 t237 t240 t241 _ ?side1 ?side2 A3.out).mono ?_); (case side1 => exact cK HR0_0.out HB.out); (case side2 => exact HC0_0.out); rintro e w39 ⟨v238, rfl, ho0, hb⟩; refine ⟨_, rfl, ?_⟩; have HO239 := aM (xL ho0 (zZ (zH HB.out))); replace BK235 := yK BK235.out hb; replace BK236 := yK BK236.out hb; replace HB := aM (zT (zH HB.out) hb); (try clear hb); (try clear ho0); obtain ⟨Ao40, co40, eo40⟩ := Kd.R_slice HO239.out; subst eo40; have hcz41_0 : w39.cell? ⟨gb235, 0, none⟩ = some (.slice A0_0 l0_0.length c0_0) := yc BK235.out 0; have hcz41_1 : w39.cell? ⟨gb235, 1, none⟩ = some (.string a0_1) := yc BK235.out 1; have hcz41_2 : w39.cell? ⟨gb235, 2, none⟩ = some (.string a0_2) := yc BK235.out 2; have hfz41_0 := yZ BK235.out 0; have hfz41_1 := yZ BK235.out 1; have hfz41_2 := yZ BK235.out 2) | ((with_reducible refine gate_callee (f := 45) rfl ?_); refine goesL_ (some 14) rfl rfl Try.func45 (by kernel_rfl) rfl #[.slice Ao40 t237.length co40] rfl mA ?_; (with_reducible refine (spec_l3Parities.calls k _ _ t237 t242 t243 _ ?side1 ?side2 A4.out).mono ?_); (case side1 => exact rC (n := t237.length) (c := co40) ((x3 HO239.out BK235.out (by decide) (.slice Ao40 t237.length co40) (.string t240) (.string t241)))); (case side2 => exact (Kd.R_reads' HO239.out).2.1); rintro e w42 ⟨rfl, hb⟩; refine ⟨_, rfl, ?_⟩; replace HO239 := aM (xB (xH ((x3 HO239.out BK235.out (by decide) (.slice Ao40 t237.length co40) (.string t240) (.string t241)))) hb); replace BK235 := aM (yB (g := gb235) (o := .cells #[.slice Ao40 t237.length co40, .string t240, .string t241] 27 (0, 0)) (by refine yW ?_; refine yP (cs := #[.slice Ao40 t237.length co40, .string t240, .string a0_2]) ?_ 2 _ rfl; refine yW ?_; refine yP (cs := #[.slice Ao40 t237.length co40, .string a0_1, .string a0_2]) ?_ 1 _ rfl; refine yW ?_; refine yP (cs := #[.slice A0_0 l0_0.length c0_0, .string a0_1, .string a0_2]) ?_ 0 _ rfl; refine yW ?_; exact BK235.out) hb); replace BK236 := aM (yB (g := gb236) (o := .cells #[.slice none 0 0, .string (⟨#[]⟩ : ByteArray), .string (⟨#[]⟩ : ByteArray)] 27 (0, 0)) (by refine yW ?_; refine yF ?_ NB236_235.out _; refine yW ?_; refine yF ?_ NB236_235.out _; refine yW ?_; refine yF ?_ NB236_235.out _; refine yW ?_; exact BK236.out) hb); replace HB := aM (zT (zH HB.out) hb); (try clear hb); have hcz43_0 : w42.cell? ⟨gb235, 0, none⟩ = some (.slice Ao40 t237.length co40) := yc BK235.out 0; have hcz43_1 : w42.cell? ⟨gb235, 1, none⟩ = some (.string t240) := yc BK235.out 1; have hcz43_2 : w42.cell? ⟨gb235, 2, none⟩ = some (.string t241) := yc BK235.out 2; have hfz43_0 := yZ BK235.out 0; have hfz43_1 := yZ BK235.out 1; have hfz43_2 := yZ BK235.out 2; have hcz44_0 : w42.cell? ⟨gb236, 0, none⟩ = some (.slice none 0 0) := yc BK236.out 0; have hcz44_1 : w42.cell? ⟨gb236, 1, none⟩ = some (.string (⟨#[]⟩ : ByteArray)) := yc BK236.out 1; have hcz44_2 : w42.cell? ⟨gb236, 2, none⟩ = some (.string (⟨#[]⟩ : ByteArray)) := yc BK236.out 2; have hfz44_0 := yZ BK236.out 0; have hfz44_1 := yZ BK236.out 1; have hfz44_2 := yZ BK236.out 2))
   refine bodyPost_ret (results_cell_row rfl _ _ gb236 27 #[.slice Ao40 t237.length co40, .string t240, .string t243] (0, 0) _ rfl (by refine yW ?_; refine yP (cs := #[.slice Ao40 t237.length co40, .string t240, .string (⟨#[]⟩ : ByteArray)]) ?_ 2 _ rfl; refine yW ?_; refine yP (cs := #[.slice Ao40 t237.length co40, .string (⟨#[]⟩ : ByteArray), .string (⟨#[]⟩ : ByteArray)]) ?_ 1 _ rfl; refine yW ?_; refine yP (cs := #[.slice none 0 0, .string (⟨#[]⟩ : ByteArray), .string (⟨#[]⟩ : ByteArray)]) ?_ 0 _ rfl; refine yW ?_; refine yF ?_ NB236_235.out _; refine yW ?_; exact BK236.out) Try.underlying27 rfl (by kernel_rfl)) rfl ?_
   exact ⟨_, eW, xH (xM (xF (p := ⟨gb236, 2, none⟩) (xF (p := ⟨gb236, 1, none⟩) (xF (p := ⟨gb236, 0, none⟩) (xF (p := ⟨gb235, 2, none⟩) (xT (xT HO239.out BK235.out (by decide)) BK236.out (by decide)) (fun _ hk => hk.1.2) (.string t243)) (fun _ hk => hk.2) (.slice Ao40 t237.length co40)) (fun _ hk => hk.2) (.string t240)) (fun _ hk => hk.2) (.string t243)) (fun _ hk => trivial)), zH HB.out⟩

/-! ### spec_l2Inv: function 76 -/
def spec_l2Inv.f (k : Nat) (a0 : Int) : Option (Int) := if a0 = 0 then (some 0) else ((spec_l2Pow.f k a0 254).bind fun t246 => (some t246))
theorem spec_l2Inv.mono : ∀ a0 k, LeO (spec_l2Inv.f k a0) (spec_l2Inv.f (k + 1) a0) := by
 intro a0 k
 unfold spec_l2Inv.f
 repeat' first
   | (with_reducible exact spec_l2Pow.mono _ _ _)
   | (with_reducible exact LeO.refl _)
   | (with_reducible exact LeO.none _)
   | (with_reducible refine LeO.ite ?_ ?_)
   | (with_reducible refine LeO.bind ?_ (fun _ => ?_))
   | exact spec_l2Pow.mono _ _ _
   | exact LeO.none _
   | refine LeO.ite ?_ ?_
   | refine LeO.bind ?_ (fun _ => ?_)
set_option maxHeartbeats 8000000 in
set_option maxRecDepth 100000 in
theorem spec_l2Inv.calls (k : Nat) (a0 : Int) (r : Int) (w : World) (h : spec_l2Inv.f k a0 = some r) :
  Calls Try.prog 76 #[.int .u8 a0] w fun e w' => e = .returned (.int .u8 r) ∧ Drawn0 w w' := by
 have H : (if a0 = 0 then (some 0) else ((spec_l2Pow.f k a0 254).bind fun t246 => (some t246))) = some r := h
 clear h
 by_cases c2 : a0 = 0
 ·rw [if_pos c2] at H
  have c2b0 : (a0 == 0) = true := beq_iff_eq.mpr c2; have c2b1 : (a0 != 0) = false := bne_eq_false_iff_eq.mpr c2; clear c2; obtain rfl := Option.some.inj H
  go_enter Try.func76, Try.ntmps76
  go_wp2
  go_ret
  exact ⟨by first | rfl | (simp; done) | (simp [*]; done), by repeat (first | exact Drawn0.refl _ | apply Drawn0.step)⟩
 ·rw [if_neg c2] at H
  have c2b0 : (a0 == 0) = false := beq_eq_false_iff_ne.mpr c2; have c2b1 : (a0 != 0) = true := bne_iff_ne.mpr c2; replace H := Option.bind_eq_some_iff.mp H; obtain ⟨t246, A30, H⟩ := H; replace H : (some t246) = some r := H; have A3 := aM A30; clear A30; obtain rfl := Option.some.inj H
  go_enter Try.func76, Try.ntmps76
  go_wp2_with (first | ((with_reducible refine gate_callee (f := 54) rfl ?_); refine goesL_ (some 6) rfl rfl Try.func54 (by kernel_rfl) rfl #[.int .u8 a0, .int .i64 254] rfl mA ?_; (with_reducible refine (spec_l2Pow.calls k a0 254 t246 _ A3.out).mono ?_); rintro e w' ⟨rfl, ⟨nd, rfl⟩⟩; refine ⟨_, rfl, ?_⟩))
  go_ret
  exact ⟨by first | rfl | (simp; done) | (simp [*]; done), by repeat (first | exact Drawn0.refl _ | apply Drawn0.step)⟩

end Go.Proofs.Ytfijnlhklfmoeaa.PFnParity
