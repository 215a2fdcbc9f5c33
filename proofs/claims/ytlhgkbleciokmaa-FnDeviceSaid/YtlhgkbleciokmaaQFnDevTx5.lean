/- The walks of FnDevice: Go's calls come to what the Lean functions beside them say; no condition. -/
import Derived.Test.YtlhgkbleciokmaaQFnDevTx0
import Derived.Test.YtlhgkbleciokmaaQFnDevTx1
import Derived.Test.YtlhgkbleciokmaaQFnDevTx4
namespace Go.Proofs.Ytlhgkbleciokmaa.PFnDevice
open Go.RowKit Go.Proofs.YtlhgkbleciokmaaW.PrintWords Go.Proofs.YtlhgkbleciokmaaW.PrintLast Go.Proofs.YtlhgkbleciokmaaW.PrintMore
attribute [local go_sem] max2_int min2_int max_two min_two max_three min_three max_four min_four   -- for this text's walks alone
set_option linter.unusedVariables false
set_option linter.unusedSimpArgs false
set_option maxRecDepth 100000

/-! ### slices_Compact_int_int: function 80 (by hand) -/
section
open Go.Shelf Go.Sort
def sortLay_ren : Go.Shelf.Ren := ⟨fun | 189 => 79 | 125 => 94 | 257 => 93 | 128 => 112 | 129 => 113 | 294 => 103 | 295 => 104 | 296 => 105 | 297 => 106 | 298 => 107 | 299 => 108 | 216 => 109 | 300 => 110 | 301 => 111 | 328 => 117 | 329 => 118 | 330 => 119 | 331 => 120 | 332 => 121 | 215 => 122 | 343 => 123 | n => n, fun | 28 => 61 | 3 => 3 | 46 => 103 | 0 => 0 | 51 => 121 | 53 => 95 | 4 => 4 | 183 => 129 | 182 => 128 | 131 => 134 | 5 => 5 | 9 => 9 | 218 => 141 | 222 => 145 | 228 => 147 | 229 => 148 | n => n, fun | n => n⟩
theorem sortLay : Go.Proofs.Lays.n189 Try.prog sortLay_ren := {
 mixed := by kernel_rfl,
 f125 := Try.func94.trans (congrArg some (by kernel_rfl)),
 f128 := Try.func112.trans (congrArg some (by kernel_rfl)),
 f129 := Try.func113.trans (congrArg some (by kernel_rfl)),
 f189 := Try.func79.trans (congrArg some (by kernel_rfl)),
 f215 := Try.func122.trans (congrArg some (by kernel_rfl)),
 f216 := Try.func109.trans (congrArg some (by kernel_rfl)),
 f257 := Try.func93.trans (congrArg some (by kernel_rfl)),
 f294 := Try.func103.trans (congrArg some (by kernel_rfl)),
 f295 := Try.func104.trans (congrArg some (by kernel_rfl)),
 f296 := Try.func105.trans (congrArg some (by kernel_rfl)),
 f297 := Try.func106.trans (congrArg some (by kernel_rfl)),
 f298 := Try.func107.trans (congrArg some (by kernel_rfl)),
 f299 := Try.func108.trans (congrArg some (by kernel_rfl)),
 f300 := Try.func110.trans (congrArg some (by kernel_rfl)),
 f301 := Try.func111.trans (congrArg some (by kernel_rfl)),
 f328 := Try.func117.trans (congrArg some (by kernel_rfl)),
 f329 := Try.func118.trans (congrArg some (by kernel_rfl)),
 f330 := Try.func119.trans (congrArg some (by kernel_rfl)),
 f331 := Try.func120.trans (congrArg some (by kernel_rfl)),
 f332 := Try.func121.trans (congrArg some (by kernel_rfl)),
 f343 := Try.func123.trans (congrArg some (by kernel_rfl)),
 t0 := Try.underlying0,
 a0 := Try.isAgg0,
 z0 := Try.sizeOf0,
 v0 := Try.zeroValue0,
 t3 := Try.underlying3,
 a3 := Try.isAgg3,
 z3 := Try.sizeOf3,
 v3 := Try.zeroValue3,
 t4 := Try.underlying4,
 a4 := Try.isAgg4,
 z4 := Try.sizeOf4,
 v4 := Try.zeroValue4,
 t5 := Try.underlying5,
 a5 := Try.isAgg5,
 z5 := Try.sizeOf5,
 v5 := Try.zeroValue5,
 t9 := Try.underlying9,
 a9 := Try.isAgg9,
 z9 := Try.sizeOf9,
 v9 := Try.zeroValue9,
 t28 := Try.underlying61,
 a28 := Try.isAgg61,
 z28 := Try.sizeOf61,
 v28 := Try.zeroValue61,
 t46 := Try.underlying103,
 a46 := Try.isAgg103,
 z46 := Try.sizeOf103,
 v46 := Try.zeroValue103,
 t51 := Try.underlying121,
 a51 := Try.isAgg121,
 z51 := Try.sizeOf121,
 v51 := Try.zeroValue121,
 t53 := Try.underlying95,
 a53 := Try.isAgg95,
 z53 := Try.sizeOf95,
 v53 := Try.zeroValue95,
 t131 := Try.underlying134,
 a131 := Try.isAgg134,
 z131 := Try.sizeOf134,
 v131 := Try.zeroValue134,
 t182 := Try.underlying128,
 a182 := Try.isAgg128,
 z182 := Try.sizeOf128,
 v182 := Try.zeroValue128,
 t183 := Try.underlying129,
 a183 := Try.isAgg129,
 z183 := Try.sizeOf129,
 v183 := Try.zeroValue129,
 t218 := Try.underlying141,
 a218 := Try.isAgg141,
 z218 := Try.sizeOf141,
 v218 := Try.zeroValue141,
 t222 := Try.underlying145,
 a222 := Try.isAgg145,
 z222 := Try.sizeOf145,
 v222 := Try.zeroValue145,
 t228 := Try.underlying147,
 a228 := Try.isAgg147,
 z228 := Try.sizeOf147,
 v228 := Try.zeroValue147,
 t229 := Try.underlying148,
 a229 := Try.isAgg148,
 z229 := Try.sizeOf148,
 v229 := Try.zeroValue148 }
def compLay_ren : Go.Shelf.Ren := ⟨fun | 20 => 80 | n => n, fun | 22 => 61 | 3 => 3 | 4 => 4 | 0 => 0 | n => n, fun | n => n⟩
theorem compLay : Go.Proofs.Lays2.n20 Try.prog compLay_ren := {
 mixed := by kernel_rfl,
 f20 := Try.func80.trans (congrArg some (by kernel_rfl)),
 t0 := Try.underlying0,
 a0 := Try.isAgg0,
 z0 := Try.sizeOf0,
 v0 := Try.zeroValue0,
 t3 := Try.underlying3,
 a3 := Try.isAgg3,
 z3 := Try.sizeOf3,
 v3 := Try.zeroValue3,
 t4 := Try.underlying4,
 a4 := Try.isAgg4,
 z4 := Try.sizeOf4,
 v4 := Try.zeroValue4,
 t22 := Try.underlying61,
 a22 := Try.isAgg61,
 z22 := Try.sizeOf61,
 v22 := Try.zeroValue61,
 i3 := by kernel_rfl }
theorem below_gr {B : Nat} {w0 w : World} (h : Below B w0 w) (hB : B ≤ w.heap.size) (os : Array Obj) : Below B w0 (grow w os) :=
 ⟨h.os, h.tape, h.output, by have := h.size; simp [grow]; omega, fun k hk => by rw [heap_grow_old _ _ (by omega)]; exact h.block k hk⟩
theorem own_gr {w : World} {base : Nat} {e : TypeId} {v : Value} {n : Nat} {xs : List Value} (h : w.ownsRow base e 1 v n xs) (os : Array Obj) : (grow w os).ownsRow base e 1 v n xs := by
 refine ⟨h.1, ?_⟩
 rcases h.2 with h' | ⟨g, cap, cur, e1, e2, e3, e4, e5, e6, e7⟩
 ·exact .inl h'
 ·exact .inr ⟨g, cap, cur, e1, e2, by rw [heap_grow_old _ _ (Array.getElem?_eq_some_iff.1 e3).1]; exact e3, e4, e5, e6, e7⟩
theorem sortI {w0 W : World} {base : Nat} {ok : Nat → Prop} {v : Value} {xs : List Int} (h : Kd.R (Kd.int .i64) 3 W base ok v xs) (hb : Below base w0 W) (hB : base ≤ W.heap.size) (hl : xs.length < 4611686018427387904) :
  Calls Try.prog 79 #[v] W fun e w' => e = .returned (.tuple #[]) ∧ Kd.R (Kd.int .i64) 3 w' base ok v (xs.mergeSort fun x y => decide (x ≤ y)) ∧ Below base w0 w' ∧ base ≤ w'.heap.size := by
 have ho : W.ownsRow base 3 1 v xs.length (xs.map (Value.int .i64)) := Kd.own_of_R h
 by_cases hv : v = .slice none 0 0
 ·subst hv
  have hx : xs = [] := by
   rcases ho.2 with ⟨_, e⟩ | ⟨_, _, _, e, _⟩
   ·exact List.length_eq_zero_iff.mp e
   ·cases e
  subst hx
  refine (Any.slices_Sort_int_none sortLay none 0 W).mono ?_
  rintro e w' ⟨rfl, rfl⟩
  exact ⟨rfl, by simpa using h, hb, hB⟩
 ·obtain ⟨g, cap, rfl, hg, hlt, hn, hm, _, hH⟩ := Lib.holds_of_ownsRow ho hv
  refine (Any.slices_Sort_int sortLay g 0 cap xs W hH hlt hl).mono ?_
  rintro e w' ⟨rfl, n, os, rfl⟩
  have hs : (xs.mergeSort fun x y => decide (x ≤ y)).length = xs.length := List.length_mergeSort _
  have o2 := Lib.ownsRow_putRow (q := n) (ys := xs.mergeSort fun x y => decide (x ≤ y)) ho hs (Nat.le_refl _)
  rw [← hs, List.take_length] at o2
  refine ⟨rfl, Kd.R_of_own ?_ h.1, below_gr (Lib.below_putRow hb hg) (by simpa [putRow, mapBlock, Sort.ahead] using hB) os, by simp [grow, putRow, mapBlock, Sort.ahead]; omega⟩
  rw [← hs] 
  exact own_gr o2 os
theorem compI {w0 W : World} {base : Nat} {ok : Nat → Prop} {v : Value} {xs : List Int} (h : Kd.R (Kd.int .i64) 3 W base ok v xs) (hb : Below base w0 W) (hl : xs.length < 4611686018427387904) :
  Calls Try.prog 80 #[v] W fun e w' => ∃ v' : Value, e = .returned v' ∧ Kd.R (Kd.int .i64) 3 w' base ok v' (Lib.compact xs) ∧ Below base w0 w' := by
 have ho : W.ownsRow base 3 1 v xs.length (xs.map (Value.int .i64)) := Kd.own_of_R h
 by_cases hv : v = .slice none 0 0
 ·subst hv
  have hx : xs = [] := by
   rcases ho.2 with ⟨_, e⟩ | ⟨_, _, _, e, _⟩
   ·exact List.length_eq_zero_iff.mp e
   ·cases e
  subst hx
  refine (Any.slices_Compact_int_empty compLay none 0 W).mono ?_
  rintro e w' ⟨rfl, rfl⟩
  exact ⟨_, rfl, by rw [show Lib.compact ([] : List Int) = [] from rfl]; exact h, hb⟩
 ·obtain ⟨g, cap, rfl, hg, hlt, hn, hm, _, hH⟩ := Lib.holds_of_ownsRow ho hv
  refine (Any.slices_Compact_int compLay g 0 cap xs W hH (by omega) hn).mono ?_
  rintro e w' ⟨rfl, n, rfl⟩
  have hle := Lib.compact_length_le xs
  have o2 := Lib.ownsRow_putRow (q := n) (k := (Lib.compact xs).length) (ys := Lib.compact xs ++ List.replicate (xs.length - (Lib.compact xs).length) 0) ho (by simp; omega) hle
  rw [List.take_left] at o2
  exact ⟨_, rfl, Kd.R_of_own o2 h.1, Lib.below_putRow hb hg⟩
end
def slices_Compact_int_int.f (l0 : List Int) : Option (List Int) :=
 if l0.length < 4611686018427387904 then some (Lib.compact (l0.mergeSort fun x y => decide (x ≤ y))) else none


/-! ### impl_DirtyOf: function 44 -/
def impl_DirtyOf.l0 : Nat → List Int → List (S42) → Int → Int → Option (List Int × Bool)
 | 0, _, _, _, _ => none
 | k + 1, x4, x12, x13, x14 => if x14 < x13 then (if 0 ≤ x14 then (if x14 < (x12.length : Int) then (if x4.length < 17592186044416 then (impl_DirtyOf.l0 k (x4 ++ [(rd_T42 x12 x14).f0]) x12 x13 (wrap64 (x14 + 1))) else (none)) else (none)) else (none)) else ((slices_Compact_int_int.f x4).bind fun t195 => (some (t195, true)))
def impl_DirtyOf.f (k : Nat) (l0_0 : List ByteArray) (l0_1 : List (S42)) : Option (List Int × Bool) := (impl_GoodDevice.f l0_0 l0_1).bind fun t186 => (if t186 = true then (impl_DirtyOf.l0 k (([] : List Int)) l0_1 (l0_1.length : Int) 0) else (some (([] : List Int), false)))
theorem impl_DirtyOf.mono_l : ∀ k, (∀ y0 y1 y2 y3, LeO (impl_DirtyOf.l0 k y0 y1 y2 y3) (impl_DirtyOf.l0 (k + 1) y0 y1 y2 y3))
 | 0 => fun _ _ _ _ r h => by change none = some r at h; cases h
 | k + 1 => by
  have ih0 := impl_DirtyOf.mono_l k
  ·intro y0 y1 y2 y3
   unfold impl_DirtyOf.l0
   repeat' first
   | (with_reducible exact ih0 _ _ _ _)
   | (with_reducible exact LeO.refl _)
   | (with_reducible exact LeO.none _)
   | (with_reducible refine LeO.ite ?_ ?_)
   | (with_reducible refine LeO.bind ?_ (fun _ => ?_))
   | exact ih0 _ _ _ _
   | exact LeO.none _
   | refine LeO.ite ?_ ?_
   | refine LeO.bind ?_ (fun _ => ?_)
theorem impl_DirtyOf.mono : ∀ a0 a1 k, LeO (impl_DirtyOf.f k a0 a1) (impl_DirtyOf.f (k + 1) a0 a1) := by
 intro a0 a1 k
 have ih0 := impl_DirtyOf.mono_l k
 unfold impl_DirtyOf.f
 repeat' first
   | (with_reducible exact ih0 _ _ _ _)
   | (with_reducible exact LeO.refl _)
   | (with_reducible exact LeO.none _)
   | (with_reducible refine LeO.ite ?_ ?_)
   | (with_reducible refine LeO.bind ?_ (fun _ => ?_))
   | exact ih0 _ _ _ _
   | exact LeO.none _
   | refine LeO.ite ?_ ?_
   | refine LeO.bind ?_ (fun _ => ?_)
set_option maxHeartbeats 8000000 in
set_option maxRecDepth 100000 in
theorem impl_DirtyOf.calls (k : Nat) (A0_0 : Option Addr) (c0_0 : Nat) (l0_0 : List ByteArray) (A0_1 : Option Addr) (c0_1 : Nat) (l0_1 : List (S42)) (r1 : List Int) (r2 : Bool) (w : World) (hr0_0 : Kd.C Kd.string w A0_0 l0_0.length l0_0) (hc0_0 : l0_0.length ≤ c0_0) (hr0_1 : Kd.C k42 w A0_1 l0_1.length l0_1) (hc0_1 : l0_1.length ≤ c0_1) (h : impl_DirtyOf.f k l0_0 l0_1 = some (r1, r2)) :
  Calls Try.prog 44 #[.agg #[.slice A0_0 l0_0.length c0_0, .slice A0_1 l0_1.length c0_1]] w fun e w' => ∃ v0_ : Value, e = .returned (.tuple #[v0_, .bool r2]) ∧ Kd.R (Kd.int .i64) 3 w' w.heap.size (fun _ => True) v0_ r1 ∧ Below w.heap.size w w' := by
 have hu30 := Try.underlying30; have hu42 := Try.underlying42; have HR0_0 := aM hr0_0; have HC0_0 := aM hc0_0; clear hr0_0 hc0_0; have HR0_1 := aM hr0_1; have HC0_1 := aM hc0_1; clear hr0_1 hc0_1; have HB := aM (Below.refl w.heap.size w)
 have H : ((impl_GoodDevice.f l0_0 l0_1).bind fun t186 => (if t186 = true then (impl_DirtyOf.l0 k (([] : List Int)) l0_1 (l0_1.length : Int) 0) else (some (([] : List Int), false)))) = some (r1, r2) := h
 clear h; replace H := Option.bind_eq_some_iff.mp H; obtain ⟨t186, A20, H⟩ := H; replace H : (if t186 = true then (impl_DirtyOf.l0 k (([] : List Int)) l0_1 (l0_1.length : Int) 0) else (some (([] : List Int), false))) = some (r1, r2) := H; have A2 := aM A20; clear A20
 by_cases c3 : t186 = true
 ·subst c3
  have H1 : (impl_DirtyOf.l0 k (([] : List Int)) l0_1 (l0_1.length : Int) 0) = some (r1, r2) := by rw [if_pos rfl] at H; exact H
  clear H; have H := H1; clear H1; obtain ⟨y187, hy187⟩ : ∃ y_ : List Int, y_ = (([] : List Int)) := ⟨_, rfl⟩
  replace H : (impl_DirtyOf.l0 k y187 l0_1 (l0_1.length : Int) 0) = some (r1, r2) := by first | (rw [hy187]; with_reducible exact H) | (have H2_ := (Option.bind_some _ _).symm.trans H; rw [hy187]; with_reducible exact H2_) | (have H2_ := (Option.bind_some _ _).symm.trans H; with_reducible exact H2_) | with_reducible exact H | (rw [hy187]; exact H) | exact H
  have Ny187 := aM hy187; clear hy187; have H' := aM H; clear H
  go_enter Try.func44, Try.ntmps44
  go_wp2_with (first | ((with_reducible refine gate_dst (N := 1) rfl ?_); refine box_event ?hg (N := 1) ?hd (cs := #[.slice A0_0 l0_0.length c0_0, .slice A0_1 l0_1.length c0_1]) (t := 30) ?hr ?_; (case hd => rfl); (case hg => rfl); (case hr => first | (go_simp; done) | (go_simp; rfl)); intro gb185 hg w4 hbox hb; have BK185 := aM (hbox); have GW185 := aM ((by rw [hg]; exact (zZ (zH HB.out)) : w.heap.size ≤ gb185)); have GE185 := aM ((by rw [hg]; exact (zZ (zH HB.out)) : w.heap.size ≤ gb185)); replace HB := aM (zT (zH HB.out) hb); clear hb hbox hg; have hcz5_0 : w4.cell? ⟨gb185, 0, none⟩ = some (.slice A0_0 l0_0.length c0_0) := yc BK185.out 0; have hcz5_1 : w4.cell? ⟨gb185, 1, none⟩ = some (.slice A0_1 l0_1.length c0_1) := yc BK185.out 1; have hfz5_0 := yZ BK185.out 0; have hfz5_1 := yZ BK185.out 1) | ((with_reducible refine gate_callee (f := 16) rfl ?_); refine goesL_ (some 8) rfl rfl Try.func16 (by kernel_rfl) rfl #[.agg #[.slice A0_0 l0_0.length c0_0, .slice A0_1 l0_1.length c0_1]] rfl mA ?_; (with_reducible refine (impl_GoodDevice.calls _ _ l0_0 _ _ l0_1 true _ ?side1 ?side2 ?side3 ?side4 A2.out).mono ?_); (case side1 => exact cK HR0_0.out HB.out); (case side2 => exact HC0_0.out); (case side3 => exact cK HR0_1.out HB.out); (case side4 => exact HC0_1.out); rintro e w6 ⟨rfl, hb⟩; refine ⟨_, rfl, ?_⟩; replace BK185 := yK BK185.out hb; replace HB := aM (zT (zH HB.out) hb); (try clear hb)) | ((with_reducible refine gate_dst (N := 10) rfl ?_); refine Kd.R_lit (Kd.int .i64) _ 3 ?hg (N := 10) ?hd (xs := ([] : List Int)) (inner := []) (ok := fun _ => True) (okp := fun _ => True) ?hr ?hp (fun _ hk => hk) trivial (Below.refl _ _) (Nat.le_refl _) (by simp) ?_; (case hd => rfl); (case hg => rfl); (case hr => first | (go_simp; done) | (go_simp; rfl)); (case hp => exact (Reps.none _ _)); intro v188 w7 ho8 hb hg_ hnew_; clear hg_ hnew_; (first | rw [← Ny187.out] at ho8 | (simp only [Int.reduceToNat] at ho8; rw [← Ny187.out] at ho8)); have HO189 := aM (xL ho8 (zZ (zH HB.out))); replace BK185 := yK BK185.out hb; replace HB := aM (zT (zH HB.out) hb); clear hb ho8; have hcz9_0 : w7.cell? ⟨gb185, 0, none⟩ = some (.slice A0_0 l0_0.length c0_0) := yc BK185.out 0; have hcz9_1 : w7.cell? ⟨gb185, 1, none⟩ = some (.slice A0_1 l0_1.length c0_1) := yc BK185.out 1; have hfz9_0 := yZ BK185.out 0; have hfz9_1 := yZ BK185.out 1))
  go_loopg [4, 14] k (fun kq v4 v14 w' => ∃ (x4_1 : List Int) (x14_1 : Int), v14 = .int .i64 x14_1 ∧ Aside0 (impl_DirtyOf.l0 kq x4_1 l0_1 (l0_1.length : Int) x14_1 = some (r1, r2)) ∧ Aside0 (kq ≤ k) ∧ Aside0 (Kd.R (Kd.int .i64) 3 w' w.heap.size (fun _ => True) v4 x4_1) ∧ Aside0 (w'.heap[gb185]? = some (.cells #[(.slice A0_0 l0_0.length c0_0), (.slice A0_1 l0_1.length c0_1)] 30 (0, 0))) ∧ Aside0 (Below w.heap.size w w'))
  case atStart => exact ⟨(y187), (0), (by first | rfl | (simp; done) | (simp [*]; done)), H', ⟨Nat.le_refl _⟩, ⟨xH HO189.out⟩, ⟨yH BK185.out⟩, ⟨zH HB.out⟩⟩
  case round =>
   clear H'
   (try clear c3); (try clear hcz5_0 hcz5_1 hfz5_0 hfz5_1); (try clear hcz9_0 hcz9_1 hfz9_0 hfz9_1)
   obtain ⟨x4_1, x14_1, rfl, HA, HK1, p0', BK185, HB⟩ := hrel
   cases gk with
   | zero => exact absurd HA.out (fun h_ => by change none = some _ at h_; cases h_)
   | succ k1 =>
    have H := HA.out; clear HA
    simp only [impl_DirtyOf.l0] at H
    by_cases c10 : x14_1 < (l0_1.length : Int)
    ·rw [if_pos c10] at H
     have c10b0 : decide (x14_1 < (l0_1.length : Int)) = true := decide_eq_true c10; clear c10
     by_cases c11 : 0 ≤ x14_1
     ·rw [if_pos c11] at H
      have c11b0 : decide (0 ≤ x14_1) = true := decide_eq_true c11; clear c11
      by_cases c12 : x14_1 < (l0_1.length : Int)
      ·rw [if_pos c12] at H
       have c12b0 : decide (x14_1 < (l0_1.length : Int)) = true := decide_eq_true c12; clear c12
       by_cases c13 : x4_1.length < 17592186044416
       ·rw [if_pos c13] at H
        have LMc13 := aM c13; clear c13; obtain ⟨y192, hy192⟩ : ∃ y_ : List Int, y_ = (x4_1 ++ [(rd_T42 l0_1 x14_1).f0]) := ⟨_, rfl⟩
        replace H : (impl_DirtyOf.l0 k1 y192 l0_1 (l0_1.length : Int) (wrap64 (x14_1 + 1))) = some (r1, r2) := by first | (rw [hy192]; with_reducible exact H) | (have H2_ := (Option.bind_some _ _).symm.trans H; rw [hy192]; with_reducible exact H2_) | (have H2_ := (Option.bind_some _ _).symm.trans H; with_reducible exact H2_) | with_reducible exact H | (rw [hy192]; exact H) | exact H
        have Ny192 := aM hy192; clear hy192; have H' := aM H; clear H
        have p190 : 0 ≤ (x14_1 : Int) := of_decide_eq_true (by first | (with_reducible assumption) | assumption)
        have q190 : x14_1 < (l0_1.length : Int) := of_decide_eq_true (by first | (with_reducible assumption) | assumption)
        obtain ⟨ad190, e190, hx190_0, hx190_1⟩ := at_T42 HR0_1.out x14_1 p190 q190
        cases e190
        replace hx190_0 := (HB.out.cell (World.block_lt_of_cell? w _ hx190_0)).trans hx190_0; replace hx190_1 := (HB.out.cell (World.block_lt_of_cell? w _ hx190_1)).trans hx190_1; replace p190 := eq_true p190; replace q190 := eq_true q190
        go_wp2_with (first | ((with_reducible refine gate_dst (N := 6) rfl ?_); refine box_event ?hg (N := 6) ?hd (cs := #[.int .i64 0, .string (⟨#[]⟩ : ByteArray)]) (t := 42) ?hr ?_; (case hd => rfl); (case hg => rfl); (case hr => first | (go_simp; done) | (go_simp; rfl)); intro gb191 hg w14 hbox hb; replace p0' := xK p0'.out hb; have BK191 := aM (hbox); have GW191 := aM ((by rw [hg]; exact (zZ (zH HB.out)) : w.heap.size ≤ gb191)); have GE191 := aM ((by rw [hg]; exact (zZ (zH HB.out)) : w.heap.size ≤ gb191)); replace HB := aM (zT (zH HB.out) hb); have NB185_191 := nL BK185.out hg; have NB191_185 := nR BK185.out hg; replace BK185 := yK BK185.out hb; clear hb hbox hg; have hnb15 := NB191_185.out; have hnc15 := NB185_191.out; have hcz16_0 : w14.cell? ⟨gb191, 0, none⟩ = some (.int .i64 0) := yc BK191.out 0; have hcz16_1 : w14.cell? ⟨gb191, 1, none⟩ = some (.string (⟨#[]⟩ : ByteArray)) := yc BK191.out 1; have hfz16_0 := yZ BK191.out 0; have hfz16_1 := yZ BK191.out 1) | ((with_reducible refine gate_builtin (b := .append) (xs := #[.tmp 18, .tmp 21]) rfl ?_); at_builtin; refine Kd.R_append (Kd.int .i64) (w0 := w) w.heap.size rfl (.tmp 18) (.tmp 21) 61 3 (.int .i64 0) 8 rfl Try.underlying61 info3 rfl (by decide) (by omega) u4 x4_1 ((rd_T42 l0_1 x14_1).f0) [.int .i64 ((rd_T42 l0_1 x14_1).f0)] (fun _ => True) (fun _ => False) rfl (by first | (go_simp; done) | (go_simp; rfl)) ?aP (fun _ hk => hk.elim) ?aF ?aO ?aB ?aS ?aL ?_; (case aP => exact rfl); (case aB => exact (zH HB.out)); (case aF => exact (fun _ _ => trivial)); (case aO => exact (xH (xM (xF (p := ⟨gb191, 1, none⟩) (xF (p := ⟨gb191, 0, none⟩) (xT p0'.out BK191.out (by decide)) (fun _ hk => hk.2) (.int .i64 ((rd_T42 l0_1 x14_1).f0))) (fun _ hk => hk.2) (.string ((rd_T42 l0_1 x14_1).f1))) (fun _ hk => trivial)))); (case aS => exact (zZ (zH HB.out))); (case aL => have := LMc13.out; omega); intro v193 w17 ho hb hg hat; rw [← Ny192.out] at ho; replace BK185 := aM (blk_grown (g := gb185) (o := .cells #[.slice A0_0 l0_0.length c0_0, .slice (some ad190) l0_1.length c0_1] 30 (0, 0)) (by refine yW ?_; refine yF ?_ NB185_191.out _; refine yW ?_; refine yF ?_ NB185_191.out _; refine yW ?_; exact BK185.out) hg (Kd.R_ne p0'.out BK185.out (by decide))); replace BK191 := aM (blk_grown (g := gb191) (o := .cells #[.int .i64 ((rd_T42 l0_1 x14_1).f0), .string ((rd_T42 l0_1 x14_1).f1)] 42 (0, 0)) (by refine yW ?_; refine yP (cs := #[.int .i64 ((rd_T42 l0_1 x14_1).f0), .string (⟨#[]⟩ : ByteArray)]) ?_ 1 _ rfl; refine yW ?_; refine yP (cs := #[.int .i64 0, .string (⟨#[]⟩ : ByteArray)]) ?_ 0 _ rfl; refine yW ?_; exact BK191.out) hg (Kd.R_ne p0'.out BK191.out (by decide))); replace HB := aM (hb); have HO194 := aM (ho); clear p0'; clear ho hb hg hat))
        go_roundg k1
        case measure => have := HK1.out; omega
        case rel => exact ⟨(y192), (wrap64 (x14_1 + 1)), (by first | rfl | (simp; done) | (simp [*]; done)), H', ⟨by have := HK1.out; omega⟩, ⟨xH HO194.out⟩, ⟨yH BK185.out⟩, ⟨zH HB.out⟩⟩
       ·rw [if_neg c13] at H
        exact absurd H (by simp)
      ·rw [if_neg c12] at H
       exact absurd H (by simp)
     ·rw [if_neg c11] at H
      exact absurd H (by simp)
    ·rw [if_neg c10] at H
     have c10b0 : decide (x14_1 < (l0_1.length : Int)) = false := decide_eq_false c10; clear c10; replace H := Option.bind_eq_some_iff.mp H; obtain ⟨t195, A180, H⟩ := H; replace H : (some (t195, true)) = some (r1, r2) := H; have A18 := aM A180; clear A180
     simp only [Option.some.injEq, Prod.mk.injEq] at H
     obtain ⟨rfl, rfl⟩ := H; obtain ⟨Ao19, co19, eo19⟩ := Kd.R_slice p0'.out
     subst eo19
     have LA_ : x4_1.length < 4611686018427387904 ∧ t195 = Lib.compact (x4_1.mergeSort fun x y => decide (x ≤ y)) := by
      have h_ := A18.out
      unfold slices_Compact_int_int.f at h_
      split at h_
      ·rename_i hl_; exact ⟨hl_, (Option.some.inj h_).symm⟩
      ·cases h_
     have HL_ := aM LA_.1; obtain rfl := LA_.2; clear LA_ A18
     go_wp2_with (first | ((with_reducible refine gate_callee (f := 79) rfl ?_); refine goesL_ (some 25) rfl rfl Try.func79 (by kernel_rfl) rfl #[.slice Ao19 x4_1.length co19] rfl (by (try simp only [List.map_toArray, List.map_cons, List.map_nil]); first | done | rfl) ?_; (with_reducible refine (sortI (w0 := w) (xH p0'.out) (zH HB.out) (zZ (zH HB.out)) HL_.out).mono ?_); rintro e w_s ⟨rfl, hs1, hs2, hs3⟩; refine ⟨_, rfl, ?_⟩; have n0_ := aM hs1; have n1_ := aM hs2; clear hs1 hs2 hs3; clear p0'; clear HB; have p0' := n0_; have HB := n1_; clear n0_ n1_) | ((with_reducible refine gate_callee (f := 80) rfl ?_); refine goesL_ (some 27) rfl rfl Try.func80 (by kernel_rfl) rfl #[.slice Ao19 x4_1.length co19] rfl (by (try simp only [List.map_toArray, List.map_cons, List.map_nil]); first | done | rfl) ?_; (with_reducible refine (compI (w0 := w) (xH p0'.out) (zH HB.out) (by rw [List.length_mergeSort]; exact HL_.out)).mono ?_); rintro e w_c ⟨v_c, rfl, hs1, hs2⟩; refine ⟨_, rfl, ?_⟩; have HO197 := aM hs1; have n1_ := aM hs2; clear hs1 hs2; clear HB; have HB := n1_; clear n1_))
     go_ret2
     exact ⟨_, eW, xH (xM HO197.out (fun _ hk => trivial)), zH HB.out⟩
 ·replace c3 := Bool.eq_false_iff.mpr c3
  subst c3
  have H1 : (some (([] : List Int), false)) = some (r1, r2) := by rw [if_neg (show ¬ (false = true) by decide)] at H; exact H
  clear H; have H := H1; clear H1
  simp only [Option.some.injEq, Prod.mk.injEq] at H
  obtain ⟨rfl, rfl⟩ := H
  go_enter Try.func44, Try.ntmps44
  go_wp2_with (first | ((with_reducible refine gate_dst (N := 1) rfl ?_); refine box_event ?hg (N := 1) ?hd (cs := #[.slice A0_0 l0_0.length c0_0, .slice A0_1 l0_1.length c0_1]) (t := 30) ?hr ?_; (case hd => rfl); (case hg => rfl); (case hr => first | (go_simp; done) | (go_simp; rfl)); intro gb185 hg w21 hbox hb; have BK185 := aM (hbox); have GW185 := aM ((by rw [hg]; exact (zZ (zH HB.out)) : w.heap.size ≤ gb185)); have GE185 := aM ((by rw [hg]; exact (zZ (zH HB.out)) : w.heap.size ≤ gb185)); replace HB := aM (zT (zH HB.out) hb); clear hb hbox hg; have hcz22_0 : w21.cell? ⟨gb185, 0, none⟩ = some (.slice A0_0 l0_0.length c0_0) := yc BK185.out 0; have hcz22_1 : w21.cell? ⟨gb185, 1, none⟩ = some (.slice A0_1 l0_1.length c0_1) := yc BK185.out 1; have hfz22_0 := yZ BK185.out 0; have hfz22_1 := yZ BK185.out 1) | ((with_reducible refine gate_callee (f := 16) rfl ?_); refine goesL_ (some 8) rfl rfl Try.func16 (by kernel_rfl) rfl #[.agg #[.slice A0_0 l0_0.length c0_0, .slice A0_1 l0_1.length c0_1]] rfl mA ?_; (with_reducible refine (impl_GoodDevice.calls _ _ l0_0 _ _ l0_1 false _ ?side1 ?side2 ?side3 ?side4 A2.out).mono ?_); (case side1 => exact cK HR0_0.out HB.out); (case side2 => exact HC0_0.out); (case side3 => exact cK HR0_1.out HB.out); (case side4 => exact HC0_1.out); rintro e w23 ⟨rfl, hb⟩; refine ⟨_, rfl, ?_⟩; replace BK185 := yK BK185.out hb; replace HB := aM (zT (zH HB.out) hb); (try clear hb)))
  go_ret2
  exact ⟨_, eW, by first | exact Kd.R_nil _ _ _ _ _ | exact Kd.N_nil _ _ _ _ _ | exact Kd.V_nil _ _ _ _ _ | exact Kd.Q_nil _ _ _ _ _ | exact Kd.S_nil _ _ _ _ _, zH HB.out⟩

/-! ### spec_FlushDevice: function 28 -/
def spec_FlushDevice.f (k : Nat) (l0_0 : List ByteArray) (l0_1 : List (S42)) : Option (List ByteArray × (List (S42)) × Bool) := (spec_GoodDevice.f k l0_0 l0_1).bind fun t200 => (if t200 = true then ((spec_l1Done.f k l0_0 l0_1).bind fun t201 => (some (t201, ([] : List (S42)), true))) else (some (([] : List ByteArray), ([] : List (S42)), false)))
theorem spec_FlushDevice.mono : ∀ a0 a1 k, LeO (spec_FlushDevice.f k a0 a1) (spec_FlushDevice.f (k + 1) a0 a1) := by
 intro a0 a1 k
 unfold spec_FlushDevice.f
 repeat' first
   | (with_reducible exact spec_GoodDevice.mono _ _ _)
   | (with_reducible exact spec_l1Done.mono _ _ _)
   | (with_reducible exact LeO.refl _)
   | (with_reducible exact LeO.none _)
   | (with_reducible refine LeO.ite ?_ ?_)
   | (with_reducible refine LeO.bind ?_ (fun _ => ?_))
   | exact spec_GoodDevice.mono _ _ _
   | exact spec_l1Done.mono _ _ _
   | exact LeO.none _
   | refine LeO.ite ?_ ?_
   | refine LeO.bind ?_ (fun _ => ?_)
set_option maxHeartbeats 8000000 in
set_option maxRecDepth 100000 in
theorem spec_FlushDevice.calls (k : Nat) (A0_0 : Option Addr) (c0_0 : Nat) (l0_0 : List ByteArray) (A0_1 : Option Addr) (c0_1 : Nat) (l0_1 : List (S42)) (r1 : List ByteArray) (r2 : List (S42)) (r3 : Bool) (w : World) (hr0_0 : Kd.C Kd.string w A0_0 l0_0.length l0_0) (hc0_0 : l0_0.length ≤ c0_0) (hr0_1 : Kd.C k42 w A0_1 l0_1.length l0_1) (hc0_1 : l0_1.length ≤ c0_1) (h : spec_FlushDevice.f k l0_0 l0_1 = some (r1, r2, r3)) :
  Calls Try.prog 28 #[.agg #[.slice A0_0 l0_0.length c0_0, .slice A0_1 l0_1.length c0_1]] w fun e w' => ∃ v0_ v1_ : Value, e = .returned (.tuple #[.agg #[v0_, v1_], .bool r3]) ∧ Kd.R Kd.string 9 w' w.heap.size (fun _ => True) v0_ r1 ∧ Kd.R k42 42 w' w.heap.size (fun _ => True) v1_ r2 ∧ Below w.heap.size w w' := by
 have hu30 := Try.underlying30; have HR0_0 := aM hr0_0; have HC0_0 := aM hc0_0; clear hr0_0 hc0_0; have HR0_1 := aM hr0_1; have HC0_1 := aM hc0_1; clear hr0_1 hc0_1; have HB := aM (Below.refl w.heap.size w)
 have H : ((spec_GoodDevice.f k l0_0 l0_1).bind fun t200 => (if t200 = true then ((spec_l1Done.f k l0_0 l0_1).bind fun t201 => (some (t201, ([] : List (S42)), true))) else (some (([] : List ByteArray), ([] : List (S42)), false)))) = some (r1, r2, r3) := h
 clear h; replace H := Option.bind_eq_some_iff.mp H; obtain ⟨t200, A20, H⟩ := H
 replace H : (if t200 = true then ((spec_l1Done.f k l0_0 l0_1).bind fun t201 => (some (t201, ([] : List (S42)), true))) else (some (([] : List ByteArray), ([] : List (S42)), false))) = some (r1, r2, r3) := H
 have A2 := aM A20; clear A20
 by_cases c3 : t200 = true
 ·subst c3
  have H1 : ((spec_l1Done.f k l0_0 l0_1).bind fun t201 => (some (t201, ([] : List (S42)), true))) = some (r1, r2, r3) := by rw [if_pos rfl] at H; exact H
  clear H; have H := H1; clear H1; replace H := Option.bind_eq_some_iff.mp H; obtain ⟨t201, A40, H⟩ := H; replace H : (some (t201, ([] : List (S42)), true)) = some (r1, r2, r3) := H; have A4 := aM A40; clear A40
  simp only [Option.some.injEq, Prod.mk.injEq] at H
  obtain ⟨rfl, rfl, rfl⟩ := H
  go_enter Try.func28, Try.ntmps28
  go_wp2_with (first | ((with_reducible refine gate_dst (N := 1) rfl ?_); refine box_event ?hg (N := 1) ?hd (cs := #[.slice A0_0 l0_0.length c0_0, .slice A0_1 l0_1.length c0_1]) (t := 30) ?hr ?_; (case hd => rfl); (case hg => rfl); (case hr => first | (go_simp; done) | (go_simp; rfl)); intro gb198 hg w5 hbox hb; have BK198 := aM (hbox); have GW198 := aM ((by rw [hg]; exact (zZ (zH HB.out)) : w.heap.size ≤ gb198)); have GE198 := aM ((by rw [hg]; exact (zZ (zH HB.out)) : w.heap.size ≤ gb198)); replace HB := aM (zT (zH HB.out) hb); clear hb hbox hg) | ((with_reducible refine gate_dst (N := 2) rfl ?_); refine box_event ?hg (N := 2) ?hd (cs := #[.slice none 0 0, .slice none 0 0]) (t := 30) ?hr ?_; (case hd => rfl); (case hg => rfl); (case hr => first | (go_simp; done) | (go_simp; rfl)); intro gb199 hg w6 hbox hb; have BK199 := aM (hbox); have GW199 := aM ((by rw [hg]; exact (zZ (zH HB.out)) : w.heap.size ≤ gb199)); have GE199 := aM ((by rw [hg]; exact (zZ (zH HB.out)) : w.heap.size ≤ gb199)); replace HB := aM (zT (zH HB.out) hb); have NB198_199 := nL BK198.out hg; have NB199_198 := nR BK198.out hg; replace BK198 := yK BK198.out hb; clear hb hbox hg; have hnb7 := NB198_199.out; have hnc7 := NB199_198.out; have hcz8_0 : w6.cell? ⟨gb198, 0, none⟩ = some (.slice A0_0 l0_0.length c0_0) := yc BK198.out 0; have hcz8_1 : w6.cell? ⟨gb198, 1, none⟩ = some (.slice A0_1 l0_1.length c0_1) := yc BK198.out 1; have hfz8_0 := yZ BK198.out 0; have hfz8_1 := yZ BK198.out 1) | ((with_reducible refine gate_callee (f := 14) rfl ?_); refine goesL_ (some 5) rfl rfl Try.func14 (by kernel_rfl) rfl #[.agg #[.slice A0_0 l0_0.length c0_0, .slice A0_1 l0_1.length c0_1]] rfl mA ?_; (with_reducible refine (spec_GoodDevice.calls k _ _ l0_0 _ _ l0_1 true _ ?side1 ?side2 ?side3 ?side4 A2.out).mono ?_); (case side1 => exact cK HR0_0.out HB.out); (case side2 => exact HC0_0.out); (case side3 => exact cK HR0_1.out HB.out); (case side4 => exact HC0_1.out); rintro e w9 ⟨rfl, hb⟩; refine ⟨_, rfl, ?_⟩; replace BK198 := yK BK198.out hb; replace BK199 := yK BK199.out hb; replace HB := aM (zT (zH HB.out) hb); (try clear hb); have hcz10_0 : w9.cell? ⟨gb198, 0, none⟩ = some (.slice A0_0 l0_0.length c0_0) := yc BK198.out 0; have hcz10_1 : w9.cell? ⟨gb198, 1, none⟩ = some (.slice A0_1 l0_1.length c0_1) := yc BK198.out 1; have hfz10_0 := yZ BK198.out 0; have hfz10_1 := yZ BK198.out 1) | ((with_reducible refine gate_callee (f := 62) rfl ?_); refine goesL_ (some 12) rfl rfl Try.func62 (by kernel_rfl) rfl #[.slice A0_0 l0_0.length c0_0, .slice A0_1 l0_1.length c0_1] rfl mA ?_; (with_reducible refine (spec_l1Done.calls k _ _ l0_0 _ _ l0_1 t201 _ ?side1 ?side2 ?side3 ?side4 A4.out).mono ?_); (case side1 => exact cK HR0_0.out HB.out); (case side2 => exact HC0_0.out); (case side3 => exact cK HR0_1.out HB.out); (case side4 => exact HC0_1.out); rintro e w11 ⟨v202, rfl, ho0, hb⟩; refine ⟨_, rfl, ?_⟩; have HO203 := aM (xL ho0 (zZ (zH HB.out))); replace BK198 := yK BK198.out hb; replace BK199 := yK BK199.out hb; replace HB := aM (zT (zH HB.out) hb); (try clear hb); (try clear ho0); obtain ⟨Ao12, co12, eo12⟩ := Kd.R_slice HO203.out; subst eo12; have hcz13_0 : w11.cell? ⟨gb199, 0, none⟩ = some (.slice none 0 0) := yc BK199.out 0; have hcz13_1 : w11.cell? ⟨gb199, 1, none⟩ = some (.slice none 0 0) := yc BK199.out 1; have hfz13_0 := yZ BK199.out 0; have hfz13_1 := yZ BK199.out 1))
  refine bodyPost_ret (results_ct rfl _ _ gb199 30 #[.slice Ao12 t201.length co12, .slice none 0 0] (0, 0) _ rfl (by refine yW ?_; refine yP (cs := #[.slice Ao12 t201.length co12, .slice none 0 0]) ?_ 1 _ rfl; refine yW ?_; refine yP (cs := #[.slice none 0 0, .slice none 0 0]) ?_ 0 _ rfl; refine yW ?_; exact BK199.out) Try.underlying30 rfl (by kernel_rfl)) rfl ?_
  exact ⟨_, _, eW, xH (xM (xF (p := ⟨gb199, 1, none⟩) (xF (p := ⟨gb199, 0, none⟩) (xT HO203.out BK199.out (by decide)) (fun _ hk => hk.2) (.slice Ao12 t201.length co12)) (fun _ hk => hk.2) (.slice none 0 0)) (fun _ hk => trivial)), by first | exact Kd.R_nil _ _ _ _ _ | exact Kd.N_nil _ _ _ _ _ | exact Kd.V_nil _ _ _ _ _ | exact Kd.Q_nil _ _ _ _ _ | exact Kd.S_nil _ _ _ _ _, zH HB.out⟩
 ·replace c3 := Bool.eq_false_iff.mpr c3
  subst c3
  have H1 : (some (([] : List ByteArray), ([] : List (S42)), false)) = some (r1, r2, r3) := by rw [if_neg (show ¬ (false = true) by decide)] at H; exact H
  clear H; have H := H1; clear H1
  simp only [Option.some.injEq, Prod.mk.injEq] at H
  obtain ⟨rfl, rfl, rfl⟩ := H
  go_enter Try.func28, Try.ntmps28
  go_wp2_with (first | ((with_reducible refine gate_dst (N := 1) rfl ?_); refine box_event ?hg (N := 1) ?hd (cs := #[.slice A0_0 l0_0.length c0_0, .slice A0_1 l0_1.length c0_1]) (t := 30) ?hr ?_; (case hd => rfl); (case hg => rfl); (case hr => first | (go_simp; done) | (go_simp; rfl)); intro gb198 hg w14 hbox hb; have BK198 := aM (hbox); have GW198 := aM ((by rw [hg]; exact (zZ (zH HB.out)) : w.heap.size ≤ gb198)); have GE198 := aM ((by rw [hg]; exact (zZ (zH HB.out)) : w.heap.size ≤ gb198)); replace HB := aM (zT (zH HB.out) hb); clear hb hbox hg) | ((with_reducible refine gate_dst (N := 2) rfl ?_); refine box_event ?hg (N := 2) ?hd (cs := #[.slice none 0 0, .slice none 0 0]) (t := 30) ?hr ?_; (case hd => rfl); (case hg => rfl); (case hr => first | (go_simp; done) | (go_simp; rfl)); intro gb199 hg w15 hbox hb; have BK199 := aM (hbox); have GW199 := aM ((by rw [hg]; exact (zZ (zH HB.out)) : w.heap.size ≤ gb199)); have GE199 := aM ((by rw [hg]; exact (zZ (zH HB.out)) : w.heap.size ≤ gb199)); replace HB := aM (zT (zH HB.out) hb); have NB198_199 := nL BK198.out hg; have NB199_198 := nR BK198.out hg; replace BK198 := yK BK198.out hb; clear hb hbox hg; have hnb16 := NB198_199.out; have hnc16 := NB199_198.out; have hcz17_0 : w15.cell? ⟨gb198, 0, none⟩ = some (.slice A0_0 l0_0.length c0_0) := yc BK198.out 0; have hcz17_1 : w15.cell? ⟨gb198, 1, none⟩ = some (.slice A0_1 l0_1.length c0_1) := yc BK198.out 1; have hfz17_0 := yZ BK198.out 0; have hfz17_1 := yZ BK198.out 1) | ((with_reducible refine gate_callee (f := 14) rfl ?_); refine goesL_ (some 5) rfl rfl Try.func14 (by kernel_rfl) rfl #[.agg #[.slice A0_0 l0_0.length c0_0, .slice A0_1 l0_1.length c0_1]] rfl mA ?_; (with_reducible refine (spec_GoodDevice.calls k _ _ l0_0 _ _ l0_1 false _ ?side1 ?side2 ?side3 ?side4 A2.out).mono ?_); (case side1 => exact cK HR0_0.out HB.out); (case side2 => exact HC0_0.out); (case side3 => exact cK HR0_1.out HB.out); (case side4 => exact HC0_1.out); rintro e w18 ⟨rfl, hb⟩; refine ⟨_, rfl, ?_⟩; replace BK198 := yK BK198.out hb; replace BK199 := yK BK199.out hb; replace HB := aM (zT (zH HB.out) hb); (try clear hb); have hcz19_0 : w18.cell? ⟨gb199, 0, none⟩ = some (.slice none 0 0) := yc BK199.out 0; have hcz19_1 : w18.cell? ⟨gb199, 1, none⟩ = some (.slice none 0 0) := yc BK199.out 1; have hfz19_0 := yZ BK199.out 0; have hfz19_1 := yZ BK199.out 1))
  refine bodyPost_ret (results_ct rfl _ _ gb199 30 #[.slice none 0 0, .slice none 0 0] (0, 0) _ rfl (by refine yW ?_; refine yP (cs := #[.slice none 0 0, .slice none 0 0]) ?_ 1 _ rfl; refine yW ?_; refine yP (cs := #[.slice none 0 0, .slice none 0 0]) ?_ 0 _ rfl; refine yW ?_; exact BK199.out) Try.underlying30 rfl (by kernel_rfl)) rfl ?_
  exact ⟨_, _, eW, by first | exact Kd.R_nil _ _ _ _ _ | exact Kd.N_nil _ _ _ _ _ | exact Kd.V_nil _ _ _ _ _ | exact Kd.Q_nil _ _ _ _ _ | exact Kd.S_nil _ _ _ _ _, by first | exact Kd.R_nil _ _ _ _ _ | exact Kd.N_nil _ _ _ _ _ | exact Kd.V_nil _ _ _ _ _ | exact Kd.Q_nil _ _ _ _ _ | exact Kd.S_nil _ _ _ _ _, zH HB.out⟩

/-! ### spec_l1Zeros: function 73 -/
def spec_l1Zeros.f (a0 : Int) : Option (ByteArray) := if 0 ≤ a0 then (if (a0 : Int).toNat ≤ 281474976710656 then (some (strOfNums (List.replicate (a0 : Int).toNat 0))) else (none)) else (none)
set_option maxHeartbeats 8000000 in
set_option maxRecDepth 100000 in
theorem spec_l1Zeros.calls (a0 : Int) (r : ByteArray) (w : World) (h : spec_l1Zeros.f a0 = some r) :
  Calls Try.prog 73 #[.int .i64 a0] w fun e w' => e = .returned (.string r) ∧ Below w.heap.size w w' := by
 have HB := aM (Below.refl w.heap.size w); have H : (if 0 ≤ a0 then (if (a0 : Int).toNat ≤ 281474976710656 then (some (strOfNums (List.replicate (a0 : Int).toNat 0))) else (none)) else (none)) = some r := h; clear h
 by_cases c2 : 0 ≤ a0
 ·rw [if_pos c2] at H
  have c2b0 := eq_true c2; have c2b1 : decide (0 ≤ a0) = true := decide_eq_true c2; clear c2
  by_cases c3 : (a0 : Int).toNat ≤ 281474976710656
  ·rw [if_pos c3] at H
   have c3b0 := eq_true c3; have c3b1 : decide ((a0 : Int).toNat ≤ 281474976710656) = true := decide_eq_true c3; clear c3; obtain ⟨y204, hy204⟩ : ∃ y_ : List Int, y_ = (List.replicate (a0 : Int).toNat 0) := ⟨_, rfl⟩
   replace H : (some (strOfNums y204)) = some r := by first | (rw [hy204]; with_reducible exact H) | (have H2_ := (Option.bind_some _ _).symm.trans H; rw [hy204]; with_reducible exact H2_) | (have H2_ := (Option.bind_some _ _).symm.trans H; with_reducible exact H2_) | with_reducible exact H | (rw [hy204]; exact H) | exact H
   have Ny204 := aM hy204; clear hy204; obtain rfl := Option.some.inj H
   go_enter Try.func73, Try.ntmps73
   go_wp2_with (first | ((with_reducible refine gate_dst (N := 4) rfl ?_); refine Kd.R_make (Kd.int .u8) _ 5 rfl (N := 4) rfl 66 _ _ rfl a0 rfl rfl Try.underlying66 (.int .u8 0) 1 info5 rfl (by decide) (by omega) 0 (ok := fun _ => True) (okp := fun _ => True) rfl (fun _ hk => hk) trivial (of_decide_eq_true (by first | (with_reducible assumption) | assumption)) (Nat.le_trans (Nat.mul_le_mul_right _ (of_decide_eq_true (by first | (with_reducible assumption) | assumption) : a0.toNat ≤ 281474976710656)) (by omega)) (Below.refl _ _) (Nat.le_refl _) ?_; intro v205 w4 ho5 hb hg_ hnew_; clear hg_ hnew_; (first | rw [← Ny204.out] at ho5 | (simp only [Int.reduceToNat] at ho5; rw [← Ny204.out] at ho5)); have HO206 := aM (xL ho5 (zZ (zH HB.out))); replace HB := aM (zT (zH HB.out) hb); clear hb ho5; have hcv6 := own_string (P := Try.prog) Try.underlying66 Try.underlying5 Try.underlying9 (Kd.own_of_R HO206.out)))
   go_ret
   exact ⟨eW, zH HB.out⟩
  ·rw [if_neg c3] at H
   exact absurd H (by simp)
 ·rw [if_neg c2] at H
  exact absurd H (by simp)

/-! ### spec_NewDevice: function 35 -/
def spec_NewDevice.l0 : Nat → Int → Int → List ByteArray → Option (List ByteArray × (List (S42)) × Bool)
 | 0, _, _, _ => none
 | k + 1, x0, x5, x210000 => if x5 < x0 then ((spec_l1Zeros.f 8).bind fun t210 => (if x210000.length < 8796093022208 then (spec_NewDevice.l0 k x0 (wrap64 (x5 + 1)) (x210000 ++ [t210])) else (none))) else (some (x210000, ([] : List (S42)), true))
def spec_NewDevice.f (k : Nat) (a0 : Int) : Option (List ByteArray × (List (S42)) × Bool) := (spec_l1In.f a0 1 32).bind fun t208 => (if t208 = true then (spec_NewDevice.l0 k a0 0 ([] : List ByteArray)) else (some (([] : List ByteArray), ([] : List (S42)), false)))
theorem spec_NewDevice.mono_l : ∀ k, (∀ y0 y1 y2, LeO (spec_NewDevice.l0 k y0 y1 y2) (spec_NewDevice.l0 (k + 1) y0 y1 y2))
 | 0 => fun _ _ _ r h => by change none = some r at h; cases h
 | k + 1 => by
  have ih0 := spec_NewDevice.mono_l k
  ·intro y0 y1 y2
   unfold spec_NewDevice.l0
   repeat' first
   | (with_reducible exact ih0 _ _ _)
   | (with_reducible exact LeO.refl _)
   | (with_reducible exact LeO.none _)
   | (with_reducible refine LeO.ite ?_ ?_)
   | (with_reducible refine LeO.bind ?_ (fun _ => ?_))
   | exact ih0 _ _ _
   | exact LeO.none _
   | refine LeO.ite ?_ ?_
   | refine LeO.bind ?_ (fun _ => ?_)
theorem spec_NewDevice.mono : ∀ a0 k, LeO (spec_NewDevice.f k a0) (spec_NewDevice.f (k + 1) a0) := by
 intro a0 k
 have ih0 := spec_NewDevice.mono_l k
 unfold spec_NewDevice.f
 repeat' first
   | (with_reducible exact ih0 _ _ _)
   | (with_reducible exact LeO.refl _)
   | (with_reducible exact LeO.none _)
   | (with_reducible refine LeO.ite ?_ ?_)
   | (with_reducible refine LeO.bind ?_ (fun _ => ?_))
   | exact ih0 _ _ _
   | exact LeO.none _
   | refine LeO.ite ?_ ?_
   | refine LeO.bind ?_ (fun _ => ?_)
set_option maxHeartbeats 8000000 in
set_option maxRecDepth 100000 in
theorem spec_NewDevice.calls (k : Nat) (a0 : Int) (r1 : List ByteArray) (r2 : List (S42)) (r3 : Bool) (w : World) (h : spec_NewDevice.f k a0 = some (r1, r2, r3)) :
  Calls Try.prog 35 #[.int .i64 a0] w fun e w' => ∃ v0_ v1_ : Value, e = .returned (.tuple #[.agg #[v0_, v1_], .bool r3]) ∧ Kd.R Kd.string 9 w' w.heap.size (fun _ => True) v0_ r1 ∧ Kd.R k42 42 w' w.heap.size (fun _ => True) v1_ r2 ∧ Below w.heap.size w w' := by
 have hu30 := Try.underlying30; have HB := aM (Below.refl w.heap.size w)
 have H : ((spec_l1In.f a0 1 32).bind fun t208 => (if t208 = true then (spec_NewDevice.l0 k a0 0 ([] : List ByteArray)) else (some (([] : List ByteArray), ([] : List (S42)), false)))) = some (r1, r2, r3) := h
 clear h; replace H := Option.bind_eq_some_iff.mp H; obtain ⟨t208, A20, H⟩ := H; replace H : (if t208 = true then (spec_NewDevice.l0 k a0 0 ([] : List ByteArray)) else (some (([] : List ByteArray), ([] : List (S42)), false))) = some (r1, r2, r3) := H; have A2 := aM A20; clear A20
 by_cases c3 : t208 = true
 ·subst c3
  have H1 : (spec_NewDevice.l0 k a0 0 ([] : List ByteArray)) = some (r1, r2, r3) := by rw [if_pos rfl] at H; exact H
  clear H; have H := H1; clear H1; have H' := aM H; clear H
  go_enter Try.func35, Try.ntmps35
  go_wp2_with (first | ((with_reducible refine gate_dst (N := 2) rfl ?_); refine box_event ?hg (N := 2) ?hd (cs := #[.slice none 0 0, .slice none 0 0]) (t := 30) ?hr ?_; (case hd => rfl); (case hg => rfl); (case hr => first | (go_simp; done) | (go_simp; rfl)); intro gb207 hg w4 hbox hb; have BK207 := aM (hbox); have GW207 := aM ((by rw [hg]; exact (zZ (zH HB.out)) : w.heap.size ≤ gb207)); have GE207 := aM ((by rw [hg]; exact (zZ (zH HB.out)) : w.heap.size ≤ gb207)); replace HB := aM (zT (zH HB.out) hb); clear hb hbox hg) | ((with_reducible refine gate_callee (f := 53) rfl ?_); refine goesL_ (some 7) rfl rfl Try.func53 (by kernel_rfl) rfl #[.int .i64 a0, .int .i64 1, .int .i64 32] rfl mA ?_; (with_reducible refine (spec_l1In.calls a0 1 32 true _ A2.out).mono ?_); rintro e w' ⟨rfl, ⟨nd, rfl⟩⟩; refine ⟨_, rfl, ?_⟩; (try (rw [drewN_self w4]; generalize hq_ : World.drewN w4 _ = w4; have n0_ : Aside0 (w4.heap[gb207]? = some (.cells #[.slice none 0 0, .slice none 0 0] 30 (0, 0))) := ⟨by rw [← hq_]; exact (yH BK207.out)⟩; have n1_ : Aside0 (Below w.heap.size w w4) := ⟨by rw [← hq_]; exact (zH HB.out)⟩; clear BK207 HB hq_; have BK207 := n0_; have HB := n1_; clear n0_ n1_))) | ((with_reducible refine gate_dst (N := 4) rfl ?_); refine box_event ?hg (N := 4) ?hd (cs := #[.slice none 0 0, .slice none 0 0]) (t := 30) ?hr ?_; (case hd => rfl); (case hg => rfl); (case hr => first | (go_simp; done) | (go_simp; rfl)); intro gb209 hg w5 hbox hb; have BK209 := aM (hbox); have GW209 := aM ((by rw [hg]; exact (zZ (zH HB.out)) : w.heap.size ≤ gb209)); have GE209 := aM ((by rw [hg]; exact (zZ (zH HB.out)) : w.heap.size ≤ gb209)); replace HB := aM (zT (zH HB.out) hb); have NB207_209 := nL BK207.out hg; have NB209_207 := nR BK207.out hg; replace BK207 := yK BK207.out hb; clear hb hbox hg; have hnb6 := NB209_207.out; have hnc6 := NB207_209.out; have hcz7_0 : w5.cell? ⟨gb209, 0, none⟩ = some (.slice none 0 0) := yc BK209.out 0; have hcz7_1 : w5.cell? ⟨gb209, 1, none⟩ = some (.slice none 0 0) := yc BK209.out 1; have hfz7_0 := yZ BK209.out 0; have hfz7_1 := yZ BK209.out 1))
  go_loopg [5] k (fun kq v5 w' => ∃ (x5_1 : Int) (x210000_1 : List ByteArray) (u210000 : Value), v5 = .int .i64 x5_1 ∧ Aside0 (spec_NewDevice.l0 kq a0 x5_1 x210000_1 = some (r1, r2, r3)) ∧ Aside0 (kq ≤ k) ∧ Aside0 (Kd.R Kd.string 9 w' w.heap.size (fun _ => True) u210000 x210000_1) ∧ Aside0 (w'.heap[gb207]? = some (.cells #[(.slice none 0 0), (.slice none 0 0)] 30 (0, 0))) ∧ Aside0 (w'.heap[gb209]? = some (.cells #[u210000, (.slice none 0 0)] 30 (0, 0))) ∧ Aside0 (Below w.heap.size w w'))
  case atStart => exact ⟨(0), (([] : List ByteArray)), (.slice none 0 0), (by first | rfl | (simp; done) | (simp [*]; done)), H', ⟨Nat.le_refl _⟩, ⟨by first | exact Kd.R_nil _ _ _ _ _ | exact Kd.N_nil _ _ _ _ _ | exact Kd.V_nil _ _ _ _ _ | exact Kd.Q_nil _ _ _ _ _ | exact Kd.S_nil _ _ _ _ _⟩, ⟨by refine yW ?_; refine yF ?_ NB207_209.out _; refine yW ?_; refine yF ?_ NB207_209.out _; refine yW ?_; exact BK207.out⟩, ⟨by refine yW ?_; refine yP (cs := #[.slice none 0 0, .slice none 0 0]) ?_ 1 _ rfl; refine yW ?_; refine yP (cs := #[.slice none 0 0, .slice none 0 0]) ?_ 0 _ rfl; refine yW ?_; exact BK209.out⟩, ⟨zH HB.out⟩⟩
  case round =>
   clear H'
   (try clear c3); (try clear hcz7_0 hcz7_1 hfz7_0 hfz7_1)
   obtain ⟨x5_1, x210000_1, u210000, rfl, HA, HK1, p1', BK207, BK209, HB⟩ := hrel
   cases gk with
   | zero => exact absurd HA.out (fun h_ => by change none = some _ at h_; cases h_)
   | succ k1 =>
    have H := HA.out; clear HA
    simp only [spec_NewDevice.l0] at H
    by_cases c8 : x5_1 < a0
    ·rw [if_pos c8] at H
     have c8b0 : decide (x5_1 < a0) = true := decide_eq_true c8; clear c8; replace H := Option.bind_eq_some_iff.mp H; obtain ⟨t210, A90, H⟩ := H; replace H : (if x210000_1.length < 8796093022208 then (spec_NewDevice.l0 k1 a0 (wrap64 (x5_1 + 1)) (x210000_1 ++ [t210])) else (none)) = some (r1, r2, r3) := H; have A9 := aM A90; clear A90
     by_cases c10 : x210000_1.length < 8796093022208
     ·rw [if_pos c10] at H
      have LMc10 := aM c10; clear c10; obtain ⟨y211, hy211⟩ : ∃ y_ : List ByteArray, y_ = (x210000_1 ++ [t210]) := ⟨_, rfl⟩
      replace H : (spec_NewDevice.l0 k1 a0 (wrap64 (x5_1 + 1)) y211) = some (r1, r2, r3) := by first | (rw [hy211]; with_reducible exact H) | (have H2_ := (Option.bind_some _ _).symm.trans H; rw [hy211]; with_reducible exact H2_) | (have H2_ := (Option.bind_some _ _).symm.trans H; with_reducible exact H2_) | with_reducible exact H | (rw [hy211]; exact H) | exact H
      have Ny211 := aM hy211; clear hy211; have H' := aM H; clear H
      try go_wp2
      replace p1' := aM (xD p1'.out); replace BK207 := aM (yD BK207.out); replace BK209 := aM (yD BK209.out); replace HB := aM (zD HB.out)
      refine start_ (n := 7) (S := fun w' => w'.cell? ⟨gb209, 0, none⟩ = some (u210000) ∧ w'.cell? ⟨gb209, 1, none⟩ = some (.slice none 0 0)) (ds := [6]) #[fF,fF,fF,fF,fF,fF,fF] (by kernel_rfl) rfl rfl ⟨yc BK209.out 0, yc BK209.out 1⟩ (fun hHeld => ?_)
      generalize wr.drew = w11 at p1' BK207 BK209 HB hHeld ⊢
      refine pure_ (i := 0) (N := some 16) (v := ?_) (a' := ?_) #[tT,fF,fF,fF,fF,fF,fF] rfl rfl (by kernel_rfl) (fun _ _ _ h => h) (Or.inl ⟨by rfl, ?_⟩) ?_ ?_
      rotate_left
      ·intro w'
       go_simp
       with_reducible rfl
      rotate_left
      ·simp only [Act.put, qA, qB, qC, i64_w, i32_w]
       rfl
      refine take_ (i := 1) (N := some 17) (v := ?_) (a' := ?_) #[tT,tT,fF,fF,fF,fF,fF] rfl rfl (by kernel_rfl) (fun _ _ _ h => h) (Or.inl ⟨by rfl, ?_⟩) hHeld ?_ ?_
      rotate_left
      ·rintro w' ⟨s0, s1⟩
       go_simp
       with_reducible rfl
      rotate_left
      ·simp only [Act.put, qA, qB, qC, i64_w, i32_w]
       rfl
      refine one_ (i := 2) (N := some 18) #[tT,tT,tT,fF,fF,fF,fF] rfl rfl (by kernel_rfl) (by decide) (fun K hK => ?_)
      refine gS Try.func73 (by kernel_rfl) rfl #[.int .i64 8] (by rfl) rfl rfl ?_
      with_reducible refine (spec_l1Zeros.calls 8 t210 _ A9.out).mono ?_
      rintro e w12 ⟨rfl, hb⟩
      refine ⟨_, rfl, ?_⟩
      replace p1' := xK p1'.out hb; replace BK207 := yK BK207.out hb; replace BK209 := yK BK209.out hb; replace HB := aM (zT (zH HB.out) hb)
      (try clear hb)
      refine hK.out _ _ ⟨yc BK209.out 0, yc BK209.out 1⟩ (fun hHeld => ?_)
      clear hK K; refine norm_ (a' := ?_) ?_ ?_; rotate_left
      ·show Act.put _ (some 18) _ = _
       simp only [Act.put, qA, qB, qC, i64_w, i32_w]
       rfl
      refine one_ (i := 3) (N := some 19) #[tT,tT,tT,tT,fF,fF,fF] rfl rfl (by kernel_rfl) (by decide) (fun K hK => ?_)
      refine value_ (w1 := ?_) (v := ?_) (by rfl) rfl ?_ ?_
      rotate_left 2
      ·go_simp
       constructor
       ·rfl
       ·rfl
      refine hK.out _ _ ⟨(yC (yA BK209.out _) 0).trans rfl, (yC (yA BK209.out _) 1).trans rfl⟩ (fun hHeld => ?_)
      clear hK K; refine norm_ (a' := ?_) ?_ ?_; rotate_left
      ·show Act.put _ (some 19) _ = _
       simp only [Act.put, qA, qB, qC, i64_w, i32_w]
       rfl
      refine one_ (i := 4) (N := some 20) #[tT,tT,tT,tT,tT,fF,fF] rfl rfl (by kernel_rfl) (by decide) (fun K hK => ?_)
      refine Kd.R_append_step Kd.string (w0 := w) w.heap.size (by rfl) (.tmp 17) (.tmp 19) 22 9 (.string ⟨#[]⟩) 16 rfl Try.underlying22 info9 rfl (by decide) (by omega) u210000 x210000_1 t210 [.string t210] (fun _ => True) (fun _ => False) rfl rfl ?aP (fun _ hk => hk.elim) ?aF ?aO ?aB ?aS ?aL ?_
      (case aP => exact rfl)
      (case aB => exact (zH HB.out))
      (case aF => exact (fun _ _ => trivial))
      (case aO => exact (xH p1'.out))
      (case aS => exact (zZ (zH HB.out)))
      (case aL => have := LMc10.out; omega)
      intro v212 w13 ho hb hg hat
      rw [← Ny211.out] at ho
      replace BK207 := aM (blk_grown (g := gb207) (o := .cells #[.slice none 0 0, .slice none 0 0] 30 (0, 0)) (yH BK207.out) hg (Kd.R_ne p1'.out BK207.out (by decide)))
      replace BK209 := aM (blk_grown (g := gb209) (o := .cells #[u210000, .slice none 0 0] 30 (0, 0)) (yH BK209.out) hg (Kd.R_ne p1'.out BK209.out (by decide)))
      replace HB := aM (hb); have HO213 := aM (ho); clear p1'; clear ho hb hg hat; obtain ⟨Ao14, co14, eo14⟩ := Kd.R_slice HO213.out
      (first | subst eo14 | obtain ⟨rfl, rfl⟩ := eI eo14)
      refine hK.out _ _ ⟨yc BK209.out 0, yc BK209.out 1⟩ (fun hHeld => ?_)
      clear hK K; refine norm_ (a' := ?_) ?_ ?_; rotate_left
      ·show Act.put _ (some 20) _ = _
       simp only [Act.put, qA, qB, qC, i64_w, i32_w]
       rfl
      refine pure_ (i := 5) (N := some 21) (v := ?_) (a' := ?_) #[tT,tT,tT,tT,tT,tT,fF] rfl rfl (by kernel_rfl) (fun _ _ _ h => h) (Or.inl ⟨by rfl, ?_⟩) ?_ ?_
      rotate_left
      ·intro w'
       go_simp
       with_reducible rfl
      rotate_left
      ·simp only [Act.put, qA, qB, qC, i64_w, i32_w]
       rfl
      refine last_ (i := 6) (N := none) #[tT,tT,tT,tT,tT,tT,tT] rfl rfl (by kernel_rfl) (by decide) (fun K hK => ?_)
      have hs15 : w13.cell? ⟨gb209, 0, none⟩ = some (u210000) := yc BK209.out 0; have hfs15 := yZ BK209.out 0; have hns15_0 := NB207_209.out; have hms15_0 := NB209_207.out
      refine skip_ (w1 := ?_) (by rfl) rfl ?_ ?_
      rotate_left
      ·go_simp
       rfl
      refine hK.out _ _ ?_
      clear hK K
      refine done_ (by kernel_rfl) ?_
      try go_wp2
      go_roundg k1
      case measure => have := HK1.out; omega
      case rel => exact ⟨(wrap64 (x5_1 + 1)), (y211), (.slice Ao14 y211.length co14), (by first | rfl | (simp; done) | (simp [*]; done)), H', ⟨by have := HK1.out; omega⟩, ⟨xH (xM (xF (p := ⟨gb209, 0, none⟩) (xT HO213.out BK209.out (by decide)) (fun _ hk => hk.2) (.slice Ao14 y211.length co14)) (fun _ hk => trivial))⟩, ⟨by refine yW ?_; refine yF ?_ NB207_209.out _; refine yW ?_; exact BK207.out⟩, ⟨by refine yW ?_; refine yP (cs := #[u210000, .slice none 0 0]) ?_ 0 _ rfl; refine yW ?_; exact BK209.out⟩, ⟨zH HB.out⟩⟩
     ·rw [if_neg c10] at H
      exact absurd H (by simp)
    ·rw [if_neg c8] at H
     have c8b0 : decide (x5_1 < a0) = false := decide_eq_false c8; clear c8
     simp only [Option.some.injEq, Prod.mk.injEq] at H
     obtain ⟨rfl, rfl, rfl⟩ := H; have hnb16 := NB209_207.out; have hnc16 := NB207_209.out; have hcz17_0 : wr.cell? ⟨gb209, 0, none⟩ = some (u210000) := yc BK209.out 0; have hcz17_1 : wr.cell? ⟨gb209, 1, none⟩ = some (.slice none 0 0) := yc BK209.out 1; have hfz17_0 := yZ BK209.out 0; have hfz17_1 := yZ BK209.out 1; obtain ⟨Ao18, co18, eo18⟩ := Kd.R_slice p1'.out
     subst eo18
     have hcz19_0 : wr.cell? ⟨gb207, 0, none⟩ = some (.slice none 0 0) := yc BK207.out 0; have hcz19_1 : wr.cell? ⟨gb207, 1, none⟩ = some (.slice none 0 0) := yc BK207.out 1; have hfz19_0 := yZ BK207.out 0; have hfz19_1 := yZ BK207.out 1
     go_wp2
     refine bodyPost_ret (results_ct rfl _ _ gb207 30 #[.slice Ao18 x210000_1.length co18, .slice none 0 0] (0, 0) _ rfl (by refine yW ?_; refine yP (cs := #[.slice Ao18 x210000_1.length co18, .slice none 0 0]) ?_ 1 _ rfl; refine yW ?_; refine yP (cs := #[.slice none 0 0, .slice none 0 0]) ?_ 0 _ rfl; refine yW ?_; exact BK207.out) Try.underlying30 rfl (by kernel_rfl)) rfl ?_
     exact ⟨_, _, eW, xH (xM (xF (p := ⟨gb207, 1, none⟩) (xF (p := ⟨gb207, 0, none⟩) (xT p1'.out BK207.out (by decide)) (fun _ hk => hk.2) (.slice Ao18 x210000_1.length co18)) (fun _ hk => hk.2) (.slice none 0 0)) (fun _ hk => trivial)), by first | exact Kd.R_nil _ _ _ _ _ | exact Kd.N_nil _ _ _ _ _ | exact Kd.V_nil _ _ _ _ _ | exact Kd.Q_nil _ _ _ _ _ | exact Kd.S_nil _ _ _ _ _, zH HB.out⟩
 ·replace c3 := Bool.eq_false_iff.mpr c3
  subst c3
  have H1 : (some (([] : List ByteArray), ([] : List (S42)), false)) = some (r1, r2, r3) := by rw [if_neg (show ¬ (false = true) by decide)] at H; exact H
  clear H; have H := H1; clear H1
  simp only [Option.some.injEq, Prod.mk.injEq] at H
  obtain ⟨rfl, rfl, rfl⟩ := H
  go_enter Try.func35, Try.ntmps35
  go_wp2_with (first | ((with_reducible refine gate_dst (N := 2) rfl ?_); refine box_event ?hg (N := 2) ?hd (cs := #[.slice none 0 0, .slice none 0 0]) (t := 30) ?hr ?_; (case hd => rfl); (case hg => rfl); (case hr => first | (go_simp; done) | (go_simp; rfl)); intro gb207 hg w20 hbox hb; have BK207 := aM (hbox); have GW207 := aM ((by rw [hg]; exact (zZ (zH HB.out)) : w.heap.size ≤ gb207)); have GE207 := aM ((by rw [hg]; exact (zZ (zH HB.out)) : w.heap.size ≤ gb207)); replace HB := aM (zT (zH HB.out) hb); clear hb hbox hg) | ((with_reducible refine gate_callee (f := 53) rfl ?_); refine goesL_ (some 7) rfl rfl Try.func53 (by kernel_rfl) rfl #[.int .i64 a0, .int .i64 1, .int .i64 32] rfl mA ?_; (with_reducible refine (spec_l1In.calls a0 1 32 false _ A2.out).mono ?_); rintro e w' ⟨rfl, ⟨nd, rfl⟩⟩; refine ⟨_, rfl, ?_⟩; (try (rw [drewN_self w20]; generalize hq_ : World.drewN w20 _ = w20; have n0_ : Aside0 (w20.heap[gb207]? = some (.cells #[.slice none 0 0, .slice none 0 0] 30 (0, 0))) := ⟨by rw [← hq_]; exact (yH BK207.out)⟩; have n1_ : Aside0 (Below w.heap.size w w20) := ⟨by rw [← hq_]; exact (zH HB.out)⟩; clear BK207 HB hq_; have BK207 := n0_; have HB := n1_; clear n0_ n1_)); have hcz21_0 : w20.cell? ⟨gb207, 0, none⟩ = some (.slice none 0 0) := yc BK207.out 0; have hcz21_1 : w20.cell? ⟨gb207, 1, none⟩ = some (.slice none 0 0) := yc BK207.out 1; have hfz21_0 := yZ BK207.out 0; have hfz21_1 := yZ BK207.out 1))
  refine bodyPost_ret (results_ct rfl _ _ gb207 30 #[.slice none 0 0, .slice none 0 0] (0, 0) _ rfl (by refine yW ?_; refine yP (cs := #[.slice none 0 0, .slice none 0 0]) ?_ 1 _ rfl; refine yW ?_; refine yP (cs := #[.slice none 0 0, .slice none 0 0]) ?_ 0 _ rfl; refine yW ?_; exact BK207.out) Try.underlying30 rfl (by kernel_rfl)) rfl ?_
  exact ⟨_, _, eW, by first | exact Kd.R_nil _ _ _ _ _ | exact Kd.N_nil _ _ _ _ _ | exact Kd.V_nil _ _ _ _ _ | exact Kd.Q_nil _ _ _ _ _ | exact Kd.S_nil _ _ _ _ _, by first | exact Kd.R_nil _ _ _ _ _ | exact Kd.N_nil _ _ _ _ _ | exact Kd.V_nil _ _ _ _ _ | exact Kd.Q_nil _ _ _ _ _ | exact Kd.S_nil _ _ _ _ _, zH HB.out⟩

/-- A state of type 97 at block g of W; what its slices lead to came in by w0. -/
def IsS97 (w0 W : World) (g : Nat) (f0 : List Int) (f1 : Int) (f2 : Int) : Prop := ∃ A0 c0, W.heap[g]? = some (.cells #[.slice A0 f0.length c0, .int .i64 f1, .int .u64 f2] 97 (0, 0)) ∧ w0.heap.size ≤ g ∧ Kd.C (Kd.int .u8) w0 A0 f0.length f0
theorem IsS97.grown {w0 W : World} {g : Nat} {f0 : List Int} {f1 : Int} {f2 : Int} {W1 : World} {row : Option Nat} (h : IsS97 w0 W g f0 f1 f2) (hw : W.grownBy W1 row) (hne : some g ≠ row) : IsS97 w0 W1 g f0 f1 f2 := by
 obtain ⟨A0, c0, hb, hg, hr0⟩ := h
 exact ⟨A0, c0, blk_grown hb hw hne, hg, hr0⟩
theorem IsS97.own_neN {w0 W : World} {g : Nat} {f0 : List Int} {f1 : Int} {f2 : Int} {α : Type} {d : Kd α} {e : Nat} {base : Nat} {ok : Nat → Prop} {v : Value} {xs : List α} (h : IsS97 w0 W g f0 f1 f2) (ho : Kd.N d e W base ok v xs) (ht : e ≠ 97) : some g ≠ v.ownBlock := by
 obtain ⟨A0, c0, hb, hg, hr0⟩ := h
 exact Kd.N_ne ho hb ht
theorem IsS97.fresh {w0 W : World} {g : Nat} {f0 : List Int} {f1 : Int} {f2 : Int} (h : IsS97 w0 W g f0 f1 f2) : ∀ k, W.heap.size ≤ k → k ≠ g := by
 obtain ⟨A0, c0, hb, hg, hr0⟩ := h
 exact Kd.freshB hb
theorem IsS97.kept {w0 W : World} {g : Nat} {f0 : List Int} {f1 : Int} {f2 : Int} {W1 : World} {S : Nat → Prop} (h : IsS97 w0 W g f0 f1 f2) (hk : Kept W W1 S) (hne : ¬ S g) : IsS97 w0 W1 g f0 f1 f2 := by
 obtain ⟨A0, c0, hb, hg, hr0⟩ := h
 exact ⟨A0, c0, blk_kept hb hk hne, hg, hr0⟩
theorem IsS97.below {w0 W : World} {g : Nat} {f0 : List Int} {f1 : Int} {f2 : Int} {W1 : World} (h : IsS97 w0 W g f0 f1 f2) (hw : Below W.heap.size W W1) : IsS97 w0 W1 g f0 f1 f2 := h.grown (grown_of_below hw none) (by simp)
theorem IsS97.alloc {w0 W : World} {g : Nat} {f0 : List Int} {f1 : Int} {f2 : Int} (h : IsS97 w0 W g f0 f1 f2) (o : Obj) : IsS97 w0 (W.alloc o) g f0 f1 f2 := h.below (zA (Below.refl _ _) o)
theorem IsS97.drewN {w0 W : World} {g : Nat} {f0 : List Int} {f1 : Int} {f2 : Int} (h : IsS97 w0 W g f0 f1 f2) (m : Nat) : IsS97 w0 (W.drewN m) g f0 f1 f2 := h
theorem IsS97.drew {w0 W : World} {g : Nat} {f0 : List Int} {f1 : Int} {f2 : Int} (h : IsS97 w0 W g f0 f1 f2) : IsS97 w0 W.drew g f0 f1 f2 := h
theorem IsS97.at_ {w0 W : World} {g : Nat} {f0 : List Int} {f1 : Int} {f2 : Int} {w' : World} {m : Nat} (hq : W.drewN m = w') (h : IsS97 w0 W g f0 f1 f2) : IsS97 w0 w' g f0 f1 f2 := by subst hq; exact IsS97.drewN h m
theorem IsS97.apart {w0 W : World} {g : Nat} {f0 : List Int} {f1 : Int} {f2 : Int} {α : Type} {d : Kd α} {e : Nat} {base : Nat} {ok : Nat → Prop} {v : Value} {xs : List α} (h : IsS97 w0 W g f0 f1 f2) (ho : d.R e W base ok v xs) (ht : ∀ q, q ∈ e :: d.E → q ≠ 97) : d.R e W base (fun k => ok k ∧ k ≠ g) v xs := by
 obtain ⟨A0, c0, hb, hg, hr0⟩ := h
 exact xT ho hb ht
theorem IsS97.own_ne {w0 W : World} {g : Nat} {f0 : List Int} {f1 : Int} {f2 : Int} {α : Type} {d : Kd α} {e : Nat} {base : Nat} {ok : Nat → Prop} {v : Value} {xs : List α} (h : IsS97 w0 W g f0 f1 f2) (ho : d.R e W base ok v xs) (ht : e ≠ 97) : some g ≠ v.ownBlock := by
 obtain ⟨A0, c0, hb, hg, hr0⟩ := h
 exact Kd.R_ne ho hb ht
theorem IsS97.apartQ {w0 W : World} {g : Nat} {f0 : List Int} {f1 : Int} {f2 : Int} {α : Type} {d : Kd α} {e : Nat} {base : Nat} {ok : Nat → Prop} {v : Value} {xs : List α} (h : IsS97 w0 W g f0 f1 f2) (ho : d.Q e W base ok v xs) (ht : ∀ q, q ∈ e :: d.E → q ≠ 97) : d.Q e W base (fun k => ok k ∧ k ≠ g) v xs := by
 obtain ⟨A0, c0, hb, hg, hr0⟩ := h
 exact Kd.Q_types ho hb ht
theorem IsS97.own_neQ {w0 W : World} {g : Nat} {f0 : List Int} {f1 : Int} {f2 : Int} {α : Type} {d : Kd α} {e : Nat} {base : Nat} {ok : Nat → Prop} {v : Value} {xs : List α} (h : IsS97 w0 W g f0 f1 f2) (ho : d.Q e W base ok v xs) (ht : e ≠ 97) : some g ≠ v.ownBlock := by
 obtain ⟨A0, c0, hb, hg, hr0⟩ := h
 exact Kd.Q_ne ho hb ht
theorem IsS97.apartS {w0 W : World} {g : Nat} {f0 : List Int} {f1 : Int} {f2 : Int} {α : Type} {d : Kd α} {e : Nat} {base : Nat} {ok : Nat → Prop} {v : Value} {xs : List α} (h : IsS97 w0 W g f0 f1 f2) (ho : d.S e W base ok v xs) (ht : ∀ q, q ∈ e :: d.E → q ≠ 97) : d.S e W base (fun k => ok k ∧ k ≠ g) v xs := by
 obtain ⟨A0, c0, hb, hg, hr0⟩ := h
 exact Kd.S_types ho hb ht
theorem IsS97.own_neS {w0 W : World} {g : Nat} {f0 : List Int} {f1 : Int} {f2 : Int} {α : Type} {d : Kd α} {e : Nat} {base : Nat} {ok : Nat → Prop} {v : Value} {xs : List α} (h : IsS97 w0 W g f0 f1 f2) (ho : d.S e W base ok v xs) (ht : e ≠ 97) : some g ≠ v.ownBlock := by
 obtain ⟨A0, c0, hb, hg, hr0⟩ := h
 exact Kd.S_ne ho hb ht
theorem IsS97.lt {w0 W : World} {g : Nat} {f0 : List Int} {f1 : Int} {f2 : Int} (h : IsS97 w0 W g f0 f1 f2) : g < W.heap.size := by
 obtain ⟨A0, c0, hb, hg, hr0⟩ := h
 exact blk_lt hb
theorem IsS97.ge {w0 W : World} {g : Nat} {f0 : List Int} {f1 : Int} {f2 : Int} (h : IsS97 w0 W g f0 f1 f2) : w0.heap.size ≤ g := by
 obtain ⟨A0, c0, hb, hg, hr0⟩ := h
 exact hg
theorem IsS97.ne_blk {w0 W : World} {g : Nat} {f0 : List Int} {f1 : Int} {f2 : Int} {a : Nat} {cs : Array Value} {t : TypeId} {fr : Nat × Nat} (h : IsS97 w0 W g f0 f1 f2) (hb2 : W.heap[a]? = some (.cells cs t fr)) (ht : t ≠ 97) : g ≠ a := by
 obtain ⟨A0, c0, hb, hg, hr0⟩ := h
 rintro rfl
 rw [hb] at hb2
 injection hb2 with hb2
 injection hb2 with _ ht2
 exact ht ht2.symm
theorem IsS97.far {w0 W : World} {g : Nat} {f0 : List Int} {f1 : Int} {f2 : Int} {p : Addr} (h : IsS97 w0 W g f0 f1 f2) (hne : g ≠ p.block) (u : Value) : IsS97 w0 (W.setCell p u) g f0 f1 f2 := by
 obtain ⟨A0, c0, hb, hg, hr0⟩ := h
 exact ⟨A0, c0, yF hb hne u, hg, hr0⟩
theorem cellS97_0 {W : World} {g : Nat} {A0 : Option Addr} {c0 : Nat} {f0 : List Int} {f1 : Int} {f2 : Int} (h : W.heap[g]? = some (.cells #[.slice A0 f0.length c0, .int .i64 f1, .int .u64 f2] 97 (0, 0))) : W.cell? ⟨g, 0, none⟩ = some (.slice A0 f0.length c0) := (yC h 0).trans rfl
theorem cellS97_1 {W : World} {g : Nat} {A0 : Option Addr} {c0 : Nat} {f0 : List Int} {f1 : Int} {f2 : Int} (h : W.heap[g]? = some (.cells #[.slice A0 f0.length c0, .int .i64 f1, .int .u64 f2] 97 (0, 0))) : W.cell? ⟨g, 1, none⟩ = some (.int .i64 f1) := (yC h 1).trans rfl
theorem IsS97.set_1 {w0 W : World} {g : Nat} {f0 : List Int} {f1 : Int} {f2 : Int} (h : IsS97 w0 W g f0 f1 f2) (x : Int) : IsS97 w0 (W.setCell ⟨g, 1, none⟩ (.int .i64 x)) g f0 x f2 := by
 obtain ⟨A0, c0, hb, hg, hr0⟩ := h
 exact ⟨A0, c0, by simpa using blk_set hb 1 (.int .i64 x), hg, hr0⟩
theorem cellS97_2 {W : World} {g : Nat} {A0 : Option Addr} {c0 : Nat} {f0 : List Int} {f1 : Int} {f2 : Int} (h : W.heap[g]? = some (.cells #[.slice A0 f0.length c0, .int .i64 f1, .int .u64 f2] 97 (0, 0))) : W.cell? ⟨g, 2, none⟩ = some (.int .u64 f2) := (yC h 2).trans rfl
theorem IsS97.set_2 {w0 W : World} {g : Nat} {f0 : List Int} {f1 : Int} {f2 : Int} (h : IsS97 w0 W g f0 f1 f2) (x : Int) : IsS97 w0 (W.setCell ⟨g, 2, none⟩ (.int .u64 x)) g f0 f1 x := by
 obtain ⟨A0, c0, hb, hg, hr0⟩ := h
 exact ⟨A0, c0, by simpa using blk_set hb 2 (.int .u64 x), hg, hr0⟩
theorem IsS97.new (w0 W : World) (A0 : Option Addr) (c0 : Nat) (f0 : List Int) (f1 : Int) (f2 : Int) (hB : Below w0.heap.size w0 W) (hr0 : Kd.C (Kd.int .u8) w0 A0 f0.length f0) : IsS97 w0 (W.alloc (.cells #[.slice A0 f0.length c0, .int .i64 f1, .int .u64 f2] 97)) W.heap.size f0 f1 f2 := ⟨A0, c0, by simpa using heap_alloc_new W _, hB.size, hr0⟩

/-! ### spec_l1Cur_next: function 114 -/
def spec_l1Cur_next.f (s0_0 : List Int) (s0_1 : Int) (s0_2 : Int) : Option (Int × Int × Int) := if s0_1 < (s0_0.length : Int) then (if 0 ≤ s0_1 then (if (wrap64 (s0_1 + 1)) ≤ (s0_0.length : Int) then (some (wrap64 (rd s0_0 s0_1), wrap64 (s0_1 + 1), IntKind.u64.wrap ((IntKind.u64.wrap ((IntKind.u64.wrap (s0_2 * 6364136223846793005)) + (IntKind.u64.wrap (wrap64 (rd s0_0 s0_1))))) + 1442695040888963407))) else (some (wrap64 (Go.bits .and .u64 ((IntKind.u64.wrap ((IntKind.u64.wrap ((IntKind.u64.wrap (s0_2 * 6364136223846793005)) + (IntKind.u64.wrap (wrap64 (rd s0_0 s0_1))))) + 1442695040888963407)) / 1099511627776) 255), wrap64 (s0_1 + 1), IntKind.u64.wrap ((IntKind.u64.wrap ((IntKind.u64.wrap (s0_2 * 6364136223846793005)) + (IntKind.u64.wrap (wrap64 (rd s0_0 s0_1))))) + 1442695040888963407)))) else (none)) else (if (wrap64 (s0_1 + 1)) ≤ (s0_0.length : Int) then (some (0, wrap64 (s0_1 + 1), IntKind.u64.wrap ((IntKind.u64.wrap ((IntKind.u64.wrap (s0_2 * 6364136223846793005)) + 0)) + 1442695040888963407))) else (some (wrap64 (Go.bits .and .u64 ((IntKind.u64.wrap ((IntKind.u64.wrap ((IntKind.u64.wrap (s0_2 * 6364136223846793005)) + 0)) + 1442695040888963407)) / 1099511627776) 255), wrap64 (s0_1 + 1), IntKind.u64.wrap ((IntKind.u64.wrap ((IntKind.u64.wrap (s0_2 * 6364136223846793005)) + 0)) + 1442695040888963407))))
set_option maxHeartbeats 8000000 in
set_option maxRecDepth 100000 in
theorem spec_l1Cur_next.calls (g : Nat) (s0_0 : List Int) (s0_1 : Int) (s0_2 : Int) (r1 : Int) (r2 : Int) (r3 : Int) (w0 w : World) (hI : IsS97 w0 w g s0_0 s0_1 s0_2) (hB : Below w0.heap.size w0 w) (h : spec_l1Cur_next.f s0_0 s0_1 s0_2 = some (r1, r2, r3)) :
  Calls Try.prog 114 #[.pointer (some ⟨g, 0, none⟩)] w fun e w' => e = .returned (.int .i64 r1) ∧ IsS97 w0 w' g s0_0 r2 r3 ∧ Below w0.heap.size w0 w' ∧ KeepBut w w' g none := by
 have HI0 := aM hI; have HK := aM (KeepBut.refl w g none); have HL := aM hB.size; clear hI; have HW0 := aM hB.size; have HB := aM hB; clear hB; have H : (if s0_1 < (s0_0.length : Int) then (if 0 ≤ s0_1 then (if (wrap64 (s0_1 + 1)) ≤ (s0_0.length : Int) then (some (wrap64 (rd s0_0 s0_1), wrap64 (s0_1 + 1), IntKind.u64.wrap ((IntKind.u64.wrap ((IntKind.u64.wrap (s0_2 * 6364136223846793005)) + (IntKind.u64.wrap (wrap64 (rd s0_0 s0_1))))) + 1442695040888963407))) else (some (wrap64 (Go.bits .and .u64 ((IntKind.u64.wrap ((IntKind.u64.wrap ((IntKind.u64.wrap (s0_2 * 6364136223846793005)) + (IntKind.u64.wrap (wrap64 (rd s0_0 s0_1))))) + 1442695040888963407)) / 1099511627776) 255), wrap64 (s0_1 + 1), IntKind.u64.wrap ((IntKind.u64.wrap ((IntKind.u64.wrap (s0_2 * 6364136223846793005)) + (IntKind.u64.wrap (wrap64 (rd s0_0 s0_1))))) + 1442695040888963407)))) else (none)) else (if (wrap64 (s0_1 + 1)) ≤ (s0_0.length : Int) then (some (0, wrap64 (s0_1 + 1), IntKind.u64.wrap ((IntKind.u64.wrap ((IntKind.u64.wrap (s0_2 * 6364136223846793005)) + 0)) + 1442695040888963407))) else (some (wrap64 (Go.bits .and .u64 ((IntKind.u64.wrap ((IntKind.u64.wrap ((IntKind.u64.wrap (s0_2 * 6364136223846793005)) + 0)) + 1442695040888963407)) / 1099511627776) 255), wrap64 (s0_1 + 1), IntKind.u64.wrap ((IntKind.u64.wrap ((IntKind.u64.wrap (s0_2 * 6364136223846793005)) + 0)) + 1442695040888963407))))) = some (r1, r2, r3) := h; clear h
 by_cases c2 : s0_1 < (s0_0.length : Int)
 ·rw [if_pos c2] at H
  have c2b0 : decide (s0_1 < (s0_0.length : Int)) = true := decide_eq_true c2; clear c2
  by_cases c3 : 0 ≤ s0_1
  ·rw [if_pos c3] at H
   have c3b0 : decide (0 ≤ s0_1) = true := decide_eq_true c3; clear c3
   by_cases c4 : (wrap64 (s0_1 + 1)) ≤ (s0_0.length : Int)
   ·rw [if_pos c4] at H
    have c4b0 : decide ((wrap64 (s0_1 + 1)) ≤ (s0_0.length : Int)) = true := decide_eq_true c4; clear c4
    simp only [Option.some.injEq, Prod.mk.injEq] at H
    obtain ⟨rfl, rfl, rfl⟩ := H; obtain ⟨ASz5_0, cSz5_0, HGz5, hgz5, HSz5_0⟩ := HI0.out; have hcz5_0 := cellS97_0 HGz5; have hcz5_1 := cellS97_1 HGz5; have hcz5_2 := cellS97_2 HGz5; have hfz5_1 := yZ HGz5 1; have hfz5_2 := yZ HGz5 2; clear HGz5 hgz5
    have p214 : 0 ≤ (s0_1 : Int) := of_decide_eq_true (by first | (with_reducible assumption) | assumption)
    have q214 : s0_1 < (s0_0.length : Int) := of_decide_eq_true (by first | (with_reducible assumption) | assumption)
    obtain ⟨ad214, e214, hx214_0⟩ := Kd.at_int HSz5_0 s0_1 p214 q214
    cases e214
    replace hx214_0 := pw_cell_below HB.out hx214_0; replace p214 := eq_true p214; replace q214 := eq_true q214
    go_enter Try.func114, Try.ntmps114
    go_wp2
    repeat (go_quiet (fail); try go_wp2)
    go_ret
    exact ⟨eW, by (try simp only [Int.add_zero]); repeat (first | (with_reducible first | exact HI0.out | apply IsS97.alloc | apply IsS97.drewN | apply IsS97.drew | apply IsS97.set_1 | apply IsS97.set_2) | exact HI0.out), by repeat (first | (with_reducible first | exact HB.out | apply zA | apply zN | apply zD | refine zS ?_ (IsS97.ge HI0.out)) | exact HB.out), by repeat (first | (with_reducible first | exact HK.out | apply KeepBut.set_ | apply keep_drewN | apply keep_drew | apply keep_alloc) | exact HK.out)⟩
   ·rw [if_neg c4] at H
    have c4b0 : decide ((wrap64 (s0_1 + 1)) ≤ (s0_0.length : Int)) = false := decide_eq_false c4; clear c4
    simp only [Option.some.injEq, Prod.mk.injEq] at H
    obtain ⟨rfl, rfl, rfl⟩ := H; obtain ⟨ASz6_0, cSz6_0, HGz6, hgz6, HSz6_0⟩ := HI0.out; have hcz6_0 := cellS97_0 HGz6; have hcz6_1 := cellS97_1 HGz6; have hcz6_2 := cellS97_2 HGz6; have hfz6_1 := yZ HGz6 1; have hfz6_2 := yZ HGz6 2; clear HGz6 hgz6
    have p214 : 0 ≤ (s0_1 : Int) := of_decide_eq_true (by first | (with_reducible assumption) | assumption)
    have q214 : s0_1 < (s0_0.length : Int) := of_decide_eq_true (by first | (with_reducible assumption) | assumption)
    obtain ⟨ad214, e214, hx214_0⟩ := Kd.at_int HSz6_0 s0_1 p214 q214
    cases e214
    replace hx214_0 := pw_cell_below HB.out hx214_0; replace p214 := eq_true p214; replace q214 := eq_true q214
    go_enter Try.func114, Try.ntmps114
    go_wp2
    repeat (go_quiet (fail); try go_wp2)
    go_ret
    exact ⟨eW, by (try simp only [Int.add_zero]); repeat (first | (with_reducible first | exact HI0.out | apply IsS97.alloc | apply IsS97.drewN | apply IsS97.drew | apply IsS97.set_1 | apply IsS97.set_2) | exact HI0.out), by repeat (first | (with_reducible first | exact HB.out | apply zA | apply zN | apply zD | refine zS ?_ (IsS97.ge HI0.out)) | exact HB.out), by repeat (first | (with_reducible first | exact HK.out | apply KeepBut.set_ | apply keep_drewN | apply keep_drew | apply keep_alloc) | exact HK.out)⟩
  ·rw [if_neg c3] at H
   exact absurd H (by simp)
 ·rw [if_neg c2] at H
  have c2b0 : decide (s0_1 < (s0_0.length : Int)) = false := decide_eq_false c2; clear c2
  by_cases c7 : (wrap64 (s0_1 + 1)) ≤ (s0_0.length : Int)
  ·rw [if_pos c7] at H
   have c7b0 : decide ((wrap64 (s0_1 + 1)) ≤ (s0_0.length : Int)) = true := decide_eq_true c7; clear c7
   simp only [Option.some.injEq, Prod.mk.injEq] at H
   obtain ⟨rfl, rfl, rfl⟩ := H; obtain ⟨ASz8_0, cSz8_0, HGz8, hgz8, HSz8_0⟩ := HI0.out; have hcz8_0 := cellS97_0 HGz8; have hcz8_1 := cellS97_1 HGz8; have hcz8_2 := cellS97_2 HGz8; have hfz8_1 := yZ HGz8 1; have hfz8_2 := yZ HGz8 2; clear HGz8 hgz8
   go_enter Try.func114, Try.ntmps114
   go_wp2
   repeat (go_quiet (fail); try go_wp2)
   go_ret
   exact ⟨eW, by (try simp only [Int.add_zero]); repeat (first | (with_reducible first | exact HI0.out | apply IsS97.alloc | apply IsS97.drewN | apply IsS97.drew | apply IsS97.set_1 | apply IsS97.set_2) | exact HI0.out), by repeat (first | (with_reducible first | exact HB.out | apply zA | apply zN | apply zD | refine zS ?_ (IsS97.ge HI0.out)) | exact HB.out), by repeat (first | (with_reducible first | exact HK.out | apply KeepBut.set_ | apply keep_drewN | apply keep_drew | apply keep_alloc) | exact HK.out)⟩
  ·rw [if_neg c7] at H
   have c7b0 : decide ((wrap64 (s0_1 + 1)) ≤ (s0_0.length : Int)) = false := decide_eq_false c7; clear c7
   simp only [Option.some.injEq, Prod.mk.injEq] at H
   obtain ⟨rfl, rfl, rfl⟩ := H; obtain ⟨ASz9_0, cSz9_0, HGz9, hgz9, HSz9_0⟩ := HI0.out; have hcz9_0 := cellS97_0 HGz9; have hcz9_1 := cellS97_1 HGz9; have hcz9_2 := cellS97_2 HGz9; have hfz9_1 := yZ HGz9 1; have hfz9_2 := yZ HGz9 2; clear HGz9 hgz9
   go_enter Try.func114, Try.ntmps114
   go_wp2
   repeat (go_quiet (fail); try go_wp2)
   go_ret
   exact ⟨eW, by (try simp only [Int.add_zero]); repeat (first | (with_reducible first | exact HI0.out | apply IsS97.alloc | apply IsS97.drewN | apply IsS97.drew | apply IsS97.set_1 | apply IsS97.set_2) | exact HI0.out), by repeat (first | (with_reducible first | exact HB.out | apply zA | apply zN | apply zD | refine zS ?_ (IsS97.ge HI0.out)) | exact HB.out), by repeat (first | (with_reducible first | exact HK.out | apply KeepBut.set_ | apply keep_drewN | apply keep_drew | apply keep_alloc) | exact HK.out)⟩

end Go.Proofs.Ytlhgkbleciokmaa.PFnDevice
