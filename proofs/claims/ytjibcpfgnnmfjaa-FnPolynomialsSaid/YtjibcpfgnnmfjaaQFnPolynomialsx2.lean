/- The walks of FnPolynomials: Go's calls come to what the Lean functions beside them say; no condition. -/
import Derived.Test.YtjibcpfgnnmfjaaQFnPolynomialsx0
import Derived.Test.YtjibcpfgnnmfjaaQFnPolynomialsx1
namespace Go.Proofs.Ytjibcpfgnnmfjaa.PFnPolynomials
open Go.RowKit Go.Proofs.YtjibcpfgnnmfjaaW.PrintWords Go.Proofs.YtjibcpfgnnmfjaaW.PrintLast Go.Proofs.YtjibcpfgnnmfjaaW.PrintMore
attribute [local go_sem] max2_int min2_int max_two min_two max_three min_three max_four min_four   -- for this text's walks alone
set_option linter.unusedVariables false
set_option linter.unusedSimpArgs false
set_option maxRecDepth 100000

/-! ### spec_PolyThrough: function 42 -/
mutual
def spec_PolyThrough.j0 : Nat → List Int → List Int → Bool → Option (List Int × Bool)
  | 0, _, _, _ => none
  | k + 1, x0, x1, x31 => if x31 = true then (some (([] : List Int), false)) else (spec_PolyThrough.l0 k x0 x1 x0 (x0.length : Int) 0)
def spec_PolyThrough.l0 : Nat → List Int → List Int → List Int → Int → Int → Option (List Int × Bool)
  | 0, _, _, _, _, _ => none
  | k + 1, x0, x1, x32, x33, x34 => if x34 < x33 then (if 0 ≤ x34 then (if x34 < (x32.length : Int) then (if x34 ≤ (x0.length : Int) then (spec_PolyThrough.l1 k x0 x1 (rd x32 x34) x32 x33 x34 (x0.take (x34 : Int).toNat) ((x0.take (x34 : Int).toNat).length : Int) 0) else (none)) else (none)) else (none)) else (if 0 ≤ (x0.length : Int) then (if ((x0.length : Int) : Int).toNat ≤ 281474976710656 then (spec_PolyThrough.l2 k x0 x1 (List.replicate ((x0.length : Int) : Int).toNat 0) (x0.length : Int) 0) else (none)) else (none))
def spec_PolyThrough.l1 : Nat → List Int → List Int → Int → List Int → Int → Int → List Int → Int → Int → Option (List Int × Bool)
  | 0, _, _, _, _, _, _, _, _, _ => none
  | k + 1, x0, x1, x7, x32, x33, x34, x41, x42, x43 => if x43 < x42 then (if 0 ≤ x43 then (if x43 < (x41.length : Int) then (if (rd x41 x43) = x7 then (some (([] : List Int), false)) else (spec_PolyThrough.l1 k x0 x1 x7 x32 x33 x34 x41 x42 (wrap64 (x43 + 1)))) else (none)) else (none)) else (spec_PolyThrough.l0 k x0 x1 x32 x33 (wrap64 (x34 + 1)))
def spec_PolyThrough.l2 : Nat → List Int → List Int → List Int → Int → Int → Option (List Int × Bool)
  | 0, _, _, _, _, _ => none
  | k + 1, x0, x1, x10, x56, x57 => if x57 < x56 then (spec_PolyThrough.l3 k x0 x1 x10 x57 (([1] : List Int)) 1 x56 x57 x0 (x0.length : Int) 0) else (some (x10, true))
def spec_PolyThrough.l3 : Nat → List Int → List Int → List Int → Int → List Int → Int → Int → Int → List Int → Int → Int → Option (List Int × Bool)
  | 0, _, _, _, _, _, _, _, _, _, _, _ => none
  | k + 1, x0, x1, x10, x11, x12, x13, x56, x57, x61, x62, x63 => if x63 < x62 then (if 0 ≤ x63 then (if x63 < (x61.length : Int) then (if x63 = x11 then (spec_PolyThrough.l3 k x0 x1 x10 x11 x12 x13 x56 x57 x61 x62 (wrap64 (x63 + 1))) else (if 0 ≤ (wrap64 ((x12.length : Int) + 1)) then (if (wrap64 ((x12.length : Int) + 1) : Int).toNat ≤ 281474976710656 then (spec_PolyThrough.l4 k x0 x1 x10 x11 x13 (rd x61 x63) (List.replicate (wrap64 ((x12.length : Int) + 1) : Int).toNat 0) x56 x57 x61 x62 x63 x12 (x12.length : Int) 0) else (none)) else (none))) else (none)) else (none)) else (if 0 ≤ x11 then (if x11 < (x1.length : Int) then ((spec_l2Inv.f k x13).bind fun t125 => ((spec_l2Mul.f k (rd x1 x11) t125).bind fun t126 => (spec_PolyThrough.l5 k x0 x1 x10 t126 x56 x57 x12 (x12.length : Int) 0))) else (none)) else (none))
def spec_PolyThrough.l4 : Nat → List Int → List Int → List Int → Int → Int → Int → List Int → Int → Int → List Int → Int → Int → List Int → Int → Int → Option (List Int × Bool)
  | 0, _, _, _, _, _, _, _, _, _, _, _, _, _, _, _ => none
  | k + 1, x0, x1, x10, x11, x13, x15, x16, x56, x57, x61, x62, x63, x75, x76, x77 => if x77 < x76 then (if 0 ≤ x77 then (if x77 < (x75.length : Int) then (if 0 ≤ (wrap64 (x77 + 1)) then (if (wrap64 (x77 + 1)) < (x16.length : Int) then ((some (x16.set ((wrap64 (x77 + 1)) : Int).toNat (Go.bits .xor .u8 (rd x16 (wrap64 (x77 + 1))) (rd x75 x77)) : List Int)).bind fun y118 => (if x77 < (x16.length : Int) then ((spec_l2Mul.f k (rd x75 x77) x15).bind fun t120 => (spec_PolyThrough.l4 k x0 x1 x10 x11 x13 x15 (y118.set (x77 : Int).toNat (Go.bits .xor .u8 (rd y118 x77) t120)) x56 x57 x61 x62 x63 x75 x76 (wrap64 (x77 + 1)))) else (none))) else (none)) else (none)) else (none)) else (none)) else (if 0 ≤ x11 then (if x11 < (x0.length : Int) then ((spec_l2Mul.f k x13 (Go.bits .xor .u8 (rd x0 x11) x15)).bind fun t123 => (spec_PolyThrough.l3 k x0 x1 x10 x11 x16 t123 x56 x57 x61 x62 (wrap64 (x63 + 1)))) else (none)) else (none))
def spec_PolyThrough.l5 : Nat → List Int → List Int → List Int → Int → Int → Int → List Int → Int → Int → Option (List Int × Bool)
  | 0, _, _, _, _, _, _, _, _, _ => none
  | k + 1, x0, x1, x10, x19, x56, x57, x117, x118, x119 => if x119 < x118 then (if 0 ≤ x119 then (if x119 < (x117.length : Int) then (if x119 < (x10.length : Int) then ((spec_l2Mul.f k (rd x117 x119) x19).bind fun t129 => (spec_PolyThrough.l5 k x0 x1 (x10.set (x119 : Int).toNat (Go.bits .xor .u8 (rd x10 x119) t129)) x19 x56 x57 x117 x118 (wrap64 (x119 + 1)))) else (none)) else (none)) else (none)) else (spec_PolyThrough.l2 k x0 x1 x10 x56 (wrap64 (x57 + 1)))
end
def spec_PolyThrough.f (k : Nat) (l0 : List Int) (l1 : List Int) : Option (List Int × Bool) := if (l0.length : Int) = (l1.length : Int) then (spec_PolyThrough.j0 k l0 l1 (decide ((l0.length : Int) > 20))) else (spec_PolyThrough.j0 k l0 l1 true)
theorem spec_PolyThrough.mono_l : ∀ k, (∀ y0 y1 y2, LeO (spec_PolyThrough.j0 k y0 y1 y2) (spec_PolyThrough.j0 (k + 1) y0 y1 y2)) ∧ (∀ y0 y1 y2 y3 y4, LeO (spec_PolyThrough.l0 k y0 y1 y2 y3 y4) (spec_PolyThrough.l0 (k + 1) y0 y1 y2 y3 y4)) ∧ (∀ y0 y1 y2 y3 y4 y5 y6 y7 y8, LeO (spec_PolyThrough.l1 k y0 y1 y2 y3 y4 y5 y6 y7 y8) (spec_PolyThrough.l1 (k + 1) y0 y1 y2 y3 y4 y5 y6 y7 y8)) ∧ (∀ y0 y1 y2 y3 y4, LeO (spec_PolyThrough.l2 k y0 y1 y2 y3 y4) (spec_PolyThrough.l2 (k + 1) y0 y1 y2 y3 y4)) ∧ (∀ y0 y1 y2 y3 y4 y5 y6 y7 y8 y9 y10, LeO (spec_PolyThrough.l3 k y0 y1 y2 y3 y4 y5 y6 y7 y8 y9 y10) (spec_PolyThrough.l3 (k + 1) y0 y1 y2 y3 y4 y5 y6 y7 y8 y9 y10)) ∧ (∀ y0 y1 y2 y3 y4 y5 y6 y7 y8 y9 y10 y11 y12 y13 y14, LeO (spec_PolyThrough.l4 k y0 y1 y2 y3 y4 y5 y6 y7 y8 y9 y10 y11 y12 y13 y14) (spec_PolyThrough.l4 (k + 1) y0 y1 y2 y3 y4 y5 y6 y7 y8 y9 y10 y11 y12 y13 y14)) ∧ (∀ y0 y1 y2 y3 y4 y5 y6 y7 y8, LeO (spec_PolyThrough.l5 k y0 y1 y2 y3 y4 y5 y6 y7 y8) (spec_PolyThrough.l5 (k + 1) y0 y1 y2 y3 y4 y5 y6 y7 y8))
  | 0 => ⟨fun _ _ _ r h => by simp [spec_PolyThrough.j0] at h, fun _ _ _ _ _ r h => by simp [spec_PolyThrough.l0] at h, fun _ _ _ _ _ _ _ _ _ r h => by simp [spec_PolyThrough.l1] at h, fun _ _ _ _ _ r h => by simp [spec_PolyThrough.l2] at h, fun _ _ _ _ _ _ _ _ _ _ _ r h => by simp [spec_PolyThrough.l3] at h, fun _ _ _ _ _ _ _ _ _ _ _ _ _ _ _ r h => by simp [spec_PolyThrough.l4] at h, fun _ _ _ _ _ _ _ _ _ r h => by simp [spec_PolyThrough.l5] at h⟩
  | k + 1 => by
    obtain ⟨ih0, ih1, ih2, ih3, ih4, ih5, ih6⟩ := spec_PolyThrough.mono_l k
    refine ⟨?_, ?_, ?_, ?_, ?_, ?_, ?_⟩
    · intro y0 y1 y2
      unfold spec_PolyThrough.j0
      repeat' first
      | (with_reducible exact ih0 _ _ _)
      | (with_reducible exact ih1 _ _ _ _ _)
      | (with_reducible exact ih2 _ _ _ _ _ _ _ _ _)
      | (with_reducible exact ih3 _ _ _ _ _)
      | (with_reducible exact ih4 _ _ _ _ _ _ _ _ _ _ _)
      | (with_reducible exact ih5 _ _ _ _ _ _ _ _ _ _ _ _ _ _ _)
      | (with_reducible exact ih6 _ _ _ _ _ _ _ _ _)
      | (with_reducible exact spec_l2Inv.mono _ _)
      | (with_reducible exact spec_l2Mul.mono _ _ _)
      | (with_reducible exact LeO.refl _)
      | (with_reducible exact LeO.none _)
      | (with_reducible refine LeO.ite ?_ ?_)
      | (with_reducible refine LeO.bind ?_ (fun _ => ?_))
      | exact ih0 _ _ _
      | exact ih1 _ _ _ _ _
      | exact ih2 _ _ _ _ _ _ _ _ _
      | exact ih3 _ _ _ _ _
      | exact ih4 _ _ _ _ _ _ _ _ _ _ _
      | exact ih5 _ _ _ _ _ _ _ _ _ _ _ _ _ _ _
      | exact ih6 _ _ _ _ _ _ _ _ _
      | exact spec_l2Inv.mono _ _
      | exact spec_l2Mul.mono _ _ _
      | exact LeO.none _
      | refine LeO.ite ?_ ?_
      | refine LeO.bind ?_ (fun _ => ?_)
    · intro y0 y1 y2 y3 y4
      unfold spec_PolyThrough.l0
      repeat' first
      | (with_reducible exact ih0 _ _ _)
      | (with_reducible exact ih1 _ _ _ _ _)
      | (with_reducible exact ih2 _ _ _ _ _ _ _ _ _)
      | (with_reducible exact ih3 _ _ _ _ _)
      | (with_reducible exact ih4 _ _ _ _ _ _ _ _ _ _ _)
      | (with_reducible exact ih5 _ _ _ _ _ _ _ _ _ _ _ _ _ _ _)
      | (with_reducible exact ih6 _ _ _ _ _ _ _ _ _)
      | (with_reducible exact spec_l2Inv.mono _ _)
      | (with_reducible exact spec_l2Mul.mono _ _ _)
      | (with_reducible exact LeO.refl _)
      | (with_reducible exact LeO.none _)
      | (with_reducible refine LeO.ite ?_ ?_)
      | (with_reducible refine LeO.bind ?_ (fun _ => ?_))
      | exact ih0 _ _ _
      | exact ih1 _ _ _ _ _
      | exact ih2 _ _ _ _ _ _ _ _ _
      | exact ih3 _ _ _ _ _
      | exact ih4 _ _ _ _ _ _ _ _ _ _ _
      | exact ih5 _ _ _ _ _ _ _ _ _ _ _ _ _ _ _
      | exact ih6 _ _ _ _ _ _ _ _ _
      | exact spec_l2Inv.mono _ _
      | exact spec_l2Mul.mono _ _ _
      | exact LeO.none _
      | refine LeO.ite ?_ ?_
      | refine LeO.bind ?_ (fun _ => ?_)
    · intro y0 y1 y2 y3 y4 y5 y6 y7 y8
      unfold spec_PolyThrough.l1
      repeat' first
      | (with_reducible exact ih0 _ _ _)
      | (with_reducible exact ih1 _ _ _ _ _)
      | (with_reducible exact ih2 _ _ _ _ _ _ _ _ _)
      | (with_reducible exact ih3 _ _ _ _ _)
      | (with_reducible exact ih4 _ _ _ _ _ _ _ _ _ _ _)
      | (with_reducible exact ih5 _ _ _ _ _ _ _ _ _ _ _ _ _ _ _)
      | (with_reducible exact ih6 _ _ _ _ _ _ _ _ _)
      | (with_reducible exact spec_l2Inv.mono _ _)
      | (with_reducible exact spec_l2Mul.mono _ _ _)
      | (with_reducible exact LeO.refl _)
      | (with_reducible exact LeO.none _)
      | (with_reducible refine LeO.ite ?_ ?_)
      | (with_reducible refine LeO.bind ?_ (fun _ => ?_))
      | exact ih0 _ _ _
      | exact ih1 _ _ _ _ _
      | exact ih2 _ _ _ _ _ _ _ _ _
      | exact ih3 _ _ _ _ _
      | exact ih4 _ _ _ _ _ _ _ _ _ _ _
      | exact ih5 _ _ _ _ _ _ _ _ _ _ _ _ _ _ _
      | exact ih6 _ _ _ _ _ _ _ _ _
      | exact spec_l2Inv.mono _ _
      | exact spec_l2Mul.mono _ _ _
      | exact LeO.none _
      | refine LeO.ite ?_ ?_
      | refine LeO.bind ?_ (fun _ => ?_)
    · intro y0 y1 y2 y3 y4
      unfold spec_PolyThrough.l2
      repeat' first
      | (with_reducible exact ih0 _ _ _)
      | (with_reducible exact ih1 _ _ _ _ _)
      | (with_reducible exact ih2 _ _ _ _ _ _ _ _ _)
      | (with_reducible exact ih3 _ _ _ _ _)
      | (with_reducible exact ih4 _ _ _ _ _ _ _ _ _ _ _)
      | (with_reducible exact ih5 _ _ _ _ _ _ _ _ _ _ _ _ _ _ _)
      | (with_reducible exact ih6 _ _ _ _ _ _ _ _ _)
      | (with_reducible exact spec_l2Inv.mono _ _)
      | (with_reducible exact spec_l2Mul.mono _ _ _)
      | (with_reducible exact LeO.refl _)
      | (with_reducible exact LeO.none _)
      | (with_reducible refine LeO.ite ?_ ?_)
      | (with_reducible refine LeO.bind ?_ (fun _ => ?_))
      | exact ih0 _ _ _
      | exact ih1 _ _ _ _ _
      | exact ih2 _ _ _ _ _ _ _ _ _
      | exact ih3 _ _ _ _ _
      | exact ih4 _ _ _ _ _ _ _ _ _ _ _
      | exact ih5 _ _ _ _ _ _ _ _ _ _ _ _ _ _ _
      | exact ih6 _ _ _ _ _ _ _ _ _
      | exact spec_l2Inv.mono _ _
      | exact spec_l2Mul.mono _ _ _
      | exact LeO.none _
      | refine LeO.ite ?_ ?_
      | refine LeO.bind ?_ (fun _ => ?_)
    · intro y0 y1 y2 y3 y4 y5 y6 y7 y8 y9 y10
      unfold spec_PolyThrough.l3
      repeat' first
      | (with_reducible exact ih0 _ _ _)
      | (with_reducible exact ih1 _ _ _ _ _)
      | (with_reducible exact ih2 _ _ _ _ _ _ _ _ _)
      | (with_reducible exact ih3 _ _ _ _ _)
      | (with_reducible exact ih4 _ _ _ _ _ _ _ _ _ _ _)
      | (with_reducible exact ih5 _ _ _ _ _ _ _ _ _ _ _ _ _ _ _)
      | (with_reducible exact ih6 _ _ _ _ _ _ _ _ _)
      | (with_reducible exact spec_l2Inv.mono _ _)
      | (with_reducible exact spec_l2Mul.mono _ _ _)
      | (with_reducible exact LeO.refl _)
      | (with_reducible exact LeO.none _)
      | (with_reducible refine LeO.ite ?_ ?_)
      | (with_reducible refine LeO.bind ?_ (fun _ => ?_))
      | exact ih0 _ _ _
      | exact ih1 _ _ _ _ _
      | exact ih2 _ _ _ _ _ _ _ _ _
      | exact ih3 _ _ _ _ _
      | exact ih4 _ _ _ _ _ _ _ _ _ _ _
      | exact ih5 _ _ _ _ _ _ _ _ _ _ _ _ _ _ _
      | exact ih6 _ _ _ _ _ _ _ _ _
      | exact spec_l2Inv.mono _ _
      | exact spec_l2Mul.mono _ _ _
      | exact LeO.none _
      | refine LeO.ite ?_ ?_
      | refine LeO.bind ?_ (fun _ => ?_)
    · intro y0 y1 y2 y3 y4 y5 y6 y7 y8 y9 y10 y11 y12 y13 y14
      unfold spec_PolyThrough.l4
      repeat' first
      | (with_reducible exact ih0 _ _ _)
      | (with_reducible exact ih1 _ _ _ _ _)
      | (with_reducible exact ih2 _ _ _ _ _ _ _ _ _)
      | (with_reducible exact ih3 _ _ _ _ _)
      | (with_reducible exact ih4 _ _ _ _ _ _ _ _ _ _ _)
      | (with_reducible exact ih5 _ _ _ _ _ _ _ _ _ _ _ _ _ _ _)
      | (with_reducible exact ih6 _ _ _ _ _ _ _ _ _)
      | (with_reducible exact spec_l2Inv.mono _ _)
      | (with_reducible exact spec_l2Mul.mono _ _ _)
      | (with_reducible exact LeO.refl _)
      | (with_reducible exact LeO.none _)
      | (with_reducible refine LeO.ite ?_ ?_)
      | (with_reducible refine LeO.bind ?_ (fun _ => ?_))
      | exact ih0 _ _ _
      | exact ih1 _ _ _ _ _
      | exact ih2 _ _ _ _ _ _ _ _ _
      | exact ih3 _ _ _ _ _
      | exact ih4 _ _ _ _ _ _ _ _ _ _ _
      | exact ih5 _ _ _ _ _ _ _ _ _ _ _ _ _ _ _
      | exact ih6 _ _ _ _ _ _ _ _ _
      | exact spec_l2Inv.mono _ _
      | exact spec_l2Mul.mono _ _ _
      | exact LeO.none _
      | refine LeO.ite ?_ ?_
      | refine LeO.bind ?_ (fun _ => ?_)
    · intro y0 y1 y2 y3 y4 y5 y6 y7 y8
      unfold spec_PolyThrough.l5
      repeat' first
      | (with_reducible exact ih0 _ _ _)
      | (with_reducible exact ih1 _ _ _ _ _)
      | (with_reducible exact ih2 _ _ _ _ _ _ _ _ _)
      | (with_reducible exact ih3 _ _ _ _ _)
      | (with_reducible exact ih4 _ _ _ _ _ _ _ _ _ _ _)
      | (with_reducible exact ih5 _ _ _ _ _ _ _ _ _ _ _ _ _ _ _)
      | (with_reducible exact ih6 _ _ _ _ _ _ _ _ _)
      | (with_reducible exact spec_l2Inv.mono _ _)
      | (with_reducible exact spec_l2Mul.mono _ _ _)
      | (with_reducible exact LeO.refl _)
      | (with_reducible exact LeO.none _)
      | (with_reducible refine LeO.ite ?_ ?_)
      | (with_reducible refine LeO.bind ?_ (fun _ => ?_))
      | exact ih0 _ _ _
      | exact ih1 _ _ _ _ _
      | exact ih2 _ _ _ _ _ _ _ _ _
      | exact ih3 _ _ _ _ _
      | exact ih4 _ _ _ _ _ _ _ _ _ _ _
      | exact ih5 _ _ _ _ _ _ _ _ _ _ _ _ _ _ _
      | exact ih6 _ _ _ _ _ _ _ _ _
      | exact spec_l2Inv.mono _ _
      | exact spec_l2Mul.mono _ _ _
      | exact LeO.none _
      | refine LeO.ite ?_ ?_
      | refine LeO.bind ?_ (fun _ => ?_)
theorem spec_PolyThrough.mono : ∀ a0 a1 k, LeO (spec_PolyThrough.f k a0 a1) (spec_PolyThrough.f (k + 1) a0 a1) := by
  intro a0 a1 k
  obtain ⟨ih0, ih1, ih2, ih3, ih4, ih5, ih6⟩ := spec_PolyThrough.mono_l k
  unfold spec_PolyThrough.f
  repeat' first
      | (with_reducible exact ih0 _ _ _)
      | (with_reducible exact ih1 _ _ _ _ _)
      | (with_reducible exact ih2 _ _ _ _ _ _ _ _ _)
      | (with_reducible exact ih3 _ _ _ _ _)
      | (with_reducible exact ih4 _ _ _ _ _ _ _ _ _ _ _)
      | (with_reducible exact ih5 _ _ _ _ _ _ _ _ _ _ _ _ _ _ _)
      | (with_reducible exact ih6 _ _ _ _ _ _ _ _ _)
      | (with_reducible exact spec_l2Inv.mono _ _)
      | (with_reducible exact spec_l2Mul.mono _ _ _)
      | (with_reducible exact LeO.refl _)
      | (with_reducible exact LeO.none _)
      | (with_reducible refine LeO.ite ?_ ?_)
      | (with_reducible refine LeO.bind ?_ (fun _ => ?_))
      | exact ih0 _ _ _
      | exact ih1 _ _ _ _ _
      | exact ih2 _ _ _ _ _ _ _ _ _
      | exact ih3 _ _ _ _ _
      | exact ih4 _ _ _ _ _ _ _ _ _ _ _
      | exact ih5 _ _ _ _ _ _ _ _ _ _ _ _ _ _ _
      | exact ih6 _ _ _ _ _ _ _ _ _
      | exact spec_l2Inv.mono _ _
      | exact spec_l2Mul.mono _ _ _
      | exact LeO.none _
      | refine LeO.ite ?_ ?_
      | refine LeO.bind ?_ (fun _ => ?_)
def spec_PolyThrough.T28 : Bool × List (List Nat × List Nat) := (true, [([], []), ([], []), ([0, 1], [0, 1]), ([2], [2]), ([], []), ([], []), ([4, 5], [4, 5]), ([3, 6], [3, 6]), ([0, 1, 0, 1, 2, 3, 4, 5, 6, 7], [0, 1]), ([8, 7, 6, 0, 1, 2, 3, 4, 5, 6, 7], [7, 8])])
def spec_PolyThrough.B28 : List Nat := [0, 0, 3, 7, 0, 0, 48, 127, 255, 511]
theorem spec_PolyThrough.tab28 : rtab .any (opsOf Try.f42 28) = spec_PolyThrough.T28 := by kernel_rfl
theorem spec_PolyThrough.bits28 : waitsOk spec_PolyThrough.T28.2 spec_PolyThrough.B28 = true := by kernel_rfl
def spec_PolyThrough.T33 : Bool × List (List Nat × List Nat) := (true, [([], []), ([], []), ([0, 1], [0, 1]), ([2], [2]), ([], []), ([4], [4]), ([3, 5, 5], [3, 5]), ([6, 6, 0, 1, 2, 3, 4, 5, 6], [6])])
def spec_PolyThrough.B33 : List Nat := [0, 0, 3, 7, 0, 16, 63, 127]
theorem spec_PolyThrough.tab33 : rtab .any (opsOf Try.f42 33) = spec_PolyThrough.T33 := by kernel_rfl
theorem spec_PolyThrough.bits33 : waitsOk spec_PolyThrough.T33.2 spec_PolyThrough.B33 = true := by kernel_rfl
def spec_PolyThrough.T37 : Bool × List (List Nat × List Nat) := (true, [([], []), ([], []), ([0, 1], [0, 1]), ([2], [2]), ([], []), ([], []), ([4, 5], [4, 5]), ([3, 6], [3, 6]), ([0, 1, 0, 1, 2, 3, 4, 5, 6, 7], [0, 1]), ([8, 7, 6, 0, 1, 2, 3, 4, 5, 6, 7], [7, 8])])
def spec_PolyThrough.B37 : List Nat := [0, 0, 3, 7, 0, 0, 48, 127, 255, 511]
theorem spec_PolyThrough.tab37 : rtab .any (opsOf Try.f42 37) = spec_PolyThrough.T37 := by kernel_rfl
theorem spec_PolyThrough.bits37 : waitsOk spec_PolyThrough.T37.2 spec_PolyThrough.B37 = true := by kernel_rfl
set_option maxHeartbeats 8000000 in
set_option maxRecDepth 100000 in
theorem spec_PolyThrough.calls (k : Nat) (A0 : Option Addr) (c0 : Nat) (l0 : List Int) (A1 : Option Addr) (c1 : Nat) (l1 : List Int) (r1 : List Int) (r2 : Bool) (w : World) (hr0 : Kd.C (Kd.int .u8) w A0 l0.length l0) (hc0 : l0.length ≤ c0) (hr1 : Kd.C (Kd.int .u8) w A1 l1.length l1) (hc1 : l1.length ≤ c1) (h : spec_PolyThrough.f k l0 l1 = some (r1, r2)) :
    Calls Try.prog 42 #[.slice A0 l0.length c0, .slice A1 l1.length c1] w fun e w' => ∃ v0_ : Value, e = .returned (.tuple #[v0_, .bool r2]) ∧ Kd.R (Kd.int .u8) 5 w' w.heap.size (fun _ => True) v0_ r1 ∧ Below w.heap.size w w' := by
  have HR0 := Aside0.mk hr0
  have HC0 := Aside0.mk hc0
  clear hr0 hc0
  have HR1 := Aside0.mk hr1
  have HC1 := Aside0.mk hc1
  clear hr1 hc1
  have HB := Aside0.mk (Below.refl w.heap.size w)
  have H : (if (l0.length : Int) = (l1.length : Int) then (spec_PolyThrough.j0 k l0 l1 (decide ((l0.length : Int) > 20))) else (spec_PolyThrough.j0 k l0 l1 true)) = some (r1, r2) := h
  clear h
  have HC3 := Aside0.mk H
  clear H
  go_enter Try.func42, Try.ntmps42
  go_upto_region 1 with (fail)
  go_cut [31] (fun v31 wc => ∃ (kq : Nat) (x31_2 : Bool), v31 = .bool x31_2 ∧ Aside0 (spec_PolyThrough.j0 kq l0 l1 x31_2 = some (r1, r2)) ∧ Aside0 (kq ≤ k) ∧ Aside0 (Below w.heap.size w wc))
  case first =>
    have H := HC3.out
    clear HC3
    by_cases c4 : (l0.length : Int) = (l1.length : Int)
    · rw [if_pos c4] at H
      have c4b0 : ((l0.length : Int) == (l1.length : Int)) = true := beq_iff_eq.mpr c4
      have c4b1 : ((l0.length : Int) != (l1.length : Int)) = false := bne_eq_false_iff_eq.mpr c4
      have c4b2 : (l0.length == l1.length) = true := by first | simpa using c4 | (simp at c4 ⊢; omega)
      clear c4
      (first | rw [c4b0] | (simp only [i64_w, i32_w]; rw [c4b0]) | skip)
      have H' := Aside0.mk H
      clear H
      go_wp2
      go_meet
      case rel => exact ⟨_, (decide ((l0.length : Int) > 20)), (by first | rfl | (simp; done) | (simp [*]; done)), H', ⟨by first | omega | exact Nat.le_refl _⟩, ⟨by repeat (first | (with_reducible first | exact HB.out | apply below_alloc | apply pw_below_drewN | apply below_drew1) | exact HB.out)⟩⟩
    · rw [if_neg c4] at H
      have c4b0 : ((l0.length : Int) == (l1.length : Int)) = false := beq_eq_false_iff_ne.mpr c4
      have c4b1 : ((l0.length : Int) != (l1.length : Int)) = true := bne_iff_ne.mpr c4
      have c4b2 : (l0.length == l1.length) = false := by first | simpa using c4 | (simp at c4 ⊢; omega)
      (first | rw [c4b0] | (simp only [i64_w, i32_w]; rw [c4b0]) | skip)
      have H' := Aside0.mk H
      clear H
      go_wp2
      go_meet
      case rel => exact ⟨_, (true), (by first | rfl | (simp; done) | (simp [*]; done)), H', ⟨by first | omega | exact Nat.le_refl _⟩, ⟨by repeat (first | (with_reducible first | exact HB.out | apply below_alloc | apply pw_below_drewN | apply below_drew1) | exact HB.out)⟩⟩
  case rest =>
    clear HC3
    try clear c1
    try clear p2
    try clear c4
    try clear c4b0
    try clear c4b1
    try clear c4b2
    obtain ⟨kq, x31_2, rfl, HA, HJ2, HB⟩ := hcut
    cases kq with
    | zero => exact absurd HA.out (fun h_ => by change none = some _ at h_; cases h_)
    | succ kj2 =>
      have H := HA.out
      clear HA
      simp only [spec_PolyThrough.j0] at H
      by_cases c5 : x31_2 = true
      · subst c5
        have H1 : (some (([] : List Int), false)) = some (r1, r2) := by rw [if_pos rfl] at H; exact H
        clear H
        have H := H1
        clear H1
        simp only [Option.some.injEq, Prod.mk.injEq] at H
        obtain ⟨rfl, rfl⟩ := H
        go_wp2
        go_ret2
        exact ⟨_, by first | rfl | (simp [errW_none, errW_some] <;> rfl) | (simp [*, errW_none, errW_some] <;> rfl), by first | exact Kd.R_nil _ _ _ _ _ | exact Kd.N_nil _ _ _ _ _ | exact Kd.V_nil _ _ _ _ _ | exact Kd.Q_nil _ _ _ _ _ | exact Kd.S_nil _ _ _ _ _, by repeat (first | (with_reducible first | exact HB.out | apply below_alloc | apply pw_below_drewN | apply below_drew1) | exact HB.out)⟩
      · replace c5 := Bool.eq_false_iff.mpr c5
        subst c5
        have H1 : (spec_PolyThrough.l0 kj2 l0 l1 l0 (l0.length : Int) 0) = some (r1, r2) := by rw [if_neg (show ¬ (false = true) by decide)] at H; exact H
        clear H
        have H := H1
        clear H1
        have H' := Aside0.mk H
        clear H
        go_wp2
        go_loopg [34] kj2 (fun kq v34 w' => ∃ (x34_2 : Int), v34 = .int .i64 x34_2 ∧ Aside0 (spec_PolyThrough.l0 kq l0 l1 l0 (l0.length : Int) x34_2 = some (r1, r2)) ∧ Aside0 (kq ≤ kj2) ∧ Aside0 (Below w.heap.size w w'))
        case atStart => exact ⟨(0), (by first | rfl | (simp; done) | (simp [*]; done)), H', ⟨Nat.le_refl _⟩, ⟨by repeat (first | (with_reducible first | exact HB.out | apply below_alloc | apply pw_below_drewN | apply below_drew1) | exact HB.out)⟩⟩
        case round =>
          clear H'
          try clear c1
          try clear p2
          try clear c4
          try clear c4b0
          try clear c4b1
          try clear c4b2
          try clear c5
          try clear p2
          obtain ⟨x34_2, rfl, HA, HK2, HB⟩ := hrel
          cases gk with
          | zero => exact absurd HA.out (fun h_ => by change none = some _ at h_; cases h_)
          | succ k2 =>
            have H := HA.out
            clear HA
            simp only [spec_PolyThrough.l0] at H
            by_cases c6 : x34_2 < (l0.length : Int)
            · rw [if_pos c6] at H
              have c6b0 : decide (x34_2 < (l0.length : Int)) = true := decide_eq_true c6
              clear c6
              by_cases c7 : 0 ≤ x34_2
              · rw [if_pos c7] at H
                have c7b0 : decide (0 ≤ x34_2) = true := decide_eq_true c7
                clear c7
                by_cases c8 : x34_2 < (l0.length : Int)
                · rw [if_pos c8] at H
                  have c8b0 : decide (x34_2 < (l0.length : Int)) = true := decide_eq_true c8
                  clear c8
                  have c9b0 := eq_true (of_decide_eq_true (by first | (with_reducible assumption) | assumption) : 0 ≤ x34_2)
                  by_cases c10 : x34_2 ≤ (l0.length : Int)
                  · rw [if_pos c10] at H
                    have c10b0 := eq_true c10
                    have c10b1 : decide (x34_2 ≤ (l0.length : Int)) = true := decide_eq_true c10
                    clear c10
                    have H' := Aside0.mk H
                    clear H
                    have p103 : 0 ≤ (x34_2 : Int) := of_decide_eq_true (by first | (with_reducible assumption) | assumption)
                    have q103 : x34_2 < (l0.length : Int) := of_decide_eq_true (by first | (with_reducible assumption) | assumption)
                    obtain ⟨ad103, e103, hx103_0⟩ := Kd.at_int HR0.out x34_2 p103 q103
                    cases e103
                    replace hx103_0 := (HB.out.cell (World.block_lt_of_cell? w _ hx103_0)).trans hx103_0
                    replace p103 := eq_true p103
                    replace q103 := eq_true q103
                    obtain ⟨i011, hi011, _, hsz11, _⟩ := info_parts info5
                    obtain ⟨hcut11, hA11, hC11⟩ := print_take_of (P := Try.prog) (Value.int .u8) 0 22 5 .i64 Try.underlying22 hi011 hsz11 (some ad103) c0 l0 x34_2 (of_decide_eq_true (by first | (with_reducible assumption) | assumption)) (of_decide_eq_true (by first | (with_reducible assumption) | assumption)) HC0.out
                    have LT_x34_2 : Aside0 (0 ≤ x34_2 ∧ x34_2 ≤ (l0.length : Int)) := ⟨⟨of_decide_eq_true (by first | (with_reducible assumption) | assumption), of_decide_eq_true (by first | (with_reducible assumption) | assumption)⟩⟩
                    have HR104 := Aside0.mk (Kd.C_of_reads (h1 := fun _ => rfl) (hA11 _ (Kd.reads_of_C HR0.out)))
                    have HC104 := Aside0.mk hC11
                    clear hA11 hC11 hi011 hsz11
                    go_wp2
                    go_loopg [43] k2 (fun kq v43 w' => ∃ (x43_3 : Int), v43 = .int .i64 x43_3 ∧ Aside0 (spec_PolyThrough.l1 kq l0 l1 (rd l0 x34_2) l0 (l0.length : Int) x34_2 (l0.take (x34_2 : Int).toNat) ((l0.take (x34_2 : Int).toNat).length : Int) x43_3 = some (r1, r2)) ∧ Aside0 (kq ≤ k2) ∧ Aside0 (Below w.heap.size w w'))
                    case atStart => exact ⟨(0), (by first | rfl | (simp; done) | (simp [*]; done)), H', ⟨Nat.le_refl _⟩, ⟨by repeat (first | (with_reducible first | exact HB.out | apply below_alloc | apply pw_below_drewN | apply below_drew1) | exact HB.out)⟩⟩
                    case round =>
                      clear H'
                      try clear c1
                      try clear p1
                      try clear q1
                      try clear hx1
                      try clear p2
                      try clear c4
                      try clear c4b0
                      try clear c4b1
                      try clear c4b2
                      try clear c5
                      try clear c6
                      try clear c6b0
                      try clear c7
                      try clear c7b0
                      try clear c8
                      try clear c8b0
                      try clear c9
                      try clear c9b0
                      try clear c10
                      try clear c10b0
                      try clear c10b1
                      try clear p10
                      try clear q10
                      try clear hx10
                      try clear hx103_0
                      try clear p103
                      try clear p2
                      try clear q103
                      obtain ⟨x43_3, rfl, HA, HK3, HB⟩ := hrel
                      cases gk with
                      | zero => exact absurd HA.out (fun h_ => by change none = some _ at h_; cases h_)
                      | succ k3 =>
                        have H := HA.out
                        clear HA
                        simp only [spec_PolyThrough.l1] at H
                        by_cases c12 : x43_3 < ((l0.take (x34_2 : Int).toNat).length : Int)
                        · rw [if_pos c12] at H
                          have c12b0 : decide (x43_3 < ((l0.take (x34_2 : Int).toNat).length : Int)) = true := decide_eq_true c12
                          have c12b9 : decide (x43_3 < max x34_2 0) = true := decide_eq_true (by have h_ := List.length_take_le x34_2.toNat l0; omega)
                          clear c12
                          by_cases c13 : 0 ≤ x43_3
                          · rw [if_pos c13] at H
                            have c13b0 : decide (0 ≤ x43_3) = true := decide_eq_true c13
                            clear c13
                            by_cases c14 : x43_3 < ((l0.take (x34_2 : Int).toNat).length : Int)
                            · rw [if_pos c14] at H
                              have c14b0 : decide (x43_3 < ((l0.take (x34_2 : Int).toNat).length : Int)) = true := decide_eq_true c14
                              have c14b9 : decide (x43_3 < max x34_2 0) = true := decide_eq_true (by have h_ := List.length_take_le x34_2.toNat l0; omega)
                              clear c14
                              by_cases c15 : (rd (l0.take (x34_2 : Int).toNat) x43_3) = (rd l0 x34_2)
                              · rw [if_pos c15] at H
                                have c15b0 : ((rd (l0.take (x34_2 : Int).toNat) x43_3) == (rd l0 x34_2)) = true := beq_iff_eq.mpr c15
                                have c15b1 : ((rd (l0.take (x34_2 : Int).toNat) x43_3) != (rd l0 x34_2)) = false := bne_eq_false_iff_eq.mpr c15
                                clear c15
                                simp only [Option.some.injEq, Prod.mk.injEq] at H
                                obtain ⟨rfl, rfl⟩ := H
                                have p105 : 0 ≤ (x43_3 : Int) := of_decide_eq_true (by first | (with_reducible assumption) | assumption)
                                have q105 : x43_3 < ((l0.take (x34_2 : Int).toNat).length : Int) := of_decide_eq_true (by first | (with_reducible assumption) | assumption)
                                obtain ⟨ad105, e105, hx105_0⟩ := Kd.at_int HR104.out x43_3 p105 q105
                                obtain rfl : ad103 = ad105 := (by injection e105)
                                replace hx105_0 := (HB.out.cell (World.block_lt_of_cell? w _ hx105_0)).trans hx105_0
                                replace p105 := eq_true p105
                                replace q105 := eq_true q105
                                have q105m : (x43_3 < max x34_2 0) = True := eq_true (by have h_ := List.length_take_le x34_2.toNat l0; have h2_ := of_eq_true q105; omega)
                                go_wp2
                                go_ret2
                                exact ⟨_, by first | rfl | (simp [errW_none, errW_some] <;> rfl) | (simp [*, errW_none, errW_some] <;> rfl), by first | exact Kd.R_nil _ _ _ _ _ | exact Kd.N_nil _ _ _ _ _ | exact Kd.V_nil _ _ _ _ _ | exact Kd.Q_nil _ _ _ _ _ | exact Kd.S_nil _ _ _ _ _, by repeat (first | (with_reducible first | exact HB.out | apply below_alloc | apply pw_below_drewN | apply below_drew1) | exact HB.out)⟩
                              · rw [if_neg c15] at H
                                have c15b0 : ((rd (l0.take (x34_2 : Int).toNat) x43_3) == (rd l0 x34_2)) = false := beq_eq_false_iff_ne.mpr c15
                                have c15b1 : ((rd (l0.take (x34_2 : Int).toNat) x43_3) != (rd l0 x34_2)) = true := bne_iff_ne.mpr c15
                                have H' := Aside0.mk H
                                clear H
                                have p105 : 0 ≤ (x43_3 : Int) := of_decide_eq_true (by first | (with_reducible assumption) | assumption)
                                have q105 : x43_3 < ((l0.take (x34_2 : Int).toNat).length : Int) := of_decide_eq_true (by first | (with_reducible assumption) | assumption)
                                obtain ⟨ad105, e105, hx105_0⟩ := Kd.at_int HR104.out x43_3 p105 q105
                                obtain rfl : ad103 = ad105 := (by injection e105)
                                replace hx105_0 := (HB.out.cell (World.block_lt_of_cell? w _ hx105_0)).trans hx105_0
                                replace p105 := eq_true p105
                                replace q105 := eq_true q105
                                have q105m : (x43_3 < max x34_2 0) = True := eq_true (by have h_ := List.length_take_le x34_2.toNat l0; have h2_ := of_eq_true q105; omega)
                                go_wp2
                                go_roundg k3
                                case measure => have := HJ2.out; have := HK2.out; have := HK3.out; omega
                                case rel => exact ⟨(wrap64 (x43_3 + 1)), (by first | rfl | (simp; done) | (simp [*]; done)), H', ⟨by have := HJ2.out; have := HK2.out; have := HK3.out; omega⟩, ⟨by repeat (first | (with_reducible first | exact HB.out | apply below_alloc | apply pw_below_drewN | apply below_drew1) | exact HB.out)⟩⟩
                            · rw [if_neg c14] at H
                              exact absurd H (by simp)
                          · rw [if_neg c13] at H
                            exact absurd H (by simp)
                        · rw [if_neg c12] at H
                          have c12b0 : decide (x43_3 < ((l0.take (x34_2 : Int).toNat).length : Int)) = false := decide_eq_false c12
                          have c12b9 : decide (x43_3 < max x34_2 0) = false := decide_eq_false (by have h_ := LT_x34_2.out; rw [List.length_take] at c12; omega)
                          clear c12
                          have H' := Aside0.mk H
                          clear H
                          go_wp2
                          go_roundg k3
                          case measure => have := HJ2.out; have := HK2.out; have := HK3.out; omega
                          case rel => exact ⟨(wrap64 (x34_2 + 1)), (by first | rfl | (simp; done) | (simp [*]; done)), H', ⟨by have := HJ2.out; have := HK2.out; have := HK3.out; omega⟩, ⟨by repeat (first | (with_reducible first | exact HB.out | apply below_alloc | apply pw_below_drewN | apply below_drew1) | exact HB.out)⟩⟩
                  · rw [if_neg c10] at H
                    exact absurd H (by simp)
                · rw [if_neg c8] at H
                  exact absurd H (by simp)
              · rw [if_neg c7] at H
                exact absurd H (by simp)
            · rw [if_neg c6] at H
              have c6b0 : decide (x34_2 < (l0.length : Int)) = false := decide_eq_false c6
              clear c6
              by_cases c16 : 0 ≤ (l0.length : Int)
              · rw [if_pos c16] at H
                have c16b0 := eq_true c16
                have c16b1 : decide (0 ≤ (l0.length : Int)) = true := decide_eq_true c16
                clear c16
                by_cases c17 : ((l0.length : Int) : Int).toNat ≤ 281474976710656
                · rw [if_pos c17] at H
                  have c17b0 := eq_true c17
                  have c17b1 : decide (((l0.length : Int) : Int).toNat ≤ 281474976710656) = true := decide_eq_true c17
                  clear c17
                  obtain ⟨y106, hy106⟩ : ∃ y_ : List Int, y_ = (List.replicate ((l0.length : Int) : Int).toNat 0) := ⟨_, rfl⟩
                  replace H : (spec_PolyThrough.l2 k2 l0 l1 y106 (l0.length : Int) 0) = some (r1, r2) := by first | (rw [hy106]; with_reducible exact H) | (have H2_ := (Option.bind_some _ _).symm.trans H; rw [hy106]; with_reducible exact H2_) | (have H2_ := (Option.bind_some _ _).symm.trans H; with_reducible exact H2_) | with_reducible exact H | (rw [hy106]; exact H) | exact H
                  have Ny106 := Aside0.mk hy106
                  clear hy106
                  have H' := Aside0.mk H
                  clear H
                  go_wp2_with (first | ((with_reducible refine gate_dst (N := 54) rfl ?_); (try (refine gate_guard (by rfl) ?_; dsimp only)); refine Kd.R_make (Kd.int .u8) _ 5 rfl (N := 54) rfl 22 _ _ rfl (l0.length : Int) rfl rfl Try.underlying22 (.int .u8 0) 1 info5 rfl (by decide) (by omega) 0 (ok := fun _ => True) (okp := fun _ => True) rfl (fun _ hk => hk) trivial (of_decide_eq_true (by first | (with_reducible assumption) | assumption)) (Nat.le_trans (Nat.mul_le_mul_right _ (of_decide_eq_true (by first | (with_reducible assumption) | assumption) : (l0.length : Int).toNat ≤ 281474976710656)) (by omega)) (Below.refl _ _) (Nat.le_refl _) ?_; intro v107 w18 ho19 hb hg_ hnew_; clear hg_ hnew_; (first | rw [← Ny106.out] at ho19 | (simp only [Int.reduceToNat] at ho19; rw [← Ny106.out] at ho19)); have n0_ := Aside0.mk (Kd.R_lower ho19 (below_size (by repeat (first | (with_reducible first | exact HB.out | apply below_alloc | apply pw_below_drewN | apply below_drew1) | exact HB.out)))); have n1_ := Aside0.mk (below_step (by repeat (first | (with_reducible first | exact HB.out | apply below_alloc | apply pw_below_drewN | apply below_drew1) | exact HB.out)) hb); clear HB; have HO108 := n0_; have HB := n1_; clear n0_ n1_; clear hb ho19))
                  go_loopg [57] k2 (fun kq v57 w' => ∃ (x10_3 : List Int) (x57_3 : Int), v57 = .int .i64 x57_3 ∧ Aside0 (spec_PolyThrough.l2 kq l0 l1 x10_3 (l0.length : Int) x57_3 = some (r1, r2)) ∧ Aside0 (kq ≤ k2) ∧ Aside0 (Kd.R (Kd.int .u8) 5 w' w.heap.size (fun _ => True) v107 x10_3) ∧ Aside0 (Below w.heap.size w w'))
                  case atStart => exact ⟨(y106), (0), (by first | rfl | (simp; done) | (simp [*]; done)), H', ⟨Nat.le_refl _⟩, ⟨by (with_reducible repeat (first | apply Kd.R_alloc | apply Kd.R_drewN | apply Kd.R_drew)); exact HO108.out⟩, ⟨by repeat (first | (with_reducible first | exact HB.out | apply below_alloc | apply pw_below_drewN | apply below_drew1) | exact HB.out)⟩⟩
                  case round =>
                    clear H'
                    try clear c1
                    try clear p1
                    try clear q1
                    try clear hx1
                    try clear p2
                    try clear c4
                    try clear c4b0
                    try clear c4b1
                    try clear c4b2
                    try clear c5
                    try clear c6
                    try clear c6b0
                    try clear p6
                    try clear c7
                    try clear c7b0
                    try clear c8
                    try clear c8b0
                    try clear c9
                    try clear c9b0
                    try clear c10
                    try clear c10b0
                    try clear c10b1
                    try clear p10
                    try clear q10
                    try clear hx10
                    try clear c12
                    try clear c12b0
                    try clear c13
                    try clear c13b0
                    try clear c14
                    try clear c14b0
                    try clear c15
                    try clear c15b0
                    try clear c15b1
                    try clear c16
                    try clear c16b0
                    try clear c16b1
                    try clear c17
                    try clear c17b0
                    try clear c17b1
                    try clear hx103_0
                    try clear hx105_0
                    try clear p1
                    try clear p10
                    try clear p103
                    try clear p105
                    try clear p2
                    try clear q1
                    try clear q10
                    try clear q103
                    try clear q105
                    obtain ⟨x10_3, x57_3, rfl, HA, HK3, HO_10, HB⟩ := hrel
                    cases gk with
                    | zero => exact absurd HA.out (fun h_ => by change none = some _ at h_; cases h_)
                    | succ k3 =>
                      have H := HA.out
                      clear HA
                      simp only [spec_PolyThrough.l2] at H
                      by_cases c20 : x57_3 < (l0.length : Int)
                      · rw [if_pos c20] at H
                        have c20b0 : decide (x57_3 < (l0.length : Int)) = true := decide_eq_true c20
                        clear c20
                        obtain ⟨y109, hy109⟩ : ∃ y_ : List Int, y_ = (([1] : List Int)) := ⟨_, rfl⟩
                        replace H : (spec_PolyThrough.l3 k3 l0 l1 x10_3 x57_3 y109 1 (l0.length : Int) x57_3 l0 (l0.length : Int) 0) = some (r1, r2) := by first | (rw [hy109]; with_reducible exact H) | (have H2_ := (Option.bind_some _ _).symm.trans H; rw [hy109]; with_reducible exact H2_) | (have H2_ := (Option.bind_some _ _).symm.trans H; with_reducible exact H2_) | with_reducible exact H | (rw [hy109]; exact H) | exact H
                        have Ny109 := Aside0.mk hy109
                        clear hy109
                        have H' := Aside0.mk H
                        clear H
                        go_wp2_with (first | ((with_reducible refine gate_dst (N := 60) rfl ?_); (try (refine gate_guard (by rfl) ?_; dsimp only)); refine Kd.R_lit (Kd.int .u8) _ 5 ?hg (N := 60) ?hd (xs := ([1] : List Int)) (inner := [.int .u8 1]) (ok := fun _ => True) (okp := fun _ => True) ?hr ?hp (fun _ hk => hk) trivial (Below.refl _ _) (Nat.le_refl _) (by simp) ?_; (case hd => rfl); (case hg => rfl); (case hr => first | (go_simp; done) | (go_simp; rfl)); (case hp => exact (Reps.one (show Kd.M (Kd.int .u8) _ _ _ 1 [.int .u8 1] from rfl) (Reps.none _ _))); intro v110 w21 ho22 hb hg_ hnew_; clear hg_ hnew_; (first | rw [← Ny109.out] at ho22 | (simp only [Int.reduceToNat] at ho22; rw [← Ny109.out] at ho22)); have n0_ := Aside0.mk (Kd.R_elder' (by (with_reducible repeat (first | apply Kd.R_alloc | apply Kd.R_drewN | apply Kd.R_drew)); exact HO_10.out) (Kd.R_base ho22) hb); have n1_ := Aside0.mk (Kd.R_lower (Kd.R_new' ho22 (Kd.R_lt (by (with_reducible repeat (first | apply Kd.R_alloc | apply Kd.R_drewN | apply Kd.R_drew)); exact HO_10.out))) (below_size (by repeat (first | (with_reducible first | exact HB.out | apply below_alloc | apply pw_below_drewN | apply below_drew1) | exact HB.out)))); have n2_ := Aside0.mk (below_step (by repeat (first | (with_reducible first | exact HB.out | apply below_alloc | apply pw_below_drewN | apply below_drew1) | exact HB.out)) hb); clear HO_10; clear HB; have HO_10 := n0_; have HO111 := n1_; have HB := n2_; clear n0_ n1_ n2_; clear hb ho22))
                        go_loopg [12, 13, 63] k3 (fun kq v12 v13 v63 w' => ∃ (x10_4 : List Int) (x12_4 : List Int) (x13_4 : Int) (x63_4 : Int), v13 = .int .u8 x13_4 ∧ v63 = .int .i64 x63_4 ∧ Aside0 (spec_PolyThrough.l3 kq l0 l1 x10_4 x57_3 x12_4 x13_4 (l0.length : Int) x57_3 l0 (l0.length : Int) x63_4 = some (r1, r2)) ∧ Aside0 (kq ≤ k3) ∧ Aside0 (Kd.R (Kd.int .u8) 5 w' w.heap.size (fun k_ => some k_ ≠ (v12 : Value).ownBlock) v107 x10_4) ∧ Aside0 (Kd.R (Kd.int .u8) 5 w' w.heap.size (fun k_ => some k_ ≠ (v107 : Value).ownBlock) v12 x12_4) ∧ Aside0 (Below w.heap.size w w'))
                        case atStart => exact ⟨(x10_3), (y109), (1), (0), (by first | rfl | (simp; done) | (simp [*]; done)), (by first | rfl | (simp; done) | (simp [*]; done)), H', ⟨Nat.le_refl _⟩, ⟨by (with_reducible repeat (first | apply Kd.R_alloc | apply Kd.R_drewN | apply Kd.R_drew)); exact Kd.R_mono HO_10.out (fun _ hk => hk.2)⟩, ⟨by (with_reducible repeat (first | apply Kd.R_alloc | apply Kd.R_drewN | apply Kd.R_drew)); exact Kd.R_mono HO111.out (fun _ hk => hk.2)⟩, ⟨by repeat (first | (with_reducible first | exact HB.out | apply below_alloc | apply pw_below_drewN | apply below_drew1) | exact HB.out)⟩⟩
                        case round =>
                          clear H'
                          try clear c1
                          try clear p1
                          try clear q1
                          try clear hx1
                          try clear c2
                          try clear p2
                          try clear c4
                          try clear c4b0
                          try clear c4b1
                          try clear c4b2
                          try clear c5
                          try clear c6
                          try clear c6b0
                          try clear p6
                          try clear c7
                          try clear c7b0
                          try clear c8
                          try clear c8b0
                          try clear c9
                          try clear c9b0
                          try clear c10
                          try clear c10b0
                          try clear c10b1
                          try clear p10
                          try clear q10
                          try clear hx10
                          try clear c12
                          try clear c12b0
                          try clear c13
                          try clear c13b0
                          try clear c14
                          try clear c14b0
                          try clear c15
                          try clear c15b0
                          try clear c15b1
                          try clear c16
                          try clear c16b0
                          try clear c16b1
                          try clear c17
                          try clear c17b0
                          try clear c17b1
                          try clear c20
                          try clear c20b0
                          try clear hx103_0
                          try clear hx105_0
                          try clear p1
                          try clear p10
                          try clear p103
                          try clear p105
                          try clear p2
                          try clear p6
                          try clear q1
                          try clear q10
                          try clear q103
                          try clear q105
                          obtain ⟨x10_4, x12_4, x13_4, x63_4, rfl, rfl, HA, HK4, HO_10, HO_12, HB⟩ := hrel
                          cases gk with
                          | zero => exact absurd HA.out (fun h_ => by change none = some _ at h_; cases h_)
                          | succ k4 =>
                            have H := HA.out
                            clear HA
                            simp only [spec_PolyThrough.l3] at H
                            by_cases c23 : x63_4 < (l0.length : Int)
                            · rw [if_pos c23] at H
                              have c23b0 : decide (x63_4 < (l0.length : Int)) = true := decide_eq_true c23
                              clear c23
                              by_cases c24 : 0 ≤ x63_4
                              · rw [if_pos c24] at H
                                have c24b0 : decide (0 ≤ x63_4) = true := decide_eq_true c24
                                clear c24
                                by_cases c25 : x63_4 < (l0.length : Int)
                                · rw [if_pos c25] at H
                                  have c25b0 : decide (x63_4 < (l0.length : Int)) = true := decide_eq_true c25
                                  clear c25
                                  by_cases c26 : x63_4 = x57_3
                                  · rw [if_pos c26] at H
                                    have c26b0 : (x63_4 == x57_3) = true := beq_iff_eq.mpr c26
                                    have c26b1 : (x63_4 != x57_3) = false := bne_eq_false_iff_eq.mpr c26
                                    clear c26
                                    have H' := Aside0.mk H
                                    clear H
                                    have p112 : 0 ≤ (x63_4 : Int) := of_decide_eq_true (by first | (with_reducible assumption) | assumption)
                                    have q112 : x63_4 < (l0.length : Int) := of_decide_eq_true (by first | (with_reducible assumption) | assumption)
                                    obtain ⟨ad112, e112, hx112_0⟩ := Kd.at_int HR0.out x63_4 p112 q112
                                    cases e112
                                    replace hx112_0 := (HB.out.cell (World.block_lt_of_cell? w _ hx112_0)).trans hx112_0
                                    replace p112 := eq_true p112
                                    replace q112 := eq_true q112
                                    go_wp2
                                    go_roundg k4
                                    case measure => have := HJ2.out; have := HK2.out; have := HK3.out; have := HK4.out; omega
                                    case rel => exact ⟨(x10_4), (x12_4), (x13_4), (wrap64 (x63_4 + 1)), (by first | rfl | (simp; done) | (simp [*]; done)), (by first | rfl | (simp; done) | (simp [*]; done)), H', ⟨by have := HJ2.out; have := HK2.out; have := HK3.out; have := HK4.out; omega⟩, ⟨by (with_reducible repeat (first | apply Kd.R_alloc | apply Kd.R_drewN | apply Kd.R_drew)); exact HO_10.out⟩, ⟨by (with_reducible repeat (first | apply Kd.R_alloc | apply Kd.R_drewN | apply Kd.R_drew)); exact HO_12.out⟩, ⟨by repeat (first | (with_reducible first | exact HB.out | apply below_alloc | apply pw_below_drewN | apply below_drew1) | exact HB.out)⟩⟩
                                  · rw [if_neg c26] at H
                                    have c26b0 : (x63_4 == x57_3) = false := beq_eq_false_iff_ne.mpr c26
                                    have c26b1 : (x63_4 != x57_3) = true := bne_iff_ne.mpr c26
                                    obtain ⟨ji27, hji27⟩ : ∃ j_ : Int, (wrap64 ((x12_4.length : Int) + 1)) = j_ := ⟨_, rfl⟩
                                    replace H : (if 0 ≤ (ji27) then (if (ji27 : Int).toNat ≤ 281474976710656 then (spec_PolyThrough.l4 k4 l0 l1 x10_4 x57_3 x13_4 (rd l0 x63_4) (List.replicate (ji27 : Int).toNat 0) (l0.length : Int) x57_3 l0 (l0.length : Int) x63_4 x12_4 (x12_4.length : Int) 0) else (none)) else (none)) = some (r1, r2) := by first | (rw [hji27] at H; exact H) | (simp only [hji27] at H ⊢; exact H)
                                    have hji27w : (IntKind.i64.wrap ((x12_4.length : Int) + 1)) = ji27 := (i64_w _).trans hji27
                                    by_cases c28 : 0 ≤ (ji27)
                                    · rw [if_pos c28] at H
                                      have c28b0 := eq_true c28
                                      have c28b1 : decide (0 ≤ (ji27)) = true := decide_eq_true c28
                                      clear c28
                                      by_cases c29 : (ji27 : Int).toNat ≤ 281474976710656
                                      · rw [if_pos c29] at H
                                        have c29b0 := eq_true c29
                                        have c29b1 : decide ((ji27 : Int).toNat ≤ 281474976710656) = true := decide_eq_true c29
                                        clear c29
                                        obtain ⟨y113, hy113⟩ : ∃ y_ : List Int, y_ = (List.replicate (ji27 : Int).toNat 0) := ⟨_, rfl⟩
                                        replace H : (spec_PolyThrough.l4 k4 l0 l1 x10_4 x57_3 x13_4 (rd l0 x63_4) y113 (l0.length : Int) x57_3 l0 (l0.length : Int) x63_4 x12_4 (x12_4.length : Int) 0) = some (r1, r2) := by first | (rw [hy113]; with_reducible exact H) | (have H2_ := (Option.bind_some _ _).symm.trans H; rw [hy113]; with_reducible exact H2_) | (have H2_ := (Option.bind_some _ _).symm.trans H; with_reducible exact H2_) | with_reducible exact H | (rw [hy113]; exact H) | exact H
                                        have Ny113 := Aside0.mk hy113
                                        clear hy113
                                        have H' := Aside0.mk H
                                        clear H
                                        have p112 : 0 ≤ (x63_4 : Int) := of_decide_eq_true (by first | (with_reducible assumption) | assumption)
                                        have q112 : x63_4 < (l0.length : Int) := of_decide_eq_true (by first | (with_reducible assumption) | assumption)
                                        obtain ⟨ad112, e112, hx112_0⟩ := Kd.at_int HR0.out x63_4 p112 q112
                                        cases e112
                                        replace hx112_0 := (HB.out.cell (World.block_lt_of_cell? w _ hx112_0)).trans hx112_0
                                        replace p112 := eq_true p112
                                        replace q112 := eq_true q112
                                        obtain ⟨Ao30, co30, eo30⟩ := Kd.R_slice HO_12.out
                                        subst eo30
                                        go_wp2_with (first | ((with_reducible refine gate_dst (N := 74) rfl ?_); (try (refine gate_guard (by rfl) ?_; dsimp only)); refine Kd.R_make (Kd.int .u8) _ 5 rfl (N := 74) rfl 22 _ _ rfl ji27 rfl rfl Try.underlying22 (.int .u8 0) 1 info5 rfl (by decide) (by omega) 0 (ok := fun _ => True) (okp := fun _ => True) rfl (fun _ hk => hk) trivial (of_decide_eq_true (by first | (with_reducible assumption) | assumption)) (Nat.le_trans (Nat.mul_le_mul_right _ (of_decide_eq_true (by first | (with_reducible assumption) | assumption) : ji27.toNat ≤ 281474976710656)) (by omega)) (Below.refl _ _) (Nat.le_refl _) ?_; intro v114 w31 ho32 hb hg_ hnew_; clear hg_ hnew_; (first | rw [← Ny113.out] at ho32 | (simp only [Int.reduceToNat] at ho32; rw [← Ny113.out] at ho32)); have n0_ := Aside0.mk (Kd.R_elder' (by (with_reducible repeat (first | apply Kd.R_alloc | apply Kd.R_drewN | apply Kd.R_drew)); exact HO_10.out) (Kd.R_base ho32) hb); have n1_ := Aside0.mk (Kd.R_elder' (by (with_reducible repeat (first | apply Kd.R_alloc | apply Kd.R_drewN | apply Kd.R_drew)); exact HO_12.out) (Kd.R_base ho32) hb); have n2_ := Aside0.mk (Kd.R_lower (Kd.R_new' (Kd.R_new' ho32 (Kd.R_lt (by (with_reducible repeat (first | apply Kd.R_alloc | apply Kd.R_drewN | apply Kd.R_drew)); exact HO_10.out))) (Kd.R_lt (by (with_reducible repeat (first | apply Kd.R_alloc | apply Kd.R_drewN | apply Kd.R_drew)); exact HO_12.out))) (below_size (by repeat (first | (with_reducible first | exact HB.out | apply below_alloc | apply pw_below_drewN | apply below_drew1) | exact HB.out)))); have n3_ := Aside0.mk (below_step (by repeat (first | (with_reducible first | exact HB.out | apply below_alloc | apply pw_below_drewN | apply below_drew1) | exact HB.out)) hb); clear HO_10; clear HO_12; clear HB; have HO_10 := n0_; have HO_12 := n1_; have HO115 := n2_; have HB := n3_; clear n0_ n1_ n2_ n3_; clear hb ho32))
                                        go_loopg [77] k4 (fun kq v77 w' => ∃ (x16_5 : List Int) (x77_5 : Int), v77 = .int .i64 x77_5 ∧ Aside0 (spec_PolyThrough.l4 kq l0 l1 x10_4 x57_3 x13_4 (rd l0 x63_4) x16_5 (l0.length : Int) x57_3 l0 (l0.length : Int) x63_4 x12_4 (x12_4.length : Int) x77_5 = some (r1, r2)) ∧ Aside0 (kq ≤ k4) ∧ Aside0 (Kd.R (Kd.int .u8) 5 w' w.heap.size (fun k_ => some k_ ≠ (v114 : Value).ownBlock ∧ some k_ ≠ ((.slice Ao30 x12_4.length co30) : Value).ownBlock) v107 x10_4) ∧ Aside0 (Kd.R (Kd.int .u8) 5 w' w.heap.size (fun k_ => some k_ ≠ (v107 : Value).ownBlock ∧ some k_ ≠ ((.slice Ao30 x12_4.length co30) : Value).ownBlock) v114 x16_5) ∧ Aside0 (Kd.R (Kd.int .u8) 5 w' w.heap.size (fun k_ => some k_ ≠ (v107 : Value).ownBlock ∧ some k_ ≠ (v114 : Value).ownBlock) (.slice Ao30 x12_4.length co30) x12_4) ∧ Aside0 (Below w.heap.size w w'))
                                        case atStart => exact ⟨(y113), (0), (by first | rfl | (simp; done) | (simp [*]; done)), H', ⟨Nat.le_refl _⟩, ⟨by (with_reducible repeat (first | apply Kd.R_alloc | apply Kd.R_drewN | apply Kd.R_drew)); exact Kd.R_mono HO_10.out (fun _ hk => ⟨hk.2, hk.1⟩)⟩, ⟨by (with_reducible repeat (first | apply Kd.R_alloc | apply Kd.R_drewN | apply Kd.R_drew)); exact Kd.R_mono HO115.out (fun _ hk => ⟨hk.1.2, hk.2⟩)⟩, ⟨by (with_reducible repeat (first | apply Kd.R_alloc | apply Kd.R_drewN | apply Kd.R_drew)); exact HO_12.out⟩, ⟨by repeat (first | (with_reducible first | exact HB.out | apply below_alloc | apply pw_below_drewN | apply below_drew1) | exact HB.out)⟩⟩
                                        case round =>
                                          clear H'
                                          try clear c1
                                          try clear p1
                                          try clear q1
                                          try clear hx1
                                          try clear c2
                                          try clear p2
                                          try clear c4
                                          try clear c4b0
                                          try clear c4b1
                                          try clear c4b2
                                          try clear c5
                                          try clear c6
                                          try clear c6b0
                                          try clear p6
                                          try clear c7
                                          try clear c7b0
                                          try clear c8
                                          try clear c8b0
                                          try clear c9
                                          try clear c9b0
                                          try clear c10
                                          try clear c10b0
                                          try clear c10b1
                                          try clear p10
                                          try clear q10
                                          try clear hx10
                                          try clear p11
                                          try clear q11
                                          try clear hx11
                                          try clear c12
                                          try clear c12b0
                                          try clear c13
                                          try clear c13b0
                                          try clear c14
                                          try clear c14b0
                                          try clear c15
                                          try clear c15b0
                                          try clear c15b1
                                          try clear c16
                                          try clear c16b0
                                          try clear c16b1
                                          try clear c17
                                          try clear c17b0
                                          try clear c17b1
                                          try clear c20
                                          try clear c20b0
                                          try clear c23
                                          try clear c23b0
                                          try clear c24
                                          try clear c24b0
                                          try clear c25
                                          try clear c25b0
                                          try clear c26
                                          try clear c26b0
                                          try clear c26b1
                                          try clear c28
                                          try clear c28b0
                                          try clear c28b1
                                          try clear c29
                                          try clear c29b0
                                          try clear c29b1
                                          try clear hx103_0
                                          try clear hx105_0
                                          try clear hx112_0
                                          try clear p1
                                          try clear p10
                                          try clear p103
                                          try clear p105
                                          try clear p112
                                          try clear p2
                                          try clear p6
                                          try clear q1
                                          try clear q10
                                          try clear q103
                                          try clear q105
                                          try clear q112
                                          obtain ⟨x16_5, x77_5, rfl, HA, HK5, HO_10, HO_16, HO_75, HB⟩ := hrel
                                          cases gk with
                                          | zero => exact absurd HA.out (fun h_ => by change none = some _ at h_; cases h_)
                                          | succ k5 =>
                                            have H := HA.out
                                            clear HA
                                            simp only [spec_PolyThrough.l4] at H
                                            by_cases c33 : x77_5 < (x12_4.length : Int)
                                            · rw [if_pos c33] at H
                                              have c33b0 : decide (x77_5 < (x12_4.length : Int)) = true := decide_eq_true c33
                                              clear c33
                                              by_cases c34 : 0 ≤ x77_5
                                              · rw [if_pos c34] at H
                                                have c34b0 : decide (0 ≤ x77_5) = true := decide_eq_true c34
                                                clear c34
                                                by_cases c35 : x77_5 < (x12_4.length : Int)
                                                · rw [if_pos c35] at H
                                                  have c35b0 : decide (x77_5 < (x12_4.length : Int)) = true := decide_eq_true c35
                                                  clear c35
                                                  obtain ⟨ji36, hji36⟩ : ∃ j_ : Int, (wrap64 (x77_5 + 1)) = j_ := ⟨_, rfl⟩
                                                  replace H : (if 0 ≤ (ji36) then (if (ji36) < (x16_5.length : Int) then ((some (x16_5.set ((ji36) : Int).toNat (Go.bits .xor .u8 (rd x16_5 (ji36)) (rd x12_4 x77_5)) : List Int)).bind fun y118 => (if x77_5 < (x16_5.length : Int) then ((spec_l2Mul.f k5 (rd x12_4 x77_5) (rd l0 x63_4)).bind fun t120 => (spec_PolyThrough.l4 k5 l0 l1 x10_4 x57_3 x13_4 (rd l0 x63_4) (y118.set (x77_5 : Int).toNat (Go.bits .xor .u8 (rd y118 x77_5) t120)) (l0.length : Int) x57_3 l0 (l0.length : Int) x63_4 x12_4 (x12_4.length : Int) ji36)) else (none))) else (none)) else (none)) = some (r1, r2) := by first | (rw [hji36] at H; exact H) | (simp only [hji36] at H ⊢; exact H)
                                                  have hji36w : (IntKind.i64.wrap (x77_5 + 1)) = ji36 := (i64_w _).trans hji36
                                                  by_cases c37 : 0 ≤ (ji36)
                                                  · rw [if_pos c37] at H
                                                    have c37b0 : decide (0 ≤ (ji36)) = true := decide_eq_true c37
                                                    clear c37
                                                    by_cases c38 : (ji36) < (x16_5.length : Int)
                                                    · rw [if_pos c38] at H
                                                      have c38b0 : decide ((ji36) < (x16_5.length : Int)) = true := decide_eq_true c38
                                                      clear c38
                                                      obtain ⟨y118, hy118⟩ : ∃ y_ : List Int, y_ = (x16_5.set ((ji36) : Int).toNat (Go.bits .xor .u8 (rd x16_5 (ji36)) (rd x12_4 x77_5))) := ⟨_, rfl⟩
                                                      replace H : (if x77_5 < (x16_5.length : Int) then ((spec_l2Mul.f k5 (rd x12_4 x77_5) (rd l0 x63_4)).bind fun t120 => (spec_PolyThrough.l4 k5 l0 l1 x10_4 x57_3 x13_4 (rd l0 x63_4) (y118.set (x77_5 : Int).toNat (Go.bits .xor .u8 (rd y118 x77_5) t120)) (l0.length : Int) x57_3 l0 (l0.length : Int) x63_4 x12_4 (x12_4.length : Int) ji36)) else (none)) = some (r1, r2) := by first | (rw [hy118]; with_reducible exact H) | (have H2_ := (Option.bind_some _ _).symm.trans H; rw [hy118]; with_reducible exact H2_) | (have H2_ := (Option.bind_some _ _).symm.trans H; with_reducible exact H2_) | with_reducible exact H | (rw [hy118]; exact H) | exact H
                                                      have Ny118 := Aside0.mk hy118
                                                      clear hy118
                                                      by_cases c40 : x77_5 < (x16_5.length : Int)
                                                      · rw [if_pos c40] at H
                                                        have c40b0 : decide (x77_5 < (x16_5.length : Int)) = true := decide_eq_true c40
                                                        clear c40
                                                        replace H := Option.bind_eq_some_iff.mp H
                                                        obtain ⟨t120, A410, H⟩ := H
                                                        replace H : (spec_PolyThrough.l4 k5 l0 l1 x10_4 x57_3 x13_4 (rd l0 x63_4) (y118.set (x77_5 : Int).toNat (Go.bits .xor .u8 (rd y118 x77_5) t120)) (l0.length : Int) x57_3 l0 (l0.length : Int) x63_4 x12_4 (x12_4.length : Int) ji36) = some (r1, r2) := H
                                                        have A41 := Aside0.mk A410
                                                        clear A410
                                                        obtain ⟨y121, hy121⟩ : ∃ y_ : List Int, y_ = (y118.set (x77_5 : Int).toNat (Go.bits .xor .u8 (rd y118 x77_5) t120)) := ⟨_, rfl⟩
                                                        replace H : (spec_PolyThrough.l4 k5 l0 l1 x10_4 x57_3 x13_4 (rd l0 x63_4) y121 (l0.length : Int) x57_3 l0 (l0.length : Int) x63_4 x12_4 (x12_4.length : Int) ji36) = some (r1, r2) := by first | (rw [hy121]; with_reducible exact H) | (have H2_ := (Option.bind_some _ _).symm.trans H; rw [hy121]; with_reducible exact H2_) | (have H2_ := (Option.bind_some _ _).symm.trans H; with_reducible exact H2_) | with_reducible exact H | (rw [hy121]; exact H) | exact H
                                                        have Ny121 := Aside0.mk hy121
                                                        clear hy121
                                                        have H' := Aside0.mk H
                                                        clear H
                                                        have p116 : 0 ≤ (x77_5 : Int) := of_decide_eq_true (by first | (with_reducible assumption) | assumption)
                                                        have q116 : x77_5 < (x12_4.length : Int) := of_decide_eq_true (by first | (with_reducible assumption) | assumption)
                                                        obtain ⟨ad116, e116, hx116_0⟩ := Kd.at_int (Kd.R_reads' HO_75.out).2.2 x77_5 p116 q116
                                                        cases e116
                                                        replace p116 := eq_true p116
                                                        replace q116 := eq_true q116
                                                        obtain ⟨Ao43, co43, eo43⟩ := Kd.R_slice HO_16.out
                                                        subst eo43
                                                        have p117 : 0 ≤ ((ji36) : Int) := of_decide_eq_true (by first | (with_reducible assumption) | assumption)
                                                        have q117 : (ji36) < (x16_5.length : Int) := of_decide_eq_true (by first | (with_reducible assumption) | assumption)
                                                        obtain ⟨ad117, e117, hx117_0⟩ := Kd.at_int (Kd.R_reads' HO_16.out).2.2 (ji36) p117 q117
                                                        cases e117
                                                        replace p117 := eq_true p117
                                                        replace q117 := eq_true q117
                                                        have p39 : 0 ≤ ((ji36) : Int) := of_decide_eq_true (by first | (with_reducible assumption) | assumption)
                                                        have q39 : ((ji36) : Int) < ((x16_5.length : Int) : Int) := of_decide_eq_true (by first | (with_reducible assumption) | assumption)
                                                        obtain ⟨go39, co39, eo39, gb39, gl39, cl39, HG39⟩ := Kd.R_form HO_16.out (by omega)
                                                        (first | cases eo39 | (injection eo39 with ea_ en_ ec_; (first | subst ea_ | (injection ea_ with ea_; subst ea_)); subst ec_; clear en_))
                                                        have GB39 := Aside0.mk gb39
                                                        have GG39 := Aside0.mk HG39
                                                        clear gb39 gl39 HG39
                                                        (first | simp only [add_plain] at hx117_0 | skip)
                                                        obtain ⟨hx39_0, hf39_0⟩ := Kd.R_celln 0 HO_16.out ((ji36) : Int) p39 q39
                                                        replace p39 := eq_true p39
                                                        replace q39 := eq_true q39
                                                        have HP44 := Kd.R_putg HO_16.out ((ji36) : Int) (Go.bits .xor .u8 (rd x16_5 (ji36)) (rd x12_4 x77_5))
                                                        try go_wp2_with (first | ((with_reducible refine gate_store (t := 5) (p := 89) rfl ?_); refine store_event (t := 5) (p := 89) (v := ?vo_w45) (w1 := (wr.setCell ⟨go39, ((ji36) : Int).toNat, none⟩ (.int .u8 (Go.bits .xor .u8 (rd x16_5 (ji36)) (rd x12_4 x77_5))))) ?hg ?ho ?hn ?hr ?_; (case ho => rfl); (case hg => rfl); (case hn => rfl); (case hr => first | (go_simp; done) | (go_simp; rfl)); intro w45 hw; have hg : wr.grownBy w45 (some go39) := (by rw [hw]; exact HP44.2); have hp_ : Kd.R (Kd.int .u8) 5 w45 w.heap.size (fun k_ => some k_ ≠ (v107 : Value).ownBlock ∧ some k_ ≠ (.slice (some ad116) x12_4.length co30 : Value).ownBlock) (.slice (some ⟨go39, 0, none⟩) x16_5.length co43) y118 := (by rw [hw, Ny118.out]; exact HP44.1); clear HP44; have n0_ := Aside0.mk (Kd.R_after (v := (.slice (some ⟨go39, 0, none⟩) x16_5.length co43)) (v1 := (.slice (some ⟨go39, 0, none⟩) x16_5.length co43)) (ok := (fun k_ => some k_ ≠ (.slice (some ad116) x12_4.length co30 : Value).ownBlock)) (by (with_reducible repeat (first | apply Kd.R_alloc | apply Kd.R_drewN | apply Kd.R_drew)); exact Kd.R_mono HO_10.out (fun _ hk => ⟨hk.2, hk.1⟩)) hg (.inl rfl)); have n1_ := Aside0.mk (hp_); have n2_ := Aside0.mk (Kd.R_after (v := (.slice (some ⟨go39, 0, none⟩) x16_5.length co43)) (v1 := (.slice (some ⟨go39, 0, none⟩) x16_5.length co43)) (ok := (fun k_ => some k_ ≠ (v107 : Value).ownBlock)) (by (with_reducible repeat (first | apply Kd.R_alloc | apply Kd.R_drewN | apply Kd.R_drew)); exact HO_75.out) hg (.inl rfl)); have n3_ := Aside0.mk ((by rw [hw]; exact below_set (HB.out) GB39.out : Below w.heap.size w w45)); clear HO_10; clear HO_16; clear HO_75; clear HB; have HO_10 := n0_; have HO_16 := n1_; have HO_75 := n2_; have HB := n3_; clear n0_ n1_ n2_ n3_; clear hg hw hp_))
                                                        have n0_ := Aside0.mk (Kd.R_drew HO_10.out)
                                                        have n1_ := Aside0.mk (Kd.R_drew HO_16.out)
                                                        have n2_ := Aside0.mk (Kd.R_drew HO_75.out)
                                                        have n3_ := Aside0.mk (below_drew1 HB.out)
                                                        clear HO_10
                                                        clear HO_16
                                                        clear HO_75
                                                        clear HB
                                                        have HO_10 := n0_
                                                        have HO_16 := n1_
                                                        have HO_75 := n2_
                                                        have HB := n3_
                                                        clear n0_ n1_ n2_ n3_
                                                        have p119 : 0 ≤ (x77_5 : Int) := of_decide_eq_true (by first | (with_reducible assumption) | assumption)
                                                        have q119 : x77_5 < (y118.length : Int) := (by have h_ : (x77_5 : Int) < ((x16_5.length : Int) : Int) := of_decide_eq_true (by first | (with_reducible assumption) | assumption); first | (have e_ := (Kd.R_reads' HO_16.out).1; omega) | simpa only [Ny118.out, List.length_set] using h_)
                                                        have ql119 : ((x77_5 : Int) < ((x16_5.length : Int) : Int)) = True := eq_true (of_decide_eq_true (by first | (with_reducible assumption) | assumption))
                                                        obtain ⟨ad119, e119, hx119_0⟩ := Kd.at_int (Kd.R_reads' HO_16.out).2.2 x77_5 p119 q119
                                                        obtain rfl : (⟨go39, 0, none⟩ : Addr) = ad119 := (by injection e119)
                                                        (first | simp only [add_plain] at hx119_0 | simp only [add_at] at hx119_0 | simp only [Addr.add, Nat.zero_add] at hx119_0 | skip)
                                                        replace p119 := eq_true p119
                                                        replace q119 := eq_true q119
                                                        refine start_ (n := 10) (S := fun w' => w'.cell? ⟨go39, (x77_5).toNat, none⟩ = some (.int .u8 (rd y118 x77_5))) (ds := [9]) #[false, false, false, false, false, false, false, false, false, false] (by kernel_rfl) rfl rfl (hx119_0) (fun hHeld => ?_); refine with_tabW spec_PolyThrough.tab28 spec_PolyThrough.bits28 (fun HT_ HW_ => ?_)
                                                        generalize w45.drew = w46 at HO_10 HO_16 HO_75 HB hx119_0 hHeld ⊢
                                                        refine pure_ (i := 0) (N := some 90) (v := ?_) (a' := ?_) #[true, false, false, false, false, false, false, false, false, false] rfl rfl (any_of HT_.out (by kernel_rfl)) (fun _ _ _ h => h) (Or.inl ⟨by rfl, ?_⟩) ?_ ?_
                                                        rotate_left
                                                        · intro w'
                                                          go_simp
                                                          with_reducible rfl
                                                        rotate_left
                                                        · simp only [Act.put, List.setIfInBounds_toArray, List.set_cons_zero, List.set_cons_succ, i64_w, i32_w]
                                                          rfl
                                                        refine pure_ (i := 1) (N := some 91) (v := ?_) (a' := ?_) #[true, true, false, false, false, false, false, false, false, false] rfl rfl (any_of HT_.out (by kernel_rfl)) (fun _ _ _ h => h) (Or.inl ⟨by rfl, ?_⟩) ?_ ?_
                                                        rotate_left
                                                        · intro w'
                                                          go_simp
                                                          with_reducible rfl
                                                        rotate_left
                                                        · simp only [Act.put, List.setIfInBounds_toArray, List.set_cons_zero, List.set_cons_succ, i64_w, i32_w]
                                                          rfl
                                                        refine pure_ (i := 2) (N := some 92) (v := ?_) (a' := ?_) #[true, true, true, false, false, false, false, false, false, false] rfl rfl (any_of HT_.out (by kernel_rfl)) (fun _ _ _ h => h) (Or.inl ⟨by rfl, ?_⟩) ?_ ?_
                                                        rotate_left
                                                        · intro w'
                                                          go_simp
                                                          with_reducible rfl
                                                        rotate_left
                                                        · simp only [Act.put, List.setIfInBounds_toArray, List.set_cons_zero, List.set_cons_succ, i64_w, i32_w]
                                                          rfl
                                                        refine pure_ (i := 4) (N := some 94) (v := ?_) (a' := ?_) #[true, true, true, false, true, false, false, false, false, false] rfl rfl (any_of HT_.out (by kernel_rfl)) (fun _ _ _ h => h) (Or.inl ⟨by rfl, ?_⟩) ?_ ?_
                                                        rotate_left
                                                        · intro w'
                                                          go_simp
                                                          with_reducible rfl
                                                        rotate_left
                                                        · simp only [Act.put, List.setIfInBounds_toArray, List.set_cons_zero, List.set_cons_succ, i64_w, i32_w]
                                                          rfl
                                                        refine pure_ (i := 5) (N := some 95) (v := ?_) (a' := ?_) #[true, true, true, false, true, true, false, false, false, false] rfl rfl (any_of HT_.out (by kernel_rfl)) (fun _ _ _ h => h) (Or.inl ⟨by rfl, ?_⟩) ?_ ?_
                                                        rotate_left
                                                        · intro w'
                                                          go_simp
                                                          with_reducible rfl
                                                        rotate_left
                                                        · simp only [Act.put, List.setIfInBounds_toArray, List.set_cons_zero, List.set_cons_succ, i64_w, i32_w]
                                                          rfl
                                                        refine take_ (i := 3) (N := some 93) (v := ?_) (a' := ?_) #[true, true, true, true, true, true, false, false, false, false] rfl rfl (take_ofW HT_.out HW_.out (by kernel_rfl)) (fun _ _ _ h => h) (Or.inl ⟨by rfl, ?_⟩) hHeld ?_ ?_
                                                        rotate_left
                                                        · intro w' s0
                                                          go_simp
                                                          with_reducible rfl
                                                        rotate_left
                                                        · simp only [Act.put, List.setIfInBounds_toArray, List.set_cons_zero, List.set_cons_succ, i64_w, i32_w]
                                                          rfl
                                                        refine one_ (i := 6) (N := some 96) #[true, true, true, true, true, true, true, false, false, false] rfl rfl (one_of HT_.out (by kernel_rfl)) (by decide) (fun K hK => ?_)
                                                        refine goes_ Try.func63 (by kernel_rfl) rfl #[.int .u8 (rd x12_4 x77_5), .int .u8 (rd l0 x63_4)] (by rfl) rfl rfl (by (try simp only [List.map_toArray, List.map_cons, List.map_nil]); first | done | rfl | (simp only [List.length_drop, List.length_take]; rfl)) ?_
                                                        with_reducible refine (spec_l2Mul.calls k5 (rd x12_4 x77_5) (rd l0 x63_4) t120 _ A41.out).mono ?_
                                                        rintro e w' ⟨rfl, ⟨nd, rfl⟩⟩
                                                        refine ⟨_, rfl, ?_⟩
                                                        have p42 : 0 ≤ (x77_5 : Int) := of_decide_eq_true (by first | (with_reducible assumption) | assumption)
                                                        have q42 : (x77_5 : Int) < ((x16_5.length : Int) : Int) := of_decide_eq_true (by first | (with_reducible assumption) | assumption)
                                                        obtain ⟨hx42_0, hf42_0⟩ := Kd.R_celln 0 HO_16.out (x77_5 : Int) p42 q42
                                                        replace p42 := eq_true p42
                                                        replace q42 := eq_true q42
                                                        have HP47 := Kd.R_putn HO_16.out (x77_5 : Int) (Go.bits .xor .u8 (rd y118 x77_5) t120)
                                                        rw [← Ny121.out] at HP47
                                                        have HQ47 := Aside0.mk HP47
                                                        clear HP47
                                                        refine hK.out _ _ (hHeld) (fun hHeld => ?_)
                                                        clear hK K
                                                        refine norm_ (a' := ?_) ?_ ?_
                                                        rotate_left
                                                        · show Act.put _ (some 96) _ = _
                                                          simp only [Act.put, List.setIfInBounds_toArray, List.set_cons_zero, List.set_cons_succ, i64_w, i32_w]
                                                          rfl
                                                        refine pure_ (i := 7) (N := some 97) (v := ?_) (a' := ?_) #[true, true, true, true, true, true, true, true, false, false] rfl rfl (any_of HT_.out (by kernel_rfl)) (fun _ _ _ h => h) (Or.inl ⟨by rfl, ?_⟩) ?_ ?_
                                                        rotate_left
                                                        · intro w'
                                                          go_simp
                                                          with_reducible rfl
                                                        rotate_left
                                                        · simp only [Act.put, List.setIfInBounds_toArray, List.set_cons_zero, List.set_cons_succ, i64_w, i32_w]
                                                          rfl
                                                        refine pure_ (i := 8) (N := some 98) (v := ?_) (a' := ?_) #[true, true, true, true, true, true, true, true, true, false] rfl rfl (any_of HT_.out (by kernel_rfl)) (fun _ _ _ h => h) (Or.inl ⟨by rfl, ?_⟩) ?_ ?_
                                                        rotate_left
                                                        · intro w'
                                                          go_simp
                                                          with_reducible rfl
                                                        rotate_left
                                                        · simp only [Act.put, List.setIfInBounds_toArray, List.set_cons_zero, List.set_cons_succ, i64_w, i32_w]
                                                          rfl
                                                        refine last_ (i := 9) (N := none) #[true, true, true, true, true, true, true, true, true, true] rfl rfl (one_of HT_.out (by kernel_rfl)) (by decide) (fun K hK => ?_)
                                                        refine skip_ (w1 := ?_) (by rfl) rfl ?_ ?_
                                                        rotate_left
                                                        · go_simp
                                                          rfl
                                                        refine hK.out _ _ ?_
                                                        clear hK K
                                                        refine done_ (done_of HT_.out (by kernel_rfl)) ?_
                                                        try go_wp2
                                                        go_roundg k5
                                                        case measure => have := HJ2.out; have := HK2.out; have := HK3.out; have := HK4.out; have := HK5.out; omega
                                                        case rel => exact ⟨(y121), (ji36), (by first | rfl | (simp; done) | (simp only [← hji36] <;> (first | rfl | simp)) | (simp [*]; done)), H', ⟨by have := HJ2.out; have := HK2.out; have := HK3.out; have := HK4.out; have := HK5.out; omega⟩, ⟨by (with_reducible repeat (first | apply Kd.R_alloc | apply Kd.R_drewN | apply Kd.R_drew)); exact Kd.R_mono (Kd.R_far (p := ⟨go39, (x77_5 : Int).toNat, none⟩) (Kd.R_mono HO_10.out (fun k_ hk => (⟨hk, fun e_ => hk.2 (by rw [e_]; rfl)⟩ : _ ∧ k_ ≠ go39))) (fun _ hk => hk.2) (.int .u8 (Go.bits .xor .u8 (rd y118 x77_5) t120))) (fun _ hk => ⟨hk.1.2, hk.1.1⟩)⟩, ⟨by (with_reducible repeat (first | apply Kd.R_alloc | apply Kd.R_drewN | apply Kd.R_drew)); exact HQ47.out⟩, ⟨by (with_reducible repeat (first | apply Kd.R_alloc | apply Kd.R_drewN | apply Kd.R_drew)); exact Kd.R_mono (Kd.R_far (p := ⟨go39, (x77_5 : Int).toNat, none⟩) (Kd.R_mono HO_75.out (fun k_ hk => (⟨hk, fun e_ => hk.2 (by rw [e_]; rfl)⟩ : _ ∧ k_ ≠ go39))) (fun _ hk => hk.2) (.int .u8 (Go.bits .xor .u8 (rd y118 x77_5) t120))) (fun _ hk => ⟨hk.1.1, hk.1.2⟩)⟩, ⟨by repeat (first | (with_reducible first | exact HB.out | apply below_alloc | apply pw_below_drewN | apply below_drew1 | refine below_set ?_ GB39.out) | exact HB.out)⟩⟩
                                                      · rw [if_neg c40] at H
                                                        exact absurd H (by simp)
                                                    · rw [if_neg c38] at H
                                                      exact absurd H (by simp)
                                                  · rw [if_neg c37] at H
                                                    exact absurd H (by simp)
                                                · rw [if_neg c35] at H
                                                  exact absurd H (by simp)
                                              · rw [if_neg c34] at H
                                                exact absurd H (by simp)
                                            · rw [if_neg c33] at H
                                              have c33b0 : decide (x77_5 < (x12_4.length : Int)) = false := decide_eq_false c33
                                              (try have c33b8 : decide (x77_5 < (x12_5.length : Int)) = false := by rw [← hl12_5]; exact c33b0)
                                              clear c33
                                              by_cases c48 : 0 ≤ x57_3
                                              · rw [if_pos c48] at H
                                                have c48b0 : decide (0 ≤ x57_3) = true := decide_eq_true c48
                                                clear c48
                                                by_cases c49 : x57_3 < (l0.length : Int)
                                                · rw [if_pos c49] at H
                                                  have c49b0 : decide (x57_3 < (l0.length : Int)) = true := decide_eq_true c49
                                                  clear c49
                                                  replace H := Option.bind_eq_some_iff.mp H
                                                  obtain ⟨t123, A500, H⟩ := H
                                                  replace H : (spec_PolyThrough.l3 k5 l0 l1 x10_4 x57_3 x16_5 t123 (l0.length : Int) x57_3 l0 (l0.length : Int) (wrap64 (x63_4 + 1))) = some (r1, r2) := H
                                                  have A50 := Aside0.mk A500
                                                  clear A500
                                                  have H' := Aside0.mk H
                                                  clear H
                                                  have p122 : 0 ≤ (x57_3 : Int) := of_decide_eq_true (by first | (with_reducible assumption) | assumption)
                                                  have q122 : x57_3 < (l0.length : Int) := of_decide_eq_true (by first | (with_reducible assumption) | assumption)
                                                  obtain ⟨ad122, e122, hx122_0⟩ := Kd.at_int HR0.out x57_3 p122 q122
                                                  obtain rfl : ad112 = ad122 := (by injection e122)
                                                  replace hx122_0 := (HB.out.cell (World.block_lt_of_cell? w _ hx122_0)).trans hx122_0
                                                  replace p122 := eq_true p122
                                                  replace q122 := eq_true q122
                                                  go_wp2_with (first | ((with_reducible refine gate_callee (f := 63) rfl ?_); refine goesL_ (some 108) rfl rfl Try.func63 (by kernel_rfl) rfl #[.int .u8 x13_4, .int .u8 (Go.bits .xor .u8 (rd l0 x57_3) (rd l0 x63_4))] rfl (by (try simp only [List.map_toArray, List.map_cons, List.map_nil]); first | done | rfl | (simp only [List.length_drop, List.length_take]; rfl)) ?_; (with_reducible refine (spec_l2Mul.calls k5 x13_4 (Go.bits .xor .u8 (rd l0 x57_3) (rd l0 x63_4)) t123 _ A50.out).mono ?_); rintro e w' ⟨rfl, ⟨nd, rfl⟩⟩; refine ⟨_, rfl, ?_⟩))
                                                  go_roundg k5
                                                  case measure => have := HJ2.out; have := HK2.out; have := HK3.out; have := HK4.out; have := HK5.out; omega
                                                  case rel => exact ⟨(x10_4), (x16_5), (t123), (wrap64 (x63_4 + 1)), (by first | rfl | (simp; done) | (simp [*]; done)), (by first | rfl | (simp; done) | (simp [*]; done)), H', ⟨by have := HJ2.out; have := HK2.out; have := HK3.out; have := HK4.out; have := HK5.out; omega⟩, ⟨by (with_reducible repeat (first | apply Kd.R_alloc | apply Kd.R_drewN | apply Kd.R_drew)); exact Kd.R_mono HO_10.out (fun _ hk => hk.1)⟩, ⟨by (with_reducible repeat (first | apply Kd.R_alloc | apply Kd.R_drewN | apply Kd.R_drew)); exact Kd.R_mono HO_16.out (fun _ hk => hk.1)⟩, ⟨by repeat (first | (with_reducible first | exact HB.out | apply below_alloc | apply pw_below_drewN | apply below_drew1) | exact HB.out)⟩⟩
                                                · rw [if_neg c49] at H
                                                  exact absurd H (by simp)
                                              · rw [if_neg c48] at H
                                                exact absurd H (by simp)
                                      · rw [if_neg c29] at H
                                        exact absurd H (by simp)
                                    · rw [if_neg c28] at H
                                      exact absurd H (by simp)
                                · rw [if_neg c25] at H
                                  exact absurd H (by simp)
                              · rw [if_neg c24] at H
                                exact absurd H (by simp)
                            · rw [if_neg c23] at H
                              have c23b0 : decide (x63_4 < (l0.length : Int)) = false := decide_eq_false c23
                              clear c23
                              by_cases c51 : 0 ≤ x57_3
                              · rw [if_pos c51] at H
                                have c51b0 : decide (0 ≤ x57_3) = true := decide_eq_true c51
                                clear c51
                                by_cases c52 : x57_3 < (l1.length : Int)
                                · rw [if_pos c52] at H
                                  have c52b0 : decide (x57_3 < (l1.length : Int)) = true := decide_eq_true c52
                                  clear c52
                                  replace H := Option.bind_eq_some_iff.mp H
                                  obtain ⟨t125, A530, H⟩ := H
                                  replace H : ((spec_l2Mul.f k4 (rd l1 x57_3) t125).bind fun t126 => (spec_PolyThrough.l5 k4 l0 l1 x10_4 t126 (l0.length : Int) x57_3 x12_4 (x12_4.length : Int) 0)) = some (r1, r2) := H
                                  have A53 := Aside0.mk A530
                                  clear A530
                                  replace H := Option.bind_eq_some_iff.mp H
                                  obtain ⟨t126, A540, H⟩ := H
                                  replace H : (spec_PolyThrough.l5 k4 l0 l1 x10_4 t126 (l0.length : Int) x57_3 x12_4 (x12_4.length : Int) 0) = some (r1, r2) := H
                                  have A54 := Aside0.mk A540
                                  clear A540
                                  have H' := Aside0.mk H
                                  clear H
                                  try go_wp2
                                  have n0_ := Aside0.mk (Kd.R_drew HO_10.out)
                                  have n1_ := Aside0.mk (Kd.R_drew HO_12.out)
                                  have n2_ := Aside0.mk (below_drew1 HB.out)
                                  clear HO_10
                                  clear HO_12
                                  clear HB
                                  have HO_10 := n0_
                                  have HO_12 := n1_
                                  have HB := n2_
                                  clear n0_ n1_ n2_
                                  have p124 : 0 ≤ (x57_3 : Int) := of_decide_eq_true (by first | (with_reducible assumption) | assumption)
                                  have q124 : x57_3 < (l1.length : Int) := of_decide_eq_true (by first | (with_reducible assumption) | assumption)
                                  obtain ⟨ad124, e124, hx124_0⟩ := Kd.at_int HR1.out x57_3 p124 q124
                                  have hw124_0 := hx124_0
                                  cases e124
                                  replace hx124_0 := (HB.out.cell (World.block_lt_of_cell? w _ hx124_0)).trans hx124_0
                                  replace p124 := eq_true p124
                                  replace q124 := eq_true q124
                                  refine start_ (n := 8) (S := fun w' => w'.cell? (ad124.add (x57_3).toNat) = some (.int .u8 (rd l1 x57_3))) (ds := []) #[false, false, false, false, false, false, false, false] (by kernel_rfl) rfl rfl (((HB.out.cell (World.block_lt_of_cell? w _ hw124_0)).trans hw124_0)) (fun hHeld => ?_); refine with_tabW spec_PolyThrough.tab33 spec_PolyThrough.bits33 (fun HT_ HW_ => ?_)
                                  generalize wr.drew = w55 at HO_10 HO_12 HB hx124_0 hHeld ⊢
                                  refine pure_ (i := 0) (N := some 110) (v := ?_) (a' := ?_) #[true, false, false, false, false, false, false, false] rfl rfl (any_of HT_.out (by kernel_rfl)) (fun _ _ _ h => h) (Or.inl ⟨by rfl, ?_⟩) ?_ ?_
                                  rotate_left
                                  · intro w'
                                    go_simp
                                    with_reducible rfl
                                  rotate_left
                                  · simp only [Act.put, List.setIfInBounds_toArray, List.set_cons_zero, List.set_cons_succ, i64_w, i32_w]
                                    rfl
                                  refine pure_ (i := 1) (N := some 111) (v := ?_) (a' := ?_) #[true, true, false, false, false, false, false, false] rfl rfl (any_of HT_.out (by kernel_rfl)) (fun _ _ _ h => h) (Or.inl ⟨by rfl, ?_⟩) ?_ ?_
                                  rotate_left
                                  · intro w'
                                    go_simp
                                    with_reducible rfl
                                  rotate_left
                                  · simp only [Act.put, List.setIfInBounds_toArray, List.set_cons_zero, List.set_cons_succ, i64_w, i32_w]
                                    rfl
                                  refine pure_ (i := 2) (N := some 112) (v := ?_) (a' := ?_) #[true, true, true, false, false, false, false, false] rfl rfl (any_of HT_.out (by kernel_rfl)) (fun _ _ _ h => h) (Or.inl ⟨by rfl, ?_⟩) ?_ ?_
                                  rotate_left
                                  · intro w'
                                    go_simp
                                    with_reducible rfl
                                  rotate_left
                                  · simp only [Act.put, List.setIfInBounds_toArray, List.set_cons_zero, List.set_cons_succ, i64_w, i32_w]
                                    rfl
                                  refine pure_ (i := 4) (N := some 114) (v := ?_) (a' := ?_) #[true, true, true, false, true, false, false, false] rfl rfl (any_of HT_.out (by kernel_rfl)) (fun _ _ _ h => h) (Or.inl ⟨by rfl, ?_⟩) ?_ ?_
                                  rotate_left
                                  · intro w'
                                    go_simp
                                    with_reducible rfl
                                  rotate_left
                                  · simp only [Act.put, List.setIfInBounds_toArray, List.set_cons_zero, List.set_cons_succ, i64_w, i32_w]
                                    rfl
                                  refine take_ (i := 3) (N := some 113) (v := ?_) (a' := ?_) #[true, true, true, true, true, false, false, false] rfl rfl (take_ofW HT_.out HW_.out (by kernel_rfl)) (fun _ _ _ h => h) (Or.inl ⟨by rfl, ?_⟩) hHeld ?_ ?_
                                  rotate_left
                                  · intro w' s0
                                    go_simp
                                    with_reducible rfl
                                  rotate_left
                                  · simp only [Act.put, List.setIfInBounds_toArray, List.set_cons_zero, List.set_cons_succ, i64_w, i32_w]
                                    rfl
                                  refine one_ (i := 5) (N := some 115) #[true, true, true, true, true, true, false, false] rfl rfl (one_of HT_.out (by kernel_rfl)) (by decide) (fun K hK => ?_)
                                  refine goes_ Try.func81 (by kernel_rfl) rfl #[.int .u8 x13_4] (by rfl) rfl rfl (by (try simp only [List.map_toArray, List.map_cons, List.map_nil]); first | done | rfl | (simp only [List.length_drop, List.length_take]; rfl)) ?_
                                  with_reducible refine (spec_l2Inv.calls k4 x13_4 t125 _ A53.out).mono ?_
                                  rintro e w' ⟨rfl, ⟨nd, rfl⟩⟩
                                  refine ⟨_, rfl, ?_⟩
                                  refine hK.out _ _ (((HB.out.cell (World.block_lt_of_cell? w _ hw124_0)).trans hw124_0)) (fun hHeld => ?_)
                                  clear hK K
                                  refine norm_ (a' := ?_) ?_ ?_
                                  rotate_left
                                  · show Act.put _ (some 115) _ = _
                                    simp only [Act.put, List.setIfInBounds_toArray, List.set_cons_zero, List.set_cons_succ, i64_w, i32_w]
                                    rfl
                                  refine one_ (i := 6) (N := some 116) #[true, true, true, true, true, true, true, false] rfl rfl (one_of HT_.out (by kernel_rfl)) (by decide) (fun K hK => ?_)
                                  refine goes_ Try.func63 (by kernel_rfl) rfl #[.int .u8 (rd l1 x57_3), .int .u8 t125] (by rfl) rfl rfl (by (try simp only [List.map_toArray, List.map_cons, List.map_nil]); first | done | rfl | (simp only [List.length_drop, List.length_take]; rfl)) ?_
                                  with_reducible refine (spec_l2Mul.calls k4 (rd l1 x57_3) t125 t126 _ A54.out).mono ?_
                                  rintro e w' ⟨rfl, ⟨nd, rfl⟩⟩
                                  refine ⟨_, rfl, ?_⟩
                                  refine hK.out _ _ (((HB.out.cell (World.block_lt_of_cell? w _ hw124_0)).trans hw124_0)) (fun hHeld => ?_)
                                  clear hK K
                                  refine norm_ (a' := ?_) ?_ ?_
                                  rotate_left
                                  · show Act.put _ (some 116) _ = _
                                    simp only [Act.put, List.setIfInBounds_toArray, List.set_cons_zero, List.set_cons_succ, i64_w, i32_w]
                                    rfl
                                  refine pure_ (i := 7) (N := some 19) (v := ?_) (a' := ?_) #[true, true, true, true, true, true, true, true] rfl rfl (any_of HT_.out (by kernel_rfl)) (fun _ _ _ h => h) (Or.inl ⟨by rfl, ?_⟩) ?_ ?_
                                  rotate_left
                                  · intro w'
                                    go_simp
                                    with_reducible rfl
                                  rotate_left
                                  · simp only [Act.put, List.setIfInBounds_toArray, List.set_cons_zero, List.set_cons_succ, i64_w, i32_w]
                                    rfl
                                  refine done_ (done_of HT_.out (by kernel_rfl)) ?_
                                  obtain ⟨Ao56, co56, eo56⟩ := Kd.R_slice HO_12.out
                                  subst eo56
                                  try go_wp2
                                  go_loopg [119] k4 (fun kq v119 w' => ∃ (x10_5 : List Int) (x119_5 : Int), v119 = .int .i64 x119_5 ∧ Aside0 (spec_PolyThrough.l5 kq l0 l1 x10_5 t126 (l0.length : Int) x57_3 x12_4 (x12_4.length : Int) x119_5 = some (r1, r2)) ∧ Aside0 (kq ≤ k4) ∧ Aside0 (Kd.R (Kd.int .u8) 5 w' w.heap.size (fun k_ => some k_ ≠ ((.slice Ao56 x12_4.length co56) : Value).ownBlock) v107 x10_5) ∧ Aside0 (Kd.R (Kd.int .u8) 5 w' w.heap.size (fun k_ => some k_ ≠ (v107 : Value).ownBlock) (.slice Ao56 x12_4.length co56) x12_4) ∧ Aside0 (Below w.heap.size w w'))
                                  case atStart => exact ⟨(x10_4), (0), (by first | rfl | (simp; done) | (simp [*]; done)), H', ⟨Nat.le_refl _⟩, ⟨by (with_reducible repeat (first | apply Kd.R_alloc | apply Kd.R_drewN | apply Kd.R_drew)); exact HO_10.out⟩, ⟨by (with_reducible repeat (first | apply Kd.R_alloc | apply Kd.R_drewN | apply Kd.R_drew)); exact HO_12.out⟩, ⟨by repeat (first | (with_reducible first | exact HB.out | apply below_alloc | apply pw_below_drewN | apply below_drew1) | exact HB.out)⟩⟩
                                  case round =>
                                    clear H'
                                    try clear c1
                                    try clear p1
                                    try clear q1
                                    try clear hx1
                                    try clear c2
                                    try clear p2
                                    try clear c3
                                    try clear p3
                                    try clear q3
                                    try clear hx3
                                    try clear hf3
                                    try clear c4
                                    try clear c4b0
                                    try clear c4b1
                                    try clear c4b2
                                    try clear p4
                                    try clear q4
                                    try clear hx4
                                    try clear hf4
                                    try clear c5
                                    try clear c6
                                    try clear c6b0
                                    try clear p6
                                    try clear c7
                                    try clear c7b0
                                    try clear c8
                                    try clear c8b0
                                    try clear c9
                                    try clear c9b0
                                    try clear c10
                                    try clear c10b0
                                    try clear c10b1
                                    try clear p10
                                    try clear q10
                                    try clear hx10
                                    try clear p11
                                    try clear q11
                                    try clear hx11
                                    try clear c12
                                    try clear c12b0
                                    try clear p12
                                    try clear q12
                                    try clear hx12
                                    try clear c13
                                    try clear c13b0
                                    try clear c14
                                    try clear c14b0
                                    try clear c15
                                    try clear c15b0
                                    try clear c15b1
                                    try clear c16
                                    try clear c16b0
                                    try clear c16b1
                                    try clear c17
                                    try clear c17b0
                                    try clear c17b1
                                    try clear c20
                                    try clear c20b0
                                    try clear c23
                                    try clear c23b0
                                    try clear c24
                                    try clear c24b0
                                    try clear c25
                                    try clear c25b0
                                    try clear c26
                                    try clear c26b0
                                    try clear c26b1
                                    try clear c28
                                    try clear c28b0
                                    try clear c28b1
                                    try clear c29
                                    try clear c29b0
                                    try clear c29b1
                                    try clear c33
                                    try clear c33b0
                                    try clear c34
                                    try clear c34b0
                                    try clear c35
                                    try clear c35b0
                                    try clear c37
                                    try clear c37b0
                                    try clear c38
                                    try clear c38b0
                                    try clear p39
                                    try clear q39
                                    try clear hx39
                                    try clear hf39
                                    try clear c40
                                    try clear c40b0
                                    try clear p42
                                    try clear q42
                                    try clear hx42
                                    try clear hf42
                                    try clear c48
                                    try clear c48b0
                                    try clear c49
                                    try clear c49b0
                                    try clear c51
                                    try clear c51b0
                                    try clear c52
                                    try clear c52b0
                                    try clear hx103_0
                                    try clear hx105_0
                                    try clear hx112_0
                                    try clear hx116_0
                                    try clear hx117_0
                                    try clear hx119_0
                                    try clear hx122_0
                                    try clear hx124_0
                                    try clear hx39_0
                                    try clear hx42_0
                                    try clear p1
                                    try clear p10
                                    try clear p103
                                    try clear p105
                                    try clear p11
                                    try clear p112
                                    try clear p116
                                    try clear p117
                                    try clear p119
                                    try clear p122
                                    try clear p124
                                    try clear p2
                                    try clear p39
                                    try clear p42
                                    try clear p6
                                    try clear q1
                                    try clear q10
                                    try clear q103
                                    try clear q105
                                    try clear q11
                                    try clear q112
                                    try clear q116
                                    try clear q117
                                    try clear q119
                                    try clear q122
                                    try clear q124
                                    try clear q39
                                    try clear q42
                                    obtain ⟨x10_5, x119_5, rfl, HA, HK5, HO_10, HO_117, HB⟩ := hrel
                                    cases gk with
                                    | zero => exact absurd HA.out (fun h_ => by change none = some _ at h_; cases h_)
                                    | succ k5 =>
                                      have H := HA.out
                                      clear HA
                                      simp only [spec_PolyThrough.l5] at H
                                      by_cases c57 : x119_5 < (x12_4.length : Int)
                                      · rw [if_pos c57] at H
                                        have c57b0 : decide (x119_5 < (x12_4.length : Int)) = true := decide_eq_true c57
                                        clear c57
                                        by_cases c58 : 0 ≤ x119_5
                                        · rw [if_pos c58] at H
                                          have c58b0 : decide (0 ≤ x119_5) = true := decide_eq_true c58
                                          clear c58
                                          by_cases c59 : x119_5 < (x12_4.length : Int)
                                          · rw [if_pos c59] at H
                                            have c59b0 : decide (x119_5 < (x12_4.length : Int)) = true := decide_eq_true c59
                                            clear c59
                                            by_cases c60 : x119_5 < (x10_5.length : Int)
                                            · rw [if_pos c60] at H
                                              have c60b0 : decide (x119_5 < (x10_5.length : Int)) = true := decide_eq_true c60
                                              clear c60
                                              replace H := Option.bind_eq_some_iff.mp H
                                              obtain ⟨t129, A610, H⟩ := H
                                              replace H : (spec_PolyThrough.l5 k5 l0 l1 (x10_5.set (x119_5 : Int).toNat (Go.bits .xor .u8 (rd x10_5 x119_5) t129)) t126 (l0.length : Int) x57_3 x12_4 (x12_4.length : Int) (wrap64 (x119_5 + 1))) = some (r1, r2) := H
                                              have A61 := Aside0.mk A610
                                              clear A610
                                              obtain ⟨y130, hy130⟩ : ∃ y_ : List Int, y_ = (x10_5.set (x119_5 : Int).toNat (Go.bits .xor .u8 (rd x10_5 x119_5) t129)) := ⟨_, rfl⟩
                                              replace H : (spec_PolyThrough.l5 k5 l0 l1 y130 t126 (l0.length : Int) x57_3 x12_4 (x12_4.length : Int) (wrap64 (x119_5 + 1))) = some (r1, r2) := by first | (rw [hy130]; with_reducible exact H) | (have H2_ := (Option.bind_some _ _).symm.trans H; rw [hy130]; with_reducible exact H2_) | (have H2_ := (Option.bind_some _ _).symm.trans H; with_reducible exact H2_) | with_reducible exact H | (rw [hy130]; exact H) | exact H
                                              have Ny130 := Aside0.mk hy130
                                              clear hy130
                                              have H' := Aside0.mk H
                                              clear H
                                              have p127 : 0 ≤ (x119_5 : Int) := of_decide_eq_true (by first | (with_reducible assumption) | assumption)
                                              have q127 : x119_5 < (x12_4.length : Int) := of_decide_eq_true (by first | (with_reducible assumption) | assumption)
                                              obtain ⟨ad127, e127, hx127_0⟩ := Kd.at_int (Kd.R_reads' HO_117.out).2.2 x119_5 p127 q127
                                              cases e127
                                              replace p127 := eq_true p127
                                              replace q127 := eq_true q127
                                              try go_wp2
                                              have n0_ := Aside0.mk (Kd.R_drew HO_10.out)
                                              have n1_ := Aside0.mk (Kd.R_drew HO_117.out)
                                              have n2_ := Aside0.mk (below_drew1 HB.out)
                                              clear HO_10
                                              clear HO_117
                                              clear HB
                                              have HO_10 := n0_
                                              have HO_117 := n1_
                                              have HB := n2_
                                              clear n0_ n1_ n2_
                                              obtain ⟨Ao64, co64, eo64⟩ := Kd.R_slice HO_10.out
                                              (first | subst eo64 | (injection eo64 with f1_ f2_ f3_; have f4_ := f1_.symm; have f5_ := f3_.symm; clear f1_ f2_ f3_; subst f4_; subst f5_))
                                              have p128 : 0 ≤ (x119_5 : Int) := of_decide_eq_true (by first | (with_reducible assumption) | assumption)
                                              have q128 : x119_5 < (x10_5.length : Int) := of_decide_eq_true (by first | (with_reducible assumption) | assumption)
                                              obtain ⟨ad128, e128, hx128_0⟩ := Kd.at_int (Kd.R_reads' HO_10.out).2.2 x119_5 p128 q128
                                              cases e128
                                              replace p128 := eq_true p128
                                              replace q128 := eq_true q128
                                              refine start_ (n := 10) (S := fun w' => w'.cell? (ad128.add (x119_5).toNat) = some (.int .u8 (rd x10_5 x119_5))) (ds := [9]) #[false, false, false, false, false, false, false, false, false, false] (by kernel_rfl) rfl rfl (hx128_0) (fun hHeld => ?_); refine with_tabW spec_PolyThrough.tab37 spec_PolyThrough.bits37 (fun HT_ HW_ => ?_)
                                              generalize wr.drew = w63 at HO_10 HO_117 HB hx128_0 hHeld ⊢
                                              refine pure_ (i := 0) (N := some 124) (v := ?_) (a' := ?_) #[true, false, false, false, false, false, false, false, false, false] rfl rfl (any_of HT_.out (by kernel_rfl)) (fun _ _ _ h => h) (Or.inl ⟨by rfl, ?_⟩) ?_ ?_
                                              rotate_left
                                              · intro w'
                                                go_simp
                                                with_reducible rfl
                                              rotate_left
                                              · simp only [Act.put, List.setIfInBounds_toArray, List.set_cons_zero, List.set_cons_succ, i64_w, i32_w]
                                                rfl
                                              refine pure_ (i := 1) (N := some 125) (v := ?_) (a' := ?_) #[true, true, false, false, false, false, false, false, false, false] rfl rfl (any_of HT_.out (by kernel_rfl)) (fun _ _ _ h => h) (Or.inl ⟨by rfl, ?_⟩) ?_ ?_
                                              rotate_left
                                              · intro w'
                                                go_simp
                                                with_reducible rfl
                                              rotate_left
                                              · simp only [Act.put, List.setIfInBounds_toArray, List.set_cons_zero, List.set_cons_succ, i64_w, i32_w]
                                                rfl
                                              refine pure_ (i := 2) (N := some 126) (v := ?_) (a' := ?_) #[true, true, true, false, false, false, false, false, false, false] rfl rfl (any_of HT_.out (by kernel_rfl)) (fun _ _ _ h => h) (Or.inl ⟨by rfl, ?_⟩) ?_ ?_
                                              rotate_left
                                              · intro w'
                                                go_simp
                                                with_reducible rfl
                                              rotate_left
                                              · simp only [Act.put, List.setIfInBounds_toArray, List.set_cons_zero, List.set_cons_succ, i64_w, i32_w]
                                                rfl
                                              refine pure_ (i := 4) (N := some 128) (v := ?_) (a' := ?_) #[true, true, true, false, true, false, false, false, false, false] rfl rfl (any_of HT_.out (by kernel_rfl)) (fun _ _ _ h => h) (Or.inl ⟨by rfl, ?_⟩) ?_ ?_
                                              rotate_left
                                              · intro w'
                                                go_simp
                                                with_reducible rfl
                                              rotate_left
                                              · simp only [Act.put, List.setIfInBounds_toArray, List.set_cons_zero, List.set_cons_succ, i64_w, i32_w]
                                                rfl
                                              refine pure_ (i := 5) (N := some 129) (v := ?_) (a' := ?_) #[true, true, true, false, true, true, false, false, false, false] rfl rfl (any_of HT_.out (by kernel_rfl)) (fun _ _ _ h => h) (Or.inl ⟨by rfl, ?_⟩) ?_ ?_
                                              rotate_left
                                              · intro w'
                                                go_simp
                                                with_reducible rfl
                                              rotate_left
                                              · simp only [Act.put, List.setIfInBounds_toArray, List.set_cons_zero, List.set_cons_succ, i64_w, i32_w]
                                                rfl
                                              refine take_ (i := 3) (N := some 127) (v := ?_) (a' := ?_) #[true, true, true, true, true, true, false, false, false, false] rfl rfl (take_ofW HT_.out HW_.out (by kernel_rfl)) (fun _ _ _ h => h) (Or.inl ⟨by rfl, ?_⟩) hHeld ?_ ?_
                                              rotate_left
                                              · intro w' s0
                                                go_simp
                                                with_reducible rfl
                                              rotate_left
                                              · simp only [Act.put, List.setIfInBounds_toArray, List.set_cons_zero, List.set_cons_succ, i64_w, i32_w]
                                                rfl
                                              refine one_ (i := 6) (N := some 130) #[true, true, true, true, true, true, true, false, false, false] rfl rfl (one_of HT_.out (by kernel_rfl)) (by decide) (fun K hK => ?_)
                                              refine goes_ Try.func63 (by kernel_rfl) rfl #[.int .u8 (rd x12_4 x119_5), .int .u8 t126] (by rfl) rfl rfl (by (try simp only [List.map_toArray, List.map_cons, List.map_nil]); first | done | rfl | (simp only [List.length_drop, List.length_take]; rfl)) ?_
                                              with_reducible refine (spec_l2Mul.calls k5 (rd x12_4 x119_5) t126 t129 _ A61.out).mono ?_
                                              rintro e w' ⟨rfl, ⟨nd, rfl⟩⟩
                                              refine ⟨_, rfl, ?_⟩
                                              have p62 : 0 ≤ (x119_5 : Int) := of_decide_eq_true (by first | (with_reducible assumption) | assumption)
                                              have q62 : (x119_5 : Int) < ((x10_5.length : Int) : Int) := of_decide_eq_true (by first | (with_reducible assumption) | assumption)
                                              obtain ⟨go62, co62, eo62, gb62, gl62, cl62, HG62⟩ := Kd.R_form HO_10.out (by omega)
                                              (first | cases eo62 | (injection eo62 with ea_ en_ ec_; (first | subst ea_ | (injection ea_ with ea_; subst ea_)); subst ec_; clear en_))
                                              have GB62 := Aside0.mk gb62
                                              have GG62 := Aside0.mk HG62
                                              clear gb62 gl62 HG62
                                              (first | simp only [add_plain] at hx128_0 | skip)
                                              obtain ⟨hx62_0, hf62_0⟩ := Kd.R_celln 0 HO_10.out (x119_5 : Int) p62 q62
                                              replace p62 := eq_true p62
                                              replace q62 := eq_true q62
                                              have HP65 := Kd.R_putn HO_10.out (x119_5 : Int) (Go.bits .xor .u8 (rd x10_5 x119_5) t129)
                                              rw [← Ny130.out] at HP65
                                              have HQ65 := Aside0.mk HP65
                                              clear HP65
                                              refine hK.out _ _ (hHeld) (fun hHeld => ?_)
                                              clear hK K
                                              refine norm_ (a' := ?_) ?_ ?_
                                              rotate_left
                                              · show Act.put _ (some 130) _ = _
                                                simp only [Act.put, List.setIfInBounds_toArray, List.set_cons_zero, List.set_cons_succ, i64_w, i32_w]
                                                rfl
                                              refine pure_ (i := 7) (N := some 131) (v := ?_) (a' := ?_) #[true, true, true, true, true, true, true, true, false, false] rfl rfl (any_of HT_.out (by kernel_rfl)) (fun _ _ _ h => h) (Or.inl ⟨by rfl, ?_⟩) ?_ ?_
                                              rotate_left
                                              · intro w'
                                                go_simp
                                                with_reducible rfl
                                              rotate_left
                                              · simp only [Act.put, List.setIfInBounds_toArray, List.set_cons_zero, List.set_cons_succ, i64_w, i32_w]
                                                rfl
                                              refine pure_ (i := 8) (N := some 132) (v := ?_) (a' := ?_) #[true, true, true, true, true, true, true, true, true, false] rfl rfl (any_of HT_.out (by kernel_rfl)) (fun _ _ _ h => h) (Or.inl ⟨by rfl, ?_⟩) ?_ ?_
                                              rotate_left
                                              · intro w'
                                                go_simp
                                                with_reducible rfl
                                              rotate_left
                                              · simp only [Act.put, List.setIfInBounds_toArray, List.set_cons_zero, List.set_cons_succ, i64_w, i32_w]
                                                rfl
                                              refine last_ (i := 9) (N := none) #[true, true, true, true, true, true, true, true, true, true] rfl rfl (one_of HT_.out (by kernel_rfl)) (by decide) (fun K hK => ?_)
                                              refine skip_ (w1 := ?_) (by rfl) rfl ?_ ?_
                                              rotate_left
                                              · go_simp
                                                rfl
                                              refine hK.out _ _ ?_
                                              clear hK K
                                              refine done_ (done_of HT_.out (by kernel_rfl)) ?_
                                              try go_wp2
                                              go_roundg k5
                                              case measure => have := HJ2.out; have := HK2.out; have := HK3.out; have := HK4.out; have := HK5.out; omega
                                              case rel => exact ⟨(y130), (wrap64 (x119_5 + 1)), (by first | rfl | (simp; done) | (simp [*]; done)), H', ⟨by have := HJ2.out; have := HK2.out; have := HK3.out; have := HK4.out; have := HK5.out; omega⟩, ⟨by (with_reducible repeat (first | apply Kd.R_alloc | apply Kd.R_drewN | apply Kd.R_drew)); exact HQ65.out⟩, ⟨by (with_reducible repeat (first | apply Kd.R_alloc | apply Kd.R_drewN | apply Kd.R_drew)); exact Kd.R_mono (Kd.R_far (p := ⟨go62, (x119_5 : Int).toNat, none⟩) (Kd.R_mono HO_117.out (fun k_ hk => (⟨hk, fun e_ => hk (by rw [e_]; rfl)⟩ : _ ∧ k_ ≠ go62))) (fun _ hk => hk.2) (.int .u8 (Go.bits .xor .u8 (rd x10_5 x119_5) t129))) (fun _ hk => hk.1)⟩, ⟨by repeat (first | (with_reducible first | exact HB.out | apply below_alloc | apply pw_below_drewN | apply below_drew1 | refine below_set ?_ GB62.out) | exact HB.out)⟩⟩
                                            · rw [if_neg c60] at H
                                              exact absurd H (by simp)
                                          · rw [if_neg c59] at H
                                            exact absurd H (by simp)
                                        · rw [if_neg c58] at H
                                          exact absurd H (by simp)
                                      · rw [if_neg c57] at H
                                        have c57b0 : decide (x119_5 < (x12_4.length : Int)) = false := decide_eq_false c57
                                        (try have c57b8 : decide (x119_5 < (x12_5.length : Int)) = false := by rw [← hl12_5]; exact c57b0)
                                        clear c57
                                        have H' := Aside0.mk H
                                        clear H
                                        go_wp2
                                        go_roundg k5
                                        case measure => have := HJ2.out; have := HK2.out; have := HK3.out; have := HK4.out; have := HK5.out; omega
                                        case rel => exact ⟨(x10_5), (wrap64 (x57_3 + 1)), (by first | rfl | (simp; done) | (simp [*]; done)), H', ⟨by have := HJ2.out; have := HK2.out; have := HK3.out; have := HK4.out; have := HK5.out; omega⟩, ⟨by (with_reducible repeat (first | apply Kd.R_alloc | apply Kd.R_drewN | apply Kd.R_drew)); exact Kd.R_mono HO_10.out (fun _ hk => trivial)⟩, ⟨by repeat (first | (with_reducible first | exact HB.out | apply below_alloc | apply pw_below_drewN | apply below_drew1) | exact HB.out)⟩⟩
                                · rw [if_neg c52] at H
                                  exact absurd H (by simp)
                              · rw [if_neg c51] at H
                                exact absurd H (by simp)
                      · rw [if_neg c20] at H
                        have c20b0 : decide (x57_3 < (l0.length : Int)) = false := decide_eq_false c20
                        clear c20
                        simp only [Option.some.injEq, Prod.mk.injEq] at H
                        obtain ⟨rfl, rfl⟩ := H
                        go_wp2
                        go_ret2
                        exact ⟨_, by first | rfl | (simp [errW_none, errW_some] <;> rfl) | (simp [*, errW_none, errW_some] <;> rfl), by (with_reducible repeat (first | apply Kd.R_alloc | apply Kd.R_drewN | apply Kd.R_drew)); exact HO_10.out, by repeat (first | (with_reducible first | exact HB.out | apply below_alloc | apply pw_below_drewN | apply below_drew1) | exact HB.out)⟩
                · rw [if_neg c17] at H
                  exact absurd H (by simp)
              · rw [if_neg c16] at H
                exact absurd H (by simp)

end Go.Proofs.Ytjibcpfgnnmfjaa.PFnPolynomials
