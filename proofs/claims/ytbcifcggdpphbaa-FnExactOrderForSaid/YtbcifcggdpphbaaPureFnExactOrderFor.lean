/- The program's OrderFor answers as the reference's at all numbers; no condition. -/
import Derived.Test.YtbcifcggdpphbaaGF
import Derived.Test.YtbcifcggdpphbaaPFnExactOrderForx1
import Derived.OpenShut
set_option linter.unusedVariables false
set_option linter.unusedSimpArgs false
namespace Go.Proofs.Ytbcifcggdpphbaa.Pure
open Go.RowKit Go.Proofs.Ytbcifcggdpphbaa.PFnExactOrderFor Go.Proofs.YtbcifcggdpphbaaW.PrintWords Go.Proofs.YtbcifcggdpphbaaW.PrintLast Go.Proofs.YtbcifcggdpphbaaW.PrintMore Go.Proofs.Ytbcifcggdpphbaa.GF

theorem wr64 (n : Nat) (h : n < 2 ^ 62) : wrap64 (n : Int) = (n : Int) := by unfold wrap64; omega
theorem wri (n : Int) (h : 0 ≤ n) (h1 : n < 2 ^ 62) : wrap64 n = n := by unfold wrap64; omega
theorem byte_of {x : Int} (h : (Lit.int .u8 x).wf = true) : ∃ n : Nat, n < 256 ∧ x = (n : Int) := by
  have := bounds_u8 h
  exact ⟨x.toNat, by omega, by omega⟩
theorem shr_nat (b j q : Nat) (hj : j ≤ 8) (hq : q = b / 2 ^ j) : shr .u8 (b : Int) (j : Int) = (q : Int) := by
  unfold shr
  rw [Int.toNat_natCast, Nat.min_eq_left (show j ≤ IntKind.bits .u8 from hj), hq]
  simp
theorem and1_nat (q : Nat) (hq : q < 256) : Go.bits .and .u8 (q : Int) 1 = ((q % 2 : Nat) : Int) := by
  rw [and1_u8 (q : Int) (by omega) (by omega)]; simp
theorem and1_inat (q : Nat) (hq : q < 2 ^ 62) : Go.bits .and .i64 (q : Int) 1 = ((q % 2 : Nat) : Int) := by
  rw [and1_i64 (q : Int) (by omega) (by omega)]; simp
theorem dbl (x : Nat) (hx : x < 256) : wrap64 ((x : Int) * 2) = ((2 * x : Nat) : Int) := by unfold wrap64; omega
theorem inc (j : Nat) (hj : j < 2 ^ 62) : wrap64 ((j : Int) + 1) = ((j + 1 : Nat) : Int) := by unfold wrap64; omega
theorem x285 (x : Nat) (hx : x < 256) : Go.bits .xor .i64 ((2 * x : Nat) : Int) 285 = ((2 * x ^^^ 285 : Nat) : Int) := xor_i64 (2 * x) 285 (by omega) (by omega)
theorem xor_nat (o x : Nat) (ho : o < 256) (hx : x < 256) : Go.bits .xor .i64 (o : Int) (x : Int) = ((o ^^^ x : Nat) : Int) := xor_i64 o x (by omega) (by omega)
theorem xt_hi (x : Nat) (h : 2 * x > 255) : xt x = 2 * x ^^^ 285 := by unfold xt; rw [if_pos h]
theorem xt_lo (x : Nat) (h : ¬ 2 * x > 255) : xt x = 2 * x := by unfold xt; rw [if_neg h]

theorem within_tells (a b c : Int) : impl_within.f a b c = some (decide (a ≥ b ∧ a ≤ c)) := by
  unfold impl_within.f
  split
  · rename_i h; simp [h]
  · rename_i h; simp [h]
theorem l1In_tells (a b c : Int) : spec_l1In.f a b c = some (decide (a ≥ b ∧ a ≤ c)) := by
  unfold spec_l1In.f
  split
  · rename_i h; simp [h]
  · rename_i h; simp [h]

theorem orders : ∀ n : Nat, n < 257 → 1 ≤ n → laws_FnExactOrderFor.f 20 (n : Int) = some true := by decide +kernel
theorem FnExactOrderFor : laws_FnExactOrderFor.Pure := by
  intro a0 w0
  refine ⟨20, ?_⟩
  by_cases h : a0 ≥ 1 ∧ a0 ≤ 256
  · obtain ⟨n, rfl⟩ := Int.eq_ofNat_of_zero_le (show 0 ≤ a0 by omega)
    exact orders n (by omega) (by omega)
  · unfold laws_FnExactOrderFor.f spec_OrderFor.f impl_OrderFor.f
    rw [within_tells, l1In_tells]
    simp only [Option.bind_some]
    rw [if_neg (by simpa using h), if_neg (by simpa using h)]
    rfl

end Go.Proofs.Ytbcifcggdpphbaa.Pure
