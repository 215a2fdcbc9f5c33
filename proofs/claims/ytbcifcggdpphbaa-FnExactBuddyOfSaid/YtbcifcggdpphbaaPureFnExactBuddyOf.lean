/- The program's BuddyOf answers as the reference's at all blocks; no condition. -/
import Derived.Test.YtbcifcggdpphbaaGF
import Derived.Test.YtbcifcggdpphbaaQFnExactBuddyOfx2
import Derived.OpenShut
set_option linter.unusedVariables false
set_option linter.unusedSimpArgs false
namespace Go.Proofs.Ytbcifcggdpphbaa.Pure
open Go.RowKit Go.Proofs.Ytbcifcggdpphbaa.PFnExactBuddyOf Go.Proofs.YtbcifcggdpphbaaW.PrintWords Go.Proofs.YtbcifcggdpphbaaW.PrintLast Go.Proofs.YtbcifcggdpphbaaW.PrintMore Go.Proofs.Ytbcifcggdpphbaa.GF

theorem wr64 (n : Nat) (h : n < 2 ^ 62) : wrap64 (n : Int) = (n : Int) := by unfold wrap64; omega
theorem wri (n : Int) (h : 0 ≤ n) (h1 : n < 2 ^ 62) : wrap64 n = n := by unfold wrap64; omega
theorem byte_of {x : Int} (h : (Lit.int .u8 x).wf = true) : ∃ n : Nat, n < 256 ∧ x = (n : Int) := by
  have := bounds_u8 h
  exact ⟨x.toNat, by omega, by omega⟩
theorem shr_nat (b j q : Nat) (hj : j ≤ 8) (hq : q = b / 2 ^ j) : shr .u8 (b : Int) (j : Int) = (q : Int) := by
  unfold shr
  rw [Int.toNat_natCast, Nat.min_eq_left (show j ≤ IntKind.bits .u8 from hj), hq]
  simp
theorem and1_nat (q : Nat) (hq : q < 256) : Go.bits .and .u8 (q : Int) 1 = ((q % 2 : Nat) : Int) := by
  rw [and1_u8 (q : Int) (by omega) (by omega)]; simp
theorem and1_inat (q : Nat) (hq : q < 2 ^ 62) : Go.bits .and .i64 (q : Int) 1 = ((q % 2 : Nat) : Int) := by
  rw [and1_i64 (q : Int) (by omega) (by omega)]; simp
theorem dbl (x : Nat) (hx : x < 256) : wrap64 ((x : Int) * 2) = ((2 * x : Nat) : Int) := by unfold wrap64; omega
theorem inc (j : Nat) (hj : j < 2 ^ 62) : wrap64 ((j : Int) + 1) = ((j + 1 : Nat) : Int) := by unfold wrap64; omega
theorem x285 (x : Nat) (hx : x < 256) : Go.bits .xor .i64 ((2 * x : Nat) : Int) 285 = ((2 * x ^^^ 285 : Nat) : Int) := xor_i64 (2 * x) 285 (by omega) (by omega)
theorem xor_nat (o x : Nat) (ho : o < 256) (hx : x < 256) : Go.bits .xor .i64 (o : Int) (x : Int) = ((o ^^^ x : Nat) : Int) := xor_i64 o x (by omega) (by omega)
theorem xt_hi (x : Nat) (h : 2 * x > 255) : xt x = 2 * x ^^^ 285 := by unfold xt; rw [if_pos h]
theorem xt_lo (x : Nat) (h : ¬ 2 * x > 255) : xt x = 2 * x := by unfold xt; rw [if_neg h]

theorem within_tells (a b c : Int) : impl_within.f a b c = some (decide (a ≥ b ∧ a ≤ c)) := by
  unfold impl_within.f
  split
  · rename_i h; simp [h]
  · rename_i h; simp [h]
theorem l1In_tells (a b c : Int) : spec_l1In.f a b c = some (decide (a ≥ b ∧ a ≤ c)) := by
  unfold spec_l1In.f
  split
  · rename_i h; simp [h]
  · rename_i h; simp [h]

theorem shl_sz (o : Nat) (h : o ≤ 8) : shl .i64 1 (o : Int) = ((2 ^ o : Nat) : Int) := by
  have : ∀ o : Nat, o ≤ 8 → shl .i64 1 (o : Int) = ((2 ^ o : Nat) : Int) := by
    intro o ho
    match o, ho with
    | 0, _ => rfl
    | 1, _ => rfl
    | 2, _ => rfl
    | 3, _ => rfl
    | 4, _ => rfl
    | 5, _ => rfl
    | 6, _ => rfl
    | 7, _ => rfl
    | 8, _ => rfl
  exact this o h
theorem u64_small (x : Int) (h0 : 0 ≤ x) (h1 : x < 2 ^ 62) : IntKind.u64.wrap x = x := by
  simp [IntKind.wrap, IntKind.bits, IntKind.signed]; omega
/-- is it a block, as both say it -/
def blk (a o : Int) : Bool := decide (0 ≤ o ∧ o ≤ 8) && (decide (0 ≤ a ∧ a ≤ 1073741824) && (Int.tmod a (2 ^ o.toNat) == 0))
theorem pow_cast (n : Nat) : ((2 ^ n : Nat) : Int) = (2 : Int) ^ n := by simp
theorem pow_ne (n : Nat) : ¬ ((2 : Int) ^ n = 0) := by
  have := Nat.two_pow_pos n
  rw [← pow_cast]; omega
theorem spec_block_tells (a o : Int) : spec_l6Block.f a o = some (blk a o) := by
  unfold spec_l6Block.f blk
  rw [l1In_tells, l1In_tells]
  simp only [Option.bind_some, ge_iff_le]
  by_cases h : 0 ≤ o ∧ o ≤ 8
  · obtain ⟨n, rfl⟩ := Int.eq_ofNat_of_zero_le h.1
    rw [decide_eq_true h, if_pos rfl, u64_small _ (by omega) (by omega), shl_sz n (by omega)]
    by_cases h2 : 0 ≤ a ∧ a ≤ 1073741824
    · rw [decide_eq_true h2, if_pos rfl, if_pos h.1, pow_cast, if_neg (pow_ne n), Int.toNat_natCast]
      rfl
    · rw [decide_eq_false h2]; rfl
  · rw [decide_eq_false h]; rfl
theorem impl_block_tells (a o : Int) : impl_isBlock.f a o = some (blk a o) := by
  unfold impl_isBlock.f blk
  rw [within_tells, within_tells]
  simp only [Option.bind_some, ge_iff_le]
  by_cases h : 0 ≤ o ∧ o ≤ 8
  · obtain ⟨n, rfl⟩ := Int.eq_ofNat_of_zero_le h.1
    rw [decide_eq_true h, if_pos rfl]
    by_cases h2 : 0 ≤ a ∧ a ≤ 1073741824
    · unfold impl_Block_size.f
      rw [decide_eq_true h2, if_pos rfl, if_pos h.1, shl_sz n (by omega), pow_cast]
      simp only [Option.bind_some]
      rw [if_neg (pow_ne n), Int.toNat_natCast]
      rfl
    · rw [decide_eq_false h2]; rfl
  · rw [decide_eq_false h]; rfl
/-- the buddy's place -/
def bud (a o : Int) : Int := Go.bits .xor .i64 a ((2 ^ o.toNat : Nat) : Int)
theorem spec_buddy_tells (a o : Int) (h0 : 0 ≤ o) (h : o ≤ 8) : spec_l6Buddy.f a o = some (bud a o, o) := by
  obtain ⟨n, rfl⟩ := Int.eq_ofNat_of_zero_le h0
  unfold spec_l6Buddy.f bud
  rw [u64_small _ (by omega) (by omega), if_pos h0, shl_sz n (by omega), Int.toNat_natCast]
theorem impl_buddy_tells (a o : Int) (h0 : 0 ≤ o) (h : o ≤ 8) : impl_Block_buddy.f a o = some (bud a o, o) := by
  obtain ⟨n, rfl⟩ := Int.eq_ofNat_of_zero_le h0
  unfold impl_Block_buddy.f impl_Block_size.f bud
  rw [if_pos h0, shl_sz n (by omega), Int.toNat_natCast]
  rfl
theorem blk_order {a o : Int} (h : blk a o = true) : 0 ≤ o ∧ o ≤ 8 := by
  unfold blk at h
  rw [Bool.and_eq_true] at h
  exact of_decide_eq_true h.1
def buddyOf (a o : Int) : Int × Int × Bool := if blk a o = true ∧ o ≠ 8 ∧ blk (bud a o) o = true then (bud a o, o, true) else (0, 0, false)
theorem spec_buddyOf (a o : Int) : spec_BuddyOf.f a o = some (buddyOf a o) := by
  unfold spec_BuddyOf.f buddyOf
  rw [spec_block_tells]
  simp only [Option.bind_some]
  cases hb : blk a o with
  | false => rw [if_neg (by decide), if_neg (fun h => by cases h.1)]
  | true =>
    rw [if_pos rfl]
    by_cases h8 : o = 8
    · rw [if_pos h8, if_neg (fun h => h.2.1 h8)]
    · obtain ⟨h0, h1⟩ := blk_order hb
      rw [if_neg h8, spec_buddy_tells a o h0 h1]
      simp only [Option.bind_some]
      rw [spec_block_tells]
      simp only [Option.bind_some]
      cases hc : blk (bud a o) o with
      | false => rw [if_neg (by decide), if_neg (fun h => by cases h.2.2)]
      | true => rw [if_pos rfl, if_pos ⟨trivial, h8, rfl⟩]
theorem impl_buddyOf (a o : Int) : impl_BuddyOf.f a o = some (buddyOf a o) := by
  unfold impl_BuddyOf.f buddyOf
  rw [impl_block_tells]
  simp only [Option.bind_some]
  cases hb : blk a o with
  | false => rw [if_neg (by decide), if_neg (fun h => by cases h.1)]
  | true =>
    rw [if_pos rfl]
    by_cases h8 : o = 8
    · rw [if_pos h8, if_neg (fun h => h.2.1 h8)]
    · obtain ⟨h0, h1⟩ := blk_order hb
      rw [if_neg h8, impl_buddy_tells a o h0 h1]
      simp only [Option.bind_some]
      rw [impl_block_tells]
      simp only [Option.bind_some]
      cases hc : blk (bud a o) o with
      | false => rw [if_neg (by decide), if_neg (fun h => by cases h.2.2)]
      | true => rw [if_pos rfl, if_pos ⟨trivial, h8, rfl⟩]

theorem FnExactBuddyOf : laws_FnExactBuddyOf.PureG := by
  intro a o _ _
  unfold laws_FnExactBuddyOf.f laws_toBlock.f
  simp only [Option.bind_some]
  rw [spec_buddyOf, impl_buddyOf]
  simp only [Option.bind_some]
  unfold laws_eqBlock.f
  simp

end Go.Proofs.Ytbcifcggdpphbaa.Pure
