/- The program's NewBuddy answers as the reference's at all numbers, in memory of its own; no condition. -/
import Derived.Test.YtjibcpfgnnmfjaaGF
import Derived.Test.YtjibcpfgnnmfjaaQFnExactNewBuddyx2
import Derived.OpenShut
set_option linter.unusedVariables false
set_option linter.unusedSimpArgs false
namespace Go.Proofs.Ytjibcpfgnnmfjaa.Pure
open Go.RowKit Go.Proofs.Ytjibcpfgnnmfjaa.PFnExactNewBuddy Go.Proofs.YtjibcpfgnnmfjaaW.PrintWords Go.Proofs.YtjibcpfgnnmfjaaW.PrintLast Go.Proofs.YtjibcpfgnnmfjaaW.PrintMore Go.Proofs.Ytjibcpfgnnmfjaa.GF

theorem wr64 (n : Nat) (h : n < 2 ^ 62) : wrap64 (n : Int) = (n : Int) := by unfold wrap64; omega
theorem wri (n : Int) (h : 0 ≤ n) (h1 : n < 2 ^ 62) : wrap64 n = n := by unfold wrap64; omega
theorem byte_of {x : Int} (h : (Lit.int .u8 x).wf = true) : ∃ n : Nat, n < 256 ∧ x = (n : Int) := by
  have := bounds_u8 h
  exact ⟨x.toNat, by omega, by omega⟩
theorem shr_nat (b j q : Nat) (hj : j ≤ 8) (hq : q = b / 2 ^ j) : shr .u8 (b : Int) (j : Int) = (q : Int) := by
  unfold shr
  rw [Int.toNat_natCast, Nat.min_eq_left (show j ≤ IntKind.bits .u8 from hj), hq]
  simp
theorem and1_nat (q : Nat) (hq : q < 256) : Go.bits .and .u8 (q : Int) 1 = ((q % 2 : Nat) : Int) := by
  rw [and1_u8 (q : Int) (by omega) (by omega)]; simp
theorem and1_inat (q : Nat) (hq : q < 2 ^ 62) : Go.bits .and .i64 (q : Int) 1 = ((q % 2 : Nat) : Int) := by
  rw [and1_i64 (q : Int) (by omega) (by omega)]; simp
theorem dbl (x : Nat) (hx : x < 256) : wrap64 ((x : Int) * 2) = ((2 * x : Nat) : Int) := by unfold wrap64; omega
theorem inc (j : Nat) (hj : j < 2 ^ 62) : wrap64 ((j : Int) + 1) = ((j + 1 : Nat) : Int) := by unfold wrap64; omega
theorem x285 (x : Nat) (hx : x < 256) : Go.bits .xor .i64 ((2 * x : Nat) : Int) 285 = ((2 * x ^^^ 285 : Nat) : Int) := xor_i64 (2 * x) 285 (by omega) (by omega)
theorem xor_nat (o x : Nat) (ho : o < 256) (hx : x < 256) : Go.bits .xor .i64 (o : Int) (x : Int) = ((o ^^^ x : Nat) : Int) := xor_i64 o x (by omega) (by omega)
theorem xt_hi (x : Nat) (h : 2 * x > 255) : xt x = 2 * x ^^^ 285 := by unfold xt; rw [if_pos h]
theorem xt_lo (x : Nat) (h : ¬ 2 * x > 255) : xt x = 2 * x := by unfold xt; rw [if_neg h]

theorem within_tells (a b c : Int) : impl_within.f a b c = some (decide (a ≥ b ∧ a ≤ c)) := by
  unfold impl_within.f
  split
  · rename_i h; simp [h]
  · rename_i h; simp [h]
theorem l1In_tells (a b c : Int) : spec_l1In.f a b c = some (decide (a ≥ b ∧ a ≤ c)) := by
  unfold spec_l1In.f
  split
  · rename_i h; simp [h]
  · rename_i h; simp [h]

def chk (n : Int) : Bool := laws_FnExactNewBuddy.f 40 n == some true
theorem chks : ∀ n : Nat, n < 9 → chk (n : Int) = true := by decide +kernel
theorem FnExactNewBuddy : laws_FnExactNewBuddy.Pure := by
  intro a0 w0
  refine ⟨40, ?_⟩
  by_cases h : a0 ≥ 0 ∧ a0 ≤ 8
  · obtain ⟨n, rfl⟩ := Int.eq_ofNat_of_zero_le h.1
    have := chks n (by omega)
    unfold chk at this
    exact eq_of_beq this
  · unfold laws_FnExactNewBuddy.f spec_NewBuddy.f impl_NewBuddy.f
    rw [within_tells, l1In_tells, decide_eq_false h]
    simp only [Option.bind_some]
    rw [if_neg (by decide)]
    simp only [Option.bind_some]
    have e : laws_eqBuddy.f 40 0 [] [] 0 [] [] = some true := rfl
    rw [e]
    simp only [Option.bind_some, if_true]
    simp only [laws_FnExactNewBuddy.j0]
    rw [if_neg (by decide), show laws_markBuddy.f 39 0 [] [] 1 = some (1, [], []) from rfl]
    simp only [Option.bind_some]
    rw [show laws_heldBuddy.f 39 0 [] [] 1 = some 1 from rfl]
    simp only [Option.bind_some]
    rw [if_neg (by decide), if_pos True.intro]
    unfold impl_NewBuddy.f
    rw [within_tells, decide_eq_false h]
    simp only [Option.bind_some]
    rw [if_neg (by decide)]
    simp only [Option.bind_some]
    rw [show laws_eqBuddy.f 39 0 [] [] 0 [] [] = some true from rfl]
    simp only [Option.bind_some, if_true]
    rfl

end Go.Proofs.Ytjibcpfgnnmfjaa.Pure
