/-
  No cell of these rows narrows 'for every input' (looked for: loops, veiled, ifaces, maps, wideKeys, modest, calm, conditions, laid).
  DERIVED. THE GIVEN ROWS OF THIS SEAT. 8 by the template 'for every input the law returns true; each argument reads behind the call as it read before'; 0 by the template 'total and deterministic' (their statements: YtfhfaeeokibhaaaTotals.lean).
  GIVEN WITH THE SEED: the statements are not yours to turn. If you find one false, say at which input.
  Laid BY PROGRAM, IN A SANDBOX (cutbox-rows.mjs): the forced cells as the released guide's own fill.sh prints them over the translation 55cfbafdd16fb167… (all of the seat's roots in one cut). By AI agents, Wed Nov 11 2026. No macro, syntax, notation, axiom, sorry.
-/
import Derived.Test.YtfhfaeeokibhaaaChecked
import GoSem.Claim
import GoSem.ClaimJoined
import GoSem.ClaimMapViews
import Derived.JoinedTies
import Derived.KernelRfl
namespace Go.Proofs.Ytfhfaeeokibhaaa
/- THE CELL 'sum', in the pinned program and in every row, IS THE sha256 OF THE DUMP (.gsa) THAT YtfhfaeeokibhaaaProg.lean LOADS. Nothing in Lean hashes anything: it is a label: what it is worth is what the hold of that sum in a sandbox is worth. -/
noncomputable def Try.pinned : Pinned := { name := "ytfhfaeeokibhaaa", sum := "55cfbafdd16fb167aede598e5469e1ea8e187b8fe7b959e3b60057bce1ea71d0", checked := Try.checked }
namespace Rows
def none {H : Type} : Left H := { results := [], args := [] }

/-- 'laws.FnExactNewFree': WHATEVER THE INPUT: true; the input reads as it did. -/
def fnExactNewFreeSpec : ChangeSpec := { name := "fnExactNewFree", fn := fun _ => fun
  | [d] => { results := [.lit (.bool true)], args := [d] }
  | _ => none }
def fnExactNewFreeRow : OpenClaim := { program := "ytfhfaeeokibhaaa", sum := "55cfbafdd16fb167aede598e5469e1ea8e187b8fe7b959e3b60057bce1ea71d0", func := "loop.example/g00261/laws.FnExactNewFree", spec := "fnExactNewFree", unfollowed := true, recurses := true, apart := false }
def FnExactNewFreeSaid : Prop := fnExactNewFreeRow.holds Try.pinned (OpenSpec.ofChange fnExactNewFreeSpec)

/-- ITS FALSE NEIGHBOUR: 'it returns false'. Refute it at one input. -/
def fnExactNewFreeWrong : ChangeSpec := { name := "fnExactNewFree", fn := fun _ => fun
  | [d] => { results := [.lit (.bool false)], args := [d] }
  | _ => none }
def FnExactNewFreeWrongFalsely : Prop := fnExactNewFreeRow.holds Try.pinned (OpenSpec.ofChange fnExactNewFreeWrong)

/-- 'laws.FnExactGoodFree': WHATEVER THE INPUT: true; the input reads as it did. -/
def fnExactGoodFreeSpec : ChangeSpec := { name := "fnExactGoodFree", fn := fun _ => fun
  | [d] => { results := [.lit (.bool true)], args := [d] }
  | _ => none }
def fnExactGoodFreeRow : OpenClaim := { program := "ytfhfaeeokibhaaa", sum := "55cfbafdd16fb167aede598e5469e1ea8e187b8fe7b959e3b60057bce1ea71d0", func := "loop.example/g00261/laws.FnExactGoodFree", spec := "fnExactGoodFree", unfollowed := true, recurses := true, apart := false }
def FnExactGoodFreeSaid : Prop := fnExactGoodFreeRow.holds Try.pinned (OpenSpec.ofChange fnExactGoodFreeSpec)

/-- ITS FALSE NEIGHBOUR: 'it returns false'. Refute it at one input. -/
def fnExactGoodFreeWrong : ChangeSpec := { name := "fnExactGoodFree", fn := fun _ => fun
  | [d] => { results := [.lit (.bool false)], args := [d] }
  | _ => none }
def FnExactGoodFreeWrongFalsely : Prop := fnExactGoodFreeRow.holds Try.pinned (OpenSpec.ofChange fnExactGoodFreeWrong)

/-- 'laws.FnExactRoomIn': WHATEVER THE INPUT: true; the input reads as it did. -/
def fnExactRoomInSpec : ChangeSpec := { name := "fnExactRoomIn", fn := fun _ => fun
  | [d] => { results := [.lit (.bool true)], args := [d] }
  | _ => none }
def fnExactRoomInRow : OpenClaim := { program := "ytfhfaeeokibhaaa", sum := "55cfbafdd16fb167aede598e5469e1ea8e187b8fe7b959e3b60057bce1ea71d0", func := "loop.example/g00261/laws.FnExactRoomIn", spec := "fnExactRoomIn", unfollowed := true, recurses := true, apart := false }
def FnExactRoomInSaid : Prop := fnExactRoomInRow.holds Try.pinned (OpenSpec.ofChange fnExactRoomInSpec)

/-- ITS FALSE NEIGHBOUR: 'it returns false'. Refute it at one input. -/
def fnExactRoomInWrong : ChangeSpec := { name := "fnExactRoomIn", fn := fun _ => fun
  | [d] => { results := [.lit (.bool false)], args := [d] }
  | _ => none }
def FnExactRoomInWrongFalsely : Prop := fnExactRoomInRow.holds Try.pinned (OpenSpec.ofChange fnExactRoomInWrong)

/-- 'laws.FnExactIsFreeAt': WHATEVER THE INPUT: true; the input reads as it did. -/
def fnExactIsFreeAtSpec : ChangeSpec := { name := "fnExactIsFreeAt", fn := fun _ => fun
  | [d1, d2] => { results := [.lit (.bool true)], args := [d1, d2] }
  | _ => none }
def fnExactIsFreeAtRow : OpenClaim := { program := "ytfhfaeeokibhaaa", sum := "55cfbafdd16fb167aede598e5469e1ea8e187b8fe7b959e3b60057bce1ea71d0", func := "loop.example/g00261/laws.FnExactIsFreeAt", spec := "fnExactIsFreeAt", unfollowed := true, recurses := true, apart := false }
def FnExactIsFreeAtSaid : Prop := fnExactIsFreeAtRow.holds Try.pinned (OpenSpec.ofChange fnExactIsFreeAtSpec)

/-- ITS FALSE NEIGHBOUR: 'it returns false'. Refute it at one input. -/
def fnExactIsFreeAtWrong : ChangeSpec := { name := "fnExactIsFreeAt", fn := fun _ => fun
  | [d1, d2] => { results := [.lit (.bool false)], args := [d1, d2] }
  | _ => none }
def FnExactIsFreeAtWrongFalsely : Prop := fnExactIsFreeAtRow.holds Try.pinned (OpenSpec.ofChange fnExactIsFreeAtWrong)

/-- 'laws.FnExactUsedExtents': WHATEVER THE INPUT: true; the input reads as it did. -/
def fnExactUsedExtentsSpec : ChangeSpec := { name := "fnExactUsedExtents", fn := fun _ => fun
  | [d] => { results := [.lit (.bool true)], args := [d] }
  | _ => none }
def fnExactUsedExtentsRow : OpenClaim := { program := "ytfhfaeeokibhaaa", sum := "55cfbafdd16fb167aede598e5469e1ea8e187b8fe7b959e3b60057bce1ea71d0", func := "loop.example/g00261/laws.FnExactUsedExtents", spec := "fnExactUsedExtents", unfollowed := true, recurses := true, apart := false }
def FnExactUsedExtentsSaid : Prop := fnExactUsedExtentsRow.holds Try.pinned (OpenSpec.ofChange fnExactUsedExtentsSpec)

/-- ITS FALSE NEIGHBOUR: 'it returns false'. Refute it at one input. -/
def fnExactUsedExtentsWrong : ChangeSpec := { name := "fnExactUsedExtents", fn := fun _ => fun
  | [d] => { results := [.lit (.bool false)], args := [d] }
  | _ => none }
def FnExactUsedExtentsWrongFalsely : Prop := fnExactUsedExtentsRow.holds Try.pinned (OpenSpec.ofChange fnExactUsedExtentsWrong)

/-- 'laws.FnExactGiveRoom': WHATEVER THE INPUT: true; the input reads as it did. -/
def fnExactGiveRoomSpec : ChangeSpec := { name := "fnExactGiveRoom", fn := fun _ => fun
  | [d1, d2] => { results := [.lit (.bool true)], args := [d1, d2] }
  | _ => none }
def fnExactGiveRoomRow : OpenClaim := { program := "ytfhfaeeokibhaaa", sum := "55cfbafdd16fb167aede598e5469e1ea8e187b8fe7b959e3b60057bce1ea71d0", func := "loop.example/g00261/laws.FnExactGiveRoom", spec := "fnExactGiveRoom", unfollowed := true, recurses := true, apart := false }
def FnExactGiveRoomSaid : Prop := fnExactGiveRoomRow.holds Try.pinned (OpenSpec.ofChange fnExactGiveRoomSpec)

/-- ITS FALSE NEIGHBOUR: 'it returns false'. Refute it at one input. -/
def fnExactGiveRoomWrong : ChangeSpec := { name := "fnExactGiveRoom", fn := fun _ => fun
  | [d1, d2] => { results := [.lit (.bool false)], args := [d1, d2] }
  | _ => none }
def FnExactGiveRoomWrongFalsely : Prop := fnExactGiveRoomRow.holds Try.pinned (OpenSpec.ofChange fnExactGiveRoomWrong)

/-- 'laws.FnExactTakeExact': WHATEVER THE INPUT: true; the input reads as it did. -/
def fnExactTakeExactSpec : ChangeSpec := { name := "fnExactTakeExact", fn := fun _ => fun
  | [d1, d2] => { results := [.lit (.bool true)], args := [d1, d2] }
  | _ => none }
def fnExactTakeExactRow : OpenClaim := { program := "ytfhfaeeokibhaaa", sum := "55cfbafdd16fb167aede598e5469e1ea8e187b8fe7b959e3b60057bce1ea71d0", func := "loop.example/g00261/laws.FnExactTakeExact", spec := "fnExactTakeExact", unfollowed := true, recurses := true, apart := false }
def FnExactTakeExactSaid : Prop := fnExactTakeExactRow.holds Try.pinned (OpenSpec.ofChange fnExactTakeExactSpec)

/-- ITS FALSE NEIGHBOUR: 'it returns false'. Refute it at one input. -/
def fnExactTakeExactWrong : ChangeSpec := { name := "fnExactTakeExact", fn := fun _ => fun
  | [d1, d2] => { results := [.lit (.bool false)], args := [d1, d2] }
  | _ => none }
def FnExactTakeExactWrongFalsely : Prop := fnExactTakeExactRow.holds Try.pinned (OpenSpec.ofChange fnExactTakeExactWrong)

/-- 'laws.FnExactTakeRoom': WHATEVER THE INPUT: true; the input reads as it did. -/
def fnExactTakeRoomSpec : ChangeSpec := { name := "fnExactTakeRoom", fn := fun _ => fun
  | [d1, d2, d3, d4] => { results := [.lit (.bool true)], args := [d1, d2, d3, d4] }
  | _ => none }
def fnExactTakeRoomRow : OpenClaim := { program := "ytfhfaeeokibhaaa", sum := "55cfbafdd16fb167aede598e5469e1ea8e187b8fe7b959e3b60057bce1ea71d0", func := "loop.example/g00261/laws.FnExactTakeRoom", spec := "fnExactTakeRoom", unfollowed := true, recurses := true, apart := false }
def FnExactTakeRoomSaid : Prop := fnExactTakeRoomRow.holds Try.pinned (OpenSpec.ofChange fnExactTakeRoomSpec)

/-- ITS FALSE NEIGHBOUR: 'it returns false'. Refute it at one input. -/
def fnExactTakeRoomWrong : ChangeSpec := { name := "fnExactTakeRoom", fn := fun _ => fun
  | [d1, d2, d3, d4] => { results := [.lit (.bool false)], args := [d1, d2, d3, d4] }
  | _ => none }
def FnExactTakeRoomWrongFalsely : Prop := fnExactTakeRoomRow.holds Try.pinned (OpenSpec.ofChange fnExactTakeRoomWrong)

/- THE SECOND FORM. 'bulk': how many values and letters a reading holds, each counted each time it is reached (what is shared counts as often as it is met; a slice's spare places count too). A statement '..UptoSaid' is the law's where the arguments, and the package variables that the reading takes, are together of bulk at most 1048576: NARROWER than '..Said'. Prove '..Said' where nothing that the law and all that it calls make is longer than what came in: it says more and counts as full. Else prove '..UptoSaid'. A law counts once. -/
mutual
def uptoBulk {H : Type} : DataW H → Nat
  | .lit (.string bytes) => bytes.length + 1
  | .lit _ => 1
  | .nil => 1
  | .ptr d => uptoBulk d + 1
  | .slice elems spare => uptoBulkAll elems + uptoBulkAll spare + 1
  | .agg parts => uptoBulkAll parts + 1
  | .iface _ d => uptoBulk d + 1
  | .map entries => uptoBulkEntries entries + 1
  | .held _ => 1
def uptoBulkAll {H : Type} : List (DataW H) → Nat
  | [] => 0
  | d :: r => uptoBulk d + uptoBulkAll r
def uptoBulkEntries {H : Type} : List (Lit × DataW H) → Nat
  | [] => 0
  | x :: r => uptoBulkEntry x + uptoBulkEntries r
def uptoBulkEntry {H : Type} : Lit × DataW H → Nat
  | (.string bytes, d) => bytes.length + uptoBulk d + 1
  | (_, d) => uptoBulk d + 1
 end
def uptoSmall : (H : Type) → List (DataW H) → Bool := fun _ ds => decide (uptoBulkAll ds ≤ 1048576)
def OpenSpec.upto (s : _root_.Go.ChangeSpec) : _root_.Go.OpenSpec := { _root_.Go.OpenSpec.ofChange s with cond := some uptoSmall }

/-- 'laws.FnExactNewFree', WHERE WHAT IT READS IS OF BULK AT MOST 1048576: true; the input reads as it did. -/
def fnExactNewFreeUptoRow : OpenClaim := { program := "ytfhfaeeokibhaaa", sum := "55cfbafdd16fb167aede598e5469e1ea8e187b8fe7b959e3b60057bce1ea71d0", func := "loop.example/g00261/laws.FnExactNewFree", spec := "fnExactNewFree", unfollowed := true, recurses := true, apart := false, narrowed := true }
def FnExactNewFreeUptoSaid : Prop := fnExactNewFreeUptoRow.holds Try.pinned (OpenSpec.upto fnExactNewFreeSpec)

/-- 'laws.FnExactGoodFree', WHERE WHAT IT READS IS OF BULK AT MOST 1048576: true; the input reads as it did. -/
def fnExactGoodFreeUptoRow : OpenClaim := { program := "ytfhfaeeokibhaaa", sum := "55cfbafdd16fb167aede598e5469e1ea8e187b8fe7b959e3b60057bce1ea71d0", func := "loop.example/g00261/laws.FnExactGoodFree", spec := "fnExactGoodFree", unfollowed := true, recurses := true, apart := false, narrowed := true }
def FnExactGoodFreeUptoSaid : Prop := fnExactGoodFreeUptoRow.holds Try.pinned (OpenSpec.upto fnExactGoodFreeSpec)

/-- 'laws.FnExactRoomIn', WHERE WHAT IT READS IS OF BULK AT MOST 1048576: true; the input reads as it did. -/
def fnExactRoomInUptoRow : OpenClaim := { program := "ytfhfaeeokibhaaa", sum := "55cfbafdd16fb167aede598e5469e1ea8e187b8fe7b959e3b60057bce1ea71d0", func := "loop.example/g00261/laws.FnExactRoomIn", spec := "fnExactRoomIn", unfollowed := true, recurses := true, apart := false, narrowed := true }
def FnExactRoomInUptoSaid : Prop := fnExactRoomInUptoRow.holds Try.pinned (OpenSpec.upto fnExactRoomInSpec)

/-- 'laws.FnExactIsFreeAt', WHERE WHAT IT READS IS OF BULK AT MOST 1048576: true; the input reads as it did. -/
def fnExactIsFreeAtUptoRow : OpenClaim := { program := "ytfhfaeeokibhaaa", sum := "55cfbafdd16fb167aede598e5469e1ea8e187b8fe7b959e3b60057bce1ea71d0", func := "loop.example/g00261/laws.FnExactIsFreeAt", spec := "fnExactIsFreeAt", unfollowed := true, recurses := true, apart := false, narrowed := true }
def FnExactIsFreeAtUptoSaid : Prop := fnExactIsFreeAtUptoRow.holds Try.pinned (OpenSpec.upto fnExactIsFreeAtSpec)

/-- 'laws.FnExactUsedExtents', WHERE WHAT IT READS IS OF BULK AT MOST 1048576: true; the input reads as it did. -/
def fnExactUsedExtentsUptoRow : OpenClaim := { program := "ytfhfaeeokibhaaa", sum := "55cfbafdd16fb167aede598e5469e1ea8e187b8fe7b959e3b60057bce1ea71d0", func := "loop.example/g00261/laws.FnExactUsedExtents", spec := "fnExactUsedExtents", unfollowed := true, recurses := true, apart := false, narrowed := true }
def FnExactUsedExtentsUptoSaid : Prop := fnExactUsedExtentsUptoRow.holds Try.pinned (OpenSpec.upto fnExactUsedExtentsSpec)

/-- 'laws.FnExactGiveRoom', WHERE WHAT IT READS IS OF BULK AT MOST 1048576: true; the input reads as it did. -/
def fnExactGiveRoomUptoRow : OpenClaim := { program := "ytfhfaeeokibhaaa", sum := "55cfbafdd16fb167aede598e5469e1ea8e187b8fe7b959e3b60057bce1ea71d0", func := "loop.example/g00261/laws.FnExactGiveRoom", spec := "fnExactGiveRoom", unfollowed := true, recurses := true, apart := false, narrowed := true }
def FnExactGiveRoomUptoSaid : Prop := fnExactGiveRoomUptoRow.holds Try.pinned (OpenSpec.upto fnExactGiveRoomSpec)

/-- 'laws.FnExactTakeExact', WHERE WHAT IT READS IS OF BULK AT MOST 1048576: true; the input reads as it did. -/
def fnExactTakeExactUptoRow : OpenClaim := { program := "ytfhfaeeokibhaaa", sum := "55cfbafdd16fb167aede598e5469e1ea8e187b8fe7b959e3b60057bce1ea71d0", func := "loop.example/g00261/laws.FnExactTakeExact", spec := "fnExactTakeExact", unfollowed := true, recurses := true, apart := false, narrowed := true }
def FnExactTakeExactUptoSaid : Prop := fnExactTakeExactUptoRow.holds Try.pinned (OpenSpec.upto fnExactTakeExactSpec)

/-- 'laws.FnExactTakeRoom', WHERE WHAT IT READS IS OF BULK AT MOST 1048576: true; the input reads as it did. -/
def fnExactTakeRoomUptoRow : OpenClaim := { program := "ytfhfaeeokibhaaa", sum := "55cfbafdd16fb167aede598e5469e1ea8e187b8fe7b959e3b60057bce1ea71d0", func := "loop.example/g00261/laws.FnExactTakeRoom", spec := "fnExactTakeRoom", unfollowed := true, recurses := true, apart := false, narrowed := true }
def FnExactTakeRoomUptoSaid : Prop := fnExactTakeRoomUptoRow.holds Try.pinned (OpenSpec.upto fnExactTakeRoomSpec)

end Rows
end Go.Proofs.Ytfhfaeeokibhaaa
