/-
  No cell of these rows narrows 'for every input' (looked for: loops, veiled, ifaces, maps, wideKeys, modest, calm, conditions, laid).
  DERIVED. THE GIVEN ROWS OF THIS SEAT. 5 by the template 'for every input the law returns true; each argument reads behind the call as it read before'; 0 by the template 'total and deterministic' (their statements: YtbjcioihomeikaaTotals.lean).
  GIVEN WITH THE SEED: the statements are not yours to turn. If you find one false, say at which input.
  Laid BY PROGRAM, IN A SANDBOX (cutbox-rows.mjs): the forced cells as the released guide's own fill.sh prints them over the translation f347c4bd01ce5c55… (all of the seat's roots in one cut). By AI agents, Wed Nov 11 2026. No macro, syntax, notation, axiom, sorry.
-/
import Derived.Test.YtbjcioihomeikaaChecked
import GoSem.Claim
import GoSem.ClaimJoined
import GoSem.ClaimMapViews
import Derived.JoinedTies
import Derived.KernelRfl
namespace Go.Proofs.Ytbjcioihomeikaa
/- THE CELL 'sum', in the pinned program and in every row, IS THE sha256 OF THE DUMP (.gsa) THAT YtbjcioihomeikaaProg.lean LOADS. Nothing in Lean hashes anything: it is a label: what it is worth is what the hold of that sum in a sandbox is worth. -/
noncomputable def Try.pinned : Pinned := { name := "ytbjcioihomeikaa", sum := "f347c4bd01ce5c558e7f297d7422fc91dd823cd6c3c35ff60a4c1ba73a03abfa", checked := Try.checked }
namespace Rows
def none {H : Type} : Left H := { results := [], args := [] }

/-- 'laws.FnExactGiveBlock': WHATEVER THE INPUT: true; the input reads as it did. -/
def fnExactGiveBlockSpec : ChangeSpec := { name := "fnExactGiveBlock", fn := fun _ => fun
  | [d1, d2] => { results := [.lit (.bool true)], args := [d1, d2] }
  | _ => none }
def fnExactGiveBlockRow : OpenClaim := { program := "ytbjcioihomeikaa", sum := "f347c4bd01ce5c558e7f297d7422fc91dd823cd6c3c35ff60a4c1ba73a03abfa", func := "loop.example/g00261/laws.FnExactGiveBlock", spec := "fnExactGiveBlock", inPlace := ["slices.overlaps[loop.example/g00261/impl.Block]"], unfollowed := true, recurses := true, apart := false }
def FnExactGiveBlockSaid : Prop := fnExactGiveBlockRow.holds Try.pinned (OpenSpec.ofChange fnExactGiveBlockSpec)

/-- ITS FALSE NEIGHBOUR: 'it returns false'. Refute it at one input. -/
def fnExactGiveBlockWrong : ChangeSpec := { name := "fnExactGiveBlock", fn := fun _ => fun
  | [d1, d2] => { results := [.lit (.bool false)], args := [d1, d2] }
  | _ => none }
def FnExactGiveBlockWrongFalsely : Prop := fnExactGiveBlockRow.holds Try.pinned (OpenSpec.ofChange fnExactGiveBlockWrong)

/-- 'laws.FnExactTakeBlock': WHATEVER THE INPUT: true; the input reads as it did. -/
def fnExactTakeBlockSpec : ChangeSpec := { name := "fnExactTakeBlock", fn := fun _ => fun
  | [d1, d2] => { results := [.lit (.bool true)], args := [d1, d2] }
  | _ => none }
def fnExactTakeBlockRow : OpenClaim := { program := "ytbjcioihomeikaa", sum := "f347c4bd01ce5c558e7f297d7422fc91dd823cd6c3c35ff60a4c1ba73a03abfa", func := "loop.example/g00261/laws.FnExactTakeBlock", spec := "fnExactTakeBlock", inPlace := ["slices.overlaps[loop.example/g00261/impl.Block]"], unfollowed := true, recurses := true, apart := false }
def FnExactTakeBlockSaid : Prop := fnExactTakeBlockRow.holds Try.pinned (OpenSpec.ofChange fnExactTakeBlockSpec)

/-- ITS FALSE NEIGHBOUR: 'it returns false'. Refute it at one input. -/
def fnExactTakeBlockWrong : ChangeSpec := { name := "fnExactTakeBlock", fn := fun _ => fun
  | [d1, d2] => { results := [.lit (.bool false)], args := [d1, d2] }
  | _ => none }
def FnExactTakeBlockWrongFalsely : Prop := fnExactTakeBlockRow.holds Try.pinned (OpenSpec.ofChange fnExactTakeBlockWrong)

/-- 'laws.FnBuddies': WHATEVER THE INPUT: true; the input reads as it did. -/
def fnBuddiesSpec : ChangeSpec := { name := "fnBuddies", fn := fun _ => fun
  | [d1, d2] => { results := [.lit (.bool true)], args := [d1, d2] }
  | _ => none }
def fnBuddiesRow : OpenClaim := { program := "ytbjcioihomeikaa", sum := "f347c4bd01ce5c558e7f297d7422fc91dd823cd6c3c35ff60a4c1ba73a03abfa", func := "loop.example/g00261/laws.FnBuddies", spec := "fnBuddies", inPlace := ["slices.overlaps[loop.example/g00261/impl.Block]"], unfollowed := true, recurses := true, apart := false }
def FnBuddiesSaid : Prop := fnBuddiesRow.holds Try.pinned (OpenSpec.ofChange fnBuddiesSpec)

/-- ITS FALSE NEIGHBOUR: 'it returns false'. Refute it at one input. -/
def fnBuddiesWrong : ChangeSpec := { name := "fnBuddies", fn := fun _ => fun
  | [d1, d2] => { results := [.lit (.bool false)], args := [d1, d2] }
  | _ => none }
def FnBuddiesWrongFalsely : Prop := fnBuddiesRow.holds Try.pinned (OpenSpec.ofChange fnBuddiesWrong)

/-- 'laws.FnExactGoodBuddy': WHATEVER THE INPUT: true; the input reads as it did. -/
def fnExactGoodBuddySpec : ChangeSpec := { name := "fnExactGoodBuddy", fn := fun _ => fun
  | [d] => { results := [.lit (.bool true)], args := [d] }
  | _ => none }
def fnExactGoodBuddyRow : OpenClaim := { program := "ytbjcioihomeikaa", sum := "f347c4bd01ce5c558e7f297d7422fc91dd823cd6c3c35ff60a4c1ba73a03abfa", func := "loop.example/g00261/laws.FnExactGoodBuddy", spec := "fnExactGoodBuddy", unfollowed := true, recurses := true, apart := false }
def FnExactGoodBuddySaid : Prop := fnExactGoodBuddyRow.holds Try.pinned (OpenSpec.ofChange fnExactGoodBuddySpec)

/-- ITS FALSE NEIGHBOUR: 'it returns false'. Refute it at one input. -/
def fnExactGoodBuddyWrong : ChangeSpec := { name := "fnExactGoodBuddy", fn := fun _ => fun
  | [d] => { results := [.lit (.bool false)], args := [d] }
  | _ => none }
def FnExactGoodBuddyWrongFalsely : Prop := fnExactGoodBuddyRow.holds Try.pinned (OpenSpec.ofChange fnExactGoodBuddyWrong)

/-- 'laws.FnExactBytesFree': WHATEVER THE INPUT: true; the input reads as it did. -/
def fnExactBytesFreeSpec : ChangeSpec := { name := "fnExactBytesFree", fn := fun _ => fun
  | [d] => { results := [.lit (.bool true)], args := [d] }
  | _ => none }
def fnExactBytesFreeRow : OpenClaim := { program := "ytbjcioihomeikaa", sum := "f347c4bd01ce5c558e7f297d7422fc91dd823cd6c3c35ff60a4c1ba73a03abfa", func := "loop.example/g00261/laws.FnExactBytesFree", spec := "fnExactBytesFree", unfollowed := true, recurses := true, apart := false }
def FnExactBytesFreeSaid : Prop := fnExactBytesFreeRow.holds Try.pinned (OpenSpec.ofChange fnExactBytesFreeSpec)

/-- ITS FALSE NEIGHBOUR: 'it returns false'. Refute it at one input. -/
def fnExactBytesFreeWrong : ChangeSpec := { name := "fnExactBytesFree", fn := fun _ => fun
  | [d] => { results := [.lit (.bool false)], args := [d] }
  | _ => none }
def FnExactBytesFreeWrongFalsely : Prop := fnExactBytesFreeRow.holds Try.pinned (OpenSpec.ofChange fnExactBytesFreeWrong)

/- THE SECOND FORM. 'bulk': how many values and letters a reading holds, each counted each time it is reached (what is shared counts as often as it is met; a slice's spare places count too). A statement '..UptoSaid' is the law's where the arguments, and the package variables that the reading takes, are together of bulk at most 1048576: NARROWER than '..Said'. Prove '..Said' where nothing that the law and all that it calls make is longer than what came in: it says more and counts as full. Else prove '..UptoSaid'. A law counts once. -/
mutual
def uptoBulk {H : Type} : DataW H → Nat
  | .lit (.string bytes) => bytes.length + 1
  | .lit _ => 1
  | .nil => 1
  | .ptr d => uptoBulk d + 1
  | .slice elems spare => uptoBulkAll elems + uptoBulkAll spare + 1
  | .agg parts => uptoBulkAll parts + 1
  | .iface _ d => uptoBulk d + 1
  | .map entries => uptoBulkEntries entries + 1
  | .held _ => 1
def uptoBulkAll {H : Type} : List (DataW H) → Nat
  | [] => 0
  | d :: r => uptoBulk d + uptoBulkAll r
def uptoBulkEntries {H : Type} : List (Lit × DataW H) → Nat
  | [] => 0
  | x :: r => uptoBulkEntry x + uptoBulkEntries r
def uptoBulkEntry {H : Type} : Lit × DataW H → Nat
  | (.string bytes, d) => bytes.length + uptoBulk d + 1
  | (_, d) => uptoBulk d + 1
 end
def uptoSmall : (H : Type) → List (DataW H) → Bool := fun _ ds => decide (uptoBulkAll ds ≤ 1048576)
def OpenSpec.upto (s : _root_.Go.ChangeSpec) : _root_.Go.OpenSpec := { _root_.Go.OpenSpec.ofChange s with cond := some uptoSmall }

/-- 'laws.FnExactGiveBlock', WHERE WHAT IT READS IS OF BULK AT MOST 1048576: true; the input reads as it did. -/
def fnExactGiveBlockUptoRow : OpenClaim := { program := "ytbjcioihomeikaa", sum := "f347c4bd01ce5c558e7f297d7422fc91dd823cd6c3c35ff60a4c1ba73a03abfa", func := "loop.example/g00261/laws.FnExactGiveBlock", spec := "fnExactGiveBlock", inPlace := ["slices.overlaps[loop.example/g00261/impl.Block]"], unfollowed := true, recurses := true, apart := false, narrowed := true }
def FnExactGiveBlockUptoSaid : Prop := fnExactGiveBlockUptoRow.holds Try.pinned (OpenSpec.upto fnExactGiveBlockSpec)

/-- 'laws.FnExactTakeBlock', WHERE WHAT IT READS IS OF BULK AT MOST 1048576: true; the input reads as it did. -/
def fnExactTakeBlockUptoRow : OpenClaim := { program := "ytbjcioihomeikaa", sum := "f347c4bd01ce5c558e7f297d7422fc91dd823cd6c3c35ff60a4c1ba73a03abfa", func := "loop.example/g00261/laws.FnExactTakeBlock", spec := "fnExactTakeBlock", inPlace := ["slices.overlaps[loop.example/g00261/impl.Block]"], unfollowed := true, recurses := true, apart := false, narrowed := true }
def FnExactTakeBlockUptoSaid : Prop := fnExactTakeBlockUptoRow.holds Try.pinned (OpenSpec.upto fnExactTakeBlockSpec)

/-- 'laws.FnBuddies', WHERE WHAT IT READS IS OF BULK AT MOST 1048576: true; the input reads as it did. -/
def fnBuddiesUptoRow : OpenClaim := { program := "ytbjcioihomeikaa", sum := "f347c4bd01ce5c558e7f297d7422fc91dd823cd6c3c35ff60a4c1ba73a03abfa", func := "loop.example/g00261/laws.FnBuddies", spec := "fnBuddies", inPlace := ["slices.overlaps[loop.example/g00261/impl.Block]"], unfollowed := true, recurses := true, apart := false, narrowed := true }
def FnBuddiesUptoSaid : Prop := fnBuddiesUptoRow.holds Try.pinned (OpenSpec.upto fnBuddiesSpec)

/-- 'laws.FnExactGoodBuddy', WHERE WHAT IT READS IS OF BULK AT MOST 1048576: true; the input reads as it did. -/
def fnExactGoodBuddyUptoRow : OpenClaim := { program := "ytbjcioihomeikaa", sum := "f347c4bd01ce5c558e7f297d7422fc91dd823cd6c3c35ff60a4c1ba73a03abfa", func := "loop.example/g00261/laws.FnExactGoodBuddy", spec := "fnExactGoodBuddy", unfollowed := true, recurses := true, apart := false, narrowed := true }
def FnExactGoodBuddyUptoSaid : Prop := fnExactGoodBuddyUptoRow.holds Try.pinned (OpenSpec.upto fnExactGoodBuddySpec)

/-- 'laws.FnExactBytesFree', WHERE WHAT IT READS IS OF BULK AT MOST 1048576: true; the input reads as it did. -/
def fnExactBytesFreeUptoRow : OpenClaim := { program := "ytbjcioihomeikaa", sum := "f347c4bd01ce5c558e7f297d7422fc91dd823cd6c3c35ff60a4c1ba73a03abfa", func := "loop.example/g00261/laws.FnExactBytesFree", spec := "fnExactBytesFree", unfollowed := true, recurses := true, apart := false, narrowed := true }
def FnExactBytesFreeUptoSaid : Prop := fnExactBytesFreeUptoRow.holds Try.pinned (OpenSpec.upto fnExactBytesFreeSpec)

end Rows
end Go.Proofs.Ytbjcioihomeikaa
