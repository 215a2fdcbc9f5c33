/-
  No cell of these rows narrows 'for every input' (looked for: loops, veiled, ifaces, maps, wideKeys, modest, calm, conditions, laid).
  DERIVED. THE GIVEN ROWS OF THIS SEAT. 4 by the template 'for every input the law returns true; each argument reads behind the call as it read before'; 0 by the template 'total and deterministic' (their statements: YtmgbfbpolmbnfaaTotals.lean).
  GIVEN WITH THE SEED: the statements are not yours to turn. If you find one false, say at which input.
  Laid BY PROGRAM, IN A SANDBOX (cutbox-rows.mjs): the forced cells as the released guide's own fill.sh prints them over the translation b656f2e4e91ead74… (all of the seat's roots in one cut). By AI agents, Wed Nov 11 2026. No macro, syntax, notation, axiom, sorry.
-/
import Derived.Test.YtmgbfbpolmbnfaaChecked
import GoSem.Claim
import GoSem.ClaimJoined
import GoSem.ClaimMapViews
import Derived.JoinedTies
import Derived.KernelRfl
namespace Go.Proofs.Ytmgbfbpolmbnfaa
/- THE CELL 'sum', in the pinned program and in every row, IS THE sha256 OF THE DUMP (.gsa) THAT YtmgbfbpolmbnfaaProg.lean LOADS. Nothing in Lean hashes anything: it is a label: what it is worth is what the hold of that sum in a sandbox is worth. -/
noncomputable def Try.pinned : Pinned := { name := "ytmgbfbpolmbnfaa", sum := "b656f2e4e91ead747fa393a4a84f264d605b2ee7045aa38701f8dd071f7ddb3c", checked := Try.checked }
namespace Rows
def none {H : Type} : Left H := { results := [], args := [] }

/-- 'laws.FnExactGoodTree': WHATEVER THE INPUT: true; the input reads as it did. -/
def fnExactGoodTreeSpec : ChangeSpec := { name := "fnExactGoodTree", fn := fun _ => fun
  | [d] => { results := [.lit (.bool true)], args := [d] }
  | _ => none }
def fnExactGoodTreeRow : OpenClaim := { program := "ytmgbfbpolmbnfaa", sum := "b656f2e4e91ead747fa393a4a84f264d605b2ee7045aa38701f8dd071f7ddb3c", func := "loop.example/g00261/laws.FnExactGoodTree", spec := "fnExactGoodTree", recurses := true, apart := false }
def FnExactGoodTreeSaid : Prop := fnExactGoodTreeRow.holds Try.pinned (OpenSpec.ofChange fnExactGoodTreeSpec)

/-- ITS FALSE NEIGHBOUR: 'it returns false'. Refute it at one input. -/
def fnExactGoodTreeWrong : ChangeSpec := { name := "fnExactGoodTree", fn := fun _ => fun
  | [d] => { results := [.lit (.bool false)], args := [d] }
  | _ => none }
def FnExactGoodTreeWrongFalsely : Prop := fnExactGoodTreeRow.holds Try.pinned (OpenSpec.ofChange fnExactGoodTreeWrong)

/-- 'laws.FnExactDepthOf': WHATEVER THE INPUT: true; the input reads as it did. -/
def fnExactDepthOfSpec : ChangeSpec := { name := "fnExactDepthOf", fn := fun _ => fun
  | [d] => { results := [.lit (.bool true)], args := [d] }
  | _ => none }
def fnExactDepthOfRow : OpenClaim := { program := "ytmgbfbpolmbnfaa", sum := "b656f2e4e91ead747fa393a4a84f264d605b2ee7045aa38701f8dd071f7ddb3c", func := "loop.example/g00261/laws.FnExactDepthOf", spec := "fnExactDepthOf", recurses := true, apart := false }
def FnExactDepthOfSaid : Prop := fnExactDepthOfRow.holds Try.pinned (OpenSpec.ofChange fnExactDepthOfSpec)

/-- ITS FALSE NEIGHBOUR: 'it returns false'. Refute it at one input. -/
def fnExactDepthOfWrong : ChangeSpec := { name := "fnExactDepthOf", fn := fun _ => fun
  | [d] => { results := [.lit (.bool false)], args := [d] }
  | _ => none }
def FnExactDepthOfWrongFalsely : Prop := fnExactDepthOfRow.holds Try.pinned (OpenSpec.ofChange fnExactDepthOfWrong)

/-- 'laws.FnExactKeysOf': WHATEVER THE INPUT: true; the input reads as it did. -/
def fnExactKeysOfSpec : ChangeSpec := { name := "fnExactKeysOf", fn := fun _ => fun
  | [d] => { results := [.lit (.bool true)], args := [d] }
  | _ => none }
def fnExactKeysOfRow : OpenClaim := { program := "ytmgbfbpolmbnfaa", sum := "b656f2e4e91ead747fa393a4a84f264d605b2ee7045aa38701f8dd071f7ddb3c", func := "loop.example/g00261/laws.FnExactKeysOf", spec := "fnExactKeysOf", recurses := true, apart := false }
def FnExactKeysOfSaid : Prop := fnExactKeysOfRow.holds Try.pinned (OpenSpec.ofChange fnExactKeysOfSpec)

/-- ITS FALSE NEIGHBOUR: 'it returns false'. Refute it at one input. -/
def fnExactKeysOfWrong : ChangeSpec := { name := "fnExactKeysOf", fn := fun _ => fun
  | [d] => { results := [.lit (.bool false)], args := [d] }
  | _ => none }
def FnExactKeysOfWrongFalsely : Prop := fnExactKeysOfRow.holds Try.pinned (OpenSpec.ofChange fnExactKeysOfWrong)

/-- 'laws.FnExactHasKey': WHATEVER THE INPUT: true; the input reads as it did. -/
def fnExactHasKeySpec : ChangeSpec := { name := "fnExactHasKey", fn := fun _ => fun
  | [d1, d2] => { results := [.lit (.bool true)], args := [d1, d2] }
  | _ => none }
def fnExactHasKeyRow : OpenClaim := { program := "ytmgbfbpolmbnfaa", sum := "b656f2e4e91ead747fa393a4a84f264d605b2ee7045aa38701f8dd071f7ddb3c", func := "loop.example/g00261/laws.FnExactHasKey", spec := "fnExactHasKey", recurses := true, apart := false }
def FnExactHasKeySaid : Prop := fnExactHasKeyRow.holds Try.pinned (OpenSpec.ofChange fnExactHasKeySpec)

/-- ITS FALSE NEIGHBOUR: 'it returns false'. Refute it at one input. -/
def fnExactHasKeyWrong : ChangeSpec := { name := "fnExactHasKey", fn := fun _ => fun
  | [d1, d2] => { results := [.lit (.bool false)], args := [d1, d2] }
  | _ => none }
def FnExactHasKeyWrongFalsely : Prop := fnExactHasKeyRow.holds Try.pinned (OpenSpec.ofChange fnExactHasKeyWrong)

/- THE SECOND FORM. 'bulk': how many values and letters a reading holds, each counted each time it is reached (what is shared counts as often as it is met; a slice's spare places count too). A statement '..UptoSaid' is the law's where the arguments, and the package variables that the reading takes, are together of bulk at most 1048576: NARROWER than '..Said'. Prove '..Said' where nothing that the law and all that it calls make is longer than what came in: it says more and counts as full. Else prove '..UptoSaid'. A law counts once. -/
mutual
def uptoBulk {H : Type} : DataW H → Nat
  | .lit (.string bytes) => bytes.length + 1
  | .lit _ => 1
  | .nil => 1
  | .ptr d => uptoBulk d + 1
  | .slice elems spare => uptoBulkAll elems + uptoBulkAll spare + 1
  | .agg parts => uptoBulkAll parts + 1
  | .iface _ d => uptoBulk d + 1
  | .map entries => uptoBulkEntries entries + 1
  | .held _ => 1
def uptoBulkAll {H : Type} : List (DataW H) → Nat
  | [] => 0
  | d :: r => uptoBulk d + uptoBulkAll r
def uptoBulkEntries {H : Type} : List (Lit × DataW H) → Nat
  | [] => 0
  | x :: r => uptoBulkEntry x + uptoBulkEntries r
def uptoBulkEntry {H : Type} : Lit × DataW H → Nat
  | (.string bytes, d) => bytes.length + uptoBulk d + 1
  | (_, d) => uptoBulk d + 1
 end
def uptoSmall : (H : Type) → List (DataW H) → Bool := fun _ ds => decide (uptoBulkAll ds ≤ 1048576)
def OpenSpec.upto (s : _root_.Go.ChangeSpec) : _root_.Go.OpenSpec := { _root_.Go.OpenSpec.ofChange s with cond := some uptoSmall }

/-- 'laws.FnExactGoodTree', WHERE WHAT IT READS IS OF BULK AT MOST 1048576: true; the input reads as it did. -/
def fnExactGoodTreeUptoRow : OpenClaim := { program := "ytmgbfbpolmbnfaa", sum := "b656f2e4e91ead747fa393a4a84f264d605b2ee7045aa38701f8dd071f7ddb3c", func := "loop.example/g00261/laws.FnExactGoodTree", spec := "fnExactGoodTree", recurses := true, apart := false, narrowed := true }
def FnExactGoodTreeUptoSaid : Prop := fnExactGoodTreeUptoRow.holds Try.pinned (OpenSpec.upto fnExactGoodTreeSpec)

/-- 'laws.FnExactDepthOf', WHERE WHAT IT READS IS OF BULK AT MOST 1048576: true; the input reads as it did. -/
def fnExactDepthOfUptoRow : OpenClaim := { program := "ytmgbfbpolmbnfaa", sum := "b656f2e4e91ead747fa393a4a84f264d605b2ee7045aa38701f8dd071f7ddb3c", func := "loop.example/g00261/laws.FnExactDepthOf", spec := "fnExactDepthOf", recurses := true, apart := false, narrowed := true }
def FnExactDepthOfUptoSaid : Prop := fnExactDepthOfUptoRow.holds Try.pinned (OpenSpec.upto fnExactDepthOfSpec)

/-- 'laws.FnExactKeysOf', WHERE WHAT IT READS IS OF BULK AT MOST 1048576: true; the input reads as it did. -/
def fnExactKeysOfUptoRow : OpenClaim := { program := "ytmgbfbpolmbnfaa", sum := "b656f2e4e91ead747fa393a4a84f264d605b2ee7045aa38701f8dd071f7ddb3c", func := "loop.example/g00261/laws.FnExactKeysOf", spec := "fnExactKeysOf", recurses := true, apart := false, narrowed := true }
def FnExactKeysOfUptoSaid : Prop := fnExactKeysOfUptoRow.holds Try.pinned (OpenSpec.upto fnExactKeysOfSpec)

/-- 'laws.FnExactHasKey', WHERE WHAT IT READS IS OF BULK AT MOST 1048576: true; the input reads as it did. -/
def fnExactHasKeyUptoRow : OpenClaim := { program := "ytmgbfbpolmbnfaa", sum := "b656f2e4e91ead747fa393a4a84f264d605b2ee7045aa38701f8dd071f7ddb3c", func := "loop.example/g00261/laws.FnExactHasKey", spec := "fnExactHasKey", recurses := true, apart := false, narrowed := true }
def FnExactHasKeyUptoSaid : Prop := fnExactHasKeyUptoRow.holds Try.pinned (OpenSpec.upto fnExactHasKeySpec)

end Rows
end Go.Proofs.Ytmgbfbpolmbnfaa
