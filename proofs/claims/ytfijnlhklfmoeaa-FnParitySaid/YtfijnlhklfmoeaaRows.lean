/-
  No cell of these rows narrows 'for every input' (looked for: loops, veiled, ifaces, maps, wideKeys, modest, calm, conditions, laid).
  DERIVED. THE GIVEN ROWS OF THIS SEAT. 9 by the template 'for every input the law returns true; each argument reads behind the call as it read before'; 0 by the template 'total and deterministic' (their statements: YtfijnlhklfmoeaaTotals.lean).
  GIVEN WITH THE SEED: the statements are not yours to turn. If you find one false, say at which input.
  Laid BY PROGRAM, IN A SANDBOX (cutbox-rows.mjs): the forced cells as the released guide's own fill.sh prints them over the translation 1bd44073dd1715b9… (all of the seat's roots in one cut). By AI agents, Wed Nov 11 2026. No macro, syntax, notation, axiom, sorry.
-/
import Derived.Test.YtfijnlhklfmoeaaChecked
import GoSem.Claim
import GoSem.ClaimJoined
import GoSem.ClaimMapViews
import Derived.JoinedTies
import Derived.KernelRfl
namespace Go.Proofs.Ytfijnlhklfmoeaa
/- THE CELL 'sum', in the pinned program and in every row, IS THE sha256 OF THE DUMP (.gsa) THAT YtfijnlhklfmoeaaProg.lean LOADS. Nothing in Lean hashes anything: it is a label: what it is worth is what the hold of that sum in a sandbox is worth. -/
noncomputable def Try.pinned : Pinned := { name := "ytfijnlhklfmoeaa", sum := "1bd44073dd1715b9accbbdd36383d9959393398cc8ddbb47d45b2bcf3ca99a8f", checked := Try.checked }
namespace Rows
def none {H : Type} : Left H := { results := [], args := [] }

/-- 'laws.FnExactGoodStripe': WHATEVER THE INPUT: true; the input reads as it did. -/
def fnExactGoodStripeSpec : ChangeSpec := { name := "fnExactGoodStripe", fn := fun _ => fun
  | [d] => { results := [.lit (.bool true)], args := [d] }
  | _ => none }
def fnExactGoodStripeRow : OpenClaim := { program := "ytfijnlhklfmoeaa", sum := "1bd44073dd1715b9accbbdd36383d9959393398cc8ddbb47d45b2bcf3ca99a8f", func := "loop.example/g00261/laws.FnExactGoodStripe", spec := "fnExactGoodStripe", unfollowed := true, recurses := true, apart := false }
def FnExactGoodStripeSaid : Prop := fnExactGoodStripeRow.holds Try.pinned (OpenSpec.ofChange fnExactGoodStripeSpec)

/-- ITS FALSE NEIGHBOUR: 'it returns false'. Refute it at one input. -/
def fnExactGoodStripeWrong : ChangeSpec := { name := "fnExactGoodStripe", fn := fun _ => fun
  | [d] => { results := [.lit (.bool false)], args := [d] }
  | _ => none }
def FnExactGoodStripeWrongFalsely : Prop := fnExactGoodStripeRow.holds Try.pinned (OpenSpec.ofChange fnExactGoodStripeWrong)

/-- 'laws.FnExactCheckStripe': WHATEVER THE INPUT: true; the input reads as it did. -/
def fnExactCheckStripeSpec : ChangeSpec := { name := "fnExactCheckStripe", fn := fun _ => fun
  | [d] => { results := [.lit (.bool true)], args := [d] }
  | _ => none }
def fnExactCheckStripeRow : OpenClaim := { program := "ytfijnlhklfmoeaa", sum := "1bd44073dd1715b9accbbdd36383d9959393398cc8ddbb47d45b2bcf3ca99a8f", func := "loop.example/g00261/laws.FnExactCheckStripe", spec := "fnExactCheckStripe", unfollowed := true, recurses := true, apart := false }
def FnExactCheckStripeSaid : Prop := fnExactCheckStripeRow.holds Try.pinned (OpenSpec.ofChange fnExactCheckStripeSpec)

/-- ITS FALSE NEIGHBOUR: 'it returns false'. Refute it at one input. -/
def fnExactCheckStripeWrong : ChangeSpec := { name := "fnExactCheckStripe", fn := fun _ => fun
  | [d] => { results := [.lit (.bool false)], args := [d] }
  | _ => none }
def FnExactCheckStripeWrongFalsely : Prop := fnExactCheckStripeRow.holds Try.pinned (OpenSpec.ofChange fnExactCheckStripeWrong)

/-- 'laws.FnExactMakeStripe': WHATEVER THE INPUT: true; the input reads as it did. -/
def fnExactMakeStripeSpec : ChangeSpec := { name := "fnExactMakeStripe", fn := fun _ => fun
  | [d] => { results := [.lit (.bool true)], args := [d] }
  | _ => none }
def fnExactMakeStripeRow : OpenClaim := { program := "ytfijnlhklfmoeaa", sum := "1bd44073dd1715b9accbbdd36383d9959393398cc8ddbb47d45b2bcf3ca99a8f", func := "loop.example/g00261/laws.FnExactMakeStripe", spec := "fnExactMakeStripe", unfollowed := true, recurses := true, apart := false }
def FnExactMakeStripeSaid : Prop := fnExactMakeStripeRow.holds Try.pinned (OpenSpec.ofChange fnExactMakeStripeSpec)

/-- ITS FALSE NEIGHBOUR: 'it returns false'. Refute it at one input. -/
def fnExactMakeStripeWrong : ChangeSpec := { name := "fnExactMakeStripe", fn := fun _ => fun
  | [d] => { results := [.lit (.bool false)], args := [d] }
  | _ => none }
def FnExactMakeStripeWrongFalsely : Prop := fnExactMakeStripeRow.holds Try.pinned (OpenSpec.ofChange fnExactMakeStripeWrong)

/-- 'laws.FnExactUpdateStripe': WHATEVER THE INPUT: true; the input reads as it did. -/
def fnExactUpdateStripeSpec : ChangeSpec := { name := "fnExactUpdateStripe", fn := fun _ => fun
  | [d1, d2, d3] => { results := [.lit (.bool true)], args := [d1, d2, d3] }
  | _ => none }
def fnExactUpdateStripeRow : OpenClaim := { program := "ytfijnlhklfmoeaa", sum := "1bd44073dd1715b9accbbdd36383d9959393398cc8ddbb47d45b2bcf3ca99a8f", func := "loop.example/g00261/laws.FnExactUpdateStripe", spec := "fnExactUpdateStripe", unfollowed := true, recurses := true, apart := false }
def FnExactUpdateStripeSaid : Prop := fnExactUpdateStripeRow.holds Try.pinned (OpenSpec.ofChange fnExactUpdateStripeSpec)

/-- ITS FALSE NEIGHBOUR: 'it returns false'. Refute it at one input. -/
def fnExactUpdateStripeWrong : ChangeSpec := { name := "fnExactUpdateStripe", fn := fun _ => fun
  | [d1, d2, d3] => { results := [.lit (.bool false)], args := [d1, d2, d3] }
  | _ => none }
def FnExactUpdateStripeWrongFalsely : Prop := fnExactUpdateStripeRow.holds Try.pinned (OpenSpec.ofChange fnExactUpdateStripeWrong)

/-- 'laws.FnExactFindWrong': WHATEVER THE INPUT: true; the input reads as it did. -/
def fnExactFindWrongSpec : ChangeSpec := { name := "fnExactFindWrong", fn := fun _ => fun
  | [d] => { results := [.lit (.bool true)], args := [d] }
  | _ => none }
def fnExactFindWrongRow : OpenClaim := { program := "ytfijnlhklfmoeaa", sum := "1bd44073dd1715b9accbbdd36383d9959393398cc8ddbb47d45b2bcf3ca99a8f", func := "loop.example/g00261/laws.FnExactFindWrong", spec := "fnExactFindWrong", unfollowed := true, recurses := true, apart := false }
def FnExactFindWrongSaid : Prop := fnExactFindWrongRow.holds Try.pinned (OpenSpec.ofChange fnExactFindWrongSpec)

/-- ITS FALSE NEIGHBOUR: 'it returns false'. Refute it at one input. -/
def fnExactFindWrongWrong : ChangeSpec := { name := "fnExactFindWrong", fn := fun _ => fun
  | [d] => { results := [.lit (.bool false)], args := [d] }
  | _ => none }
def FnExactFindWrongWrongFalsely : Prop := fnExactFindWrongRow.holds Try.pinned (OpenSpec.ofChange fnExactFindWrongWrong)

/-- 'laws.FnExactRecoverOne': WHATEVER THE INPUT: true; the input reads as it did. -/
def fnExactRecoverOneSpec : ChangeSpec := { name := "fnExactRecoverOne", fn := fun _ => fun
  | [d1, d2] => { results := [.lit (.bool true)], args := [d1, d2] }
  | _ => none }
def fnExactRecoverOneRow : OpenClaim := { program := "ytfijnlhklfmoeaa", sum := "1bd44073dd1715b9accbbdd36383d9959393398cc8ddbb47d45b2bcf3ca99a8f", func := "loop.example/g00261/laws.FnExactRecoverOne", spec := "fnExactRecoverOne", unfollowed := true, recurses := true, apart := false }
def FnExactRecoverOneSaid : Prop := fnExactRecoverOneRow.holds Try.pinned (OpenSpec.ofChange fnExactRecoverOneSpec)

/-- ITS FALSE NEIGHBOUR: 'it returns false'. Refute it at one input. -/
def fnExactRecoverOneWrong : ChangeSpec := { name := "fnExactRecoverOne", fn := fun _ => fun
  | [d1, d2] => { results := [.lit (.bool false)], args := [d1, d2] }
  | _ => none }
def FnExactRecoverOneWrongFalsely : Prop := fnExactRecoverOneRow.holds Try.pinned (OpenSpec.ofChange fnExactRecoverOneWrong)

/-- 'laws.FnExactRecoverTwo': WHATEVER THE INPUT: true; the input reads as it did. -/
def fnExactRecoverTwoSpec : ChangeSpec := { name := "fnExactRecoverTwo", fn := fun _ => fun
  | [d1, d2, d3] => { results := [.lit (.bool true)], args := [d1, d2, d3] }
  | _ => none }
def fnExactRecoverTwoRow : OpenClaim := { program := "ytfijnlhklfmoeaa", sum := "1bd44073dd1715b9accbbdd36383d9959393398cc8ddbb47d45b2bcf3ca99a8f", func := "loop.example/g00261/laws.FnExactRecoverTwo", spec := "fnExactRecoverTwo", unfollowed := true, recurses := true, apart := false }
def FnExactRecoverTwoSaid : Prop := fnExactRecoverTwoRow.holds Try.pinned (OpenSpec.ofChange fnExactRecoverTwoSpec)

/-- ITS FALSE NEIGHBOUR: 'it returns false'. Refute it at one input. -/
def fnExactRecoverTwoWrong : ChangeSpec := { name := "fnExactRecoverTwo", fn := fun _ => fun
  | [d1, d2, d3] => { results := [.lit (.bool false)], args := [d1, d2, d3] }
  | _ => none }
def FnExactRecoverTwoWrongFalsely : Prop := fnExactRecoverTwoRow.holds Try.pinned (OpenSpec.ofChange fnExactRecoverTwoWrong)

/-- 'laws.FnUpdated': WHATEVER THE INPUT: true; the input reads as it did. -/
def fnUpdatedSpec : ChangeSpec := { name := "fnUpdated", fn := fun _ => fun
  | [d1, d2] => { results := [.lit (.bool true)], args := [d1, d2] }
  | _ => none }
def fnUpdatedRow : OpenClaim := { program := "ytfijnlhklfmoeaa", sum := "1bd44073dd1715b9accbbdd36383d9959393398cc8ddbb47d45b2bcf3ca99a8f", func := "loop.example/g00261/laws.FnUpdated", spec := "fnUpdated", unfollowed := true, recurses := true, apart := false }
def FnUpdatedSaid : Prop := fnUpdatedRow.holds Try.pinned (OpenSpec.ofChange fnUpdatedSpec)

/-- ITS FALSE NEIGHBOUR: 'it returns false'. Refute it at one input. -/
def fnUpdatedWrong : ChangeSpec := { name := "fnUpdated", fn := fun _ => fun
  | [d1, d2] => { results := [.lit (.bool false)], args := [d1, d2] }
  | _ => none }
def FnUpdatedWrongFalsely : Prop := fnUpdatedRow.holds Try.pinned (OpenSpec.ofChange fnUpdatedWrong)

/-- 'laws.FnParity': WHATEVER THE INPUT: true; the input reads as it did. -/
def fnParitySpec : ChangeSpec := { name := "fnParity", fn := fun _ => fun
  | [d1, d2] => { results := [.lit (.bool true)], args := [d1, d2] }
  | _ => none }
def fnParityRow : OpenClaim := { program := "ytfijnlhklfmoeaa", sum := "1bd44073dd1715b9accbbdd36383d9959393398cc8ddbb47d45b2bcf3ca99a8f", func := "loop.example/g00261/laws.FnParity", spec := "fnParity", unfollowed := true, recurses := true, apart := false }
def FnParitySaid : Prop := fnParityRow.holds Try.pinned (OpenSpec.ofChange fnParitySpec)

/-- ITS FALSE NEIGHBOUR: 'it returns false'. Refute it at one input. -/
def fnParityWrong : ChangeSpec := { name := "fnParity", fn := fun _ => fun
  | [d1, d2] => { results := [.lit (.bool false)], args := [d1, d2] }
  | _ => none }
def FnParityWrongFalsely : Prop := fnParityRow.holds Try.pinned (OpenSpec.ofChange fnParityWrong)

/- THE SECOND FORM. 'bulk': how many values and letters a reading holds, each counted each time it is reached (what is shared counts as often as it is met; a slice's spare places count too). A statement '..UptoSaid' is the law's where the arguments, and the package variables that the reading takes, are together of bulk at most 1048576: NARROWER than '..Said'. Prove '..Said' where nothing that the law and all that it calls make is longer than what came in: it says more and counts as full. Else prove '..UptoSaid'. A law counts once. -/
mutual
def uptoBulk {H : Type} : DataW H → Nat
  | .lit (.string bytes) => bytes.length + 1
  | .lit _ => 1
  | .nil => 1
  | .ptr d => uptoBulk d + 1
  | .slice elems spare => uptoBulkAll elems + uptoBulkAll spare + 1
  | .agg parts => uptoBulkAll parts + 1
  | .iface _ d => uptoBulk d + 1
  | .map entries => uptoBulkEntries entries + 1
  | .held _ => 1
def uptoBulkAll {H : Type} : List (DataW H) → Nat
  | [] => 0
  | d :: r => uptoBulk d + uptoBulkAll r
def uptoBulkEntries {H : Type} : List (Lit × DataW H) → Nat
  | [] => 0
  | x :: r => uptoBulkEntry x + uptoBulkEntries r
def uptoBulkEntry {H : Type} : Lit × DataW H → Nat
  | (.string bytes, d) => bytes.length + uptoBulk d + 1
  | (_, d) => uptoBulk d + 1
 end
def uptoSmall : (H : Type) → List (DataW H) → Bool := fun _ ds => decide (uptoBulkAll ds ≤ 1048576)
def OpenSpec.upto (s : _root_.Go.ChangeSpec) : _root_.Go.OpenSpec := { _root_.Go.OpenSpec.ofChange s with cond := some uptoSmall }

/-- 'laws.FnExactGoodStripe', WHERE WHAT IT READS IS OF BULK AT MOST 1048576: true; the input reads as it did. -/
def fnExactGoodStripeUptoRow : OpenClaim := { program := "ytfijnlhklfmoeaa", sum := "1bd44073dd1715b9accbbdd36383d9959393398cc8ddbb47d45b2bcf3ca99a8f", func := "loop.example/g00261/laws.FnExactGoodStripe", spec := "fnExactGoodStripe", unfollowed := true, recurses := true, apart := false, narrowed := true }
def FnExactGoodStripeUptoSaid : Prop := fnExactGoodStripeUptoRow.holds Try.pinned (OpenSpec.upto fnExactGoodStripeSpec)

/-- 'laws.FnExactCheckStripe', WHERE WHAT IT READS IS OF BULK AT MOST 1048576: true; the input reads as it did. -/
def fnExactCheckStripeUptoRow : OpenClaim := { program := "ytfijnlhklfmoeaa", sum := "1bd44073dd1715b9accbbdd36383d9959393398cc8ddbb47d45b2bcf3ca99a8f", func := "loop.example/g00261/laws.FnExactCheckStripe", spec := "fnExactCheckStripe", unfollowed := true, recurses := true, apart := false, narrowed := true }
def FnExactCheckStripeUptoSaid : Prop := fnExactCheckStripeUptoRow.holds Try.pinned (OpenSpec.upto fnExactCheckStripeSpec)

/-- 'laws.FnExactMakeStripe', WHERE WHAT IT READS IS OF BULK AT MOST 1048576: true; the input reads as it did. -/
def fnExactMakeStripeUptoRow : OpenClaim := { program := "ytfijnlhklfmoeaa", sum := "1bd44073dd1715b9accbbdd36383d9959393398cc8ddbb47d45b2bcf3ca99a8f", func := "loop.example/g00261/laws.FnExactMakeStripe", spec := "fnExactMakeStripe", unfollowed := true, recurses := true, apart := false, narrowed := true }
def FnExactMakeStripeUptoSaid : Prop := fnExactMakeStripeUptoRow.holds Try.pinned (OpenSpec.upto fnExactMakeStripeSpec)

/-- 'laws.FnExactUpdateStripe', WHERE WHAT IT READS IS OF BULK AT MOST 1048576: true; the input reads as it did. -/
def fnExactUpdateStripeUptoRow : OpenClaim := { program := "ytfijnlhklfmoeaa", sum := "1bd44073dd1715b9accbbdd36383d9959393398cc8ddbb47d45b2bcf3ca99a8f", func := "loop.example/g00261/laws.FnExactUpdateStripe", spec := "fnExactUpdateStripe", unfollowed := true, recurses := true, apart := false, narrowed := true }
def FnExactUpdateStripeUptoSaid : Prop := fnExactUpdateStripeUptoRow.holds Try.pinned (OpenSpec.upto fnExactUpdateStripeSpec)

/-- 'laws.FnExactFindWrong', WHERE WHAT IT READS IS OF BULK AT MOST 1048576: true; the input reads as it did. -/
def fnExactFindWrongUptoRow : OpenClaim := { program := "ytfijnlhklfmoeaa", sum := "1bd44073dd1715b9accbbdd36383d9959393398cc8ddbb47d45b2bcf3ca99a8f", func := "loop.example/g00261/laws.FnExactFindWrong", spec := "fnExactFindWrong", unfollowed := true, recurses := true, apart := false, narrowed := true }
def FnExactFindWrongUptoSaid : Prop := fnExactFindWrongUptoRow.holds Try.pinned (OpenSpec.upto fnExactFindWrongSpec)

/-- 'laws.FnExactRecoverOne', WHERE WHAT IT READS IS OF BULK AT MOST 1048576: true; the input reads as it did. -/
def fnExactRecoverOneUptoRow : OpenClaim := { program := "ytfijnlhklfmoeaa", sum := "1bd44073dd1715b9accbbdd36383d9959393398cc8ddbb47d45b2bcf3ca99a8f", func := "loop.example/g00261/laws.FnExactRecoverOne", spec := "fnExactRecoverOne", unfollowed := true, recurses := true, apart := false, narrowed := true }
def FnExactRecoverOneUptoSaid : Prop := fnExactRecoverOneUptoRow.holds Try.pinned (OpenSpec.upto fnExactRecoverOneSpec)

/-- 'laws.FnExactRecoverTwo', WHERE WHAT IT READS IS OF BULK AT MOST 1048576: true; the input reads as it did. -/
def fnExactRecoverTwoUptoRow : OpenClaim := { program := "ytfijnlhklfmoeaa", sum := "1bd44073dd1715b9accbbdd36383d9959393398cc8ddbb47d45b2bcf3ca99a8f", func := "loop.example/g00261/laws.FnExactRecoverTwo", spec := "fnExactRecoverTwo", unfollowed := true, recurses := true, apart := false, narrowed := true }
def FnExactRecoverTwoUptoSaid : Prop := fnExactRecoverTwoUptoRow.holds Try.pinned (OpenSpec.upto fnExactRecoverTwoSpec)

/-- 'laws.FnUpdated', WHERE WHAT IT READS IS OF BULK AT MOST 1048576: true; the input reads as it did. -/
def fnUpdatedUptoRow : OpenClaim := { program := "ytfijnlhklfmoeaa", sum := "1bd44073dd1715b9accbbdd36383d9959393398cc8ddbb47d45b2bcf3ca99a8f", func := "loop.example/g00261/laws.FnUpdated", spec := "fnUpdated", unfollowed := true, recurses := true, apart := false, narrowed := true }
def FnUpdatedUptoSaid : Prop := fnUpdatedUptoRow.holds Try.pinned (OpenSpec.upto fnUpdatedSpec)

/-- 'laws.FnParity', WHERE WHAT IT READS IS OF BULK AT MOST 1048576: true; the input reads as it did. -/
def fnParityUptoRow : OpenClaim := { program := "ytfijnlhklfmoeaa", sum := "1bd44073dd1715b9accbbdd36383d9959393398cc8ddbb47d45b2bcf3ca99a8f", func := "loop.example/g00261/laws.FnParity", spec := "fnParity", unfollowed := true, recurses := true, apart := false, narrowed := true }
def FnParityUptoSaid : Prop := fnParityUptoRow.holds Try.pinned (OpenSpec.upto fnParitySpec)

end Rows
end Go.Proofs.Ytfijnlhklfmoeaa
