/-
  No cell of these rows narrows 'for every input' (looked for: loops, veiled, ifaces, maps, wideKeys, modest, calm, conditions, laid).
  DERIVED. THE GIVEN ROWS OF THIS SEAT. 12 by the template 'for every input the law returns true; each argument reads behind the call as it read before'; 0 by the template 'total and deterministic' (their statements: YtjibcpfgnnmfjaaTotals.lean).
  GIVEN WITH THE SEED: the statements are not yours to turn. If you find one false, say at which input.
  Laid BY PROGRAM, IN A SANDBOX (cutbox-rows.mjs): the forced cells as the released guide's own fill.sh prints them over the translation 2191287a8050352e… (all of the seat's roots in one cut). By AI agents, Wed Nov 11 2026. No macro, syntax, notation, axiom, sorry.
-/
import Derived.Test.YtjibcpfgnnmfjaaChecked
import GoSem.Claim
import GoSem.ClaimJoined
import GoSem.ClaimMapViews
import Derived.JoinedTies
import Derived.KernelRfl
namespace Go.Proofs.Ytjibcpfgnnmfjaa
/- THE CELL 'sum', in the pinned program and in every row, IS THE sha256 OF THE DUMP (.gsa) THAT YtjibcpfgnnmfjaaProg.lean LOADS. Nothing in Lean hashes anything: it is a label: what it is worth is what the hold of that sum in a sandbox is worth. -/
noncomputable def Try.pinned : Pinned := { name := "ytjibcpfgnnmfjaa", sum := "2191287a8050352e43b4912762a33b1b4084f8de0d714e5ed4a2bf9cf516e655", checked := Try.checked }
namespace Rows
def none {H : Type} : Left H := { results := [], args := [] }

/-- 'laws.FnField': WHATEVER THE INPUT: true; the input reads as it did. -/
def fnFieldSpec : ChangeSpec := { name := "fnField", fn := fun _ => fun
  | [d1, d2] => { results := [.lit (.bool true)], args := [d1, d2] }
  | _ => none }
def fnFieldRow : OpenClaim := { program := "ytjibcpfgnnmfjaa", sum := "2191287a8050352e43b4912762a33b1b4084f8de0d714e5ed4a2bf9cf516e655", func := "loop.example/g00261/laws.FnField", spec := "fnField", apart := false }
def FnFieldSaid : Prop := fnFieldRow.holds Try.pinned (OpenSpec.ofChange fnFieldSpec)

/-- ITS FALSE NEIGHBOUR: 'it returns false'. Refute it at one input. -/
def fnFieldWrong : ChangeSpec := { name := "fnField", fn := fun _ => fun
  | [d1, d2] => { results := [.lit (.bool false)], args := [d1, d2] }
  | _ => none }
def FnFieldWrongFalsely : Prop := fnFieldRow.holds Try.pinned (OpenSpec.ofChange fnFieldWrong)

/-- 'laws.FnPowers': WHATEVER THE INPUT: true; the input reads as it did. -/
def fnPowersSpec : ChangeSpec := { name := "fnPowers", fn := fun _ => fun
  | [d] => { results := [.lit (.bool true)], args := [d] }
  | _ => none }
def fnPowersRow : OpenClaim := { program := "ytjibcpfgnnmfjaa", sum := "2191287a8050352e43b4912762a33b1b4084f8de0d714e5ed4a2bf9cf516e655", func := "loop.example/g00261/laws.FnPowers", spec := "fnPowers", apart := false }
def FnPowersSaid : Prop := fnPowersRow.holds Try.pinned (OpenSpec.ofChange fnPowersSpec)

/-- ITS FALSE NEIGHBOUR: 'it returns false'. Refute it at one input. -/
def fnPowersWrong : ChangeSpec := { name := "fnPowers", fn := fun _ => fun
  | [d] => { results := [.lit (.bool false)], args := [d] }
  | _ => none }
def FnPowersWrongFalsely : Prop := fnPowersRow.holds Try.pinned (OpenSpec.ofChange fnPowersWrong)

/-- 'laws.FnExactNewBuddy': WHATEVER THE INPUT: true; the input reads as it did. -/
def fnExactNewBuddySpec : ChangeSpec := { name := "fnExactNewBuddy", fn := fun _ => fun
  | [d] => { results := [.lit (.bool true)], args := [d] }
  | _ => none }
def fnExactNewBuddyRow : OpenClaim := { program := "ytjibcpfgnnmfjaa", sum := "2191287a8050352e43b4912762a33b1b4084f8de0d714e5ed4a2bf9cf516e655", func := "loop.example/g00261/laws.FnExactNewBuddy", spec := "fnExactNewBuddy", apart := false }
def FnExactNewBuddySaid : Prop := fnExactNewBuddyRow.holds Try.pinned (OpenSpec.ofChange fnExactNewBuddySpec)

/-- ITS FALSE NEIGHBOUR: 'it returns false'. Refute it at one input. -/
def fnExactNewBuddyWrong : ChangeSpec := { name := "fnExactNewBuddy", fn := fun _ => fun
  | [d] => { results := [.lit (.bool false)], args := [d] }
  | _ => none }
def FnExactNewBuddyWrongFalsely : Prop := fnExactNewBuddyRow.holds Try.pinned (OpenSpec.ofChange fnExactNewBuddyWrong)

/-- 'laws.FnExactNewTree': WHATEVER THE INPUT: true; the input reads as it did. -/
def fnExactNewTreeSpec : ChangeSpec := { name := "fnExactNewTree", fn := fun _ => fun
  | [] => { results := [.lit (.bool true)], args := [] }
  | _ => none }
def fnExactNewTreeRow : OpenClaim := { program := "ytjibcpfgnnmfjaa", sum := "2191287a8050352e43b4912762a33b1b4084f8de0d714e5ed4a2bf9cf516e655", func := "loop.example/g00261/laws.FnExactNewTree", spec := "fnExactNewTree", apart := false }
def FnExactNewTreeSaid : Prop := fnExactNewTreeRow.holds Try.pinned (OpenSpec.ofChange fnExactNewTreeSpec)

/-- ITS FALSE NEIGHBOUR: 'it returns false'. Refute it at one input. -/
def fnExactNewTreeWrong : ChangeSpec := { name := "fnExactNewTree", fn := fun _ => fun
  | [] => { results := [.lit (.bool false)], args := [] }
  | _ => none }
def FnExactNewTreeWrongFalsely : Prop := fnExactNewTreeRow.holds Try.pinned (OpenSpec.ofChange fnExactNewTreeWrong)

/-- 'laws.FnExactHamEncode': WHATEVER THE INPUT: true; the input reads as it did. -/
def fnExactHamEncodeSpec : ChangeSpec := { name := "fnExactHamEncode", fn := fun _ => fun
  | [d] => { results := [.lit (.bool true)], args := [d] }
  | _ => none }
def fnExactHamEncodeRow : OpenClaim := { program := "ytjibcpfgnnmfjaa", sum := "2191287a8050352e43b4912762a33b1b4084f8de0d714e5ed4a2bf9cf516e655", func := "loop.example/g00261/laws.FnExactHamEncode", spec := "fnExactHamEncode", apart := false }
def FnExactHamEncodeSaid : Prop := fnExactHamEncodeRow.holds Try.pinned (OpenSpec.ofChange fnExactHamEncodeSpec)

/-- ITS FALSE NEIGHBOUR: 'it returns false'. Refute it at one input. -/
def fnExactHamEncodeWrong : ChangeSpec := { name := "fnExactHamEncode", fn := fun _ => fun
  | [d] => { results := [.lit (.bool false)], args := [d] }
  | _ => none }
def FnExactHamEncodeWrongFalsely : Prop := fnExactHamEncodeRow.holds Try.pinned (OpenSpec.ofChange fnExactHamEncodeWrong)

/-- 'laws.FnExactGuardText': WHATEVER THE INPUT: true; the input reads as it did. -/
def fnExactGuardTextSpec : ChangeSpec := { name := "fnExactGuardText", fn := fun _ => fun
  | [d] => { results := [.lit (.bool true)], args := [d] }
  | _ => none }
def fnExactGuardTextRow : OpenClaim := { program := "ytjibcpfgnnmfjaa", sum := "2191287a8050352e43b4912762a33b1b4084f8de0d714e5ed4a2bf9cf516e655", func := "loop.example/g00261/laws.FnExactGuardText", spec := "fnExactGuardText", apart := false }
def FnExactGuardTextSaid : Prop := fnExactGuardTextRow.holds Try.pinned (OpenSpec.ofChange fnExactGuardTextSpec)

/-- ITS FALSE NEIGHBOUR: 'it returns false'. Refute it at one input. -/
def fnExactGuardTextWrong : ChangeSpec := { name := "fnExactGuardText", fn := fun _ => fun
  | [d] => { results := [.lit (.bool false)], args := [d] }
  | _ => none }
def FnExactGuardTextWrongFalsely : Prop := fnExactGuardTextRow.holds Try.pinned (OpenSpec.ofChange fnExactGuardTextWrong)

/-- 'laws.FnExactHamDecode': WHATEVER THE INPUT: true; the input reads as it did. -/
def fnExactHamDecodeSpec : ChangeSpec := { name := "fnExactHamDecode", fn := fun _ => fun
  | [d] => { results := [.lit (.bool true)], args := [d] }
  | _ => none }
def fnExactHamDecodeRow : OpenClaim := { program := "ytjibcpfgnnmfjaa", sum := "2191287a8050352e43b4912762a33b1b4084f8de0d714e5ed4a2bf9cf516e655", func := "loop.example/g00261/laws.FnExactHamDecode", spec := "fnExactHamDecode", apart := false }
def FnExactHamDecodeSaid : Prop := fnExactHamDecodeRow.holds Try.pinned (OpenSpec.ofChange fnExactHamDecodeSpec)

/-- ITS FALSE NEIGHBOUR: 'it returns false'. Refute it at one input. -/
def fnExactHamDecodeWrong : ChangeSpec := { name := "fnExactHamDecode", fn := fun _ => fun
  | [d] => { results := [.lit (.bool false)], args := [d] }
  | _ => none }
def FnExactHamDecodeWrongFalsely : Prop := fnExactHamDecodeRow.holds Try.pinned (OpenSpec.ofChange fnExactHamDecodeWrong)

/-- 'laws.FnExactPolyThrough': WHATEVER THE INPUT: true; the input reads as it did. -/
def fnExactPolyThroughSpec : ChangeSpec := { name := "fnExactPolyThrough", fn := fun _ => fun
  | [d1, d2] => { results := [.lit (.bool true)], args := [d1, d2] }
  | _ => none }
def fnExactPolyThroughRow : OpenClaim := { program := "ytjibcpfgnnmfjaa", sum := "2191287a8050352e43b4912762a33b1b4084f8de0d714e5ed4a2bf9cf516e655", func := "loop.example/g00261/laws.FnExactPolyThrough", spec := "fnExactPolyThrough", apart := false }
def FnExactPolyThroughSaid : Prop := fnExactPolyThroughRow.holds Try.pinned (OpenSpec.ofChange fnExactPolyThroughSpec)

/-- ITS FALSE NEIGHBOUR: 'it returns false'. Refute it at one input. -/
def fnExactPolyThroughWrong : ChangeSpec := { name := "fnExactPolyThrough", fn := fun _ => fun
  | [d1, d2] => { results := [.lit (.bool false)], args := [d1, d2] }
  | _ => none }
def FnExactPolyThroughWrongFalsely : Prop := fnExactPolyThroughRow.holds Try.pinned (OpenSpec.ofChange fnExactPolyThroughWrong)

/-- 'laws.FnPolynomials': WHATEVER THE INPUT: true; the input reads as it did. -/
def fnPolynomialsSpec : ChangeSpec := { name := "fnPolynomials", fn := fun _ => fun
  | [d1, d2] => { results := [.lit (.bool true)], args := [d1, d2] }
  | _ => none }
def fnPolynomialsRow : OpenClaim := { program := "ytjibcpfgnnmfjaa", sum := "2191287a8050352e43b4912762a33b1b4084f8de0d714e5ed4a2bf9cf516e655", func := "loop.example/g00261/laws.FnPolynomials", spec := "fnPolynomials", apart := false }
def FnPolynomialsSaid : Prop := fnPolynomialsRow.holds Try.pinned (OpenSpec.ofChange fnPolynomialsSpec)

/-- ITS FALSE NEIGHBOUR: 'it returns false'. Refute it at one input. -/
def fnPolynomialsWrong : ChangeSpec := { name := "fnPolynomials", fn := fun _ => fun
  | [d1, d2] => { results := [.lit (.bool false)], args := [d1, d2] }
  | _ => none }
def FnPolynomialsWrongFalsely : Prop := fnPolynomialsRow.holds Try.pinned (OpenSpec.ofChange fnPolynomialsWrong)

/-- 'laws.FnExactMendText': WHATEVER THE INPUT: true; the input reads as it did. -/
def fnExactMendTextSpec : ChangeSpec := { name := "fnExactMendText", fn := fun _ => fun
  | [d] => { results := [.lit (.bool true)], args := [d] }
  | _ => none }
def fnExactMendTextRow : OpenClaim := { program := "ytjibcpfgnnmfjaa", sum := "2191287a8050352e43b4912762a33b1b4084f8de0d714e5ed4a2bf9cf516e655", func := "loop.example/g00261/laws.FnExactMendText", spec := "fnExactMendText", unfollowed := true, recurses := true, apart := false }
def FnExactMendTextSaid : Prop := fnExactMendTextRow.holds Try.pinned (OpenSpec.ofChange fnExactMendTextSpec)

/-- ITS FALSE NEIGHBOUR: 'it returns false'. Refute it at one input. -/
def fnExactMendTextWrong : ChangeSpec := { name := "fnExactMendText", fn := fun _ => fun
  | [d] => { results := [.lit (.bool false)], args := [d] }
  | _ => none }
def FnExactMendTextWrongFalsely : Prop := fnExactMendTextRow.holds Try.pinned (OpenSpec.ofChange fnExactMendTextWrong)

/-- 'laws.FnHamming': WHATEVER THE INPUT: true; the input reads as it did. -/
def fnHammingSpec : ChangeSpec := { name := "fnHamming", fn := fun _ => fun
  | [d1, d2] => { results := [.lit (.bool true)], args := [d1, d2] }
  | _ => none }
def fnHammingRow : OpenClaim := { program := "ytjibcpfgnnmfjaa", sum := "2191287a8050352e43b4912762a33b1b4084f8de0d714e5ed4a2bf9cf516e655", func := "loop.example/g00261/laws.FnHamming", spec := "fnHamming", apart := false }
def FnHammingSaid : Prop := fnHammingRow.holds Try.pinned (OpenSpec.ofChange fnHammingSpec)

/-- ITS FALSE NEIGHBOUR: 'it returns false'. Refute it at one input. -/
def fnHammingWrong : ChangeSpec := { name := "fnHamming", fn := fun _ => fun
  | [d1, d2] => { results := [.lit (.bool false)], args := [d1, d2] }
  | _ => none }
def FnHammingWrongFalsely : Prop := fnHammingRow.holds Try.pinned (OpenSpec.ofChange fnHammingWrong)

/-- 'laws.FnGuarded': WHATEVER THE INPUT: true; the input reads as it did. -/
def fnGuardedSpec : ChangeSpec := { name := "fnGuarded", fn := fun _ => fun
  | [d1, d2] => { results := [.lit (.bool true)], args := [d1, d2] }
  | _ => none }
def fnGuardedRow : OpenClaim := { program := "ytjibcpfgnnmfjaa", sum := "2191287a8050352e43b4912762a33b1b4084f8de0d714e5ed4a2bf9cf516e655", func := "loop.example/g00261/laws.FnGuarded", spec := "fnGuarded", unfollowed := true, recurses := true, apart := false }
def FnGuardedSaid : Prop := fnGuardedRow.holds Try.pinned (OpenSpec.ofChange fnGuardedSpec)

/-- ITS FALSE NEIGHBOUR: 'it returns false'. Refute it at one input. -/
def fnGuardedWrong : ChangeSpec := { name := "fnGuarded", fn := fun _ => fun
  | [d1, d2] => { results := [.lit (.bool false)], args := [d1, d2] }
  | _ => none }
def FnGuardedWrongFalsely : Prop := fnGuardedRow.holds Try.pinned (OpenSpec.ofChange fnGuardedWrong)

/- THE SECOND FORM. 'bulk': how many values and letters a reading holds, each counted each time it is reached (what is shared counts as often as it is met; a slice's spare places count too). A statement '..UptoSaid' is the law's where the arguments, and the package variables that the reading takes, are together of bulk at most 1048576: NARROWER than '..Said'. Prove '..Said' where nothing that the law and all that it calls make is longer than what came in: it says more and counts as full. Else prove '..UptoSaid'. A law counts once. -/
mutual
def uptoBulk {H : Type} : DataW H → Nat
  | .lit (.string bytes) => bytes.length + 1
  | .lit _ => 1
  | .nil => 1
  | .ptr d => uptoBulk d + 1
  | .slice elems spare => uptoBulkAll elems + uptoBulkAll spare + 1
  | .agg parts => uptoBulkAll parts + 1
  | .iface _ d => uptoBulk d + 1
  | .map entries => uptoBulkEntries entries + 1
  | .held _ => 1
def uptoBulkAll {H : Type} : List (DataW H) → Nat
  | [] => 0
  | d :: r => uptoBulk d + uptoBulkAll r
def uptoBulkEntries {H : Type} : List (Lit × DataW H) → Nat
  | [] => 0
  | x :: r => uptoBulkEntry x + uptoBulkEntries r
def uptoBulkEntry {H : Type} : Lit × DataW H → Nat
  | (.string bytes, d) => bytes.length + uptoBulk d + 1
  | (_, d) => uptoBulk d + 1
 end
def uptoSmall : (H : Type) → List (DataW H) → Bool := fun _ ds => decide (uptoBulkAll ds ≤ 1048576)
def OpenSpec.upto (s : _root_.Go.ChangeSpec) : _root_.Go.OpenSpec := { _root_.Go.OpenSpec.ofChange s with cond := some uptoSmall }

/-- 'laws.FnField', WHERE WHAT IT READS IS OF BULK AT MOST 1048576: true; the input reads as it did. -/
def fnFieldUptoRow : OpenClaim := { program := "ytjibcpfgnnmfjaa", sum := "2191287a8050352e43b4912762a33b1b4084f8de0d714e5ed4a2bf9cf516e655", func := "loop.example/g00261/laws.FnField", spec := "fnField", apart := false, narrowed := true }
def FnFieldUptoSaid : Prop := fnFieldUptoRow.holds Try.pinned (OpenSpec.upto fnFieldSpec)

/-- 'laws.FnPowers', WHERE WHAT IT READS IS OF BULK AT MOST 1048576: true; the input reads as it did. -/
def fnPowersUptoRow : OpenClaim := { program := "ytjibcpfgnnmfjaa", sum := "2191287a8050352e43b4912762a33b1b4084f8de0d714e5ed4a2bf9cf516e655", func := "loop.example/g00261/laws.FnPowers", spec := "fnPowers", apart := false, narrowed := true }
def FnPowersUptoSaid : Prop := fnPowersUptoRow.holds Try.pinned (OpenSpec.upto fnPowersSpec)

/-- 'laws.FnExactNewBuddy', WHERE WHAT IT READS IS OF BULK AT MOST 1048576: true; the input reads as it did. -/
def fnExactNewBuddyUptoRow : OpenClaim := { program := "ytjibcpfgnnmfjaa", sum := "2191287a8050352e43b4912762a33b1b4084f8de0d714e5ed4a2bf9cf516e655", func := "loop.example/g00261/laws.FnExactNewBuddy", spec := "fnExactNewBuddy", apart := false, narrowed := true }
def FnExactNewBuddyUptoSaid : Prop := fnExactNewBuddyUptoRow.holds Try.pinned (OpenSpec.upto fnExactNewBuddySpec)

/-- 'laws.FnExactNewTree', WHERE WHAT IT READS IS OF BULK AT MOST 1048576: true; the input reads as it did. -/
def fnExactNewTreeUptoRow : OpenClaim := { program := "ytjibcpfgnnmfjaa", sum := "2191287a8050352e43b4912762a33b1b4084f8de0d714e5ed4a2bf9cf516e655", func := "loop.example/g00261/laws.FnExactNewTree", spec := "fnExactNewTree", apart := false, narrowed := true }
def FnExactNewTreeUptoSaid : Prop := fnExactNewTreeUptoRow.holds Try.pinned (OpenSpec.upto fnExactNewTreeSpec)

/-- 'laws.FnExactHamEncode', WHERE WHAT IT READS IS OF BULK AT MOST 1048576: true; the input reads as it did. -/
def fnExactHamEncodeUptoRow : OpenClaim := { program := "ytjibcpfgnnmfjaa", sum := "2191287a8050352e43b4912762a33b1b4084f8de0d714e5ed4a2bf9cf516e655", func := "loop.example/g00261/laws.FnExactHamEncode", spec := "fnExactHamEncode", apart := false, narrowed := true }
def FnExactHamEncodeUptoSaid : Prop := fnExactHamEncodeUptoRow.holds Try.pinned (OpenSpec.upto fnExactHamEncodeSpec)

/-- 'laws.FnExactGuardText', WHERE WHAT IT READS IS OF BULK AT MOST 1048576: true; the input reads as it did. -/
def fnExactGuardTextUptoRow : OpenClaim := { program := "ytjibcpfgnnmfjaa", sum := "2191287a8050352e43b4912762a33b1b4084f8de0d714e5ed4a2bf9cf516e655", func := "loop.example/g00261/laws.FnExactGuardText", spec := "fnExactGuardText", apart := false, narrowed := true }
def FnExactGuardTextUptoSaid : Prop := fnExactGuardTextUptoRow.holds Try.pinned (OpenSpec.upto fnExactGuardTextSpec)

/-- 'laws.FnExactHamDecode', WHERE WHAT IT READS IS OF BULK AT MOST 1048576: true; the input reads as it did. -/
def fnExactHamDecodeUptoRow : OpenClaim := { program := "ytjibcpfgnnmfjaa", sum := "2191287a8050352e43b4912762a33b1b4084f8de0d714e5ed4a2bf9cf516e655", func := "loop.example/g00261/laws.FnExactHamDecode", spec := "fnExactHamDecode", apart := false, narrowed := true }
def FnExactHamDecodeUptoSaid : Prop := fnExactHamDecodeUptoRow.holds Try.pinned (OpenSpec.upto fnExactHamDecodeSpec)

/-- 'laws.FnExactPolyThrough', WHERE WHAT IT READS IS OF BULK AT MOST 1048576: true; the input reads as it did. -/
def fnExactPolyThroughUptoRow : OpenClaim := { program := "ytjibcpfgnnmfjaa", sum := "2191287a8050352e43b4912762a33b1b4084f8de0d714e5ed4a2bf9cf516e655", func := "loop.example/g00261/laws.FnExactPolyThrough", spec := "fnExactPolyThrough", apart := false, narrowed := true }
def FnExactPolyThroughUptoSaid : Prop := fnExactPolyThroughUptoRow.holds Try.pinned (OpenSpec.upto fnExactPolyThroughSpec)

/-- 'laws.FnPolynomials', WHERE WHAT IT READS IS OF BULK AT MOST 1048576: true; the input reads as it did. -/
def fnPolynomialsUptoRow : OpenClaim := { program := "ytjibcpfgnnmfjaa", sum := "2191287a8050352e43b4912762a33b1b4084f8de0d714e5ed4a2bf9cf516e655", func := "loop.example/g00261/laws.FnPolynomials", spec := "fnPolynomials", apart := false, narrowed := true }
def FnPolynomialsUptoSaid : Prop := fnPolynomialsUptoRow.holds Try.pinned (OpenSpec.upto fnPolynomialsSpec)

/-- 'laws.FnExactMendText', WHERE WHAT IT READS IS OF BULK AT MOST 1048576: true; the input reads as it did. -/
def fnExactMendTextUptoRow : OpenClaim := { program := "ytjibcpfgnnmfjaa", sum := "2191287a8050352e43b4912762a33b1b4084f8de0d714e5ed4a2bf9cf516e655", func := "loop.example/g00261/laws.FnExactMendText", spec := "fnExactMendText", unfollowed := true, recurses := true, apart := false, narrowed := true }
def FnExactMendTextUptoSaid : Prop := fnExactMendTextUptoRow.holds Try.pinned (OpenSpec.upto fnExactMendTextSpec)

/-- 'laws.FnHamming', WHERE WHAT IT READS IS OF BULK AT MOST 1048576: true; the input reads as it did. -/
def fnHammingUptoRow : OpenClaim := { program := "ytjibcpfgnnmfjaa", sum := "2191287a8050352e43b4912762a33b1b4084f8de0d714e5ed4a2bf9cf516e655", func := "loop.example/g00261/laws.FnHamming", spec := "fnHamming", apart := false, narrowed := true }
def FnHammingUptoSaid : Prop := fnHammingUptoRow.holds Try.pinned (OpenSpec.upto fnHammingSpec)

/-- 'laws.FnGuarded', WHERE WHAT IT READS IS OF BULK AT MOST 1048576: true; the input reads as it did. -/
def fnGuardedUptoRow : OpenClaim := { program := "ytjibcpfgnnmfjaa", sum := "2191287a8050352e43b4912762a33b1b4084f8de0d714e5ed4a2bf9cf516e655", func := "loop.example/g00261/laws.FnGuarded", spec := "fnGuarded", unfollowed := true, recurses := true, apart := false, narrowed := true }
def FnGuardedUptoSaid : Prop := fnGuardedUptoRow.holds Try.pinned (OpenSpec.upto fnGuardedSpec)

end Rows
end Go.Proofs.Ytjibcpfgnnmfjaa
