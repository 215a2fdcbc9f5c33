/-
  No cell of these rows narrows 'for every input' (looked for: loops, veiled, ifaces, maps, wideKeys, modest, calm, conditions, laid).
  DERIVED. THE GIVEN ROWS OF THIS SEAT. 12 by the template 'for every input the law returns true; each argument reads behind the call as it read before'; 0 by the template 'total and deterministic' (their statements: YtbcifcggdpphbaaTotals.lean).
  GIVEN WITH THE SEED: the statements are not yours to turn. If you find one false, say at which input.
  Laid BY PROGRAM, IN A SANDBOX (cutbox-rows.mjs): the forced cells as the released guide's own fill.sh prints them over the translation 9fc3a92e939ee2f1… (all of the seat's roots in one cut). By AI agents, Wed Nov 11 2026. No macro, syntax, notation, axiom, sorry.
-/
import Derived.Test.YtbcifcggdpphbaaChecked
import GoSem.Claim
import GoSem.ClaimJoined
import GoSem.ClaimMapViews
import Derived.JoinedTies
import Derived.KernelRfl
namespace Go.Proofs.Ytbcifcggdpphbaa
/- THE CELL 'sum', in the pinned program and in every row, IS THE sha256 OF THE DUMP (.gsa) THAT YtbcifcggdpphbaaProg.lean LOADS. Nothing in Lean hashes anything: it is a label: what it is worth is what the hold of that sum in a sandbox is worth. -/
noncomputable def Try.pinned : Pinned := { name := "ytbcifcggdpphbaa", sum := "9fc3a92e939ee2f1679133dce853aa68e4807d24db3fff22bf1398a451ca37c4", checked := Try.checked }
namespace Rows
def none {H : Type} : Left H := { results := [], args := [] }

/-- 'laws.FnExactConstants': WHATEVER THE INPUT: true; the input reads as it did. -/
def fnExactConstantsSpec : ChangeSpec := { name := "fnExactConstants", fn := fun _ => fun
  | [] => { results := [.lit (.bool true)], args := [] }
  | _ => none }
def fnExactConstantsRow : OpenClaim := { program := "ytbcifcggdpphbaa", sum := "9fc3a92e939ee2f1679133dce853aa68e4807d24db3fff22bf1398a451ca37c4", func := "loop.example/g00261/laws.FnExactConstants", spec := "fnExactConstants", apart := false }
def FnExactConstantsSaid : Prop := fnExactConstantsRow.holds Try.pinned (OpenSpec.ofChange fnExactConstantsSpec)

/-- ITS FALSE NEIGHBOUR: 'it returns false'. Refute it at one input. -/
def fnExactConstantsWrong : ChangeSpec := { name := "fnExactConstants", fn := fun _ => fun
  | [] => { results := [.lit (.bool false)], args := [] }
  | _ => none }
def FnExactConstantsWrongFalsely : Prop := fnExactConstantsRow.holds Try.pinned (OpenSpec.ofChange fnExactConstantsWrong)

/-- 'laws.FnExactOrderFor': WHATEVER THE INPUT: true; the input reads as it did. -/
def fnExactOrderForSpec : ChangeSpec := { name := "fnExactOrderFor", fn := fun _ => fun
  | [d] => { results := [.lit (.bool true)], args := [d] }
  | _ => none }
def fnExactOrderForRow : OpenClaim := { program := "ytbcifcggdpphbaa", sum := "9fc3a92e939ee2f1679133dce853aa68e4807d24db3fff22bf1398a451ca37c4", func := "loop.example/g00261/laws.FnExactOrderFor", spec := "fnExactOrderFor", apart := false }
def FnExactOrderForSaid : Prop := fnExactOrderForRow.holds Try.pinned (OpenSpec.ofChange fnExactOrderForSpec)

/-- ITS FALSE NEIGHBOUR: 'it returns false'. Refute it at one input. -/
def fnExactOrderForWrong : ChangeSpec := { name := "fnExactOrderFor", fn := fun _ => fun
  | [d] => { results := [.lit (.bool false)], args := [d] }
  | _ => none }
def FnExactOrderForWrongFalsely : Prop := fnExactOrderForRow.holds Try.pinned (OpenSpec.ofChange fnExactOrderForWrong)

/-- 'laws.FnExactFieldMul': WHATEVER THE INPUT: true; the input reads as it did. -/
def fnExactFieldMulSpec : ChangeSpec := { name := "fnExactFieldMul", fn := fun _ => fun
  | [d1, d2] => { results := [.lit (.bool true)], args := [d1, d2] }
  | _ => none }
def fnExactFieldMulRow : OpenClaim := { program := "ytbcifcggdpphbaa", sum := "9fc3a92e939ee2f1679133dce853aa68e4807d24db3fff22bf1398a451ca37c4", func := "loop.example/g00261/laws.FnExactFieldMul", spec := "fnExactFieldMul", apart := false }
def FnExactFieldMulSaid : Prop := fnExactFieldMulRow.holds Try.pinned (OpenSpec.ofChange fnExactFieldMulSpec)

/-- ITS FALSE NEIGHBOUR: 'it returns false'. Refute it at one input. -/
def fnExactFieldMulWrong : ChangeSpec := { name := "fnExactFieldMul", fn := fun _ => fun
  | [d1, d2] => { results := [.lit (.bool false)], args := [d1, d2] }
  | _ => none }
def FnExactFieldMulWrongFalsely : Prop := fnExactFieldMulRow.holds Try.pinned (OpenSpec.ofChange fnExactFieldMulWrong)

/-- 'laws.FnExactBuddyOf': WHATEVER THE INPUT: true; the input reads as it did. -/
def fnExactBuddyOfSpec : ChangeSpec := { name := "fnExactBuddyOf", fn := fun _ => fun
  | [d] => { results := [.lit (.bool true)], args := [d] }
  | _ => none }
def fnExactBuddyOfRow : OpenClaim := { program := "ytbcifcggdpphbaa", sum := "9fc3a92e939ee2f1679133dce853aa68e4807d24db3fff22bf1398a451ca37c4", func := "loop.example/g00261/laws.FnExactBuddyOf", spec := "fnExactBuddyOf", apart := false }
def FnExactBuddyOfSaid : Prop := fnExactBuddyOfRow.holds Try.pinned (OpenSpec.ofChange fnExactBuddyOfSpec)

/-- ITS FALSE NEIGHBOUR: 'it returns false'. Refute it at one input. -/
def fnExactBuddyOfWrong : ChangeSpec := { name := "fnExactBuddyOf", fn := fun _ => fun
  | [d] => { results := [.lit (.bool false)], args := [d] }
  | _ => none }
def FnExactBuddyOfWrongFalsely : Prop := fnExactBuddyOfRow.holds Try.pinned (OpenSpec.ofChange fnExactBuddyOfWrong)

/-- 'laws.FnExactFieldInv': WHATEVER THE INPUT: true; the input reads as it did. -/
def fnExactFieldInvSpec : ChangeSpec := { name := "fnExactFieldInv", fn := fun _ => fun
  | [d] => { results := [.lit (.bool true)], args := [d] }
  | _ => none }
def fnExactFieldInvRow : OpenClaim := { program := "ytbcifcggdpphbaa", sum := "9fc3a92e939ee2f1679133dce853aa68e4807d24db3fff22bf1398a451ca37c4", func := "loop.example/g00261/laws.FnExactFieldInv", spec := "fnExactFieldInv", apart := false }
def FnExactFieldInvSaid : Prop := fnExactFieldInvRow.holds Try.pinned (OpenSpec.ofChange fnExactFieldInvSpec)

/-- ITS FALSE NEIGHBOUR: 'it returns false'. Refute it at one input. -/
def fnExactFieldInvWrong : ChangeSpec := { name := "fnExactFieldInv", fn := fun _ => fun
  | [d] => { results := [.lit (.bool false)], args := [d] }
  | _ => none }
def FnExactFieldInvWrongFalsely : Prop := fnExactFieldInvRow.holds Try.pinned (OpenSpec.ofChange fnExactFieldInvWrong)

/-- 'laws.FnExactFieldPow': WHATEVER THE INPUT: true; the input reads as it did. -/
def fnExactFieldPowSpec : ChangeSpec := { name := "fnExactFieldPow", fn := fun _ => fun
  | [d1, d2] => { results := [.lit (.bool true)], args := [d1, d2] }
  | _ => none }
def fnExactFieldPowRow : OpenClaim := { program := "ytbcifcggdpphbaa", sum := "9fc3a92e939ee2f1679133dce853aa68e4807d24db3fff22bf1398a451ca37c4", func := "loop.example/g00261/laws.FnExactFieldPow", spec := "fnExactFieldPow", apart := false }
def FnExactFieldPowSaid : Prop := fnExactFieldPowRow.holds Try.pinned (OpenSpec.ofChange fnExactFieldPowSpec)

/-- ITS FALSE NEIGHBOUR: 'it returns false'. Refute it at one input. -/
def fnExactFieldPowWrong : ChangeSpec := { name := "fnExactFieldPow", fn := fun _ => fun
  | [d1, d2] => { results := [.lit (.bool false)], args := [d1, d2] }
  | _ => none }
def FnExactFieldPowWrongFalsely : Prop := fnExactFieldPowRow.holds Try.pinned (OpenSpec.ofChange fnExactFieldPowWrong)

/-- 'laws.FnExactFieldDiv': WHATEVER THE INPUT: true; the input reads as it did. -/
def fnExactFieldDivSpec : ChangeSpec := { name := "fnExactFieldDiv", fn := fun _ => fun
  | [d1, d2] => { results := [.lit (.bool true)], args := [d1, d2] }
  | _ => none }
def fnExactFieldDivRow : OpenClaim := { program := "ytbcifcggdpphbaa", sum := "9fc3a92e939ee2f1679133dce853aa68e4807d24db3fff22bf1398a451ca37c4", func := "loop.example/g00261/laws.FnExactFieldDiv", spec := "fnExactFieldDiv", apart := false }
def FnExactFieldDivSaid : Prop := fnExactFieldDivRow.holds Try.pinned (OpenSpec.ofChange fnExactFieldDivSpec)

/-- ITS FALSE NEIGHBOUR: 'it returns false'. Refute it at one input. -/
def fnExactFieldDivWrong : ChangeSpec := { name := "fnExactFieldDiv", fn := fun _ => fun
  | [d1, d2] => { results := [.lit (.bool false)], args := [d1, d2] }
  | _ => none }
def FnExactFieldDivWrongFalsely : Prop := fnExactFieldDivRow.holds Try.pinned (OpenSpec.ofChange fnExactFieldDivWrong)

/-- 'laws.FnExactHamDistance': WHATEVER THE INPUT: true; the input reads as it did. -/
def fnExactHamDistanceSpec : ChangeSpec := { name := "fnExactHamDistance", fn := fun _ => fun
  | [d1, d2] => { results := [.lit (.bool true)], args := [d1, d2] }
  | _ => none }
def fnExactHamDistanceRow : OpenClaim := { program := "ytbcifcggdpphbaa", sum := "9fc3a92e939ee2f1679133dce853aa68e4807d24db3fff22bf1398a451ca37c4", func := "loop.example/g00261/laws.FnExactHamDistance", spec := "fnExactHamDistance", apart := false }
def FnExactHamDistanceSaid : Prop := fnExactHamDistanceRow.holds Try.pinned (OpenSpec.ofChange fnExactHamDistanceSpec)

/-- ITS FALSE NEIGHBOUR: 'it returns false'. Refute it at one input. -/
def fnExactHamDistanceWrong : ChangeSpec := { name := "fnExactHamDistance", fn := fun _ => fun
  | [d1, d2] => { results := [.lit (.bool false)], args := [d1, d2] }
  | _ => none }
def FnExactHamDistanceWrongFalsely : Prop := fnExactHamDistanceRow.holds Try.pinned (OpenSpec.ofChange fnExactHamDistanceWrong)

/-- 'laws.FnExactHamWeight': WHATEVER THE INPUT: true; the input reads as it did. -/
def fnExactHamWeightSpec : ChangeSpec := { name := "fnExactHamWeight", fn := fun _ => fun
  | [d] => { results := [.lit (.bool true)], args := [d] }
  | _ => none }
def fnExactHamWeightRow : OpenClaim := { program := "ytbcifcggdpphbaa", sum := "9fc3a92e939ee2f1679133dce853aa68e4807d24db3fff22bf1398a451ca37c4", func := "loop.example/g00261/laws.FnExactHamWeight", spec := "fnExactHamWeight", apart := false }
def FnExactHamWeightSaid : Prop := fnExactHamWeightRow.holds Try.pinned (OpenSpec.ofChange fnExactHamWeightSpec)

/-- ITS FALSE NEIGHBOUR: 'it returns false'. Refute it at one input. -/
def fnExactHamWeightWrong : ChangeSpec := { name := "fnExactHamWeight", fn := fun _ => fun
  | [d] => { results := [.lit (.bool false)], args := [d] }
  | _ => none }
def FnExactHamWeightWrongFalsely : Prop := fnExactHamWeightRow.holds Try.pinned (OpenSpec.ofChange fnExactHamWeightWrong)

/-- 'laws.FnExactPolyAt': WHATEVER THE INPUT: true; the input reads as it did. -/
def fnExactPolyAtSpec : ChangeSpec := { name := "fnExactPolyAt", fn := fun _ => fun
  | [d1, d2] => { results := [.lit (.bool true)], args := [d1, d2] }
  | _ => none }
def fnExactPolyAtRow : OpenClaim := { program := "ytbcifcggdpphbaa", sum := "9fc3a92e939ee2f1679133dce853aa68e4807d24db3fff22bf1398a451ca37c4", func := "loop.example/g00261/laws.FnExactPolyAt", spec := "fnExactPolyAt", apart := false }
def FnExactPolyAtSaid : Prop := fnExactPolyAtRow.holds Try.pinned (OpenSpec.ofChange fnExactPolyAtSpec)

/-- ITS FALSE NEIGHBOUR: 'it returns false'. Refute it at one input. -/
def fnExactPolyAtWrong : ChangeSpec := { name := "fnExactPolyAt", fn := fun _ => fun
  | [d1, d2] => { results := [.lit (.bool false)], args := [d1, d2] }
  | _ => none }
def FnExactPolyAtWrongFalsely : Prop := fnExactPolyAtRow.holds Try.pinned (OpenSpec.ofChange fnExactPolyAtWrong)

/-- 'laws.FnExactExpTable': WHATEVER THE INPUT: true; the input reads as it did. -/
def fnExactExpTableSpec : ChangeSpec := { name := "fnExactExpTable", fn := fun _ => fun
  | [] => { results := [.lit (.bool true)], args := [] }
  | _ => none }
def fnExactExpTableRow : OpenClaim := { program := "ytbcifcggdpphbaa", sum := "9fc3a92e939ee2f1679133dce853aa68e4807d24db3fff22bf1398a451ca37c4", func := "loop.example/g00261/laws.FnExactExpTable", spec := "fnExactExpTable", apart := false }
def FnExactExpTableSaid : Prop := fnExactExpTableRow.holds Try.pinned (OpenSpec.ofChange fnExactExpTableSpec)

/-- ITS FALSE NEIGHBOUR: 'it returns false'. Refute it at one input. -/
def fnExactExpTableWrong : ChangeSpec := { name := "fnExactExpTable", fn := fun _ => fun
  | [] => { results := [.lit (.bool false)], args := [] }
  | _ => none }
def FnExactExpTableWrongFalsely : Prop := fnExactExpTableRow.holds Try.pinned (OpenSpec.ofChange fnExactExpTableWrong)

/-- 'laws.FnExactLogTable': WHATEVER THE INPUT: true; the input reads as it did. -/
def fnExactLogTableSpec : ChangeSpec := { name := "fnExactLogTable", fn := fun _ => fun
  | [] => { results := [.lit (.bool true)], args := [] }
  | _ => none }
def fnExactLogTableRow : OpenClaim := { program := "ytbcifcggdpphbaa", sum := "9fc3a92e939ee2f1679133dce853aa68e4807d24db3fff22bf1398a451ca37c4", func := "loop.example/g00261/laws.FnExactLogTable", spec := "fnExactLogTable", apart := false }
def FnExactLogTableSaid : Prop := fnExactLogTableRow.holds Try.pinned (OpenSpec.ofChange fnExactLogTableSpec)

/-- ITS FALSE NEIGHBOUR: 'it returns false'. Refute it at one input. -/
def fnExactLogTableWrong : ChangeSpec := { name := "fnExactLogTable", fn := fun _ => fun
  | [] => { results := [.lit (.bool false)], args := [] }
  | _ => none }
def FnExactLogTableWrongFalsely : Prop := fnExactLogTableRow.holds Try.pinned (OpenSpec.ofChange fnExactLogTableWrong)

/- THE SECOND FORM. 'bulk': how many values and letters a reading holds, each counted each time it is reached (what is shared counts as often as it is met; a slice's spare places count too). A statement '..UptoSaid' is the law's where the arguments, and the package variables that the reading takes, are together of bulk at most 1048576: NARROWER than '..Said'. Prove '..Said' where nothing that the law and all that it calls make is longer than what came in: it says more and counts as full. Else prove '..UptoSaid'. A law counts once. -/
mutual
def uptoBulk {H : Type} : DataW H → Nat
  | .lit (.string bytes) => bytes.length + 1
  | .lit _ => 1
  | .nil => 1
  | .ptr d => uptoBulk d + 1
  | .slice elems spare => uptoBulkAll elems + uptoBulkAll spare + 1
  | .agg parts => uptoBulkAll parts + 1
  | .iface _ d => uptoBulk d + 1
  | .map entries => uptoBulkEntries entries + 1
  | .held _ => 1
def uptoBulkAll {H : Type} : List (DataW H) → Nat
  | [] => 0
  | d :: r => uptoBulk d + uptoBulkAll r
def uptoBulkEntries {H : Type} : List (Lit × DataW H) → Nat
  | [] => 0
  | x :: r => uptoBulkEntry x + uptoBulkEntries r
def uptoBulkEntry {H : Type} : Lit × DataW H → Nat
  | (.string bytes, d) => bytes.length + uptoBulk d + 1
  | (_, d) => uptoBulk d + 1
 end
def uptoSmall : (H : Type) → List (DataW H) → Bool := fun _ ds => decide (uptoBulkAll ds ≤ 1048576)
def OpenSpec.upto (s : _root_.Go.ChangeSpec) : _root_.Go.OpenSpec := { _root_.Go.OpenSpec.ofChange s with cond := some uptoSmall }

/-- 'laws.FnExactConstants', WHERE WHAT IT READS IS OF BULK AT MOST 1048576: true; the input reads as it did. -/
def fnExactConstantsUptoRow : OpenClaim := { program := "ytbcifcggdpphbaa", sum := "9fc3a92e939ee2f1679133dce853aa68e4807d24db3fff22bf1398a451ca37c4", func := "loop.example/g00261/laws.FnExactConstants", spec := "fnExactConstants", apart := false, narrowed := true }
def FnExactConstantsUptoSaid : Prop := fnExactConstantsUptoRow.holds Try.pinned (OpenSpec.upto fnExactConstantsSpec)

/-- 'laws.FnExactOrderFor', WHERE WHAT IT READS IS OF BULK AT MOST 1048576: true; the input reads as it did. -/
def fnExactOrderForUptoRow : OpenClaim := { program := "ytbcifcggdpphbaa", sum := "9fc3a92e939ee2f1679133dce853aa68e4807d24db3fff22bf1398a451ca37c4", func := "loop.example/g00261/laws.FnExactOrderFor", spec := "fnExactOrderFor", apart := false, narrowed := true }
def FnExactOrderForUptoSaid : Prop := fnExactOrderForUptoRow.holds Try.pinned (OpenSpec.upto fnExactOrderForSpec)

/-- 'laws.FnExactFieldMul', WHERE WHAT IT READS IS OF BULK AT MOST 1048576: true; the input reads as it did. -/
def fnExactFieldMulUptoRow : OpenClaim := { program := "ytbcifcggdpphbaa", sum := "9fc3a92e939ee2f1679133dce853aa68e4807d24db3fff22bf1398a451ca37c4", func := "loop.example/g00261/laws.FnExactFieldMul", spec := "fnExactFieldMul", apart := false, narrowed := true }
def FnExactFieldMulUptoSaid : Prop := fnExactFieldMulUptoRow.holds Try.pinned (OpenSpec.upto fnExactFieldMulSpec)

/-- 'laws.FnExactBuddyOf', WHERE WHAT IT READS IS OF BULK AT MOST 1048576: true; the input reads as it did. -/
def fnExactBuddyOfUptoRow : OpenClaim := { program := "ytbcifcggdpphbaa", sum := "9fc3a92e939ee2f1679133dce853aa68e4807d24db3fff22bf1398a451ca37c4", func := "loop.example/g00261/laws.FnExactBuddyOf", spec := "fnExactBuddyOf", apart := false, narrowed := true }
def FnExactBuddyOfUptoSaid : Prop := fnExactBuddyOfUptoRow.holds Try.pinned (OpenSpec.upto fnExactBuddyOfSpec)

/-- 'laws.FnExactFieldInv', WHERE WHAT IT READS IS OF BULK AT MOST 1048576: true; the input reads as it did. -/
def fnExactFieldInvUptoRow : OpenClaim := { program := "ytbcifcggdpphbaa", sum := "9fc3a92e939ee2f1679133dce853aa68e4807d24db3fff22bf1398a451ca37c4", func := "loop.example/g00261/laws.FnExactFieldInv", spec := "fnExactFieldInv", apart := false, narrowed := true }
def FnExactFieldInvUptoSaid : Prop := fnExactFieldInvUptoRow.holds Try.pinned (OpenSpec.upto fnExactFieldInvSpec)

/-- 'laws.FnExactFieldPow', WHERE WHAT IT READS IS OF BULK AT MOST 1048576: true; the input reads as it did. -/
def fnExactFieldPowUptoRow : OpenClaim := { program := "ytbcifcggdpphbaa", sum := "9fc3a92e939ee2f1679133dce853aa68e4807d24db3fff22bf1398a451ca37c4", func := "loop.example/g00261/laws.FnExactFieldPow", spec := "fnExactFieldPow", apart := false, narrowed := true }
def FnExactFieldPowUptoSaid : Prop := fnExactFieldPowUptoRow.holds Try.pinned (OpenSpec.upto fnExactFieldPowSpec)

/-- 'laws.FnExactFieldDiv', WHERE WHAT IT READS IS OF BULK AT MOST 1048576: true; the input reads as it did. -/
def fnExactFieldDivUptoRow : OpenClaim := { program := "ytbcifcggdpphbaa", sum := "9fc3a92e939ee2f1679133dce853aa68e4807d24db3fff22bf1398a451ca37c4", func := "loop.example/g00261/laws.FnExactFieldDiv", spec := "fnExactFieldDiv", apart := false, narrowed := true }
def FnExactFieldDivUptoSaid : Prop := fnExactFieldDivUptoRow.holds Try.pinned (OpenSpec.upto fnExactFieldDivSpec)

/-- 'laws.FnExactHamDistance', WHERE WHAT IT READS IS OF BULK AT MOST 1048576: true; the input reads as it did. -/
def fnExactHamDistanceUptoRow : OpenClaim := { program := "ytbcifcggdpphbaa", sum := "9fc3a92e939ee2f1679133dce853aa68e4807d24db3fff22bf1398a451ca37c4", func := "loop.example/g00261/laws.FnExactHamDistance", spec := "fnExactHamDistance", apart := false, narrowed := true }
def FnExactHamDistanceUptoSaid : Prop := fnExactHamDistanceUptoRow.holds Try.pinned (OpenSpec.upto fnExactHamDistanceSpec)

/-- 'laws.FnExactHamWeight', WHERE WHAT IT READS IS OF BULK AT MOST 1048576: true; the input reads as it did. -/
def fnExactHamWeightUptoRow : OpenClaim := { program := "ytbcifcggdpphbaa", sum := "9fc3a92e939ee2f1679133dce853aa68e4807d24db3fff22bf1398a451ca37c4", func := "loop.example/g00261/laws.FnExactHamWeight", spec := "fnExactHamWeight", apart := false, narrowed := true }
def FnExactHamWeightUptoSaid : Prop := fnExactHamWeightUptoRow.holds Try.pinned (OpenSpec.upto fnExactHamWeightSpec)

/-- 'laws.FnExactPolyAt', WHERE WHAT IT READS IS OF BULK AT MOST 1048576: true; the input reads as it did. -/
def fnExactPolyAtUptoRow : OpenClaim := { program := "ytbcifcggdpphbaa", sum := "9fc3a92e939ee2f1679133dce853aa68e4807d24db3fff22bf1398a451ca37c4", func := "loop.example/g00261/laws.FnExactPolyAt", spec := "fnExactPolyAt", apart := false, narrowed := true }
def FnExactPolyAtUptoSaid : Prop := fnExactPolyAtUptoRow.holds Try.pinned (OpenSpec.upto fnExactPolyAtSpec)

/-- 'laws.FnExactExpTable', WHERE WHAT IT READS IS OF BULK AT MOST 1048576: true; the input reads as it did. -/
def fnExactExpTableUptoRow : OpenClaim := { program := "ytbcifcggdpphbaa", sum := "9fc3a92e939ee2f1679133dce853aa68e4807d24db3fff22bf1398a451ca37c4", func := "loop.example/g00261/laws.FnExactExpTable", spec := "fnExactExpTable", apart := false, narrowed := true }
def FnExactExpTableUptoSaid : Prop := fnExactExpTableUptoRow.holds Try.pinned (OpenSpec.upto fnExactExpTableSpec)

/-- 'laws.FnExactLogTable', WHERE WHAT IT READS IS OF BULK AT MOST 1048576: true; the input reads as it did. -/
def fnExactLogTableUptoRow : OpenClaim := { program := "ytbcifcggdpphbaa", sum := "9fc3a92e939ee2f1679133dce853aa68e4807d24db3fff22bf1398a451ca37c4", func := "loop.example/g00261/laws.FnExactLogTable", spec := "fnExactLogTable", apart := false, narrowed := true }
def FnExactLogTableUptoSaid : Prop := fnExactLogTableUptoRow.holds Try.pinned (OpenSpec.upto fnExactLogTableSpec)

end Rows
end Go.Proofs.Ytbcifcggdpphbaa
