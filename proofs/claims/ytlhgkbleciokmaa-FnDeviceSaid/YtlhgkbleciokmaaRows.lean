/-
  No cell of these rows narrows 'for every input' (looked for: loops, veiled, ifaces, maps, wideKeys, modest, calm, conditions, laid).
  DERIVED. THE GIVEN ROWS OF THIS SEAT. 10 by the template 'for every input the law returns true; each argument reads behind the call as it read before'; 0 by the template 'total and deterministic' (their statements: YtlhgkbleciokmaaTotals.lean).
  GIVEN WITH THE SEED: the statements are not yours to turn. If you find one false, say at which input.
  Laid BY PROGRAM, IN A SANDBOX (cutbox-rows.mjs): the forced cells as the released guide's own fill.sh prints them over the translation 2863b8c61a8e7c82… (all of the seat's roots in one cut). By AI agents, Wed Nov 11 2026. No macro, syntax, notation, axiom, sorry.
-/
import Derived.Test.YtlhgkbleciokmaaChecked
import GoSem.Claim
import GoSem.ClaimJoined
import GoSem.ClaimMapViews
import Derived.JoinedTies
import Derived.KernelRfl
namespace Go.Proofs.Ytlhgkbleciokmaa
/- THE CELL 'sum', in the pinned program and in every row, IS THE sha256 OF THE DUMP (.gsa) THAT YtlhgkbleciokmaaProg.lean LOADS. Nothing in Lean hashes anything: it is a label: what it is worth is what the hold of that sum in a sandbox is worth. -/
noncomputable def Try.pinned : Pinned := { name := "ytlhgkbleciokmaa", sum := "2863b8c61a8e7c82e56e30e99d09e51b1cd01adff5c736fb3c93295444d2f607", checked := Try.checked }
namespace Rows
def none {H : Type} : Left H := { results := [], args := [] }

/-- 'laws.FnExactGoodDevice': WHATEVER THE INPUT: true; the input reads as it did. -/
def fnExactGoodDeviceSpec : ChangeSpec := { name := "fnExactGoodDevice", fn := fun _ => fun
  | [d] => { results := [.lit (.bool true)], args := [d] }
  | _ => none }
def fnExactGoodDeviceRow : OpenClaim := { program := "ytlhgkbleciokmaa", sum := "2863b8c61a8e7c82e56e30e99d09e51b1cd01adff5c736fb3c93295444d2f607", func := "loop.example/g00261/laws.FnExactGoodDevice", spec := "fnExactGoodDevice", unfollowed := true, recurses := true, apart := false }
def FnExactGoodDeviceSaid : Prop := fnExactGoodDeviceRow.holds Try.pinned (OpenSpec.ofChange fnExactGoodDeviceSpec)

/-- ITS FALSE NEIGHBOUR: 'it returns false'. Refute it at one input. -/
def fnExactGoodDeviceWrong : ChangeSpec := { name := "fnExactGoodDevice", fn := fun _ => fun
  | [d] => { results := [.lit (.bool false)], args := [d] }
  | _ => none }
def FnExactGoodDeviceWrongFalsely : Prop := fnExactGoodDeviceRow.holds Try.pinned (OpenSpec.ofChange fnExactGoodDeviceWrong)

/-- 'laws.FnExactSafeSector': WHATEVER THE INPUT: true; the input reads as it did. -/
def fnExactSafeSectorSpec : ChangeSpec := { name := "fnExactSafeSector", fn := fun _ => fun
  | [d1, d2] => { results := [.lit (.bool true)], args := [d1, d2] }
  | _ => none }
def fnExactSafeSectorRow : OpenClaim := { program := "ytlhgkbleciokmaa", sum := "2863b8c61a8e7c82e56e30e99d09e51b1cd01adff5c736fb3c93295444d2f607", func := "loop.example/g00261/laws.FnExactSafeSector", spec := "fnExactSafeSector", unfollowed := true, recurses := true, apart := false }
def FnExactSafeSectorSaid : Prop := fnExactSafeSectorRow.holds Try.pinned (OpenSpec.ofChange fnExactSafeSectorSpec)

/-- ITS FALSE NEIGHBOUR: 'it returns false'. Refute it at one input. -/
def fnExactSafeSectorWrong : ChangeSpec := { name := "fnExactSafeSector", fn := fun _ => fun
  | [d1, d2] => { results := [.lit (.bool false)], args := [d1, d2] }
  | _ => none }
def FnExactSafeSectorWrongFalsely : Prop := fnExactSafeSectorRow.holds Try.pinned (OpenSpec.ofChange fnExactSafeSectorWrong)

/-- 'laws.FnExactReadSector': WHATEVER THE INPUT: true; the input reads as it did. -/
def fnExactReadSectorSpec : ChangeSpec := { name := "fnExactReadSector", fn := fun _ => fun
  | [d1, d2] => { results := [.lit (.bool true)], args := [d1, d2] }
  | _ => none }
def fnExactReadSectorRow : OpenClaim := { program := "ytlhgkbleciokmaa", sum := "2863b8c61a8e7c82e56e30e99d09e51b1cd01adff5c736fb3c93295444d2f607", func := "loop.example/g00261/laws.FnExactReadSector", spec := "fnExactReadSector", unfollowed := true, recurses := true, apart := false }
def FnExactReadSectorSaid : Prop := fnExactReadSectorRow.holds Try.pinned (OpenSpec.ofChange fnExactReadSectorSpec)

/-- ITS FALSE NEIGHBOUR: 'it returns false'. Refute it at one input. -/
def fnExactReadSectorWrong : ChangeSpec := { name := "fnExactReadSector", fn := fun _ => fun
  | [d1, d2] => { results := [.lit (.bool false)], args := [d1, d2] }
  | _ => none }
def FnExactReadSectorWrongFalsely : Prop := fnExactReadSectorRow.holds Try.pinned (OpenSpec.ofChange fnExactReadSectorWrong)

/-- 'laws.FnExactWriteSector': WHATEVER THE INPUT: true; the input reads as it did. -/
def fnExactWriteSectorSpec : ChangeSpec := { name := "fnExactWriteSector", fn := fun _ => fun
  | [d1, d2] => { results := [.lit (.bool true)], args := [d1, d2] }
  | _ => none }
def fnExactWriteSectorRow : OpenClaim := { program := "ytlhgkbleciokmaa", sum := "2863b8c61a8e7c82e56e30e99d09e51b1cd01adff5c736fb3c93295444d2f607", func := "loop.example/g00261/laws.FnExactWriteSector", spec := "fnExactWriteSector", unfollowed := true, recurses := true, apart := false }
def FnExactWriteSectorSaid : Prop := fnExactWriteSectorRow.holds Try.pinned (OpenSpec.ofChange fnExactWriteSectorSpec)

/-- ITS FALSE NEIGHBOUR: 'it returns false'. Refute it at one input. -/
def fnExactWriteSectorWrong : ChangeSpec := { name := "fnExactWriteSector", fn := fun _ => fun
  | [d1, d2] => { results := [.lit (.bool false)], args := [d1, d2] }
  | _ => none }
def FnExactWriteSectorWrongFalsely : Prop := fnExactWriteSectorRow.holds Try.pinned (OpenSpec.ofChange fnExactWriteSectorWrong)

/-- 'laws.FnExactFlushDevice': WHATEVER THE INPUT: true; the input reads as it did. -/
def fnExactFlushDeviceSpec : ChangeSpec := { name := "fnExactFlushDevice", fn := fun _ => fun
  | [d] => { results := [.lit (.bool true)], args := [d] }
  | _ => none }
def fnExactFlushDeviceRow : OpenClaim := { program := "ytlhgkbleciokmaa", sum := "2863b8c61a8e7c82e56e30e99d09e51b1cd01adff5c736fb3c93295444d2f607", func := "loop.example/g00261/laws.FnExactFlushDevice", spec := "fnExactFlushDevice", unfollowed := true, recurses := true, apart := false }
def FnExactFlushDeviceSaid : Prop := fnExactFlushDeviceRow.holds Try.pinned (OpenSpec.ofChange fnExactFlushDeviceSpec)

/-- ITS FALSE NEIGHBOUR: 'it returns false'. Refute it at one input. -/
def fnExactFlushDeviceWrong : ChangeSpec := { name := "fnExactFlushDevice", fn := fun _ => fun
  | [d] => { results := [.lit (.bool false)], args := [d] }
  | _ => none }
def FnExactFlushDeviceWrongFalsely : Prop := fnExactFlushDeviceRow.holds Try.pinned (OpenSpec.ofChange fnExactFlushDeviceWrong)

/-- 'laws.FnExactCrashDevice': WHATEVER THE INPUT: true; the input reads as it did. -/
def fnExactCrashDeviceSpec : ChangeSpec := { name := "fnExactCrashDevice", fn := fun _ => fun
  | [d1, d2] => { results := [.lit (.bool true)], args := [d1, d2] }
  | _ => none }
def fnExactCrashDeviceRow : OpenClaim := { program := "ytlhgkbleciokmaa", sum := "2863b8c61a8e7c82e56e30e99d09e51b1cd01adff5c736fb3c93295444d2f607", func := "loop.example/g00261/laws.FnExactCrashDevice", spec := "fnExactCrashDevice", unfollowed := true, recurses := true, apart := false }
def FnExactCrashDeviceSaid : Prop := fnExactCrashDeviceRow.holds Try.pinned (OpenSpec.ofChange fnExactCrashDeviceSpec)

/-- ITS FALSE NEIGHBOUR: 'it returns false'. Refute it at one input. -/
def fnExactCrashDeviceWrong : ChangeSpec := { name := "fnExactCrashDevice", fn := fun _ => fun
  | [d1, d2] => { results := [.lit (.bool false)], args := [d1, d2] }
  | _ => none }
def FnExactCrashDeviceWrongFalsely : Prop := fnExactCrashDeviceRow.holds Try.pinned (OpenSpec.ofChange fnExactCrashDeviceWrong)

/-- 'laws.FnExactNewDevice': WHATEVER THE INPUT: true; the input reads as it did. -/
def fnExactNewDeviceSpec : ChangeSpec := { name := "fnExactNewDevice", fn := fun _ => fun
  | [d] => { results := [.lit (.bool true)], args := [d] }
  | _ => none }
def fnExactNewDeviceRow : OpenClaim := { program := "ytlhgkbleciokmaa", sum := "2863b8c61a8e7c82e56e30e99d09e51b1cd01adff5c736fb3c93295444d2f607", func := "loop.example/g00261/laws.FnExactNewDevice", spec := "fnExactNewDevice", inPlace := ["internal/abi.NoEscape", "internal/bytealg.MakeNoZero"], apart := false }
def FnExactNewDeviceSaid : Prop := fnExactNewDeviceRow.holds Try.pinned (OpenSpec.ofChange fnExactNewDeviceSpec)

/-- ITS FALSE NEIGHBOUR: 'it returns false'. Refute it at one input. -/
def fnExactNewDeviceWrong : ChangeSpec := { name := "fnExactNewDevice", fn := fun _ => fun
  | [d] => { results := [.lit (.bool false)], args := [d] }
  | _ => none }
def FnExactNewDeviceWrongFalsely : Prop := fnExactNewDeviceRow.holds Try.pinned (OpenSpec.ofChange fnExactNewDeviceWrong)

/-- 'laws.FnExactPlayDevice': WHATEVER THE INPUT: true; the input reads as it did. -/
def fnExactPlayDeviceSpec : ChangeSpec := { name := "fnExactPlayDevice", fn := fun _ => fun
  | [d1, d2] => { results := [.lit (.bool true)], args := [d1, d2] }
  | _ => none }
def fnExactPlayDeviceRow : OpenClaim := { program := "ytlhgkbleciokmaa", sum := "2863b8c61a8e7c82e56e30e99d09e51b1cd01adff5c736fb3c93295444d2f607", func := "loop.example/g00261/laws.FnExactPlayDevice", spec := "fnExactPlayDevice", inPlace := ["internal/abi.NoEscape", "internal/bytealg.MakeNoZero"], unfollowed := true, recurses := true, apart := false }
def FnExactPlayDeviceSaid : Prop := fnExactPlayDeviceRow.holds Try.pinned (OpenSpec.ofChange fnExactPlayDeviceSpec)

/-- ITS FALSE NEIGHBOUR: 'it returns false'. Refute it at one input. -/
def fnExactPlayDeviceWrong : ChangeSpec := { name := "fnExactPlayDevice", fn := fun _ => fun
  | [d1, d2] => { results := [.lit (.bool false)], args := [d1, d2] }
  | _ => none }
def FnExactPlayDeviceWrongFalsely : Prop := fnExactPlayDeviceRow.holds Try.pinned (OpenSpec.ofChange fnExactPlayDeviceWrong)

/-- 'laws.FnExactDirtyOf': WHATEVER THE INPUT: true; the input reads as it did. -/
def fnExactDirtyOfSpec : ChangeSpec := { name := "fnExactDirtyOf", fn := fun _ => fun
  | [d] => { results := [.lit (.bool true)], args := [d] }
  | _ => none }
def fnExactDirtyOfRow : OpenClaim := { program := "ytlhgkbleciokmaa", sum := "2863b8c61a8e7c82e56e30e99d09e51b1cd01adff5c736fb3c93295444d2f607", func := "loop.example/g00261/laws.FnExactDirtyOf", spec := "fnExactDirtyOf", unfollowed := true, recurses := true, apart := false }
def FnExactDirtyOfSaid : Prop := fnExactDirtyOfRow.holds Try.pinned (OpenSpec.ofChange fnExactDirtyOfSpec)

/-- ITS FALSE NEIGHBOUR: 'it returns false'. Refute it at one input. -/
def fnExactDirtyOfWrong : ChangeSpec := { name := "fnExactDirtyOf", fn := fun _ => fun
  | [d] => { results := [.lit (.bool false)], args := [d] }
  | _ => none }
def FnExactDirtyOfWrongFalsely : Prop := fnExactDirtyOfRow.holds Try.pinned (OpenSpec.ofChange fnExactDirtyOfWrong)

/-- 'laws.FnDevice': WHATEVER THE INPUT: true; the input reads as it did. -/
def fnDeviceSpec : ChangeSpec := { name := "fnDevice", fn := fun _ => fun
  | [d1, d2] => { results := [.lit (.bool true)], args := [d1, d2] }
  | _ => none }
def fnDeviceRow : OpenClaim := { program := "ytlhgkbleciokmaa", sum := "2863b8c61a8e7c82e56e30e99d09e51b1cd01adff5c736fb3c93295444d2f607", func := "loop.example/g00261/laws.FnDevice", spec := "fnDevice", unfollowed := true, recurses := true, apart := false }
def FnDeviceSaid : Prop := fnDeviceRow.holds Try.pinned (OpenSpec.ofChange fnDeviceSpec)

/-- ITS FALSE NEIGHBOUR: 'it returns false'. Refute it at one input. -/
def fnDeviceWrong : ChangeSpec := { name := "fnDevice", fn := fun _ => fun
  | [d1, d2] => { results := [.lit (.bool false)], args := [d1, d2] }
  | _ => none }
def FnDeviceWrongFalsely : Prop := fnDeviceRow.holds Try.pinned (OpenSpec.ofChange fnDeviceWrong)

/- THE SECOND FORM. 'bulk': how many values and letters a reading holds, each counted each time it is reached (what is shared counts as often as it is met; a slice's spare places count too). A statement '..UptoSaid' is the law's where the arguments, and the package variables that the reading takes, are together of bulk at most 1048576: NARROWER than '..Said'. Prove '..Said' where nothing that the law and all that it calls make is longer than what came in: it says more and counts as full. Else prove '..UptoSaid'. A law counts once. -/
mutual
def uptoBulk {H : Type} : DataW H → Nat
  | .lit (.string bytes) => bytes.length + 1
  | .lit _ => 1
  | .nil => 1
  | .ptr d => uptoBulk d + 1
  | .slice elems spare => uptoBulkAll elems + uptoBulkAll spare + 1
  | .agg parts => uptoBulkAll parts + 1
  | .iface _ d => uptoBulk d + 1
  | .map entries => uptoBulkEntries entries + 1
  | .held _ => 1
def uptoBulkAll {H : Type} : List (DataW H) → Nat
  | [] => 0
  | d :: r => uptoBulk d + uptoBulkAll r
def uptoBulkEntries {H : Type} : List (Lit × DataW H) → Nat
  | [] => 0
  | x :: r => uptoBulkEntry x + uptoBulkEntries r
def uptoBulkEntry {H : Type} : Lit × DataW H → Nat
  | (.string bytes, d) => bytes.length + uptoBulk d + 1
  | (_, d) => uptoBulk d + 1
 end
def uptoSmall : (H : Type) → List (DataW H) → Bool := fun _ ds => decide (uptoBulkAll ds ≤ 1048576)
def OpenSpec.upto (s : _root_.Go.ChangeSpec) : _root_.Go.OpenSpec := { _root_.Go.OpenSpec.ofChange s with cond := some uptoSmall }

/-- 'laws.FnExactGoodDevice', WHERE WHAT IT READS IS OF BULK AT MOST 1048576: true; the input reads as it did. -/
def fnExactGoodDeviceUptoRow : OpenClaim := { program := "ytlhgkbleciokmaa", sum := "2863b8c61a8e7c82e56e30e99d09e51b1cd01adff5c736fb3c93295444d2f607", func := "loop.example/g00261/laws.FnExactGoodDevice", spec := "fnExactGoodDevice", unfollowed := true, recurses := true, apart := false, narrowed := true }
def FnExactGoodDeviceUptoSaid : Prop := fnExactGoodDeviceUptoRow.holds Try.pinned (OpenSpec.upto fnExactGoodDeviceSpec)

/-- 'laws.FnExactSafeSector', WHERE WHAT IT READS IS OF BULK AT MOST 1048576: true; the input reads as it did. -/
def fnExactSafeSectorUptoRow : OpenClaim := { program := "ytlhgkbleciokmaa", sum := "2863b8c61a8e7c82e56e30e99d09e51b1cd01adff5c736fb3c93295444d2f607", func := "loop.example/g00261/laws.FnExactSafeSector", spec := "fnExactSafeSector", unfollowed := true, recurses := true, apart := false, narrowed := true }
def FnExactSafeSectorUptoSaid : Prop := fnExactSafeSectorUptoRow.holds Try.pinned (OpenSpec.upto fnExactSafeSectorSpec)

/-- 'laws.FnExactReadSector', WHERE WHAT IT READS IS OF BULK AT MOST 1048576: true; the input reads as it did. -/
def fnExactReadSectorUptoRow : OpenClaim := { program := "ytlhgkbleciokmaa", sum := "2863b8c61a8e7c82e56e30e99d09e51b1cd01adff5c736fb3c93295444d2f607", func := "loop.example/g00261/laws.FnExactReadSector", spec := "fnExactReadSector", unfollowed := true, recurses := true, apart := false, narrowed := true }
def FnExactReadSectorUptoSaid : Prop := fnExactReadSectorUptoRow.holds Try.pinned (OpenSpec.upto fnExactReadSectorSpec)

/-- 'laws.FnExactWriteSector', WHERE WHAT IT READS IS OF BULK AT MOST 1048576: true; the input reads as it did. -/
def fnExactWriteSectorUptoRow : OpenClaim := { program := "ytlhgkbleciokmaa", sum := "2863b8c61a8e7c82e56e30e99d09e51b1cd01adff5c736fb3c93295444d2f607", func := "loop.example/g00261/laws.FnExactWriteSector", spec := "fnExactWriteSector", unfollowed := true, recurses := true, apart := false, narrowed := true }
def FnExactWriteSectorUptoSaid : Prop := fnExactWriteSectorUptoRow.holds Try.pinned (OpenSpec.upto fnExactWriteSectorSpec)

/-- 'laws.FnExactFlushDevice', WHERE WHAT IT READS IS OF BULK AT MOST 1048576: true; the input reads as it did. -/
def fnExactFlushDeviceUptoRow : OpenClaim := { program := "ytlhgkbleciokmaa", sum := "2863b8c61a8e7c82e56e30e99d09e51b1cd01adff5c736fb3c93295444d2f607", func := "loop.example/g00261/laws.FnExactFlushDevice", spec := "fnExactFlushDevice", unfollowed := true, recurses := true, apart := false, narrowed := true }
def FnExactFlushDeviceUptoSaid : Prop := fnExactFlushDeviceUptoRow.holds Try.pinned (OpenSpec.upto fnExactFlushDeviceSpec)

/-- 'laws.FnExactCrashDevice', WHERE WHAT IT READS IS OF BULK AT MOST 1048576: true; the input reads as it did. -/
def fnExactCrashDeviceUptoRow : OpenClaim := { program := "ytlhgkbleciokmaa", sum := "2863b8c61a8e7c82e56e30e99d09e51b1cd01adff5c736fb3c93295444d2f607", func := "loop.example/g00261/laws.FnExactCrashDevice", spec := "fnExactCrashDevice", unfollowed := true, recurses := true, apart := false, narrowed := true }
def FnExactCrashDeviceUptoSaid : Prop := fnExactCrashDeviceUptoRow.holds Try.pinned (OpenSpec.upto fnExactCrashDeviceSpec)

/-- 'laws.FnExactNewDevice', WHERE WHAT IT READS IS OF BULK AT MOST 1048576: true; the input reads as it did. -/
def fnExactNewDeviceUptoRow : OpenClaim := { program := "ytlhgkbleciokmaa", sum := "2863b8c61a8e7c82e56e30e99d09e51b1cd01adff5c736fb3c93295444d2f607", func := "loop.example/g00261/laws.FnExactNewDevice", spec := "fnExactNewDevice", inPlace := ["internal/abi.NoEscape", "internal/bytealg.MakeNoZero"], apart := false, narrowed := true }
def FnExactNewDeviceUptoSaid : Prop := fnExactNewDeviceUptoRow.holds Try.pinned (OpenSpec.upto fnExactNewDeviceSpec)

/-- 'laws.FnExactPlayDevice', WHERE WHAT IT READS IS OF BULK AT MOST 1048576: true; the input reads as it did. -/
def fnExactPlayDeviceUptoRow : OpenClaim := { program := "ytlhgkbleciokmaa", sum := "2863b8c61a8e7c82e56e30e99d09e51b1cd01adff5c736fb3c93295444d2f607", func := "loop.example/g00261/laws.FnExactPlayDevice", spec := "fnExactPlayDevice", inPlace := ["internal/abi.NoEscape", "internal/bytealg.MakeNoZero"], unfollowed := true, recurses := true, apart := false, narrowed := true }
def FnExactPlayDeviceUptoSaid : Prop := fnExactPlayDeviceUptoRow.holds Try.pinned (OpenSpec.upto fnExactPlayDeviceSpec)

/-- 'laws.FnExactDirtyOf', WHERE WHAT IT READS IS OF BULK AT MOST 1048576: true; the input reads as it did. -/
def fnExactDirtyOfUptoRow : OpenClaim := { program := "ytlhgkbleciokmaa", sum := "2863b8c61a8e7c82e56e30e99d09e51b1cd01adff5c736fb3c93295444d2f607", func := "loop.example/g00261/laws.FnExactDirtyOf", spec := "fnExactDirtyOf", unfollowed := true, recurses := true, apart := false, narrowed := true }
def FnExactDirtyOfUptoSaid : Prop := fnExactDirtyOfUptoRow.holds Try.pinned (OpenSpec.upto fnExactDirtyOfSpec)

/-- 'laws.FnDevice', WHERE WHAT IT READS IS OF BULK AT MOST 1048576: true; the input reads as it did. -/
def fnDeviceUptoRow : OpenClaim := { program := "ytlhgkbleciokmaa", sum := "2863b8c61a8e7c82e56e30e99d09e51b1cd01adff5c736fb3c93295444d2f607", func := "loop.example/g00261/laws.FnDevice", spec := "fnDevice", unfollowed := true, recurses := true, apart := false, narrowed := true }
def FnDeviceUptoSaid : Prop := fnDeviceUptoRow.holds Try.pinned (OpenSpec.upto fnDeviceSpec)

end Rows
end Go.Proofs.Ytlhgkbleciokmaa
