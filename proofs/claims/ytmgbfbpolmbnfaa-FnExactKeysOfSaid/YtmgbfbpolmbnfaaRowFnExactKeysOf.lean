/- The row of FnExactKeysOf, out of its pure statement and the walk; no condition. -/
import Derived.Test.YtmgbfbpolmbnfaaRows
import Derived.Test.YtmgbfbpolmbnfaaQFnExactKeysOfx3
import Derived.Test.YtmgbfbpolmbnfaaPureFnExactKeysOf
import Derived.Test.YtmgbfbpolmbnfaaOpen
import Derived.WalkKit
import Derived.ProofKit
import Derived.OpenShut
import Derived.ShutString
import Derived.ChangeOld
import Derived.Below
import Derived.SizedLaws
import Derived.Lib.SmallJoins
namespace Go.Proofs.Ytmgbfbpolmbnfaa.fnExactKeysOf
open Go.ChangeShapes Go.WideShapes Go.ChangeAt Go.RowKit Go.Joins
open Go.Proofs.Ytmgbfbpolmbnfaa.PFnExactKeysOf Go.Proofs.YtmgbfbpolmbnfaaW.PrintWords Go.Proofs.Ytmgbfbpolmbnfaa.Open
open Go.ChangeMaps (open_string shut_string)
set_option linter.unusedVariables false
set_option linter.unusedSimpArgs false
theorem own : ownKnob Try.prog.godebug = none := by kernel_rfl
theorem laidOut : laidOutB Try.prog = true := by kernel_rfl
theorem op4 : TOpen Try.prog 4 Kd.bool (fun _ => True) := topen_bool Try.underlying4
theorem op3 : TOpen Try.prog 3 (Kd.int .i64) (fun x => (Lit.int .i64 x).wf = true) := topen_int Try.underlying3
theorem op35 : TOpen Try.prog 35 (Kd.slice 3 (Kd.int .i64)) (fun xs => (xs.length ≤ maxLen ∧ ∀ x_ ∈ xs, (Lit.int .i64 x_).wf = true)) := topen_mono (topen_slice Try.underlying35 (by kernel_rfl : Try.prog.cellsOf 3 = 1) op3) (fun xs h => h)
theorem op69 : TOpen Try.prog 69 k69 okS69 := topen_mono (topen_iso (fun x : S69 => (x.f0, x.f1, x.f2)) (fun y => ⟨y.1, y.2.1, y.2.2⟩) (fun _ => rfl) (topen_struct3 Try.underlying69 (by kernel_rfl) op4 op35 op35)) (fun x h => ⟨h.2.1, h.2.2⟩)
theorem op22 : TOpen Try.prog 22 (Kd.slice 69 k69) (fun xs => (xs.length ≤ maxLen ∧ ∀ x_ ∈ xs, okS69 x_)) := topen_mono (topen_slice Try.underlying22 (by kernel_rfl : Try.prog.cellsOf 69 = 3) op69) (fun xs h => h)
set_option maxRecDepth 100000 in
theorem lifted (os : Os) (started : os.Started) (H : Type) (enc : TypeId × Value → H) :
    ReturnsInHanded {} Try.checked os 5 .any (Rows.fnExactKeysOfSpec.pre6 enc Try.prog Try.f5 Rows.fnExactKeysOfRow.domain false) (Rows.fnExactKeysOfSpec.post enc Try.prog Try.f5 false true false false) := by
  refine returnsInHanded_of_change_sized (C := Try.checked) own started (by kernel_rfl) Try.func5
    (ChangeSpec.witness6 (enc := enc) (C := Try.checked) false ⟨#[], #[.agg #[.slice none 0 0, .int .i64 0]], []⟩ 8 (by kernel_rfl) (by kernel_rfl) (by kernel_rfl) (by kernel_rfl)) ?_
  intro W base args ds gs before hval0 hW hcnd hsz0 _
  have hval : ∀ (j : Nat) t v, Try.f5.params[j]? = some t → args[j]? = some v → Value.okWide Try.prog W .any base t v := hval0
  have hW' := hW
  obtain ⟨p, q, hA0, hV, rfl, hfz, hnd⟩ := hW
  have hA : DataW.TrodAll enc Try.prog W 0 (fun _ => true) true Try.f5.params.toList args.toList ds p := hA0
  rw [Try.params5] at hA hval
  obtain ⟨v0, vs0, d0, ds0, p0, q0, hargs, rfl, rfl, h0, r0⟩ := trodAll_cons hA
  obtain ⟨rfl, rfl, rfl⟩ := trodAll_nil r0
  obtain rfl : args = #[v0] := by cases args; simp_all
  obtain ⟨rfl, rfl⟩ := trodVars_none hV
  have k0 := h0
  have lt0 : ∀ x ∈ p0, x.block < W.heap.size := by obtain ⟨m, hm⟩ := k0; exact DataW.trod_lt m _ _ _ hm
  obtain ⟨c0_0', c0_1', y0_0, y0_1, m0, rfl, _, _, h0_0, h0_1⟩ := open_agg2 Try.underlying24 (by kernel_rfl) (by kernel_rfl) (hval 0 24 v0 rfl rfl) h0
  obtain ⟨A0_0, c0_0, l0_0, ok0_0, rfl, hc0_0, hr0_0⟩ := open_field_slice op22 h0_0
  obtain ⟨a0_1, ok0_1, rfl⟩ := open_field_scalar op3 h0_1
  clear hA0 hval0 hsz0
  have h := Pure.FnExactKeysOf l0_0 a0_1 ok0_0 ok0_1
  refine (laws_FnExactKeysOf.calls A0_0 c0_0 l0_0 a0_1 true W hr0_0 hc0_0 h).mono ?_
  rintro e W' ⟨rfl, hd⟩
  have bel : Below W.heap.size W W' := hd
  exact ⟨_, rfl, _, _, _, [], _, [], hW', trodAll_mk1 (shut_bool Try.underlying4 _), (trodAll_cons_mk (Below.trod laidOut (by kernel_rfl) (of_decide_eq_true (by kernel_rfl)) k0 bel lt0) trodAll_mk0), rfl, bel.frame _, fun h => by cases h⟩
theorem over : Rows.fnExactKeysOfRow.holds Try.pinned (OpenSpec.ofChange Rows.fnExactKeysOfSpec) :=
  OpenClaim.holds_of_wide 5 Try.f5 rfl rfl rfl rfl rfl rfl rfl ⟨rfl, rfl, rfl, rfl, rfl⟩ rfl rfl rfl rfl rfl (by kernel_rfl) Try.func5 (by kernel_rfl)
    (of_decide_eq_true (by kernel_rfl)) (by unfold Func.isWrapper; first | (rw [if_pos (by decide +kernel)]; kernel_rfl) | (rw [if_neg (by decide +kernel)]; exact ⟨rfl, rfl⟩))
    (fun os started H enc _ => lifted os started H enc)
theorem proved : Rows.FnExactKeysOfSaid := over
#print axioms proved
end Go.Proofs.Ytmgbfbpolmbnfaa.fnExactKeysOf
namespace Go.Proofs.Ytmgbfbpolmbnfaa
/-- The row, under a short name, for the claim. -/
theorem fnExactKeysOf_holds : Rows.FnExactKeysOfSaid := fnExactKeysOf.proved
end Go.Proofs.Ytmgbfbpolmbnfaa
