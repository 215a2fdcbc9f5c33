/- The row of FnExactMakeStripe, out of its pure statement and the walk; no condition. -/
import Derived.Test.YtfijnlhklfmoeaaRows
import Derived.Test.YtfijnlhklfmoeaaQFnExactMakeStripex5
import Derived.Test.YtfijnlhklfmoeaaPureFnExactMakeStripe
import Derived.Test.YtfijnlhklfmoeaaOpen
import Derived.WalkKit
import Derived.ProofKit
import Derived.OpenShut
import Derived.ShutString
import Derived.ChangeOld
import Derived.Below
import Derived.SizedLaws
import Derived.Lib.SmallJoins
namespace Go.Proofs.Ytfijnlhklfmoeaa.fnExactMakeStripe
open Go.ChangeShapes Go.WideShapes Go.ChangeAt Go.RowKit Go.Joins
open Go.Proofs.Ytfijnlhklfmoeaa.PFnExactMakeStripe Go.Proofs.YtfijnlhklfmoeaaW.PrintWords Go.Proofs.Ytfijnlhklfmoeaa.Open
open Go.ChangeMaps (open_string shut_string)
set_option linter.unusedVariables false
set_option linter.unusedSimpArgs false
theorem own : ownKnob Try.prog.godebug = none := by kernel_rfl
theorem laidOut : laidOutB Try.prog = true := by kernel_rfl
theorem op9 : TOpen Try.prog 9 Kd.string (fun x => x.size ≤ maxLen) := topen_string Try.underlying9
theorem op22 : TOpen Try.prog 22 (Kd.slice 9 Kd.string) (fun xs => (xs.length ≤ maxLen ∧ ∀ x_ ∈ xs, x_.size ≤ maxLen)) := topen_mono (topen_slice Try.underlying22 (by kernel_rfl : Try.prog.cellsOf 9 = 1) op9) (fun xs h => h)
set_option maxRecDepth 100000 in
theorem lifted (os : Os) (started : os.Started) (H : Type) (enc : TypeId × Value → H) :
    ReturnsInHanded {} Try.checked os 5 .any (Rows.fnExactMakeStripeSpec.pre6 enc Try.prog Try.f5 Rows.fnExactMakeStripeRow.domain false) (Rows.fnExactMakeStripeSpec.post enc Try.prog Try.f5 false true false false) := by
  refine returnsInHanded_of_change_sized (C := Try.checked) own started (by kernel_rfl) Try.func5
    (ChangeSpec.witness6 (enc := enc) (C := Try.checked) false ⟨#[], #[.slice none 0 0], []⟩ 8 (by kernel_rfl) (by kernel_rfl) (by kernel_rfl) (by kernel_rfl)) ?_
  intro W base args ds gs before hval0 hW hcnd hsz0 _
  have hval : ∀ (j : Nat) t v, Try.f5.params[j]? = some t → args[j]? = some v → Value.okWide Try.prog W .any base t v := hval0
  have hW' := hW
  obtain ⟨p, q, hA0, hV, rfl, hfz, hnd⟩ := hW
  have hA : DataW.TrodAll enc Try.prog W 0 (fun _ => true) true Try.f5.params.toList args.toList ds p := hA0
  rw [Try.params5] at hA hval
  obtain ⟨v0, vs0, d0, ds0, p0, q0, hargs, rfl, rfl, h0, r0⟩ := trodAll_cons hA
  obtain ⟨rfl, rfl, rfl⟩ := trodAll_nil r0
  obtain rfl : args = #[v0] := by cases args; simp_all
  obtain ⟨rfl, rfl⟩ := trodVars_none hV
  have k0 := h0
  have lt0 : ∀ x ∈ p0, x.block < W.heap.size := by obtain ⟨m, hm⟩ := k0; exact DataW.trod_lt m _ _ _ hm
  obtain ⟨A0, len0, c0, rfl⟩ := okWide_slice Try.underlying22 (hval 0 22 v0 rfl rfl)
  obtain ⟨l0, ok0, e0, hc0, hr0⟩ := open_slice_of op22 h0
  subst e0
  clear hA0 hval0 hsz0
  obtain ⟨k, h⟩ := Pure.FnExactMakeStripe l0 ok0
  refine (laws_FnExactMakeStripe.calls k A0 c0 l0 true W hr0 hc0 h).mono ?_
  rintro e W' ⟨rfl, hd⟩
  have bel : Below W.heap.size W W' := hd
  exact ⟨_, rfl, _, _, _, [], _, [], hW', trodAll_mk1 (shut_bool Try.underlying4 _), (trodAll_cons_mk (Below.trod laidOut (by kernel_rfl) (of_decide_eq_true (by kernel_rfl)) k0 bel lt0) trodAll_mk0), rfl, bel.frame _, fun h => by cases h⟩
theorem over : Rows.fnExactMakeStripeRow.holds Try.pinned (OpenSpec.ofChange Rows.fnExactMakeStripeSpec) :=
  OpenClaim.holds_of_wide 5 Try.f5 rfl rfl rfl rfl rfl rfl rfl ⟨rfl, rfl, rfl, rfl, rfl⟩ rfl rfl rfl rfl rfl (by kernel_rfl) Try.func5 (by kernel_rfl)
    (of_decide_eq_true (by kernel_rfl)) (by unfold Func.isWrapper; first | (rw [if_pos (by decide +kernel)]; kernel_rfl) | (rw [if_neg (by decide +kernel)]; exact ⟨rfl, rfl⟩))
    (fun os started H enc _ => lifted os started H enc)
theorem proved : Rows.FnExactMakeStripeSaid := over
#print axioms proved
end Go.Proofs.Ytfijnlhklfmoeaa.fnExactMakeStripe
namespace Go.Proofs.Ytfijnlhklfmoeaa
/-- The row, under a short name, for the claim. -/
theorem fnExactMakeStripe_holds : Rows.FnExactMakeStripeSaid := fnExactMakeStripe.proved
end Go.Proofs.Ytfijnlhklfmoeaa
