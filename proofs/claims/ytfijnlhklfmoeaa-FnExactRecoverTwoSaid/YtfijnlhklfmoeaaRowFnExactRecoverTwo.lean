/- The row of FnExactRecoverTwo, out of its pure statement and the walk; no condition. -/
import Derived.Test.YtfijnlhklfmoeaaRows
import Derived.Test.YtfijnlhklfmoeaaQFnExactRecoverTwox11
import Derived.Test.YtfijnlhklfmoeaaPureFnExactRecoverTwo
import Derived.Test.YtfijnlhklfmoeaaZFnExactRecoverTwoOpen
import Derived.WalkKit
import Derived.ProofKit
import Derived.OpenShut
import Derived.ShutString
import Derived.ChangeOld
import Derived.Below
import Derived.SizedLaws
import Derived.Lib.SmallJoins
namespace Go.Proofs.Ytfijnlhklfmoeaa.fnExactRecoverTwo
open Go.ChangeShapes Go.WideShapes Go.ChangeAt Go.RowKit Go.Joins
open Go.Proofs.Ytfijnlhklfmoeaa.PFnExactRecoverTwo Go.Proofs.YtfijnlhklfmoeaaW.PrintWords Go.Proofs.Ytfijnlhklfmoeaa.Open
open Go.ChangeMaps (open_string shut_string)
set_option linter.unusedVariables false
set_option linter.unusedSimpArgs false
theorem own : ownKnob Try.prog.godebug = none := by kernel_rfl
theorem laidOut : laidOutB Try.prog = true := by kernel_rfl
theorem op9 : TOpen Try.prog 9 Kd.string (fun x => x.size ≤ maxLen) := topen_string Try.underlying9
theorem op22 : TOpen Try.prog 22 (Kd.slice 9 Kd.string) (fun xs => (xs.length ≤ maxLen ∧ ∀ x_ ∈ xs, x_.size ≤ maxLen)) := topen_mono (topen_slice Try.underlying22 (by kernel_rfl : Try.prog.cellsOf 9 = 1) op9) (fun xs h => h)
set_option maxRecDepth 100000 in
theorem lifted (os : Os) (started : os.Started) (H : Type) (enc : TypeId × Value → H) :
    ReturnsInHanded {} Try.checked os 9 .any (Rows.fnExactRecoverTwoSpec.pre6 enc Try.prog Try.f9 Rows.fnExactRecoverTwoRow.domain false) (Rows.fnExactRecoverTwoSpec.post enc Try.prog Try.f9 false true false false) := by
  refine returnsInHanded_of_change_sized (C := Try.checked) own started (by kernel_rfl) Try.func9
    (ChangeSpec.witness6 (enc := enc) (C := Try.checked) false ⟨#[], #[.agg #[.slice none 0 0, .string ByteArray.empty, .string ByteArray.empty], .int .i64 0, .int .i64 0], []⟩ 8 (by kernel_rfl) (by kernel_rfl) (by kernel_rfl) (by kernel_rfl)) ?_
  intro W base args ds gs before hval0 hW hcnd hsz0 _
  have hval : ∀ (j : Nat) t v, Try.f9.params[j]? = some t → args[j]? = some v → Value.okWide Try.prog W .any base t v := hval0
  have hW' := hW
  obtain ⟨p, q, hA0, hV, rfl, hfz, hnd⟩ := hW
  have hA : DataW.TrodAll enc Try.prog W 0 (fun _ => true) true Try.f9.params.toList args.toList ds p := hA0
  rw [Try.params9] at hA hval
  obtain ⟨v0, vs0, d0, ds0, p0, q0, hargs, rfl, rfl, h0, r0⟩ := trodAll_cons hA
  obtain ⟨v1, vs1, d1, ds1, p1, q1, rfl, rfl, rfl, h1, r1⟩ := trodAll_cons r0
  obtain ⟨v2, vs2, d2, ds2, p2, q2, rfl, rfl, rfl, h2, r2⟩ := trodAll_cons r1
  obtain ⟨rfl, rfl, rfl⟩ := trodAll_nil r2
  obtain rfl : args = #[v0, v1, v2] := by cases args; simp_all
  obtain ⟨rfl, rfl⟩ := trodVars_none hV
  have k0 := h0
  have lt0 : ∀ x ∈ p0, x.block < W.heap.size := by obtain ⟨m, hm⟩ := k0; exact DataW.trod_lt m _ _ _ hm
  obtain ⟨c0_0', c0_1', c0_2', y0_0, y0_1, y0_2, m0, rfl, _, _, h0_0, h0_1, h0_2⟩ := open_agg3 Try.underlying24 (by kernel_rfl) (by kernel_rfl) (hval 0 24 v0 rfl rfl) h0
  obtain ⟨A0_0, c0_0, l0_0, ok0_0, rfl, hc0_0, hr0_0⟩ := open_field_slice op22 h0_0
  obtain ⟨a0_1, ok0_1, rfl⟩ := open_field_scalar op9 h0_1
  obtain ⟨a0_2, ok0_2, rfl⟩ := open_field_scalar op9 h0_2
  obtain ⟨a1, rfl, rfl, rfl, w1⟩ := open_int Try.underlying3 (hval 1 3 v1 rfl rfl) h1
  obtain ⟨a2, rfl, rfl, rfl, w2⟩ := open_int Try.underlying3 (hval 2 3 v2 rfl rfl) h2
  clear hA0 hval0 hsz0
  obtain ⟨k, h⟩ := Pure.FnExactRecoverTwo l0_0 a0_1 a0_2 a1 a2 ok0_0 ok0_1 ok0_2 w1 w2
  refine (laws_FnExactRecoverTwo.calls k A0_0 c0_0 l0_0 a0_1 a0_2 a1 a2 true W hr0_0 hc0_0 h).mono ?_
  rintro e W' ⟨rfl, hd⟩
  have bel : Below W.heap.size W W' := hd
  exact ⟨_, rfl, _, _, _, [], _, [], hW', trodAll_mk1 (shut_bool Try.underlying4 _), (trodAll_cons_mk (Below.trod laidOut (by kernel_rfl) (of_decide_eq_true (by kernel_rfl)) k0 bel lt0) (trodAll_cons_mk (shut_int Try.underlying3 w1) (trodAll_cons_mk (shut_int Try.underlying3 w2) trodAll_mk0))), rfl, bel.frame _, fun h => by cases h⟩
theorem over : Rows.fnExactRecoverTwoRow.holds Try.pinned (OpenSpec.ofChange Rows.fnExactRecoverTwoSpec) :=
  OpenClaim.holds_of_wide 9 Try.f9 rfl rfl rfl rfl rfl rfl rfl ⟨rfl, rfl, rfl, rfl, rfl⟩ rfl rfl rfl rfl rfl (by kernel_rfl) Try.func9 (by kernel_rfl)
    (of_decide_eq_true (by kernel_rfl)) (by unfold Func.isWrapper; first | (rw [if_pos (by decide +kernel)]; kernel_rfl) | (rw [if_neg (by decide +kernel)]; exact ⟨rfl, rfl⟩))
    (fun os started H enc _ => lifted os started H enc)
theorem proved : Rows.FnExactRecoverTwoSaid := over
#print axioms proved
end Go.Proofs.Ytfijnlhklfmoeaa.fnExactRecoverTwo
namespace Go.Proofs.Ytfijnlhklfmoeaa
/-- The row, under a short name, for the claim. -/
theorem fnExactRecoverTwo_holds : Rows.FnExactRecoverTwoSaid := fnExactRecoverTwo.proved
end Go.Proofs.Ytfijnlhklfmoeaa
