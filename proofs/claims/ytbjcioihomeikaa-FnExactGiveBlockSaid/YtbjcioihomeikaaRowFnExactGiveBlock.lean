/- The row of FnExactGiveBlock, out of its pure statement and the walk; no condition. -/
import Derived.Test.YtbjcioihomeikaaRows
import Derived.Test.YtbjcioihomeikaaQFnExactGiveBlockx13
import Derived.Test.YtbjcioihomeikaaPureFnExactGiveBlock
import Derived.Test.YtbjcioihomeikaaZFnExactGiveBlockOpen
import Derived.WalkKit
import Derived.ProofKit
import Derived.OpenShut
import Derived.ShutString
import Derived.ChangeOld
import Derived.Below
import Derived.SizedLaws
import Derived.Lib.SmallJoins
namespace Go.Proofs.Ytbjcioihomeikaa.fnExactGiveBlock
open Go.ChangeShapes Go.WideShapes Go.ChangeAt Go.RowKit Go.Joins
open Go.Proofs.Ytbjcioihomeikaa.PFnExactGiveBlock Go.Proofs.YtbjcioihomeikaaW.PrintWords Go.Proofs.Ytbjcioihomeikaa.Open
open Go.ChangeMaps (open_string shut_string)
set_option linter.unusedVariables false
set_option linter.unusedSimpArgs false
theorem own : ownKnob Try.prog.godebug = none := by kernel_rfl
theorem laidOut : laidOutB Try.prog = true := by kernel_rfl
theorem op3 : TOpen Try.prog 3 (Kd.int .i64) (fun x => (Lit.int .i64 x).wf = true) := topen_int Try.underlying3
theorem op80 : TOpen Try.prog 80 k80 okS80 := topen_mono (topen_iso (fun x : S80 => (x.f0, x.f1)) (fun y => ⟨y.1, y.2⟩) (fun _ => rfl) (topen_struct2 Try.underlying80 (by kernel_rfl) op3 op3)) (fun x h => ⟨h.1, h.2⟩)
theorem op22 : TOpen Try.prog 22 (Kd.slice 80 k80) (fun xs => (xs.length ≤ maxLen ∧ ∀ x_ ∈ xs, okS80 x_)) := topen_mono (topen_slice Try.underlying22 (by kernel_rfl : Try.prog.cellsOf 80 = 2) op80) (fun xs h => h)
set_option maxRecDepth 100000 in
theorem lifted (os : Os) (started : os.Started) (H : Type) (enc : TypeId × Value → H) :
    ReturnsInHanded {} Try.checked os 3 .any (Rows.fnExactGiveBlockSpec.pre6 enc Try.prog Try.f3 Rows.fnExactGiveBlockRow.domain false) (Rows.fnExactGiveBlockSpec.post enc Try.prog Try.f3 false true false false) := by
  refine returnsInHanded_of_change_sized (C := Try.checked) own started (by kernel_rfl) Try.func3
    (ChangeSpec.witness6 (enc := enc) (C := Try.checked) false ⟨#[], #[.agg #[.int .i64 0, .slice none 0 0, .slice none 0 0], .int .i64 0], []⟩ 8 (by kernel_rfl) (by kernel_rfl) (by kernel_rfl) (by kernel_rfl)) ?_
  intro W base args ds gs before hval0 hW hcnd hsz0 _
  have hval : ∀ (j : Nat) t v, Try.f3.params[j]? = some t → args[j]? = some v → Value.okWide Try.prog W .any base t v := hval0
  have hW' := hW
  obtain ⟨p, q, hA0, hV, rfl, hfz, hnd⟩ := hW
  have hA : DataW.TrodAll enc Try.prog W 0 (fun _ => true) true Try.f3.params.toList args.toList ds p := hA0
  rw [Try.params3] at hA hval
  obtain ⟨v0, vs0, d0, ds0, p0, q0, hargs, rfl, rfl, h0, r0⟩ := trodAll_cons hA
  obtain ⟨v1, vs1, d1, ds1, p1, q1, rfl, rfl, rfl, h1, r1⟩ := trodAll_cons r0
  obtain ⟨rfl, rfl, rfl⟩ := trodAll_nil r1
  obtain rfl : args = #[v0, v1] := by cases args; simp_all
  obtain ⟨rfl, rfl⟩ := trodVars_none hV
  have k0 := h0
  have lt0 : ∀ x ∈ p0, x.block < W.heap.size := by obtain ⟨m, hm⟩ := k0; exact DataW.trod_lt m _ _ _ hm
  obtain ⟨c0_0', c0_1', c0_2', y0_0, y0_1, y0_2, m0, rfl, _, _, h0_0, h0_1, h0_2⟩ := open_agg3 Try.underlying24 (by kernel_rfl) (by kernel_rfl) (hval 0 24 v0 rfl rfl) h0
  obtain ⟨a0_0, ok0_0, rfl⟩ := open_field_scalar op3 h0_0
  obtain ⟨A0_1, c0_1, l0_1, ok0_1, rfl, hc0_1, hr0_1⟩ := open_field_slice op22 h0_1
  obtain ⟨A0_2, c0_2, l0_2, ok0_2, rfl, hc0_2, hr0_2⟩ := open_field_slice op22 h0_2
  obtain ⟨a1, rfl, rfl, rfl, w1⟩ := open_int Try.underlying3 (hval 1 3 v1 rfl rfl) h1
  clear hA0 hval0 hsz0
  obtain ⟨k, h⟩ := Pure.FnExactGiveBlock a0_0 l0_1 l0_2 a1 ok0_0 ok0_1 ok0_2 w1
  refine (laws_FnExactGiveBlock.calls k a0_0 A0_1 c0_1 l0_1 A0_2 c0_2 l0_2 a1 true W hr0_1 hc0_1 hr0_2 hc0_2 h).mono ?_
  rintro e W' ⟨rfl, hd⟩
  have bel : Below W.heap.size W W' := hd
  exact ⟨_, rfl, _, _, _, [], _, [], hW', trodAll_mk1 (shut_bool Try.underlying4 _), (trodAll_cons_mk (Below.trod laidOut (by kernel_rfl) (of_decide_eq_true (by kernel_rfl)) k0 bel lt0) (trodAll_cons_mk (shut_int Try.underlying3 w1) trodAll_mk0)), rfl, bel.frame _, fun h => by cases h⟩
theorem over : Rows.fnExactGiveBlockRow.holds Try.pinned (OpenSpec.ofChange Rows.fnExactGiveBlockSpec) :=
  OpenClaim.holds_of_wide 3 Try.f3 rfl rfl rfl rfl rfl rfl rfl ⟨rfl, rfl, rfl, rfl, rfl⟩ rfl rfl rfl rfl rfl (by kernel_rfl) Try.func3 (by kernel_rfl)
    (of_decide_eq_true (by kernel_rfl)) (by unfold Func.isWrapper; first | (rw [if_pos (by decide +kernel)]; kernel_rfl) | (rw [if_neg (by decide +kernel)]; exact ⟨rfl, rfl⟩))
    (fun os started H enc _ => lifted os started H enc)
theorem proved : Rows.FnExactGiveBlockSaid := over
#print axioms proved
end Go.Proofs.Ytbjcioihomeikaa.fnExactGiveBlock
namespace Go.Proofs.Ytbjcioihomeikaa
/-- The row, under a short name, for the claim. -/
theorem fnExactGiveBlock_holds : Rows.FnExactGiveBlockSaid := fnExactGiveBlock.proved
end Go.Proofs.Ytbjcioihomeikaa
