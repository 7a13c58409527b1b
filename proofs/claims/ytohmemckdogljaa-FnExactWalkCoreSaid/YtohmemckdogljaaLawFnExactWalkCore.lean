/- The row of FnExactWalkCore: the law returns true at every input, and each argument reads as it did. No condition. -/
import Derived.Test.YtohmemckdogljaaRows
import Derived.Test.YtohmemckdogljaaFct
import Derived.Test.YtohmemckdogljaaQFnExactWalkCoreOpen
import Derived.Test.YtohmemckdogljaaPureFnExactWalkCore
import Derived.WalkKit
import Derived.ProofKit
import Derived.OpenShut
import Derived.ShutString
import Derived.ChangeOld
import Derived.Below
import Derived.SizedLaws
import Derived.Deep.Slices
import Derived.Deep.Strs
import Derived.Lib.SmallJoins
import Derived.Carry
namespace Go.Proofs.Ytohmemckdogljaa.fnExactWalkCore
open Go.Proofs.YtohmemckdogljaaW.PrintWords Go.Proofs.YtohmemckdogljaaW.PrintLast
open Go.ChangeShapes Go.WideShapes Go.ChangeAt Go.RowKit
open Go.ChangeMaps (open_string shut_string)
open Go.Proofs.Ytohmemckdogljaa.QFnExactWalkCore
set_option linter.unusedVariables false
theorem own : ownKnob Try.prog.godebug = none := by kernel_rfl
theorem laidOut : laidOutB Try.prog = true := by kernel_rfl
theorem u1 : Try.prog.inPlace 5 = [] := by kernel_rfl
theorem u2 : Try.prog.unfollowed 5 = true := by kernel_rfl
theorem u3 : Try.prog.recurses 5 = true := by kernel_rfl
theorem u4 : Try.prog.varsNamed 5 = [] := by kernel_rfl
theorem fac : joinedFacts Try.prog 5 Try.f5 Rows.fnExactWalkCoreSpec Rows.fnExactWalkCoreRow = true := by
  unfold joinedFacts
  rw [u1, u2, u3, u4, Fc.mayEnter, Fc.liftsFinal, Fc.make]
  kernel_rfl
set_option maxRecDepth 100000 in
theorem lifted (os : Os) (started : os.Started) (H : Type) (enc : TypeId × Value → H) :
    ReturnsInHanded {} Try.checked os 5 .any (Rows.fnExactWalkCoreSpec.pre6 enc Try.prog Try.f5 Rows.fnExactWalkCoreRow.domain false) (Rows.fnExactWalkCoreSpec.post enc Try.prog Try.f5 false true false false) := by
  refine returnsInHanded_of_change_sized (C := Try.checked) own started (by kernel_rfl) Try.func5
    (ChangeSpec.witness6 (enc := enc) (C := Try.checked) false ⟨#[], #[.agg #[.slice none 0 0, .slice none 0 0]], []⟩ 8 (by kernel_rfl) (by kernel_rfl) (by kernel_rfl) (by kernel_rfl)) ?_
  intro W base args ds gs before hval0 hW hcnd hsz0 _
  have hsz : (DataW.weightsEach Try.prog (Try.f5.params.toList ++ Rows.fnExactWalkCoreSpec.plain.varTypes Try.prog) (ds ++ gs)).all (· ≤ reachBytes) = true := hsz0
  have hval : ∀ (j : Nat) t v, Try.f5.params[j]? = some t → args[j]? = some v → Value.okWide Try.prog W .any base t v := hval0
  have hW' := hW
  obtain ⟨p, q, hA0, hV, rfl, hfz, hnd⟩ := hW
  have hA : DataW.TrodAll enc Try.prog W 0 (fun _ => true) true Try.f5.params.toList args.toList ds p := hA0
  rw [Try.params5] at hA hval hsz
  obtain ⟨v0, vs0, d0, ds0, p0, q0, hargs, rfl, rfl, h0, r0⟩ := trodAll_cons hA
  obtain ⟨rfl, rfl, rfl⟩ := trodAll_nil r0
  obtain rfl : args = #[v0] := by cases args; simp_all
  obtain ⟨rfl, rfl⟩ := trodVars_none hV
  have k0 := h0
  have lt0 : ∀ x ∈ p0, x.block < W.heap.size := by obtain ⟨m, hm⟩ := k0; exact DataW.trod_lt m _ _ _ hm
  obtain ⟨z0, rfl, hz0⟩ := okWide_struct Try.underlying25 (hval 0 25 v0 rfl rfl)
  obtain ⟨b0_0, b0_1, rfl⟩ := arr2 (hz0.trans (by kernel_rfl))
  obtain ⟨fuel0, hf0⟩ := h0
  obtain ⟨y0_0, y0_1, m0, hd0, _, g0_0, g0_1⟩ := trod_struct2 Try.underlying25 hf0
  rw [show Try.prog.cellsOf 22 = 1 by kernel_rfl] at g0_0
  obtain ⟨A0_0, n0_0, c0_0, e0_0⟩ := Go.Joins.slice_form Try.underlying22 g0_0
  rw [e0_0] at g0_0
  obtain ⟨l0_0, hl0_0, hc0_0, hm0_0, hw0_0, hC0_0⟩ := open_rowC z27 k27 W27 Try.underlying22 (by kernel_rfl) (fun m cs z hz => by obtain ⟨x, hx, rfl⟩ := rd27 hz; exact ⟨x, hx, k27_mk W x⟩) g0_0
  subst hl0_0
  rw [show Try.prog.cellsOf 23 = 1 by kernel_rfl] at g0_1
  obtain ⟨A0_1, n0_1, c0_1, e0_1⟩ := Go.Joins.slice_form Try.underlying23 g0_1
  rw [e0_1] at g0_1
  obtain ⟨l0_1, hl0_1, hc0_1, hm0_1, hw0_1, hC0_1⟩ := open_rowC z70 k70 W70 Try.underlying23 (by kernel_rfl) (fun m cs z hz => by obtain ⟨x, hx, rfl⟩ := rd70 hz; exact ⟨x, hx, k70_mk W x⟩) g0_1
  subst hl0_1
  simp [Value.cells] at e0_0 e0_1
  subst e0_0 e0_1
  clear hA0 hval0 hsz0 hsz
  obtain ⟨k, hk⟩ := Pure.FnExactWalkCore l0_0 l0_1 hm0_0 hw0_0 hm0_1 hw0_1
  refine (laws_FnExactWalkCore.calls k _ _ l0_0 _ _ l0_1 true ⟨rfl⟩ W hC0_0 hc0_0 hC0_1 hc0_1 hk).mono fun e W' ⟨he, bel0⟩ => ?_
  have bel : Below W.heap.size W W' := bel0
  subst he
  exact ⟨_, rfl, _, _, _, [], _, [], hW', trodAll_mk1 (shut_bool Try.underlying4 _), (trodAll_cons_mk (Below.trod laidOut (by kernel_rfl) (of_decide_eq_true (by kernel_rfl)) k0 bel lt0) trodAll_mk0), rfl, bel.frame _, fun h => by cases h⟩
theorem over : Rows.fnExactWalkCoreRow.holds Try.pinned (OpenSpec.ofChange Rows.fnExactWalkCoreSpec) :=
  OpenClaim.holds_of_wide 5 Try.f5 rfl rfl rfl rfl rfl rfl rfl ⟨rfl, rfl, rfl, rfl, rfl⟩ rfl rfl rfl rfl rfl (by kernel_rfl) Try.func5 fac
    (of_decide_eq_true (by kernel_rfl)) (by unfold Func.isWrapper; first | (rw [if_pos (by decide +kernel)]; kernel_rfl) | (rw [if_neg (by decide +kernel)]; exact ⟨rfl, rfl⟩))
    (fun os started H enc _ => lifted os started H enc)
theorem proved : Rows.FnExactWalkCoreSaid := over
#print axioms proved
end Go.Proofs.Ytohmemckdogljaa.fnExactWalkCore
namespace Go.Proofs.Ytohmemckdogljaa
/-- The row, under a short name, for the claim. -/
theorem fnExactWalkCore_holds : Rows.FnExactWalkCoreSaid := fnExactWalkCore.proved
end Go.Proofs.Ytohmemckdogljaa
