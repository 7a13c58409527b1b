/- The row of FnExactOpLabel: the law returns true at every input, and each argument reads as it did. No condition. -/
import Derived.Test.YtomkkhkfenmdlaaRows
import Derived.Test.YtomkkhkfenmdlaaPFnExactOpLabelOpen
import Derived.Test.YtomkkhkfenmdlaaPureFnExactOpLabel
import Derived.WalkKit
import Derived.ProofKit
import Derived.OpenShut
import Derived.ShutString
import Derived.ChangeOld
import Derived.Below
import Derived.SizedLaws
import Derived.Deep.Slices
import Derived.Deep.Strs
import Derived.Lib.SmallJoins
import Derived.Carry
namespace Go.Proofs.Ytomkkhkfenmdlaa.fnExactOpLabel
open Go.Proofs.YtomkkhkfenmdlaaW.PrintWords Go.Proofs.YtomkkhkfenmdlaaW.PrintLast
open Go.ChangeShapes Go.WideShapes Go.ChangeAt Go.RowKit
open Go.ChangeMaps (open_string shut_string)
open Go.Proofs.Ytomkkhkfenmdlaa.PFnExactOpLabel
set_option linter.unusedVariables false
theorem own : ownKnob Try.prog.godebug = none := by kernel_rfl
theorem laidOut : laidOutB Try.prog = true := by kernel_rfl
set_option maxRecDepth 100000 in
theorem lifted (os : Os) (started : os.Started) (H : Type) (enc : TypeId × Value → H) :
    ReturnsInHanded {} Try.checked os 4 .any (Rows.fnExactOpLabelSpec.pre6 enc Try.prog Try.f4 Rows.fnExactOpLabelRow.domain false) (Rows.fnExactOpLabelSpec.post enc Try.prog Try.f4 false true false false) := by
  refine returnsInHanded_of_change_sized (C := Try.checked) own started (by kernel_rfl) Try.func4
    (ChangeSpec.witness6 (enc := enc) (C := Try.checked) false ⟨#[], #[.agg #[.int .i64 0, .int .i64 0, .int .i64 0, .int .i64 0, .int .i64 0, .int .i64 0, .int .i64 0, .int .i64 0]], []⟩ 8 (by kernel_rfl) (by kernel_rfl) (by kernel_rfl) (by kernel_rfl)) ?_
  intro W base args ds gs before hval0 hW hcnd hsz0 _
  have hsz : (DataW.weightsEach Try.prog (Try.f4.params.toList ++ Rows.fnExactOpLabelSpec.plain.varTypes Try.prog) (ds ++ gs)).all (· ≤ reachBytes) = true := hsz0
  have hval : ∀ (j : Nat) t v, Try.f4.params[j]? = some t → args[j]? = some v → Value.okWide Try.prog W .any base t v := hval0
  have hW' := hW
  obtain ⟨p, q, hA0, hV, rfl, hfz, hnd⟩ := hW
  have hA : DataW.TrodAll enc Try.prog W 0 (fun _ => true) true Try.f4.params.toList args.toList ds p := hA0
  rw [Try.params4] at hA hval hsz
  obtain ⟨v0, vs0, d0, ds0, p0, q0, hargs, rfl, rfl, h0, r0⟩ := trodAll_cons hA
  obtain ⟨rfl, rfl, rfl⟩ := trodAll_nil r0
  obtain rfl : args = #[v0] := by cases args; simp_all
  obtain ⟨rfl, rfl⟩ := trodVars_none hV
  have k0 := h0
  have lt0 : ∀ x ∈ p0, x.block < W.heap.size := by obtain ⟨m, hm⟩ := k0; exact DataW.trod_lt m _ _ _ hm
  obtain ⟨z0, rfl, hz0⟩ := okWide_struct Try.underlying33 (hval 0 33 v0 rfl rfl)
  obtain ⟨b0_0, b0_1, b0_2, b0_3, b0_4, b0_5, b0_6, b0_7, rfl⟩ := arr8 (hz0.trans (by kernel_rfl))
  obtain ⟨fuel0, hf0⟩ := h0
  obtain ⟨y0_0, y0_1, y0_2, m0, hd0, _, g0_0, g0_1, g0_2⟩ := Go.Deep.trod_struct3 Try.underlying33 hf0
  rw [show Try.prog.cellsOf 3 = 1 by kernel_rfl] at g0_0
  obtain ⟨a0_0, e0_0, _, w0_0⟩ := DataW.trod_int Try.underlying3 g0_0
  rw [show Try.prog.cellsOf 29 = 2 by kernel_rfl] at g0_1
  obtain ⟨y0_1_0, y0_1_1, m0_1, hd0_1, _, g0_1_0, g0_1_1⟩ := trod_struct2 Try.underlying29 g0_1
  rw [show Try.prog.cellsOf 3 = 1 by kernel_rfl] at g0_1_0
  obtain ⟨a0_1_0, e0_1_0, _, w0_1_0⟩ := DataW.trod_int Try.underlying3 g0_1_0
  rw [show Try.prog.cellsOf 3 = 1 by kernel_rfl] at g0_1_1
  obtain ⟨a0_1_1, e0_1_1, _, w0_1_1⟩ := DataW.trod_int Try.underlying3 g0_1_1
  rw [show Try.prog.cellsOf 31 = 5 by kernel_rfl] at g0_2
  obtain ⟨y0_2_0, y0_2_1, y0_2_2, m0_2, hd0_2, _, g0_2_0, g0_2_1, g0_2_2⟩ := Go.Deep.trod_struct3 Try.underlying31 g0_2
  rw [show Try.prog.cellsOf 3 = 1 by kernel_rfl] at g0_2_0
  obtain ⟨a0_2_0, e0_2_0, _, w0_2_0⟩ := DataW.trod_int Try.underlying3 g0_2_0
  rw [show Try.prog.cellsOf 29 = 2 by kernel_rfl] at g0_2_1
  obtain ⟨y0_2_1_0, y0_2_1_1, m0_2_1, hd0_2_1, _, g0_2_1_0, g0_2_1_1⟩ := trod_struct2 Try.underlying29 g0_2_1
  rw [show Try.prog.cellsOf 3 = 1 by kernel_rfl] at g0_2_1_0
  obtain ⟨a0_2_1_0, e0_2_1_0, _, w0_2_1_0⟩ := DataW.trod_int Try.underlying3 g0_2_1_0
  rw [show Try.prog.cellsOf 3 = 1 by kernel_rfl] at g0_2_1_1
  obtain ⟨a0_2_1_1, e0_2_1_1, _, w0_2_1_1⟩ := DataW.trod_int Try.underlying3 g0_2_1_1
  rw [show Try.prog.cellsOf 29 = 2 by kernel_rfl] at g0_2_2
  obtain ⟨y0_2_2_0, y0_2_2_1, m0_2_2, hd0_2_2, _, g0_2_2_0, g0_2_2_1⟩ := trod_struct2 Try.underlying29 g0_2_2
  rw [show Try.prog.cellsOf 3 = 1 by kernel_rfl] at g0_2_2_0
  obtain ⟨a0_2_2_0, e0_2_2_0, _, w0_2_2_0⟩ := DataW.trod_int Try.underlying3 g0_2_2_0
  rw [show Try.prog.cellsOf 3 = 1 by kernel_rfl] at g0_2_2_1
  obtain ⟨a0_2_2_1, e0_2_2_1, _, w0_2_2_1⟩ := DataW.trod_int Try.underlying3 g0_2_2_1
  simp [Value.cells] at e0_0 e0_1_0 e0_1_1 e0_2_0 e0_2_1_0 e0_2_1_1 e0_2_2_0 e0_2_2_1
  subst e0_0 e0_1_0 e0_1_1 e0_2_0 e0_2_1_0 e0_2_1_1 e0_2_2_0 e0_2_2_1
  clear hA0 hval0 hsz0 hsz
  obtain ⟨k, hk⟩ := Pure.FnExactOpLabel a0_0 a0_1_0 a0_1_1 a0_2_0 a0_2_1_0 a0_2_1_1 a0_2_2_0 a0_2_2_1 w0_0 w0_1_0 w0_1_1 w0_2_0 w0_2_1_0 w0_2_1_1 w0_2_2_0 w0_2_2_1
  refine (laws_FnExactOpLabel.calls k a0_0 a0_1_0 a0_1_1 a0_2_0 a0_2_1_0 a0_2_1_1 a0_2_2_0 a0_2_2_1 true W  hk).mono fun e W' ⟨he, bel0⟩ => ?_
  have bel : Below W.heap.size W W' := bel0
  subst he
  exact ⟨_, rfl, _, _, _, [], _, [], hW', trodAll_mk1 (shut_bool Try.underlying4 _), (trodAll_cons_mk (Below.trod laidOut (by kernel_rfl) (of_decide_eq_true (by kernel_rfl)) k0 bel lt0) trodAll_mk0), rfl, bel.frame _, fun h => by cases h⟩
theorem over : Rows.fnExactOpLabelRow.holds Try.pinned (OpenSpec.ofChange Rows.fnExactOpLabelSpec) :=
  OpenClaim.holds_of_wide 4 Try.f4 rfl rfl rfl rfl rfl rfl rfl ⟨rfl, rfl, rfl, rfl, rfl⟩ rfl rfl rfl rfl rfl (by kernel_rfl) Try.func4 (by kernel_rfl)
    (of_decide_eq_true (by kernel_rfl)) (by unfold Func.isWrapper; first | (rw [if_pos (by decide +kernel)]; kernel_rfl) | (rw [if_neg (by decide +kernel)]; exact ⟨rfl, rfl⟩))
    (fun os started H enc _ => lifted os started H enc)
theorem proved : Rows.FnExactOpLabelSaid := over
#print axioms proved
end Go.Proofs.Ytomkkhkfenmdlaa.fnExactOpLabel
namespace Go.Proofs.Ytomkkhkfenmdlaa
/-- The row, under a short name, for the claim. -/
theorem fnExactOpLabel_holds : Rows.FnExactOpLabelSaid := fnExactOpLabel.proved
end Go.Proofs.Ytomkkhkfenmdlaa
