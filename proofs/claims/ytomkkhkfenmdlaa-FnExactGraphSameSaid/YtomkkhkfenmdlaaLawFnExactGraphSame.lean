/- The row of FnExactGraphSame: the law returns true at every input, and each argument reads as it did. No condition. -/
import Derived.Test.YtomkkhkfenmdlaaRows
import Derived.Test.YtomkkhkfenmdlaaQFnExactGraphSameOpen
import Derived.Test.YtomkkhkfenmdlaaPureFnExactGraphSame
import Derived.WalkKit
import Derived.ProofKit
import Derived.OpenShut
import Derived.ShutString
import Derived.ChangeOld
import Derived.Below
import Derived.SizedLaws
import Derived.Deep.Slices
import Derived.Deep.Strs
import Derived.Lib.SmallJoins
import Derived.Carry
namespace Go.Proofs.Ytomkkhkfenmdlaa.fnExactGraphSame
open Go.Proofs.YtomkkhkfenmdlaaW.PrintWords Go.Proofs.YtomkkhkfenmdlaaW.PrintLast
open Go.ChangeShapes Go.WideShapes Go.ChangeAt Go.RowKit
open Go.ChangeMaps (open_string shut_string)
open Go.Proofs.Ytomkkhkfenmdlaa.QFnExactGraphSame
set_option linter.unusedVariables false
theorem own : ownKnob Try.prog.godebug = none := by kernel_rfl
theorem laidOut : laidOutB Try.prog = true := by kernel_rfl
set_option maxRecDepth 100000 in
theorem lifted (os : Os) (started : os.Started) (H : Type) (enc : TypeId × Value → H) :
    ReturnsInHanded {} Try.checked os 9 .any (Rows.fnExactGraphSameSpec.pre6 enc Try.prog Try.f9 Rows.fnExactGraphSameRow.domain false) (Rows.fnExactGraphSameSpec.post enc Try.prog Try.f9 false true false false) := by
  refine returnsInHanded_of_change_sized (C := Try.checked) own started (by kernel_rfl) Try.func9
    (ChangeSpec.witness6 (enc := enc) (C := Try.checked) false ⟨#[], #[.agg #[.slice none 0 0, .slice none 0 0], .agg #[.slice none 0 0, .slice none 0 0]], []⟩ 8 (by kernel_rfl) (by kernel_rfl) (by kernel_rfl) (by kernel_rfl)) ?_
  intro W base args ds gs before hval0 hW hcnd hsz0 _
  have hsz : (DataW.weightsEach Try.prog (Try.f9.params.toList ++ Rows.fnExactGraphSameSpec.plain.varTypes Try.prog) (ds ++ gs)).all (· ≤ reachBytes) = true := hsz0
  have hval : ∀ (j : Nat) t v, Try.f9.params[j]? = some t → args[j]? = some v → Value.okWide Try.prog W .any base t v := hval0
  have hW' := hW
  obtain ⟨p, q, hA0, hV, rfl, hfz, hnd⟩ := hW
  have hA : DataW.TrodAll enc Try.prog W 0 (fun _ => true) true Try.f9.params.toList args.toList ds p := hA0
  rw [Try.params9] at hA hval hsz
  obtain ⟨v0, vs0, d0, ds0, p0, q0, hargs, rfl, rfl, h0, r0⟩ := trodAll_cons hA
  obtain ⟨v1, vs1, d1, ds1, p1, q1, rfl, rfl, rfl, h1, r1⟩ := trodAll_cons r0
  obtain ⟨rfl, rfl, rfl⟩ := trodAll_nil r1
  obtain rfl : args = #[v0, v1] := by cases args; simp_all
  obtain ⟨rfl, rfl⟩ := trodVars_none hV
  have k0 := h0
  have lt0 : ∀ x ∈ p0, x.block < W.heap.size := by obtain ⟨m, hm⟩ := k0; exact DataW.trod_lt m _ _ _ hm
  obtain ⟨z0, rfl, hz0⟩ := okWide_struct Try.underlying67 (hval 0 67 v0 rfl rfl)
  obtain ⟨b0_0, b0_1, rfl⟩ := arr2 (hz0.trans (by kernel_rfl))
  obtain ⟨fuel0, hf0⟩ := h0
  obtain ⟨y0_0, y0_1, m0, hd0, _, g0_0, g0_1⟩ := trod_struct2 Try.underlying67 hf0
  rw [show Try.prog.cellsOf 64 = 1 by kernel_rfl] at g0_0
  obtain ⟨A0_0, n0_0, c0_0, e0_0⟩ := Go.Joins.slice_form Try.underlying64 g0_0
  rw [e0_0] at g0_0
  obtain ⟨l0_0, hl0_0, hc0_0, hm0_0, hw0_0, hC0_0⟩ := open_rowC z29 k29 W29 Try.underlying64 (by kernel_rfl) (fun m cs z hz => by obtain ⟨x, hx, rfl⟩ := rd29 hz; exact ⟨x, hx, k29_mk W x⟩) g0_0
  subst hl0_0
  rw [show Try.prog.cellsOf 65 = 1 by kernel_rfl] at g0_1
  obtain ⟨A0_1, n0_1, c0_1, e0_1⟩ := Go.Joins.slice_form Try.underlying65 g0_1
  rw [e0_1] at g0_1
  obtain ⟨l0_1, hl0_1, hc0_1, hm0_1, hw0_1, hC0_1⟩ := open_rowC z31 k31 W31 Try.underlying65 (by kernel_rfl) (fun m cs z hz => by obtain ⟨x, hx, rfl⟩ := rd31 hz; exact ⟨x, hx, k31_mk W x⟩) g0_1
  subst hl0_1
  simp [Value.cells] at e0_0 e0_1
  subst e0_0 e0_1
  have k1 := h1
  have lt1 : ∀ x ∈ p1, x.block < W.heap.size := by obtain ⟨m, hm⟩ := k1; exact DataW.trod_lt m _ _ _ hm
  obtain ⟨z1, rfl, hz1⟩ := okWide_struct Try.underlying67 (hval 1 67 v1 rfl rfl)
  obtain ⟨b1_0, b1_1, rfl⟩ := arr2 (hz1.trans (by kernel_rfl))
  obtain ⟨fuel1, hf1⟩ := h1
  obtain ⟨y1_0, y1_1, m1, hd1, _, g1_0, g1_1⟩ := trod_struct2 Try.underlying67 hf1
  rw [show Try.prog.cellsOf 64 = 1 by kernel_rfl] at g1_0
  obtain ⟨A1_0, n1_0, c1_0, e1_0⟩ := Go.Joins.slice_form Try.underlying64 g1_0
  rw [e1_0] at g1_0
  obtain ⟨l1_0, hl1_0, hc1_0, hm1_0, hw1_0, hC1_0⟩ := open_rowC z29 k29 W29 Try.underlying64 (by kernel_rfl) (fun m cs z hz => by obtain ⟨x, hx, rfl⟩ := rd29 hz; exact ⟨x, hx, k29_mk W x⟩) g1_0
  subst hl1_0
  rw [show Try.prog.cellsOf 65 = 1 by kernel_rfl] at g1_1
  obtain ⟨A1_1, n1_1, c1_1, e1_1⟩ := Go.Joins.slice_form Try.underlying65 g1_1
  rw [e1_1] at g1_1
  obtain ⟨l1_1, hl1_1, hc1_1, hm1_1, hw1_1, hC1_1⟩ := open_rowC z31 k31 W31 Try.underlying65 (by kernel_rfl) (fun m cs z hz => by obtain ⟨x, hx, rfl⟩ := rd31 hz; exact ⟨x, hx, k31_mk W x⟩) g1_1
  subst hl1_1
  simp [Value.cells] at e1_0 e1_1
  subst e1_0 e1_1
  clear hA0 hval0 hsz0 hsz
  obtain ⟨k, hk⟩ := Pure.FnExactGraphSame l0_0 l0_1 l1_0 l1_1 hm0_0 hw0_0 hm0_1 hw0_1 hm1_0 hw1_0 hm1_1 hw1_1
  refine (laws_FnExactGraphSame.calls k _ _ l0_0 _ _ l0_1 _ _ l1_0 _ _ l1_1 true ⟨rfl⟩ W hC0_0 hc0_0 hC0_1 hc0_1 hC1_0 hc1_0 hC1_1 hc1_1 hk).mono fun e W' ⟨he, bel0⟩ => ?_
  have bel : Below W.heap.size W W' := bel0
  subst he
  exact ⟨_, rfl, _, _, _, [], _, [], hW', trodAll_mk1 (shut_bool Try.underlying4 _), (trodAll_cons_mk (Below.trod laidOut (by kernel_rfl) (of_decide_eq_true (by kernel_rfl)) k0 bel lt0) (trodAll_cons_mk (Below.trod laidOut (by kernel_rfl) (of_decide_eq_true (by kernel_rfl)) k1 bel lt1) trodAll_mk0)), rfl, bel.frame _, fun h => by cases h⟩
theorem over : Rows.fnExactGraphSameRow.holds Try.pinned (OpenSpec.ofChange Rows.fnExactGraphSameSpec) :=
  OpenClaim.holds_of_wide 9 Try.f9 rfl rfl rfl rfl rfl rfl rfl ⟨rfl, rfl, rfl, rfl, rfl⟩ rfl rfl rfl rfl rfl (by kernel_rfl) Try.func9 (by kernel_rfl)
    (of_decide_eq_true (by kernel_rfl)) (by unfold Func.isWrapper; first | (rw [if_pos (by decide +kernel)]; kernel_rfl) | (rw [if_neg (by decide +kernel)]; exact ⟨rfl, rfl⟩))
    (fun os started H enc _ => lifted os started H enc)
theorem proved : Rows.FnExactGraphSameSaid := over
#print axioms proved
end Go.Proofs.Ytomkkhkfenmdlaa.fnExactGraphSame
namespace Go.Proofs.Ytomkkhkfenmdlaa
/-- The row, under a short name, for the claim. -/
theorem fnExactGraphSame_holds : Rows.FnExactGraphSameSaid := fnExactGraphSame.proved
end Go.Proofs.Ytomkkhkfenmdlaa
