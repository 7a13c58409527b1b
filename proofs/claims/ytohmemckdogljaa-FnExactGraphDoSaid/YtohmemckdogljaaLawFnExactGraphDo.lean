/- The row of FnExactGraphDo: the law returns true at every input, and each argument reads as it did. No condition. -/
import Derived.Test.YtohmemckdogljaaRows
import Derived.Test.YtohmemckdogljaaFct
import Derived.Test.YtohmemckdogljaaQFnExactGraphDoOpen
import Derived.Test.YtohmemckdogljaaPureFnExactGraphDo
import Derived.WalkKit
import Derived.ProofKit
import Derived.OpenShut
import Derived.ShutString
import Derived.ChangeOld
import Derived.Below
import Derived.SizedLaws
import Derived.Deep.Slices
import Derived.Deep.Strs
import Derived.Lib.SmallJoins
import Derived.Carry
namespace Go.Proofs.Ytohmemckdogljaa.fnExactGraphDo
open Go.Proofs.YtohmemckdogljaaW.PrintWords Go.Proofs.YtohmemckdogljaaW.PrintLast
open Go.ChangeShapes Go.WideShapes Go.ChangeAt Go.RowKit
open Go.ChangeMaps (open_string shut_string)
open Go.Proofs.Ytohmemckdogljaa.QFnExactGraphDo
set_option linter.unusedVariables false
theorem own : ownKnob Try.prog.godebug = none := by kernel_rfl
theorem laidOut : laidOutB Try.prog = true := by kernel_rfl
theorem u1 : Try.prog.inPlace 12 = ["slices.overlaps[loop.example/hagioscope/impl.Node]", "slices.overlaps[loop.example/hagioscope/impl.Edge]"] := by kernel_rfl
theorem u2 : Try.prog.unfollowed 12 = true := by kernel_rfl
theorem u3 : Try.prog.recurses 12 = true := by kernel_rfl
theorem u4 : Try.prog.varsNamed 12 = [] := by kernel_rfl
theorem fac : joinedFacts Try.prog 12 Try.f12 Rows.fnExactGraphDoSpec Rows.fnExactGraphDoRow = true := by
  unfold joinedFacts
  rw [u1, u2, u3, u4, Fc.mayEnter, Fc.liftsFinal, Fc.make]
  kernel_rfl
set_option maxRecDepth 100000 in
theorem lifted (os : Os) (started : os.Started) (H : Type) (enc : TypeId × Value → H) :
    ReturnsInHanded {} Try.checked os 12 .any (Rows.fnExactGraphDoSpec.pre6 enc Try.prog Try.f12 Rows.fnExactGraphDoRow.domain false) (Rows.fnExactGraphDoSpec.post enc Try.prog Try.f12 false true false false) := by
  refine returnsInHanded_of_change_sized (C := Try.checked) own started (by kernel_rfl) Try.func12
    (ChangeSpec.witness6 (enc := enc) (C := Try.checked) false ⟨#[], #[.agg #[.slice none 0 0, .slice none 0 0], .agg #[.int .i64 0, .int .i64 0, .int .i64 0, .int .i64 0, .int .i64 0, .int .i64 0, .int .i64 0, .int .i64 0]], []⟩ 8 (by kernel_rfl) (by kernel_rfl) (by kernel_rfl) (by kernel_rfl)) ?_
  intro W base args ds gs before hval0 hW hcnd hsz0 _
  have hsz : (DataW.weightsEach Try.prog (Try.f12.params.toList ++ Rows.fnExactGraphDoSpec.plain.varTypes Try.prog) (ds ++ gs)).all (· ≤ reachBytes) = true := hsz0
  have hval : ∀ (j : Nat) t v, Try.f12.params[j]? = some t → args[j]? = some v → Value.okWide Try.prog W .any base t v := hval0
  have hW' := hW
  obtain ⟨p, q, hA0, hV, rfl, hfz, hnd⟩ := hW
  have hA : DataW.TrodAll enc Try.prog W 0 (fun _ => true) true Try.f12.params.toList args.toList ds p := hA0
  rw [Try.params12] at hA hval hsz
  obtain ⟨v0, vs0, d0, ds0, p0, q0, hargs, rfl, rfl, h0, r0⟩ := trodAll_cons hA
  obtain ⟨v1, vs1, d1, ds1, p1, q1, rfl, rfl, rfl, h1, r1⟩ := trodAll_cons r0
  obtain ⟨rfl, rfl, rfl⟩ := trodAll_nil r1
  obtain rfl : args = #[v0, v1] := by cases args; simp_all
  obtain ⟨rfl, rfl⟩ := trodVars_none hV
  have k0 := h0
  have lt0 : ∀ x ∈ p0, x.block < W.heap.size := by obtain ⟨m, hm⟩ := k0; exact DataW.trod_lt m _ _ _ hm
  obtain ⟨z0, rfl, hz0⟩ := okWide_struct Try.underlying25 (hval 0 25 v0 rfl rfl)
  obtain ⟨b0_0, b0_1, rfl⟩ := arr2 (hz0.trans (by kernel_rfl))
  obtain ⟨fuel0, hf0⟩ := h0
  obtain ⟨y0_0, y0_1, m0, hd0, _, g0_0, g0_1⟩ := trod_struct2 Try.underlying25 hf0
  rw [show Try.prog.cellsOf 22 = 1 by kernel_rfl] at g0_0
  obtain ⟨A0_0, n0_0, c0_0, e0_0⟩ := Go.Joins.slice_form Try.underlying22 g0_0
  rw [e0_0] at g0_0
  obtain ⟨l0_0, hl0_0, hc0_0, hm0_0, hw0_0, hC0_0⟩ := open_rowC z27 k27 W27 Try.underlying22 (by kernel_rfl) (fun m cs z hz => by obtain ⟨x, hx, rfl⟩ := rd27 hz; exact ⟨x, hx, k27_mk W x⟩) g0_0
  subst hl0_0
  rw [show Try.prog.cellsOf 23 = 1 by kernel_rfl] at g0_1
  obtain ⟨A0_1, n0_1, c0_1, e0_1⟩ := Go.Joins.slice_form Try.underlying23 g0_1
  rw [e0_1] at g0_1
  obtain ⟨l0_1, hl0_1, hc0_1, hm0_1, hw0_1, hC0_1⟩ := open_rowC z70 k70 W70 Try.underlying23 (by kernel_rfl) (fun m cs z hz => by obtain ⟨x, hx, rfl⟩ := rd70 hz; exact ⟨x, hx, k70_mk W x⟩) g0_1
  subst hl0_1
  simp [Value.cells] at e0_0 e0_1
  subst e0_0 e0_1
  have k1 := h1
  have lt1 : ∀ x ∈ p1, x.block < W.heap.size := by obtain ⟨m, hm⟩ := k1; exact DataW.trod_lt m _ _ _ hm
  obtain ⟨z1, rfl, hz1⟩ := okWide_struct Try.underlying72 (hval 1 72 v1 rfl rfl)
  obtain ⟨b1_0, b1_1, b1_2, b1_3, b1_4, b1_5, b1_6, b1_7, rfl⟩ := arr8 (hz1.trans (by kernel_rfl))
  obtain ⟨fuel1, hf1⟩ := h1
  obtain ⟨y1_0, y1_1, y1_2, m1, hd1, _, g1_0, g1_1, g1_2⟩ := Go.Deep.trod_struct3 Try.underlying72 hf1
  rw [show Try.prog.cellsOf 3 = 1 by kernel_rfl] at g1_0
  obtain ⟨a1_0, e1_0, _, w1_0⟩ := DataW.trod_int Try.underlying3 g1_0
  rw [show Try.prog.cellsOf 27 = 2 by kernel_rfl] at g1_1
  obtain ⟨y1_1_0, y1_1_1, m1_1, hd1_1, _, g1_1_0, g1_1_1⟩ := trod_struct2 Try.underlying27 g1_1
  rw [show Try.prog.cellsOf 3 = 1 by kernel_rfl] at g1_1_0
  obtain ⟨a1_1_0, e1_1_0, _, w1_1_0⟩ := DataW.trod_int Try.underlying3 g1_1_0
  rw [show Try.prog.cellsOf 3 = 1 by kernel_rfl] at g1_1_1
  obtain ⟨a1_1_1, e1_1_1, _, w1_1_1⟩ := DataW.trod_int Try.underlying3 g1_1_1
  rw [show Try.prog.cellsOf 70 = 5 by kernel_rfl] at g1_2
  obtain ⟨y1_2_0, y1_2_1, y1_2_2, m1_2, hd1_2, _, g1_2_0, g1_2_1, g1_2_2⟩ := Go.Deep.trod_struct3 Try.underlying70 g1_2
  rw [show Try.prog.cellsOf 3 = 1 by kernel_rfl] at g1_2_0
  obtain ⟨a1_2_0, e1_2_0, _, w1_2_0⟩ := DataW.trod_int Try.underlying3 g1_2_0
  rw [show Try.prog.cellsOf 27 = 2 by kernel_rfl] at g1_2_1
  obtain ⟨y1_2_1_0, y1_2_1_1, m1_2_1, hd1_2_1, _, g1_2_1_0, g1_2_1_1⟩ := trod_struct2 Try.underlying27 g1_2_1
  rw [show Try.prog.cellsOf 3 = 1 by kernel_rfl] at g1_2_1_0
  obtain ⟨a1_2_1_0, e1_2_1_0, _, w1_2_1_0⟩ := DataW.trod_int Try.underlying3 g1_2_1_0
  rw [show Try.prog.cellsOf 3 = 1 by kernel_rfl] at g1_2_1_1
  obtain ⟨a1_2_1_1, e1_2_1_1, _, w1_2_1_1⟩ := DataW.trod_int Try.underlying3 g1_2_1_1
  rw [show Try.prog.cellsOf 27 = 2 by kernel_rfl] at g1_2_2
  obtain ⟨y1_2_2_0, y1_2_2_1, m1_2_2, hd1_2_2, _, g1_2_2_0, g1_2_2_1⟩ := trod_struct2 Try.underlying27 g1_2_2
  rw [show Try.prog.cellsOf 3 = 1 by kernel_rfl] at g1_2_2_0
  obtain ⟨a1_2_2_0, e1_2_2_0, _, w1_2_2_0⟩ := DataW.trod_int Try.underlying3 g1_2_2_0
  rw [show Try.prog.cellsOf 3 = 1 by kernel_rfl] at g1_2_2_1
  obtain ⟨a1_2_2_1, e1_2_2_1, _, w1_2_2_1⟩ := DataW.trod_int Try.underlying3 g1_2_2_1
  simp [Value.cells] at e1_0 e1_1_0 e1_1_1 e1_2_0 e1_2_1_0 e1_2_1_1 e1_2_2_0 e1_2_2_1
  subst e1_0 e1_1_0 e1_1_1 e1_2_0 e1_2_1_0 e1_2_1_1 e1_2_2_0 e1_2_2_1
  clear hA0 hval0 hsz0 hsz
  obtain ⟨k, hk⟩ := Pure.FnExactGraphDo l0_0 l0_1 a1_0 a1_1_0 a1_1_1 a1_2_0 a1_2_1_0 a1_2_1_1 a1_2_2_0 a1_2_2_1 hm0_0 hw0_0 hm0_1 hw0_1 w1_0 w1_1_0 w1_1_1 w1_2_0 w1_2_1_0 w1_2_1_1 w1_2_2_0 w1_2_2_1
  refine (laws_FnExactGraphDo.calls k _ _ l0_0 _ _ l0_1 a1_0 a1_1_0 a1_1_1 a1_2_0 a1_2_1_0 a1_2_1_1 a1_2_2_0 a1_2_2_1 true ⟨rfl⟩ W hC0_0 hc0_0 hC0_1 hc0_1 hk).mono fun e W' ⟨he, bel0⟩ => ?_
  have bel : Below W.heap.size W W' := bel0
  subst he
  exact ⟨_, rfl, _, _, _, [], _, [], hW', trodAll_mk1 (shut_bool Try.underlying4 _), (trodAll_cons_mk (Below.trod laidOut (by kernel_rfl) (of_decide_eq_true (by kernel_rfl)) k0 bel lt0) (trodAll_cons_mk (Below.trod laidOut (by kernel_rfl) (of_decide_eq_true (by kernel_rfl)) k1 bel lt1) trodAll_mk0)), rfl, bel.frame _, fun h => by cases h⟩
theorem over : Rows.fnExactGraphDoRow.holds Try.pinned (OpenSpec.ofChange Rows.fnExactGraphDoSpec) :=
  OpenClaim.holds_of_wide 12 Try.f12 rfl rfl rfl rfl rfl rfl rfl ⟨rfl, rfl, rfl, rfl, rfl⟩ rfl rfl rfl rfl rfl (by kernel_rfl) Try.func12 fac
    (of_decide_eq_true (by kernel_rfl)) (by unfold Func.isWrapper; first | (rw [if_pos (by decide +kernel)]; kernel_rfl) | (rw [if_neg (by decide +kernel)]; exact ⟨rfl, rfl⟩))
    (fun os started H enc _ => lifted os started H enc)
theorem proved : Rows.FnExactGraphDoSaid := over
#print axioms proved
end Go.Proofs.Ytohmemckdogljaa.fnExactGraphDo
namespace Go.Proofs.Ytohmemckdogljaa
/-- The row, under a short name, for the claim. -/
theorem fnExactGraphDo_holds : Rows.FnExactGraphDoSaid := fnExactGraphDo.proved
end Go.Proofs.Ytohmemckdogljaa
