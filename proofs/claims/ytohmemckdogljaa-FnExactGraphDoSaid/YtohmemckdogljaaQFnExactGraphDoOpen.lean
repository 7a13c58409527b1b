/- What the row of FnExactGraphDo opens: the law's statement over plain data (Pure), and how each parameter's reading gives that data. -/
import Derived.Test.YtohmemckdogljaaQFnExactGraphDox20
import Derived.ProofKit
import Derived.WalkKit
import Derived.Deep.Slices
import Derived.Deep.Strs
import Derived.Lib.SmallJoins
import Derived.ChangeSame
import Derived.Below
namespace Go.Proofs.Ytohmemckdogljaa.QFnExactGraphDo
open Go.RowKit Go.ChangeShapes Go.WideShapes Go.Proofs.YtohmemckdogljaaW.PrintWords Go.Proofs.YtohmemckdogljaaW.PrintLast
set_option linter.unusedVariables false
theorem lst2 {α : Type} {l : List α} (h : l.length = 2) : ∃ c0 c1, l = [c0, c1] := by
  match l, h with
  | [c0, c1], _ => exact ⟨c0, c1, rfl⟩
theorem arr2 {α : Type} {a : Array α} (h : a.size = 2) : ∃ c0 c1, a = #[c0, c1] := by
  obtain ⟨l⟩ := a
  obtain ⟨c0, c1, rfl⟩ := lst2 (l := l) (by simpa using h)
  exact ⟨c0, c1, rfl⟩
theorem lst5 {α : Type} {l : List α} (h : l.length = 5) : ∃ c0 c1 c2 c3 c4, l = [c0, c1, c2, c3, c4] := by
  match l, h with
  | [c0, c1, c2, c3, c4], _ => exact ⟨c0, c1, c2, c3, c4, rfl⟩
theorem arr5 {α : Type} {a : Array α} (h : a.size = 5) : ∃ c0 c1 c2 c3 c4, a = #[c0, c1, c2, c3, c4] := by
  obtain ⟨l⟩ := a
  obtain ⟨c0, c1, c2, c3, c4, rfl⟩ := lst5 (l := l) (by simpa using h)
  exact ⟨c0, c1, c2, c3, c4, rfl⟩
theorem lst8 {α : Type} {l : List α} (h : l.length = 8) : ∃ c0 c1 c2 c3 c4 c5 c6 c7, l = [c0, c1, c2, c3, c4, c5, c6, c7] := by
  match l, h with
  | [c0, c1, c2, c3, c4, c5, c6, c7], _ => exact ⟨c0, c1, c2, c3, c4, c5, c6, c7, rfl⟩
theorem arr8 {α : Type} {a : Array α} (h : a.size = 8) : ∃ c0 c1 c2 c3 c4 c5 c6 c7, a = #[c0, c1, c2, c3, c4, c5, c6, c7] := by
  obtain ⟨l⟩ := a
  obtain ⟨c0, c1, c2, c3, c4, c5, c6, c7, rfl⟩ := lst8 (l := l) (by simpa using h)
  exact ⟨c0, c1, c2, c3, c4, c5, c6, c7, rfl⟩
/-- A slice whose elements are told by 'd': out of its reading. -/
theorem open_rowC {H : Type} {enc : TypeId × Value → H} {P : Program} {w : World} {base : Nat} {spare : Nat → Bool} {held : Bool} {α : Type} (z0 : α) (d : Kd α) (Wf : α → Prop) {t e : TypeId} {fuel : Nat} {a : Option Addr} {n c : Nat} {y : DataW H × List MemPlace}
    (ht : P.underlying t = some (.slice e)) (hc : P.cellsOf e = d.sz) (hel : ∀ (m : Nat) (cs : List Value) (z : DataW H × List MemPlace), DataW.trod enc P w base spare held m e cs = some z → ∃ x : α, Wf x ∧ d.K w x cs)
    (h : DataW.trod enc P w base spare held fuel t [.slice a n c] = some y) : ∃ l : List α, l.length = n ∧ n ≤ c ∧ n ≤ maxLen ∧ (∀ x ∈ l, Wf x) ∧ Kd.C d w a n l := by
  haveI : Inhabited α := ⟨z0⟩
  rcases Go.Deep.open_slice ht h with ⟨hcs, _⟩ | ⟨a', len, cap, m, q, D, Pl, hcs, _, hle, hm, hmm, _, hi⟩
  · simp at hcs
    obtain ⟨rfl, rfl, rfl⟩ := hcs
    exact ⟨[], rfl, Nat.le_refl _, Nat.zero_le _, (fun x hx => by cases hx), rfl, by omega, fun h0 => by omega⟩
  · simp at hcs
    obtain ⟨rfl, rfl, rfl⟩ := hcs
    have hlm : n ≤ m := by rw [hmm]; split <;> omega
    obtain ⟨f, hf⟩ := Go.Deep.choose_lt (n := n) (p := fun i x => Wf x ∧ ∃ cs', w.cells? base (a'.add (i * P.cellsOf e)) (P.cellsOf e) = some cs' ∧ d.K w x cs') fun i hin => by
      obtain ⟨cs', h1, h2⟩ := hi i (by omega)
      obtain ⟨x, hx, hk⟩ := hel _ _ _ h2
      exact ⟨x, hx, cs', h1, hk⟩
    refine ⟨(List.range n).map f, by simp, hle, by omega, fun x hx => ?_, by simp, by unfold maxLen at hm; omega, fun _ => ⟨a', rfl, fun j p hj => ?_⟩⟩
    · obtain ⟨i, hi1, rfl⟩ := List.mem_map.1 hx
      exact (hf i (List.mem_range.1 hi1)).1
    · have hjn : j < n := by
        have := (List.getElem?_eq_some_iff.1 hj).1
        simpa using this
      have hp : p = f j := by simpa [List.getElem?_map, List.getElem?_range hjn] using hj.symm
      subst hp
      obtain ⟨_, cs', h1, hk⟩ := hf j hjn
      obtain ⟨_, hl, hcell⟩ := World.cells?_some h1
      refine ⟨cs', by rw [hl, hc], hk, fun i u hu => ?_⟩
      have hlt : i < cs'.length := (List.getElem?_eq_some_iff.1 hu).1
      rw [← Go.Deep.add_add, ← hc, hcell i (by omega)]
      exact hu
section
variable {H : Type} {enc : TypeId × Value → H} {w : World} {base : Nat} {spare : Nat → Bool} {held : Bool}
/-- An element's numbers are of their kinds, its texts fit. -/
def W27 (x : S27) : Prop := (Lit.int .i64 x.f0).wf = true ∧ (Lit.int .i64 x.f1).wf = true
theorem rd27 {n : Nat} {cs : List Value} {y : DataW H × List MemPlace} (h : DataW.trod enc Try.prog w base spare held n 27 cs = some y) : ∃ x : S27, W27 x ∧ cs = [.int .i64 x.f0, .int .i64 x.f1] := by
  obtain ⟨y0, y1, m, _, hl, h0, h1⟩ := trod_struct2 Try.underlying27 h
  rw [show Try.prog.cellsOf 3 = 1 by kernel_rfl] at h0
  obtain ⟨a0, e0, _, w0⟩ := DataW.trod_int Try.underlying3 h0
  rw [show Try.prog.cellsOf 3 = 1 by kernel_rfl] at h1
  obtain ⟨a1, e1, _, w1⟩ := DataW.trod_int Try.underlying3 h1
  refine ⟨⟨a0, a1⟩, ⟨w0, w1⟩, ?_⟩
  have hlen : cs.length = 2 := hl.trans (by kernel_rfl)
  obtain ⟨c0, c1, rfl⟩ := lst2 hlen
  simp at e0 e1
  simp [*]
/-- An element's numbers are of their kinds, its texts fit. -/
def W70 (x : S70) : Prop := (Lit.int .i64 x.f0).wf = true ∧ W27 x.f1 ∧ W27 x.f2
theorem rd70 {n : Nat} {cs : List Value} {y : DataW H × List MemPlace} (h : DataW.trod enc Try.prog w base spare held n 70 cs = some y) : ∃ x : S70, W70 x ∧ cs = [.int .i64 x.f0, .int .i64 x.f1.f0, .int .i64 x.f1.f1, .int .i64 x.f2.f0, .int .i64 x.f2.f1] := by
  obtain ⟨y0, y1, y2, m, _, hl, h0, h1, h2⟩ := Go.Deep.trod_struct3 Try.underlying70 h
  rw [show Try.prog.cellsOf 3 = 1 by kernel_rfl] at h0
  obtain ⟨a0, e0, _, w0⟩ := DataW.trod_int Try.underlying3 h0
  rw [show Try.prog.cellsOf 27 = 2 by kernel_rfl] at h1
  obtain ⟨a1, w1, e1⟩ := rd27 h1
  rw [show Try.prog.cellsOf 27 = 2 by kernel_rfl] at h2
  obtain ⟨a2, w2, e2⟩ := rd27 h2
  refine ⟨⟨a0, a1, a2⟩, ⟨w0, w1, w2⟩, ?_⟩
  have hlen : cs.length = 5 := hl.trans (by kernel_rfl)
  obtain ⟨c0, c1, c2, c3, c4, rfl⟩ := lst5 hlen
  simp at e0 e1 e2
  simp [*]
end
/-- THE ONE PURE STATEMENT of laws_FnExactGraphDo. -/
def laws_FnExactGraphDo.Pure : Prop := ∀ (l0_0 : List S27) (l0_1 : List S70) (a1_0 : Int) (a1_1_0 : Int) (a1_1_1 : Int) (a1_2_0 : Int) (a1_2_1_0 : Int) (a1_2_1_1 : Int) (a1_2_2_0 : Int) (a1_2_2_1 : Int), l0_0.length ≤ maxLen → (∀ x ∈ l0_0, W27 x) → l0_1.length ≤ maxLen → (∀ x ∈ l0_1, W70 x) → (Lit.int .i64 a1_0).wf = true → (Lit.int .i64 a1_1_0).wf = true → (Lit.int .i64 a1_1_1).wf = true → (Lit.int .i64 a1_2_0).wf = true → (Lit.int .i64 a1_2_1_0).wf = true → (Lit.int .i64 a1_2_1_1).wf = true → (Lit.int .i64 a1_2_2_0).wf = true → (Lit.int .i64 a1_2_2_1).wf = true → ∃ k, laws_FnExactGraphDo.f k l0_0 l0_1 a1_0 a1_1_0 a1_1_1 a1_2_0 a1_2_1_0 a1_2_1_1 a1_2_2_0 a1_2_2_1 = some true
end Go.Proofs.Ytohmemckdogljaa.QFnExactGraphDo
