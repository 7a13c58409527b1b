/- What the row of FnStoreNarrow opens: the law's statement over plain data (Pure), and how each parameter's reading gives that data. -/
import Derived.Test.YtkbamcicbofjbaaQFnStoreNarrowx18
import Derived.ProofKit
import Derived.WalkKit
import Derived.Deep.Slices
import Derived.Deep.Strs
import Derived.Lib.SmallJoins
import Derived.ChangeSame
import Derived.Below
namespace Go.Proofs.Ytkbamcicbofjbaa.QFnStoreNarrow
open Go.RowKit Go.ChangeShapes Go.WideShapes Go.Proofs.YtkbamcicbofjbaaW.PrintWords Go.Proofs.YtkbamcicbofjbaaW.PrintLast
set_option linter.unusedVariables false
/-- A slice whose elements are told by 'd': out of its reading. -/
theorem open_rowC {H : Type} {enc : TypeId × Value → H} {P : Program} {w : World} {base : Nat} {spare : Nat → Bool} {held : Bool} {α : Type} (z0 : α) (d : Kd α) (Wf : α → Prop) {t e : TypeId} {fuel : Nat} {a : Option Addr} {n c : Nat} {y : DataW H × List MemPlace}
    (ht : P.underlying t = some (.slice e)) (hc : P.cellsOf e = d.sz) (hel : ∀ (m : Nat) (cs : List Value) (z : DataW H × List MemPlace), DataW.trod enc P w base spare held m e cs = some z → ∃ x : α, Wf x ∧ d.K w x cs)
    (h : DataW.trod enc P w base spare held fuel t [.slice a n c] = some y) : ∃ l : List α, l.length = n ∧ n ≤ c ∧ n ≤ maxLen ∧ (∀ x ∈ l, Wf x) ∧ Kd.C d w a n l := by
  haveI : Inhabited α := ⟨z0⟩
  rcases Go.Deep.open_slice ht h with ⟨hcs, _⟩ | ⟨a', len, cap, m, q, D, Pl, hcs, _, hle, hm, hmm, _, hi⟩
  · simp at hcs
    obtain ⟨rfl, rfl, rfl⟩ := hcs
    exact ⟨[], rfl, Nat.le_refl _, Nat.zero_le _, (fun x hx => by cases hx), rfl, by omega, fun h0 => by omega⟩
  · simp at hcs
    obtain ⟨rfl, rfl, rfl⟩ := hcs
    have hlm : n ≤ m := by rw [hmm]; split <;> omega
    obtain ⟨f, hf⟩ := Go.Deep.choose_lt (n := n) (p := fun i x => Wf x ∧ ∃ cs', w.cells? base (a'.add (i * P.cellsOf e)) (P.cellsOf e) = some cs' ∧ d.K w x cs') fun i hin => by
      obtain ⟨cs', h1, h2⟩ := hi i (by omega)
      obtain ⟨x, hx, hk⟩ := hel _ _ _ h2
      exact ⟨x, hx, cs', h1, hk⟩
    refine ⟨(List.range n).map f, by simp, hle, by omega, fun x hx => ?_, by simp, by unfold maxLen at hm; omega, fun _ => ⟨a', rfl, fun j p hj => ?_⟩⟩
    · obtain ⟨i, hi1, rfl⟩ := List.mem_map.1 hx
      exact (hf i (List.mem_range.1 hi1)).1
    · have hjn : j < n := by
        have := (List.getElem?_eq_some_iff.1 hj).1
        simpa using this
      have hp : p = f j := by simpa [List.getElem?_map, List.getElem?_range hjn] using hj.symm
      subst hp
      obtain ⟨_, cs', h1, hk⟩ := hf j hjn
      obtain ⟨_, hl, hcell⟩ := World.cells?_some h1
      refine ⟨cs', by rw [hl, hc], hk, fun i u hu => ?_⟩
      have hlt : i < cs'.length := (List.getElem?_eq_some_iff.1 hu).1
      rw [← Go.Deep.add_add, ← hc, hcell i (by omega)]
      exact hu
section
variable {H : Type} {enc : TypeId × Value → H} {w : World} {base : Nat} {spare : Nat → Bool} {held : Bool}
end
/-- THE ONE PURE STATEMENT of laws_FnStoreNarrow. -/
def laws_FnStoreNarrow.Pure : Prop := ∀ (l0 : List Int) (l1 : List Int), l0.length ≤ maxLen → (∀ x ∈ l0, (Lit.int .u8 x).wf = true) → l1.length ≤ maxLen → (∀ x ∈ l1, (Lit.int .u8 x).wf = true) → ∃ k, laws_FnStoreNarrow.f k l0 l1 = some true
end Go.Proofs.Ytkbamcicbofjbaa.QFnStoreNarrow
