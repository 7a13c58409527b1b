/- Words of our own for the graphs' functions: worlds that have only grown, a region that draws its order walked once among such worlds, and the plain laws of labels, nodes and edges. -/
import Derived.Test.YtohmemckdogljaaProg
import Derived.Test.YtohmemckdogljaaVWords
import Derived.Deep.QuietTactic
import Derived.BigQuiet
import Derived.Below
import Derived.WalkKit
import Derived.KernelRfl
namespace Go.Proofs.Ytohmemckdogljaa.Bl
open Go Go.RowKit Go.Proofs.YtohmemckdogljaaW.PrintWords
set_option linter.unusedVariables false
set_option linter.unusedSimpArgs false

/-- A world that has only grown since w. -/
structure Bel (w : World) where
  v : World
  h : Below w.heap.size w v
instance {w : World} : Inhabited (Bel w) := ⟨⟨w, Below.refl _ _⟩⟩
theorem wp_region_bel {P : Program} {id : Nat} {Q : Exit → Act → World → Prop} {a : Act} {w : World} {l : List Oper} (hm : P.follows .mixedOrders = true) (hB : Region.lexB .any l.toArray = true)
    (h : wpQuiet P l.toArray (fun w' => ∃ p : Bel w.drew, w' = p.v) (fun a' => ∀ w', (∃ p : Bel w.drew, w' = p.v) → Q .normal a' w') l a) : (Code.region id l.toArray true).wp P Q a w :=
  wp_region_quiet (C := fun w' => ∃ p : Bel w.drew, w' = p.v) hm hB ⟨⟨w.drew, Below.refl _ _⟩, rfl⟩ (by simpa using h)
theorem wp_region_bel0 {P : Program} {id : Nat} {Q : Exit → Act → World → Prop} {a : Act} {w : World} {l : List Oper} (hm : P.follows .mixedOrders = true) (hB : Region.lexB .any l.toArray = true)
    (h : wpQuiet P l.toArray (fun w' => ∃ p : Bel w, w' = p.v) (fun a' => ∀ w', (∃ p : Bel w, w' = p.v) → Q .normal a' w') l a) : (Code.region id l.toArray true).wp P Q a w :=
  wp_region_quiet (C := fun w' => ∃ p : Bel w, w' = p.v) hm hB ⟨⟨w.drew, below_drew1 (Below.refl _ _)⟩, rfl⟩ (by simpa using h)
/-- A callee's contract, met in such a world. -/
theorem calls_bel {P : Program} {f : FuncId} {args : Array Value} {w : World} {p : Bel w} {v : Value}
    (h : Calls P f args p.v fun e w' => e = .returned v ∧ Below p.v.heap.size p.v w') : Calls P f args p.v fun e w'' => e = .returned v ∧ ∃ q : Bel w, w'' = q.v :=
  h.mono fun _ w' ⟨he, hq⟩ => ⟨he, ⟨w', below_step p.h hq⟩, rfl⟩
theorem calls_bel0 {P : Program} {f : FuncId} {args : Array Value} {w : World} {p : Bel w} {v : Value}
    (h : Calls P f args p.v fun e w' => e = .returned v ∧ Drawn0 p.v w') : Calls P f args p.v fun e w'' => e = .returned v ∧ ∃ q : Bel w, w'' = q.v :=
  calls_bel (h.mono fun _ _ ⟨he, hq⟩ => ⟨he, hq.below⟩)
/-- A cell of an old block, in every such world. -/
theorem cell_bel {w : World} {a : Addr} {v : Value} (h : w.cell? a = some v) (p : Bel w) : p.v.cell? a = some v :=
  (p.h.cell (World.block_lt_of_cell? w _ h)).trans h

/-- What is known of a block, or of the memory, behind a call: short words for what the printed texts say at length. -/
theorem blk_belowD {w W w1 : World} {g : Nat} {o : Obj} (h : w.heap[g]? = some o) (hb : Below W.heap.size W w1) (e : W.heap = w.heap) : w1.heap[g]? = some o := blk_below (by rw [e]; exact h) hb
theorem below_stepD {w W W' w2 : World} (h : Below w.heap.size w W) (hb : Below W'.heap.size W' w2) (e : W'.os = W.os ∧ W'.tape = W.tape ∧ W'.output = W.output ∧ W'.heap = W.heap) : Below w.heap.size w w2 :=
  below_step ⟨e.1.trans h.os, e.2.1.trans h.tape, e.2.2.1.trans h.output, by rw [e.2.2.2]; exact h.size, fun k hk => by rw [e.2.2.2]; exact h.block k hk⟩ hb
theorem geD {w W W' : World} {g : Nat} (h : Below w.heap.size w W) (hg : g = W'.heap.size) (e : W'.heap = W.heap) : w.heap.size ≤ g := by rw [hg, e]; exact h.size
theorem neD {w W : World} {g q : Nat} {o : Obj} (h : w.heap[g]? = some o) (hg : q = W.heap.size) (e : W.heap = w.heap) : g ≠ q := by rw [hg, e]; exact Nat.ne_of_lt (blk_lt h)
theorem neD' {w W : World} {g q : Nat} {o : Obj} (h : w.heap[g]? = some o) (hg : q = W.heap.size) (e : W.heap = w.heap) : q ≠ g := (neD h hg e).symm
theorem path6 : ∀ a b c d e f : Bool, a = false ∨ (a = true ∧ b = false) ∨ (a = true ∧ b = true ∧ c = false) ∨ (a = true ∧ b = true ∧ c = true ∧ d = false) ∨ (a = true ∧ b = true ∧ c = true ∧ d = true ∧ e = false) ∨
    (a = true ∧ b = true ∧ c = true ∧ d = true ∧ e = true ∧ f = false) ∨ (a = true ∧ b = true ∧ c = true ∧ d = true ∧ e = true ∧ f = true) := by intro a b c d e f; cases a <;> cases b <;> cases c <;> cases d <;> cases e <;> cases f <;> simp
theorem w64 {x : Int} (h : -9223372036854775808 ≤ x ∧ x ≤ 9223372036854775807) : wrap64 x = x := by unfold wrap64; omega
/-- It is a label. -/
def isL (a : Int) : Bool := decide (0 ≤ a ∧ a ≤ 7)
/-- A label is under another one. -/
def U (a b : Int) : Bool := isL a && (isL b && (a.toNat &&& b.toNat == a.toNat))
/-- A node is right. -/
def nOk (a b : Int) : Bool := isL a && decide (0 ≤ b ∧ b ≤ 40)
/-- An edge is right. -/
def EOk (l a b c d : Int) : Bool := isL l && (nOk a b && (nOk c d && (decide (64 * a + b < 64 * c + d) && (U a l && U c l))))
/-- A node's number. -/
def Cd (a b : Int) : Int := if nOk a b = true then 64 * a + b else -1
theorem nOk_l {a b : Int} (h : nOk a b = true) : isL a = true := by simp [nOk] at h; exact h.1
theorem nOk_iff {a b : Int} : nOk a b = true ↔ (0 ≤ a ∧ a ≤ 7) ∧ (0 ≤ b ∧ b ≤ 40) := by simp [nOk, isL]
theorem Cd_ok {a b : Int} (h : -1 < Cd a b) : Cd a b = 64 * a + b ∧ 0 ≤ a ∧ a ≤ 7 ∧ 0 ≤ b ∧ b ≤ 40 := by
  unfold Cd at h ⊢
  by_cases c : nOk a b = true
  · rw [if_pos c]
    have := nOk_iff.1 c
    exact ⟨rfl, by omega, by omega, by omega, by omega⟩
  · rw [if_neg c] at h; omega
theorem EOk_l {l a b c d : Int} (h : EOk l a b c d = true) : 0 ≤ l ∧ l ≤ 7 := by
  simp [EOk, isL] at h; omega
theorem fin8 {a : Int} (h : isL a = true) : ∃ x : Fin 8, a = (x.val : Int) := by
  simp [isL] at h
  obtain ⟨n, rfl⟩ := Int.eq_ofNat_of_zero_le h.1
  exact ⟨⟨n, by omega⟩, rfl⟩
end Go.Proofs.Ytohmemckdogljaa.Bl
