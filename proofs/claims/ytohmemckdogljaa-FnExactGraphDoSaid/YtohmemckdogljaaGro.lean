/- Words of our own that shorten the printed texts: what stays as it was behind draws, new blocks and stores into blocks of the call's own is found by instances. -/
import Derived.Test.YtohmemckdogljaaBel
import Derived.WalkKit
import Derived.KernelRfl
import Derived.Test.YtohmemckdogljaaVKept
import Derived.Test.YtohmemckdogljaaVTab
import Derived.Test.YtohmemckdogljaaVLast
import Derived.Test.YtohmemckdogljaaVFoot
import Derived.Test.YtohmemckdogljaaVMore
namespace Go.Proofs.Ytohmemckdogljaa.Bl
open Go Go.RowKit Go.Proofs.YtohmemckdogljaaW.PrintWords
set_option linter.unusedVariables false
class Ge (w : World) (g : Nat) : Prop where out : w.heap.size ≤ g
theorem ob {A : Option Addr} {n c n' c' : Nat} : (Value.slice A n c).ownBlock = (Value.slice A n' c').ownBlock := by cases A <;> rfl
class Nq (a b : Nat) : Prop where out : a ≠ b
/-- W' comes of W by draws, new blocks and stores into blocks that are new since w. -/
class Gw (w W W' : World) : Prop where out : Below w.heap.size w W → Below w.heap.size w W'
instance {w W : World} : Gw w W W := ⟨id⟩
instance {w W W' : World} [h : Gw w W W'] : Gw w W W'.drew := ⟨fun x => below_drew1 (h.out x)⟩
instance {w W W' : World} [h : Gw w W W'] (n : Nat) : Gw w W (W'.drewN n) := ⟨fun x => pw_below_drewN (h.out x) n⟩
instance {w W W' : World} [h : Gw w W W'] (o : Obj) : Gw w W (W'.alloc o) := ⟨fun x => below_alloc (h.out x) o⟩
instance {w W W' : World} {g j : Nat} {v : Value} [h : Gw w W W'] [e : Ge w g] : Gw w W (W'.setCell ⟨g, j, none⟩ v) := ⟨fun x => below_set (h.out x) e.out⟩
theorem bs {w W W' : World} (h : Below w.heap.size w W) [g : Gw w W W'] : Below w.heap.size w W' := g.out h
/-- The same, of what is kept but block g. -/
class Kw (w : World) (g : Nat) (W W' : World) : Prop where out : KeepBut w W g none → KeepBut w W' g none
instance {w W : World} {g : Nat} : Kw w g W W := ⟨id⟩
instance {w W W' : World} {g : Nat} [h : Kw w g W W'] : Kw w g W W'.drew := ⟨fun x => h.out x⟩
instance {w W W' : World} {g : Nat} [h : Kw w g W W'] (n : Nat) : Kw w g W (W'.drewN n) := ⟨fun x => keep_drewN (h.out x) n⟩
instance {w W W' : World} {g : Nat} [h : Kw w g W W'] (o : Obj) : Kw w g W (W'.alloc o) := ⟨fun x => keep_alloc (h.out x) o⟩
instance {w W W' : World} {g b j : Nat} {v : Value} [h : Kw w g W W'] [e : Ge w b] : Kw w g W (W'.setCell ⟨b, j, none⟩ v) := ⟨fun x => keep_far (h.out x) e.out v⟩
instance {w W W' : World} {g j : Nat} {v : Value} [h : Kw w g W W'] : Kw w g W (W'.setCell ⟨g, j, none⟩ v) := ⟨fun x => KeepBut.set_ (h.out x) j v⟩
theorem ks {w W W' : World} {g : Nat} (h : KeepBut w W g none) [k : Kw w g W W'] : KeepBut w W' g none := k.out h
/-- The same, of what is kept but the rows that were given. -/
class Tw (w : World) (S : Nat → Prop) (W W' : World) : Prop where out : Kept w W S → Kept w W' S
instance {w W : World} {S : Nat → Prop} : Tw w S W W := ⟨id⟩
instance {w W W' : World} {S : Nat → Prop} [h : Tw w S W W'] : Tw w S W W'.drew := ⟨fun x => Kept.drew (h.out x)⟩
instance {w W W' : World} {S : Nat → Prop} [h : Tw w S W W'] (n : Nat) : Tw w S W (W'.drewN n) := ⟨fun x => Kept.drewN (h.out x) n⟩
instance {w W W' : World} {S : Nat → Prop} [h : Tw w S W W'] (o : Obj) : Tw w S W (W'.alloc o) := ⟨fun x => Kept.alloc (h.out x) o⟩
instance {w W W' : World} {S : Nat → Prop} {g j : Nat} {v : Value} [h : Tw w S W W'] [e : Ge w g] : Tw w S W (W'.setCell ⟨g, j, none⟩ v) := ⟨fun x => Kept.setCell (h.out x) (.inr e.out) v⟩
theorem ts {w W W' : World} {S : Nat → Prop} (h : Kept w W S) [k : Tw w S W W'] : Kept w W' S := k.out h
/-- Block g is as it was. -/
class Bf (g : Nat) (W W' : World) : Prop where out : ∀ o, W.heap[g]? = some o → W'.heap[g]? = some o
instance {g : Nat} {W : World} : Bf g W W := ⟨fun _ h => h⟩
instance {g : Nat} {W W' : World} [h : Bf g W W'] : Bf g W W'.drew := ⟨fun o x => blk_drew (h.out o x)⟩
instance {g : Nat} {W W' : World} [h : Bf g W W'] (n : Nat) : Bf g W (W'.drewN n) := ⟨fun o x => blk_drewN (h.out o x) n⟩
instance {g : Nat} {W W' : World} [h : Bf g W W'] (q : Obj) : Bf g W (W'.alloc q) := ⟨fun o x => blk_alloc (h.out o x) q⟩
instance {g b j : Nat} {v : Value} {W W' : World} [h : Bf g W W'] [e : Nq g b] : Bf g W (W'.setCell ⟨b, j, none⟩ v) := ⟨fun o x => (Below.heap_setCell W' _ v g e.out).trans (h.out o x)⟩
theorem bf {g : Nat} {o : Obj} {W W' : World} (h : W.heap[g]? = some o) [k : Bf g W W'] : W'.heap[g]? = some o := k.out o h
/-- Nothing but draws and new blocks. -/
class Rf (W W' : World) : Prop where out : Below W.heap.size W W'
instance {W : World} : Rf W W := ⟨Below.refl _ _⟩
instance {W W' : World} [h : Rf W W'] : Rf W W'.drew := ⟨below_drew1 h.out⟩
instance {W W' : World} [h : Rf W W'] (n : Nat) : Rf W (W'.drewN n) := ⟨pw_below_drewN h.out n⟩
instance {W W' : World} [h : Rf W W'] (o : Obj) : Rf W (W'.alloc o) := ⟨below_alloc h.out o⟩
instance {W W' : World} [h : Rf W W'] (p : Bel W') : Rf W p.v := ⟨below_step h.out p.h⟩
section
variable {α : Type} {d : Kd α} {e base : Nat} {ok : Nat → Prop} {W W' : World} {v : Value} {xs : List α}
theorem rl (h : d.R e W base ok v xs) [k : Rf W W'] : d.R e W' base ok v xs := Kd.R_below h k.out
end
/-- Nothing but draws, new blocks and stores into block g. -/
class Sf (g : Nat) (W W' : World) : Prop where out : W.heap.size ≤ W'.heap.size ∧ ∀ k, k < W.heap.size → k ≠ g → W'.heap[k]? = W.heap[k]?
instance {g : Nat} {W : World} : Sf g W W := ⟨⟨Nat.le_refl _, fun _ _ _ => rfl⟩⟩
instance {g : Nat} {W W' : World} [h : Sf g W W'] : Sf g W W'.drew := ⟨h.out⟩
instance {g : Nat} {W W' : World} [h : Sf g W W'] (n : Nat) : Sf g W (W'.drewN n) := ⟨h.out⟩
instance {g : Nat} {W W' : World} [h : Sf g W W'] (o : Obj) : Sf g W (W'.alloc o) := ⟨⟨by simpa using Nat.le_succ_of_le h.out.1, fun k hk hn => (Below.heap_alloc W' o k (Nat.lt_of_lt_of_le hk h.out.1)).trans (h.out.2 k hk hn)⟩⟩
instance {g j : Nat} {v : Value} {W W' : World} [h : Sf g W W'] : Sf g W (W'.setCell ⟨g, j, none⟩ v) := ⟨⟨by simpa [World.setCell] using h.out.1, fun k hk hn => (Below.heap_setCell W' _ v k hn).trans (h.out.2 k hk hn)⟩⟩
section
variable {α : Type} {d : Kd α} {e base : Nat} {ok : Nat → Prop} {W W' : World} {v : Value} {xs : List α}
/-- A row, behind stores into a block of another type. -/
theorem rt (h : d.R e W base ok v xs) {g t : Nat} {cells : Array Value} (hb : W.heap[g]? = some (.cells cells t (0, 0))) (ht : ∀ q, q ∈ e :: d.E → q ≠ t) [k : Sf g W W'] : d.R e W' base ok v xs :=
  Kd.R_mono (Kd.R_step (Kd.R_types h hb ht) (fun q hq hl => k.out.2 q hl hq.2)) (fun _ hq => hq.1)
end
theorem bb {w W w1 : World} {g : Nat} {o : Obj} (h : Aside0 (w.heap[g]? = some o)) (hb : Below W.heap.size W w1) (e : W.heap = w.heap) : Aside0 (w1.heap[g]? = some o) := ⟨blk_belowD h.out hb e⟩
theorem bd {w : World} {g : Nat} {o : Obj} (h : Aside0 (w.heap[g]? = some o)) : Aside0 (w.drew.heap[g]? = some o) := ⟨blk_drew h.out⟩
theorem hd {w W : World} (h : Aside0 (Below w.heap.size w W)) : Aside0 (Below w.heap.size w W.drew) := ⟨below_drew1 h.out⟩
theorem hs {w W W' w2 : World} (h : Aside0 (Below w.heap.size w W)) (hb : Below W'.heap.size W' w2) [k : Gw w W W'] : Aside0 (Below w.heap.size w w2) := ⟨below_step (k.out h.out) hb⟩
/-- The cells of a block of the call's own. -/
theorem bc1 {w : World} {g : Nat} {t : TypeId} {a : Value} (h : w.heap[g]? = some (.cells #[a] t (0, 0))) : w.cell? ⟨g, 0, none⟩ = some a := (blk_cell h 0).trans rfl
theorem bc2 {w : World} {g : Nat} {t : TypeId} {a b : Value} (h : w.heap[g]? = some (.cells #[a, b] t (0, 0))) : w.cell? ⟨g, 0, none⟩ = some a ∧ w.cell? ⟨g, 1, none⟩ = some b := ⟨(blk_cell h 0).trans rfl, (blk_cell h 1).trans rfl⟩
theorem bc3 {w : World} {g : Nat} {t : TypeId} {a b c : Value} (h : w.heap[g]? = some (.cells #[a, b, c] t (0, 0))) : w.cell? ⟨g, 0, none⟩ = some a ∧ w.cell? ⟨g, 1, none⟩ = some b ∧ w.cell? ⟨g, 2, none⟩ = some c := ⟨(blk_cell h 0).trans rfl, (blk_cell h 1).trans rfl, (blk_cell h 2).trans rfl⟩
theorem bc5 {w : World} {g : Nat} {t : TypeId} {a b c d e : Value} (h : w.heap[g]? = some (.cells #[a, b, c, d, e] t (0, 0))) : w.cell? ⟨g, 0, none⟩ = some a ∧ w.cell? ⟨g, 1, none⟩ = some b ∧ w.cell? ⟨g, 2, none⟩ = some c ∧ w.cell? ⟨g, 3, none⟩ = some d ∧ w.cell? ⟨g, 4, none⟩ = some e := ⟨(blk_cell h 0).trans rfl, (blk_cell h 1).trans rfl, (blk_cell h 2).trans rfl, (blk_cell h 3).trans rfl, (blk_cell h 4).trans rfl⟩
theorem bc8 {w : World} {g : Nat} {t : TypeId} {a b c d e p q r : Value} (h : w.heap[g]? = some (.cells #[a, b, c, d, e, p, q, r] t (0, 0))) : w.cell? ⟨g, 0, none⟩ = some a ∧ w.cell? ⟨g, 1, none⟩ = some b ∧ w.cell? ⟨g, 2, none⟩ = some c ∧ w.cell? ⟨g, 3, none⟩ = some d ∧ w.cell? ⟨g, 4, none⟩ = some e ∧ w.cell? ⟨g, 5, none⟩ = some p ∧ w.cell? ⟨g, 6, none⟩ = some q ∧ w.cell? ⟨g, 7, none⟩ = some r :=
  ⟨(blk_cell h 0).trans rfl, (blk_cell h 1).trans rfl, (blk_cell h 2).trans rfl, (blk_cell h 3).trans rfl, (blk_cell h 4).trans rfl, (blk_cell h 5).trans rfl, (blk_cell h 6).trans rfl, (blk_cell h 7).trans rfl⟩
section
open Go.Proofs.YtohmemckdogljaaW.PrintLast
variable {P : Program} {md : Region.Mode} {ops : Array Oper} {Q : Exit → Act → World → Prop} {S : World → Prop} {ds : List Nat}
/-- A step of a region's walk: an operation that reads nothing of the memory; one that reads what S tells. -/
theorem pu (i n : Nat) {oi : Oper} {v : Value} {fuel : Nat} {l l' : Array Bool} {a a' : Act} {w : World} (h : wpAnyLast P md ops Q S ds fuel l' a' w) (hl : l.setIfInBounds i true = l' := by simp only [List.setIfInBounds_toArray, List.set_cons_zero, List.set_cons_succ]; rfl)
    (hc : anyB md ops l l' i = true := by first | exact any_of HT_.out (by kernel_rfl) | kernel_rfl) (hi : ops[i]? = some oi := by rfl) (hN : oi.dst = some n := by rfl) (hw : Region.wanted oi (yielded ops a.tmps) = true := by rfl)
    (hr : ∀ w, (execOp a.eval oi).run P w = .ok (.value v) w := by intro w'; go_simp; with_reducible rfl) (ha : a.put (some n) v = a' := by simp only [Act.put, List.setIfInBounds_toArray, List.set_cons_zero, List.set_cons_succ, i64_w, i32_w]; rfl)
    (hQ : ∀ c a w, Q (.panic c) (a.put oi.dst v) w → Q (.panic c) a w := by exact fun _ _ _ h => h) : wpAnyLast P md ops Q S ds (fuel + 1) l a w := pure_ l' hi hN hc hQ (Or.inl ⟨hw, hr⟩) ha h
theorem tk (i n : Nat) {oi : Oper} {v : Value} {fuel : Nat} {l l' : Array Bool} {a a' : Act} {w : World} (h : wpAnyLast P md ops Q S ds fuel l' a' w)
    (hl : l.setIfInBounds i true = l' := by simp only [List.setIfInBounds_toArray, List.set_cons_zero, List.set_cons_succ]; rfl) (hc : takeB md ops ds l l' i = true := by first | exact take_ofW HT_.out HW_.out (by kernel_rfl) | kernel_rfl) (hi : ops[i]? = some oi := by rfl)
    (hN : oi.dst = some n := by rfl) (hw : Region.wanted oi (yielded ops a.tmps) = true := by rfl) (hr : ∀ w, S w → (execOp a.eval oi).run P w = .ok (.value v) w := by intro w' hs_; (repeat (obtain ⟨_, hs_⟩ := hs_)); go_simp; with_reducible rfl)
    (ha : a.put (some n) v = a' := by simp only [Act.put, List.setIfInBounds_toArray, List.set_cons_zero, List.set_cons_succ, i64_w, i32_w]; rfl) (hS : S w := by exact hHeld)
    (hQ : ∀ c a w, Q (.panic c) (a.put oi.dst v) w → Q (.panic c) a w := by exact fun _ _ _ h => h) : wpAnyLast P md ops Q S ds (fuel + 1) l a w := take_ l' hi hN hc hQ (Or.inl ⟨hw, hr⟩) hS ha h
end
theorem nl2 {A B : Nat} {w : World} {q : Nat} (h : A < w.heap.size) (k : Ge w q) (e : B = A := by first | rfl | exact add_block _ _ | (show (Addr.add _ _).block = _; exact add_block _ _)) : B ≠ q := by rw [e]; exact Nat.ne_of_lt (Nat.lt_of_lt_of_le h k.out)
theorem nsy {a b : Nat} (h : Nq a b) : Nq b a := ⟨h.out.symm⟩
theorem nq {w W : World} {g q : Nat} {o : Obj} (h : Aside0 (w.heap[g]? = some o)) (hg : q = W.heap.size) (e : W.heap = w.heap := by rfl) : Nq g q := ⟨neD h.out hg e⟩
theorem nq' {w W : World} {g q : Nat} {o : Obj} (h : Aside0 (w.heap[g]? = some o)) (hg : q = W.heap.size) (e : W.heap = w.heap := by rfl) : Nq q g := ⟨neD' h.out hg e⟩
theorem gwb {w W W' : World} {q : Nat} (h : Aside0 (Below w.heap.size w W)) (hg : q = W'.heap.size) [k : Gw w W W'] : Ge w q := ⟨by rw [hg]; exact (k.out h.out).size⟩
theorem gwk {w W W' : World} {g q : Nat} (h : Aside0 (KeepBut w W g none)) (hg : q = W'.heap.size) [k : Kw w g W W'] : Ge w q := ⟨by rw [hg]; exact (k.out h.out).1⟩
theorem gew {w0 w : World} {q : Nat} (h : Aside0 (w0.heap.size ≤ w.heap.size)) (k : Ge w q) : Ge w0 q := ⟨Nat.le_trans h.out k.out⟩
theorem gwt {w W W' : World} {S : Nat → Prop} {q : Nat} (h : Aside0 (Kept w W S)) (hg : q = W'.heap.size) [k : Tw w S W W'] : Ge w q := ⟨by rw [hg]; exact (k.out h.out).1⟩
theorem kb {w W W' W2 : World} {g : Nat} (h : Aside0 (KeepBut w W g none)) (hb : Below W'.heap.size W' W2) [k : Kw w g W W'] : Aside0 (KeepBut w W2 g none) := ⟨KeepBut.trans (k.out h.out) (KeepBut.of_below hb g none) (.inl rfl)⟩
theorem kt {w W W' W2 : World} {g : Nat} (h : Aside0 (KeepBut w W g none)) (hk : KeepBut W' W2 g none) [k : Kw w g W W'] : Aside0 (KeepBut w W2 g none) := ⟨KeepBut.trans (k.out h.out) hk (.inl rfl)⟩
theorem kl {w W W' W2 : World} {S : Nat → Prop} (h : Aside0 (Kept w W S)) (hb : Below W'.heap.size W' W2) [k : Tw w S W W'] : Aside0 (Kept w W2 S) := ⟨Kept.below (k.out h.out) hb⟩
theorem kk {w W W' : World} {g q : Nat} {o : Obj} (h : Aside0 (w.heap[q]? = some o)) (hk : KeepBut W W' g none) [k : Bf q w W] [n : Nq q g] : Aside0 (W'.heap[q]? = some o) := ⟨KeepBut.blk hk (k.out o h.out) n.out (by simp)⟩
/-- A block's cells behind draws, new blocks, stores. -/
class Bp (g t : Nat) (W W' : World) (F : outParam (Array Value → Array Value)) : Prop where out : ∀ cs, W.heap[g]? = some (.cells cs t (0, 0)) → W'.heap[g]? = some (.cells (F cs) t (0, 0))
instance {g t : Nat} {W : World} : Bp g t W W (fun cs => cs) := ⟨fun _ h => h⟩
instance {g t : Nat} {W W' : World} {F : Array Value → Array Value} [h : Bp g t W W' F] : Bp g t W W'.drew F := ⟨fun o x => blk_drew (h.out o x)⟩
instance {g t : Nat} {W W' : World} {F : Array Value → Array Value} [h : Bp g t W W' F] (n : Nat) : Bp g t W (W'.drewN n) F := ⟨fun o x => blk_drewN (h.out o x) n⟩
instance {g t : Nat} {W W' : World} {F : Array Value → Array Value} [h : Bp g t W W' F] (q : Obj) : Bp g t W (W'.alloc q) F := ⟨fun o x => blk_alloc (h.out o x) q⟩
instance {g t b j : Nat} {v : Value} {W W' : World} {F : Array Value → Array Value} [h : Bp g t W W' F] [e : Nq g b] : Bp g t W (W'.setCell ⟨b, j, none⟩ v) F := ⟨fun o x => (Below.heap_setCell W' _ v g e.out).trans (h.out o x)⟩
instance {g t j : Nat} {v : Value} {W W' : World} {F : Array Value → Array Value} [h : Bp g t W W' F] : Bp g t W (W'.setCell ⟨g, j, none⟩ v) (fun cs => (F cs).setIfInBounds j v) := ⟨fun o x => blk_set (h.out o x) j v⟩
theorem bp {g t : Nat} {W W' : World} {cs cs' : Array Value} {F : Array Value → Array Value} (h : W.heap[g]? = some (.cells cs t (0, 0))) [k : Bp g t W W' F] (e : F cs = cs') : W'.heap[g]? = some (.cells cs' t (0, 0)) := e ▸ k.out cs h
theorem kp {w W W' : World} {g q t : Nat} {cs : Array Value} {F : Array Value → Array Value} (cs' : Array Value) (h : Aside0 (w.heap[q]? = some (.cells cs t (0, 0)))) (hk : KeepBut W W' g none) [k : Bp q t w W F] [n : Nq q g] (e : F cs = cs' := by rfl) : Aside0 (W'.heap[q]? = some (.cells cs' t (0, 0))) :=
  ⟨KeepBut.blk hk (e ▸ k.out cs h.out) n.out (by simp)⟩
theorem bq {w W W' : World} {q t : Nat} {cs : Array Value} {F : Array Value → Array Value} (cs' : Array Value) (h : Aside0 (w.heap[q]? = some (.cells cs t (0, 0)))) (hb : Below W.heap.size W W') [k : Bp q t w W F] (e : F cs = cs' := by rfl) : Aside0 (W'.heap[q]? = some (.cells cs' t (0, 0))) :=
  ⟨blk_below (e ▸ k.out cs h.out) hb⟩
section
variable {α : Type} {d : Kd α} {e base : Nat} {ok : Nat → Prop} {W W' : World} {v : Value} {xs : List α}
theorem gr {w w1 : World} {q t : Nat} {cs : Array Value} (b : Aside0 (w.heap[q]? = some (.cells cs t (0, 0)))) (r : Aside0 (d.R e w base ok v xs)) (hg : W.grownBy w1 v.ownBlock) [k : Bf q w W] (ht : e ≠ t := by decide) : Aside0 (w1.heap[q]? = some (.cells cs t (0, 0))) :=
  ⟨blk_grown (k.out _ b.out) hg (Kd.R_ne r.out b.out ht)⟩
theorem rb (h : Aside0 (d.R e W base ok v xs)) {w1 : World} (hb : Below W'.heap.size W' w1) [k : Rf W W'] : Aside0 (d.R e w1 base ok v xs) := ⟨Kd.R_below (rl h.out) hb⟩
theorem rd_ (h : Aside0 (d.R e W base ok v xs)) : Aside0 (d.R e W.drew base ok v xs) := ⟨Kd.R_drew h.out⟩
end
section
variable {P : Program} {ops : Array Oper} {rest : List Oper} {o : Oper} {a : Act} {Q : Exit → Act → World → Prop} {W : World}
theorem gd (N : Tmp) (_hN : o.dst = some N) (h : wpList P ops Q (o :: rest) a W) : wpList P ops Q (o :: rest) a W := h
theorem gc (f : FuncId) {oa : Array Operand} {ts : Array TypeId} (_ho : o.op = .call { callee := .value (.func f), args := oa, argTypes := ts }) (h : wpList P ops Q (o :: rest) a W) : wpList P ops Q (o :: rest) a W := h
end
section
open Go.Proofs.YtohmemckdogljaaW.PrintLast
variable {P : Program} {md : Region.Mode} {ops : Array Oper} {rest : List Oper} {Q : Exit → Act → World → Prop} {S : World → Prop} {ds : List Nat} {o oi : Oper} {a : Act} {w W : World}
theorem gs {fn : Func} {N : Option Tmp} {K : Act → World → Prop} {f : FuncId} {oa : Array Operand} {ts : Array TypeId} (hf : P.funcs[f]? = some fn) (args : Array Value) (h : Calls P f args w fun e w' => ∃ v, e = .returned v ∧ K (a.put N v) w')
    (hname : (fn.name == "runtime.NumGoroutine") = false := by kernel_rfl) (hb : fn.body.isSome = true := by rfl) (hw : Region.wanted oi (yielded ops a.tmps) = true := by rfl) (hN : oi.dst = N := by rfl) (hop : oi.op = .call { callee := .value (.func f), args := oa, argTypes := ts } := by rfl)
    (hargs : oa.map a.eval = args := by (try simp only [List.map_toArray, List.map_cons, List.map_nil]); first | done | rfl | (simp only [List.length_drop, List.length_take]; rfl)) : if Region.wanted oi (yielded ops a.tmps) = true then Oper.wp P oi a w K Q else K (a.put N undef) w :=
  goes_ hf hname hb args hw hN hop hargs h
theorem gl (n : Nat) {fn : Func} {f : FuncId} {oa : Array Operand} {ts : Array TypeId} (hf : P.funcs[f]? = some fn) (args : Array Value) (h : Calls P f args w fun e w' => ∃ v, e = .returned v ∧ wpList P ops Q rest (a.put (some n) v) w')
    (hd : oi.dst = some n := by rfl) (hg : oi.guard = none := by rfl) (hname : (fn.name == "runtime.NumGoroutine") = false := by kernel_rfl) (hb : fn.body.isSome = true := by rfl) (hop : oi.op = .call { callee := .value (.func f), args := oa, argTypes := ts } := by rfl)
    (hargs : oa.map a.eval = args := by (try simp only [List.map_toArray, List.map_cons, List.map_nil]); first | done | rfl | (simp only [List.length_drop, List.length_take]; rfl)) : wpList P ops Q (oi :: rest) a w := goesL_ (some n) hd hg hf hname hb args hop hargs h
theorem bx (N : Tmp) {cs : Array Value} {t : TypeId} (h : ∀ g, g = W.heap.size → ∀ w1, w1.heap[g]? = some (.cells cs t (0, 0)) → Below W.heap.size W w1 → wpList P ops Q rest (a.put o.dst (.pointer (some ⟨g, 0, none⟩))) w1) (hd : o.dst = some N := by rfl) (hgd : o.guard = none := by rfl)
    (hrun : (execOp a.eval o).run P W = .ok (.value (.pointer (some ⟨W.heap.size, 0, none⟩))) (W.alloc (.cells cs t (0, 0))) := by first | (go_simp; done) | (go_simp; rfl)) : wpList P ops Q (o :: rest) a W := box_event hgd hd hrun h
theorem rli {k : IntKind} (e : Nat) (N : Tmp) (xs : List Int)
    (h : ∀ v1 w1, (Kd.int k).R e w1 W.heap.size (fun _ => True) v1 xs → Below W.heap.size W w1 → W.grownBy w1 none → (∃ b, v1.ownBlock = some b ∧ W.heap.size ≤ b) → wpList P ops Q rest (a.put o.dst v1) w1) (hd : o.dst = some N := by rfl) (hgd : o.guard = none := by rfl) (hm : xs.length ≤ 9223372036854775807 := by simp)
    (hrun : (execOp a.eval o).run P W = .ok (.value (.slice (some ⟨W.heap.size, 0, none⟩) xs.length xs.length)) (W.alloc (.cells (encs (Value.int k) xs).toArray e)) := by first | (go_simp; done) | (go_simp; rfl)) : wpList P ops Q (o :: rest) a W :=
  Kd.R_lit (Kd.int k) W.heap.size e hgd hd (okp := fun _ => True) hrun (Kd.reps_scalar xs) (fun _ h => h) trivial (Below.refl _ _) (Nat.le_refl _) hm h
theorem nrm (n : Nat) {fuel : Nat} {l : Array Bool} {N : Option Tmp} {v : Value} {a' : Act} (h : wpAnyLast P md ops Q S ds fuel l a' w) (hN : N = some n := by rfl) (ha : a.put (some n) v = a' := by simp only [Act.put, List.setIfInBounds_toArray, List.set_cons_zero, List.set_cons_succ, i64_w, i32_w]; rfl) :
    wpAnyLast P md ops Q S ds fuel l (a.put N v) w := by subst hN; exact norm_ ha h
end
theorem oda {p : Prop} [Decidable p] (h : decide p = true := by first | (with_reducible assumption) | assumption) : p := of_decide_eq_true h
theorem cb {w W : World} (h : Aside0 (Below w.heap.size w W)) {a : Addr} {v : Value} (c : w.cell? a = some v) : W.cell? a = some v := (h.out.cell (World.block_lt_of_cell? w a c)).trans c
theorem ts1 {w W W' : World} {S : Nat → Prop} (h : Aside0 (Kept w W S)) [k : Tw w S W W'] : w.heap.size ≤ W'.heap.size := (k.out h.out).1
theorem cr {α : Type} {d : Kd α} {e base n c : Nat} {ok : Nat → Prop} {W W' : World} {A : Option Addr} {xs : List α} (h : Aside0 (d.R e W base ok (.slice A n c) xs)) [k : Rf W W'] : d.C W' A xs.length xs := Kd.C_below (Kd.R_reads' h.out).2.2 k.out
theorem eqs {α : Sort _} {a b : α} (h : a = b := by first | rfl | (simp; done) | (simp [*]; done)) : a = b := h
theorem drs {w w' : World} (h : Drawn0 w w' := by repeat (first | exact Drawn0.refl _ | apply Drawn0.step)) : Drawn0 w w' := h
end Go.Proofs.Ytohmemckdogljaa.Bl
