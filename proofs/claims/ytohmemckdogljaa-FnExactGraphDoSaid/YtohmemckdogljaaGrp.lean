/- More words of our own that shorten the printed texts: steps of a region's walk, rows that a cut may have made, what calls leave. -/
import Derived.Test.YtohmemckdogljaaGro
namespace Go.Proofs.Ytohmemckdogljaa.Bl
open Go Go.RowKit Go.Proofs.YtohmemckdogljaaW.PrintWords
set_option linter.unusedVariables false
theorem am {p : Prop} (h : p) : Aside0 p := ⟨h⟩
section
open Go.Proofs.YtohmemckdogljaaW.PrintLast
variable {P : Program} {md : Region.Mode} {ops : Array Oper} {Q : Exit → Act → World → Prop} {S : World → Prop} {ds : List Nat} {oi : Oper} {fuel : Nat} {l l' : Array Bool} {a : Act} {w : World}
/-- A step that the guard leaves out. -/
theorem ud (i n : Nat) {a' : Act} (h : wpAnyLast P md ops Q S ds fuel l' a' w) (hl : l.setIfInBounds i true = l' := by simp only [List.setIfInBounds_toArray, List.set_cons_zero, List.set_cons_succ]; rfl)
    (hc : anyB md ops l l' i = true := by first | exact any_of HT_.out (by kernel_rfl) | kernel_rfl) (hi : ops[i]? = some oi := by rfl) (hN : oi.dst = some n := by rfl) (hw : Region.wanted oi (yielded ops a.tmps) = false := by rfl)
    (ha : a.put (some n) undef = a' := by simp only [Act.put, List.setIfInBounds_toArray, List.set_cons_zero, List.set_cons_succ, i64_w, i32_w]; rfl) (hQ : ∀ c a w, Q (.panic c) (a.put oi.dst undef) w → Q (.panic c) a w := by exact fun _ _ _ h => h) : wpAnyLast P md ops Q S ds (fuel + 1) l a w :=
  pure_ l' hi hN hc hQ (Or.inr ⟨hw, rfl⟩) ha h
theorem sta (n : Nat) (S : World → Prop) (ds : List Nat) {id : Nat} (hS : S w.drew) (h : S w.drew → wpAnyLast P .any ops Q S ds n l a w.drew) (hm : P.follows .mixedOrders = true := by kernel_rfl) (hn : ops.size = n := by rfl)
    (hl : Array.replicate n false = l := by simp only [← List.toArray_replicate, List.replicate]; rfl) : (Code.region id ops true).wp P Q a w := start_ l hm hn hl hS h
/-- The one step that is ready: what it needs is told, what it keeps is S. -/
theorem on (i n : Nat) (h : ∀ K : Act → World → Prop, Shut (∀ a' w', S w' → (S w' → wpAnyLast P md ops Q S ds fuel l' a' w') → K a' w') → if Region.wanted oi (yielded ops a.tmps) = true then Oper.wp P oi a w K Q else K (a.put (some n) undef) w)
    (hl : l.setIfInBounds i true = l' := by simp only [List.setIfInBounds_toArray, List.set_cons_zero, List.set_cons_succ]; rfl) (hi : ops[i]? = some oi := by rfl) (hN : oi.dst = some n := by rfl)
    (hc : readyB md ops l l' i = true := by first | exact one_of HT_.out (by kernel_rfl) | kernel_rfl) (hd : i ∉ ds := by decide) : wpAnyLast P md ops Q S ds (fuel + 1) l a w := one_ l' hi hN hc hd h
theorem on0 (i : Nat) (h : ∀ K : Act → World → Prop, Shut (∀ a' w', S w' → (S w' → wpAnyLast P md ops Q S ds fuel l' a' w') → K a' w') → if Region.wanted oi (yielded ops a.tmps) = true then Oper.wp P oi a w K Q else K (a.put none undef) w)
    (hl : l.setIfInBounds i true = l' := by simp only [List.setIfInBounds_toArray, List.set_cons_zero, List.set_cons_succ]; rfl) (hi : ops[i]? = some oi := by rfl) (hN : oi.dst = none := by rfl)
    (hc : readyB md ops l l' i = true := by first | exact one_of HT_.out (by kernel_rfl) | kernel_rfl) (hd : i ∉ ds := by decide) : wpAnyLast P md ops Q S ds (fuel + 1) l a w := one_ l' hi hN hc hd h
theorem la (i n : Nat) (h : ∀ K : Act → World → Prop, Shut (∀ a' w', wpAnyLast P md ops Q S ds fuel l' a' w' → K a' w') → if Region.wanted oi (yielded ops a.tmps) = true then Oper.wp P oi a w K Q else K (a.put (some n) undef) w)
    (hl : l.setIfInBounds i true = l' := by simp only [List.setIfInBounds_toArray, List.set_cons_zero, List.set_cons_succ]; rfl) (hi : ops[i]? = some oi := by rfl) (hN : oi.dst = some n := by rfl)
    (hc : readyB md ops l l' i = true := by first | exact one_of HT_.out (by kernel_rfl) | kernel_rfl) (hd : i ∈ ds := by decide) : wpAnyLast P md ops Q S ds (fuel + 1) l a w := last_ l' hi hN hc hd h
theorem la0 (i : Nat) (h : ∀ K : Act → World → Prop, Shut (∀ a' w', wpAnyLast P md ops Q S ds fuel l' a' w' → K a' w') → if Region.wanted oi (yielded ops a.tmps) = true then Oper.wp P oi a w K Q else K (a.put none undef) w)
    (hl : l.setIfInBounds i true = l' := by simp only [List.setIfInBounds_toArray, List.set_cons_zero, List.set_cons_succ]; rfl) (hi : ops[i]? = some oi := by rfl) (hN : oi.dst = none := by rfl)
    (hc : readyB md ops l l' i = true := by first | exact one_of HT_.out (by kernel_rfl) | kernel_rfl) (hd : i ∈ ds := by decide) : wpAnyLast P md ops Q S ds (fuel + 1) l a w := last_ l' hi hN hc hd h
theorem va {N : Option Tmp} {w1 : World} {v : Value} {K : Act → World → Prop} (h : K (a.put N v) w1) (hw : Region.wanted oi (yielded ops a.tmps) = true := by rfl) (hN : oi.dst = N := by rfl)
    (hrun : (execOp a.eval oi).run P w = .ok (.value v) w1 := by go_simp; constructor <;> rfl) : if Region.wanted oi (yielded ops a.tmps) = true then Oper.wp P oi a w K Q else K (a.put N undef) w := value_ hw hN hrun h
theorem sk {w1 : World} {K : Act → World → Prop} (h : K a w1) (hw : Region.wanted oi (yielded ops a.tmps) = true := by rfl) (hN : oi.dst = none := by rfl)
    (hrun : (execOp a.eval oi).run P w = .ok .skip w1 := by go_simp; rfl) : if Region.wanted oi (yielded ops a.tmps) = true then Oper.wp P oi a w K Q else K (a.put none undef) w := skip_ hw hN hrun h
theorem dn {n : Nat} (h : Q .normal a w) (hr : (Region.ready md ops l == []) = true := by first | exact done_of HT_.out (by kernel_rfl) | kernel_rfl) : wpAnyLast P md ops Q S ds n l a w := done_ hr h
end
theorem ca {w : World} {p : Addr} {v : Value} {o : Obj} (h : w.cell? p = some v) : (w.alloc o).cell? p = some v := (World.cell?_alloc_lt _ _ _ (World.block_lt_of_cell? _ _ h)).trans h
theorem cx {W W' : World} {g t : Nat} {cs : Array Value} {v : Value} (h : Aside0 (W.heap[g]? = some (.cells cs t (0, 0)))) (j : Nat) [k : Bf g W W'] (e : cs[j]? = some v := by rfl) : W'.cell? ⟨g, j, none⟩ = some v := (blk_cell (bf h.out) j).trans e
theorem cw {w W : World} (hb : Below w.heap.size w W) {a : Addr} {v : Value} (c : w.cell? a = some v) : W.cell? a = some v := (hb.cell (World.block_lt_of_cell? _ _ c)).trans c
section
variable {α β : Type} {d : Kd α} {d' : Kd β} {e e' base base' : Nat} {ok ok' : Nat → Prop} {V W W' w1 : World} {u v : Value} {xs : List α} {ys : List β}
theorem qf (h : d.Q e W base ok v xs) [k : Rf W W'] : d.Q e W' base ok v xs := Kd.Q_below h k.out
theorem qb (h : Aside0 (d.Q e W base ok v xs)) (hb : Below W'.heap.size W' w1) [k : Rf W W'] : Aside0 (d.Q e w1 base ok v xs) := ⟨Kd.Q_below (qf h.out) hb⟩
theorem qd (h : Aside0 (d.Q e W base ok v xs)) : Aside0 (d.Q e W.drew base ok v xs) := ⟨Kd.Q_drew h.out⟩
theorem ql (h : Aside0 (d.Q e W base ok v xs)) [k : Rf W W'] : ∀ k, v.ownBlock = some k → k < W'.heap.size := Kd.Q_lt (qf h.out)
theorem rk (h : Aside0 (d.R e W base ok v xs)) [k : Rf W W'] : ∀ k, v.ownBlock = some k → k < W'.heap.size := Kd.R_lt (rl h.out)
theorem qe (h : Aside0 (d.Q e W base ok u xs)) (h' : d'.R e' w1 W'.heap.size ok' v ys) (hb : Below W'.heap.size W' w1) [k : Rf W W'] : Aside0 (d.Q e w1 base (fun k => ok k ∧ some k ≠ v.ownBlock) u xs) := ⟨Kd.Q_elder' (qf h.out) (Kd.R_base h') hb⟩
theorem qeq (h : Aside0 (d.Q e W base ok u xs)) (h' : d'.Q e' w1 W'.heap.size ok' v ys) (hb : Below W'.heap.size W' w1) [k : Rf W W'] : Aside0 (d.Q e w1 base (fun k => ok k ∧ some k ≠ v.ownBlock) u xs) := ⟨Kd.Q_elder' (qf h.out) (Kd.Q_base h') hb⟩
theorem re (h : Aside0 (d.R e W base ok u xs)) (h' : d'.R e' w1 W'.heap.size ok' v ys) (hb : Below W'.heap.size W' w1) [k : Rf W W'] : Aside0 (d.R e w1 base (fun k => ok k ∧ some k ≠ v.ownBlock) u xs) := ⟨Kd.R_elder' (rl h.out) (Kd.R_base h') hb⟩
theorem req (h : Aside0 (d.R e W base ok u xs)) (h' : d'.Q e' w1 W'.heap.size ok' v ys) (hb : Below W'.heap.size W' w1) [k : Rf W W'] : Aside0 (d.R e w1 base (fun k => ok k ∧ some k ≠ v.ownBlock) u xs) := ⟨Kd.R_elder' (rl h.out) (Kd.Q_base h') hb⟩
theorem cq {A : Option Addr} {n c : Nat} (h : Aside0 (d.Q e W base ok (.slice A n c) xs)) [k : Rf W W'] : d.C W' A xs.length xs := Kd.C_below (Kd.Q_reads' h.out).2.2 k.out
theorem cc {A : Option Addr} {n c : Nat} (h : Aside0 (d.R e W base ok (.slice A n c) xs)) : n ≤ c := (Kd.R_reads' h.out).2.1
theorem cd {A : Option Addr} {n c : Nat} (h : Aside0 (d.Q e W base ok (.slice A n c) xs)) : n ≤ c := (Kd.Q_reads' h.out).2.1
/-- A row that a cut may have made, behind stores into a block of another type. -/
theorem qt (h : d.Q e W base ok v xs) {g t : Nat} {cells : Array Value} (hb : W.heap[g]? = some (.cells cells t (0, 0))) (ht : ∀ q, q ∈ e :: d.E → q ≠ t) [k : Sf g W W'] : d.Q e W' base ok v xs :=
  Kd.Q_mono (Kd.Q_step (Kd.Q_types h hb ht) (fun q hq hl => k.out.2 q hl hq.2)) (fun _ hq => hq.1)
/-- The same, told of another world (of the stores' name). -/
theorem rw_ (h : Aside0 (d.R e W base ok v xs)) {g t : Nat} {cells : Array Value} (hb : W.heap[g]? = some (.cells cells t (0, 0))) (k : Sf g W W') (ok' : Nat → Prop) (m : ∀ k, ok k → ok' k := by exact fun _ h => h) (ht : ∀ q, q ∈ e :: d.E → q ≠ t := by decide) : Aside0 (d.R e W' base ok' v xs) := ⟨Kd.R_mono (rt h.out hb ht) m⟩
end
end Go.Proofs.Ytohmemckdogljaa.Bl
