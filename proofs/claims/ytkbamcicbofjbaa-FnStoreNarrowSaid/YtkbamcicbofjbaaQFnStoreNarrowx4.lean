/- Contracts of the Go functions that this law reaches: each does what its plain Lean function says. No condition. -/
import Derived.Test.YtkbamcicbofjbaaQFnStoreNarrowx0
namespace Go.Proofs.Ytkbamcicbofjbaa.QFnStoreNarrow
open Go.RowKit Go.Proofs.YtkbamcicbofjbaaW.PrintWords Go.Proofs.YtkbamcicbofjbaaW.PrintLast Go.Proofs.YtkbamcicbofjbaaW.PrintMore Go.Proofs.Ytkbamcicbofjbaa.Bl
attribute [local go_sem] max2_int min2_int max_two min_two max_three min_three max_four min_four   -- for this text's walks alone
set_option linter.unusedVariables false
set_option linter.unusedSimpArgs false
set_option maxHeartbeats 8000000
set_option maxRecDepth 100000

/-- A state of type 46 at block g of W; what its slices lead to came in by w0. -/
def IsS46 (w0 W : World) (g : Nat) (f0 : List Int) (f1 : Int) : Prop := ∃ s z, W.heap[g]? = some (.cells #[.slice s f0.length z, .int .i64 f1] 46 (0, 0)) ∧ w0.heap.size ≤ g ∧ Kd.C (Kd.int .u8) w0 s f0.length f0
theorem IsS46.grown {w0 W : World} {g : Nat} {f0 : List Int} {f1 : Int} {W1 : World} {row : Option Nat} (h : IsS46 w0 W g f0 f1) (hw : W.grownBy W1 row) (hne : some g ≠ row) : IsS46 w0 W1 g f0 f1 := by
 obtain ⟨s, z, hb, hg, D⟩ := h
 exact ⟨s, z, blk_grown hb hw hne, hg, D⟩
theorem IsS46.own_neN {w0 W : World} {g : Nat} {f0 : List Int} {f1 : Int} {α : Type} {d : Kd α} {e : Nat} {base : Nat} {ok : Nat → Prop} {v : Value} {xs : List α} (h : IsS46 w0 W g f0 f1) (ho : Kd.N d e W base ok v xs) (ht : e ≠ 46) : some g ≠ v.ownBlock := by
 obtain ⟨s, z, hb, hg, D⟩ := h
 exact Kd.N_ne ho hb ht
theorem IsS46.fresh {w0 W : World} {g : Nat} {f0 : List Int} {f1 : Int} (h : IsS46 w0 W g f0 f1) : ∀ k, W.heap.size ≤ k → k ≠ g := by
 obtain ⟨s, z, hb, hg, D⟩ := h
 exact Kd.freshB hb
theorem IsS46.kept {w0 W : World} {g : Nat} {f0 : List Int} {f1 : Int} {W1 : World} {S : Nat → Prop} (h : IsS46 w0 W g f0 f1) (hk : Kept W W1 S) (hne : ¬ S g) : IsS46 w0 W1 g f0 f1 := by
 obtain ⟨s, z, hb, hg, D⟩ := h
 exact ⟨s, z, blk_kept hb hk hne, hg, D⟩
theorem IsS46.below {w0 W : World} {g : Nat} {f0 : List Int} {f1 : Int} {W1 : World} (h : IsS46 w0 W g f0 f1) (hw : Below W.heap.size W W1) : IsS46 w0 W1 g f0 f1 := h.grown (grown_of_below hw none) (by simp)
theorem IsS46.alloc {w0 W : World} {g : Nat} {f0 : List Int} {f1 : Int} (h : IsS46 w0 W g f0 f1) (o : Obj) : IsS46 w0 (W.alloc o) g f0 f1 := h.below (below_alloc (Below.refl _ _) o)
theorem IsS46.drewN {w0 W : World} {g : Nat} {f0 : List Int} {f1 : Int} (h : IsS46 w0 W g f0 f1) (m : Nat) : IsS46 w0 (W.drewN m) g f0 f1 := h
theorem IsS46.drew {w0 W : World} {g : Nat} {f0 : List Int} {f1 : Int} (h : IsS46 w0 W g f0 f1) : IsS46 w0 W.drew g f0 f1 := h
theorem IsS46.at_ {w0 W : World} {g : Nat} {f0 : List Int} {f1 : Int} {w' : World} {m : Nat} (hq : W.drewN m = w') (h : IsS46 w0 W g f0 f1) : IsS46 w0 w' g f0 f1 := by subst hq; exact IsS46.drewN h m
theorem IsS46.apart {w0 W : World} {g : Nat} {f0 : List Int} {f1 : Int} {α : Type} {d : Kd α} {e : Nat} {base : Nat} {ok : Nat → Prop} {v : Value} {xs : List α} (h : IsS46 w0 W g f0 f1) (ho : d.R e W base ok v xs) (ht : ∀ q, q ∈ e :: d.E → q ≠ 46) : d.R e W base (fun k => ok k ∧ k ≠ g) v xs := by
 obtain ⟨s, z, hb, hg, D⟩ := h
 exact Kd.R_types ho hb ht
theorem IsS46.own_ne {w0 W : World} {g : Nat} {f0 : List Int} {f1 : Int} {α : Type} {d : Kd α} {e : Nat} {base : Nat} {ok : Nat → Prop} {v : Value} {xs : List α} (h : IsS46 w0 W g f0 f1) (ho : d.R e W base ok v xs) (ht : e ≠ 46) : some g ≠ v.ownBlock := by
 obtain ⟨s, z, hb, hg, D⟩ := h
 exact Kd.R_ne ho hb ht
theorem IsS46.apartQ {w0 W : World} {g : Nat} {f0 : List Int} {f1 : Int} {α : Type} {d : Kd α} {e : Nat} {base : Nat} {ok : Nat → Prop} {v : Value} {xs : List α} (h : IsS46 w0 W g f0 f1) (ho : d.Q e W base ok v xs) (ht : ∀ q, q ∈ e :: d.E → q ≠ 46) : d.Q e W base (fun k => ok k ∧ k ≠ g) v xs := by
 obtain ⟨s, z, hb, hg, D⟩ := h
 exact Kd.Q_types ho hb ht
theorem IsS46.own_neQ {w0 W : World} {g : Nat} {f0 : List Int} {f1 : Int} {α : Type} {d : Kd α} {e : Nat} {base : Nat} {ok : Nat → Prop} {v : Value} {xs : List α} (h : IsS46 w0 W g f0 f1) (ho : d.Q e W base ok v xs) (ht : e ≠ 46) : some g ≠ v.ownBlock := by
 obtain ⟨s, z, hb, hg, D⟩ := h
 exact Kd.Q_ne ho hb ht
theorem IsS46.apartS {w0 W : World} {g : Nat} {f0 : List Int} {f1 : Int} {α : Type} {d : Kd α} {e : Nat} {base : Nat} {ok : Nat → Prop} {v : Value} {xs : List α} (h : IsS46 w0 W g f0 f1) (ho : d.S e W base ok v xs) (ht : ∀ q, q ∈ e :: d.E → q ≠ 46) : d.S e W base (fun k => ok k ∧ k ≠ g) v xs := by
 obtain ⟨s, z, hb, hg, D⟩ := h
 exact Kd.S_types ho hb ht
theorem IsS46.own_neS {w0 W : World} {g : Nat} {f0 : List Int} {f1 : Int} {α : Type} {d : Kd α} {e : Nat} {base : Nat} {ok : Nat → Prop} {v : Value} {xs : List α} (h : IsS46 w0 W g f0 f1) (ho : d.S e W base ok v xs) (ht : e ≠ 46) : some g ≠ v.ownBlock := by
 obtain ⟨s, z, hb, hg, D⟩ := h
 exact Kd.S_ne ho hb ht
theorem IsS46.lt {w0 W : World} {g : Nat} {f0 : List Int} {f1 : Int} (h : IsS46 w0 W g f0 f1) : g < W.heap.size := by
 obtain ⟨s, z, hb, hg, D⟩ := h
 exact blk_lt hb
theorem IsS46.ge {w0 W : World} {g : Nat} {f0 : List Int} {f1 : Int} (h : IsS46 w0 W g f0 f1) : w0.heap.size ≤ g := by
 obtain ⟨s, z, hb, hg, D⟩ := h
 exact hg
theorem IsS46.ne_blk {w0 W : World} {g : Nat} {f0 : List Int} {f1 : Int} {a : Nat} {cs : Array Value} {t : TypeId} {fr : Nat × Nat} (h : IsS46 w0 W g f0 f1) (hb2 : W.heap[a]? = some (.cells cs t fr)) (ht : t ≠ 46) : g ≠ a := by
 obtain ⟨s, z, hb, hg, D⟩ := h
 rintro rfl
 rw [hb] at hb2
 injection hb2 with hb2
 injection hb2 with _ ht2
 exact ht ht2.symm
theorem IsS46.far {w0 W : World} {g : Nat} {f0 : List Int} {f1 : Int} {p : Addr} (h : IsS46 w0 W g f0 f1) (hne : g ≠ p.block) (u : Value) : IsS46 w0 (W.setCell p u) g f0 f1 := by
 obtain ⟨s, z, hb, hg, D⟩ := h
 exact ⟨s, z, blk_far hb hne u, hg, D⟩
theorem cellS46_0 {W : World} {g : Nat} {s : Option Addr} {z : Nat} {f0 : List Int} {f1 : Int} (h : W.heap[g]? = some (.cells #[.slice s f0.length z, .int .i64 f1] 46 (0, 0))) : W.cell? ⟨g, 0, none⟩ = some (.slice s f0.length z) := (blk_cell h 0).trans rfl
theorem cellS46_1 {W : World} {g : Nat} {s : Option Addr} {z : Nat} {f0 : List Int} {f1 : Int} (h : W.heap[g]? = some (.cells #[.slice s f0.length z, .int .i64 f1] 46 (0, 0))) : W.cell? ⟨g, 1, none⟩ = some (.int .i64 f1) := (blk_cell h 1).trans rfl
theorem IsS46.set_1 {w0 W : World} {g : Nat} {f0 : List Int} {f1 : Int} (h : IsS46 w0 W g f0 f1) (x : Int) : IsS46 w0 (W.setCell ⟨g, 1, none⟩ (.int .i64 x)) g f0 x := by
 obtain ⟨z, D, hb, hg, G⟩ := h
 exact ⟨z, D, by simpa using blk_set hb 1 (.int .i64 x), hg, G⟩
theorem IsS46.new (w0 W : World) (s : Option Addr) (z : Nat) (f0 : List Int) (f1 : Int) (hB : Below w0.heap.size w0 W) (D : Kd.C (Kd.int .u8) w0 s f0.length f0) : IsS46 w0 (W.alloc (.cells #[.slice s f0.length z, .int .i64 f1] 46)) W.heap.size f0 f1 := ⟨s, z, by simpa using heap_alloc_new W _, hB.size, D⟩
/-- What stays of the state behind draws, new blocks, stores. -/
class Hs (w0 W W' : World) (g : Nat) (f0 : List Int) (f1 : Int) (f2 : outParam Int) : Prop where out : IsS46 w0 W g f0 f1 → IsS46 w0 W' g f0 f2
instance {w0 W : World} {g : Nat} {f0 : List Int} {f1 : Int} : Hs w0 W W g f0 f1 f1 := ⟨id⟩
instance {w0 W W' : World} {g : Nat} {f0 : List Int} {f1 f2 : Int} [h : Hs w0 W W' g f0 f1 f2] : Hs w0 W W'.drew g f0 f1 f2 := ⟨fun x => IsS46.drew (h.out x)⟩
instance {w0 W W' : World} {g : Nat} {f0 : List Int} {f1 f2 : Int} [h : Hs w0 W W' g f0 f1 f2] (m : Nat) : Hs w0 W (W'.drewN m) g f0 f1 f2 := ⟨fun x => IsS46.drewN (h.out x) m⟩
instance {w0 W W' : World} {g : Nat} {f0 : List Int} {f1 f2 : Int} [h : Hs w0 W W' g f0 f1 f2] (o : Obj) : Hs w0 W (W'.alloc o) g f0 f1 f2 := ⟨fun x => IsS46.alloc (h.out x) o⟩
instance {w0 W W' : World} {g b j : Nat} {v : Value} {f0 : List Int} {f1 f2 : Int} [h : Hs w0 W W' g f0 f1 f2] [k : Nq g b] : Hs w0 W (W'.setCell ⟨b, j, none⟩ v) g f0 f1 f2 := ⟨fun x => IsS46.far (h.out x) k.out v⟩
instance {w0 W W' : World} {g : Nat} {y : Int} {f0 : List Int} {f1 f2 : Int} [h : Hs w0 W W' g f0 f1 f2] : Hs w0 W (W'.setCell ⟨g, 1, none⟩ (.int .i64 y)) g f0 f1 y := ⟨fun x => IsS46.set_1 (h.out x) y⟩
theorem iis {w0 W W' : World} {g : Nat} {f0 : List Int} {f1 f2 : Int} (h : IsS46 w0 W g f0 f1) [k : Hs w0 W W' g f0 f1 f2] : IsS46 w0 W' g f0 f2 := k.out h
theorem ib {w0 W W' W2 : World} {g : Nat} {f0 : List Int} {f1 f2 : Int} (h : Aside0 (IsS46 w0 W g f0 f1)) (hb : Below W'.heap.size W' W2) [k : Hs w0 W W' g f0 f1 f2] : Aside0 (IsS46 w0 W2 g f0 f2) := ⟨IsS46.below (k.out h.out) hb⟩
theorem nlt {w0 W W' : World} {g q : Nat} {f0 : List Int} {f1 f2 : Int} (h : Aside0 (IsS46 w0 W g f0 f1)) (hg : q = W'.heap.size) [k : Hs w0 W W' g f0 f1 f2] : Nq g q := ⟨by rw [hg]; exact Nat.ne_of_lt (IsS46.lt (k.out h.out))⟩
theorem ro {α : Type} {d : Kd α} {e base : Nat} {ok : Nat → Prop} {v : Value} {xs : List α} {w0 W V W' W2 : World} {g : Nat} {f0 : List Int} {f1 f2 : Int} (r : Aside0 (d.R e V base ok v xs)) (h : Aside0 (IsS46 w0 W g f0 f1)) (hk : KeepBut W' W2 g none) [j : Rf V W'] [k : Hs w0 W W' g f0 f1 f2]
    (ht : ∀ q, q ∈ e :: d.E → q ≠ 46 := by decide) : Aside0 (d.R e W2 base ok v xs) := ⟨Kd.R_mono (Kd.R_keep (IsS46.apart (k.out h.out) (rl r.out) ht) hk (fun _ h => h.2)) (fun _ h => h.1)⟩
theorem rp {α : Type} {d : Kd α} {e base : Nat} {ok : Nat → Prop} {v : Value} {xs : List α} {w0 W V W' W2 : World} {g p t : Nat} {cs : Array Value} {f0 : List Int} {f1 f2 : Int} (r : Aside0 (d.R e V base ok v xs)) (b : Aside0 (V.heap[p]? = some (.cells cs t (0, 0)))) (h : Aside0 (IsS46 w0 W g f0 f1))
    (hk : KeepBut W' W2 g none) [j : Sf p V W'] [k : Hs w0 W W' g f0 f1 f2] (hp : ∀ q, q ∈ e :: d.E → q ≠ t := by decide) (ht : ∀ q, q ∈ e :: d.E → q ≠ 46 := by decide) : Aside0 (d.R e W2 base ok v xs) :=
  ⟨Kd.R_mono (Kd.R_keep (IsS46.apart (k.out h.out) (rt r.out b.out hp) ht) hk (fun _ h => h.2)) (fun _ h => h.1)⟩

/-! ### spec_l9Open: function 10 -/
def spec_l9Open.f (l0 : List Int) : Option (List Int × Int) := if (l0.length : Int) > 2000 then (if 2000 ≤ (l0.length : Int) then (some (l0.take 2000, 0)) else (none)) else (some (l0, 0))
theorem spec_l9Open.calls (z : Option Addr) (D : Nat) (l0 : List Int) (L : List Int) (O : Int) (w0 w : World) (hB : Below w0.heap.size w0 w) (T : Kd.C (Kd.int .u8) w0 z l0.length l0) (X : l0.length ≤ D) (h : spec_l9Open.f l0 = some (L, O)) :
  Calls Try.prog 10 #[.slice z l0.length D] w fun e w' => ∃ g_ : Nat, e = .returned (.pointer (some ⟨g_, 0, none⟩)) ∧ IsS46 w0 w' g_ L O ∧ Below w0.heap.size w0 w' ∧ Below w.heap.size w w' := by
 have hu46 := Try.underlying46
 have Y := am T
 have ag := am X
 clear T X
 have HBW := am (Below.refl w.heap.size w)
 have Z := am hB.size
 have HB := am hB
 clear hB
 have H := h; unfold spec_l9Open.f at H
 clear h
 by_cases s : (l0.length : Int) > 2000
 ·rw [if_pos s] at H
  have ah : decide (2000 < (l0.length : Int)) = true := decide_eq_true s
  have ai : decide (2000 < l0.length) = true := decide_eq_true (by omega)
  clear s
  by_cases G : 2000 ≤ (l0.length : Int)
  ·rw [if_pos G] at H
   have ar := eq_true G
   have au : decide (2000 ≤ (l0.length : Int)) = true := decide_eq_true G
   clear G
   simp only [Option.some.injEq, Prod.mk.injEq] at H
   obtain ⟨rfl, rfl⟩ := H
   obtain ⟨av, aa, _, ab, _⟩ := info_parts info5
   obtain ⟨aw, ac, ae⟩ := print_take_of (P := Try.prog) (Value.int .u8) 0 22 5 .i64 Try.underlying22 aa ab z D l0 2000 (by omega) (oda) ag.out
   have aj := am (Kd.C_of_reads (h1 := fun _ => rfl) (ac _ (Kd.reads_of_C Y.out)))
   have ax := am ae
   clear ac ae aa ab
   go_enter Try.func10, Try.ntmps10
   go_wp2_with (first | ((with_reducible refine gd 10 rfl ?_); refine bx 10 (cs := #[.slice z (l0.take 2000).length D, .int .i64 0]) (t := 46) ?_; intro I hg w5 hbox hb; replace HB := hs HB hb; have ak := am hbox; have al := Ge.mk ((by rw [hg]; exact (below_size (by repeat (first | (with_reducible first | exact HBW.out | apply below_alloc | apply pw_below_drewN | apply below_drew1) | exact HBW.out))) : w.heap.size ≤ I)); have an := Ge.mk ((Nat.le_trans Z.out (by rw [hg]; exact (below_size (by repeat (first | (with_reducible first | exact HBW.out | apply below_alloc | apply pw_below_drewN | apply below_drew1) | exact HBW.out))) : w.heap.size ≤ I) : w0.heap.size ≤ I)); replace HBW := am (below_step HBW.out hb); clear hb hbox hg))
   go_ret
   exact ⟨_, rfl, (show IsS46 w0 _ I (l0.take 2000) 0 from ⟨_, _, by exact bf ak.out, an.out, aj.out⟩), bs HB.out, by repeat (first | (with_reducible first | exact HBW.out | apply below_alloc | apply pw_below_drewN | apply below_drew1 | refine below_set ?_ al.out) | exact HBW.out)⟩
  ·rw [if_neg G] at H
   exact absurd H (by simp)
 ·rw [if_neg s] at H
  have ah : decide (2000 < (l0.length : Int)) = false := decide_eq_false s
  have ai : decide (2000 < l0.length) = false := decide_eq_false (by omega)
  clear s
  simp only [Option.some.injEq, Prod.mk.injEq] at H
  obtain ⟨rfl, rfl⟩ := H
  go_enter Try.func10, Try.ntmps10
  go_wp2_with (first | ((with_reducible refine gd 10 rfl ?_); refine bx 10 (cs := #[.slice z l0.length D, .int .i64 0]) (t := 46) ?_; intro J hg w6 hbox hb; replace HB := hs HB hb; have ao := am hbox; have ap := Ge.mk ((by rw [hg]; exact (below_size (by repeat (first | (with_reducible first | exact HBW.out | apply below_alloc | apply pw_below_drewN | apply below_drew1) | exact HBW.out))) : w.heap.size ≤ J)); have aq := Ge.mk ((Nat.le_trans Z.out (by rw [hg]; exact (below_size (by repeat (first | (with_reducible first | exact HBW.out | apply below_alloc | apply pw_below_drewN | apply below_drew1) | exact HBW.out))) : w.heap.size ≤ J) : w0.heap.size ≤ J)); replace HBW := am (below_step HBW.out hb); clear hb hbox hg))
  go_ret
  exact ⟨_, rfl, (show IsS46 w0 _ J l0 0 from ⟨_, _, by exact bf ao.out, aq.out, Y.out⟩), bs HB.out, by repeat (first | (with_reducible first | exact HBW.out | apply below_alloc | apply pw_below_drewN | apply below_drew1 | refine below_set ?_ ap.out) | exact HBW.out)⟩

/-! ### spec_l9Rd_pick: function 18 -/
def spec_l9Rd_pick.j0 : Nat → Int → Bool → List Int → Int → Option (Int × Int)
 | 0, _, _, _, _ => none
 | k + 1, D, G, s, z => if G = true then (some (0, z)) else (if (wrap64 (z - 1)) < (s.length : Int) then (if 0 ≤ (wrap64 (z - 1)) then (if D = 0 then (none) else (some (Int.tmod (wrap64 (rd s (wrap64 (z - 1)))) D, z))) else (none)) else (if (s.length : Int) = 0 then (none) else (if 0 ≤ (Int.tmod (wrap64 (z - 1)) (s.length : Int)) then (if (Int.tmod (wrap64 (z - 1)) (s.length : Int)) < (s.length : Int) then (if 0 ≤ (Int.tmod (wrap64 ((wrap64 ((wrap64 (z - 1)) * 7)) + 3)) (s.length : Int)) then (if (Int.tmod (wrap64 ((wrap64 ((wrap64 (z - 1)) * 7)) + 3)) (s.length : Int)) < (s.length : Int) then (if D = 0 then (none) else (some (Int.tmod (Go.bits .xor .i64 (wrap64 ((wrap64 ((wrap64 ((wrap64 ((wrap64 (rd s (Int.tmod (wrap64 (z - 1)) (s.length : Int)))) * 131)) + (wrap64 ((wrap64 (rd s (Int.tmod (wrap64 ((wrap64 ((wrap64 (z - 1)) * 7)) + 3)) (s.length : Int)))) * 1117)))) + (wrap64 ((wrap64 (z - 1)) * 29)))) + (wrap64 ((wrap64 (Int.tdiv (wrap64 (z - 1)) (s.length : Int))) * 53)))) (wrap64 (Int.tdiv (wrap64 ((wrap64 ((wrap64 ((wrap64 ((wrap64 (rd s (Int.tmod (wrap64 (z - 1)) (s.length : Int)))) * 131)) + (wrap64 ((wrap64 (rd s (Int.tmod (wrap64 ((wrap64 ((wrap64 (z - 1)) * 7)) + 3)) (s.length : Int)))) * 1117)))) + (wrap64 ((wrap64 (z - 1)) * 29)))) + (wrap64 ((wrap64 (Int.tdiv (wrap64 (z - 1)) (s.length : Int))) * 53)))) 64))) D, z))) else (none)) else (none)) else (none)) else (none))))
def spec_l9Rd_pick.f (k : Nat) (s : List Int) (D : Int) (z : Int) : Option (Int × Int) := if z < 1 then (spec_l9Rd_pick.j0 k z true s (wrap64 (D + 1))) else (spec_l9Rd_pick.j0 k z ((s.length : Int) == 0) s (wrap64 (D + 1)))
theorem spec_l9Rd_pick.calls (k : Nat) (g : Nat) (s : List Int) (z : Int) (D : Int) (L : Int) (O : Int) (w0 w : World) (hI : IsS46 w0 w g s z) (hB : Below w0.heap.size w0 w) (h : spec_l9Rd_pick.f k s z D = some (L, O)) :
  Calls Try.prog 18 #[.pointer (some ⟨g, 0, none⟩), .int .i64 D] w fun e w' => e = .returned (.int .i64 L) ∧ IsS46 w0 w' g s O ∧ Below w0.heap.size w0 w' ∧ KeepBut w w' g none := by
 have I := am hI
 have GEg_ : Ge w0 g := ⟨IsS46.ge I.out⟩
 have HK := am (KeepBut.refl w g none)
 have HL := am hB.size
 clear hI
 have aY := am hB.size
 have HB := am hB
 clear hB
 have H := h; unfold spec_l9Rd_pick.f at H
 clear h
 have ar := am H
 clear H
 obtain ⟨aZ, a3, ae, aH, a4⟩ := I.out
 have aI := cellS46_0 ae
 have aJ := cellS46_1 ae
 have aK := blk_frozen ae 1
 clear ae aH
 go_enter Try.func18, Try.ntmps18
 go_upto_region 2 with (fail)
 repeat (go_quiet (fail); go_upto_region 2 with (fail))
 go_cut [24] (fun aL wc => ∃ (kq : Nat) (af : Bool), aL = .bool af ∧ Aside0 (spec_l9Rd_pick.j0 kq D af s (wrap64 (z + 1)) = some (L, O)) ∧ Aside0 (kq ≤ k) ∧ Aside0 (IsS46 w0 wc g s (wrap64 (z + 1))) ∧ Aside0 (KeepBut w wc g none) ∧ Aside0 (Below w0.heap.size w0 wc))
 case first =>
  have H := ar.out
  clear ar
  by_cases X : D < 1
  ·rw [if_pos X] at H
   have Y : decide (D < 1) = true := decide_eq_true X
   clear X
   (first | rw [Y] | (simp only [i64_w, i32_w]; rw [Y]) | skip)
   have H' := am H
   clear H
   go_wp2
   repeat (go_quiet (fail); try go_wp2)
   go_meet
   case rel => exact ⟨_, (true), eqs, H', ⟨by first | omega | exact Nat.le_refl _⟩, ⟨iis I.out⟩, ⟨ks HK.out⟩, ⟨bs HB.out⟩⟩
  ·rw [if_neg X] at H
   have Y : decide (D < 1) = false := decide_eq_false X
   clear X
   (first | rw [Y] | (simp only [i64_w, i32_w]; rw [Y]) | skip)
   have H' := am H
   clear H
   obtain ⟨a5, a6, ag, aM, a7⟩ := I.out
   have aN := cellS46_0 ag
   have aO := cellS46_1 ag
   have aP := blk_frozen ag 1
   clear ag aM
   go_wp2
   repeat (go_quiet (fail); try go_wp2)
   go_meet
   case rel => exact ⟨_, (((s.length : Int) == 0)), eqs, H', ⟨by first | omega | exact Nat.le_refl _⟩, ⟨iis I.out⟩, ⟨ks HK.out⟩, ⟨bs HB.out⟩⟩
 case rest =>
  clear ar
  try clear c1
  try clear p2
  try clear X
  try clear Y
  try clear p6
  try clear aI aJ
  try clear aN aO
  try clear aK
  try clear aP
  obtain ⟨kq, af, rfl, HA, a8, I, HK, HB⟩ := hcut
  cases kq with
  | zero => exact absurd HA.out (by simp [spec_l9Rd_pick.j0])
  | succ a9 =>
   have H := HA.out
   clear HA
   simp only [spec_l9Rd_pick.j0] at H
   by_cases c7 : af = true
   ·subst c7
    replace H : (some (0, (wrap64 (z + 1)))) = some (L, O) := by rw [if_pos rfl] at H; exact H
    simp only [Option.some.injEq, Prod.mk.injEq] at H
    obtain ⟨rfl, rfl⟩ := H
    go_wp2
    repeat (go_quiet (fail); try go_wp2)
    go_ret
    exact ⟨eqr, iis I.out, bs HB.out, ks HK.out⟩
   ·replace c7 := Bool.eq_false_iff.mpr c7
    subst c7
    have H1 : (if (wrap64 ((wrap64 (z + 1)) - 1)) < (s.length : Int) then (if 0 ≤ (wrap64 ((wrap64 (z + 1)) - 1)) then (if D = 0 then (none) else (some (Int.tmod (wrap64 (rd s (wrap64 ((wrap64 (z + 1)) - 1)))) D, (wrap64 (z + 1))))) else (none)) else (if (s.length : Int) = 0 then (none) else (if 0 ≤ (Int.tmod (wrap64 ((wrap64 (z + 1)) - 1)) (s.length : Int)) then (if (Int.tmod (wrap64 ((wrap64 (z + 1)) - 1)) (s.length : Int)) < (s.length : Int) then (if 0 ≤ (Int.tmod (wrap64 ((wrap64 ((wrap64 ((wrap64 (z + 1)) - 1)) * 7)) + 3)) (s.length : Int)) then (if (Int.tmod (wrap64 ((wrap64 ((wrap64 ((wrap64 (z + 1)) - 1)) * 7)) + 3)) (s.length : Int)) < (s.length : Int) then (if D = 0 then (none) else (some (Int.tmod (Go.bits .xor .i64 (wrap64 ((wrap64 ((wrap64 ((wrap64 ((wrap64 (rd s (Int.tmod (wrap64 ((wrap64 (z + 1)) - 1)) (s.length : Int)))) * 131)) + (wrap64 ((wrap64 (rd s (Int.tmod (wrap64 ((wrap64 ((wrap64 ((wrap64 (z + 1)) - 1)) * 7)) + 3)) (s.length : Int)))) * 1117)))) + (wrap64 ((wrap64 ((wrap64 (z + 1)) - 1)) * 29)))) + (wrap64 ((wrap64 (Int.tdiv (wrap64 ((wrap64 (z + 1)) - 1)) (s.length : Int))) * 53)))) (wrap64 (Int.tdiv (wrap64 ((wrap64 ((wrap64 ((wrap64 ((wrap64 (rd s (Int.tmod (wrap64 ((wrap64 (z + 1)) - 1)) (s.length : Int)))) * 131)) + (wrap64 ((wrap64 (rd s (Int.tmod (wrap64 ((wrap64 ((wrap64 ((wrap64 (z + 1)) - 1)) * 7)) + 3)) (s.length : Int)))) * 1117)))) + (wrap64 ((wrap64 ((wrap64 (z + 1)) - 1)) * 29)))) + (wrap64 ((wrap64 (Int.tdiv (wrap64 ((wrap64 (z + 1)) - 1)) (s.length : Int))) * 53)))) 64))) D, (wrap64 (z + 1))))) else (none)) else (none)) else (none)) else (none)))) = some (L, O) := by rw [if_neg (show ¬ (false = true) by decide)] at H; exact H
    clear H
    have H := H1
    clear H1
    by_cases Z : (wrap64 ((wrap64 (z + 1)) - 1)) < (s.length : Int)
    ·rw [if_pos Z] at H
     have aC : decide ((wrap64 ((wrap64 (z + 1)) - 1)) < (s.length : Int)) = true := decide_eq_true Z
     clear Z
     obtain ⟨T, aa⟩ : ∃ j_ : Int, (wrap64 ((wrap64 (z + 1)) - 1)) = j_ := ⟨_, rfl⟩
     replace H : (if 0 ≤ (T) then (if D = 0 then (none) else (some (Int.tmod (wrap64 (rd s (T))) D, (wrap64 (z + 1))))) else (none)) = some (L, O) := by first | (rw [aa] at H; exact H) | (simp only [aa] at H ⊢; exact H)
     (try rw [aa] at aC)
     have ba : (IntKind.i64.wrap ((wrap64 (z + 1)) - 1)) = T := (i64_w _).trans aa
     by_cases ah : 0 ≤ (T)
     ·rw [if_pos ah] at H
      have bc : decide (0 ≤ (T)) = true := decide_eq_true ah
      clear ah
      by_cases ai : D = 0
      ·rw [if_pos ai] at H
       exact absurd H (by simp)
      ·rw [if_neg ai] at H
       have be : (D == 0) = false := beq_eq_false_iff_ne.mpr ai
       have bg : (D != 0) = true := bne_iff_ne.mpr ai
       simp only [Option.some.injEq, Prod.mk.injEq] at H
       obtain ⟨rfl, rfl⟩ := H
       obtain ⟨bh, bi, aj, aQ, aR⟩ := I.out
       have bj := cellS46_0 aj
       have bk := cellS46_1 aj
       have bl := blk_frozen aj 1
       clear aj aQ
       have au : 0 ≤ ((T) : Int) := oda
       have av : (T) < (s.length : Int) := oda
       obtain ⟨bm, aS, aD⟩ := Kd.at_int aR (T) au av
       cases aS
       replace aD := pw_cell_below HB.out aD
       replace au := eq_true au
       replace av := eq_true av
       go_wp2
       repeat (go_quiet (fail); try go_wp2)
       go_ret
       exact ⟨by first | rfl | (simp [errW_none, errW_some] <;> rfl) | (simp only [← aa]; first | rfl | (simp [errW_none, errW_some] <;> rfl)) | (simp [*, errW_none, errW_some] <;> rfl), iis I.out, bs HB.out, ks HK.out⟩
     ·rw [if_neg ah] at H
      exact absurd H (by simp)
    ·rw [if_neg Z] at H
     have aC : decide ((wrap64 ((wrap64 (z + 1)) - 1)) < (s.length : Int)) = false := decide_eq_false Z
     clear Z
     by_cases ab : (s.length : Int) = 0
     ·rw [if_pos ab] at H
      exact absurd H (by simp)
     ·rw [if_neg ab] at H
      have bn : ((s.length : Int) == 0) = false := beq_eq_false_iff_ne.mpr ab
      have bo : ((s.length : Int) != 0) = true := bne_iff_ne.mpr ab
      have br : ¬ (s = []) := fun h_ => ab (by rw [h_]; rfl)
      obtain ⟨G, aw⟩ : ∃ j_ : Int, (Int.tmod (wrap64 ((wrap64 (z + 1)) - 1)) (s.length : Int)) = j_ := ⟨_, rfl⟩
      replace H : (if 0 ≤ (G) then (if (G) < (s.length : Int) then (if 0 ≤ (Int.tmod (wrap64 ((wrap64 ((wrap64 ((wrap64 (z + 1)) - 1)) * 7)) + 3)) (s.length : Int)) then (if (Int.tmod (wrap64 ((wrap64 ((wrap64 ((wrap64 (z + 1)) - 1)) * 7)) + 3)) (s.length : Int)) < (s.length : Int) then (if D = 0 then (none) else (some (Int.tmod (Go.bits .xor .i64 (wrap64 ((wrap64 ((wrap64 ((wrap64 ((wrap64 (rd s (G))) * 131)) + (wrap64 ((wrap64 (rd s (Int.tmod (wrap64 ((wrap64 ((wrap64 ((wrap64 (z + 1)) - 1)) * 7)) + 3)) (s.length : Int)))) * 1117)))) + (wrap64 ((wrap64 ((wrap64 (z + 1)) - 1)) * 29)))) + (wrap64 ((wrap64 (Int.tdiv (wrap64 ((wrap64 (z + 1)) - 1)) (s.length : Int))) * 53)))) (wrap64 (Int.tdiv (wrap64 ((wrap64 ((wrap64 ((wrap64 ((wrap64 (rd s (G))) * 131)) + (wrap64 ((wrap64 (rd s (Int.tmod (wrap64 ((wrap64 ((wrap64 ((wrap64 (z + 1)) - 1)) * 7)) + 3)) (s.length : Int)))) * 1117)))) + (wrap64 ((wrap64 ((wrap64 (z + 1)) - 1)) * 29)))) + (wrap64 ((wrap64 (Int.tdiv (wrap64 ((wrap64 (z + 1)) - 1)) (s.length : Int))) * 53)))) 64))) D, (wrap64 (z + 1))))) else (none)) else (none)) else (none)) else (none)) = some (L, O) := by first | (rw [aw] at H; exact H) | (simp only [aw] at H ⊢; exact H)
      by_cases ak : 0 ≤ (G)
      ·rw [if_pos ak] at H
       have bt : decide (0 ≤ (G)) = true := decide_eq_true ak
       clear ak
       by_cases al : (G) < (s.length : Int)
       ·rw [if_pos al] at H
        have bu : decide ((G) < (s.length : Int)) = true := decide_eq_true al
        clear al
        obtain ⟨J, ax⟩ : ∃ j_ : Int, (Int.tmod (wrap64 ((wrap64 ((wrap64 ((wrap64 (z + 1)) - 1)) * 7)) + 3)) (s.length : Int)) = j_ := ⟨_, rfl⟩
        replace H : (if 0 ≤ (J) then (if (J) < (s.length : Int) then (if D = 0 then (none) else (some (Int.tmod (Go.bits .xor .i64 (wrap64 ((wrap64 ((wrap64 ((wrap64 ((wrap64 (rd s (G))) * 131)) + (wrap64 ((wrap64 (rd s (J))) * 1117)))) + (wrap64 ((wrap64 ((wrap64 (z + 1)) - 1)) * 29)))) + (wrap64 ((wrap64 (Int.tdiv (wrap64 ((wrap64 (z + 1)) - 1)) (s.length : Int))) * 53)))) (wrap64 (Int.tdiv (wrap64 ((wrap64 ((wrap64 ((wrap64 ((wrap64 (rd s (G))) * 131)) + (wrap64 ((wrap64 (rd s (J))) * 1117)))) + (wrap64 ((wrap64 ((wrap64 (z + 1)) - 1)) * 29)))) + (wrap64 ((wrap64 (Int.tdiv (wrap64 ((wrap64 (z + 1)) - 1)) (s.length : Int))) * 53)))) 64))) D, (wrap64 (z + 1))))) else (none)) else (none)) = some (L, O) := by first | (rw [ax] at H; exact H) | (simp only [ax] at H ⊢; exact H)
        by_cases an : 0 ≤ (J)
        ·rw [if_pos an] at H
         have bv : decide (0 ≤ (J)) = true := decide_eq_true an
         clear an
         by_cases ao : (J) < (s.length : Int)
         ·rw [if_pos ao] at H
          have bw : decide ((J) < (s.length : Int)) = true := decide_eq_true ao
          clear ao
          by_cases ap : D = 0
          ·rw [if_pos ap] at H
           exact absurd H (by simp)
          ·rw [if_neg ap] at H
           have bz : (D == 0) = false := beq_eq_false_iff_ne.mpr ap
           have bA : (D != 0) = true := bne_iff_ne.mpr ap
           simp only [Option.some.injEq, Prod.mk.injEq] at H
           obtain ⟨rfl, rfl⟩ := H
           obtain ⟨bB, bC, aq, aT, aE⟩ := I.out
           have bD := cellS46_0 aq
           have bE := cellS46_1 aq
           have bF := blk_frozen aq 1
           clear aq aT
           have ay : 0 ≤ ((G) : Int) := oda
           have az : (G) < (s.length : Int) := oda
           obtain ⟨aU, aV, aF⟩ := Kd.at_int aE (G) ay az
           cases aV
           replace aF := pw_cell_below HB.out aF
           replace ay := eq_true ay
           replace az := eq_true az
           have aA : 0 ≤ ((J) : Int) := oda
           have aB : (J) < (s.length : Int) := oda
           obtain ⟨aW, aX, aG⟩ := Kd.at_int aE (J) aA aB
           obtain rfl : aU = aW := (by injection aX)
           replace aG := pw_cell_below HB.out aG
           replace aA := eq_true aA
           replace aB := eq_true aB
           go_wp2
           repeat (go_quiet (fail); try go_wp2)
           go_ret
           exact ⟨by first | rfl | (simp [errW_none, errW_some] <;> rfl) | (simp only [← aw, ← ax]; first | rfl | (simp [errW_none, errW_some] <;> rfl)) | (simp [*, errW_none, errW_some] <;> rfl), iis I.out, bs HB.out, ks HK.out⟩
         ·rw [if_neg ao] at H
          exact absurd H (by simp)
        ·rw [if_neg an] at H
         exact absurd H (by simp)
       ·rw [if_neg al] at H
        exact absurd H (by simp)
      ·rw [if_neg ak] at H
       exact absurd H (by simp)

/-! ### spec_l9Rd_num: function 19 -/
def spec_l9Rd_num.f (k : Nat) (z : List Int) (D : Int) (l1 : List Int) : Option (Int × Int) := (spec_l9Rd_pick.f k z D (l1.length : Int)).bind fun s => (if 0 ≤ s.1 then (if s.1 < (l1.length : Int) then (some (rd l1 s.1, s.2)) else (none)) else (none))
theorem spec_l9Rd_num.calls (k : Nat) (g : Nat) (z : List Int) (J : Int) (L : Option Addr) (Y : Nat) (l1 : List Int) (Z : Int) (r2 : Int) (w0 w : World) (hI : IsS46 w0 w g z J) (hB : Below w0.heap.size w0 w) (aa : Kd.C (Kd.int .i64) w L l1.length l1) (ac : l1.length ≤ Y) (O : ∀ ad, L = some ad → 0 < l1.length → ad.block ≠ g) (h : spec_l9Rd_num.f k z J l1 = some (Z, r2)) :
  Calls Try.prog 19 #[.pointer (some ⟨g, 0, none⟩), .slice L l1.length Y] w fun e w' => e = .returned (.int .i64 Z) ∧ IsS46 w0 w' g z r2 ∧ Below w0.heap.size w0 w' ∧ KeepBut w w' g none := by
 have ag := am aa
 have an := am ac
 clear aa ac
 have D := am hI
 have GEg_ : Ge w0 g := ⟨IsS46.ge D.out⟩
 have HK := am (KeepBut.refl w g none)
 have HL := am hB.size
 clear hI
 have ao := am hB.size
 have HB := am hB
 clear hB
 have H := h; unfold spec_l9Rd_num.f at H
 clear h
 replace H := Option.bind_eq_some_iff.mp H
 obtain ⟨⟨s, ah⟩, ae, H⟩ := H
 try dsimp -simprocs only at H
 have A3 := am ae
 clear ae
 by_cases G : 0 ≤ s
 ·rw [if_pos G] at H
  have ap : decide (0 ≤ s) = true := decide_eq_true G
  clear G
  by_cases I : s < (l1.length : Int)
  ·rw [if_pos I] at H
   have aq : decide (s < (l1.length : Int)) = true := decide_eq_true I
   clear I
   simp only [Option.some.injEq, Prod.mk.injEq] at H
   obtain ⟨rfl, rfl⟩ := H
   go_enter Try.func19, Try.ntmps19
   go_wp2_with (first | ((with_reducible refine gc 18 rfl ?_); refine gl 9 Try.func18 #[.pointer (some ⟨g, 0, none⟩), .int .i64 (l1.length : Int)] ?_; (with_reducible refine (spec_l9Rd_pick.calls k g z J (l1.length : Int) s ah w0 _ ?ai ?aj A3.out).mono ?_); (case ai => exact iis D.out); (case aj => exact bs HB.out); rintro e w6 ⟨rfl, hi, hb, hk⟩; refine ⟨_, rfl, ?_⟩; replace HK := kt HK hk; replace HB := am hb; replace D := am hi; (try clear hi hb hk); have T : 0 ≤ (s : Int) := oda; have X : s < (l1.length : Int) := oda; obtain ⟨ak, al, af⟩ := Kd.at_int ag.out s T X; cases al; replace af := keep_cell HK.out af (by first | (rw [add_block]; exact O _ rfl (by omega)) | exact O _ rfl (by omega) | exact O ak rfl (by omega)); replace T := eq_true T; replace X := eq_true X))
   go_ret
   exact ⟨eqr, iis D.out, bs HB.out, ks HK.out⟩
  ·rw [if_neg I] at H
   exact absurd H (by simp)
 ·rw [if_neg G] at H
  exact absurd H (by simp)

/-! ### spec_l4Torn: function 20 -/
def spec_l4Torn.j0 : Nat → ByteArray → Bool → List Int → Int → Option (ByteArray × Int)
 | 0, _, _, _, _ => none
 | k + 1, s, O, G, J => if O = true then (some (s, J)) else ((spec_l9Rd_pick.f k G J (s.size : Int)).bind fun z => (if 0 ≤ z.1 then (if z.1 ≤ (s.size : Int) then ((spec_l9Rd_num.f k G z.2 (([0, 1, 2, 3, 64, 127, 128, 129, 255] : List Int))).bind fun L => ((some (([(L.1) % 256] : List Int) : List Int)).bind fun I => (if (s.extract 0 (z.1 : Int).toNat).size + (strOfNums I).size ≤ 9223372036854775807 then ((spec_l9Rd_pick.f k G L.2 2).bind fun D => (if 0 ≤ (wrap64 (z.1 + D.1)) then (if (wrap64 (z.1 + D.1)) ≤ (s.size : Int) then (if ((s.extract 0 (z.1 : Int).toNat) ++ (strOfNums I)).size + (s.extract ((wrap64 (z.1 + D.1)) : Int).toNat s.size).size ≤ 9223372036854775807 then (some (((s.extract 0 (z.1 : Int).toNat) ++ (strOfNums I)) ++ (s.extract ((wrap64 (z.1 + D.1)) : Int).toNat s.size), D.2)) else (none)) else (none)) else (none))) else (none)))) else (none)) else (none)))
def spec_l4Torn.f (k : Nat) (s : List Int) (D : Int) (z : ByteArray) : Option (ByteArray × Int) := if z.toList = ([] : List UInt8) then (spec_l4Torn.j0 k z true s D) else ((spec_l9Rd_pick.f k s D 2).bind fun G => (spec_l4Torn.j0 k z (G.1 == 0) s G.2))
def spec_l4Torn.T4 : Bool × List (List Nat × List Nat) := (true, [([], []), ([], []), ([0, 1], [0, 1]), ([], []), ([], []), ([3, 4], [3, 4]), ([5], [5]), ([6], [6]), ([7], [7]), ([2, 8], [2, 8]), ([], []), ([], []), ([], []), ([12, 5], [12]), ([11, 13], [11, 13]), ([10, 14], [10, 14]), ([9, 15], [9, 15]), ([16, 13, 0, 1, 2, 3, 4, 5, 6, 7, 8, 9, 10, 11, 12, 13, 14, 15, 16], [16])])
def spec_l4Torn.B4 : List Nat := [0, 0, 3, 0, 0, 24, 56, 120, 248, 511, 0, 0, 0, 4152, 14392, 31800, 65535, 131071]
theorem spec_l4Torn.tab4 : rtab .any (opsOf Try.f20 4) = spec_l4Torn.T4 := by kernel_rfl
theorem spec_l4Torn.bits4 : waitsOk spec_l4Torn.T4.2 spec_l4Torn.B4 = true := by kernel_rfl
theorem spec_l4Torn.calls (k : Nat) (g : Nat) (L : List Int) (az : Int) (s : ByteArray) (r1 : ByteArray) (r2 : Int) (w0 w : World) (hI : IsS46 w0 w g L az) (hB : Below w0.heap.size w0 w) (h : spec_l4Torn.f k L az s = some (r1, r2)) :
  Calls Try.prog 20 #[.pointer (some ⟨g, 0, none⟩), .string s] w fun e w' => e = .returned (.string r1) ∧ IsS46 w0 w' g L r2 ∧ Below w0.heap.size w0 w' ∧ KeepBut w w' g none := by
 have z := am hI
 have GEg_ : Ge w0 g := ⟨IsS46.ge z.out⟩
 have HK := am (KeepBut.refl w g none)
 have HL := am hB.size
 clear hI
 have bm := am hB.size
 have HB := am hB
 clear hB
 have H := h; unfold spec_l4Torn.f at H
 clear h
 have aF := am H
 clear H
 go_enter Try.func20, Try.ntmps20
 go_upto_region 1 with (fail)
 go_cut [12] (fun ba wc => ∃ (kq : Nat) (aA : Bool) (ag : Int), ba = .bool aA ∧ Aside0 (spec_l4Torn.j0 kq s aA L ag = some (r1, r2)) ∧ Aside0 (kq ≤ k) ∧ Aside0 (IsS46 w0 wc g L ag) ∧ Aside0 (KeepBut w wc g none) ∧ Aside0 (Below w0.heap.size w0 wc))
 case first =>
  have H := aF.out
  clear aF
  by_cases c4 : s.toList = ([] : List UInt8)
  ·rw [if_pos c4] at H
   have ah : (s.toList == ([] : List UInt8)) = true := beq_iff_eq.mpr c4
   have aL : (s.toList != ([] : List UInt8)) = false := bne_eq_false_iff_eq.mpr c4
   clear c4
   (first | rw [ah] | (simp only [i64_w, i32_w]; rw [ah]) | skip)
   have H' := am H
   clear H
   go_wp2
   go_meet
   case rel => exact ⟨_, (true), (az), eqs, H', ⟨by first | omega | exact Nat.le_refl _⟩, ⟨iis z.out⟩, ⟨ks HK.out⟩, ⟨bs HB.out⟩⟩
  ·rw [if_neg c4] at H
   have ah : (s.toList == ([] : List UInt8)) = false := beq_eq_false_iff_ne.mpr c4
   have aL : (s.toList != ([] : List UInt8)) = true := bne_iff_ne.mpr c4
   (first | rw [ah] | (simp only [i64_w, i32_w]; rw [ah]) | skip)
   replace H := Option.bind_eq_some_iff.mp H
   obtain ⟨⟨aM, aN⟩, aO, H⟩ := H
   try dsimp -simprocs only at H
   have A5 := am aO
   clear aO
   have H' := am H
   clear H
   go_wp2_with (first | (go_at_call 18; (with_reducible refine (spec_l9Rd_pick.calls k g L az 2 aM aN w0 _ ?Y ?Z A5.out).mono ?_); (case Y => exact iis z.out); (case Z => exact bs HB.out); rintro e w6 ⟨rfl, hi, hb, hk⟩; replace HK := kt HK hk; replace HB := am hb; replace z := am hi; (try clear hi hb hk)))
   go_meet
   case rel => exact ⟨_, ((aM == 0)), (aN), eqs, H', ⟨by first | omega | exact Nat.le_refl _⟩, ⟨iis z.out⟩, ⟨ks HK.out⟩, ⟨bs HB.out⟩⟩
 case rest =>
  clear aF
  try clear c2
  try clear p2
  try clear c4
  try clear ah
  try clear aL
  obtain ⟨kq, aA, ag, rfl, HA, bn, z, HK, HB⟩ := hcut
  cases kq with
  | zero => exact absurd HA.out (by simp [spec_l4Torn.j0])
  | succ aa =>
   have H := HA.out
   clear HA
   simp only [spec_l4Torn.j0] at H
   by_cases c7 : aA = true
   ·subst c7
    replace H : (some (s, ag)) = some (r1, r2) := by rw [if_pos rfl] at H; exact H
    simp only [Option.some.injEq, Prod.mk.injEq] at H
    obtain ⟨rfl, rfl⟩ := H
    go_wp2
    go_ret
    exact ⟨eqr, iis z.out, bs HB.out, ks HK.out⟩
   ·replace c7 := Bool.eq_false_iff.mpr c7
    subst c7
    have H1 : ((spec_l9Rd_pick.f aa L ag (s.size : Int)).bind fun ab => (if 0 ≤ ab.1 then (if ab.1 ≤ (s.size : Int) then ((spec_l9Rd_num.f aa L ab.2 (([0, 1, 2, 3, 64, 127, 128, 129, 255] : List Int))).bind fun ao => ((some (([(ao.1) % 256] : List Int) : List Int)).bind fun I => (if (s.extract 0 (ab.1 : Int).toNat).size + (strOfNums I).size ≤ 9223372036854775807 then ((spec_l9Rd_pick.f aa L ao.2 2).bind fun O => (if 0 ≤ (wrap64 (ab.1 + O.1)) then (if (wrap64 (ab.1 + O.1)) ≤ (s.size : Int) then (if ((s.extract 0 (ab.1 : Int).toNat) ++ (strOfNums I)).size + (s.extract ((wrap64 (ab.1 + O.1)) : Int).toNat s.size).size ≤ 9223372036854775807 then (some (((s.extract 0 (ab.1 : Int).toNat) ++ (strOfNums I)) ++ (s.extract ((wrap64 (ab.1 + O.1)) : Int).toNat s.size), O.2)) else (none)) else (none)) else (none))) else (none)))) else (none)) else (none))) = some (r1, r2) := by rw [if_neg (show ¬ (false = true) by decide)] at H; exact H
    clear H
    have H := H1
    clear H1
    replace H := Option.bind_eq_some_iff.mp H
    obtain ⟨⟨G, aG⟩, aP, H⟩ := H
    try dsimp -simprocs only at H
    have A8 := am aP
    clear aP
    by_cases c9 : 0 ≤ G
    ·rw [if_pos c9] at H
     have bo := eq_true c9
     have aQ : decide (0 ≤ G) = true := decide_eq_true c9
     clear c9
     by_cases ap : G ≤ (s.size : Int)
     ·rw [if_pos ap] at H
      have br := eq_true ap
      have aR : decide (G ≤ (s.size : Int)) = true := decide_eq_true ap
      clear ap
      obtain ⟨ae, aH⟩ : ∃ y_ : List Int, y_ = (([0, 1, 2, 3, 64, 127, 128, 129, 255] : List Int)) := ⟨_, rfl⟩
      replace H : ((spec_l9Rd_num.f aa L aG ae).bind fun ao => ((some (([(ao.1) % 256] : List Int) : List Int)).bind fun I => (if (s.extract 0 (G : Int).toNat).size + (strOfNums I).size ≤ 9223372036854775807 then ((spec_l9Rd_pick.f aa L ao.2 2).bind fun O => (if 0 ≤ (wrap64 (G + O.1)) then (if (wrap64 (G + O.1)) ≤ (s.size : Int) then (if ((s.extract 0 (G : Int).toNat) ++ (strOfNums I)).size + (s.extract ((wrap64 (G + O.1)) : Int).toNat s.size).size ≤ 9223372036854775807 then (some (((s.extract 0 (G : Int).toNat) ++ (strOfNums I)) ++ (s.extract ((wrap64 (G + O.1)) : Int).toNat s.size), O.2)) else (none)) else (none)) else (none))) else (none)))) = some (r1, r2) := by first | (rw [aH]; exact H) | exact H
      have aS := am aH
      clear aH
      replace H := Option.bind_eq_some_iff.mp H
      obtain ⟨⟨ac, aq⟩, aT, H⟩ := H
      try dsimp -simprocs only at H
      have aU := am aT
      clear aT
      obtain ⟨I, aI⟩ : ∃ y_ : List Int, y_ = (([(ac) % 256] : List Int)) := ⟨_, rfl⟩
      replace H : (if (s.extract 0 (G : Int).toNat).size + (strOfNums I).size ≤ 9223372036854775807 then ((spec_l9Rd_pick.f aa L aq 2).bind fun O => (if 0 ≤ (wrap64 (G + O.1)) then (if (wrap64 (G + O.1)) ≤ (s.size : Int) then (if ((s.extract 0 (G : Int).toNat) ++ (strOfNums I)).size + (s.extract ((wrap64 (G + O.1)) : Int).toNat s.size).size ≤ 9223372036854775807 then (some (((s.extract 0 (G : Int).toNat) ++ (strOfNums I)) ++ (s.extract ((wrap64 (G + O.1)) : Int).toNat s.size), O.2)) else (none)) else (none)) else (none))) else (none)) = some (r1, r2) := by first | (rw [aI]; exact H) | exact H
      have aB := am aI
      clear aI
      by_cases ai : (s.extract 0 (G : Int).toNat).size + (strOfNums I).size ≤ 9223372036854775807
      ·rw [if_pos ai] at H
       have bt := eq_true ai
       have bu : decide ((s.extract 0 (G : Int).toNat).size + (strOfNums I).size ≤ 9223372036854775807) = true := decide_eq_true ai
       try have bv : (9223372036854775807 < (s.extract 0 (G : Int).toNat).size + (strOfNums I).size) = False := eq_false (Nat.not_lt.2 ai)
       have bw : (9223372036854775807 < (G : Int).toNat + (strOfNums I).size) = False := eq_false (Nat.not_lt.2 (by have h_ := ai; have aC := of_decide_eq_true aR; have aD := of_decide_eq_true aQ; simp only [ByteArray.size_append, ByteArray.size_extract] at h_; omega))
       replace H := Option.bind_eq_some_iff.mp H
       obtain ⟨⟨aj, ak⟩, aV, H⟩ := H
       try dsimp -simprocs only at H
       have aE := am aV
       clear aV
       obtain ⟨T, af⟩ : ∃ j_ : Int, (wrap64 (G + aj)) = j_ := ⟨_, rfl⟩
       replace H : (if 0 ≤ (T) then (if (T) ≤ (s.size : Int) then (if ((s.extract 0 (G : Int).toNat) ++ (strOfNums I)).size + (s.extract ((T) : Int).toNat s.size).size ≤ 9223372036854775807 then (some (((s.extract 0 (G : Int).toNat) ++ (strOfNums I)) ++ (s.extract ((T) : Int).toNat s.size), ak)) else (none)) else (none)) else (none)) = some (r1, r2) := by first | (rw [af] at H; exact H) | (simp only [af] at H ⊢; exact H)
       (try rw [af] at A8)
       (try rw [af] at aU)
       (try rw [af] at aE)
       have bz : (IntKind.i64.wrap (G + aj)) = T := (i64_w _).trans af
       by_cases ar : 0 ≤ (T)
       ·rw [if_pos ar] at H
        have bA := eq_true ar
        have bB : decide (0 ≤ (T)) = true := decide_eq_true ar
        clear ar
        by_cases au : (T) ≤ (s.size : Int)
        ·rw [if_pos au] at H
         have bC := eq_true au
         have bD : decide ((T) ≤ (s.size : Int)) = true := decide_eq_true au
         clear au
         by_cases al : ((s.extract 0 (G : Int).toNat) ++ (strOfNums I)).size + (s.extract ((T) : Int).toNat s.size).size ≤ 9223372036854775807
         ·rw [if_pos al] at H
          have bE := eq_true al
          have bF : decide (((s.extract 0 (G : Int).toNat) ++ (strOfNums I)).size + (s.extract ((T) : Int).toNat s.size).size ≤ 9223372036854775807) = true := decide_eq_true al
          try have bG : (9223372036854775807 < ((s.extract 0 (G : Int).toNat) ++ (strOfNums I)).size + (s.extract ((T) : Int).toNat s.size).size) = False := eq_false (Nat.not_lt.2 al)
          have bH : (9223372036854775807 < (G : Int).toNat + (strOfNums I).size + (s.size - (T : Int).toNat)) = False := eq_false (Nat.not_lt.2 (by have h_ := al; have aC := of_decide_eq_true aR; have aD := of_decide_eq_true aQ; simp only [ByteArray.size_append, ByteArray.size_extract] at h_; omega))
          simp only [Option.some.injEq, Prod.mk.injEq] at H
          obtain ⟨rfl, rfl⟩ := H
          try go_wp2_with (first | ((with_reducible refine gc 18 rfl ?_); refine gl 17 Try.func18 #[.pointer (some ⟨g, 0, none⟩), .int .i64 (s.size : Int)] ?_; (with_reducible refine (spec_l9Rd_pick.calls aa g L ag (s.size : Int) G aG w0 _ ?Y ?Z A8.out).mono ?_); (case Y => exact iis z.out); (case Z => exact bs HB.out); rintro e bc ⟨rfl, hi, hb, hk⟩; refine ⟨_, rfl, ?_⟩; replace HK := kt HK hk; replace HB := am hb; replace z := am hi; (try clear hi hb hk)))
          replace z := am (IsS46.drew z.out)
          replace HK := am (keep_drew HK.out)
          replace HB := hd HB
          refine sta 18 (fun w' => True) [] trivial (fun hHeld => ?_); refine with_tabW spec_l4Torn.tab4 spec_l4Torn.bits4 (fun HT_ HW_ => ?_)
          generalize bc.drew = bI at z HK HB hHeld ⊢
          refine pu 0 18 ?_
          refine pu 1 19 ?_
          refine pu 2 20 ?_
          refine pu 3 21 ?_
          refine pu 10 28 ?_
          refine pu 11 29 ?_
          refine pu 12 30 ?_
          refine on 4 22 (fun K hK => ?_)
          refine Kd.R_lit_step (Kd.int .i64) _ 3 ?hg (N := 22) ?hd (xs := ([0, 1, 2, 3, 64, 127, 128, 129, 255] : List Int)) (inner := [.int .i64 0, .int .i64 1, .int .i64 2, .int .i64 3, .int .i64 64, .int .i64 127, .int .i64 128, .int .i64 129, .int .i64 255]) (ok := fun _ => True) (okp := fun _ => True) ?hr ?hp (fun _ hk => hk) trivial (Below.refl _ _) (Nat.le_refl _) (by simp) ?_; (case hd => rfl); (case hg => rfl); (case hr => first | (go_simp; done) | (go_simp; rfl)); (case hp => exact (Reps.one (show Kd.M (Kd.int .i64) _ _ _ 0 [.int .i64 0] from rfl) (Reps.one (show Kd.M (Kd.int .i64) _ _ _ 1 [.int .i64 1] from rfl) (Reps.one (show Kd.M (Kd.int .i64) _ _ _ 2 [.int .i64 2] from rfl) (Reps.one (show Kd.M (Kd.int .i64) _ _ _ 3 [.int .i64 3] from rfl) (Reps.one (show Kd.M (Kd.int .i64) _ _ _ 64 [.int .i64 64] from rfl) (Reps.one (show Kd.M (Kd.int .i64) _ _ _ 127 [.int .i64 127] from rfl) (Reps.one (show Kd.M (Kd.int .i64) _ _ _ 128 [.int .i64 128] from rfl) (Reps.one (show Kd.M (Kd.int .i64) _ _ _ 129 [.int .i64 129] from rfl) (Reps.one (show Kd.M (Kd.int .i64) _ _ _ 255 [.int .i64 255] from rfl) (Reps.none _ _)))))))))))
          intro bJ bK av hb hg_ hnew_
          clear hg_ hnew_
          (first | rw [← aS.out] at av | (simp only [Int.reduceToNat] at av; rw [← aS.out] at av))
          have J := am (Kd.R_lower av (keep_size (w := w) (g := g) (row := none) (ks HK.out)))
          replace z := ib z hb
          replace HK := kb HK hb
          replace HB := hs HB hb
          clear hb av
          obtain ⟨aJ, aK, aW⟩ := Kd.R_slice J.out
          (first | subst aW | (injection aW with aX be aY; have bg := aX.symm; have bh := aY.symm; clear aX be aY; subst bg; subst bh))
          refine hK.out _ _ trivial (fun hHeld => ?_)
          clear hK K
          refine nrm 22 ?_
          refine on 5 23 (fun K hK => ?_)
          refine gs Try.func19 #[.pointer (some ⟨g, 0, none⟩), .slice aJ ae.length aK] ?_
          with_reducible refine (spec_l9Rd_num.calls aa g L aG _ _ ae ac aq w0 _ ?Y ?Z ?bi ?bj ?bk aU.out).mono ?_
          (case Y => exact iis z.out)
          (case Z => exact bs HB.out)
          (case bi => exact cr J)
          (case bj => exact cc J)
          (case bk => exact far_slice (IsS46.own_ne z.out J.out (by decide)))
          rintro e bL ⟨rfl, hi, hb, hk⟩
          refine ⟨_, rfl, ?_⟩
          replace J := ro J z hk
          replace HK := kt HK hk
          replace HB := am hb
          replace z := am hi
          (try clear hb)
          (try clear hb2)
          (try clear hk)
          (try clear hi)
          refine hK.out _ _ trivial (fun hHeld => ?_)
          clear hK K
          refine nrm 23 ?_
          refine pu 6 24 ?_
          refine join_ (σ := Value) 2 #[true, true, true, true, true, true, true, true, true, true, true, true, true, true, true, true, false, false] (fun s_ => [(25, s_), (26, .string (strOfNums I)), (31, .int .i64 aj), (27, .string ((s.extract 0 (G : Int).toNat) ++ (strOfNums I))), (32, .int .i64 T), (33, .string (s.extract ((T) : Int).toNat s.size))]) (fun s_ w' => (Kd.R (Kd.int .i64) 3 w' w.heap.size (fun _ => True) (.slice aJ ae.length aK) ae) ∧ (Kd.R (Kd.int .u8) 5 w' w.heap.size (fun _ => True) s_ I) ∧ (IsS46 w0 w' g L ak) ∧ (KeepBut w w' g none) ∧ (Below w0.heap.size w0 w')) ?_ ?_
          rotate_left
          ·intro hCont
           refine two_ (i := 7) (j := 13) (Ni := some 25) (Nj := some 31) #[true, true, true, true, true, true, true, true, false, false, true, true, true, false, false, false, false, false] #[true, true, true, true, true, true, true, false, false, false, true, true, true, true, false, false, false, false] rfl rfl rfl rfl (two_of HT_.out (by kernel_rfl)) (by decide) (by decide) (fun K hK => ?_) (fun K hK => ?_)
           ·skip
            refine Kd.R_lit_step (Kd.int .u8) _ 5 ?hg (N := 25) ?hd (xs := ([(ac) % 256] : List Int)) (inner := [.int .u8 ((ac) % 256)]) (ok := fun _ => True) (okp := fun _ => True) ?hr ?hp (fun _ hk => hk) trivial (Below.refl _ _) (Nat.le_refl _) (by simp) ?_; (case hd => rfl); (case hg => rfl); (case hr => first | (go_simp; done) | (go_simp; rfl)); (case hp => exact (Reps.one (show Kd.M (Kd.int .u8) _ _ _ ((ac) % 256) [.int .u8 ((ac) % 256)] from rfl) (Reps.none _ _)))
            intro an bl aw hb hg_ hnew_
            clear hg_ hnew_
            (first | rw [← aB.out] at aw | (simp only [Int.reduceToNat] at aw; rw [← aB.out] at aw))
            replace J := rb J hb
            have X := am (Kd.R_lower aw (keep_size (w := w) (g := g) (row := none) (ks HK.out)))
            replace z := ib z hb
            replace HK := kb HK hb
            replace HB := hs HB hb
            clear hb aw
            refine hK.out _ _ trivial (fun hHeld => ?_)
            clear hK K
            refine nrm 25 ?_
            refine two_ (i := 8) (j := 13) (Ni := some 26) (Nj := some 31) #[true, true, true, true, true, true, true, true, true, false, true, true, true, false, false, false, false, false] #[true, true, true, true, true, true, true, true, false, false, true, true, true, true, false, false, false, false] rfl rfl rfl rfl (two_of HT_.out (by kernel_rfl)) (by decide) (by decide) (fun K hK => ?_) (fun K hK => ?_)
            ·skip
             have hcv26 := own_string (P := Try.prog) Try.underlying22 Try.underlying5 Try.underlying9 (Kd.own_of_R X.out)
             refine va ?_
             clear hcv26
             refine hK.out _ _ trivial (fun hHeld => ?_)
             clear hK K
             refine nrm 26 ?_
             refine pu 9 27 ?_
             refine on 13 31 (fun K hK => ?_)
             refine gs Try.func18 #[.pointer (some ⟨g, 0, none⟩), .int .i64 2] ?_
             with_reducible refine (spec_l9Rd_pick.calls aa g L aq 2 aj ak w0 _ ?Y ?Z aE.out).mono ?_
             (case Y => exact iis z.out)
             (case Z => exact bs HB.out)
             rintro e bM ⟨rfl, hi, hb, hk⟩
             refine ⟨_, rfl, ?_⟩
             replace J := ro J z hk
             replace X := ro X z hk
             replace HK := kt HK hk
             replace HB := am hb
             replace z := am hi
             (try clear hb)
             (try clear hb2)
             (try clear hk)
             (try clear hi)
             refine hK.out _ _ trivial (fun hHeld => ?_)
             clear hK K
             refine nrm 31 ?_
             refine pu 14 32 ?_
             refine pu 15 33 ?_
             exact norm_ (by simp only [putAll, Act.put, List.setIfInBounds_toArray, List.set_cons_zero, List.set_cons_succ]) (hCont (an) _ ⟨(rl J.out), (rl X.out), (iis z.out), (ks HK.out), (bs HB.out)⟩)
            ·skip
             refine gs Try.func18 #[.pointer (some ⟨g, 0, none⟩), .int .i64 2] ?_
             with_reducible refine (spec_l9Rd_pick.calls aa g L aq 2 aj ak w0 _ ?Y ?Z aE.out).mono ?_
             (case Y => exact iis z.out)
             (case Z => exact bs HB.out)
             rintro e bN ⟨rfl, hi, hb, hk⟩
             refine ⟨_, rfl, ?_⟩
             replace J := ro J z hk
             replace X := ro X z hk
             replace HK := kt HK hk
             replace HB := am hb
             replace z := am hi
             (try clear hb)
             (try clear hb2)
             (try clear hk)
             (try clear hi)
             refine hK.out _ _ trivial (fun hHeld => ?_)
             clear hK K
             refine nrm 31 ?_
             refine pu 14 32 ?_
             refine pu 15 33 ?_
             refine on 8 26 (fun K hK => ?_)
             have hcv27 := own_string (P := Try.prog) Try.underlying22 Try.underlying5 Try.underlying9 (Kd.own_of_R X.out)
             refine va ?_
             clear hcv27
             refine hK.out _ _ trivial (fun hHeld => ?_)
             clear hK K
             refine nrm 26 ?_
             refine pu 9 27 ?_
             exact norm_ (by simp only [putAll, Act.put, List.setIfInBounds_toArray, List.set_cons_zero, List.set_cons_succ]) (hCont (an) _ ⟨(rl J.out), (rl X.out), (iis z.out), (ks HK.out), (bs HB.out)⟩)
           ·skip
            refine gs Try.func18 #[.pointer (some ⟨g, 0, none⟩), .int .i64 2] ?_
            with_reducible refine (spec_l9Rd_pick.calls aa g L aq 2 aj ak w0 _ ?Y ?Z aE.out).mono ?_
            (case Y => exact iis z.out)
            (case Z => exact bs HB.out)
            rintro e bl ⟨rfl, hi, hb, hk⟩
            refine ⟨_, rfl, ?_⟩
            replace J := ro J z hk
            replace HK := kt HK hk
            replace HB := am hb
            replace z := am hi
            (try clear hb)
            (try clear hb2)
            (try clear hk)
            (try clear hi)
            refine hK.out _ _ trivial (fun hHeld => ?_)
            clear hK K
            refine nrm 31 ?_
            refine pu 14 32 ?_
            refine pu 15 33 ?_
            refine on 7 25 (fun K hK => ?_)
            refine Kd.R_lit_step (Kd.int .u8) _ 5 ?hg (N := 25) ?hd (xs := ([(ac) % 256] : List Int)) (inner := [.int .u8 ((ac) % 256)]) (ok := fun _ => True) (okp := fun _ => True) ?hr ?hp (fun _ hk => hk) trivial (Below.refl _ _) (Nat.le_refl _) (by simp) ?_; (case hd => rfl); (case hg => rfl); (case hr => first | (go_simp; done) | (go_simp; rfl)); (case hp => exact (Reps.one (show Kd.M (Kd.int .u8) _ _ _ ((ac) % 256) [.int .u8 ((ac) % 256)] from rfl) (Reps.none _ _)))
            intro an bO ax hb hg_ hnew_
            clear hg_ hnew_
            (first | rw [← aB.out] at ax | (simp only [Int.reduceToNat] at ax; rw [← aB.out] at ax))
            replace J := rb J hb
            have X := am (Kd.R_lower ax (keep_size (w := w) (g := g) (row := none) (ks HK.out)))
            replace z := ib z hb
            replace HK := kb HK hb
            replace HB := hs HB hb
            clear hb ax
            refine hK.out _ _ trivial (fun hHeld => ?_)
            clear hK K
            refine nrm 25 ?_
            refine on 8 26 (fun K hK => ?_)
            have hcv27 := own_string (P := Try.prog) Try.underlying22 Try.underlying5 Try.underlying9 (Kd.own_of_R X.out)
            refine va ?_
            clear hcv27
            refine hK.out _ _ trivial (fun hHeld => ?_)
            clear hK K
            refine nrm 26 ?_
            refine pu 9 27 ?_
            exact norm_ (by simp only [putAll, Act.put, List.setIfInBounds_toArray, List.set_cons_zero, List.set_cons_succ]) (hCont (an) _ ⟨(rl J.out), (rl X.out), (iis z.out), (ks HK.out), (bs HB.out)⟩)
          rintro an ay ⟨aZ, aC, aD, a3, a4⟩
          have a5 : Aside0 (Kd.R (Kd.int .i64) 3 ay w.heap.size (fun _ => True) (.slice aJ ae.length aK) ae) := ⟨aZ⟩
          have a6 : Aside0 (Kd.R (Kd.int .u8) 5 ay w.heap.size (fun _ => True) an I) := ⟨aC⟩
          have a7 : Aside0 (IsS46 w0 ay g L ak) := ⟨aD⟩
          have a8 : Aside0 (KeepBut w ay g none) := ⟨a3⟩
          have a9 : Aside0 (Below w0.heap.size w0 ay) := ⟨a4⟩
          clear z
          clear HK
          clear HB
          clear aZ aC aD a3 a4
          have J := a5
          have X := a6
          have z := a7
          have HK := a8
          have HB := a9
          clear a5 a6 a7 a8 a9
          have hHeld := trivial
          refine norm_ (a' := ?_) ?_ ?_
          rotate_left
          ·simp only [putAll, Act.put, List.setIfInBounds_toArray, List.set_cons_zero, List.set_cons_succ]
           rfl
          refine pu 16 34 ?_
          refine pu 17 4 ?_
          refine dn ?_
          try go_wp2
          go_ret
          exact ⟨by first | rfl | (simp [errW_none, errW_some] <;> rfl) | (simp only [← af]; first | rfl | (simp [errW_none, errW_some] <;> rfl)) | (simp [*, errW_none, errW_some] <;> rfl), iis z.out, bs HB.out, ks HK.out⟩
         ·rw [if_neg al] at H
          exact absurd H (by simp)
        ·rw [if_neg au] at H
         exact absurd H (by simp)
       ·rw [if_neg ar] at H
        exact absurd H (by simp)
      ·rw [if_neg ai] at H
       exact absurd H (by simp)
     ·rw [if_neg ap] at H
      exact absurd H (by simp)
    ·rw [if_neg c9] at H
     exact absurd H (by simp)

end Go.Proofs.Ytkbamcicbofjbaa.QFnStoreNarrow
