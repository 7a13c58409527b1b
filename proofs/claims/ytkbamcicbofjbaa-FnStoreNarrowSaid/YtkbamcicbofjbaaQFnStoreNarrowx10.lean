/- Contracts of the Go functions that this law reaches: each does what its plain Lean function says. No condition. -/
import Derived.Test.YtkbamcicbofjbaaQFnStoreNarrowx0
import Derived.Test.YtkbamcicbofjbaaQFnStoreNarrowx2
import Derived.Test.YtkbamcicbofjbaaQFnStoreNarrowx3
import Derived.Test.YtkbamcicbofjbaaQFnStoreNarrowx5
namespace Go.Proofs.Ytkbamcicbofjbaa.QFnStoreNarrow
open Go.RowKit Go.Proofs.YtkbamcicbofjbaaW.PrintWords Go.Proofs.YtkbamcicbofjbaaW.PrintLast Go.Proofs.YtkbamcicbofjbaaW.PrintMore Go.Proofs.Ytkbamcicbofjbaa.Bl
attribute [local go_sem] max2_int min2_int max_two min_two max_three min_three max_four min_four   -- for this text's walks alone
set_option linter.unusedVariables false
set_option linter.unusedSimpArgs false
set_option maxHeartbeats 8000000
set_option maxRecDepth 100000

attribute [local go_sem high] eqA55 eqA57
/-! ### spec_LabelOk: function 26 -/
def spec_LabelOk.f (s : Int) : Option (Bool) := if s ≥ 0 then (some (decide (s ≤ 7))) else (some false)
theorem spec_LabelOk.calls (z : Int) (r : Bool) (w : World) (h : spec_LabelOk.f z = some r) :
  Calls Try.prog 26 #[.int .i64 z] w fun e w' => e = .returned (.bool r) ∧ Drawn0 w w' := by
 have H := h; unfold spec_LabelOk.f at H
 clear h
 by_cases s : z ≥ 0
 ·rw [if_pos s] at H
  have D : decide (0 ≤ z) = true := decide_eq_true s
  clear s
  obtain rfl := Option.some.inj H
  go_enter Try.func26, Try.ntmps26
  go_wp2
  go_ret
  exact ⟨eqs, drs⟩
 ·rw [if_neg s] at H
  have D : decide (0 ≤ z) = false := decide_eq_false s
  clear s
  obtain rfl := Option.some.inj H
  go_enter Try.func26, Try.ntmps26
  go_wp2
  go_ret
  exact ⟨eqs, drs⟩

/-! ### spec_NodeOk: function 45 -/
def spec_NodeOk.f (z : Int) (s : Int) : Option (Bool) := (spec_LabelOk.f z).bind fun D => (if D = true then (if s ≥ 0 then (some (decide (s ≤ 40))) else (some false)) else (some false))
theorem spec_NodeOk.calls (s : Int) (z : Int) (r : Bool) (w : World) (h : spec_NodeOk.f s z = some r) :
  Calls Try.prog 45 #[.agg #[.int .i64 s, .int .i64 z]] w fun e w' => e = .returned (.bool r) ∧ Below w.heap.size w w' := by
 have hu55 := Try.underlying55
 have HB := am (Below.refl w.heap.size w)
 have H := h; unfold spec_NodeOk.f at H
 clear h
 replace H := Option.bind_eq_some_iff.mp H
 obtain ⟨Y, O, H⟩ := H
 try dsimp -simprocs only at H
 have M := am O
 clear O
 by_cases L : Y = true
 ·subst L
  replace H : (if z ≥ 0 then (some (decide (z ≤ 40))) else (some false)) = some r := by rw [if_pos rfl] at H; exact H
  by_cases J : z ≥ 0
  ·rw [if_pos J] at H
   have Z : decide (0 ≤ z) = true := decide_eq_true J
   clear J
   obtain rfl := Option.some.inj H
   go_enter Try.func45, Try.ntmps45
   go_wp2_with (first | ((with_reducible refine gd 1 rfl ?_); refine bx 1 (cs := #[.int .i64 s, .int .i64 z]) (t := 55) ?_; intro T hg w5 hbox hb; have I := am hbox; have X := gwb HB hg; replace HB := hs HB hb; clear hb hbox hg; obtain ⟨aa, ab⟩ := bc2 (w := w5) I.out; have ac := blk_frozen I.out) | ((with_reducible refine gc 26 rfl ?_); refine gl 5 Try.func26 #[.int .i64 s] ?_; (with_reducible refine (spec_LabelOk.calls s true _ M.out).mono ?_); rintro e w' ⟨rfl, ⟨nd, rfl⟩⟩; refine ⟨_, rfl, ?_⟩))
   go_ret
   exact ⟨eqr, bs HB.out⟩
  ·rw [if_neg J] at H
   have Z : decide (0 ≤ z) = false := decide_eq_false J
   clear J
   obtain rfl := Option.some.inj H
   go_enter Try.func45, Try.ntmps45
   go_wp2_with (first | ((with_reducible refine gd 1 rfl ?_); refine bx 1 (cs := #[.int .i64 s, .int .i64 z]) (t := 55) ?_; intro T hg w7 hbox hb; have I := am hbox; have X := gwb HB hg; replace HB := hs HB hb; clear hb hbox hg; obtain ⟨ad, ae⟩ := bc2 (w := w7) I.out; have af := blk_frozen I.out) | ((with_reducible refine gc 26 rfl ?_); refine gl 5 Try.func26 #[.int .i64 s] ?_; (with_reducible refine (spec_LabelOk.calls s true _ M.out).mono ?_); rintro e w' ⟨rfl, ⟨nd, rfl⟩⟩; refine ⟨_, rfl, ?_⟩))
   go_ret
   exact ⟨eqr, bs HB.out⟩
 ·replace L := Bool.eq_false_iff.mpr L
  subst L
  have H1 : (some false) = some r := by rw [if_neg (show ¬ (false = true) by decide)] at H; exact H
  clear H
  have H := H1
  clear H1
  obtain rfl := Option.some.inj H
  go_enter Try.func45, Try.ntmps45
  go_wp2_with (first | ((with_reducible refine gd 1 rfl ?_); refine bx 1 (cs := #[.int .i64 s, .int .i64 z]) (t := 55) ?_; intro T hg w9 hbox hb; have I := am hbox; have X := gwb HB hg; replace HB := hs HB hb; clear hb hbox hg; obtain ⟨ag, ah⟩ := bc2 (w := w9) I.out; have ai := blk_frozen I.out) | ((with_reducible refine gc 26 rfl ?_); refine gl 5 Try.func26 #[.int .i64 s] ?_; (with_reducible refine (spec_LabelOk.calls s false _ M.out).mono ?_); rintro e w' ⟨rfl, ⟨nd, rfl⟩⟩; refine ⟨_, rfl, ?_⟩))
  go_ret
  exact ⟨eqr, bs HB.out⟩

/-! ### spec_l1Two: function 52 -/
def spec_l1Two.l0 : Nat → Int → Int → Int → Option (Int)
 | 0, _, _, _ => none
 | k + 1, s, z, D => if D < s then (spec_l1Two.l0 k s (wrap64 (z * 2)) (wrap64 (D + 1))) else (some z)
def spec_l1Two.f (k : Nat) (s : Int) : Option (Int) := spec_l1Two.l0 k s 1 0
theorem spec_l1Two.mono_l : ∀ k, (∀ s z D, LeO (spec_l1Two.l0 k s z D) (spec_l1Two.l0 (k + 1) s z D))
 | 0 => fun _ _ _ r h => by simp [spec_l1Two.l0] at h
 | k + 1 => by
  have ih0 := spec_l1Two.mono_l k
  ·intro s z D
   unfold spec_l1Two.l0
   repeat' (with_reducible first | exact ih0 _ _ _ | exact LeO.refl _ | exact LeO.none _ | refine LeO.ite ?_ ?_ | refine LeO.bind ?_ (fun _ => ?_))
theorem spec_l1Two.mono : ∀ s k, LeO (spec_l1Two.f k s) (spec_l1Two.f (k + 1) s) := by
 intro s k
 have ih0 := spec_l1Two.mono_l k
 unfold spec_l1Two.f
 repeat' (with_reducible first | exact ih0 _ _ _ | exact LeO.refl _ | exact LeO.none _ | refine LeO.ite ?_ ?_ | refine LeO.bind ?_ (fun _ => ?_))
theorem spec_l1Two.calls (k : Nat) (z : Int) (r : Int) (w : World) (h : spec_l1Two.f k z = some r) :
  Calls Try.prog 52 #[.int .i64 z] w fun e w' => e = .returned (.int .i64 r) ∧ Drawn0 w w' := by
 have H := h; unfold spec_l1Two.f at H
 clear h
 have H' := am H
 clear H
 go_enter Try.func52, Try.ntmps52
 go_wp2
 go_loopg [3, 4] k (fun kq M O w' => ∃ (I : Int) (s : Int), M = .int .i64 I ∧ O = .int .i64 s ∧ Aside0 (spec_l1Two.l0 kq z I s = some r) ∧ Aside0 (kq ≤ k) ∧ Drawn0 w w')
 case atStart => exact ⟨(1), (0), eqs, eqs, H', ⟨Nat.le_refl _⟩, drs⟩
 case round =>
  clear H'
  obtain ⟨I, s, rfl, rfl, HA, L, ⟨m1, rfl⟩⟩ := hrel
  cases gk with
  | zero => exact absurd HA.out (by simp [spec_l1Two.l0])
  | succ k1 =>
   have H := HA.out
   clear HA
   simp only [spec_l1Two.l0] at H
   by_cases D : s < z
   ·rw [if_pos D] at H
    have T : decide (s < z) = true := decide_eq_true D
    clear D
    have H' := am H
    clear H
    go_wp2
    go_roundg k1
    case measure => have := L.out; omega
    case rel => exact ⟨(wrap64 (I * 2)), (wrap64 (s + 1)), eqs, eqs, H', ⟨by have := L.out; omega⟩, drs⟩
   ·rw [if_neg D] at H
    have T : decide (s < z) = false := decide_eq_false D
    clear D
    obtain rfl := Option.some.inj H
    go_wp2
    go_ret
    exact ⟨eqs, drs⟩

/-! ### spec_l1Has: function 42 -/
def spec_l1Has.f (k : Nat) (z : Int) (D : Int) : Option (Bool) := (spec_l1Two.f k D).bind fun s => (if s = 0 then (none) else (some ((Int.tmod (wrap64 (Int.tdiv z s)) 2) == 1)))
theorem spec_l1Has.mono : ∀ s z k, LeO (spec_l1Has.f k s z) (spec_l1Has.f (k + 1) s z) := by
 intro s z k
 unfold spec_l1Has.f
 repeat' (with_reducible first | exact spec_l1Two.mono _ _ | exact LeO.refl _ | exact LeO.none _ | refine LeO.ite ?_ ?_ | refine LeO.bind ?_ (fun _ => ?_))
theorem spec_l1Has.calls (k : Nat) (I : Int) (s : Int) (r : Bool) (w : World) (h : spec_l1Has.f k I s = some r) :
  Calls Try.prog 42 #[.int .i64 I, .int .i64 s] w fun e w' => e = .returned (.bool r) ∧ Drawn0 w w' := by
 have H := h; unfold spec_l1Has.f at H
 clear h
 replace H := Option.bind_eq_some_iff.mp H
 obtain ⟨z, L, H⟩ := H
 try dsimp -simprocs only at H
 have M := am L
 clear L
 by_cases D : z = 0
 ·rw [if_pos D] at H
  exact absurd H (by simp)
 ·rw [if_neg D] at H
  have O : (z == 0) = false := beq_eq_false_iff_ne.mpr D
  have T : (z != 0) = true := bne_iff_ne.mpr D
  obtain rfl := Option.some.inj H
  go_enter Try.func42, Try.ntmps42
  go_wp2_with (first | ((with_reducible refine gc 52 rfl ?_); refine gl 7 Try.func52 #[.int .i64 s] ?_; (with_reducible refine (spec_l1Two.calls k s z _ M.out).mono ?_); rintro e w' ⟨rfl, ⟨nd, rfl⟩⟩; refine ⟨_, rfl, ?_⟩))
  go_ret
  exact ⟨eqs, drs⟩

/-! ### spec_l1Under: function 27 -/
def spec_l1Under.l0 : Nat → Int → Int → Int → Option (Bool)
 | 0, _, _, _ => none
 | k + 1, z, D, s => if s < 3 then ((spec_l1Has.f k z s).bind fun I => (if I = true then ((spec_l1Has.f k D s).bind fun J => (if J = true then (spec_l1Under.l0 k z D (wrap64 (s + 1))) else (some false))) else (spec_l1Under.l0 k z D (wrap64 (s + 1))))) else (some true)
def spec_l1Under.f (k : Nat) (s : Int) (z : Int) : Option (Bool) := spec_l1Under.l0 k s z 0
theorem spec_l1Under.mono_l : ∀ k, (∀ s z D, LeO (spec_l1Under.l0 k s z D) (spec_l1Under.l0 (k + 1) s z D))
 | 0 => fun _ _ _ r h => by simp [spec_l1Under.l0] at h
 | k + 1 => by
  have ih0 := spec_l1Under.mono_l k
  ·intro s z D
   unfold spec_l1Under.l0
   repeat' (with_reducible first | exact ih0 _ _ _ | exact spec_l1Has.mono _ _ _ | exact LeO.refl _ | exact LeO.none _ | refine LeO.ite ?_ ?_ | refine LeO.bind ?_ (fun _ => ?_))
theorem spec_l1Under.mono : ∀ s z k, LeO (spec_l1Under.f k s z) (spec_l1Under.f (k + 1) s z) := by
 intro s z k
 have ih0 := spec_l1Under.mono_l k
 unfold spec_l1Under.f
 repeat' (with_reducible first | exact ih0 _ _ _ | exact spec_l1Has.mono _ _ _ | exact LeO.refl _ | exact LeO.none _ | refine LeO.ite ?_ ?_ | refine LeO.bind ?_ (fun _ => ?_))
theorem spec_l1Under.calls (k : Nat) (z : Int) (D : Int) (r : Bool) (w : World) (h : spec_l1Under.f k z D = some r) :
  Calls Try.prog 27 #[.int .i64 z, .int .i64 D] w fun e w' => e = .returned (.bool r) ∧ Drawn0 w w' := by
 have H := h; unfold spec_l1Under.f at H
 clear h
 have H' := am H
 clear H
 go_enter Try.func27, Try.ntmps27
 go_wp2
 go_loopg [5] k (fun kq v5 w' => ∃ (s : Int), v5 = .int .i64 s ∧ Aside0 (spec_l1Under.l0 kq z D s = some r) ∧ Aside0 (kq ≤ k) ∧ Drawn0 w w')
 case atStart => exact ⟨(0), eqs, H', ⟨Nat.le_refl _⟩, drs⟩
 case round =>
  clear H'
  try clear c2
  try clear p2
  obtain ⟨s, rfl, HA, L, ⟨m1, rfl⟩⟩ := hrel
  cases gk with
  | zero => exact absurd HA.out (by simp [spec_l1Under.l0])
  | succ k1 =>
   have H := HA.out
   clear HA
   simp only [spec_l1Under.l0] at H
   by_cases J : s < 3
   ·rw [if_pos J] at H
    have aa : decide (s < 3) = true := decide_eq_true J
    clear J
    replace H := Option.bind_eq_some_iff.mp H
    obtain ⟨ab, Y, H⟩ := H
    try dsimp -simprocs only at H
    have T := am Y
    clear Y
    by_cases M : ab = true
    ·subst M
     replace H : ((spec_l1Has.f k1 D s).bind fun X => (if X = true then (spec_l1Under.l0 k1 z D (wrap64 (s + 1))) else (some false))) = some r := by rw [if_pos rfl] at H; exact H
     replace H := Option.bind_eq_some_iff.mp H
     obtain ⟨X, Z, H⟩ := H
     try dsimp -simprocs only at H
     have A6 := am Z
     clear Z
     by_cases O : X = true
     ·subst O
      replace H : (spec_l1Under.l0 k1 z D (wrap64 (s + 1))) = some r := by rw [if_pos rfl] at H; exact H
      have H' := am H
      clear H
      go_wp2_with (first | ((with_reducible refine gc 42 rfl ?_); refine gl 12 Try.func42 #[.int .i64 z, .int .i64 s] ?_; (with_reducible refine (spec_l1Has.calls k1 z s true _ T.out).mono ?_); rintro e w' ⟨rfl, ⟨nd, rfl⟩⟩; refine ⟨_, rfl, ?_⟩) | (go_at_call 42; (with_reducible refine (spec_l1Has.calls k1 D s true _ A6.out).mono ?_); rintro e w' ⟨rfl, ⟨nd, rfl⟩⟩))
      go_roundg k1
      case measure => have := L.out; omega
      case rel => exact ⟨(wrap64 (s + 1)), eqs, H', ⟨by have := L.out; omega⟩, drs⟩
     ·replace O := Bool.eq_false_iff.mpr O
      subst O
      have H1 : (some false) = some r := by rw [if_neg (show ¬ (false = true) by decide)] at H; exact H
      clear H
      have H := H1
      clear H1
      obtain rfl := Option.some.inj H
      go_wp2_with (first | ((with_reducible refine gc 42 rfl ?_); refine gl 12 Try.func42 #[.int .i64 z, .int .i64 s] ?_; (with_reducible refine (spec_l1Has.calls k1 z s true _ T.out).mono ?_); rintro e w' ⟨rfl, ⟨nd, rfl⟩⟩; refine ⟨_, rfl, ?_⟩) | (go_at_call 42; (with_reducible refine (spec_l1Has.calls k1 D s false _ A6.out).mono ?_); rintro e w' ⟨rfl, ⟨nd, rfl⟩⟩))
      go_ret
      exact ⟨eqs, drs⟩
    ·replace M := Bool.eq_false_iff.mpr M
     subst M
     have H1 : (spec_l1Under.l0 k1 z D (wrap64 (s + 1))) = some r := by rw [if_neg (show ¬ (false = true) by decide)] at H; exact H
     clear H
     have H := H1
     clear H1
     have H' := am H
     clear H
     go_wp2_with (first | ((with_reducible refine gc 42 rfl ?_); refine gl 12 Try.func42 #[.int .i64 z, .int .i64 s] ?_; (with_reducible refine (spec_l1Has.calls k1 z s false _ T.out).mono ?_); rintro e w' ⟨rfl, ⟨nd, rfl⟩⟩; refine ⟨_, rfl, ?_⟩))
     go_roundg k1
     case measure => have := L.out; omega
     case rel => exact ⟨(wrap64 (s + 1)), eqs, H', ⟨by have := L.out; omega⟩, drs⟩
   ·rw [if_neg J] at H
    have aa : decide (s < 3) = false := decide_eq_false J
    clear J
    obtain rfl := Option.some.inj H
    go_wp2
    go_ret
    exact ⟨eqs, drs⟩

/-! ### spec_EdgeOk: function 46 -/
theorem at_rounds {α : Type} {g : Nat → Option α} (hm : ∀ k, LeO (g k) (g (k + 1))) {k0 k : Nat} (h : k0 ≤ k) {r : α} (hr : g k0 = some r) : g k = some r := by
  induction h with
  | refl => exact hr
  | step _ ih => exact hm _ _ ih
theorem sIs (a : Int) : spec_LabelOk.f a = some (isL a) := by
  unfold spec_LabelOk.f isL
  by_cases h : a ≥ 0
  · rw [if_pos h]; simp [h]
  · rw [if_neg h]; simp [h]
theorem sN (a b : Int) : spec_NodeOk.f a b = some (nOk a b) := by
  unfold spec_NodeOk.f
  rw [sIs]
  cases h : isL a
  · simp [nOk, h]
  · by_cases hb : 0 ≤ b
    · simp [nOk, h, hb]
    · simp [nOk, h, hb]
theorem sC2 {a b : Int} (h : nOk a b = true) : spec_l2Code.f a b = some (64 * a + b) := by
  have h' := nOk_iff.1 h
  unfold spec_l2Code.f
  rw [w64 (x := a * 64) (by omega), w64 (x := a * 64 + b) (by omega), Int.mul_comm]
theorem sU8 : ∀ a b : Fin 8, spec_l1Under.f 10 (a.val : Int) (b.val : Int) = some (U a.val b.val) := by decide +kernel
theorem sU {a b : Int} (ha : isL a = true) (hb : isL b = true) : spec_l1Under.f 10 a b = some (U a b) := by
  obtain ⟨x, rfl⟩ := fin8 ha
  obtain ⟨y, rfl⟩ := fin8 hb
  exact sU8 x y
def spec_EdgeOk.f (s : Int) (z : Int) (D : Int) (I : Int) (J : Int) : Option (Bool) := some (EOk s z D I J)
set_option maxHeartbeats 8000000 in
set_option maxRecDepth 100000 in
theorem spec_EdgeOk.calls (I : Int) (z : Int) (J : Int) (D : Int) (L : Int) (r : Bool) (w : World) (h : spec_EdgeOk.f I z J D L = some r) :
    Calls Try.prog 46 #[.agg #[.int .i64 I, .int .i64 z, .int .i64 J, .int .i64 D, .int .i64 L]] w fun e w' => e = .returned (.bool r) ∧ Below w.heap.size w w' := by
  have hu57 := Try.underlying57
  have hu55 := Try.underlying55
  have HB := am (Below.refl w.heap.size w)
  obtain rfl := Option.some.inj h
  clear h
  have F : ∀ (b1 b2 b3 b4 b5 b6 : Bool), isL I = b1 → nOk z J = b2 → nOk D L = b3 → decide (64 * z + J < 64 * D + L) = b4 → U z I = b5 → U D I = b6 →
      Calls Try.prog 46 #[.agg #[.int .i64 I, .int .i64 z, .int .i64 J, .int .i64 D, .int .i64 L]] w fun e w' => e = .returned (.bool (b1 && (b2 && (b3 && (b4 && (b5 && b6)))))) ∧ Below w.heap.size w w' := by
    intro b1 b2 b3 b4 b5 b6 h1 h2 h3 h4 h5 h6
    have H1 := am h1
    have H2 := am h2
    have H3 := am h3
    have H5 := am h5
    have H6 := am h6
    clear h1 h2 h3 h5 h6
    go_enter Try.func46, Try.ntmps46
    go_wp2_with (first | ((with_reducible refine gate_dst (N := 1) rfl ?_); refine box_event ?hg (N := 1) ?hd (cs := #[.int .i64 I, .int .i64 z, .int .i64 J, .int .i64 D, .int .i64 L]) (t := 57) ?hr ?_; (case hd => rfl); (case hg => rfl); (case hr => first | (go_simp; done) | (go_simp; rfl)); intro gb hg M hbox hb; have O := am (below_step HB.out hb); clear HB; have HB := O; clear O hg hb))
    have T : ∀ p : Bel M, p.v.cell? ⟨gb, 0, none⟩ = some (.int .i64 I) := fun p => cell_bel ((blk_cell hbox 0).trans rfl) p
    have X : ∀ p : Bel M, p.v.cell? ⟨gb, 1, none⟩ = some (.int .i64 z) := fun p => cell_bel ((blk_cell hbox 1).trans rfl) p
    have Y : ∀ p : Bel M, p.v.cell? ⟨gb, 2, none⟩ = some (.int .i64 J) := fun p => cell_bel ((blk_cell hbox 2).trans rfl) p
    have Z : ∀ p : Bel M, p.v.cell? ⟨gb, 3, none⟩ = some (.int .i64 D) := fun p => cell_bel ((blk_cell hbox 3).trans rfl) p
    have aa : ∀ p : Bel M, p.v.cell? ⟨gb, 4, none⟩ = some (.int .i64 L) := fun p => cell_bel ((blk_cell hbox 4).trans rfl) p
    clear hbox
    refine wp_region_bel0 (by kernel_rfl) (by kernel_rfl) ?_
    rcases path6 b1 b2 b3 b4 b5 b6 with rfl | ⟨rfl, rfl⟩ | ⟨rfl, rfl, rfl⟩ | ⟨rfl, rfl, rfl, rfl⟩ | ⟨rfl, rfl, rfl, rfl, rfl⟩ | ⟨rfl, rfl, rfl, rfl, rfl, rfl⟩ | ⟨rfl, rfl, rfl, rfl, rfl, rfl⟩ <;>
    (repeat (go_big_quiet_step (first
        | with_reducible exact calls_bel0 (spec_LabelOk.calls _ _ _ ((sIs I).trans (congrArg some H1.out)))
        | with_reducible exact calls_bel (spec_NodeOk.calls z J _ _ ((sN z J).trans (congrArg some H2.out)))
        | with_reducible exact calls_bel (spec_NodeOk.calls D L _ _ ((sN D L).trans (congrArg some H3.out)))
        | with_reducible exact calls_bel (spec_l2Code.calls z J _ _ (sC2 H2.out))
        | with_reducible exact calls_bel (spec_l2Code.calls D L _ _ (sC2 H3.out))
        | with_reducible exact calls_bel0 (spec_l1Under.calls 10 z I _ _ ((sU (nOk_l H2.out) H1.out).trans (congrArg some H5.out)))
        | with_reducible exact calls_bel0 (spec_l1Under.calls 10 D I _ _ ((sU (nOk_l H3.out) H1.out).trans (congrArg some H6.out)))))
     refine wpQuiet_nil ?_
     intro _ hw'
     obtain ⟨⟨wq, hbq⟩, hw''⟩ := hw'
     subst hw''
     go_wp2
     go_ret
     exact ⟨by first | rfl | (simp; done) | (simp [*]; done), below_step HB.out hbq⟩)
  have G := F _ _ _ _ _ _ rfl rfl rfl rfl rfl rfl
  have e : EOk I z J D L = (isL I && (nOk z J && (nOk D L && (decide (64 * z + J < 64 * D + L) && (U z I && U D I))))) := by
    rfl
  rw [e]
  exact G

/-! ### spec_OpLabel: function 34 -/
mutual
def spec_OpLabel.j0 : Nat → Int → Bool → Int → Int → Int → Int → Int → Int → Int → Int → Option (Int)
 | 0, _, _, _, _, _, _, _, _, _, _ => none
 | k + 1, z, X, T, s, D, I, J, L, M, O => if X = true then ((spec_NodeOk.f s D).bind fun Y => (if Y = true then (if (I == 0 && ((J == 0 && (L == 0)) && ((M == 0 && (O == 0))))) = true then (some s) else (some (-1))) else (some (-1)))) else (if z = 2 then (spec_OpLabel.j1 k (z == 2) T s D I J L M O) else (spec_OpLabel.j1 k (z == 3) T s D I J L M O))
def spec_OpLabel.j1 : Nat → Bool → Int → Int → Int → Int → Int → Int → Int → Int → Option (Int)
 | 0, _, _, _, _, _, _, _, _, _ => none
 | k + 1, z, X, D, I, s, J, L, M, O => if z = true then ((spec_EdgeOk.f s J L M O).bind fun T => (if T = true then (if (D == 0 && (I == 0)) = true then (some s) else (some (-1))) else (some (-1)))) else (some (-1))
end
def spec_OpLabel.f (k : Nat) (s : Int) (z : Int) (D : Int) (I : Int) (J : Int) (L : Int) (M : Int) (O : Int) : Option (Int) := if s = 1 then (spec_OpLabel.j0 k s (s == 1) s z D I J L M O) else (spec_OpLabel.j0 k s (s == 4) s z D I J L M O)
theorem spec_OpLabel.calls (k : Nat) (J : Int) (D : Int) (L : Int) (I : Int) (M : Int) (O : Int) (T : Int) (X : Int) (r : Int) (w : World) (h : spec_OpLabel.f k J D L I M O T X = some r) :
  Calls Try.prog 34 #[.agg #[.int .i64 J, .int .i64 D, .int .i64 L, .int .i64 I, .int .i64 M, .int .i64 O, .int .i64 T, .int .i64 X]] w fun e w' => e = .returned (.int .i64 r) ∧ Below w.heap.size w w' := by
 have hu59 := Try.underlying59
 have hu55 := Try.underlying55
 have hu57 := Try.underlying57
 have HB := am (Below.refl w.heap.size w)
 have H := h; unfold spec_OpLabel.f at H
 clear h
 have ah := am H
 clear H
 go_enter Try.func34, Try.ntmps34
 go_upto_if 5 with (first | ((with_reducible refine gd 1 rfl ?_); refine bx 1 (cs := #[.int .i64 J, .int .i64 D, .int .i64 L, .int .i64 I, .int .i64 M, .int .i64 O, .int .i64 T, .int .i64 X]) (t := 59) ?_; intro ap hg w3 hbox hb; have z := am hbox; have bP := gwb HB hg; replace HB := hs HB hb; clear hb hbox hg; obtain ⟨aq, ar, au, av, aw, ax, ay, az⟩ := bc8 (w := w3) z.out; have aA := blk_frozen z.out))
 (try simp only [Act.put, List.setIfInBounds_toArray, List.set_cons_zero, List.set_cons_succ])
 go_cut [5] (fun v5 wc => ∃ (kq : Nat) (ad : Bool), v5 = .bool ad ∧ Aside0 (spec_OpLabel.j0 kq J ad J D L I M O T X = some r) ∧ Aside0 (kq ≤ k) ∧ Aside0 (wc.heap[ap]? = some (.cells #[.int .i64 J, .int .i64 D, .int .i64 L, .int .i64 I, .int .i64 M, .int .i64 O, .int .i64 T, .int .i64 X] 59 (0, 0))) ∧ Aside0 (Below w.heap.size w wc))
 case first =>
  have H := ah.out
  clear ah
  by_cases c5 : J = 1
  ·rw [if_pos c5] at H
   have ab : (J == 1) = true := beq_iff_eq.mpr c5
   have ai : (J != 1) = false := bne_eq_false_iff_eq.mpr c5
   clear c5
   (first | rw [ab] | (simp only [i64_w, i32_w]; rw [ab]) | skip)
   have H' := am H
   clear H
   go_wp2
   go_meet
   case rel => exact ⟨_, ((J == 1)), eqs, H', ⟨by first | omega | exact Nat.le_refl _⟩, ⟨bf z.out⟩, ⟨bs HB.out⟩⟩
  ·rw [if_neg c5] at H
   have ab : (J == 1) = false := beq_eq_false_iff_ne.mpr c5
   have ai : (J != 1) = true := bne_iff_ne.mpr c5
   (first | rw [ab] | (simp only [i64_w, i32_w]; rw [ab]) | skip)
   have H' := am H
   clear H
   go_wp2
   go_meet
   case rel => exact ⟨_, ((J == 4)), eqs, H', ⟨by first | omega | exact Nat.le_refl _⟩, ⟨bf z.out⟩, ⟨bs HB.out⟩⟩
 case rest =>
  clear ah
  try clear p2
  try clear c3
  try clear c5
  try clear ab
  try clear ai
  try clear aq ar au av aw ax ay az
  try clear aA
  obtain ⟨kq, ad, rfl, HA, aB, z, HB⟩ := hcut
  cases kq with
  | zero => exact absurd HA.out (by simp [spec_OpLabel.j0])
  | succ aj =>
   have H := HA.out
   clear HA
   simp only [spec_OpLabel.j0] at H
   by_cases c6 : ad = true
   ·subst c6
    replace H : ((spec_NodeOk.f D L).bind fun ak => (if ak = true then (if (I == 0 && ((M == 0 && (O == 0)) && ((T == 0 && (X == 0))))) = true then (some D) else (some (-1))) else (some (-1)))) = some r := by rw [if_pos rfl] at H; exact H
    replace H := Option.bind_eq_some_iff.mp H
    obtain ⟨ak, aC, H⟩ := H
    try dsimp -simprocs only at H
    have A7 := am aC
    clear aC
    by_cases c8 : ak = true
    ·subst c8
     replace H : (if (I == 0 && ((M == 0 && (O == 0)) && ((T == 0 && (X == 0))))) = true then (some D) else (some (-1))) = some r := by rw [if_pos rfl] at H; exact H
     by_cases Y : (I == 0 && ((M == 0 && (O == 0)) && ((T == 0 && (X == 0))))) = true
     ·rw [if_pos Y] at H
      have aD : (I == 0 && ((M == 0 && (O == 0)) && ((T == 0 && (X == 0))))) = true := Y
      (try (have aE : decide (I = 0 && ((M == 0 && (O == 0)) && ((T == 0 && (X == 0))))) = true := by simpa using Y))
      (try (have aF : (I == 0 && ((M == 0 && (O == 0)) && ((T == 0 && (X == 0))))) = true := by simpa using Y))
      clear Y
      obtain rfl := Option.some.inj H
      obtain ⟨aI, aJ, aK, aL, aM, aN, aO, aP⟩ := bc8 (w := wc) z.out
      have aQ := blk_frozen z.out
      go_wp2_with (first | ((with_reducible refine gc 45 rfl ?_); refine gl 10 Try.func45 #[.agg #[.int .i64 D, .int .i64 L]] ?_; (with_reducible refine (spec_NodeOk.calls D L true _ A7.out).mono ?_); rintro e aR ⟨rfl, hb⟩; refine ⟨_, rfl, ?_⟩; replace z := bb z hb rfl; replace HB := hs HB hb; (try clear hb); obtain ⟨aS, aT, aU, aV, aW, aX, aY, aZ⟩ := bc8 (w := aR) z.out; have a8 := blk_frozen z.out))
      go_ret
      exact ⟨eqr, bs HB.out⟩
     ·rw [if_neg Y] at H
      have aD : (I == 0 && ((M == 0 && (O == 0)) && ((T == 0 && (X == 0))))) = false := by simpa using Y
      (try (have aE : decide (I = 0 && ((M == 0 && (O == 0)) && ((T == 0 && (X == 0))))) = false := by simpa using Y))
      (try (have aF : (I == 0 && ((M == 0 && (O == 0)) && ((T == 0 && (X == 0))))) = false := by simpa using Y))
      (try (have bQ : ¬ (I = 0 && ((M == 0 && (O == 0)) && ((T == 0 && (X == 0))))) := by simpa using Y))
      clear Y
      obtain rfl := Option.some.inj H
      obtain ⟨a9, ba, bc, be, bg, bh, bi, bj⟩ := bc8 (w := wc) z.out
      have bk := blk_frozen z.out
      go_wp2_with (first | ((with_reducible refine gc 45 rfl ?_); refine gl 10 Try.func45 #[.agg #[.int .i64 D, .int .i64 L]] ?_; (with_reducible refine (spec_NodeOk.calls D L true _ A7.out).mono ?_); rintro e bl ⟨rfl, hb⟩; refine ⟨_, rfl, ?_⟩; replace z := bb z hb rfl; replace HB := hs HB hb; (try clear hb); obtain ⟨bm, bn, bo, br, bt, bu, bv, bw⟩ := bc8 (w := bl) z.out; have bz := blk_frozen z.out))
      go_ret
      exact ⟨eqr, bs HB.out⟩
    ·replace c8 := Bool.eq_false_iff.mpr c8
     subst c8
     have H1 : (some (-1)) = some r := by rw [if_neg (show ¬ (false = true) by decide)] at H; exact H
     clear H
     have H := H1
     clear H1
     obtain rfl := Option.some.inj H
     obtain ⟨bA, bB, bC, bD, bE, bF, bG, bH⟩ := bc8 (w := wc) z.out
     have bI := blk_frozen z.out
     go_wp2_with (first | ((with_reducible refine gc 45 rfl ?_); refine gl 10 Try.func45 #[.agg #[.int .i64 D, .int .i64 L]] ?_; (with_reducible refine (spec_NodeOk.calls D L false _ A7.out).mono ?_); rintro e bR ⟨rfl, hb⟩; refine ⟨_, rfl, ?_⟩; replace z := bb z hb rfl; replace HB := hs HB hb; (try clear hb)))
     go_ret
     exact ⟨eqr, bs HB.out⟩
   ·replace c6 := Bool.eq_false_iff.mpr c6
    subst c6
    have H1 : (if J = 2 then (spec_OpLabel.j1 aj (J == 2) J D L I M O T X) else (spec_OpLabel.j1 aj (J == 3) J D L I M O T X)) = some r := by rw [if_neg (show ¬ (false = true) by decide)] at H; exact H
    clear H
    have H := H1
    clear H1
    have al := am H
    clear H
    go_upto_if 20 with (fail)
    go_cut [20] (fun bJ wc => ∃ (kq : Nat) (ae : Bool), bJ = .bool ae ∧ Aside0 (spec_OpLabel.j1 kq ae J D L I M O T X = some r) ∧ Aside0 (kq ≤ aj) ∧ Aside0 (wc.heap[ap]? = some (.cells #[.int .i64 J, .int .i64 D, .int .i64 L, .int .i64 I, .int .i64 M, .int .i64 O, .int .i64 T, .int .i64 X] 59 (0, 0))) ∧ Aside0 (Below w.heap.size w wc))
    case first =>
     have H := al.out
     clear al
     by_cases aa : J = 2
     ·rw [if_pos aa] at H
      have ac : (J == 2) = true := beq_iff_eq.mpr aa
      have aG : (J != 2) = false := bne_eq_false_iff_eq.mpr aa
      clear aa
      (first | rw [ac] | (simp only [i64_w, i32_w]; rw [ac]) | skip)
      have H' := am H
      clear H
      go_wp2
      go_meet
      case rel => exact ⟨_, ((J == 2)), eqs, H', ⟨by have := aB.out; first | omega | exact Nat.le_refl _⟩, ⟨bf z.out⟩, ⟨bs HB.out⟩⟩
     ·rw [if_neg aa] at H
      have ac : (J == 2) = false := beq_eq_false_iff_ne.mpr aa
      have aG : (J != 2) = true := bne_iff_ne.mpr aa
      (first | rw [ac] | (simp only [i64_w, i32_w]; rw [ac]) | skip)
      have H' := am H
      clear H
      go_wp2
      go_meet
      case rel => exact ⟨_, ((J == 3)), eqs, H', ⟨by have := aB.out; first | omega | exact Nat.le_refl _⟩, ⟨bf z.out⟩, ⟨bs HB.out⟩⟩
    case rest =>
     clear al
     try clear c1
     try clear p2
     try clear c3
     try clear c4
     try clear c5
     try clear ab
     try clear ai
     try clear c6
     try clear c8
     try clear Y
     try clear aD
     try clear aE
     try clear aF
     try clear aa
     try clear ac
     try clear aG
     try clear aI aJ aK aL aM aN aO aP
     try clear aS aT aU aV aW aX aY aZ
     try clear a9 ba bc be bg bh bi bj
     try clear bm bn bo br bt bu bv bw
     try clear bA bB bC bD bE bF bG bH
     try clear aq ar au av aw ax ay az
     try clear aQ
     try clear a8
     try clear bk
     try clear bz
     try clear bI
     try clear aA
     try clear p2
     obtain ⟨kq, ae, rfl, HA, bS, z, HB⟩ := hcut
     cases kq with
     | zero => exact absurd HA.out (by simp [spec_OpLabel.j1])
     | succ bT =>
      have H := HA.out
      clear HA
      simp only [spec_OpLabel.j1] at H
      by_cases af : ae = true
      ·subst af
       replace H : ((spec_EdgeOk.f I M O T X).bind fun an => (if an = true then (if (D == 0 && (L == 0)) = true then (some I) else (some (-1))) else (some (-1)))) = some r := by rw [if_pos rfl] at H; exact H
       replace H := Option.bind_eq_some_iff.mp H
       obtain ⟨an, aH, H⟩ := H
       try dsimp -simprocs only at H
       have ao := am aH
       clear aH
       by_cases ag : an = true
       ·subst ag
        replace H : (if (D == 0 && (L == 0)) = true then (some I) else (some (-1))) = some r := by rw [if_pos rfl] at H; exact H
        by_cases Z : (D == 0 && (L == 0)) = true
        ·rw [if_pos Z] at H
         have bK : (D == 0 && (L == 0)) = true := Z
         (try (have bL : decide (D = 0 && (L == 0)) = true := by simpa using Z))
         (try (have bM : (D == 0 && (L == 0)) = true := by simpa using Z))
         clear Z
         obtain rfl := Option.some.inj H
         obtain ⟨bU, bV, bW, bX, bY, bZ, b0, b7⟩ := bc8 (w := wc) z.out
         have b8 := blk_frozen z.out
         go_wp2_with (first | ((with_reducible refine gc 46 rfl ?_); refine gl 25 Try.func46 #[.agg #[.int .i64 I, .int .i64 M, .int .i64 O, .int .i64 T, .int .i64 X]] ?_; (with_reducible refine (spec_EdgeOk.calls I M O T X true _ ao.out).mono ?_); rintro e bN ⟨rfl, hb⟩; refine ⟨_, rfl, ?_⟩; replace z := bb z hb rfl; replace HB := hs HB hb; (try clear hb); obtain ⟨b9, ce, cf, cg, ch, ci, cj, ck⟩ := bc8 (w := bN) z.out; have cl := blk_frozen z.out))
         go_ret
         exact ⟨eqr, bs HB.out⟩
        ·rw [if_neg Z] at H
         have bK : (D == 0 && (L == 0)) = false := by simpa using Z
         (try (have bL : decide (D = 0 && (L == 0)) = false := by simpa using Z))
         (try (have bM : (D == 0 && (L == 0)) = false := by simpa using Z))
         (try (have cm : ¬ (D = 0 && (L == 0)) := by simpa using Z))
         clear Z
         obtain rfl := Option.some.inj H
         obtain ⟨cn, co, cp, ct, cu, cv, cy, cz⟩ := bc8 (w := wc) z.out
         have cA := blk_frozen z.out
         go_wp2_with (first | ((with_reducible refine gc 46 rfl ?_); refine gl 25 Try.func46 #[.agg #[.int .i64 I, .int .i64 M, .int .i64 O, .int .i64 T, .int .i64 X]] ?_; (with_reducible refine (spec_EdgeOk.calls I M O T X true _ ao.out).mono ?_); rintro e bO ⟨rfl, hb⟩; refine ⟨_, rfl, ?_⟩; replace z := bb z hb rfl; replace HB := hs HB hb; (try clear hb); obtain ⟨cB, cC, cD, cE, cF, cG, cH, cI⟩ := bc8 (w := bO) z.out; have cJ := blk_frozen z.out))
         go_ret
         exact ⟨eqr, bs HB.out⟩
       ·replace ag := Bool.eq_false_iff.mpr ag
        subst ag
        have H1 : (some (-1)) = some r := by rw [if_neg (show ¬ (false = true) by decide)] at H; exact H
        clear H
        have H := H1
        clear H1
        obtain rfl := Option.some.inj H
        obtain ⟨cK, cL, cM, cN, cO, cP, cQ, cR⟩ := bc8 (w := wc) z.out
        have cS := blk_frozen z.out
        go_wp2_with (first | ((with_reducible refine gc 46 rfl ?_); refine gl 25 Try.func46 #[.agg #[.int .i64 I, .int .i64 M, .int .i64 O, .int .i64 T, .int .i64 X]] ?_; (with_reducible refine (spec_EdgeOk.calls I M O T X false _ ao.out).mono ?_); rintro e cT ⟨rfl, hb⟩; refine ⟨_, rfl, ?_⟩; replace z := bb z hb rfl; replace HB := hs HB hb; (try clear hb)))
        go_ret
        exact ⟨eqr, bs HB.out⟩
      ·replace af := Bool.eq_false_iff.mpr af
       subst af
       have H1 : (some (-1)) = some r := by rw [if_neg (show ¬ (false = true) by decide)] at H; exact H
       clear H
       have H := H1
       clear H1
       obtain rfl := Option.some.inj H
       go_wp2
       go_ret
       exact ⟨eqr, bs HB.out⟩

/-! ### spec_l2EdgeAt: function 47 -/
def spec_l2EdgeAt.l0 : Nat → Int → List (S55) → List (S57) → Int → Int → Int → Int → Int → Option (Int)
 | 0, _, _, _, _, _, _, _, _ => none
 | k + 1, s, O, z, D, I, J, L, M => if s < (z.length : Int) then (if 0 ≤ s then (if (((rd_T57 z s).f0) == D && ((((rd_T57 z s).f1.f0) == I && (((rd_T57 z s).f1.f1) == J)) && ((((rd_T57 z s).f2.f0) == L && (((rd_T57 z s).f2.f1) == M))))) = true then (some s) else (spec_l2EdgeAt.l0 k (wrap64 (s + 1)) O z D I J L M)) else (none)) else (some (-1))
def spec_l2EdgeAt.f (k : Nat) (s : List (S55)) (z : List (S57)) (D : Int) (I : Int) (J : Int) (L : Int) (M : Int) : Option (Int) := spec_l2EdgeAt.l0 k 0 s z D I J L M
theorem spec_l2EdgeAt.calls (k : Nat) (ac : Option Addr) (ad : Nat) (Y : List (S55)) (ae : Option Addr) (af : Nat) (s : List (S57)) (J : Int) (L : Int) (M : Int) (O : Int) (T : Int) (r : Int) (w : World) (ar : Kd.C k55 w ac Y.length Y) (au : Y.length ≤ ad) (av : Kd.C k57 w ae s.length s) (aw : s.length ≤ af) (h : spec_l2EdgeAt.f k Y s J L M O T = some r) :
  Calls Try.prog 47 #[.agg #[.slice ac Y.length ad, .slice ae s.length af], .agg #[.int .i64 J, .int .i64 L, .int .i64 M, .int .i64 O, .int .i64 T]] w fun e w' => e = .returned (.int .i64 r) ∧ Below w.heap.size w w' := by
 have hu38 := Try.underlying38
 have hu57 := Try.underlying57
 have aG := am ar
 have aH := am au
 clear ar au
 have ax := am av
 have aI := am aw
 clear av aw
 have HB := am (Below.refl w.heap.size w)
 have H := h; unfold spec_l2EdgeAt.f at H
 clear h
 have H' := am H
 clear H
 go_enter Try.func47, Try.ntmps47
 go_wp2_with (first | ((with_reducible refine gd 2 rfl ?_); refine bx 2 (cs := #[.slice ac Y.length ad, .slice ae s.length af]) (t := 38) ?_; intro ao hg w3 hbox hb; have I := am hbox; have ay := gwb HB hg; replace HB := hs HB hb; clear hb hbox hg) | ((with_reducible refine gd 3 rfl ?_); refine bx 3 (cs := #[.int .i64 J, .int .i64 L, .int .i64 M, .int .i64 O, .int .i64 T]) (t := 57) ?_; intro ap hg w4 hbox hb; have Z := am hbox; have az := gwb HB hg; replace HB := hs HB hb; have ag := nq I hg; have ah := nq' I hg; replace I := bb I hb rfl; clear hb hbox hg))
 repeat (go_quiet (first | ((with_reducible refine gd 2 rfl ?_); refine bx 2 (cs := #[.slice ac Y.length ad, .slice ae s.length af]) (t := 38) ?_; intro ao hg w3 hbox hb; have I := am hbox; have ay := gwb HB hg; replace HB := hs HB hb; clear hb hbox hg) | ((with_reducible refine gd 3 rfl ?_); refine bx 3 (cs := #[.int .i64 J, .int .i64 L, .int .i64 M, .int .i64 O, .int .i64 T]) (t := 57) ?_; intro ap hg w4 hbox hb; have Z := am hbox; have az := gwb HB hg; replace HB := hs HB hb; have ag := nq I hg; have ah := nq' I hg; replace I := bb I hb rfl; clear hb hbox hg)); try go_wp2_with (first | ((with_reducible refine gd 2 rfl ?_); refine bx 2 (cs := #[.slice ac Y.length ad, .slice ae s.length af]) (t := 38) ?_; intro ao hg w3 hbox hb; have I := am hbox; have ay := gwb HB hg; replace HB := hs HB hb; clear hb hbox hg) | ((with_reducible refine gd 3 rfl ?_); refine bx 3 (cs := #[.int .i64 J, .int .i64 L, .int .i64 M, .int .i64 O, .int .i64 T]) (t := 57) ?_; intro ap hg w4 hbox hb; have Z := am hbox; have az := gwb HB hg; replace HB := hs HB hb; have ag := nq I hg; have ah := nq' I hg; replace I := bb I hb rfl; clear hb hbox hg)))
 go_loopg [5] k (fun kq v5 w' => ∃ (z : Int), v5 = .int .i64 z ∧ Aside0 (spec_l2EdgeAt.l0 kq z Y s J L M O T = some r) ∧ Aside0 (kq ≤ k) ∧ Aside0 (w'.heap[ao]? = some (.cells #[(.slice ac Y.length ad), (.slice ae s.length af)] 38 (0, 0))) ∧ Aside0 (w'.heap[ap]? = some (.cells #[.int .i64 J, .int .i64 L, .int .i64 M, .int .i64 O, .int .i64 T] 57 (0, 0))) ∧ Aside0 (Below w.heap.size w w'))
 case atStart => exact ⟨(0), eqs, H', ⟨Nat.le_refl _⟩, ⟨bf I.out⟩, ⟨bf Z.out⟩, ⟨bs HB.out⟩⟩
 case round =>
  clear H'
  try clear p2
  try clear c4
  obtain ⟨z, rfl, HA, aA, I, Z, HB⟩ := hrel
  cases gk with
  | zero => exact absurd HA.out (by simp [spec_l2EdgeAt.l0])
  | succ k1 =>
   have H := HA.out
   clear HA
   simp only [spec_l2EdgeAt.l0] at H
   by_cases c5 : z < (s.length : Int)
   ·rw [if_pos c5] at H
    have aB : decide (z < (s.length : Int)) = true := decide_eq_true c5
    clear c5
    by_cases c6 : 0 ≤ z
    ·rw [if_pos c6] at H
     have aJ : decide (0 ≤ z) = true := decide_eq_true c6
     clear c6
     by_cases X : (((rd_T57 s z).f0) == J && ((((rd_T57 s z).f1.f0) == L && (((rd_T57 s z).f1.f1) == M)) && ((((rd_T57 s z).f2.f0) == O && (((rd_T57 s z).f2.f1) == T))))) = true
     ·rw [if_pos X] at H
      have aC : (((rd_T57 s z).f0) == J && ((((rd_T57 s z).f1.f0) == L && (((rd_T57 s z).f1.f1) == M)) && ((((rd_T57 s z).f2.f0) == O && (((rd_T57 s z).f2.f1) == T))))) = true := X
      (try (have aD : decide (((rd_T57 s z).f0) = J && ((((rd_T57 s z).f1.f0) == L && (((rd_T57 s z).f1.f1) == M)) && ((((rd_T57 s z).f2.f0) == O && (((rd_T57 s z).f2.f1) == T))))) = true := by simpa using X))
      (try (have aE : (((rd_T57 s z).f0) == J && ((((rd_T57 s z).f1.f0) == L && (((rd_T57 s z).f1.f1) == M)) && ((((rd_T57 s z).f2.f0) == O && (((rd_T57 s z).f2.f1) == T))))) = true := by simpa using X))
      clear X
      obtain rfl := Option.some.inj H
      have aK := ag.out
      have aL := ah.out
      obtain ⟨aM, aN⟩ := bc2 (w := wr) I.out
      have aO := blk_frozen I.out
      have aa : 0 ≤ (z : Int) := oda
      have ab : z < (s.length : Int) := oda
      obtain ⟨aF, aq, ai, aj, ak, al, an⟩ := at_T57 ax.out z aa ab
      cases aq
      replace ai := cb HB ai
      replace aj := cb HB aj
      replace ak := cb HB ak
      replace al := cb HB al
      replace an := cb HB an
      replace aa := eq_true aa
      replace ab := eq_true ab
      obtain ⟨aP, aQ, aR, aS, aT⟩ := bc5 (w := wr) Z.out
      have aU := blk_frozen Z.out
      go_wp2
      repeat (go_quiet (fail); try go_wp2)
      go_ret
      exact ⟨eqr, bs HB.out⟩
     ·rw [if_neg X] at H
      have aC : (((rd_T57 s z).f0) == J && ((((rd_T57 s z).f1.f0) == L && (((rd_T57 s z).f1.f1) == M)) && ((((rd_T57 s z).f2.f0) == O && (((rd_T57 s z).f2.f1) == T))))) = false := by simpa using X
      (try (have aD : decide (((rd_T57 s z).f0) = J && ((((rd_T57 s z).f1.f0) == L && (((rd_T57 s z).f1.f1) == M)) && ((((rd_T57 s z).f2.f0) == O && (((rd_T57 s z).f2.f1) == T))))) = false := by simpa using X))
      (try (have aE : (((rd_T57 s z).f0) == J && ((((rd_T57 s z).f1.f0) == L && (((rd_T57 s z).f1.f1) == M)) && ((((rd_T57 s z).f2.f0) == O && (((rd_T57 s z).f2.f1) == T))))) = false := by simpa using X))
      (try (have aV : ¬ (((rd_T57 s z).f0) = J && ((((rd_T57 s z).f1.f0) == L && (((rd_T57 s z).f1.f1) == M)) && ((((rd_T57 s z).f2.f0) == O && (((rd_T57 s z).f2.f1) == T))))) := by simpa using X))
      clear X
      have H' := am H
      clear H
      have aW := ag.out
      have aX := ah.out
      obtain ⟨aY, aZ⟩ := bc2 (w := wr) I.out
      have a8 := blk_frozen I.out
      have aa : 0 ≤ (z : Int) := oda
      have ab : z < (s.length : Int) := oda
      obtain ⟨aF, aq, ai, aj, ak, al, an⟩ := at_T57 ax.out z aa ab
      cases aq
      replace ai := cb HB ai
      replace aj := cb HB aj
      replace ak := cb HB ak
      replace al := cb HB al
      replace an := cb HB an
      replace aa := eq_true aa
      replace ab := eq_true ab
      obtain ⟨a9, ba, bc, be, bg⟩ := bc5 (w := wr) Z.out
      have bh := blk_frozen Z.out
      go_wp2
      repeat (go_quiet (fail); try go_wp2)
      go_roundg k1
      case measure => have := aA.out; omega
      case rel => exact ⟨(wrap64 (z + 1)), eqs, H', ⟨by have := aA.out; omega⟩, ⟨bf I.out⟩, ⟨bf Z.out⟩, ⟨bs HB.out⟩⟩
    ·rw [if_neg c6] at H
     exact absurd H (by simp)
   ·rw [if_neg c5] at H
    have aB : decide (z < (s.length : Int)) = false := decide_eq_false c5
    clear c5
    obtain rfl := Option.some.inj H
    have bi := ag.out
    have bj := ah.out
    obtain ⟨bk, bl⟩ := bc2 (w := wr) I.out
    have bm := blk_frozen I.out
    go_wp2
    repeat (go_quiet (fail); try go_wp2)
    go_ret
    exact ⟨eqr, bs HB.out⟩

/-! ### spec_l2Nodes: function 48 -/
def spec_l2Nodes.l0 : Nat → Int → Int → Int → List (S55) → List (S57) → Option (Int)
 | 0, _, _, _, _, _ => none
 | k + 1, D, I, s, z, J => if s < (z.length : Int) then (if 0 ≤ s then (if ((rd_T55 z s).f0) = D then (spec_l2Nodes.l0 k D (wrap64 (I + 1)) (wrap64 (s + 1)) z J) else (spec_l2Nodes.l0 k D I (wrap64 (s + 1)) z J)) else (none)) else (some I)
def spec_l2Nodes.f (k : Nat) (s : List (S55)) (z : List (S57)) (D : Int) : Option (Int) := spec_l2Nodes.l0 k D 0 0 s z
theorem spec_l2Nodes.calls (k : Nat) (aa : Option Addr) (ab : Nat) (z : List (S55)) (ac : Option Addr) (ad : Nat) (I : List (S57)) (J : Int) (r : Int) (w : World) (ah : Kd.C k55 w aa z.length z) (ai : z.length ≤ ab) (aj : Kd.C k57 w ac I.length I) (ak : I.length ≤ ad) (h : spec_l2Nodes.f k z I J = some r) :
  Calls Try.prog 48 #[.agg #[.slice aa z.length ab, .slice ac I.length ad], .int .i64 J] w fun e w' => e = .returned (.int .i64 r) ∧ Below w.heap.size w w' := by
 have hu38 := Try.underlying38
 have al := am ah
 have au := am ai
 clear ah ai
 have av := am aj
 have aw := am ak
 clear aj ak
 have HB := am (Below.refl w.heap.size w)
 have H := h; unfold spec_l2Nodes.f at H
 clear h
 have H' := am H
 clear H
 go_enter Try.func48, Try.ntmps48
 go_wp2_with (first | ((with_reducible refine gd 2 rfl ?_); refine bx 2 (cs := #[.slice aa z.length ab, .slice ac I.length ad]) (t := 38) ?_; intro an hg w3 hbox hb; have D := am hbox; have ax := gwb HB hg; replace HB := hs HB hb; clear hb hbox hg))
 go_loopg [5, 6] k (fun kq v5 v6 w' => ∃ (X : Int) (s : Int), v5 = .int .i64 X ∧ v6 = .int .i64 s ∧ Aside0 (spec_l2Nodes.l0 kq J X s z I = some r) ∧ Aside0 (kq ≤ k) ∧ Aside0 (w'.heap[an]? = some (.cells #[(.slice aa z.length ab), (.slice ac I.length ad)] 38 (0, 0))) ∧ Aside0 (Below w.heap.size w w'))
 case atStart => exact ⟨(0), (0), eqs, eqs, H', ⟨Nat.le_refl _⟩, ⟨bf D.out⟩, ⟨bs HB.out⟩⟩
 case round =>
  clear H'
  try clear p2
  obtain ⟨X, s, rfl, rfl, HA, ae, D, HB⟩ := hrel
  cases gk with
  | zero => exact absurd HA.out (by simp [spec_l2Nodes.l0])
  | succ k1 =>
   have H := HA.out
   clear HA
   simp only [spec_l2Nodes.l0] at H
   by_cases T : s < (z.length : Int)
   ·rw [if_pos T] at H
    have ao : decide (s < (z.length : Int)) = true := decide_eq_true T
    clear T
    by_cases c5 : 0 ≤ s
    ·rw [if_pos c5] at H
     have ay : decide (0 ≤ s) = true := decide_eq_true c5
     clear c5
     by_cases L : ((rd_T55 z s).f0) = J
     ·rw [if_pos L] at H
      have ap : (((rd_T55 z s).f0) == J) = true := beq_iff_eq.mpr L
      have aq : (((rd_T55 z s).f0) != J) = false := bne_eq_false_iff_eq.mpr L
      clear L
      have H' := am H
      clear H
      obtain ⟨az, aA⟩ := bc2 (w := wr) D.out
      have aB := blk_frozen D.out
      have M : 0 ≤ (s : Int) := oda
      have O : s < (z.length : Int) := oda
      obtain ⟨ar, ag, Y, Z⟩ := at_T55 al.out s M O
      cases ag
      replace Y := cb HB Y
      replace Z := cb HB Z
      replace M := eq_true M
      replace O := eq_true O
      go_wp2
      go_roundg k1
      case measure => have := ae.out; omega
      case rel => exact ⟨(wrap64 (X + 1)), (wrap64 (s + 1)), eqs, eqs, H', ⟨by have := ae.out; omega⟩, ⟨bf D.out⟩, ⟨bs HB.out⟩⟩
     ·rw [if_neg L] at H
      have ap : (((rd_T55 z s).f0) == J) = false := beq_eq_false_iff_ne.mpr L
      have aq : (((rd_T55 z s).f0) != J) = true := bne_iff_ne.mpr L
      have H' := am H
      clear H
      obtain ⟨aC, aD⟩ := bc2 (w := wr) D.out
      have aE := blk_frozen D.out
      have M : 0 ≤ (s : Int) := oda
      have O : s < (z.length : Int) := oda
      obtain ⟨ar, ag, Y, Z⟩ := at_T55 al.out s M O
      cases ag
      replace Y := cb HB Y
      replace Z := cb HB Z
      replace M := eq_true M
      replace O := eq_true O
      go_wp2
      go_roundg k1
      case measure => have := ae.out; omega
      case rel => exact ⟨(X), (wrap64 (s + 1)), eqs, eqs, H', ⟨by have := ae.out; omega⟩, ⟨bf D.out⟩, ⟨bs HB.out⟩⟩
    ·rw [if_neg c5] at H
     exact absurd H (by simp)
   ·rw [if_neg T] at H
    have ao : decide (s < (z.length : Int)) = false := decide_eq_false T
    clear T
    obtain rfl := Option.some.inj H
    obtain ⟨aF, aG⟩ := bc2 (w := wr) D.out
    have aH := blk_frozen D.out
    go_wp2
    go_ret
    exact ⟨eqr, bs HB.out⟩

end Go.Proofs.Ytkbamcicbofjbaa.QFnStoreNarrow
