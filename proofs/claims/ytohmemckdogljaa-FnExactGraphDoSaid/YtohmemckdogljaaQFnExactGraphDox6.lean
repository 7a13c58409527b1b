/- Contracts of the Go functions that this law reaches: each does what its plain Lean function says. No condition. -/
import Derived.Test.YtohmemckdogljaaQFnExactGraphDox0
namespace Go.Proofs.Ytohmemckdogljaa.QFnExactGraphDo
open Go.RowKit Go.Proofs.YtohmemckdogljaaW.PrintWords Go.Proofs.YtohmemckdogljaaW.PrintLast Go.Proofs.YtohmemckdogljaaW.PrintMore Go.Proofs.Ytohmemckdogljaa.Bl
attribute [local go_sem] max2_int min2_int max_two min_two max_three min_three max_four min_four   -- for this text's walks alone
set_option linter.unusedVariables false
set_option linter.unusedSimpArgs false
set_option maxHeartbeats 8000000
set_option maxRecDepth 100000

/-! ### spec_l2Nodes: function 79 -/
def spec_l2Nodes.l0 : Nat → Int → Int → Int → List (S36) → List (S56) → Option (Int)
 | 0, _, _, _, _, _ => none
 | k + 1, z, D, s, y, G => if s < (y.length : Int) then (if 0 ≤ s then (if ((rd_T36 y s).f0) = z then (spec_l2Nodes.l0 k z (wrap64 (D + 1)) (wrap64 (s + 1)) y G) else (spec_l2Nodes.l0 k z D (wrap64 (s + 1)) y G)) else (none)) else (some D)
def spec_l2Nodes.f (k : Nat) (s : List (S36)) (y : List (S56)) (z : Int) : Option (Int) := spec_l2Nodes.l0 k z 0 0 s y
theorem spec_l2Nodes.calls (k : Nat) (Y : Option Addr) (Z : Nat) (y : List (S36)) (aa : Option Addr) (ab : Nat) (D : List (S56)) (G : Int) (r : Int) (w : World) (af : Kd.C k36 w Y y.length y) (ag : y.length ≤ Z) (ah : Kd.C k56 w aa D.length D) (ai : D.length ≤ ab) (h : spec_l2Nodes.f k y D G = some r) :
  Calls Try.prog 79 #[.agg #[.slice Y y.length Z, .slice aa D.length ab], .int .i64 G] w fun e w' => e = .returned (.int .i64 r) ∧ Below w.heap.size w w' := by
 have hu34 := Try.underlying34
 have aj := am af
 have aq := am ag
 clear af ag
 have ar := am ah
 have au := am ai
 clear ah ai
 have HB := am (Below.refl w.heap.size w)
 have H := h; unfold spec_l2Nodes.f at H
 clear h
 have H' := am H
 clear H
 go_enter Try.func79, Try.ntmps79
 go_wp2_with (first | ((with_reducible refine gd 2 rfl ?_); refine bx 2 (cs := #[.slice Y y.length Z, .slice aa D.length ab]) (t := 34) ?_; intro ak hg w3 hbox hb; have z := am hbox; have av := gwb HB hg; replace HB := hs HB hb; clear hb hbox hg))
 go_loopg [5, 6] k (fun kq v5 v6 w' => ∃ (O : Int) (s : Int), v5 = .int .i64 O ∧ v6 = .int .i64 s ∧ Aside0 (spec_l2Nodes.l0 kq G O s y D = some r) ∧ Aside0 (kq ≤ k) ∧ Aside0 (w'.heap[ak]? = some (.cells #[(.slice Y y.length Z), (.slice aa D.length ab)] 34 (0, 0))) ∧ Aside0 (Below w.heap.size w w'))
 case atStart => exact ⟨(0), (0), eqs, eqs, H', ⟨Nat.le_refl _⟩, ⟨bf z.out⟩, ⟨bs HB.out⟩⟩
 case round =>
  clear H'
  try clear p2
  obtain ⟨O, s, rfl, rfl, HA, ac, z, HB⟩ := hrel
  cases gk with
  | zero => exact absurd HA.out (by simp [spec_l2Nodes.l0])
  | succ k1 =>
   have H := HA.out
   clear HA
   simp only [spec_l2Nodes.l0] at H
   by_cases M : s < (y.length : Int)
   ·rw [if_pos M] at H
    have al : decide (s < (y.length : Int)) = true := decide_eq_true M
    clear M
    by_cases c5 : 0 ≤ s
    ·rw [if_pos c5] at H
     have aw : decide (0 ≤ s) = true := decide_eq_true c5
     clear c5
     by_cases I : ((rd_T36 y s).f0) = G
     ·rw [if_pos I] at H
      have an : (((rd_T36 y s).f0) == G) = true := beq_iff_eq.mpr I
      have ao : (((rd_T36 y s).f0) != G) = false := bne_eq_false_iff_eq.mpr I
      clear I
      have H' := am H
      clear H
      obtain ⟨ax, ay⟩ := bc2 (w := wr) z.out
      have az := blk_frozen z.out
      have J : 0 ≤ (s : Int) := oda
      have L : s < (y.length : Int) := oda
      obtain ⟨ap, ae, T, X⟩ := at_T36 aj.out s J L
      cases ae
      replace T := cb HB T
      replace X := cb HB X
      replace J := eq_true J
      replace L := eq_true L
      go_wp2
      go_roundg k1
      case measure => have := ac.out; omega
      case rel => exact ⟨(wrap64 (O + 1)), (wrap64 (s + 1)), eqs, eqs, H', ⟨by have := ac.out; omega⟩, ⟨bf z.out⟩, ⟨bs HB.out⟩⟩
     ·rw [if_neg I] at H
      have an : (((rd_T36 y s).f0) == G) = false := beq_eq_false_iff_ne.mpr I
      have ao : (((rd_T36 y s).f0) != G) = true := bne_iff_ne.mpr I
      have H' := am H
      clear H
      obtain ⟨aA, aB⟩ := bc2 (w := wr) z.out
      have aC := blk_frozen z.out
      have J : 0 ≤ (s : Int) := oda
      have L : s < (y.length : Int) := oda
      obtain ⟨ap, ae, T, X⟩ := at_T36 aj.out s J L
      cases ae
      replace T := cb HB T
      replace X := cb HB X
      replace J := eq_true J
      replace L := eq_true L
      go_wp2
      go_roundg k1
      case measure => have := ac.out; omega
      case rel => exact ⟨(O), (wrap64 (s + 1)), eqs, eqs, H', ⟨by have := ac.out; omega⟩, ⟨bf z.out⟩, ⟨bs HB.out⟩⟩
    ·rw [if_neg c5] at H
     exact absurd H (by simp)
   ·rw [if_neg M] at H
    have al : decide (s < (y.length : Int)) = false := decide_eq_false M
    clear M
    obtain rfl := Option.some.inj H
    obtain ⟨aD, aE⟩ := bc2 (w := wr) z.out
    have aF := blk_frozen z.out
    go_wp2
    go_ret
    exact ⟨eqr, bs HB.out⟩

/-! ### spec_l2Edges: function 80 -/
def spec_l2Edges.l0 : Nat → Int → Int → Int → List (S36) → List (S56) → Option (Int)
 | 0, _, _, _, _, _ => none
 | k + 1, z, D, s, G, y => if s < (y.length : Int) then (if 0 ≤ s then (if ((rd_T56 y s).f0) = z then (spec_l2Edges.l0 k z (wrap64 (D + 1)) (wrap64 (s + 1)) G y) else (spec_l2Edges.l0 k z D (wrap64 (s + 1)) G y)) else (none)) else (some D)
def spec_l2Edges.f (k : Nat) (s : List (S36)) (y : List (S56)) (z : Int) : Option (Int) := spec_l2Edges.l0 k z 0 0 s y
theorem spec_l2Edges.calls (k : Nat) (ab : Option Addr) (ac : Nat) (D : List (S36)) (ad : Option Addr) (ae : Nat) (y : List (S56)) (G : Int) (r : Int) (w : World) (ai : Kd.C k36 w ab D.length D) (aj : D.length ≤ ac) (ak : Kd.C k56 w ad y.length y) (al : y.length ≤ ae) (h : spec_l2Edges.f k D y G = some r) :
  Calls Try.prog 80 #[.agg #[.slice ab D.length ac, .slice ad y.length ae], .int .i64 G] w fun e w' => e = .returned (.int .i64 r) ∧ Below w.heap.size w w' := by
 have hu34 := Try.underlying34
 have av := am ai
 have aw := am aj
 clear ai aj
 have an := am ak
 have ax := am al
 clear ak al
 have HB := am (Below.refl w.heap.size w)
 have H := h; unfold spec_l2Edges.f at H
 clear h
 have H' := am H
 clear H
 go_enter Try.func80, Try.ntmps80
 go_wp2_with (first | ((with_reducible refine gd 2 rfl ?_); refine bx 2 (cs := #[.slice ab D.length ac, .slice ad y.length ae]) (t := 34) ?_; intro ao hg w3 hbox hb; have z := am hbox; have ay := gwb HB hg; replace HB := hs HB hb; clear hb hbox hg))
 go_loopg [5, 6] k (fun kq v5 v6 w' => ∃ (O : Int) (s : Int), v5 = .int .i64 O ∧ v6 = .int .i64 s ∧ Aside0 (spec_l2Edges.l0 kq G O s D y = some r) ∧ Aside0 (kq ≤ k) ∧ Aside0 (w'.heap[ao]? = some (.cells #[(.slice ab D.length ac), (.slice ad y.length ae)] 34 (0, 0))) ∧ Aside0 (Below w.heap.size w w'))
 case atStart => exact ⟨(0), (0), eqs, eqs, H', ⟨Nat.le_refl _⟩, ⟨bf z.out⟩, ⟨bs HB.out⟩⟩
 case round =>
  clear H'
  try clear p2
  obtain ⟨O, s, rfl, rfl, HA, af, z, HB⟩ := hrel
  cases gk with
  | zero => exact absurd HA.out (by simp [spec_l2Edges.l0])
  | succ k1 =>
   have H := HA.out
   clear HA
   simp only [spec_l2Edges.l0] at H
   by_cases M : s < (y.length : Int)
   ·rw [if_pos M] at H
    have ap : decide (s < (y.length : Int)) = true := decide_eq_true M
    clear M
    by_cases c5 : 0 ≤ s
    ·rw [if_pos c5] at H
     have az : decide (0 ≤ s) = true := decide_eq_true c5
     clear c5
     by_cases I : ((rd_T56 y s).f0) = G
     ·rw [if_pos I] at H
      have aq : (((rd_T56 y s).f0) == G) = true := beq_iff_eq.mpr I
      have ar : (((rd_T56 y s).f0) != G) = false := bne_eq_false_iff_eq.mpr I
      clear I
      have H' := am H
      clear H
      obtain ⟨aA, aB⟩ := bc2 (w := wr) z.out
      have aC := blk_frozen z.out
      have J : 0 ≤ (s : Int) := oda
      have L : s < (y.length : Int) := oda
      obtain ⟨au, ah, T, X, Y, Z, aa⟩ := at_T56 an.out s J L
      cases ah
      replace T := cb HB T
      replace X := cb HB X
      replace Y := cb HB Y
      replace Z := cb HB Z
      replace aa := cb HB aa
      replace J := eq_true J
      replace L := eq_true L
      go_wp2
      go_roundg k1
      case measure => have := af.out; omega
      case rel => exact ⟨(wrap64 (O + 1)), (wrap64 (s + 1)), eqs, eqs, H', ⟨by have := af.out; omega⟩, ⟨bf z.out⟩, ⟨bs HB.out⟩⟩
     ·rw [if_neg I] at H
      have aq : (((rd_T56 y s).f0) == G) = false := beq_eq_false_iff_ne.mpr I
      have ar : (((rd_T56 y s).f0) != G) = true := bne_iff_ne.mpr I
      have H' := am H
      clear H
      obtain ⟨aD, aE⟩ := bc2 (w := wr) z.out
      have aF := blk_frozen z.out
      have J : 0 ≤ (s : Int) := oda
      have L : s < (y.length : Int) := oda
      obtain ⟨au, ah, T, X, Y, Z, aa⟩ := at_T56 an.out s J L
      cases ah
      replace T := cb HB T
      replace X := cb HB X
      replace Y := cb HB Y
      replace Z := cb HB Z
      replace aa := cb HB aa
      replace J := eq_true J
      replace L := eq_true L
      go_wp2
      go_roundg k1
      case measure => have := af.out; omega
      case rel => exact ⟨(O), (wrap64 (s + 1)), eqs, eqs, H', ⟨by have := af.out; omega⟩, ⟨bf z.out⟩, ⟨bs HB.out⟩⟩
    ·rw [if_neg c5] at H
     exact absurd H (by simp)
   ·rw [if_neg M] at H
    have ap : decide (s < (y.length : Int)) = false := decide_eq_false M
    clear M
    obtain rfl := Option.some.inj H
    obtain ⟨aG, aH⟩ := bc2 (w := wr) z.out
    have aI := blk_frozen z.out
    go_wp2
    go_ret
    exact ⟨eqr, bs HB.out⟩

end Go.Proofs.Ytohmemckdogljaa.QFnExactGraphDo
