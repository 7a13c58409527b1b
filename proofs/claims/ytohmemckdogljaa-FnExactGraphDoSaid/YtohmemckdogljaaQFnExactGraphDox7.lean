/- Contracts of the Go functions that this law reaches: each does what its plain Lean function says. No condition. -/
import Derived.Test.YtohmemckdogljaaQFnExactGraphDox0
import Derived.Test.YtohmemckdogljaaQFnExactGraphDox5
import Derived.Test.YtohmemckdogljaaQFnExactGraphDox6
namespace Go.Proofs.Ytohmemckdogljaa.QFnExactGraphDo
open Go.RowKit Go.Proofs.YtohmemckdogljaaW.PrintWords Go.Proofs.YtohmemckdogljaaW.PrintLast Go.Proofs.YtohmemckdogljaaW.PrintMore Go.Proofs.Ytohmemckdogljaa.Bl
attribute [local go_sem] max2_int min2_int max_two min_two max_three min_three max_four min_four   -- for this text's walks alone
set_option linter.unusedVariables false
set_option linter.unusedSimpArgs false
set_option maxHeartbeats 8000000
set_option maxRecDepth 100000

/-! ### spec_GraphOk: function 33 -/
mutual
def spec_GraphOk.l0 : Nat → Int → List (S36) → List (S56) → Option (Bool)
 | 0, _, _, _ => none
 | k + 1, s, y, z => if s < (y.length : Int) then (if 0 ≤ s then ((spec_NodeOk.f ((rd_T36 y s).f0) ((rd_T36 y s).f1)).bind fun D => (if D = true then (if s > 0 then (if 0 ≤ (wrap64 (s - 1)) then (if (wrap64 (s - 1)) < (y.length : Int) then ((spec_l2Code.f ((rd_T36 y (wrap64 (s - 1))).f0) ((rd_T36 y (wrap64 (s - 1))).f1)).bind fun G => ((spec_l2Code.f ((rd_T36 y s).f0) ((rd_T36 y s).f1)).bind fun I => (if G ≥ I then (some false) else (if s ≥ 40 then (some false) else (spec_GraphOk.l0 k (wrap64 (s + 1)) y z))))) else (none)) else (none)) else (if s ≥ 40 then (some false) else (spec_GraphOk.l0 k (wrap64 (s + 1)) y z))) else (some false))) else (none)) else (spec_GraphOk.l1 k 0 y z)
def spec_GraphOk.l1 : Nat → Int → List (S36) → List (S56) → Option (Bool)
 | 0, _, _, _ => none
 | k + 1, s, z, y => if s < (y.length : Int) then (if 0 ≤ s then ((spec_EdgeOk.f ((rd_T56 y s).f0) ((rd_T56 y s).f1.f0) ((rd_T56 y s).f1.f1) ((rd_T56 y s).f2.f0) ((rd_T56 y s).f2.f1)).bind fun D => (if D = true then (if s > 0 then (if 0 ≤ (wrap64 (s - 1)) then (if (wrap64 (s - 1)) < (y.length : Int) then ((spec_l2Less.f ((rd_T56 y (wrap64 (s - 1))).f0) ((rd_T56 y (wrap64 (s - 1))).f1.f0) ((rd_T56 y (wrap64 (s - 1))).f1.f1) ((rd_T56 y (wrap64 (s - 1))).f2.f0) ((rd_T56 y (wrap64 (s - 1))).f2.f1) ((rd_T56 y s).f0) ((rd_T56 y s).f1.f0) ((rd_T56 y s).f1.f1) ((rd_T56 y s).f2.f0) ((rd_T56 y s).f2.f1)).bind fun G => (if G = true then ((spec_l2At.f k z y ((rd_T56 y s).f1.f0) ((rd_T56 y s).f1.f1)).bind fun I => (if I < 0 then (some false) else ((spec_l2At.f k z y ((rd_T56 y s).f2.f0) ((rd_T56 y s).f2.f1)).bind fun J => (if J < 0 then (some false) else (if s ≥ 56 then (some false) else (spec_GraphOk.l1 k (wrap64 (s + 1)) z y)))))) else (some false))) else (none)) else (none)) else ((spec_l2At.f k z y ((rd_T56 y s).f1.f0) ((rd_T56 y s).f1.f1)).bind fun L => (if L < 0 then (some false) else ((spec_l2At.f k z y ((rd_T56 y s).f2.f0) ((rd_T56 y s).f2.f1)).bind fun M => (if M < 0 then (some false) else (if s ≥ 56 then (some false) else (spec_GraphOk.l1 k (wrap64 (s + 1)) z y))))))) else (some false))) else (none)) else (spec_GraphOk.l2 k 0 z y)
def spec_GraphOk.l2 : Nat → Int → List (S36) → List (S56) → Option (Bool)
 | 0, _, _, _ => none
 | k + 1, s, y, z => if s ≤ 7 then ((spec_l2Nodes.f k y z s).bind fun D => (if D > 5 then (some false) else ((spec_l2Edges.f k y z s).bind fun G => (if G > 7 then (some false) else (spec_GraphOk.l2 k (wrap64 (s + 1)) y z))))) else (some true)
end
def spec_GraphOk.f (k : Nat) (s : List (S36)) (y : List (S56)) : Option (Bool) := spec_GraphOk.l0 k 0 s y
theorem spec_GraphOk.calls (k : Nat) (aa : Option Addr) (Y : Nat) (D : List (S36)) (av : Option Addr) (Z : Nat) (z : List (S56)) (r : Bool) (w : World) (aX : Kd.C k36 w aa D.length D) (aY : D.length ≤ Y) (aZ : Kd.C k56 w av z.length z) (a2 : z.length ≤ Z) (h : spec_GraphOk.f k D z = some r) :
  Calls Try.prog 33 #[.agg #[.slice aa D.length Y, .slice av z.length Z]] w fun e w' => e = .returned (.bool r) ∧ Below w.heap.size w w' := by
 have hu34 := Try.underlying34
 have hu36 := Try.underlying36
 have hu56 := Try.underlying56
 have an := am aX
 have aw := am aY
 have ao := am aZ
 have ax := am a2
 clear aX aY aZ a2
 have HB := am (Below.refl w.heap.size w)
 have H' := am (show spec_GraphOk.l0 k 0 D z = some r from h)
 clear h
 go_enter Try.func33, Try.ntmps33
 go_wp2_with (first | ((with_reducible refine gd 1 rfl ?_); refine bx 1 (cs := #[.slice aa D.length Y, .slice av z.length Z]) (t := 34) ?_; intro gb hg w3 hbox hb; replace HB := am (below_step HB.out hb); have BK := am hbox; clear hg hb hbox))
 go_loopg [3] k (fun kq v_ w' => ∃ (G : Int), v_ = .int .i64 G ∧ Aside0 (spec_GraphOk.l0 kq G D z = some r) ∧ Aside0 (kq ≤ k) ∧ Aside0 (w'.heap[gb]? = some (.cells #[.slice aa D.length Y, .slice av z.length Z] 34 (0, 0))) ∧ Aside0 (Below w.heap.size w w'))
 case atStart => exact ⟨0, eqs, H', ⟨Nat.le_refl _⟩, ⟨bf BK.out⟩, ⟨bs HB.out⟩⟩
 case round =>
  clear H'
  obtain ⟨G, rfl, HA, HK_, BK, HB⟩ := hrel
  cases gk with
  | zero => exact absurd HA.out (by simp [spec_GraphOk.l0])
  | succ k1 =>
   have H := HA.out
   clear HA
   simp only [spec_GraphOk.l0] at H
   have aT : wr.cell? ⟨gb, 0, none⟩ = some (.slice aa D.length Y) := cx BK 0
   have aU : wr.cell? ⟨gb, 1, none⟩ = some (.slice av z.length Z) := cx BK 1
   by_cases c1 : G < (D.length : Int)
   ·rw [if_pos c1] at H
    have az := decide_eq_true c1
    replace az : decide (G < (D.length : Int)) = true := az
    clear c1
    have q0 : G < (D.length : Int) := of_decide_eq_true az
    by_cases p0 : 0 ≤ G
    ·rw [if_pos p0] at H
     have CX := am (show 0 ≤ G ∧ G < (D.length : Int) from ⟨p0, q0⟩)
     obtain ⟨ad, ea, ap, aq⟩ := at_T36 an.out G p0 q0
     cases ea
     replace ap := cb HB ap
     replace aq := cb HB aq
     replace p0 := eq_true p0
     replace q0 := eq_true q0
     generalize (rd_T36 D G).f0 = f0 at H ap aq
     generalize (rd_T36 D G).f1 = f1 at H ap aq
     replace H := Option.bind_eq_some_iff.mp H
     obtain ⟨t1, aK, H⟩ := H
     have A1 := am aK
     clear aK
     by_cases cb_ : t1 = true
     ·subst cb_
      replace H := (if_pos rfl).symm.trans H
      by_cases c0 : G > 0
      ·rw [if_pos c0] at H
       have aE := decide_eq_true c0
       replace aE : decide (0 < G) = true := aE
       clear c0
       have hwr : wrap64 (G - 1) = G - 1 := w64 (by have := CX.out; have := an.out.2.1; omega)
       have hpos : 0 < G := of_decide_eq_true aE
       rw [hwr] at H
       rw [if_pos (show 0 ≤ G - 1 by omega), if_pos (show G - 1 < (D.length : Int) by have := CX.out; omega)] at H
       obtain ⟨q, hq⟩ : ∃ q, G - 1 = q := ⟨_, rfl⟩
       have hqw : wrap64 (G - 1) = q := hwr.trans hq
       rw [hq] at H
       have p1 : 0 ≤ q := by omega
       have q1 : q < (D.length : Int) := by have := CX.out; omega
       obtain ⟨ad', ea', ak, al⟩ := at_T36 an.out q p1 q1
       obtain rfl : ad = ad' := by injection ea'
       clear ea' hwr hpos
       replace hq := am hq
       replace ak := cb HB ak
       replace al := cb HB al
       replace p1 := eq_true p1
       replace q1 := eq_true q1
       generalize (rd_T36 D q).f0 = d0 at H ak al
       generalize (rd_T36 D q).f1 = d1 at H ak al
       replace H := Option.bind_eq_some_iff.mp H
       obtain ⟨t2, aL, H⟩ := H
       have A2 := am aL
       clear aL
       replace H := Option.bind_eq_some_iff.mp H
       obtain ⟨t3, aM, H⟩ := H
       have A3 := am aM
       clear aM
       by_cases c3 : t2 ≥ t3
       ·rw [if_pos c3] at H
        have ay := decide_eq_true c3
        replace ay : decide (t3 ≤ t2) = true := ay
        clear c3
        obtain rfl := Option.some.inj H
        go_wp2
        replace BK := bd BK
        replace HB := hd HB
        have T : wr.drew.cell? (ad.add (G.toNat * 2)) = some (.int .i64 f0) := ap
        have X : wr.drew.cell? ⟨(ad.add (G.toNat * 2)).block, (ad.add (G.toNat * 2)).off + 1, none⟩ = some (.int .i64 f1) := aq
        have ab : wr.drew.cell? (ad.add (q.toNat * 2)) = some (.int .i64 d0) := ak
        have ac : wr.drew.cell? ⟨(ad.add (q.toNat * 2)).block, (ad.add (q.toNat * 2)).off + 1, none⟩ = some (.int .i64 d1) := al
        refine wp_region_bel (by kernel_rfl) (by kernel_rfl) ?_
        generalize wr.drew = y at BK HB T X ab ac ⊢
        have hbp := fun (p : Bel y) => below_step HB.out p.h
        have ae : ∀ p : Bel y, p.v.cell? ⟨gb, 0, none⟩ = some (.slice (some ad) D.length Y) := fun p => cell_bel (cx BK 0) p
        have af : ∀ p : Bel y, p.v.cell? ⟨gb, 1, none⟩ = some (.slice av z.length Z) := fun p => cell_bel (cx BK 1) p
        have ag : ∀ p : Bel y, p.v.cell? (ad.add (G.toNat * 2)) = some (.int .i64 f0) := fun p => cell_bel (T) p
        have ah : ∀ p : Bel y, p.v.cell? ⟨(ad.add (G.toNat * 2)).block, (ad.add (G.toNat * 2)).off + 1, none⟩ = some (.int .i64 f1) := fun p => cell_bel (X) p
        have ai : ∀ p : Bel y, p.v.cell? (ad.add (q.toNat * 2)) = some (.int .i64 d0) := fun p => cell_bel (ab) p
        have aj : ∀ p : Bel y, p.v.cell? ⟨(ad.add (q.toNat * 2)).block, (ad.add (q.toNat * 2)).off + 1, none⟩ = some (.int .i64 d1) := fun p => cell_bel (ac) p
        repeat (go_big_quiet_step (first
         | (with_reducible show Calls Try.prog 75 #[.agg #[.int .i64 f0, .int .i64 f1]] _ _; with_reducible exact calls_bel (spec_NodeOk.calls f0 f1 true _ A1.out))
         | (with_reducible show Calls Try.prog 76 #[.agg #[.int .i64 d0, .int .i64 d1]] _ _; with_reducible exact calls_bel (spec_l2Code.calls d0 d1 t2 _ A2.out))
         | (with_reducible show Calls Try.prog 76 #[.agg #[.int .i64 f0, .int .i64 f1]] _ _; with_reducible exact calls_bel (spec_l2Code.calls f0 f1 t3 _ A3.out))))
        refine wpQuiet_nil ?_
        intro w9 hw'
        obtain ⟨⟨wq_, hb⟩, hw''⟩ := hw'
        subst hw''
        clear hbp ae af ag ah ai aj T X ab ac
        replace BK := bb BK hb rfl
        replace HB := hs HB hb
        clear hb
        go_wp2
        go_ret
        exact ⟨eqs, bs HB.out⟩
       ·rw [if_neg c3] at H
        have ay : decide (t3 ≤ t2) = false := decide_eq_false c3
        clear c3
        by_cases aA : G ≥ 40
        ·rw [if_pos aA] at H
         have aQ := decide_eq_true aA
         replace aQ : decide (40 ≤ G) = true := aQ
         clear aA
         obtain rfl := Option.some.inj H
         go_wp2
         replace BK := bd BK
         replace HB := hd HB
         have T : wr.drew.cell? (ad.add (G.toNat * 2)) = some (.int .i64 f0) := ap
         have X : wr.drew.cell? ⟨(ad.add (G.toNat * 2)).block, (ad.add (G.toNat * 2)).off + 1, none⟩ = some (.int .i64 f1) := aq
         have ab : wr.drew.cell? (ad.add (q.toNat * 2)) = some (.int .i64 d0) := ak
         have ac : wr.drew.cell? ⟨(ad.add (q.toNat * 2)).block, (ad.add (q.toNat * 2)).off + 1, none⟩ = some (.int .i64 d1) := al
         refine wp_region_bel (by kernel_rfl) (by kernel_rfl) ?_
         generalize wr.drew = y at BK HB T X ab ac ⊢
         have hbp := fun (p : Bel y) => below_step HB.out p.h
         have ae : ∀ p : Bel y, p.v.cell? ⟨gb, 0, none⟩ = some (.slice (some ad) D.length Y) := fun p => cell_bel (cx BK 0) p
         have af : ∀ p : Bel y, p.v.cell? ⟨gb, 1, none⟩ = some (.slice av z.length Z) := fun p => cell_bel (cx BK 1) p
         have ag : ∀ p : Bel y, p.v.cell? (ad.add (G.toNat * 2)) = some (.int .i64 f0) := fun p => cell_bel (T) p
         have ah : ∀ p : Bel y, p.v.cell? ⟨(ad.add (G.toNat * 2)).block, (ad.add (G.toNat * 2)).off + 1, none⟩ = some (.int .i64 f1) := fun p => cell_bel (X) p
         have ai : ∀ p : Bel y, p.v.cell? (ad.add (q.toNat * 2)) = some (.int .i64 d0) := fun p => cell_bel (ab) p
         have aj : ∀ p : Bel y, p.v.cell? ⟨(ad.add (q.toNat * 2)).block, (ad.add (q.toNat * 2)).off + 1, none⟩ = some (.int .i64 d1) := fun p => cell_bel (ac) p
         repeat (go_big_quiet_step (first
          | (with_reducible show Calls Try.prog 75 #[.agg #[.int .i64 f0, .int .i64 f1]] _ _; with_reducible exact calls_bel (spec_NodeOk.calls f0 f1 true _ A1.out))
          | (with_reducible show Calls Try.prog 76 #[.agg #[.int .i64 d0, .int .i64 d1]] _ _; with_reducible exact calls_bel (spec_l2Code.calls d0 d1 t2 _ A2.out))
          | (with_reducible show Calls Try.prog 76 #[.agg #[.int .i64 f0, .int .i64 f1]] _ _; with_reducible exact calls_bel (spec_l2Code.calls f0 f1 t3 _ A3.out))))
         refine wpQuiet_nil ?_
         intro w9 hw'
         obtain ⟨⟨wq_, hb⟩, hw''⟩ := hw'
         subst hw''
         clear hbp ae af ag ah ai aj T X ab ac
         replace BK := bb BK hb rfl
         replace HB := hs HB hb
         clear hb
         go_wp2
         go_ret
         exact ⟨eqs, bs HB.out⟩
        ·rw [if_neg aA] at H
         have aQ : decide (40 ≤ G) = false := decide_eq_false aA
         clear aA
         have H' := am H
         clear H
         go_wp2
         replace BK := bd BK
         replace HB := hd HB
         have T : wr.drew.cell? (ad.add (G.toNat * 2)) = some (.int .i64 f0) := ap
         have X : wr.drew.cell? ⟨(ad.add (G.toNat * 2)).block, (ad.add (G.toNat * 2)).off + 1, none⟩ = some (.int .i64 f1) := aq
         have ab : wr.drew.cell? (ad.add (q.toNat * 2)) = some (.int .i64 d0) := ak
         have ac : wr.drew.cell? ⟨(ad.add (q.toNat * 2)).block, (ad.add (q.toNat * 2)).off + 1, none⟩ = some (.int .i64 d1) := al
         refine wp_region_bel (by kernel_rfl) (by kernel_rfl) ?_
         generalize wr.drew = y at BK HB T X ab ac ⊢
         have hbp := fun (p : Bel y) => below_step HB.out p.h
         have ae : ∀ p : Bel y, p.v.cell? ⟨gb, 0, none⟩ = some (.slice (some ad) D.length Y) := fun p => cell_bel (cx BK 0) p
         have af : ∀ p : Bel y, p.v.cell? ⟨gb, 1, none⟩ = some (.slice av z.length Z) := fun p => cell_bel (cx BK 1) p
         have ag : ∀ p : Bel y, p.v.cell? (ad.add (G.toNat * 2)) = some (.int .i64 f0) := fun p => cell_bel (T) p
         have ah : ∀ p : Bel y, p.v.cell? ⟨(ad.add (G.toNat * 2)).block, (ad.add (G.toNat * 2)).off + 1, none⟩ = some (.int .i64 f1) := fun p => cell_bel (X) p
         have ai : ∀ p : Bel y, p.v.cell? (ad.add (q.toNat * 2)) = some (.int .i64 d0) := fun p => cell_bel (ab) p
         have aj : ∀ p : Bel y, p.v.cell? ⟨(ad.add (q.toNat * 2)).block, (ad.add (q.toNat * 2)).off + 1, none⟩ = some (.int .i64 d1) := fun p => cell_bel (ac) p
         repeat (go_big_quiet_step (first
          | (with_reducible show Calls Try.prog 75 #[.agg #[.int .i64 f0, .int .i64 f1]] _ _; with_reducible exact calls_bel (spec_NodeOk.calls f0 f1 true _ A1.out))
          | (with_reducible show Calls Try.prog 76 #[.agg #[.int .i64 d0, .int .i64 d1]] _ _; with_reducible exact calls_bel (spec_l2Code.calls d0 d1 t2 _ A2.out))
          | (with_reducible show Calls Try.prog 76 #[.agg #[.int .i64 f0, .int .i64 f1]] _ _; with_reducible exact calls_bel (spec_l2Code.calls f0 f1 t3 _ A3.out))))
         refine wpQuiet_nil ?_
         intro w9 hw'
         obtain ⟨⟨wq_, hb⟩, hw''⟩ := hw'
         subst hw''
         clear hbp ae af ag ah ai aj T X ab ac
         replace BK := bb BK hb rfl
         replace HB := hs HB hb
         clear hb
         go_wp2
         go_roundg k1
         case measure => have := HK_.out; omega
         case rel => exact ⟨wrap64 (G + 1), eqs, H', ⟨by have := HK_.out; omega⟩, ⟨bf BK.out⟩, ⟨bs HB.out⟩⟩
      ·rw [if_neg c0] at H
       have aE : decide (0 < G) = false := decide_eq_false c0
       clear c0
       by_cases aA : G ≥ 40
       ·rw [if_pos aA] at H
        have aQ := decide_eq_true aA
        replace aQ : decide (40 ≤ G) = true := aQ
        clear aA
        obtain rfl := Option.some.inj H
        go_wp2
        replace BK := bd BK
        replace HB := hd HB
        have T : wr.drew.cell? (ad.add (G.toNat * 2)) = some (.int .i64 f0) := ap
        have X : wr.drew.cell? ⟨(ad.add (G.toNat * 2)).block, (ad.add (G.toNat * 2)).off + 1, none⟩ = some (.int .i64 f1) := aq
        refine wp_region_bel (by kernel_rfl) (by kernel_rfl) ?_
        generalize wr.drew = y at BK HB T X ⊢
        have hbp := fun (p : Bel y) => below_step HB.out p.h
        have ae : ∀ p : Bel y, p.v.cell? ⟨gb, 0, none⟩ = some (.slice (some ad) D.length Y) := fun p => cell_bel (cx BK 0) p
        have af : ∀ p : Bel y, p.v.cell? ⟨gb, 1, none⟩ = some (.slice av z.length Z) := fun p => cell_bel (cx BK 1) p
        have ag : ∀ p : Bel y, p.v.cell? (ad.add (G.toNat * 2)) = some (.int .i64 f0) := fun p => cell_bel (T) p
        have ah : ∀ p : Bel y, p.v.cell? ⟨(ad.add (G.toNat * 2)).block, (ad.add (G.toNat * 2)).off + 1, none⟩ = some (.int .i64 f1) := fun p => cell_bel (X) p
        repeat (go_big_quiet_step (first
         | (with_reducible show Calls Try.prog 75 #[.agg #[.int .i64 f0, .int .i64 f1]] _ _; with_reducible exact calls_bel (spec_NodeOk.calls f0 f1 true _ A1.out))))
        refine wpQuiet_nil ?_
        intro w9 hw'
        obtain ⟨⟨wq_, hb⟩, hw''⟩ := hw'
        subst hw''
        clear hbp ae af ag ah T X
        replace BK := bb BK hb rfl
        replace HB := hs HB hb
        clear hb
        go_wp2
        go_ret
        exact ⟨eqs, bs HB.out⟩
       ·rw [if_neg aA] at H
        have aQ : decide (40 ≤ G) = false := decide_eq_false aA
        clear aA
        have H' := am H
        clear H
        go_wp2
        replace BK := bd BK
        replace HB := hd HB
        have T : wr.drew.cell? (ad.add (G.toNat * 2)) = some (.int .i64 f0) := ap
        have X : wr.drew.cell? ⟨(ad.add (G.toNat * 2)).block, (ad.add (G.toNat * 2)).off + 1, none⟩ = some (.int .i64 f1) := aq
        refine wp_region_bel (by kernel_rfl) (by kernel_rfl) ?_
        generalize wr.drew = y at BK HB T X ⊢
        have hbp := fun (p : Bel y) => below_step HB.out p.h
        have ae : ∀ p : Bel y, p.v.cell? ⟨gb, 0, none⟩ = some (.slice (some ad) D.length Y) := fun p => cell_bel (cx BK 0) p
        have af : ∀ p : Bel y, p.v.cell? ⟨gb, 1, none⟩ = some (.slice av z.length Z) := fun p => cell_bel (cx BK 1) p
        have ag : ∀ p : Bel y, p.v.cell? (ad.add (G.toNat * 2)) = some (.int .i64 f0) := fun p => cell_bel (T) p
        have ah : ∀ p : Bel y, p.v.cell? ⟨(ad.add (G.toNat * 2)).block, (ad.add (G.toNat * 2)).off + 1, none⟩ = some (.int .i64 f1) := fun p => cell_bel (X) p
        repeat (go_big_quiet_step (first
         | (with_reducible show Calls Try.prog 75 #[.agg #[.int .i64 f0, .int .i64 f1]] _ _; with_reducible exact calls_bel (spec_NodeOk.calls f0 f1 true _ A1.out))))
        refine wpQuiet_nil ?_
        intro w9 hw'
        obtain ⟨⟨wq_, hb⟩, hw''⟩ := hw'
        subst hw''
        clear hbp ae af ag ah T X
        replace BK := bb BK hb rfl
        replace HB := hs HB hb
        clear hb
        go_wp2
        go_roundg k1
        case measure => have := HK_.out; omega
        case rel => exact ⟨wrap64 (G + 1), eqs, H', ⟨by have := HK_.out; omega⟩, ⟨bf BK.out⟩, ⟨bs HB.out⟩⟩
     ·replace cb_ := Bool.eq_false_iff.mpr cb_
      subst cb_
      replace H := (if_neg (show ¬ (false = true) by decide)).symm.trans H
      obtain rfl := Option.some.inj H
      go_wp2
      replace BK := bd BK
      replace HB := hd HB
      have T : wr.drew.cell? (ad.add (G.toNat * 2)) = some (.int .i64 f0) := ap
      have X : wr.drew.cell? ⟨(ad.add (G.toNat * 2)).block, (ad.add (G.toNat * 2)).off + 1, none⟩ = some (.int .i64 f1) := aq
      refine wp_region_bel (by kernel_rfl) (by kernel_rfl) ?_
      generalize wr.drew = y at BK HB T X ⊢
      have hbp := fun (p : Bel y) => below_step HB.out p.h
      have ae : ∀ p : Bel y, p.v.cell? ⟨gb, 0, none⟩ = some (.slice (some ad) D.length Y) := fun p => cell_bel (cx BK 0) p
      have af : ∀ p : Bel y, p.v.cell? ⟨gb, 1, none⟩ = some (.slice av z.length Z) := fun p => cell_bel (cx BK 1) p
      have ag : ∀ p : Bel y, p.v.cell? (ad.add (G.toNat * 2)) = some (.int .i64 f0) := fun p => cell_bel (T) p
      have ah : ∀ p : Bel y, p.v.cell? ⟨(ad.add (G.toNat * 2)).block, (ad.add (G.toNat * 2)).off + 1, none⟩ = some (.int .i64 f1) := fun p => cell_bel (X) p
      repeat (go_big_quiet_step (first
       | (with_reducible show Calls Try.prog 75 #[.agg #[.int .i64 f0, .int .i64 f1]] _ _; with_reducible exact calls_bel (spec_NodeOk.calls f0 f1 false _ A1.out))))
      refine wpQuiet_nil ?_
      intro w9 hw'
      obtain ⟨⟨wq_, hb⟩, hw''⟩ := hw'
      subst hw''
      clear hbp ae af ag ah T X
      replace BK := bb BK hb rfl
      replace HB := hs HB hb
      clear hb
      go_wp2
      go_ret
      exact ⟨eqs, bs HB.out⟩
    ·rw [if_neg p0] at H; cases H
   ·rw [if_neg c1] at H
    have az : decide (G < (D.length : Int)) = false := decide_eq_false c1
    clear c1
    have H' := am H
    clear H
    go_wp2
    go_loopg [4] k1 (fun kq v_ w' => ∃ (x4 : Int), v_ = .int .i64 x4 ∧ Aside0 (spec_GraphOk.l1 kq x4 D z = some r) ∧ Aside0 (kq ≤ k1) ∧ Aside0 (w'.heap[gb]? = some (.cells #[.slice aa D.length Y, .slice av z.length Z] 34 (0, 0))) ∧ Aside0 (Below w.heap.size w w'))
    case atStart => exact ⟨0, eqs, H', ⟨Nat.le_refl _⟩, ⟨bf BK.out⟩, ⟨bs HB.out⟩⟩
    case round =>
     clear H'
     obtain ⟨x4, rfl, HA, HK_, BK, HB⟩ := hrel
     cases gk with
     | zero => exact absurd HA.out (by simp [spec_GraphOk.l1])
     | succ k2 =>
      have H := HA.out
      clear HA
      simp only [spec_GraphOk.l1] at H
      have aT : wr.cell? ⟨gb, 0, none⟩ = some (.slice aa D.length Y) := cx BK 0
      have aU : wr.cell? ⟨gb, 1, none⟩ = some (.slice av z.length Z) := cx BK 1
      by_cases c1 : x4 < (z.length : Int)
      ·rw [if_pos c1] at H
       have az := decide_eq_true c1
       replace az : decide (x4 < (z.length : Int)) = true := az
       clear c1
       have q0 : x4 < (z.length : Int) := of_decide_eq_true az
       by_cases p0 : 0 ≤ x4
       ·rw [if_pos p0] at H
        have CX := am (show 0 ≤ x4 ∧ x4 < (z.length : Int) from ⟨p0, q0⟩)
        obtain ⟨ad, ea, ap, aq, aN, aO, aP⟩ := at_T56 ao.out x4 p0 q0
        cases ea
        replace ap := cb HB ap
        replace aq := cb HB aq
        replace aN := cb HB aN
        replace aO := cb HB aO
        replace aP := cb HB aP
        replace p0 := eq_true p0
        replace q0 := eq_true q0
        generalize (rd_T56 z x4).f0 = O at H ap aq aN aO aP
        generalize (rd_T56 z x4).f1.f0 = I at H ap aq aN aO aP
        generalize (rd_T56 z x4).f1.f1 = J at H ap aq aN aO aP
        generalize (rd_T56 z x4).f2.f0 = L at H ap aq aN aO aP
        generalize (rd_T56 z x4).f2.f1 = M at H ap aq aN aO aP
        go_wp2_with (first | ((with_reducible refine gd 5 rfl ?_); refine bx 5 (cs := #[.int .i64 0, .int .i64 0, .int .i64 0, .int .i64 0, .int .i64 0]) (t := 56) ?_; intro gn hg w5 hbox hb; have BN := am hbox; have GN := am (geD HB.out hg rfl); replace HB := hs HB hb; have NE := am (neD BK.out hg rfl); replace BK := bb BK hb rfl; clear hb hbox hg; have a7 : w5.cell? ⟨gn, 0, none⟩ = some (.int .i64 0) := (blk_cell BN.out 0).trans rfl; have a8 : w5.cell? ⟨gn, 1, none⟩ = some (.int .i64 0) := (blk_cell BN.out 1).trans rfl; have a9 : w5.cell? ⟨gn, 2, none⟩ = some (.int .i64 0) := (blk_cell BN.out 2).trans rfl; have ba : w5.cell? ⟨gn, 3, none⟩ = some (.int .i64 0) := (blk_cell BN.out 3).trans rfl; have bc : w5.cell? ⟨gn, 4, none⟩ = some (.int .i64 0) := (blk_cell BN.out 4).trans rfl; have be := blk_frozen BN.out 0; have bg := blk_frozen BN.out 1; have bh := blk_frozen BN.out 2; have bi := blk_frozen BN.out 3; have bj := blk_frozen BN.out 4))
        have a3 := am (blk_far (blk_far (blk_far (blk_far (blk_far (BK.out) (p := ⟨gn, 0, none⟩) NE.out (.int .i64 O)) (p := ⟨gn, 1, none⟩) NE.out (.int .i64 I)) (p := ⟨gn, 2, none⟩) NE.out (.int .i64 J)) (p := ⟨gn, 3, none⟩) NE.out (.int .i64 L)) (p := ⟨gn, 4, none⟩) NE.out (.int .i64 M))
        have a4 := am (blk_put (cs' := #[.int .i64 O, .int .i64 I, .int .i64 J, .int .i64 L, .int .i64 M]) (blk_put (cs' := #[.int .i64 O, .int .i64 I, .int .i64 J, .int .i64 L, .int .i64 0]) (blk_put (cs' := #[.int .i64 O, .int .i64 I, .int .i64 J, .int .i64 0, .int .i64 0]) (blk_put (cs' := #[.int .i64 O, .int .i64 I, .int .i64 0, .int .i64 0, .int .i64 0]) (blk_put (cs' := #[.int .i64 O, .int .i64 0, .int .i64 0, .int .i64 0, .int .i64 0]) (BN.out) 0 (.int .i64 O) rfl) 1 (.int .i64 I) rfl) 2 (.int .i64 J) rfl) 3 (.int .i64 L) rfl) 4 (.int .i64 M) rfl)
        have a5 := am (below_set (j := 4) (v := .int .i64 M) (below_set (j := 3) (v := .int .i64 L) (below_set (j := 2) (v := .int .i64 J) (below_set (j := 1) (v := .int .i64 I) (below_set (j := 0) (v := .int .i64 O) (HB.out) GN.out) GN.out) GN.out) GN.out) GN.out)
        clear BK BN HB a7 be a8 bg a9 bh ba bi bc bj
        have BK := a3
        have BN := a4
        have HB := a5
        clear a3 a4 a5
        generalize (((((w5).setCell ⟨gn, 0, none⟩ (.int .i64 O)).setCell ⟨gn, 1, none⟩ (.int .i64 I)).setCell ⟨gn, 2, none⟩ (.int .i64 J)).setCell ⟨gn, 3, none⟩ (.int .i64 L)).setCell ⟨gn, 4, none⟩ (.int .i64 M) = w6 at BK BN HB ⊢
        clear aT aU ap aq aN aO aP
        replace H := Option.bind_eq_some_iff.mp H
        obtain ⟨t1, aK, H⟩ := H
        have A1 := am aK
        clear aK
        by_cases cb_ : t1 = true
        ·subst cb_
         replace H := (if_pos rfl).symm.trans H
         by_cases c0 : x4 > 0
         ·rw [if_pos c0] at H
          have aE := decide_eq_true c0
          replace aE : decide (0 < x4) = true := aE
          clear c0
          have hwr : wrap64 (x4 - 1) = x4 - 1 := w64 (by have := CX.out; have := ao.out.2.1; omega)
          have hpos : 0 < x4 := of_decide_eq_true aE
          rw [hwr] at H
          rw [if_pos (show 0 ≤ x4 - 1 by omega), if_pos (show x4 - 1 < (z.length : Int) by have := CX.out; omega)] at H
          obtain ⟨q, hq⟩ : ∃ q, x4 - 1 = q := ⟨_, rfl⟩
          have hqw : wrap64 (x4 - 1) = q := hwr.trans hq
          rw [hq] at H
          have p1 : 0 ≤ q := by omega
          have q1 : q < (z.length : Int) := by have := CX.out; omega
          obtain ⟨ad', ea', ak, al, aB, aC, aD⟩ := at_T56 ao.out q p1 q1
          obtain rfl : ad = ad' := by injection ea'
          clear ea' hwr hpos
          replace hq := am hq
          replace ak := cb HB ak
          replace al := cb HB al
          replace aB := cb HB aB
          replace aC := cb HB aC
          replace aD := cb HB aD
          replace p1 := eq_true p1
          replace q1 := eq_true q1
          generalize (rd_T56 z q).f0 = d0 at H ak al aB aC aD
          generalize (rd_T56 z q).f1.f0 = d1 at H ak al aB aC aD
          generalize (rd_T56 z q).f1.f1 = d2 at H ak al aB aC aD
          generalize (rd_T56 z q).f2.f0 = d3 at H ak al aB aC aD
          generalize (rd_T56 z q).f2.f1 = d4 at H ak al aB aC aD
          replace H := Option.bind_eq_some_iff.mp H
          obtain ⟨t2, aL, H⟩ := H
          have A2 := am aL
          clear aL
          by_cases cb_ : t2 = true
          ·subst cb_
           replace H := (if_pos rfl).symm.trans H
           replace H := Option.bind_eq_some_iff.mp H
           obtain ⟨t3, aM, H⟩ := H
           have A3 := am aM
           clear aM
           by_cases c3 : t3 < 0
           ·rw [if_pos c3] at H
            have ay := decide_eq_true c3
            replace ay : decide (t3 < 0) = true := ay
            clear c3
            obtain rfl := Option.some.inj H
            go_wp2
            replace BK := bd BK
            replace BN := am (blk_drew BN.out)
            replace HB := hd HB
            have T : w6.drew.cell? (ad.add (q.toNat * 5)) = some (.int .i64 d0) := ak
            have X : w6.drew.cell? ⟨(ad.add (q.toNat * 5)).block, (ad.add (q.toNat * 5)).off + 1, none⟩ = some (.int .i64 d1) := al
            have ab : w6.drew.cell? ⟨(ad.add (q.toNat * 5)).block, (ad.add (q.toNat * 5)).off + 2, none⟩ = some (.int .i64 d2) := aB
            have ac : w6.drew.cell? ⟨(ad.add (q.toNat * 5)).block, (ad.add (q.toNat * 5)).off + 3, none⟩ = some (.int .i64 d3) := aC
            have ar : w6.drew.cell? ⟨(ad.add (q.toNat * 5)).block, (ad.add (q.toNat * 5)).off + 4, none⟩ = some (.int .i64 d4) := aD
            refine wp_region_bel (by kernel_rfl) (by kernel_rfl) ?_
            generalize w6.drew = y at BK BN HB T X ab ac ar ⊢
            have hbp := fun (p : Bel y) => below_step HB.out p.h
            have ae : ∀ p : Bel y, p.v.cell? ⟨gb, 0, none⟩ = some (.slice aa D.length Y) := fun p => cell_bel (cx BK 0) p
            have af : ∀ p : Bel y, p.v.cell? ⟨gb, 1, none⟩ = some (.slice (some ad) z.length Z) := fun p => cell_bel (cx BK 1) p
            have ag : ∀ p : Bel y, p.v.cell? ⟨gn, 0, none⟩ = some (.int .i64 O) := fun p => cell_bel ((blk_cell BN.out 0).trans rfl) p
            have ah : ∀ p : Bel y, p.v.cell? ⟨gn, 1, none⟩ = some (.int .i64 I) := fun p => cell_bel ((blk_cell BN.out 1).trans rfl) p
            have ai : ∀ p : Bel y, p.v.cell? ⟨gn, 2, none⟩ = some (.int .i64 J) := fun p => cell_bel ((blk_cell BN.out 2).trans rfl) p
            have aj : ∀ p : Bel y, p.v.cell? ⟨gn, 3, none⟩ = some (.int .i64 L) := fun p => cell_bel ((blk_cell BN.out 3).trans rfl) p
            have au : ∀ p : Bel y, p.v.cell? ⟨gn, 4, none⟩ = some (.int .i64 M) := fun p => cell_bel ((blk_cell BN.out 4).trans rfl) p
            have aF : ∀ p : Bel y, p.v.cell? (ad.add (q.toNat * 5)) = some (.int .i64 d0) := fun p => cell_bel (T) p
            have aG : ∀ p : Bel y, p.v.cell? ⟨(ad.add (q.toNat * 5)).block, (ad.add (q.toNat * 5)).off + 1, none⟩ = some (.int .i64 d1) := fun p => cell_bel (X) p
            have aH : ∀ p : Bel y, p.v.cell? ⟨(ad.add (q.toNat * 5)).block, (ad.add (q.toNat * 5)).off + 2, none⟩ = some (.int .i64 d2) := fun p => cell_bel (ab) p
            have aI : ∀ p : Bel y, p.v.cell? ⟨(ad.add (q.toNat * 5)).block, (ad.add (q.toNat * 5)).off + 3, none⟩ = some (.int .i64 d3) := fun p => cell_bel (ac) p
            have aJ : ∀ p : Bel y, p.v.cell? ⟨(ad.add (q.toNat * 5)).block, (ad.add (q.toNat * 5)).off + 4, none⟩ = some (.int .i64 d4) := fun p => cell_bel (ar) p
            repeat (go_big_quiet_step (first
             | (with_reducible show Calls Try.prog 77 #[.agg #[.int .i64 O, .int .i64 I, .int .i64 J, .int .i64 L, .int .i64 M]] _ _; with_reducible exact calls_bel (spec_EdgeOk.calls O I J L M true _ A1.out))
             | (with_reducible show Calls Try.prog 78 #[.agg #[.int .i64 d0, .int .i64 d1, .int .i64 d2, .int .i64 d3, .int .i64 d4], .agg #[.int .i64 O, .int .i64 I, .int .i64 J, .int .i64 L, .int .i64 M]] _ _; with_reducible exact calls_bel (spec_l2Less.calls d0 d1 d2 d3 d4 O I J L M true _ A2.out))
             | (with_reducible show Calls Try.prog 62 #[.agg #[.slice aa D.length Y, .slice (some ad) z.length Z], .agg #[.int .i64 I, .int .i64 J]] _ _; with_reducible refine calls_bel (spec_l2At.calls k2 _ _ D _ _ z I J t3 _ ?s1 ?s2 ?s3 ?s4 A3.out); (case s1 => exact Kd.C_below an.out (hbp _)); (case s2 => exact aw.out); (case s3 => exact Kd.C_below ao.out (hbp _)); (case s4 => exact ax.out))))
            refine wpQuiet_nil ?_
            intro w9 hw'
            obtain ⟨⟨wq_, hb⟩, hw''⟩ := hw'
            subst hw''
            clear hbp ae af ag ah ai aj au aF aG aH aI aJ T X ab ac ar
            replace BK := bb BK hb rfl
            replace BN := am (blk_belowD BN.out hb rfl)
            replace HB := hs HB hb
            clear hb
            go_wp2
            go_ret
            exact ⟨eqs, bs HB.out⟩
           ·rw [if_neg c3] at H
            have ay : decide (t3 < 0) = false := decide_eq_false c3
            clear c3
            replace H := Option.bind_eq_some_iff.mp H
            obtain ⟨t4, aV, H⟩ := H
            have A4 := am aV
            clear aV
            by_cases c4 : t4 < 0
            ·rw [if_pos c4] at H
             have aR := decide_eq_true c4
             replace aR : decide (t4 < 0) = true := aR
             clear c4
             obtain rfl := Option.some.inj H
             go_wp2
             replace BK := bd BK
             replace BN := am (blk_drew BN.out)
             replace HB := hd HB
             have T : w6.drew.cell? (ad.add (q.toNat * 5)) = some (.int .i64 d0) := ak
             have X : w6.drew.cell? ⟨(ad.add (q.toNat * 5)).block, (ad.add (q.toNat * 5)).off + 1, none⟩ = some (.int .i64 d1) := al
             have ab : w6.drew.cell? ⟨(ad.add (q.toNat * 5)).block, (ad.add (q.toNat * 5)).off + 2, none⟩ = some (.int .i64 d2) := aB
             have ac : w6.drew.cell? ⟨(ad.add (q.toNat * 5)).block, (ad.add (q.toNat * 5)).off + 3, none⟩ = some (.int .i64 d3) := aC
             have ar : w6.drew.cell? ⟨(ad.add (q.toNat * 5)).block, (ad.add (q.toNat * 5)).off + 4, none⟩ = some (.int .i64 d4) := aD
             refine wp_region_bel (by kernel_rfl) (by kernel_rfl) ?_
             generalize w6.drew = y at BK BN HB T X ab ac ar ⊢
             have hbp := fun (p : Bel y) => below_step HB.out p.h
             have ae : ∀ p : Bel y, p.v.cell? ⟨gb, 0, none⟩ = some (.slice aa D.length Y) := fun p => cell_bel (cx BK 0) p
             have af : ∀ p : Bel y, p.v.cell? ⟨gb, 1, none⟩ = some (.slice (some ad) z.length Z) := fun p => cell_bel (cx BK 1) p
             have ag : ∀ p : Bel y, p.v.cell? ⟨gn, 0, none⟩ = some (.int .i64 O) := fun p => cell_bel ((blk_cell BN.out 0).trans rfl) p
             have ah : ∀ p : Bel y, p.v.cell? ⟨gn, 1, none⟩ = some (.int .i64 I) := fun p => cell_bel ((blk_cell BN.out 1).trans rfl) p
             have ai : ∀ p : Bel y, p.v.cell? ⟨gn, 2, none⟩ = some (.int .i64 J) := fun p => cell_bel ((blk_cell BN.out 2).trans rfl) p
             have aj : ∀ p : Bel y, p.v.cell? ⟨gn, 3, none⟩ = some (.int .i64 L) := fun p => cell_bel ((blk_cell BN.out 3).trans rfl) p
             have au : ∀ p : Bel y, p.v.cell? ⟨gn, 4, none⟩ = some (.int .i64 M) := fun p => cell_bel ((blk_cell BN.out 4).trans rfl) p
             have aF : ∀ p : Bel y, p.v.cell? (ad.add (q.toNat * 5)) = some (.int .i64 d0) := fun p => cell_bel (T) p
             have aG : ∀ p : Bel y, p.v.cell? ⟨(ad.add (q.toNat * 5)).block, (ad.add (q.toNat * 5)).off + 1, none⟩ = some (.int .i64 d1) := fun p => cell_bel (X) p
             have aH : ∀ p : Bel y, p.v.cell? ⟨(ad.add (q.toNat * 5)).block, (ad.add (q.toNat * 5)).off + 2, none⟩ = some (.int .i64 d2) := fun p => cell_bel (ab) p
             have aI : ∀ p : Bel y, p.v.cell? ⟨(ad.add (q.toNat * 5)).block, (ad.add (q.toNat * 5)).off + 3, none⟩ = some (.int .i64 d3) := fun p => cell_bel (ac) p
             have aJ : ∀ p : Bel y, p.v.cell? ⟨(ad.add (q.toNat * 5)).block, (ad.add (q.toNat * 5)).off + 4, none⟩ = some (.int .i64 d4) := fun p => cell_bel (ar) p
             repeat (go_big_quiet_step (first
              | (with_reducible show Calls Try.prog 77 #[.agg #[.int .i64 O, .int .i64 I, .int .i64 J, .int .i64 L, .int .i64 M]] _ _; with_reducible exact calls_bel (spec_EdgeOk.calls O I J L M true _ A1.out))
              | (with_reducible show Calls Try.prog 78 #[.agg #[.int .i64 d0, .int .i64 d1, .int .i64 d2, .int .i64 d3, .int .i64 d4], .agg #[.int .i64 O, .int .i64 I, .int .i64 J, .int .i64 L, .int .i64 M]] _ _; with_reducible exact calls_bel (spec_l2Less.calls d0 d1 d2 d3 d4 O I J L M true _ A2.out))
              | (with_reducible show Calls Try.prog 62 #[.agg #[.slice aa D.length Y, .slice (some ad) z.length Z], .agg #[.int .i64 I, .int .i64 J]] _ _; with_reducible refine calls_bel (spec_l2At.calls k2 _ _ D _ _ z I J t3 _ ?s1 ?s2 ?s3 ?s4 A3.out); (case s1 => exact Kd.C_below an.out (hbp _)); (case s2 => exact aw.out); (case s3 => exact Kd.C_below ao.out (hbp _)); (case s4 => exact ax.out))
              | (with_reducible show Calls Try.prog 62 #[.agg #[.slice aa D.length Y, .slice (some ad) z.length Z], .agg #[.int .i64 L, .int .i64 M]] _ _; with_reducible refine calls_bel (spec_l2At.calls k2 _ _ D _ _ z L M t4 _ ?s1 ?s2 ?s3 ?s4 A4.out); (case s1 => exact Kd.C_below an.out (hbp _)); (case s2 => exact aw.out); (case s3 => exact Kd.C_below ao.out (hbp _)); (case s4 => exact ax.out))))
             refine wpQuiet_nil ?_
             intro w9 hw'
             obtain ⟨⟨wq_, hb⟩, hw''⟩ := hw'
             subst hw''
             clear hbp ae af ag ah ai aj au aF aG aH aI aJ T X ab ac ar
             replace BK := bb BK hb rfl
             replace BN := am (blk_belowD BN.out hb rfl)
             replace HB := hs HB hb
             clear hb
             go_wp2
             go_ret
             exact ⟨eqs, bs HB.out⟩
            ·rw [if_neg c4] at H
             have aR : decide (t4 < 0) = false := decide_eq_false c4
             clear c4
             by_cases c5 : x4 ≥ 56
             ·rw [if_pos c5] at H
              have aS := decide_eq_true c5
              replace aS : decide (56 ≤ x4) = true := aS
              clear c5
              obtain rfl := Option.some.inj H
              go_wp2
              replace BK := bd BK
              replace BN := am (blk_drew BN.out)
              replace HB := hd HB
              have T : w6.drew.cell? (ad.add (q.toNat * 5)) = some (.int .i64 d0) := ak
              have X : w6.drew.cell? ⟨(ad.add (q.toNat * 5)).block, (ad.add (q.toNat * 5)).off + 1, none⟩ = some (.int .i64 d1) := al
              have ab : w6.drew.cell? ⟨(ad.add (q.toNat * 5)).block, (ad.add (q.toNat * 5)).off + 2, none⟩ = some (.int .i64 d2) := aB
              have ac : w6.drew.cell? ⟨(ad.add (q.toNat * 5)).block, (ad.add (q.toNat * 5)).off + 3, none⟩ = some (.int .i64 d3) := aC
              have ar : w6.drew.cell? ⟨(ad.add (q.toNat * 5)).block, (ad.add (q.toNat * 5)).off + 4, none⟩ = some (.int .i64 d4) := aD
              refine wp_region_bel (by kernel_rfl) (by kernel_rfl) ?_
              generalize w6.drew = y at BK BN HB T X ab ac ar ⊢
              have hbp := fun (p : Bel y) => below_step HB.out p.h
              have ae : ∀ p : Bel y, p.v.cell? ⟨gb, 0, none⟩ = some (.slice aa D.length Y) := fun p => cell_bel (cx BK 0) p
              have af : ∀ p : Bel y, p.v.cell? ⟨gb, 1, none⟩ = some (.slice (some ad) z.length Z) := fun p => cell_bel (cx BK 1) p
              have ag : ∀ p : Bel y, p.v.cell? ⟨gn, 0, none⟩ = some (.int .i64 O) := fun p => cell_bel ((blk_cell BN.out 0).trans rfl) p
              have ah : ∀ p : Bel y, p.v.cell? ⟨gn, 1, none⟩ = some (.int .i64 I) := fun p => cell_bel ((blk_cell BN.out 1).trans rfl) p
              have ai : ∀ p : Bel y, p.v.cell? ⟨gn, 2, none⟩ = some (.int .i64 J) := fun p => cell_bel ((blk_cell BN.out 2).trans rfl) p
              have aj : ∀ p : Bel y, p.v.cell? ⟨gn, 3, none⟩ = some (.int .i64 L) := fun p => cell_bel ((blk_cell BN.out 3).trans rfl) p
              have au : ∀ p : Bel y, p.v.cell? ⟨gn, 4, none⟩ = some (.int .i64 M) := fun p => cell_bel ((blk_cell BN.out 4).trans rfl) p
              have aF : ∀ p : Bel y, p.v.cell? (ad.add (q.toNat * 5)) = some (.int .i64 d0) := fun p => cell_bel (T) p
              have aG : ∀ p : Bel y, p.v.cell? ⟨(ad.add (q.toNat * 5)).block, (ad.add (q.toNat * 5)).off + 1, none⟩ = some (.int .i64 d1) := fun p => cell_bel (X) p
              have aH : ∀ p : Bel y, p.v.cell? ⟨(ad.add (q.toNat * 5)).block, (ad.add (q.toNat * 5)).off + 2, none⟩ = some (.int .i64 d2) := fun p => cell_bel (ab) p
              have aI : ∀ p : Bel y, p.v.cell? ⟨(ad.add (q.toNat * 5)).block, (ad.add (q.toNat * 5)).off + 3, none⟩ = some (.int .i64 d3) := fun p => cell_bel (ac) p
              have aJ : ∀ p : Bel y, p.v.cell? ⟨(ad.add (q.toNat * 5)).block, (ad.add (q.toNat * 5)).off + 4, none⟩ = some (.int .i64 d4) := fun p => cell_bel (ar) p
              repeat (go_big_quiet_step (first
               | (with_reducible show Calls Try.prog 77 #[.agg #[.int .i64 O, .int .i64 I, .int .i64 J, .int .i64 L, .int .i64 M]] _ _; with_reducible exact calls_bel (spec_EdgeOk.calls O I J L M true _ A1.out))
               | (with_reducible show Calls Try.prog 78 #[.agg #[.int .i64 d0, .int .i64 d1, .int .i64 d2, .int .i64 d3, .int .i64 d4], .agg #[.int .i64 O, .int .i64 I, .int .i64 J, .int .i64 L, .int .i64 M]] _ _; with_reducible exact calls_bel (spec_l2Less.calls d0 d1 d2 d3 d4 O I J L M true _ A2.out))
               | (with_reducible show Calls Try.prog 62 #[.agg #[.slice aa D.length Y, .slice (some ad) z.length Z], .agg #[.int .i64 I, .int .i64 J]] _ _; with_reducible refine calls_bel (spec_l2At.calls k2 _ _ D _ _ z I J t3 _ ?s1 ?s2 ?s3 ?s4 A3.out); (case s1 => exact Kd.C_below an.out (hbp _)); (case s2 => exact aw.out); (case s3 => exact Kd.C_below ao.out (hbp _)); (case s4 => exact ax.out))
               | (with_reducible show Calls Try.prog 62 #[.agg #[.slice aa D.length Y, .slice (some ad) z.length Z], .agg #[.int .i64 L, .int .i64 M]] _ _; with_reducible refine calls_bel (spec_l2At.calls k2 _ _ D _ _ z L M t4 _ ?s1 ?s2 ?s3 ?s4 A4.out); (case s1 => exact Kd.C_below an.out (hbp _)); (case s2 => exact aw.out); (case s3 => exact Kd.C_below ao.out (hbp _)); (case s4 => exact ax.out))))
              refine wpQuiet_nil ?_
              intro w9 hw'
              obtain ⟨⟨wq_, hb⟩, hw''⟩ := hw'
              subst hw''
              clear hbp ae af ag ah ai aj au aF aG aH aI aJ T X ab ac ar
              replace BK := bb BK hb rfl
              replace BN := am (blk_belowD BN.out hb rfl)
              replace HB := hs HB hb
              clear hb
              go_wp2
              go_ret
              exact ⟨eqs, bs HB.out⟩
             ·rw [if_neg c5] at H
              have aS : decide (56 ≤ x4) = false := decide_eq_false c5
              clear c5
              have H' := am H
              clear H
              go_wp2
              replace BK := bd BK
              replace BN := am (blk_drew BN.out)
              replace HB := hd HB
              have T : w6.drew.cell? (ad.add (q.toNat * 5)) = some (.int .i64 d0) := ak
              have X : w6.drew.cell? ⟨(ad.add (q.toNat * 5)).block, (ad.add (q.toNat * 5)).off + 1, none⟩ = some (.int .i64 d1) := al
              have ab : w6.drew.cell? ⟨(ad.add (q.toNat * 5)).block, (ad.add (q.toNat * 5)).off + 2, none⟩ = some (.int .i64 d2) := aB
              have ac : w6.drew.cell? ⟨(ad.add (q.toNat * 5)).block, (ad.add (q.toNat * 5)).off + 3, none⟩ = some (.int .i64 d3) := aC
              have ar : w6.drew.cell? ⟨(ad.add (q.toNat * 5)).block, (ad.add (q.toNat * 5)).off + 4, none⟩ = some (.int .i64 d4) := aD
              refine wp_region_bel (by kernel_rfl) (by kernel_rfl) ?_
              generalize w6.drew = y at BK BN HB T X ab ac ar ⊢
              have hbp := fun (p : Bel y) => below_step HB.out p.h
              have ae : ∀ p : Bel y, p.v.cell? ⟨gb, 0, none⟩ = some (.slice aa D.length Y) := fun p => cell_bel (cx BK 0) p
              have af : ∀ p : Bel y, p.v.cell? ⟨gb, 1, none⟩ = some (.slice (some ad) z.length Z) := fun p => cell_bel (cx BK 1) p
              have ag : ∀ p : Bel y, p.v.cell? ⟨gn, 0, none⟩ = some (.int .i64 O) := fun p => cell_bel ((blk_cell BN.out 0).trans rfl) p
              have ah : ∀ p : Bel y, p.v.cell? ⟨gn, 1, none⟩ = some (.int .i64 I) := fun p => cell_bel ((blk_cell BN.out 1).trans rfl) p
              have ai : ∀ p : Bel y, p.v.cell? ⟨gn, 2, none⟩ = some (.int .i64 J) := fun p => cell_bel ((blk_cell BN.out 2).trans rfl) p
              have aj : ∀ p : Bel y, p.v.cell? ⟨gn, 3, none⟩ = some (.int .i64 L) := fun p => cell_bel ((blk_cell BN.out 3).trans rfl) p
              have au : ∀ p : Bel y, p.v.cell? ⟨gn, 4, none⟩ = some (.int .i64 M) := fun p => cell_bel ((blk_cell BN.out 4).trans rfl) p
              have aF : ∀ p : Bel y, p.v.cell? (ad.add (q.toNat * 5)) = some (.int .i64 d0) := fun p => cell_bel (T) p
              have aG : ∀ p : Bel y, p.v.cell? ⟨(ad.add (q.toNat * 5)).block, (ad.add (q.toNat * 5)).off + 1, none⟩ = some (.int .i64 d1) := fun p => cell_bel (X) p
              have aH : ∀ p : Bel y, p.v.cell? ⟨(ad.add (q.toNat * 5)).block, (ad.add (q.toNat * 5)).off + 2, none⟩ = some (.int .i64 d2) := fun p => cell_bel (ab) p
              have aI : ∀ p : Bel y, p.v.cell? ⟨(ad.add (q.toNat * 5)).block, (ad.add (q.toNat * 5)).off + 3, none⟩ = some (.int .i64 d3) := fun p => cell_bel (ac) p
              have aJ : ∀ p : Bel y, p.v.cell? ⟨(ad.add (q.toNat * 5)).block, (ad.add (q.toNat * 5)).off + 4, none⟩ = some (.int .i64 d4) := fun p => cell_bel (ar) p
              repeat (go_big_quiet_step (first
               | (with_reducible show Calls Try.prog 77 #[.agg #[.int .i64 O, .int .i64 I, .int .i64 J, .int .i64 L, .int .i64 M]] _ _; with_reducible exact calls_bel (spec_EdgeOk.calls O I J L M true _ A1.out))
               | (with_reducible show Calls Try.prog 78 #[.agg #[.int .i64 d0, .int .i64 d1, .int .i64 d2, .int .i64 d3, .int .i64 d4], .agg #[.int .i64 O, .int .i64 I, .int .i64 J, .int .i64 L, .int .i64 M]] _ _; with_reducible exact calls_bel (spec_l2Less.calls d0 d1 d2 d3 d4 O I J L M true _ A2.out))
               | (with_reducible show Calls Try.prog 62 #[.agg #[.slice aa D.length Y, .slice (some ad) z.length Z], .agg #[.int .i64 I, .int .i64 J]] _ _; with_reducible refine calls_bel (spec_l2At.calls k2 _ _ D _ _ z I J t3 _ ?s1 ?s2 ?s3 ?s4 A3.out); (case s1 => exact Kd.C_below an.out (hbp _)); (case s2 => exact aw.out); (case s3 => exact Kd.C_below ao.out (hbp _)); (case s4 => exact ax.out))
               | (with_reducible show Calls Try.prog 62 #[.agg #[.slice aa D.length Y, .slice (some ad) z.length Z], .agg #[.int .i64 L, .int .i64 M]] _ _; with_reducible refine calls_bel (spec_l2At.calls k2 _ _ D _ _ z L M t4 _ ?s1 ?s2 ?s3 ?s4 A4.out); (case s1 => exact Kd.C_below an.out (hbp _)); (case s2 => exact aw.out); (case s3 => exact Kd.C_below ao.out (hbp _)); (case s4 => exact ax.out))))
              refine wpQuiet_nil ?_
              intro w9 hw'
              obtain ⟨⟨wq_, hb⟩, hw''⟩ := hw'
              subst hw''
              clear hbp ae af ag ah ai aj au aF aG aH aI aJ T X ab ac ar
              replace BK := bb BK hb rfl
              replace BN := am (blk_belowD BN.out hb rfl)
              replace HB := hs HB hb
              clear hb
              go_wp2
              go_roundg k2
              case measure => have := HK_.out; omega
              case rel => exact ⟨wrap64 (x4 + 1), eqs, H', ⟨by have := HK_.out; omega⟩, ⟨bf BK.out⟩, ⟨bs HB.out⟩⟩
          ·replace cb_ := Bool.eq_false_iff.mpr cb_
           subst cb_
           replace H := (if_neg (show ¬ (false = true) by decide)).symm.trans H
           obtain rfl := Option.some.inj H
           go_wp2
           replace BK := bd BK
           replace BN := am (blk_drew BN.out)
           replace HB := hd HB
           have T : w6.drew.cell? (ad.add (q.toNat * 5)) = some (.int .i64 d0) := ak
           have X : w6.drew.cell? ⟨(ad.add (q.toNat * 5)).block, (ad.add (q.toNat * 5)).off + 1, none⟩ = some (.int .i64 d1) := al
           have ab : w6.drew.cell? ⟨(ad.add (q.toNat * 5)).block, (ad.add (q.toNat * 5)).off + 2, none⟩ = some (.int .i64 d2) := aB
           have ac : w6.drew.cell? ⟨(ad.add (q.toNat * 5)).block, (ad.add (q.toNat * 5)).off + 3, none⟩ = some (.int .i64 d3) := aC
           have ar : w6.drew.cell? ⟨(ad.add (q.toNat * 5)).block, (ad.add (q.toNat * 5)).off + 4, none⟩ = some (.int .i64 d4) := aD
           refine wp_region_bel (by kernel_rfl) (by kernel_rfl) ?_
           generalize w6.drew = y at BK BN HB T X ab ac ar ⊢
           have hbp := fun (p : Bel y) => below_step HB.out p.h
           have ae : ∀ p : Bel y, p.v.cell? ⟨gb, 0, none⟩ = some (.slice aa D.length Y) := fun p => cell_bel (cx BK 0) p
           have af : ∀ p : Bel y, p.v.cell? ⟨gb, 1, none⟩ = some (.slice (some ad) z.length Z) := fun p => cell_bel (cx BK 1) p
           have ag : ∀ p : Bel y, p.v.cell? ⟨gn, 0, none⟩ = some (.int .i64 O) := fun p => cell_bel ((blk_cell BN.out 0).trans rfl) p
           have ah : ∀ p : Bel y, p.v.cell? ⟨gn, 1, none⟩ = some (.int .i64 I) := fun p => cell_bel ((blk_cell BN.out 1).trans rfl) p
           have ai : ∀ p : Bel y, p.v.cell? ⟨gn, 2, none⟩ = some (.int .i64 J) := fun p => cell_bel ((blk_cell BN.out 2).trans rfl) p
           have aj : ∀ p : Bel y, p.v.cell? ⟨gn, 3, none⟩ = some (.int .i64 L) := fun p => cell_bel ((blk_cell BN.out 3).trans rfl) p
           have au : ∀ p : Bel y, p.v.cell? ⟨gn, 4, none⟩ = some (.int .i64 M) := fun p => cell_bel ((blk_cell BN.out 4).trans rfl) p
           have aF : ∀ p : Bel y, p.v.cell? (ad.add (q.toNat * 5)) = some (.int .i64 d0) := fun p => cell_bel (T) p
           have aG : ∀ p : Bel y, p.v.cell? ⟨(ad.add (q.toNat * 5)).block, (ad.add (q.toNat * 5)).off + 1, none⟩ = some (.int .i64 d1) := fun p => cell_bel (X) p
           have aH : ∀ p : Bel y, p.v.cell? ⟨(ad.add (q.toNat * 5)).block, (ad.add (q.toNat * 5)).off + 2, none⟩ = some (.int .i64 d2) := fun p => cell_bel (ab) p
           have aI : ∀ p : Bel y, p.v.cell? ⟨(ad.add (q.toNat * 5)).block, (ad.add (q.toNat * 5)).off + 3, none⟩ = some (.int .i64 d3) := fun p => cell_bel (ac) p
           have aJ : ∀ p : Bel y, p.v.cell? ⟨(ad.add (q.toNat * 5)).block, (ad.add (q.toNat * 5)).off + 4, none⟩ = some (.int .i64 d4) := fun p => cell_bel (ar) p
           repeat (go_big_quiet_step (first
            | (with_reducible show Calls Try.prog 77 #[.agg #[.int .i64 O, .int .i64 I, .int .i64 J, .int .i64 L, .int .i64 M]] _ _; with_reducible exact calls_bel (spec_EdgeOk.calls O I J L M true _ A1.out))
            | (with_reducible show Calls Try.prog 78 #[.agg #[.int .i64 d0, .int .i64 d1, .int .i64 d2, .int .i64 d3, .int .i64 d4], .agg #[.int .i64 O, .int .i64 I, .int .i64 J, .int .i64 L, .int .i64 M]] _ _; with_reducible exact calls_bel (spec_l2Less.calls d0 d1 d2 d3 d4 O I J L M false _ A2.out))))
           refine wpQuiet_nil ?_
           intro w9 hw'
           obtain ⟨⟨wq_, hb⟩, hw''⟩ := hw'
           subst hw''
           clear hbp ae af ag ah ai aj au aF aG aH aI aJ T X ab ac ar
           replace BK := bb BK hb rfl
           replace BN := am (blk_belowD BN.out hb rfl)
           replace HB := hs HB hb
           clear hb
           go_wp2
           go_ret
           exact ⟨eqs, bs HB.out⟩
         ·rw [if_neg c0] at H
          have aE : decide (0 < x4) = false := decide_eq_false c0
          clear c0
          replace H := Option.bind_eq_some_iff.mp H
          obtain ⟨t3, aM, H⟩ := H
          have A3 := am aM
          clear aM
          by_cases c3 : t3 < 0
          ·rw [if_pos c3] at H
           have ay := decide_eq_true c3
           replace ay : decide (t3 < 0) = true := ay
           clear c3
           obtain rfl := Option.some.inj H
           go_wp2
           replace BK := bd BK
           replace BN := am (blk_drew BN.out)
           replace HB := hd HB
           refine wp_region_bel (by kernel_rfl) (by kernel_rfl) ?_
           generalize w6.drew = y at BK BN HB ⊢
           have hbp := fun (p : Bel y) => below_step HB.out p.h
           have ae : ∀ p : Bel y, p.v.cell? ⟨gb, 0, none⟩ = some (.slice aa D.length Y) := fun p => cell_bel (cx BK 0) p
           have af : ∀ p : Bel y, p.v.cell? ⟨gb, 1, none⟩ = some (.slice (some ad) z.length Z) := fun p => cell_bel (cx BK 1) p
           have ag : ∀ p : Bel y, p.v.cell? ⟨gn, 0, none⟩ = some (.int .i64 O) := fun p => cell_bel ((blk_cell BN.out 0).trans rfl) p
           have ah : ∀ p : Bel y, p.v.cell? ⟨gn, 1, none⟩ = some (.int .i64 I) := fun p => cell_bel ((blk_cell BN.out 1).trans rfl) p
           have ai : ∀ p : Bel y, p.v.cell? ⟨gn, 2, none⟩ = some (.int .i64 J) := fun p => cell_bel ((blk_cell BN.out 2).trans rfl) p
           have aj : ∀ p : Bel y, p.v.cell? ⟨gn, 3, none⟩ = some (.int .i64 L) := fun p => cell_bel ((blk_cell BN.out 3).trans rfl) p
           have au : ∀ p : Bel y, p.v.cell? ⟨gn, 4, none⟩ = some (.int .i64 M) := fun p => cell_bel ((blk_cell BN.out 4).trans rfl) p
           repeat (go_big_quiet_step (first
            | (with_reducible show Calls Try.prog 77 #[.agg #[.int .i64 O, .int .i64 I, .int .i64 J, .int .i64 L, .int .i64 M]] _ _; with_reducible exact calls_bel (spec_EdgeOk.calls O I J L M true _ A1.out))
            | (with_reducible show Calls Try.prog 62 #[.agg #[.slice aa D.length Y, .slice (some ad) z.length Z], .agg #[.int .i64 I, .int .i64 J]] _ _; with_reducible refine calls_bel (spec_l2At.calls k2 _ _ D _ _ z I J t3 _ ?s1 ?s2 ?s3 ?s4 A3.out); (case s1 => exact Kd.C_below an.out (hbp _)); (case s2 => exact aw.out); (case s3 => exact Kd.C_below ao.out (hbp _)); (case s4 => exact ax.out))))
           refine wpQuiet_nil ?_
           intro w9 hw'
           obtain ⟨⟨wq_, hb⟩, hw''⟩ := hw'
           subst hw''
           clear hbp ae af ag ah ai aj au
           replace BK := bb BK hb rfl
           replace BN := am (blk_belowD BN.out hb rfl)
           replace HB := hs HB hb
           clear hb
           go_wp2
           go_ret
           exact ⟨eqs, bs HB.out⟩
          ·rw [if_neg c3] at H
           have ay : decide (t3 < 0) = false := decide_eq_false c3
           clear c3
           replace H := Option.bind_eq_some_iff.mp H
           obtain ⟨t4, aV, H⟩ := H
           have A4 := am aV
           clear aV
           by_cases c4 : t4 < 0
           ·rw [if_pos c4] at H
            have aR := decide_eq_true c4
            replace aR : decide (t4 < 0) = true := aR
            clear c4
            obtain rfl := Option.some.inj H
            go_wp2
            replace BK := bd BK
            replace BN := am (blk_drew BN.out)
            replace HB := hd HB
            refine wp_region_bel (by kernel_rfl) (by kernel_rfl) ?_
            generalize w6.drew = y at BK BN HB ⊢
            have hbp := fun (p : Bel y) => below_step HB.out p.h
            have ae : ∀ p : Bel y, p.v.cell? ⟨gb, 0, none⟩ = some (.slice aa D.length Y) := fun p => cell_bel (cx BK 0) p
            have af : ∀ p : Bel y, p.v.cell? ⟨gb, 1, none⟩ = some (.slice (some ad) z.length Z) := fun p => cell_bel (cx BK 1) p
            have ag : ∀ p : Bel y, p.v.cell? ⟨gn, 0, none⟩ = some (.int .i64 O) := fun p => cell_bel ((blk_cell BN.out 0).trans rfl) p
            have ah : ∀ p : Bel y, p.v.cell? ⟨gn, 1, none⟩ = some (.int .i64 I) := fun p => cell_bel ((blk_cell BN.out 1).trans rfl) p
            have ai : ∀ p : Bel y, p.v.cell? ⟨gn, 2, none⟩ = some (.int .i64 J) := fun p => cell_bel ((blk_cell BN.out 2).trans rfl) p
            have aj : ∀ p : Bel y, p.v.cell? ⟨gn, 3, none⟩ = some (.int .i64 L) := fun p => cell_bel ((blk_cell BN.out 3).trans rfl) p
            have au : ∀ p : Bel y, p.v.cell? ⟨gn, 4, none⟩ = some (.int .i64 M) := fun p => cell_bel ((blk_cell BN.out 4).trans rfl) p
            repeat (go_big_quiet_step (first
             | (with_reducible show Calls Try.prog 77 #[.agg #[.int .i64 O, .int .i64 I, .int .i64 J, .int .i64 L, .int .i64 M]] _ _; with_reducible exact calls_bel (spec_EdgeOk.calls O I J L M true _ A1.out))
             | (with_reducible show Calls Try.prog 62 #[.agg #[.slice aa D.length Y, .slice (some ad) z.length Z], .agg #[.int .i64 I, .int .i64 J]] _ _; with_reducible refine calls_bel (spec_l2At.calls k2 _ _ D _ _ z I J t3 _ ?s1 ?s2 ?s3 ?s4 A3.out); (case s1 => exact Kd.C_below an.out (hbp _)); (case s2 => exact aw.out); (case s3 => exact Kd.C_below ao.out (hbp _)); (case s4 => exact ax.out))
             | (with_reducible show Calls Try.prog 62 #[.agg #[.slice aa D.length Y, .slice (some ad) z.length Z], .agg #[.int .i64 L, .int .i64 M]] _ _; with_reducible refine calls_bel (spec_l2At.calls k2 _ _ D _ _ z L M t4 _ ?s1 ?s2 ?s3 ?s4 A4.out); (case s1 => exact Kd.C_below an.out (hbp _)); (case s2 => exact aw.out); (case s3 => exact Kd.C_below ao.out (hbp _)); (case s4 => exact ax.out))))
            refine wpQuiet_nil ?_
            intro w9 hw'
            obtain ⟨⟨wq_, hb⟩, hw''⟩ := hw'
            subst hw''
            clear hbp ae af ag ah ai aj au
            replace BK := bb BK hb rfl
            replace BN := am (blk_belowD BN.out hb rfl)
            replace HB := hs HB hb
            clear hb
            go_wp2
            go_ret
            exact ⟨eqs, bs HB.out⟩
           ·rw [if_neg c4] at H
            have aR : decide (t4 < 0) = false := decide_eq_false c4
            clear c4
            by_cases c5 : x4 ≥ 56
            ·rw [if_pos c5] at H
             have aS := decide_eq_true c5
             replace aS : decide (56 ≤ x4) = true := aS
             clear c5
             obtain rfl := Option.some.inj H
             go_wp2
             replace BK := bd BK
             replace BN := am (blk_drew BN.out)
             replace HB := hd HB
             refine wp_region_bel (by kernel_rfl) (by kernel_rfl) ?_
             generalize w6.drew = y at BK BN HB ⊢
             have hbp := fun (p : Bel y) => below_step HB.out p.h
             have ae : ∀ p : Bel y, p.v.cell? ⟨gb, 0, none⟩ = some (.slice aa D.length Y) := fun p => cell_bel (cx BK 0) p
             have af : ∀ p : Bel y, p.v.cell? ⟨gb, 1, none⟩ = some (.slice (some ad) z.length Z) := fun p => cell_bel (cx BK 1) p
             have ag : ∀ p : Bel y, p.v.cell? ⟨gn, 0, none⟩ = some (.int .i64 O) := fun p => cell_bel ((blk_cell BN.out 0).trans rfl) p
             have ah : ∀ p : Bel y, p.v.cell? ⟨gn, 1, none⟩ = some (.int .i64 I) := fun p => cell_bel ((blk_cell BN.out 1).trans rfl) p
             have ai : ∀ p : Bel y, p.v.cell? ⟨gn, 2, none⟩ = some (.int .i64 J) := fun p => cell_bel ((blk_cell BN.out 2).trans rfl) p
             have aj : ∀ p : Bel y, p.v.cell? ⟨gn, 3, none⟩ = some (.int .i64 L) := fun p => cell_bel ((blk_cell BN.out 3).trans rfl) p
             have au : ∀ p : Bel y, p.v.cell? ⟨gn, 4, none⟩ = some (.int .i64 M) := fun p => cell_bel ((blk_cell BN.out 4).trans rfl) p
             repeat (go_big_quiet_step (first
              | (with_reducible show Calls Try.prog 77 #[.agg #[.int .i64 O, .int .i64 I, .int .i64 J, .int .i64 L, .int .i64 M]] _ _; with_reducible exact calls_bel (spec_EdgeOk.calls O I J L M true _ A1.out))
              | (with_reducible show Calls Try.prog 62 #[.agg #[.slice aa D.length Y, .slice (some ad) z.length Z], .agg #[.int .i64 I, .int .i64 J]] _ _; with_reducible refine calls_bel (spec_l2At.calls k2 _ _ D _ _ z I J t3 _ ?s1 ?s2 ?s3 ?s4 A3.out); (case s1 => exact Kd.C_below an.out (hbp _)); (case s2 => exact aw.out); (case s3 => exact Kd.C_below ao.out (hbp _)); (case s4 => exact ax.out))
              | (with_reducible show Calls Try.prog 62 #[.agg #[.slice aa D.length Y, .slice (some ad) z.length Z], .agg #[.int .i64 L, .int .i64 M]] _ _; with_reducible refine calls_bel (spec_l2At.calls k2 _ _ D _ _ z L M t4 _ ?s1 ?s2 ?s3 ?s4 A4.out); (case s1 => exact Kd.C_below an.out (hbp _)); (case s2 => exact aw.out); (case s3 => exact Kd.C_below ao.out (hbp _)); (case s4 => exact ax.out))))
             refine wpQuiet_nil ?_
             intro w9 hw'
             obtain ⟨⟨wq_, hb⟩, hw''⟩ := hw'
             subst hw''
             clear hbp ae af ag ah ai aj au
             replace BK := bb BK hb rfl
             replace BN := am (blk_belowD BN.out hb rfl)
             replace HB := hs HB hb
             clear hb
             go_wp2
             go_ret
             exact ⟨eqs, bs HB.out⟩
            ·rw [if_neg c5] at H
             have aS : decide (56 ≤ x4) = false := decide_eq_false c5
             clear c5
             have H' := am H
             clear H
             go_wp2
             replace BK := bd BK
             replace BN := am (blk_drew BN.out)
             replace HB := hd HB
             refine wp_region_bel (by kernel_rfl) (by kernel_rfl) ?_
             generalize w6.drew = y at BK BN HB ⊢
             have hbp := fun (p : Bel y) => below_step HB.out p.h
             have ae : ∀ p : Bel y, p.v.cell? ⟨gb, 0, none⟩ = some (.slice aa D.length Y) := fun p => cell_bel (cx BK 0) p
             have af : ∀ p : Bel y, p.v.cell? ⟨gb, 1, none⟩ = some (.slice (some ad) z.length Z) := fun p => cell_bel (cx BK 1) p
             have ag : ∀ p : Bel y, p.v.cell? ⟨gn, 0, none⟩ = some (.int .i64 O) := fun p => cell_bel ((blk_cell BN.out 0).trans rfl) p
             have ah : ∀ p : Bel y, p.v.cell? ⟨gn, 1, none⟩ = some (.int .i64 I) := fun p => cell_bel ((blk_cell BN.out 1).trans rfl) p
             have ai : ∀ p : Bel y, p.v.cell? ⟨gn, 2, none⟩ = some (.int .i64 J) := fun p => cell_bel ((blk_cell BN.out 2).trans rfl) p
             have aj : ∀ p : Bel y, p.v.cell? ⟨gn, 3, none⟩ = some (.int .i64 L) := fun p => cell_bel ((blk_cell BN.out 3).trans rfl) p
             have au : ∀ p : Bel y, p.v.cell? ⟨gn, 4, none⟩ = some (.int .i64 M) := fun p => cell_bel ((blk_cell BN.out 4).trans rfl) p
             repeat (go_big_quiet_step (first
              | (with_reducible show Calls Try.prog 77 #[.agg #[.int .i64 O, .int .i64 I, .int .i64 J, .int .i64 L, .int .i64 M]] _ _; with_reducible exact calls_bel (spec_EdgeOk.calls O I J L M true _ A1.out))
              | (with_reducible show Calls Try.prog 62 #[.agg #[.slice aa D.length Y, .slice (some ad) z.length Z], .agg #[.int .i64 I, .int .i64 J]] _ _; with_reducible refine calls_bel (spec_l2At.calls k2 _ _ D _ _ z I J t3 _ ?s1 ?s2 ?s3 ?s4 A3.out); (case s1 => exact Kd.C_below an.out (hbp _)); (case s2 => exact aw.out); (case s3 => exact Kd.C_below ao.out (hbp _)); (case s4 => exact ax.out))
              | (with_reducible show Calls Try.prog 62 #[.agg #[.slice aa D.length Y, .slice (some ad) z.length Z], .agg #[.int .i64 L, .int .i64 M]] _ _; with_reducible refine calls_bel (spec_l2At.calls k2 _ _ D _ _ z L M t4 _ ?s1 ?s2 ?s3 ?s4 A4.out); (case s1 => exact Kd.C_below an.out (hbp _)); (case s2 => exact aw.out); (case s3 => exact Kd.C_below ao.out (hbp _)); (case s4 => exact ax.out))))
             refine wpQuiet_nil ?_
             intro w9 hw'
             obtain ⟨⟨wq_, hb⟩, hw''⟩ := hw'
             subst hw''
             clear hbp ae af ag ah ai aj au
             replace BK := bb BK hb rfl
             replace BN := am (blk_belowD BN.out hb rfl)
             replace HB := hs HB hb
             clear hb
             go_wp2
             go_roundg k2
             case measure => have := HK_.out; omega
             case rel => exact ⟨wrap64 (x4 + 1), eqs, H', ⟨by have := HK_.out; omega⟩, ⟨bf BK.out⟩, ⟨bs HB.out⟩⟩
        ·replace cb_ := Bool.eq_false_iff.mpr cb_
         subst cb_
         replace H := (if_neg (show ¬ (false = true) by decide)).symm.trans H
         obtain rfl := Option.some.inj H
         go_wp2
         replace BK := bd BK
         replace BN := am (blk_drew BN.out)
         replace HB := hd HB
         refine wp_region_bel (by kernel_rfl) (by kernel_rfl) ?_
         generalize w6.drew = y at BK BN HB ⊢
         have hbp := fun (p : Bel y) => below_step HB.out p.h
         have ae : ∀ p : Bel y, p.v.cell? ⟨gb, 0, none⟩ = some (.slice aa D.length Y) := fun p => cell_bel (cx BK 0) p
         have af : ∀ p : Bel y, p.v.cell? ⟨gb, 1, none⟩ = some (.slice (some ad) z.length Z) := fun p => cell_bel (cx BK 1) p
         have ag : ∀ p : Bel y, p.v.cell? ⟨gn, 0, none⟩ = some (.int .i64 O) := fun p => cell_bel ((blk_cell BN.out 0).trans rfl) p
         have ah : ∀ p : Bel y, p.v.cell? ⟨gn, 1, none⟩ = some (.int .i64 I) := fun p => cell_bel ((blk_cell BN.out 1).trans rfl) p
         have ai : ∀ p : Bel y, p.v.cell? ⟨gn, 2, none⟩ = some (.int .i64 J) := fun p => cell_bel ((blk_cell BN.out 2).trans rfl) p
         have aj : ∀ p : Bel y, p.v.cell? ⟨gn, 3, none⟩ = some (.int .i64 L) := fun p => cell_bel ((blk_cell BN.out 3).trans rfl) p
         have au : ∀ p : Bel y, p.v.cell? ⟨gn, 4, none⟩ = some (.int .i64 M) := fun p => cell_bel ((blk_cell BN.out 4).trans rfl) p
         repeat (go_big_quiet_step (first
          | (with_reducible show Calls Try.prog 77 #[.agg #[.int .i64 O, .int .i64 I, .int .i64 J, .int .i64 L, .int .i64 M]] _ _; with_reducible exact calls_bel (spec_EdgeOk.calls O I J L M false _ A1.out))))
         refine wpQuiet_nil ?_
         intro w9 hw'
         obtain ⟨⟨wq_, hb⟩, hw''⟩ := hw'
         subst hw''
         clear hbp ae af ag ah ai aj au
         replace BK := bb BK hb rfl
         replace BN := am (blk_belowD BN.out hb rfl)
         replace HB := hs HB hb
         clear hb
         go_wp2
         go_ret
         exact ⟨eqs, bs HB.out⟩
       ·rw [if_neg p0] at H; cases H
      ·rw [if_neg c1] at H
       have az : decide (x4 < (z.length : Int)) = false := decide_eq_false c1
       clear c1
       have H' := am H
       clear H
       go_wp2
       go_loopg [6] k2 (fun kq v_ w' => ∃ (x6 : Int), v_ = .int .i64 x6 ∧ Aside0 (spec_GraphOk.l2 kq x6 D z = some r) ∧ Aside0 (kq ≤ k2) ∧ Aside0 (w'.heap[gb]? = some (.cells #[.slice aa D.length Y, .slice av z.length Z] 34 (0, 0))) ∧ Aside0 (Below w.heap.size w w'))
       case atStart => exact ⟨0, eqs, H', ⟨Nat.le_refl _⟩, ⟨bf BK.out⟩, ⟨bs HB.out⟩⟩
       case round =>
        clear H'
        obtain ⟨x6, rfl, HA, HK_, BK, HB⟩ := hrel
        cases gk with
        | zero => exact absurd HA.out (by simp [spec_GraphOk.l2])
        | succ k3 =>
         have H := HA.out
         clear HA
         simp only [spec_GraphOk.l2] at H
         have aT : wr.cell? ⟨gb, 0, none⟩ = some (.slice aa D.length Y) := cx BK 0
         have aU : wr.cell? ⟨gb, 1, none⟩ = some (.slice av z.length Z) := cx BK 1
         by_cases c1 : x6 ≤ 7
         ·rw [if_pos c1] at H
          have az := decide_eq_true c1
          replace az : decide (x6 ≤ 7) = true := az
          clear c1
          replace H := Option.bind_eq_some_iff.mp H
          obtain ⟨t1, aK, H⟩ := H
          have A1 := am aK
          clear aK
          have hcn : True := trivial
          go_wp2_with fail
          refine (spec_l2Nodes.calls k3 _ _ D _ _ z x6 t1 _ ?s1 aw.out ?s3 ax.out A1.out).mono ?_
          case s1 => exact Kd.C_below an.out (bs HB.out)
          case s3 => exact Kd.C_below ao.out (bs HB.out)
          rintro e a6 ⟨rfl, hb⟩
          clear aT aU hcn
          replace BK := bb BK hb rfl
          replace HB := hs HB hb
          clear hb
          have aT : a6.cell? ⟨gb, 0, none⟩ = some (.slice aa D.length Y) := cx BK 0
          have aU : a6.cell? ⟨gb, 1, none⟩ = some (.slice av z.length Z) := cx BK 1
          by_cases c2 : t1 > 5
          ·rw [if_pos c2] at H
           have aW := decide_eq_true c2
           replace aW : decide (5 < t1) = true := aW
           clear c2
           obtain rfl := Option.some.inj H
           go_wp2
           go_ret
           exact ⟨eqs, bs HB.out⟩
          ·rw [if_neg c2] at H
           have aW : decide (5 < t1) = false := decide_eq_false c2
           clear c2
           replace H := Option.bind_eq_some_iff.mp H
           obtain ⟨t2, aL, H⟩ := H
           have A2 := am aL
           clear aL
           go_wp2_with fail
           refine (spec_l2Edges.calls k3 _ _ D _ _ z x6 t2 _ ?s5 aw.out ?s7 ax.out A2.out).mono ?_
           case s5 => exact Kd.C_below an.out (bs HB.out)
           case s7 => exact Kd.C_below ao.out (bs HB.out)
           rintro e bk ⟨rfl, hb⟩
           clear aT aU
           replace BK := bb BK hb rfl
           replace HB := hs HB hb
           clear hb
           by_cases c3 : t2 > 7
           ·rw [if_pos c3] at H
            have ay := decide_eq_true c3
            replace ay : decide (7 < t2) = true := ay
            clear c3
            obtain rfl := Option.some.inj H
            go_wp2
            go_ret
            exact ⟨eqs, bs HB.out⟩
           ·rw [if_neg c3] at H
            have ay : decide (7 < t2) = false := decide_eq_false c3
            clear c3
            have H' := am H
            clear H
            go_wp2
            go_roundg k3
            case measure => have := HK_.out; omega
            case rel => exact ⟨wrap64 (x6 + 1), eqs, H', ⟨by have := HK_.out; omega⟩, ⟨bf BK.out⟩, ⟨bs HB.out⟩⟩
         ·rw [if_neg c1] at H
          have az : decide (x6 ≤ 7) = false := decide_eq_false c1
          clear c1
          obtain rfl := Option.some.inj H
          go_wp2
          go_ret
          exact ⟨eqs, bs HB.out⟩

end Go.Proofs.Ytohmemckdogljaa.QFnExactGraphDo
