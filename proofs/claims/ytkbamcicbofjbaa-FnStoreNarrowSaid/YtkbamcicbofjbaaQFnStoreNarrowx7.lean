/- Contracts of the Go functions that this law reaches: each does what its plain Lean function says. No condition. -/
import Derived.Test.YtkbamcicbofjbaaQFnStoreNarrowx0
import Derived.Test.YtkbamcicbofjbaaQFnStoreNarrowx6
namespace Go.Proofs.Ytkbamcicbofjbaa.QFnStoreNarrow
open Go.RowKit Go.Proofs.YtkbamcicbofjbaaW.PrintWords Go.Proofs.YtkbamcicbofjbaaW.PrintLast Go.Proofs.YtkbamcicbofjbaaW.PrintMore Go.Proofs.Ytkbamcicbofjbaa.Bl
attribute [local go_sem] max2_int min2_int max_two min_two max_three min_three max_four min_four   -- for this text's walks alone
set_option linter.unusedVariables false
set_option linter.unusedSimpArgs false
set_option maxHeartbeats 8000000
set_option maxRecDepth 100000

/-! ### spec_l4Only: function 28 -/
mutual
def spec_l4Only.l0 : Nat → Int → Int → List (S55) → List (S57) → List (S55) → List (S57) → Option ((List (S55)) × (List (S57)))
 | 0, _, _, _, _, _, _ => none
 | k + 1, D, s, I, y, z, G => if s < (y.length : Int) then (if 0 ≤ s then (if ((rd_T57 y s).f0) = D then (if G.length < 3518437208883 then ((some (G ++ [(⟨(rd_T57 y s).f0, (⟨(rd_T57 y s).f1.f0, (rd_T57 y s).f1.f1⟩ : S55), (⟨(rd_T57 y s).f2.f0, (rd_T57 y s).f2.f1⟩ : S55)⟩ : S57)] : List (S57))).bind fun J => ((spec_l2At.f k z J ((rd_T57 y s).f1.f0) ((rd_T57 y s).f1.f1)).bind fun O => (if O < 0 then ((spec_l2PutNode.f k z J ((rd_T57 y s).f1.f0) ((rd_T57 y s).f1.f1)).bind fun L => (spec_l4Only.j1 k D s I y L.1 L.2)) else (spec_l4Only.j1 k D s I y z J)))) else (none)) else (spec_l4Only.l0 k D (wrap64 (s + 1)) I y z G)) else (none)) else (some (z, G))
def spec_l4Only.j1 : Nat → Int → Int → List (S55) → List (S57) → List (S55) → List (S57) → Option ((List (S55)) × (List (S57)))
 | 0, _, _, _, _, _, _ => none
 | k + 1, G, s, I, y, z, D => if 0 ≤ s then (if s < (y.length : Int) then ((spec_l2At.f k z D ((rd_T57 y s).f2.f0) ((rd_T57 y s).f2.f1)).bind fun L => (if L < 0 then ((spec_l2PutNode.f k z D ((rd_T57 y s).f2.f0) ((rd_T57 y s).f2.f1)).bind fun J => (spec_l4Only.l0 k G (wrap64 (s + 1)) I y J.1 J.2)) else (spec_l4Only.l0 k G (wrap64 (s + 1)) I y z D))) else (none)) else (none)
end
def spec_l4Only.f (k : Nat) (s : List (S55)) (y : List (S57)) (z : Int) : Option ((List (S55)) × (List (S57))) := spec_l4Only.l0 k z 0 s y ([] : List (S55)) ([] : List (S57))
def spec_l4Only.T6 : Bool × List (List Nat × List Nat) := (true, [([], []), ([0], [0]), ([], []), ([2], [2]), ([], []), ([3, 4], [3, 4]), ([5], [5]), ([6], [6]), ([1, 7], [1, 7]), ([0, 1, 2, 3, 4, 5, 6, 7, 8], []), ([9, 8, 8, 0, 1, 2, 3, 4, 5, 6, 7, 8], [8, 9])])
def spec_l4Only.B6 : List Nat := [0, 1, 0, 4, 0, 28, 60, 124, 255, 511, 1023]
theorem spec_l4Only.tab6 : rtab .any (opsOf Try.f28 6) = spec_l4Only.T6 := by kernel_rfl
theorem spec_l4Only.bits6 : waitsOk spec_l4Only.T6.2 spec_l4Only.B6 = true := by kernel_rfl
def spec_l4Only.T7 : Bool × List (List Nat × List Nat) := (true, [([], []), ([], []), ([1], [1]), ([], []), ([2, 3], [2, 3]), ([4], [4]), ([5], [5]), ([0, 6], [0, 6]), ([7], [7])])
def spec_l4Only.B7 : List Nat := [0, 0, 2, 0, 14, 30, 62, 127, 255]
theorem spec_l4Only.tab7 : rtab .any (opsOf Try.f28 7) = spec_l4Only.T7 := by kernel_rfl
theorem spec_l4Only.bits7 : waitsOk spec_l4Only.T7.2 spec_l4Only.B7 = true := by kernel_rfl
def spec_l4Only.T8 : Bool × List (List Nat × List Nat) := (true, [([], []), ([], []), ([1], [1]), ([], []), ([2, 3], [2, 3]), ([4], [4]), ([5], [5]), ([0, 6], [0, 6]), ([7, 7, 0, 1, 2, 3, 4, 5, 6, 7], [7])])
def spec_l4Only.B8 : List Nat := [0, 0, 2, 0, 14, 30, 62, 127, 255]
theorem spec_l4Only.tab8 : rtab .any (opsOf Try.f28 8) = spec_l4Only.T8 := by kernel_rfl
theorem spec_l4Only.bits8 : waitsOk spec_l4Only.T8.2 spec_l4Only.B8 = true := by kernel_rfl
def spec_l4Only.T10 : Bool × List (List Nat × List Nat) := (true, [([], []), ([], []), ([1], [1]), ([], []), ([2, 3], [2, 3]), ([4], [4]), ([5], [5]), ([0, 6], [0, 6]), ([7, 7, 0, 1, 2, 3, 4, 5, 6, 7], [7])])
def spec_l4Only.B10 : List Nat := [0, 0, 2, 0, 14, 30, 62, 127, 255]
theorem spec_l4Only.tab10 : rtab .any (opsOf Try.f28 10) = spec_l4Only.T10 := by kernel_rfl
theorem spec_l4Only.bits10 : waitsOk spec_l4Only.T10.2 spec_l4Only.B10 = true := by kernel_rfl
theorem spec_l4Only.calls (k : Nat) (al : Option Addr) (an : Nat) (ac : List (S55)) (bI : Option Addr) (ao : Nat) (y : List (S57)) (a1 : Int) (r1 : List (S55)) (r2 : List (S57)) (w : World) (cN : Kd.C k55 w al ac.length ac) (cO : ac.length ≤ an) (cP : Kd.C k57 w bI y.length y) (cQ : y.length ≤ ao) (h : spec_l4Only.f k ac y a1 = some (r1, r2)) :
  Calls Try.prog 28 #[.agg #[.slice al ac.length an, .slice bI y.length ao], .int .i64 a1] w fun e w' => ∃ cR cS : Value, e = .returned (.agg #[cR, cS]) ∧ Kd.R k55 55 w' w.heap.size (fun _ => True) cR r1 ∧ Kd.R k57 57 w' w.heap.size (fun _ => True) cS r2 ∧ Below w.heap.size w w' := by
 have hu38 := Try.underlying38
 have hu57 := Try.underlying57
 have hu55 := Try.underlying55
 have ek := am cN
 have el := am cO
 clear cN cO
 have aM := am cP
 have em := am cQ
 clear cP cQ
 have HB := am (Below.refl w.heap.size w)
 have H := h; unfold spec_l4Only.f at H
 clear h
 have H' := am H
 clear H
 go_enter Try.func28, Try.ntmps28
 go_wp2_with (first | ((with_reducible refine gd 2 rfl ?_); refine bx 2 (cs := #[.slice al ac.length an, .slice bI y.length ao]) (t := 38) ?_; intro ak hg w3 hbox hb; have D := am hbox; have en := gwb HB hg; replace HB := hs HB hb; clear hb hbox hg) | ((with_reducible refine gd 4 rfl ?_); refine bx 4 (cs := #[.slice none 0 0, .slice none 0 0]) (t := 38) ?_; intro bJ hg w4 hbox hb; have I := am hbox; have eo := gwb HB hg; replace HB := hs HB hb; have b0 := nq D hg; have b1 := nq' D hg; replace D := bb D hb rfl; clear hb hbox hg) | ((with_reducible refine gd 5 rfl ?_); refine bx 5 (cs := #[.slice none 0 0, .slice none 0 0]) (t := 38) ?_; intro Y hg w5 hbox hb; have z := am hbox; have ep := gwb HB hg; replace HB := hs HB hb; have av := nq D hg; have aw := nq' D hg; replace D := bb D hb rfl; have aY := nq I hg; have aZ := nq' I hg; replace I := bb I hb rfl; clear hb hbox hg; have eq := aw.out; have er := av.out; have es := aZ.out; have et := aY.out; obtain ⟨cT, cU⟩ := bc2 (w := w5) z.out; have cV := blk_frozen z.out))
 go_loopg [6] k (fun kq v6 w' => ∃ (s : Int) (aa : List (S55)) (aN : List (S57)) (ap : Value) (aq : Value), v6 = .int .i64 s ∧ Aside0 (spec_l4Only.l0 kq a1 s ac y aa aN = some (r1, r2)) ∧ Aside0 (kq ≤ k) ∧ Aside0 (Kd.R k55 55 w' w.heap.size (fun _ => True) ap aa) ∧ Aside0 (Kd.R k57 57 w' w.heap.size (fun _ => True) aq aN) ∧ Aside0 (w'.heap[ak]? = some (.cells #[(.slice al ac.length an), (.slice bI y.length ao)] 38 (0, 0))) ∧ Aside0 (w'.heap[bJ]? = some (.cells #[(.slice none 0 0), (.slice none 0 0)] 38 (0, 0))) ∧ Aside0 (w'.heap[Y]? = some (.cells #[ap, aq] 38 (0, 0))) ∧ Aside0 (Below w.heap.size w w'))
 case atStart => exact ⟨(0), (([] : List (S55))), (([] : List (S57))), (.slice none 0 0), (.slice none 0 0), eqs, H', ⟨Nat.le_refl _⟩, ⟨by first | exact Kd.R_nil _ _ _ _ _ | exact Kd.N_nil _ _ _ _ _ | exact Kd.V_nil _ _ _ _ _ | exact Kd.Q_nil _ _ _ _ _ | exact Kd.S_nil _ _ _ _ _⟩, ⟨by first | exact Kd.R_nil _ _ _ _ _ | exact Kd.N_nil _ _ _ _ _ | exact Kd.V_nil _ _ _ _ _ | exact Kd.Q_nil _ _ _ _ _ | exact Kd.S_nil _ _ _ _ _⟩, ⟨bf D.out⟩, ⟨bf I.out⟩, ⟨by (with_reducible repeat (first | refine blk_drewN ?_ _ | refine blk_drew ?_ | refine blk_alloc ?_ _)); refine blk_put (cs := #[.slice none 0 0, .slice none 0 0]) ?_ 1 _ rfl; (with_reducible repeat (first | refine blk_drewN ?_ _ | refine blk_drew ?_ | refine blk_alloc ?_ _)); refine blk_put (cs := #[.slice none 0 0, .slice none 0 0]) ?_ 0 _ rfl; exact bf z.out⟩, ⟨bs HB.out⟩⟩
 case round =>
  clear H'
  try clear c2
  try clear p2
  try clear c6
  try clear c7
  try clear cT cU
  try clear cV
  obtain ⟨s, aa, aN, ap, aq, rfl, HA, aQ, J, O, D, I, z, HB⟩ := hrel
  cases gk with
  | zero => exact absurd HA.out (by simp [spec_l4Only.l0])
  | succ k1 =>
   have H := HA.out
   clear HA
   simp only [spec_l4Only.l0] at H
   by_cases c9 : s < (y.length : Int)
   ·rw [if_pos c9] at H
    have cW : decide (s < (y.length : Int)) = true := decide_eq_true c9
    clear c9
    by_cases bh : 0 ≤ s
    ·rw [if_pos bh] at H
     have dP : decide (0 ≤ s) = true := decide_eq_true bh
     clear bh
     by_cases aR : ((rd_T57 y s).f0) = a1
     ·rw [if_pos aR] at H
      have cX : (((rd_T57 y s).f0) == a1) = true := beq_iff_eq.mpr aR
      have cY : (((rd_T57 y s).f0) != a1) = false := bne_eq_false_iff_eq.mpr aR
      clear aR
      by_cases bi : aN.length < 3518437208883
      ·rw [if_pos bi] at H
       have dQ := am bi
       clear bi
       obtain ⟨Z, b2⟩ : ∃ y_ : List (S57), y_ = (aN ++ [(⟨(rd_T57 y s).f0, (⟨(rd_T57 y s).f1.f0, (rd_T57 y s).f1.f1⟩ : S55), (⟨(rd_T57 y s).f2.f0, (rd_T57 y s).f2.f1⟩ : S55)⟩ : S57)]) := ⟨_, rfl⟩
       replace H : ((spec_l2At.f k1 aa Z ((rd_T57 y s).f1.f0) ((rd_T57 y s).f1.f1)).bind fun a6 => (if a6 < 0 then ((spec_l2PutNode.f k1 aa Z ((rd_T57 y s).f1.f0) ((rd_T57 y s).f1.f1)).bind fun cZ => (spec_l4Only.j1 k1 a1 s ac y cZ.1 cZ.2)) else (spec_l4Only.j1 k1 a1 s ac y aa Z))) = some (r1, r2) := by first | (rw [b2]; exact H) | exact H
       have dR := am b2
       clear b2
       replace H := Option.bind_eq_some_iff.mp H
       obtain ⟨a6, c0, H⟩ := H
       try dsimp -simprocs only at H
       have dS := am c0
       clear c0
       have b3 := am H
       clear H
       have eu := b0.out
       have ev := b1.out
       have ew := av.out
       have ex := aw.out
       obtain ⟨dT, dU⟩ := bc2 (w := wr) D.out
       have dV := blk_frozen D.out
       have aT : 0 ≤ (s : Int) := oda
       have aU : s < (y.length : Int) := oda
       obtain ⟨G, b4, a7, a8, a9, ba, bc⟩ := at_T57 aM.out s aT aU
       cases b4
       replace a7 := cb HB a7
       replace a8 := cb HB a8
       replace a9 := cb HB a9
       replace ba := cb HB ba
       replace bc := cb HB bc
       replace aT := eq_true aT
       replace aU := eq_true aU
       try go_wp2
       replace J := rd_ J
       replace O := rd_ O
       replace D := bd D
       replace I := bd I
       replace z := bd z
       replace HB := hd HB
       have bK : 0 ≤ (s : Int) := oda
       have bL : s < (y.length : Int) := oda
       obtain ⟨dW, dX, bj, bk, bl, bm, bn⟩ := at_T57 aM.out s bK bL
       have b5 := bn
       have b6 := bm
       have b7 := bl
       have b8 := bk
       have b9 := bj
       obtain rfl : G = dW := (by injection dX)
       replace bj := cb HB bj
       replace bk := cb HB bk
       replace bl := cb HB bl
       replace bm := cb HB bm
       replace bn := cb HB bn
       replace bK := eq_true bK
       replace bL := eq_true bL
       refine sta 11 (fun w' => w'.cell? ⟨Y, 0, none⟩ = some (ap) ∧ w'.cell? ⟨Y, 1, none⟩ = some (aq) ∧ w'.cell? ⟨ak, 0, none⟩ = some (.slice al ac.length an) ∧ w'.cell? ⟨ak, 1, none⟩ = some (.slice (some G) y.length ao) ∧ w'.cell? (G.add ((s).toNat * 5)) = some (.int .i64 ((rd_T57 y s).f0)) ∧ w'.cell? ⟨(G.add ((s).toNat * 5)).block, (G.add ((s).toNat * 5)).off + 1, none⟩ = some (.int .i64 ((rd_T57 y s).f1.f0)) ∧ w'.cell? ⟨(G.add ((s).toNat * 5)).block, (G.add ((s).toNat * 5)).off + 2, none⟩ = some (.int .i64 ((rd_T57 y s).f1.f1)) ∧ w'.cell? ⟨(G.add ((s).toNat * 5)).block, (G.add ((s).toNat * 5)).off + 3, none⟩ = some (.int .i64 ((rd_T57 y s).f2.f0)) ∧ w'.cell? ⟨(G.add ((s).toNat * 5)).block, (G.add ((s).toNat * 5)).off + 4, none⟩ = some (.int .i64 ((rd_T57 y s).f2.f1))) [10] ⟨cx z 0, cx z 1, cx D 0, cx D 1, (cb HB b9), (cb HB b8), (cb HB b7), (cb HB b6), (cb HB b5)⟩ (fun hHeld => ?_); refine with_tabW spec_l4Only.tab6 spec_l4Only.bits6 (fun HT_ HW_ => ?_)
       generalize wr.drew = ey at J O D I z HB bj bk bl bm bn hHeld ⊢
       refine pu 0 23 ?_
       refine pu 2 25 ?_
       refine pu 4 27 ?_
       refine tk 1 24 ?_
       refine tk 3 26 ?_
       refine pu 5 28 ?_
       refine tk 6 29 ?_
       refine on 7 30 (fun K hK => ?_)
       refine va ?_
       refine hK.out _ _ ⟨cx z 0, cx z 1, cx D 0, cx D 1, ca (cb HB b9), ca (cb HB b8), ca (cb HB b7), ca (cb HB b6), ca (cb HB b5)⟩ (fun hHeld => ?_)
       clear hK K
       refine nrm 30 ?_
       refine on 8 31 (fun K hK => ?_)
       refine Kd.R_append_step k57 (w0 := w) w.heap.size (by rfl) (.tmp 24) (.tmp 30) 36 57 (.agg #[(.int .i64 0), (.int .i64 0), (.int .i64 0), (.int .i64 0), (.int .i64 0)]) 40 rfl Try.underlying36 info57 rfl (by decide) (by omega) aq aN (⟨(rd_T57 y s).f0, (⟨(rd_T57 y s).f1.f0, (rd_T57 y s).f1.f1⟩ : S55), (⟨(rd_T57 y s).f2.f0, (rd_T57 y s).f2.f1⟩ : S55)⟩ : S57) [.int .i64 ((rd_T57 y s).f0), .int .i64 ((rd_T57 y s).f1.f0), .int .i64 ((rd_T57 y s).f1.f1), .int .i64 ((rd_T57 y s).f2.f0), .int .i64 ((rd_T57 y s).f2.f1)] (fun _ => True) (fun _ => False) rfl rfl ?aP (fun _ hk => hk.elim) ?aF ?aO ?aB ?aS ?aL ?_
       (case aP => exact k57_mkM _ _ _ (⟨(rd_T57 y s).f0, (⟨(rd_T57 y s).f1.f0, (rd_T57 y s).f1.f1⟩ : S55), (⟨(rd_T57 y s).f2.f0, (rd_T57 y s).f2.f1⟩ : S55)⟩ : S57))
       (case aB => exact (bs HB.out))
       (case aF => exact (fun _ _ => trivial))
       (case aO => exact (rl O.out))
       (case aS => exact (below_size (bs HB.out)))
       (case aL => have := dQ.out; omega)
       intro ez aV ho hb hg hat
       rw [← dR.out] at ho
       replace J := am (Kd.R_over' (rl J.out) (Kd.R_typed (rl O.out)) (by decide) hg)
       replace D := gr D O hg
       replace I := gr I O hg
       replace z := gr z O hg
       replace HB := am hb
       have ab := am ho
       clear O
       clear ho hb hg hat
       obtain ⟨ad, ae, c8⟩ := Kd.R_slice ab.out
       (first | subst c8 | (injection c8 with T af X; have ag := T.symm; have ah := X.symm; clear T af X; subst ag; subst ah))
       refine hK.out _ _ ⟨cx z 0, cx z 1, cx D 0, cx D 1, (cb HB b9), (cb HB b8), (cb HB b7), (cb HB b6), (cb HB b5)⟩ (fun hHeld => ?_)
       clear hK K
       refine nrm 31 ?_
       refine pu 9 32 ?_
       refine la0 10 (fun K hK => ?_)
       have eA : aV.cell? ⟨Y, 1, none⟩ = some (aq) := cx z 1
       have eB := blk_frozen z.out 1
       have eC := av.out
       have eD := aY.out
       have eE := aw.out
       have eF := aZ.out
       refine sk ?_
       refine hK.out _ _ ?_
       clear hK K
       refine dn ?_
       try go_wp2
       have ce : Aside0 (Kd.R k55 55 (aV.setCell ⟨Y, 1, none⟩ (.slice ad Z.length ae)) w.heap.size (fun _ => True) ap aa) := ⟨Kd.R_mono (rt J.out z.out (by decide)) (fun _ hk => trivial)⟩
       have cf : Aside0 (Kd.R k57 57 (aV.setCell ⟨Y, 1, none⟩ (.slice ad Z.length ae)) w.heap.size (fun _ => True) (.slice ad Z.length ae) Z) := ⟨Kd.R_mono (rt ab.out z.out (by decide)) (fun _ hk => trivial)⟩
       have cg : Aside0 ((aV.setCell ⟨Y, 1, none⟩ (.slice ad Z.length ae)).heap[ak]? = some (.cells #[.slice al ac.length an, .slice (some G) y.length ao] 38 (0, 0))) := ⟨bf D.out⟩
       have ch : Aside0 ((aV.setCell ⟨Y, 1, none⟩ (.slice ad Z.length ae)).heap[bJ]? = some (.cells #[.slice none 0 0, .slice none 0 0] 38 (0, 0))) := ⟨bf I.out⟩
       have ci : Aside0 ((aV.setCell ⟨Y, 1, none⟩ (.slice ad Z.length ae)).heap[Y]? = some (.cells #[ap, .slice ad Z.length ae] 38 (0, 0))) := ⟨by (with_reducible repeat (first | refine blk_drewN ?_ _ | refine blk_drew ?_ | refine blk_alloc ?_ _)); refine blk_put (cs := #[ap, aq]) ?_ 1 _ rfl; exact bf z.out⟩
       have cj : Aside0 (Below w.heap.size w (aV.setCell ⟨Y, 1, none⟩ (.slice ad Z.length ae))) := ⟨bs HB.out⟩
       (try clear J)
       (try clear ab)
       (try clear D)
       (try clear I)
       (try clear z)
       (try clear HB)
       generalize (aV.setCell ⟨Y, 1, none⟩ (.slice ad Z.length ae)) = dY at ce cf cg ch ci cj ⊢
       have J := ce
       have ab := cf
       have D := cg
       have I := ch
       have z := ci
       have HB := cj
       clear ce cf cg ch ci cj
       replace J := rd_ J
       replace ab := rd_ ab
       replace D := bd D
       replace I := bd I
       replace z := bd z
       replace HB := hd HB
       have bM : 0 ≤ (s : Int) := oda
       have bN : s < (y.length : Int) := oda
       obtain ⟨dZ, d0, bo, br, bt, bu, bv⟩ := at_T57 aM.out s bM bN
       have da := bv
       have db := bu
       have dc := bt
       have dd := br
       have de := bo
       obtain rfl : G = dZ := (by injection d0)
       replace bo := cb HB bo
       replace br := cb HB br
       replace bt := cb HB bt
       replace bu := cb HB bu
       replace bv := cb HB bv
       replace bM := eq_true bM
       replace bN := eq_true bN
       obtain ⟨ax, ay, df⟩ := Kd.R_slice J.out
       (first | subst df | (injection df with T af X; have ag := T.symm; have ah := X.symm; clear T af X; subst ag; subst ah))
       refine sta 9 (fun w' => w'.cell? ⟨Y, 0, none⟩ = some (.slice ax aa.length ay) ∧ w'.cell? ⟨Y, 1, none⟩ = some (.slice ad Z.length ae) ∧ w'.cell? ⟨ak, 0, none⟩ = some (.slice al ac.length an) ∧ w'.cell? ⟨ak, 1, none⟩ = some (.slice (some G) y.length ao) ∧ w'.cell? (G.add ((s).toNat * 5)) = some (.int .i64 ((rd_T57 y s).f0)) ∧ w'.cell? ⟨(G.add ((s).toNat * 5)).block, (G.add ((s).toNat * 5)).off + 1, none⟩ = some (.int .i64 ((rd_T57 y s).f1.f0)) ∧ w'.cell? ⟨(G.add ((s).toNat * 5)).block, (G.add ((s).toNat * 5)).off + 2, none⟩ = some (.int .i64 ((rd_T57 y s).f1.f1)) ∧ w'.cell? ⟨(G.add ((s).toNat * 5)).block, (G.add ((s).toNat * 5)).off + 3, none⟩ = some (.int .i64 ((rd_T57 y s).f2.f0)) ∧ w'.cell? ⟨(G.add ((s).toNat * 5)).block, (G.add ((s).toNat * 5)).off + 4, none⟩ = some (.int .i64 ((rd_T57 y s).f2.f1))) [] ⟨cx z 0, cx z 1, cx D 0, cx D 1, (cb HB de), (cb HB dd), (cb HB dc), (cb HB db), (cb HB da)⟩ (fun hHeld => ?_); refine with_tabW spec_l4Only.tab7 spec_l4Only.bits7 (fun HT_ HW_ => ?_)
       generalize dY.drew = eG at J ab D I z HB bo br bt bu bv hHeld ⊢
       refine pu 1 34 ?_
       refine pu 3 36 ?_
       refine tk 0 33 ?_
       refine tk 2 35 ?_
       refine pu 4 37 ?_
       refine pu 5 38 ?_
       refine tk 6 39 ?_
       refine on 7 40 (fun K hK => ?_)
       refine gs Try.func43 #[.agg #[.slice ax aa.length ay, .slice ad Z.length ae], .agg #[.int .i64 ((rd_T57 y s).f1.f0), .int .i64 ((rd_T57 y s).f1.f1)]] ?_
       with_reducible refine (spec_l2At.calls k1 _ _ aa _ _ Z ((rd_T57 y s).f1.f0) ((rd_T57 y s).f1.f1) a6 _ ?az ?aA ?aC ?bw dS.out).mono ?_
       (case az => exact cr J)
       (case aA => exact cc J)
       (case aC => exact cr ab)
       (case bw => exact cc ab)
       rintro e d1 ⟨rfl, hb⟩
       refine ⟨_, rfl, ?_⟩
       replace J := rb J hb
       replace ab := rb ab hb
       replace D := bb D hb rfl
       replace I := bb I hb rfl
       replace z := bb z hb rfl
       replace HB := hs HB hb
       (try clear hb)
       (try clear hb2)
       (try clear hk)
       (try clear hi)
       refine hK.out _ _ ⟨cx z 0, cx z 1, cx D 0, cx D 1, (cb HB de), (cb HB dd), (cb HB dc), (cb HB db), (cb HB da)⟩ (fun hHeld => ?_)
       clear hK K
       refine nrm 40 ?_
       refine pu 8 41 ?_
       refine dn ?_
       go_upto_if 41 with (fail)
       go_cut [] (fun wc => ∃ (kq : Nat) (aj : List (S55)) (ai : List (S57)) (ap : Value) (aq : Value), Aside0 (spec_l4Only.j1 kq a1 s ac y aj ai = some (r1, r2)) ∧ Aside0 (kq ≤ k1) ∧ Aside0 (Kd.R k55 55 wc w.heap.size (fun _ => True) ap aj) ∧ Aside0 (Kd.R k57 57 wc w.heap.size (fun _ => True) aq ai) ∧ Aside0 (wc.heap[ak]? = some (.cells #[(.slice al ac.length an), (.slice (some G) y.length ao)] 38 (0, 0))) ∧ Aside0 (wc.heap[bJ]? = some (.cells #[(.slice none 0 0), (.slice none 0 0)] 38 (0, 0))) ∧ Aside0 (wc.heap[Y]? = some (.cells #[ap, aq] 38 (0, 0))) ∧ Aside0 (Below w.heap.size w wc))
       case first =>
        have H := b3.out
        clear b3
        by_cases a3 : a6 < 0
        ·rw [if_pos a3] at H
         have be : decide (a6 < 0) = true := decide_eq_true a3
         clear a3
         (first | rw [be] | (simp only [i64_w, i32_w]; rw [be]) | skip)
         replace H := Option.bind_eq_some_iff.mp H
         obtain ⟨⟨bO, ck⟩, dg, H⟩ := H
         try dsimp -simprocs only at H
         have d2 := am dg
         clear dg
         have H' := am H
         clear H
         try go_wp2
         replace J := rd_ J
         replace ab := rd_ ab
         replace D := bd D
         replace I := bd I
         replace z := bd z
         replace HB := hd HB
         have bP : 0 ≤ (s : Int) := oda
         have bQ : s < (y.length : Int) := oda
         obtain ⟨d3, d4, bz, bA, bB, bC, bD⟩ := at_T57 aM.out s bP bQ
         have dh := bD
         have di := bC
         have dj := bB
         have dk := bA
         have dl := bz
         obtain rfl : G = d3 := (by injection d4)
         replace bz := cb HB bz
         replace bA := cb HB bA
         replace bB := cb HB bB
         replace bC := cb HB bC
         replace bD := cb HB bD
         replace bP := eq_true bP
         replace bQ := eq_true bQ
         refine sta 9 (fun w' => w'.cell? ⟨Y, 0, none⟩ = some (.slice ax aa.length ay) ∧ w'.cell? ⟨Y, 1, none⟩ = some (.slice ad Z.length ae) ∧ w'.cell? ⟨ak, 0, none⟩ = some (.slice al ac.length an) ∧ w'.cell? ⟨ak, 1, none⟩ = some (.slice (some G) y.length ao) ∧ w'.cell? (G.add ((s).toNat * 5)) = some (.int .i64 ((rd_T57 y s).f0)) ∧ w'.cell? ⟨(G.add ((s).toNat * 5)).block, (G.add ((s).toNat * 5)).off + 1, none⟩ = some (.int .i64 ((rd_T57 y s).f1.f0)) ∧ w'.cell? ⟨(G.add ((s).toNat * 5)).block, (G.add ((s).toNat * 5)).off + 2, none⟩ = some (.int .i64 ((rd_T57 y s).f1.f1)) ∧ w'.cell? ⟨(G.add ((s).toNat * 5)).block, (G.add ((s).toNat * 5)).off + 3, none⟩ = some (.int .i64 ((rd_T57 y s).f2.f0)) ∧ w'.cell? ⟨(G.add ((s).toNat * 5)).block, (G.add ((s).toNat * 5)).off + 4, none⟩ = some (.int .i64 ((rd_T57 y s).f2.f1))) [8] ⟨cx z 0, cx z 1, cx D 0, cx D 1, (cb HB dl), (cb HB dk), (cb HB dj), (cb HB di), (cb HB dh)⟩ (fun hHeld => ?_); refine with_tabW spec_l4Only.tab8 spec_l4Only.bits8 (fun HT_ HW_ => ?_)
         generalize d1.drew = eH at J ab D I z HB bz bA bB bC bD hHeld ⊢
         refine pu 1 43 ?_
         refine pu 3 45 ?_
         refine tk 0 42 ?_
         refine tk 2 44 ?_
         refine pu 4 46 ?_
         refine pu 5 47 ?_
         refine tk 6 48 ?_
         refine on 7 49 (fun K hK => ?_)
         refine gs Try.func36 #[.agg #[.slice ax aa.length ay, .slice ad Z.length ae], .agg #[.int .i64 ((rd_T57 y s).f1.f0), .int .i64 ((rd_T57 y s).f1.f1)]] ?_
         with_reducible refine (spec_l2PutNode.calls k1 (fun k_ => some k_ = (.slice ax aa.length ay : Value).ownBlock) (.slice ax aa.length ay) aa (fun k_ => some k_ = (.slice ad Z.length ae : Value).ownBlock) (.slice ad Z.length ae) Z ((rd_T57 y s).f1.f0) ((rd_T57 y s).f1.f1) bO ck w _ ?az ?aA ?aC d2.out).mono ?_
         (case az => exact bs HB.out)
         (case aA => exact Kd.R_tight rfl J.out)
         (case aC => exact Kd.R_tight rfl ab.out)
         rintro e dm ⟨eI, eJ, rfl, bE, bF, hb, hkp⟩
         refine ⟨_, rfl, ?_⟩
         replace D := am (blk_kept (bf D.out) hkp (fun hs_ => Or.elim hs_ (fun e_ => (fun e_ => (Kd.R_ne J.out D.out (by decide)) e_) e_) (fun e_ => (fun e_ => (Kd.R_ne ab.out D.out (by decide)) e_) e_)))
         replace I := am (blk_kept (bf I.out) hkp (fun hs_ => Or.elim hs_ (fun e_ => (fun e_ => (Kd.R_ne J.out I.out (by decide)) e_) e_) (fun e_ => (fun e_ => (Kd.R_ne ab.out I.out (by decide)) e_) e_)))
         replace z := am (blk_kept (bf z.out) hkp (fun hs_ => Or.elim hs_ (fun e_ => (fun e_ => (Kd.R_ne J.out z.out (by decide)) e_) e_) (fun e_ => (fun e_ => (Kd.R_ne ab.out z.out (by decide)) e_) e_)))
         have dp := am (Kd.R_mono (ok' := fun k_ => True) bE (fun k_ hk_ => trivial))
         have dq := am (Kd.R_mono (ok' := fun k_ => True) bF (fun k_ hk_ => trivial))
         replace HB := am hb
         clear ab J
         (try clear hb)
         (try clear hkp)
         (try clear bE)
         (try clear bF)
         obtain ⟨dr, dt, du⟩ := Kd.R_slice dp.out
         (first | subst du | (injection du with T af X; have ag := T.symm; have ah := X.symm; clear T af X; subst ag; subst ah))
         obtain ⟨d5, d6, dv⟩ := Kd.R_slice dq.out
         (first | subst dv | (injection dv with T af X; have ag := T.symm; have ah := X.symm; clear T af X; subst ag; subst ah))
         refine hK.out _ _ ⟨cx z 0, cx z 1, cx D 0, cx D 1, (cb HB dl), (cb HB dk), (cb HB dj), (cb HB di), (cb HB dh)⟩ (fun hHeld => ?_)
         clear hK K
         refine nrm 49 ?_
         refine la0 8 (fun K hK => ?_)
         have eK : dm.cell? ⟨Y, 0, none⟩ = some (.slice ax aa.length ay) := cx z 0
         have eL := blk_frozen z.out 0
         have eM := av.out
         have eN := aY.out
         have eO := aw.out
         have eP := aZ.out
         have eQ : dm.cell? ⟨Y, 1, none⟩ = some (.slice ad Z.length ae) := cx z 1
         have eR := blk_frozen z.out 1
         have eS := av.out
         have eT := aY.out
         have eU := aw.out
         have eV := aZ.out
         refine sk ?_
         refine hK.out _ _ ?_
         clear hK K
         refine dn ?_
         try go_wp2
         go_meet
         case rel => exact ⟨_, (bO), (ck), (.slice dr bO.length dt), (.slice d5 ck.length d6), H', ⟨by have := aQ.out; first | omega | exact Nat.le_refl _⟩, ⟨Kd.R_mono (rt dp.out z.out (by decide)) (fun _ hk => trivial)⟩, ⟨Kd.R_mono (rt dq.out z.out (by decide)) (fun _ hk => trivial)⟩, ⟨bf D.out⟩, ⟨bf I.out⟩, ⟨by (with_reducible repeat (first | refine blk_drewN ?_ _ | refine blk_drew ?_ | refine blk_alloc ?_ _)); refine blk_put (cs := #[.slice dr bO.length dt, .slice ad Z.length ae]) ?_ 1 _ rfl; (with_reducible repeat (first | refine blk_drewN ?_ _ | refine blk_drew ?_ | refine blk_alloc ?_ _)); refine blk_put (cs := #[.slice ax aa.length ay, .slice ad Z.length ae]) ?_ 0 _ rfl; exact bf z.out⟩, ⟨bs HB.out⟩⟩
        ·rw [if_neg a3] at H
         have be : decide (a6 < 0) = false := decide_eq_false a3
         clear a3
         (first | rw [be] | (simp only [i64_w, i32_w]; rw [be]) | skip)
         have H' := am H
         clear H
         go_wp2
         go_meet
         case rel => exact ⟨_, (aa), (Z), (.slice ax aa.length ay), (.slice ad Z.length ae), H', ⟨by have := aQ.out; first | omega | exact Nat.le_refl _⟩, ⟨rl J.out⟩, ⟨rl ab.out⟩, ⟨bf D.out⟩, ⟨bf I.out⟩, ⟨bf z.out⟩, ⟨bs HB.out⟩⟩
       case rest =>
        clear b3
        try clear c1
        try clear c2
        try clear p2
        try clear q2
        try clear eW
        try clear c3
        try clear c4
        try clear c6
        try clear c7
        try clear c9
        try clear cW
        try clear bh
        try clear dP
        try clear aR
        try clear cX
        try clear cY
        try clear bi
        try clear eX
        try clear eY
        try clear eZ
        try clear e0
        try clear e1
        try clear e2
        try clear e3
        try clear e4
        try clear a3
        try clear be
        try clear e5
        try clear dT dU
        try clear cT cU
        try clear dV
        try clear cV
        try clear a7
        try clear a8
        try clear a9
        try clear ba
        try clear bc
        try clear bj
        try clear bk
        try clear bl
        try clear bm
        try clear bn
        try clear bo
        try clear br
        try clear bt
        try clear bu
        try clear bv
        try clear bz
        try clear bA
        try clear bB
        try clear bC
        try clear bD
        try clear p2
        try clear aT
        try clear bK
        try clear bM
        try clear bP
        try clear aU
        try clear bL
        try clear bN
        try clear bQ
        obtain ⟨kq, aj, ai, ap, aq, HA, bR, J, O, D, I, z, HB⟩ := hcut
        cases kq with
        | zero => exact absurd HA.out (by simp [spec_l4Only.j1])
        | succ bG =>
         have H := HA.out
         clear HA
         simp only [spec_l4Only.j1] at H
         by_cases bS : 0 ≤ s
         ·rw [if_pos bS] at H
          have e6 : decide (0 ≤ s) = true := decide_eq_true bS
          clear bS
          by_cases bT : s < (y.length : Int)
          ·rw [if_pos bT] at H
           have e7 : decide (s < (y.length : Int)) = true := decide_eq_true bT
           clear bT
           replace H := Option.bind_eq_some_iff.mp H
           obtain ⟨bH, dw, H⟩ := H
           try dsimp -simprocs only at H
           have dx := am dw
           clear dw
           by_cases bg : bH < 0
           ·rw [if_pos bg] at H
            have d7 : decide (bH < 0) = true := decide_eq_true bg
            clear bg
            replace H := Option.bind_eq_some_iff.mp H
            obtain ⟨⟨bU, cl⟩, dy, H⟩ := H
            try dsimp -simprocs only at H
            have d8 := am dy
            clear dy
            have H' := am H
            clear H
            try go_wp2
            replace J := rd_ J
            replace O := rd_ O
            replace D := bd D
            replace I := bd I
            replace z := bd z
            replace HB := hd HB
            have a4 : 0 ≤ (s : Int) := oda
            have a5 : s < (y.length : Int) := oda
            obtain ⟨cm, cn, aD, aE, aG, aH, aI⟩ := at_T57 aM.out s a4 a5
            have co := aI
            have cp := aH
            have ct := aG
            have cu := aE
            have cv := aD
            obtain rfl : G = cm := (by injection cn)
            replace aD := cb HB aD
            replace aE := cb HB aE
            replace aG := cb HB aG
            replace aH := cb HB aH
            replace aI := cb HB aI
            replace a4 := eq_true a4
            replace a5 := eq_true a5
            obtain ⟨aW, aX, dz⟩ := Kd.R_slice J.out
            (first | subst dz | (injection dz with T af X; have ag := T.symm; have ah := X.symm; clear T af X; subst ag; subst ah))
            obtain ⟨aJ, aK, dA⟩ := Kd.R_slice O.out
            (first | subst dA | (injection dA with T af X; have ag := T.symm; have ah := X.symm; clear T af X; subst ag; subst ah))
            refine wp_region_bel (by kernel_rfl) (by kernel_rfl) ?_
            generalize wc.drew = ar at J O D I z HB aD aE aG aH aI ⊢
            have hbp_ := fun (p_ : Bel ar) => below_step HB.out p_.h
            have cy : ∀ p_ : Bel ar, p_.v.cell? ⟨Y, 0, none⟩ = some (.slice aW aj.length aX) := fun p_ => cell_bel (cx z 0) p_
            have cz : ∀ p_ : Bel ar, p_.v.cell? ⟨Y, 1, none⟩ = some (.slice aJ ai.length aK) := fun p_ => cell_bel (cx z 1) p_
            have cA : ∀ p_ : Bel ar, p_.v.cell? ⟨ak, 0, none⟩ = some (.slice al ac.length an) := fun p_ => cell_bel (cx D 0) p_
            have cB : ∀ p_ : Bel ar, p_.v.cell? ⟨ak, 1, none⟩ = some (.slice (some G) y.length ao) := fun p_ => cell_bel (cx D 1) p_
            have cC : ∀ p_ : Bel ar, p_.v.cell? (G.add ((s).toNat * 5)) = some (.int .i64 ((rd_T57 y s).f0)) := fun p_ => cell_bel ((cb HB cv)) p_
            have cD : ∀ p_ : Bel ar, p_.v.cell? ⟨(G.add ((s).toNat * 5)).block, (G.add ((s).toNat * 5)).off + 1, none⟩ = some (.int .i64 ((rd_T57 y s).f1.f0)) := fun p_ => cell_bel ((cb HB cu)) p_
            have cE : ∀ p_ : Bel ar, p_.v.cell? ⟨(G.add ((s).toNat * 5)).block, (G.add ((s).toNat * 5)).off + 2, none⟩ = some (.int .i64 ((rd_T57 y s).f1.f1)) := fun p_ => cell_bel ((cb HB ct)) p_
            have cF : ∀ p_ : Bel ar, p_.v.cell? ⟨(G.add ((s).toNat * 5)).block, (G.add ((s).toNat * 5)).off + 3, none⟩ = some (.int .i64 ((rd_T57 y s).f2.f0)) := fun p_ => cell_bel ((cb HB cp)) p_
            have cG : ∀ p_ : Bel ar, p_.v.cell? ⟨(G.add ((s).toNat * 5)).block, (G.add ((s).toNat * 5)).off + 4, none⟩ = some (.int .i64 ((rd_T57 y s).f2.f1)) := fun p_ => cell_bel ((cb HB co)) p_
            repeat (go_big_quiet_step (first
             | (with_reducible show Calls Try.prog 43 #[.agg #[.slice aW aj.length aX, .slice aJ ai.length aK], .agg #[.int .i64 ((rd_T57 y s).f2.f0), .int .i64 ((rd_T57 y s).f2.f1)]] _ _; with_reducible refine calls_bel (spec_l2At.calls bG _ _ aj _ _ ai ((rd_T57 y s).f2.f0) ((rd_T57 y s).f2.f1) bH _ ?az ?aA ?aC ?bw dx.out); (case az => exact cr J); (case aA => exact cc J); (case aC => exact cr O); (case bw => exact cc O))))
            refine wpQuiet_nil ?_
            intro d9 hw'
            obtain ⟨⟨wq_, hb⟩, hw''⟩ := hw'
            subst hw''
            clear hbp_ cy cz cA cB cC cD cE cF cG
            replace J := rb J hb
            replace O := rb O hb
            replace D := bb D hb rfl
            replace I := bb I hb rfl
            replace z := bb z hb rfl
            replace HB := hs HB hb
            (try clear hb)
            (try clear hb2)
            (try clear hk)
            (try clear hi)
            try go_wp2
            replace J := rd_ J
            replace O := rd_ O
            replace D := bd D
            replace I := bd I
            replace z := bd z
            replace HB := hd HB
            have cH : 0 ≤ (s : Int) := oda
            have cI : s < (y.length : Int) := oda
            obtain ⟨ea, eb, bV, bW, bX, bY, bZ⟩ := at_T57 aM.out s cH cI
            have dB := bZ
            have dC := bY
            have dD := bX
            have dE := bW
            have dF := bV
            obtain rfl : G = ea := (by injection eb)
            replace bV := cb HB bV
            replace bW := cb HB bW
            replace bX := cb HB bX
            replace bY := cb HB bY
            replace bZ := cb HB bZ
            replace cH := eq_true cH
            replace cI := eq_true cI
            refine sta 9 (fun w' => w'.cell? ⟨Y, 0, none⟩ = some (.slice aW aj.length aX) ∧ w'.cell? ⟨Y, 1, none⟩ = some (.slice aJ ai.length aK) ∧ w'.cell? ⟨ak, 0, none⟩ = some (.slice al ac.length an) ∧ w'.cell? ⟨ak, 1, none⟩ = some (.slice (some G) y.length ao) ∧ w'.cell? (G.add ((s).toNat * 5)) = some (.int .i64 ((rd_T57 y s).f0)) ∧ w'.cell? ⟨(G.add ((s).toNat * 5)).block, (G.add ((s).toNat * 5)).off + 1, none⟩ = some (.int .i64 ((rd_T57 y s).f1.f0)) ∧ w'.cell? ⟨(G.add ((s).toNat * 5)).block, (G.add ((s).toNat * 5)).off + 2, none⟩ = some (.int .i64 ((rd_T57 y s).f1.f1)) ∧ w'.cell? ⟨(G.add ((s).toNat * 5)).block, (G.add ((s).toNat * 5)).off + 3, none⟩ = some (.int .i64 ((rd_T57 y s).f2.f0)) ∧ w'.cell? ⟨(G.add ((s).toNat * 5)).block, (G.add ((s).toNat * 5)).off + 4, none⟩ = some (.int .i64 ((rd_T57 y s).f2.f1))) [8] ⟨cx z 0, cx z 1, cx D 0, cx D 1, (cb HB dF), (cb HB dE), (cb HB dD), (cb HB dC), (cb HB dB)⟩ (fun hHeld => ?_); refine with_tabW spec_l4Only.tab10 spec_l4Only.bits10 (fun HT_ HW_ => ?_)
            generalize d9.drew = e8 at J O D I z HB bV bW bX bY bZ hHeld ⊢
            refine pu 1 60 ?_
            refine pu 3 62 ?_
            refine tk 0 59 ?_
            refine tk 2 61 ?_
            refine pu 4 63 ?_
            refine pu 5 64 ?_
            refine tk 6 65 ?_
            refine on 7 66 (fun K hK => ?_)
            refine gs Try.func36 #[.agg #[.slice aW aj.length aX, .slice aJ ai.length aK], .agg #[.int .i64 ((rd_T57 y s).f2.f0), .int .i64 ((rd_T57 y s).f2.f1)]] ?_
            with_reducible refine (spec_l2PutNode.calls bG (fun k_ => some k_ = (.slice aW aj.length aX : Value).ownBlock) (.slice aW aj.length aX) aj (fun k_ => some k_ = (.slice aJ ai.length aK : Value).ownBlock) (.slice aJ ai.length aK) ai ((rd_T57 y s).f2.f0) ((rd_T57 y s).f2.f1) bU cl w _ ?az ?aA ?aC d8.out).mono ?_
            (case az => exact bs HB.out)
            (case aA => exact Kd.R_tight rfl J.out)
            (case aC => exact Kd.R_tight rfl O.out)
            rintro e dG ⟨e9, fa, rfl, bE, bF, hb, hkp⟩
            refine ⟨_, rfl, ?_⟩
            replace D := am (blk_kept (bf D.out) hkp (fun hs_ => Or.elim hs_ (fun e_ => (fun e_ => (Kd.R_ne J.out D.out (by decide)) e_) e_) (fun e_ => (fun e_ => (Kd.R_ne O.out D.out (by decide)) e_) e_)))
            replace I := am (blk_kept (bf I.out) hkp (fun hs_ => Or.elim hs_ (fun e_ => (fun e_ => (Kd.R_ne J.out I.out (by decide)) e_) e_) (fun e_ => (fun e_ => (Kd.R_ne O.out I.out (by decide)) e_) e_)))
            replace z := am (blk_kept (bf z.out) hkp (fun hs_ => Or.elim hs_ (fun e_ => (fun e_ => (Kd.R_ne J.out z.out (by decide)) e_) e_) (fun e_ => (fun e_ => (Kd.R_ne O.out z.out (by decide)) e_) e_)))
            have dH := am (Kd.R_mono (ok' := fun k_ => True) bE (fun k_ hk_ => trivial))
            have dI := am (Kd.R_mono (ok' := fun k_ => True) bF (fun k_ hk_ => trivial))
            replace HB := am hb
            clear J O
            (try clear hb)
            (try clear hkp)
            (try clear bE)
            (try clear bF)
            obtain ⟨dJ, dK, dL⟩ := Kd.R_slice dH.out
            (first | subst dL | (injection dL with T af X; have ag := T.symm; have ah := X.symm; clear T af X; subst ag; subst ah))
            obtain ⟨ec, ed, dM⟩ := Kd.R_slice dI.out
            (first | subst dM | (injection dM with T af X; have ag := T.symm; have ah := X.symm; clear T af X; subst ag; subst ah))
            refine hK.out _ _ ⟨cx z 0, cx z 1, cx D 0, cx D 1, (cb HB dF), (cb HB dE), (cb HB dD), (cb HB dC), (cb HB dB)⟩ (fun hHeld => ?_)
            clear hK K
            refine nrm 66 ?_
            refine la0 8 (fun K hK => ?_)
            have fb : dG.cell? ⟨Y, 0, none⟩ = some (.slice aW aj.length aX) := cx z 0
            have fc := blk_frozen z.out 0
            have fd := av.out
            have fe := aY.out
            have ff := aw.out
            have fg := aZ.out
            have fh : dG.cell? ⟨Y, 1, none⟩ = some (.slice aJ ai.length aK) := cx z 1
            have fi := blk_frozen z.out 1
            have fj := av.out
            have fk := aY.out
            have fl := aw.out
            have fm := aZ.out
            refine sk ?_
            refine hK.out _ _ ?_
            clear hK K
            refine dn ?_
            try go_wp2
            go_roundg bG
            case measure => have := aQ.out; have := bR.out; omega
            case rel => exact ⟨(wrap64 (s + 1)), (bU), (cl), (.slice dJ bU.length dK), (.slice ec cl.length ed), eqs, H', ⟨by have := aQ.out; have := bR.out; omega⟩, ⟨Kd.R_mono (rt dH.out z.out (by decide)) (fun _ hk => trivial)⟩, ⟨Kd.R_mono (rt dI.out z.out (by decide)) (fun _ hk => trivial)⟩, ⟨bf D.out⟩, ⟨bf I.out⟩, ⟨by (with_reducible repeat (first | refine blk_drewN ?_ _ | refine blk_drew ?_ | refine blk_alloc ?_ _)); refine blk_put (cs := #[.slice dJ bU.length dK, .slice aJ ai.length aK]) ?_ 1 _ rfl; (with_reducible repeat (first | refine blk_drewN ?_ _ | refine blk_drew ?_ | refine blk_alloc ?_ _)); refine blk_put (cs := #[.slice aW aj.length aX, .slice aJ ai.length aK]) ?_ 0 _ rfl; exact bf z.out⟩, ⟨bs HB.out⟩⟩
           ·rw [if_neg bg] at H
            have d7 : decide (bH < 0) = false := decide_eq_false bg
            clear bg
            have H' := am H
            clear H
            try go_wp2
            replace J := rd_ J
            replace O := rd_ O
            replace D := bd D
            replace I := bd I
            replace z := bd z
            replace HB := hd HB
            have a4 : 0 ≤ (s : Int) := oda
            have a5 : s < (y.length : Int) := oda
            obtain ⟨cm, cn, aD, aE, aG, aH, aI⟩ := at_T57 aM.out s a4 a5
            have co := aI
            have cp := aH
            have ct := aG
            have cu := aE
            have cv := aD
            obtain rfl : G = cm := (by injection cn)
            replace aD := cb HB aD
            replace aE := cb HB aE
            replace aG := cb HB aG
            replace aH := cb HB aH
            replace aI := cb HB aI
            replace a4 := eq_true a4
            replace a5 := eq_true a5
            obtain ⟨cJ, cK, dN⟩ := Kd.R_slice J.out
            (first | subst dN | (injection dN with T af X; have ag := T.symm; have ah := X.symm; clear T af X; subst ag; subst ah))
            obtain ⟨cL, cM, dO⟩ := Kd.R_slice O.out
            (first | subst dO | (injection dO with T af X; have ag := T.symm; have ah := X.symm; clear T af X; subst ag; subst ah))
            refine wp_region_bel (by kernel_rfl) (by kernel_rfl) ?_
            generalize wc.drew = au at J O D I z HB aD aE aG aH aI ⊢
            have hbp_ := fun (p_ : Bel au) => below_step HB.out p_.h
            have cy : ∀ p_ : Bel au, p_.v.cell? ⟨Y, 0, none⟩ = some (.slice cJ aj.length cK) := fun p_ => cell_bel (cx z 0) p_
            have cz : ∀ p_ : Bel au, p_.v.cell? ⟨Y, 1, none⟩ = some (.slice cL ai.length cM) := fun p_ => cell_bel (cx z 1) p_
            have cA : ∀ p_ : Bel au, p_.v.cell? ⟨ak, 0, none⟩ = some (.slice al ac.length an) := fun p_ => cell_bel (cx D 0) p_
            have cB : ∀ p_ : Bel au, p_.v.cell? ⟨ak, 1, none⟩ = some (.slice (some G) y.length ao) := fun p_ => cell_bel (cx D 1) p_
            have cC : ∀ p_ : Bel au, p_.v.cell? (G.add ((s).toNat * 5)) = some (.int .i64 ((rd_T57 y s).f0)) := fun p_ => cell_bel ((cb HB cv)) p_
            have cD : ∀ p_ : Bel au, p_.v.cell? ⟨(G.add ((s).toNat * 5)).block, (G.add ((s).toNat * 5)).off + 1, none⟩ = some (.int .i64 ((rd_T57 y s).f1.f0)) := fun p_ => cell_bel ((cb HB cu)) p_
            have cE : ∀ p_ : Bel au, p_.v.cell? ⟨(G.add ((s).toNat * 5)).block, (G.add ((s).toNat * 5)).off + 2, none⟩ = some (.int .i64 ((rd_T57 y s).f1.f1)) := fun p_ => cell_bel ((cb HB ct)) p_
            have cF : ∀ p_ : Bel au, p_.v.cell? ⟨(G.add ((s).toNat * 5)).block, (G.add ((s).toNat * 5)).off + 3, none⟩ = some (.int .i64 ((rd_T57 y s).f2.f0)) := fun p_ => cell_bel ((cb HB cp)) p_
            have cG : ∀ p_ : Bel au, p_.v.cell? ⟨(G.add ((s).toNat * 5)).block, (G.add ((s).toNat * 5)).off + 4, none⟩ = some (.int .i64 ((rd_T57 y s).f2.f1)) := fun p_ => cell_bel ((cb HB co)) p_
            repeat (go_big_quiet_step (first
             | (with_reducible show Calls Try.prog 43 #[.agg #[.slice cJ aj.length cK, .slice cL ai.length cM], .agg #[.int .i64 ((rd_T57 y s).f2.f0), .int .i64 ((rd_T57 y s).f2.f1)]] _ _; with_reducible refine calls_bel (spec_l2At.calls bG _ _ aj _ _ ai ((rd_T57 y s).f2.f0) ((rd_T57 y s).f2.f1) bH _ ?az ?aA ?aC ?bw dx.out); (case az => exact cr J); (case aA => exact cc J); (case aC => exact cr O); (case bw => exact cc O))))
            refine wpQuiet_nil ?_
            intro fo hw'
            obtain ⟨⟨wq_, hb⟩, hw''⟩ := hw'
            subst hw''
            clear hbp_ cy cz cA cB cC cD cE cF cG
            replace J := rb J hb
            replace O := rb O hb
            replace D := bb D hb rfl
            replace I := bb I hb rfl
            replace z := bb z hb rfl
            replace HB := hs HB hb
            (try clear hb)
            (try clear hb2)
            (try clear hk)
            (try clear hi)
            try go_wp2
            go_roundg bG
            case measure => have := aQ.out; have := bR.out; omega
            case rel => exact ⟨(wrap64 (s + 1)), (aj), (ai), (.slice cJ aj.length cK), (.slice cL ai.length cM), eqs, H', ⟨by have := aQ.out; have := bR.out; omega⟩, ⟨rl J.out⟩, ⟨rl O.out⟩, ⟨bf D.out⟩, ⟨bf I.out⟩, ⟨bf z.out⟩, ⟨bs HB.out⟩⟩
          ·rw [if_neg bT] at H
           exact absurd H (by simp)
         ·rw [if_neg bS] at H
          exact absurd H (by simp)
      ·rw [if_neg bi] at H
       exact absurd H (by simp)
     ·rw [if_neg aR] at H
      have cX : (((rd_T57 y s).f0) == a1) = false := beq_eq_false_iff_ne.mpr aR
      have cY : (((rd_T57 y s).f0) != a1) = true := bne_iff_ne.mpr aR
      have H' := am H
      clear H
      have fp := b0.out
      have fq := b1.out
      have fr := av.out
      have fs := aw.out
      obtain ⟨ft, fu⟩ := bc2 (w := wr) D.out
      have fv := blk_frozen D.out
      have aT : 0 ≤ (s : Int) := oda
      have aU : s < (y.length : Int) := oda
      obtain ⟨G, b4, a7, a8, a9, ba, bc⟩ := at_T57 aM.out s aT aU
      cases b4
      replace a7 := cb HB a7
      replace a8 := cb HB a8
      replace a9 := cb HB a9
      replace ba := cb HB ba
      replace bc := cb HB bc
      replace aT := eq_true aT
      replace aU := eq_true aU
      go_wp2
      go_roundg k1
      case measure => have := aQ.out; omega
      case rel => exact ⟨(wrap64 (s + 1)), (aa), (aN), (ap), (aq), eqs, H', ⟨by have := aQ.out; omega⟩, ⟨rl J.out⟩, ⟨rl O.out⟩, ⟨bf D.out⟩, ⟨bf I.out⟩, ⟨bf z.out⟩, ⟨bs HB.out⟩⟩
    ·rw [if_neg bh] at H
     exact absurd H (by simp)
   ·rw [if_neg c9] at H
    have cW : decide (s < (y.length : Int)) = false := decide_eq_false c9
    clear c9
    simp only [Option.some.injEq, Prod.mk.injEq] at H
    obtain ⟨rfl, rfl⟩ := H
    have fw := b0.out
    have fx := b1.out
    have fy := av.out
    have fz := aw.out
    obtain ⟨fA, fB⟩ := bc2 (w := wr) D.out
    have fC := blk_frozen D.out
    have fD := aZ.out
    have fE := aY.out
    obtain ⟨fF, fG⟩ := bc2 (w := wr) z.out
    have fH := blk_frozen z.out
    obtain ⟨ee, ef, eg⟩ := Kd.R_slice J.out
    subst eg
    obtain ⟨fI, fJ⟩ := bc2 (w := wr) I.out
    have fK := blk_frozen I.out
    obtain ⟨eh, ei, ej⟩ := Kd.R_slice O.out
    subst ej
    go_wp2
    refine bodyPost_ret (results_cell_row rfl _ _ bJ 38 #[.slice ee aa.length ef, .slice eh aN.length ei] (0, 0) _ rfl (bp I.out rfl) Try.underlying38 rfl (by kernel_rfl)) rfl ?_
    exact ⟨_, _, eqr, Kd.R_mono (rt J.out I.out (by decide)) (fun _ hk => trivial), Kd.R_mono (rt O.out I.out (by decide)) (fun _ hk => trivial), bs HB.out⟩

/-! ### spec_PackNum: function 30 -/
def spec_PackNum.j0 : Nat → Int → Bool → Option (ByteArray)
 | 0, _, _ => none
 | k + 1, s, y => if y = true then (some (⟨#[]⟩ : ByteArray)) else (if s < 128 then (some (strOfNums (([(s) % 256] : List Int)))) else (some (strOfNums (([(wrap64 (128 + (wrap64 (Int.tdiv s 128)))) % 256, (Int.tmod s 128) % 256] : List Int)))))
def spec_PackNum.f (k : Nat) (s : Int) : Option (ByteArray) := if s < 0 then (spec_PackNum.j0 k s true) else (spec_PackNum.j0 k s (decide (s > 16383)))
theorem spec_PackNum.calls (k : Nat) (s : Int) (r : ByteArray) (w : World) (h : spec_PackNum.f k s = some r) :
  Calls Try.prog 30 #[.int .i64 s] w fun e w' => e = .returned (.string r) ∧ Below w.heap.size w w' := by
 have HB := am (Below.refl w.heap.size w)
 have H := h; unfold spec_PackNum.f at H
 clear h
 have T := am H
 clear H
 go_enter Try.func30, Try.ntmps30
 go_upto_region 1 with (fail)
 go_cut [8] (fun v8 wc => ∃ (kq : Nat) (L : Bool), v8 = .bool L ∧ Aside0 (spec_PackNum.j0 kq s L = some r) ∧ Aside0 (kq ≤ k) ∧ Aside0 (Below w.heap.size w wc))
 case first =>
  have H := T.out
  clear T
  by_cases z : s < 0
  ·rw [if_pos z] at H
   have D : decide (s < 0) = true := decide_eq_true z
   clear z
   (first | rw [D] | (simp only [i64_w, i32_w]; rw [D]) | skip)
   have H' := am H
   clear H
   go_wp2
   go_meet
   case rel => exact ⟨_, (true), eqs, H', ⟨by first | omega | exact Nat.le_refl _⟩, ⟨bs HB.out⟩⟩
  ·rw [if_neg z] at H
   have D : decide (s < 0) = false := decide_eq_false z
   clear z
   (first | rw [D] | (simp only [i64_w, i32_w]; rw [D]) | skip)
   have H' := am H
   clear H
   go_wp2
   go_meet
   case rel => exact ⟨_, (decide (s > 16383)), eqs, H', ⟨by first | omega | exact Nat.le_refl _⟩, ⟨bs HB.out⟩⟩
 case rest =>
  clear T
  try clear p2
  try clear z
  try clear D
  obtain ⟨kq, L, rfl, HA, ah, HB⟩ := hcut
  cases kq with
  | zero => exact absurd HA.out (by simp [spec_PackNum.j0])
  | succ ai =>
   have H := HA.out
   clear HA
   simp only [spec_PackNum.j0] at H
   by_cases O : L = true
   ·subst O
    replace H : (some (⟨#[]⟩ : ByteArray)) = some r := by rw [if_pos rfl] at H; exact H
    obtain rfl := Option.some.inj H
    go_wp2
    go_ret
    exact ⟨eqr, bs HB.out⟩
   ·replace O := Bool.eq_false_iff.mpr O
    subst O
    have H1 : (if s < 128 then (some (strOfNums (([(s) % 256] : List Int)))) else (some (strOfNums (([(wrap64 (128 + (wrap64 (Int.tdiv s 128)))) % 256, (Int.tmod s 128) % 256] : List Int))))) = some r := by rw [if_neg (show ¬ (false = true) by decide)] at H; exact H
    clear H
    have H := H1
    clear H1
    by_cases G : s < 128
    ·rw [if_pos G] at H
     have ab : decide (s < 128) = true := decide_eq_true G
     clear G
     obtain ⟨ac, X⟩ : ∃ y_ : List Int, y_ = (([(s) % 256] : List Int)) := ⟨_, rfl⟩
     replace H : (some (strOfNums ac)) = some r := by first | (rw [X]; exact H) | exact H
     have Z := am X
     clear X
     obtain rfl := Option.some.inj H
     go_wp2_with (first | ((with_reducible refine gd 13 rfl ?_); refine Kd.R_lit (Kd.int .u8) _ 5 ?hg (N := 13) ?hd (xs := ([(s) % 256] : List Int)) (inner := [.int .u8 ((s) % 256)]) (ok := fun _ => True) (okp := fun _ => True) ?hr ?hp (fun _ hk => hk) trivial (Below.refl _ _) (Nat.le_refl _) (by simp) ?_; (case hd => rfl); (case hg => rfl); (case hr => first | (go_simp; done) | (go_simp; rfl)); (case hp => exact (Reps.one (show Kd.M (Kd.int .u8) _ _ _ ((s) % 256) [.int .u8 ((s) % 256)] from rfl) (Reps.none _ _))); intro aj w6 I hb hg_ hnew_; clear hg_ hnew_; (first | rw [← Z.out] at I | (simp only [Int.reduceToNat] at I; rw [← Z.out] at I)); have ad := am (Kd.R_lower I (below_size (bs HB.out))); replace HB := hs HB hb; clear hb I; have hcv8 := own_string (P := Try.prog) Try.underlying22 Try.underlying5 Try.underlying9 (Kd.own_of_R ad.out)))
     go_ret
     exact ⟨eqr, bs HB.out⟩
    ·rw [if_neg G] at H
     have ab : decide (s < 128) = false := decide_eq_false G
     clear G
     obtain ⟨ae, Y⟩ : ∃ y_ : List Int, y_ = (([(wrap64 (128 + (wrap64 (Int.tdiv s 128)))) % 256, (Int.tmod s 128) % 256] : List Int)) := ⟨_, rfl⟩
     replace H : (some (strOfNums ae)) = some r := by first | (rw [Y]; exact H) | exact H
     have aa := am Y
     clear Y
     obtain rfl := Option.some.inj H
     go_wp2_with (first | ((with_reducible refine gd 22 rfl ?_); refine Kd.R_lit (Kd.int .u8) _ 5 ?hg (N := 22) ?hd (xs := ([(wrap64 (128 + (wrap64 (Int.tdiv s 128)))) % 256, (Int.tmod s 128) % 256] : List Int)) (inner := [.int .u8 ((wrap64 (128 + (wrap64 (Int.tdiv s 128)))) % 256), .int .u8 ((Int.tmod s 128) % 256)]) (ok := fun _ => True) (okp := fun _ => True) ?hr ?hp (fun _ hk => hk) trivial (Below.refl _ _) (Nat.le_refl _) (by simp) ?_; (case hd => rfl); (case hg => rfl); (case hr => first | (go_simp; done) | (go_simp; rfl)); (case hp => exact (Reps.one (show Kd.M (Kd.int .u8) _ _ _ ((wrap64 (128 + (wrap64 (Int.tdiv s 128)))) % 256) [.int .u8 ((wrap64 (128 + (wrap64 (Int.tdiv s 128)))) % 256)] from rfl) (Reps.one (show Kd.M (Kd.int .u8) _ _ _ ((Int.tmod s 128) % 256) [.int .u8 ((Int.tmod s 128) % 256)] from rfl) (Reps.none _ _)))); intro ak w9 J hb hg_ hnew_; clear hg_ hnew_; (first | rw [← aa.out] at J | (simp only [Int.reduceToNat] at J; rw [← aa.out] at J)); have af := am (Kd.R_lower J (below_size (bs HB.out))); replace HB := hs HB hb; clear hb J; have hcv11 := own_string (P := Try.prog) Try.underlying22 Try.underlying5 Try.underlying9 (Kd.own_of_R af.out)))
     go_ret
     exact ⟨eqr, bs HB.out⟩

end Go.Proofs.Ytkbamcicbofjbaa.QFnStoreNarrow
