/- Contracts of the Go functions that this law reaches: each does what its plain Lean function says. No condition. -/
import Derived.Test.YtohmemckdogljaaQFnExactWalkPartsx0
import Derived.Test.YtohmemckdogljaaQFnExactWalkPartsx10
import Derived.Test.YtohmemckdogljaaQFnExactWalkPartsx12
import Derived.Test.YtohmemckdogljaaQFnExactWalkPartsx13
namespace Go.Proofs.Ytohmemckdogljaa.QFnExactWalkParts
open Go.RowKit Go.Proofs.YtohmemckdogljaaW.PrintWords Go.Proofs.YtohmemckdogljaaW.PrintLast Go.Proofs.YtohmemckdogljaaW.PrintMore Go.Proofs.Ytohmemckdogljaa.Bl
attribute [local go_sem] max2_int min2_int max_two min_two max_three min_three max_four min_four   -- for this text's walks alone
set_option linter.unusedVariables false
set_option linter.unusedSimpArgs false
set_option maxHeartbeats 8000000
set_option maxRecDepth 100000

/-! ### impl_WalkParts: function 27 -/
mutual
def impl_WalkParts.j0 : Nat → Bool → List (S36) → List (S56) → Option (List Int)
 | 0, _, _, _ => none
 | k + 1, z, D, G => if z = true then (some ([] : List Int)) else ((impl_nearPlaces.f k D G).bind fun s => (if 0 ≤ (s.length : Int) then (if ((s.length : Int) : Int).toNat ≤ 35184372088832 then ((some (List.replicate ((s.length : Int) : Int).toNat 0 : List Int)).bind fun y => (impl_WalkParts.l0 k s y (y.length : Int) 0)) else (none)) else (none)))
def impl_WalkParts.l0 : Nat → List (List Int) → List Int → Int → Int → Option (List Int)
 | 0, _, _, _, _ => none
 | k + 1, z, y, D, s => if s < D then (if 0 ≤ s then (if s < (y.length : Int) then (impl_WalkParts.l0 k z (y.set (s : Int).toNat (-1)) D (wrap64 (s + 1))) else (none)) else (none)) else (impl_WalkParts.l1 k z y (y.length : Int) 0)
def impl_WalkParts.l1 : Nat → List (List Int) → List Int → Int → Int → Option (List Int)
 | 0, _, _, _, _ => none
 | k + 1, z, y, D, s => if s < D then (if 0 ≤ s then (if s < (y.length : Int) then (if (rd y s) ≥ 0 then (impl_WalkParts.l1 k z y D (wrap64 (s + 1))) else ((impl_stepsFrom.f k z s).bind fun G => (impl_WalkParts.l2 k z y s D s G.2 (G.2.length : Int) 0))) else (none)) else (none)) else (some y)
def impl_WalkParts.l2 : Nat → List (List Int) → List Int → Int → Int → Int → List Int → Int → Int → Option (List Int)
 | 0, _, _, _, _, _, _, _, _ => none
 | k + 1, D, z, G, I, J, y, L, s => if s < L then (if 0 ≤ s then (if s < (y.length : Int) then (if 0 ≤ (rd y s) then (if (rd y s) < (z.length : Int) then (impl_WalkParts.l2 k D (z.set ((rd y s) : Int).toNat G) G I J y L (wrap64 (s + 1))) else (none)) else (none)) else (none)) else (none)) else (impl_WalkParts.l1 k D z I (wrap64 (J + 1)))
end
def impl_WalkParts.f (k : Nat) (s : List (S36)) (y : List (S56)) : Option (List Int) := (impl_GraphOk.f k s y).bind fun z => (if z = true then (impl_WalkParts.j0 k ((s.length : Int) == 0) s y) else (impl_WalkParts.j0 k true s y))
theorem impl_WalkParts.calls (k : Nat) (ac : Option Addr) (ad : Nat) (J : List (S36)) (ae : Option Addr) (af : Nat) (L : List (S56)) (r : List Int) (w : World) (bO : Kd.C k36 w ac J.length J) (bP : J.length ≤ ad) (bQ : Kd.C k56 w ae L.length L) (bR : L.length ≤ af) (h : impl_WalkParts.f k J L = some r) :
  Calls Try.prog 27 #[.agg #[.slice ac J.length ad, .slice ae L.length af]] w fun e w' => ∃ bS : Value, e = .returned (bS) ∧ Kd.R (Kd.int .i64) 3 w' w.heap.size (fun _ => True) bS r ∧ Below w.heap.size w w' := by
 have hu34 := Try.underlying34
 have be := am bO
 have bg := am bP
 clear bO bP
 have bh := am bQ
 have bi := am bR
 clear bQ bR
 have HB := am (Below.refl w.heap.size w)
 have H := h; unfold impl_WalkParts.f at H
 clear h
 have bj := am H
 clear H
 go_enter Try.func27, Try.ntmps27
 go_upto_region 1 with (first | ((with_reducible refine gd 1 rfl ?_); refine bx 1 (cs := #[.slice ac J.length ad, .slice ae L.length af]) (t := 34) ?_; intro aO hg w3 hbox hb; have s := am hbox; have cG := gwb HB hg; replace HB := hs HB hb; clear hb hbox hg))
 (try simp only [Act.put, List.setIfInBounds_toArray, List.set_cons_zero, List.set_cons_succ])
 go_cut [19] (fun b9 wc => ∃ (kq : Nat) (aP : Bool), b9 = .bool aP ∧ Aside0 (impl_WalkParts.j0 kq aP J L = some r) ∧ Aside0 (kq ≤ k) ∧ Aside0 (wc.heap[aO]? = some (.cells #[(.slice ac J.length ad), (.slice ae L.length af)] 34 (0, 0))) ∧ Aside0 (Below w.heap.size w wc))
 case first =>
  have H := bj.out
  clear bj
  replace H := Option.bind_eq_some_iff.mp H
  obtain ⟨ce, bT, H⟩ := H
  try dsimp -simprocs only at H
  have A4 := am bT
  clear bT
  by_cases c5 : ce = true
  ·subst c5
   replace H : (impl_WalkParts.j0 k ((J.length : Int) == 0) J L) = some r := by rw [if_pos rfl] at H; exact H
   have H' := am H
   clear H
   obtain ⟨aQ, aR⟩ := bc2 (w := w3) s.out
   have aS := blk_frozen s.out
   go_wp2_with (first | ((with_reducible refine gc 34 rfl ?_); refine gl 12 Try.func34 #[.agg #[.slice ac J.length ad, .slice ae L.length af]] ?_; (with_reducible refine (impl_GraphOk.calls k _ _ J _ _ L true _ ?ao ?ap ?aG ?aH A4.out).mono ?_); (case ao => exact Kd.C_below be.out (bs HB.out)); (case ap => exact bg.out); (case aG => exact Kd.C_below bh.out (bs HB.out)); (case aH => exact bi.out); rintro e w7 ⟨rfl, hb⟩; refine ⟨_, rfl, ?_⟩; replace s := bb s hb rfl; replace HB := hs HB hb; (try clear hb); obtain ⟨aT, aU⟩ := bc2 (w := w7) s.out; have aV := blk_frozen s.out))
   go_meet
   case rel => exact ⟨_, (((J.length : Int) == 0)), eqs, H', ⟨by first | omega | exact Nat.le_refl _⟩, ⟨bf s.out⟩, ⟨bs HB.out⟩⟩
  ·replace c5 := Bool.eq_false_iff.mpr c5
   subst c5
   have H1 : (impl_WalkParts.j0 k true J L) = some r := by rw [if_neg (show ¬ (false = true) by decide)] at H; exact H
   clear H
   have H := H1
   clear H1
   have H' := am H
   clear H
   obtain ⟨aW, aX⟩ := bc2 (w := w3) s.out
   have aY := blk_frozen s.out
   go_wp2_with (first | ((with_reducible refine gc 34 rfl ?_); refine gl 12 Try.func34 #[.agg #[.slice ac J.length ad, .slice ae L.length af]] ?_; (with_reducible refine (impl_GraphOk.calls k _ _ J _ _ L false _ ?ao ?ap ?aG ?aH A4.out).mono ?_); (case ao => exact Kd.C_below be.out (bs HB.out)); (case ap => exact bg.out); (case aG => exact Kd.C_below bh.out (bs HB.out)); (case aH => exact bi.out); rintro e cH ⟨rfl, hb⟩; refine ⟨_, rfl, ?_⟩; replace s := bb s hb rfl; replace HB := hs HB hb; (try clear hb)))
   go_meet
   case rel => exact ⟨_, (true), eqs, H', ⟨by first | omega | exact Nat.le_refl _⟩, ⟨bf s.out⟩, ⟨bs HB.out⟩⟩
 case rest =>
  clear bj
  try clear c2
  try clear p2
  try clear c3
  try clear c5
  try clear aQ aR
  try clear aT aU
  try clear aW aX
  try clear aS
  try clear aV
  try clear aY
  obtain ⟨kq, aP, rfl, HA, ag, s, HB⟩ := hcut
  cases kq with
  | zero => exact absurd HA.out (by simp [impl_WalkParts.j0])
  | succ aA =>
   have H := HA.out
   clear HA
   simp only [impl_WalkParts.j0] at H
   by_cases aq : aP = true
   ·subst aq
    replace H : (some ([] : List Int)) = some r := by rw [if_pos rfl] at H; exact H
    obtain rfl := Option.some.inj H
    go_wp2
    go_ret
    exact ⟨_, eqr, by first | exact Kd.R_nil _ _ _ _ _ | exact Kd.N_nil _ _ _ _ _ | exact Kd.V_nil _ _ _ _ _ | exact Kd.Q_nil _ _ _ _ _ | exact Kd.S_nil _ _ _ _ _, bs HB.out⟩
   ·replace aq := Bool.eq_false_iff.mpr aq
    subst aq
    have H1 : ((impl_nearPlaces.f aA J L).bind fun D => (if 0 ≤ (D.length : Int) then (if ((D.length : Int) : Int).toNat ≤ 35184372088832 then ((some (List.replicate ((D.length : Int) : Int).toNat 0 : List Int)).bind fun aa => (impl_WalkParts.l0 aA D aa (aa.length : Int) 0)) else (none)) else (none))) = some r := by rw [if_neg (show ¬ (false = true) by decide)] at H; exact H
    clear H
    have H := H1
    clear H1
    replace H := Option.bind_eq_some_iff.mp H
    obtain ⟨D, bU, H⟩ := H
    try dsimp -simprocs only at H
    have cf := am bU
    clear bU
    by_cases ah : 0 ≤ (D.length : Int)
    ·rw [if_pos ah] at H
     have bk := eq_true ah
     have bl : decide (0 ≤ (D.length : Int)) = true := decide_eq_true ah
     clear ah
     by_cases ai : ((D.length : Int) : Int).toNat ≤ 35184372088832
     ·rw [if_pos ai] at H
      have bm := eq_true ai
      have bn : decide (((D.length : Int) : Int).toNat ≤ 35184372088832) = true := decide_eq_true ai
      clear ai
      obtain ⟨aa, bo⟩ : ∃ y_ : List Int, y_ = (List.replicate ((D.length : Int) : Int).toNat 0) := ⟨_, rfl⟩
      replace H : (impl_WalkParts.l0 aA D aa (aa.length : Int) 0) = some r := by first | (rw [bo]; exact H) | exact H
      have bV := am bo
      clear bo
      have H' := am H
      clear H
      obtain ⟨br, bt⟩ := bc2 (w := wc) s.out
      have bu := blk_frozen s.out
      go_wp2_with (first | ((with_reducible refine gc 68 rfl ?_); refine gl 21 Try.func68 #[.agg #[.slice ac J.length ad, .slice ae L.length af]] ?_; (with_reducible refine (impl_nearPlaces.calls aA _ _ J _ _ L D _ ?ao ?ap ?aG ?aH cf.out).mono ?_); (case ao => exact Kd.C_below be.out (bs HB.out)); (case ap => exact bg.out); (case aG => exact Kd.C_below bh.out (bs HB.out)); (case aH => exact bi.out); rintro e cI ⟨cJ, rfl, ar, hb⟩; refine ⟨_, rfl, ?_⟩; have aZ := am (Kd.S_lower ar (below_size (bs HB.out))); replace s := bb s hb rfl; replace HB := hs HB hb; (try clear ar hb); obtain ⟨a2, a3, cg⟩ := Kd.S_slice aZ.out; subst cg) | ((with_reducible refine gd 24 rfl ?_); refine Kd.R_make (Kd.int .i64) _ 3 rfl (N := 24) rfl 43 _ _ rfl (D.length : Int) rfl rfl Try.underlying43 (.int .i64 0) 8 info3 rfl (by decide) (by omega) 0 (ok := fun _ => True) (okp := fun _ => True) rfl (fun _ hk => hk) trivial (oda) (Nat.le_trans (Nat.mul_le_mul_right _ (oda : (D.length : Int).toNat ≤ 35184372088832)) (by omega)) (Below.refl _ _) (Nat.le_refl _) ?_; intro cK cL aB hb hg_ hnew_; clear hg_ hnew_; (first | rw [← bV.out] at aB | (simp only [Int.reduceToNat] at aB; rw [← bV.out] at aB)); replace aZ := am (Kd.S_elder' (by (with_reducible repeat (first | apply Kd.S_alloc | apply Kd.S_drewN | apply Kd.S_drew)); exact aZ.out) (Kd.R_base aB) hb); have bW := am (Kd.R_lower aB (below_size (bs HB.out))); replace s := bb s hb rfl; replace HB := hs HB hb; clear hb aB; obtain ⟨a4, Y, ch⟩ := Kd.R_slice bW.out; subst ch))
      go_loopg [27] aA (fun kq ci w' => ∃ (M : List Int) (T : Int), ci = .int .i64 T ∧ Aside0 (impl_WalkParts.l0 kq D M (aa.length : Int) T = some r) ∧ Aside0 (kq ≤ aA) ∧ Aside0 (Kd.S (Kd.slice 3 (Kd.int .i64)) 43 w' w.heap.size (fun k_ => some k_ ≠ ((.slice a4 aa.length Y) : Value).ownBlock) (.slice a2 D.length a3) D) ∧ Aside0 (Kd.R (Kd.int .i64) 3 w' w.heap.size (fun _ => True) (.slice a4 aa.length Y) M) ∧ Aside0 (w'.heap[aO]? = some (.cells #[(.slice ac J.length ad), (.slice ae L.length af)] 34 (0, 0))) ∧ Aside0 (Below w.heap.size w w'))
      case atStart => exact ⟨(aa), (0), eqs, H', ⟨Nat.le_refl _⟩, ⟨by (with_reducible repeat (first | apply Kd.S_alloc | apply Kd.S_drewN | apply Kd.S_drew)); exact Kd.S_mono aZ.out (fun _ hk => hk.2)⟩, ⟨rl bW.out⟩, ⟨bf s.out⟩, ⟨bs HB.out⟩⟩
      case round =>
       clear H'
       try clear c1
       try clear c2
       try clear p2
       try clear c3
       try clear c5
       try clear c6
       try clear aq
       try clear ah
       try clear bk
       try clear bl
       try clear ai
       try clear bm
       try clear bn
       try clear br bt
       try clear aQ aR
       try clear aT aU
       try clear aW aX
       try clear bu
       try clear aS
       try clear aV
       try clear aY
       try clear p2
       obtain ⟨M, T, rfl, HA, aj, O, y, s, HB⟩ := hrel
       have hl4_2 := (Kd.R_reads' y.out).1
       rw [hl4_2] at y
       (try simp only [hl4_2])
       (try simp only [hl4_2] at s)
       (try simp only [hl4_2] at O)
       cases gk with
       | zero => exact absurd HA.out (by simp [impl_WalkParts.l0])
       | succ k2 =>
        have H := HA.out
        clear HA
        simp only [impl_WalkParts.l0] at H
        by_cases ak : T < (aa.length : Int)
        ·rw [if_pos ak] at H
         have aI : decide (T < (aa.length : Int)) = true := decide_eq_true ak
         (try simp only [hl4_2] at aI)
         clear ak
         by_cases aC : 0 ≤ T
         ·rw [if_pos aC] at H
          have bX : decide (0 ≤ T) = true := decide_eq_true aC
          clear aC
          by_cases aD : T < (M.length : Int)
          ·rw [if_pos aD] at H
           have bv : decide (T < (M.length : Int)) = true := decide_eq_true aD
           (try simp only [hl4_2] at bv)
           clear aD
           obtain ⟨bw, bz⟩ : ∃ y_ : List Int, y_ = (M.set (T : Int).toNat (-1)) := ⟨_, rfl⟩
           replace H : (impl_WalkParts.l0 k2 D bw (aa.length : Int) (wrap64 (T + 1))) = some r := by first | (rw [bz]; exact H) | exact H
           have cj := am bz
           clear bz
           have H' := am H
           clear H
           have au : 0 ≤ (T : Int) := oda
           have av : (T : Int) < ((M.length : Int) : Int) := oda
           obtain ⟨aJ, cM, bY, bZ, ck, cN, b0⟩ := Kd.R_form y.out (by omega)
           (first | cases bY | (injection bY with ea_ en_ ec_; (first | subst ea_ | (injection ea_ with ea_; subst ea_)); subst ec_; clear en_))
           have cl := am bZ
           have cO := am b0
           clear bZ ck b0
           obtain ⟨b1, cP⟩ := Kd.R_celln 0 y.out (T : Int) au av
           replace au := eq_true au
           replace av := eq_true av
           have bA := Kd.R_putg y.out (T : Int) (-1)
           go_wp2_with (first | ((with_reducible refine gate_store (t := 3) (p := 32) rfl ?_); refine store_event (t := 3) (p := 32) (v := ?vo_w26) (w1 := (wr.setCell ⟨aJ, (T : Int).toNat, none⟩ (.int .i64 (-1)))) ?hg ?ho ?hn ?hr ?_; (case ho => rfl); (case hg => rfl); (case hn => rfl); (case hr => first | (go_simp; done) | (go_simp; rfl)); intro bB hw; have hg : wr.grownBy bB (some aJ) := (by rw [hw]; exact bA.2); have hp_ : Kd.R (Kd.int .i64) 3 bB w.heap.size (fun _ => True) (.slice (some ⟨aJ, 0, none⟩) M.length Y) bw := (by rw [hw, cj.out]; exact bA.1); clear bA; replace O := am (Kd.S_after (v := (.slice (some ⟨aJ, 0, none⟩) M.length Y)) (v1 := (.slice (some ⟨aJ, 0, none⟩) M.length Y)) (ok := (fun _ => True)) (by (with_reducible repeat (first | apply Kd.S_alloc | apply Kd.S_drewN | apply Kd.S_drew)); exact Kd.S_mono O.out (fun _ hk => ⟨trivial, hk⟩)) hg (.inl rfl)); replace s := gr s y hg; replace y := am hp_; replace HB := am ((by rw [hw]; exact below_set (HB.out) cl.out : Below w.heap.size w bB)); clear hg hw hp_))
           (try simp only [← hl4_2])
           go_roundg k2
           case measure => have := ag.out; have := aj.out; omega
           case rel => exact ⟨(bw), (wrap64 (T + 1)), eqs, H', ⟨by have := ag.out; have := aj.out; omega⟩, ⟨by (try simp only [hl4_2]); (with_reducible repeat (first | apply Kd.S_alloc | apply Kd.S_drewN | apply Kd.S_drew)); exact Kd.S_mono O.out (fun _ hk => hk.2)⟩, ⟨by (try simp only [hl4_2]); (with_reducible repeat (first | apply Kd.R_alloc | apply Kd.R_drewN | apply Kd.R_drew)); exact y.out⟩, ⟨by (try simp only [hl4_2]); exact bf s.out⟩, ⟨bs HB.out⟩⟩
          ·rw [if_neg aD] at H
           exact absurd H (by simp)
         ·rw [if_neg aC] at H
          exact absurd H (by simp)
        ·rw [if_neg ak] at H
         have aI : decide (T < (aa.length : Int)) = false := decide_eq_false ak
         (try simp only [hl4_2] at aI)
         clear ak
         have H' := am H
         clear H
         go_wp2
         go_loopg [36] k2 (fun kq cm w' => ∃ (Z : List Int) (z : Int), cm = .int .i64 z ∧ Aside0 (impl_WalkParts.l1 kq D Z (M.length : Int) z = some r) ∧ Aside0 (kq ≤ k2) ∧ Aside0 (Kd.S (Kd.slice 3 (Kd.int .i64)) 43 w' w.heap.size (fun k_ => some k_ ≠ ((.slice a4 M.length Y) : Value).ownBlock) (.slice a2 D.length a3) D) ∧ Aside0 (Kd.R (Kd.int .i64) 3 w' w.heap.size (fun _ => True) (.slice a4 M.length Y) Z) ∧ Aside0 (w'.heap[aO]? = some (.cells #[(.slice ac J.length ad), (.slice ae L.length af)] 34 (0, 0))) ∧ Aside0 (Below w.heap.size w w'))
         case atStart => exact ⟨(M), (0), eqs, H', ⟨Nat.le_refl _⟩, ⟨by (try simp only [hl4_2]); (with_reducible repeat (first | apply Kd.S_alloc | apply Kd.S_drewN | apply Kd.S_drew)); exact O.out⟩, ⟨by (try simp only [hl4_2]); (with_reducible repeat (first | apply Kd.R_alloc | apply Kd.R_drewN | apply Kd.R_drew)); exact y.out⟩, ⟨by (try simp only [hl4_2]); exact bf s.out⟩, ⟨bs HB.out⟩⟩
         case round =>
          clear H'
          try clear c1
          try clear c2
          try clear p2
          try clear q2
          try clear cn
          try clear co
          try clear c3
          try clear c5
          try clear c6
          try clear p6
          try clear aq
          try clear ah
          try clear bk
          try clear bl
          try clear ai
          try clear bm
          try clear bn
          try clear ak
          try clear aI
          try clear aC
          try clear bX
          try clear aD
          try clear bv
          try clear au
          try clear av
          try clear cp
          try clear ct
          try clear br bt
          try clear aQ aR
          try clear aT aU
          try clear aW aX
          try clear bu
          try clear aS
          try clear aV
          try clear aY
          try clear b1
          try clear p2
          try clear au
          try clear av
          obtain ⟨Z, z, rfl, HA, aE, O, y, s, HB⟩ := hrel
          have hl4_3 := (Kd.R_reads' y.out).1
          rw [hl4_3] at y
          (try simp only [hl4_3])
          (try simp only [hl4_3] at s)
          (try simp only [hl4_3] at O)
          cases gk with
          | zero => exact absurd HA.out (by simp [impl_WalkParts.l1])
          | succ k3 =>
           have H := HA.out
           clear HA
           simp only [impl_WalkParts.l1] at H
           by_cases aw : z < (M.length : Int)
           ·rw [if_pos aw] at H
            have ax : decide (z < (M.length : Int)) = true := decide_eq_true aw
            (try simp only [hl4_3] at ax)
            (try simp only [hl4_2] at ax)
            clear aw
            by_cases aK : 0 ≤ z
            ·rw [if_pos aK] at H
             have cu : decide (0 ≤ z) = true := decide_eq_true aK
             clear aK
             by_cases aL : z < (Z.length : Int)
             ·rw [if_pos aL] at H
              have bC : decide (z < (Z.length : Int)) = true := decide_eq_true aL
              (try simp only [hl4_3] at bC)
              (try simp only [hl4_2] at bC)
              clear aL
              by_cases ay : (rd Z z) ≥ 0
              ·rw [if_pos ay] at H
               have b2 : decide (0 ≤ (rd Z z)) = true := decide_eq_true ay
               clear ay
               have H' := am H
               clear H
               have al : 0 ≤ (z : Int) := oda
               have an : z < (Z.length : Int) := oda
               obtain ⟨a5, bD, bE⟩ := Kd.at_int (Kd.R_reads' y.out).2.2 z al an
               cases bD
               replace al := eq_true al
               replace an := eq_true an
               go_wp2
               (try simp only [← hl4_3])
               go_roundg k3
               case measure => have := ag.out; have := aj.out; have := aE.out; omega
               case rel => exact ⟨(Z), (wrap64 (z + 1)), eqs, H', ⟨by have := ag.out; have := aj.out; have := aE.out; omega⟩, ⟨by (try simp only [hl4_2]); (try simp only [hl4_3]); (with_reducible repeat (first | apply Kd.S_alloc | apply Kd.S_drewN | apply Kd.S_drew)); exact O.out⟩, ⟨by (try simp only [hl4_2]); (try simp only [hl4_3]); (with_reducible repeat (first | apply Kd.R_alloc | apply Kd.R_drewN | apply Kd.R_drew)); exact y.out⟩, ⟨by (try simp only [hl4_2]); (try simp only [hl4_3]); exact bf s.out⟩, ⟨bs HB.out⟩⟩
              ·rw [if_neg ay] at H
               have b2 : decide (0 ≤ (rd Z z)) = false := decide_eq_false ay
               clear ay
               replace H := Option.bind_eq_some_iff.mp H
               obtain ⟨⟨cv, G⟩, b3, H⟩ := H
               try dsimp -simprocs only at H
               have cy := am b3
               clear b3
               have H' := am H
               clear H
               have al : 0 ≤ (z : Int) := oda
               have an : z < (Z.length : Int) := oda
               obtain ⟨a5, bD, bE⟩ := Kd.at_int (Kd.R_reads' y.out).2.2 z al an
               cases bD
               replace al := eq_true al
               replace an := eq_true an
               go_wp2_with (first | ((with_reducible refine gc 69 rfl ?_); refine gl 47 Try.func69 #[.slice a2 D.length a3, .int .i64 z] ?_; (with_reducible refine (impl_stepsFrom.calls k3 _ _ D z cv G _ ?ao ?ap cy.out).mono ?_); (case ao => repeat (first | exact (Kd.S_reads' O.out).2.2 | (with_reducible refine Kd.C_alloc ?_ _) | (with_reducible refine Kd.C_drewN ?_ _) | (with_reducible refine Kd.C_drew ?_))); (case ap => exact (Kd.S_reads' O.out).2.1); rintro e cQ ⟨cR, cS, rfl, ar, a6, hb⟩; refine ⟨_, rfl, ?_⟩; replace O := am (Kd.S_mono (Kd.S_told (Kd.S_told (Kd.S_old (by (with_reducible repeat (first | apply Kd.S_alloc | apply Kd.S_drewN | apply Kd.S_drew)); exact O.out) hb) (Kd.R_base ar)) (Kd.R_base a6)) (fun _ h_ => h_.1)); have cT := am (Kd.R_lower (Kd.R_new' ar (rk y)) (below_size (bs HB.out))); have b4 := am (Kd.R_lower (Kd.R_new' a6 (rk y)) (below_size (bs HB.out))); replace y := am (Kd.R_mono (Kd.R_told (Kd.R_told (Kd.R_old (rl y.out) hb) (Kd.R_base ar)) (Kd.R_base a6)) (fun _ h_ => h_.1)); replace s := bb s hb rfl; replace HB := hs HB hb; (try clear hb); (try clear hb2); (try clear hk); (try clear hi); (try clear ar); (try clear a6); obtain ⟨bF, aM, cz⟩ := Kd.R_slice b4.out; subst cz))
               go_loopg [52] k3 (fun kq cA w' => ∃ (ab : List Int) (I : Int), cA = .int .i64 I ∧ Aside0 (impl_WalkParts.l2 kq D ab z (M.length : Int) z G (G.length : Int) I = some r) ∧ Aside0 (kq ≤ k3) ∧ Aside0 (Kd.S (Kd.slice 3 (Kd.int .i64)) 43 w' w.heap.size (fun k_ => some k_ ≠ ((.slice (some a5) Z.length Y) : Value).ownBlock ∧ some k_ ≠ ((.slice bF G.length aM) : Value).ownBlock) (.slice a2 D.length a3) D) ∧ Aside0 (Kd.R (Kd.int .i64) 3 w' w.heap.size (fun k_ => some k_ ≠ ((.slice bF G.length aM) : Value).ownBlock) (.slice (some a5) Z.length Y) ab) ∧ Aside0 (Kd.R (Kd.int .i64) 3 w' w.heap.size (fun k_ => some k_ ≠ ((.slice (some a5) Z.length Y) : Value).ownBlock) (.slice bF G.length aM) G) ∧ Aside0 (w'.heap[aO]? = some (.cells #[(.slice ac J.length ad), (.slice ae L.length af)] 34 (0, 0))) ∧ Aside0 (Below w.heap.size w w'))
               case atStart => exact ⟨(Z), (0), eqs, H', ⟨Nat.le_refl _⟩, ⟨by (try simp only [hl4_2]); (try simp only [hl4_3]); (with_reducible repeat (first | apply Kd.S_alloc | apply Kd.S_drewN | apply Kd.S_drew)); exact Kd.S_mono O.out (fun _ hk => ⟨hk.1.1, hk.2⟩)⟩, ⟨by (try simp only [hl4_2]); (try simp only [hl4_3]); (with_reducible repeat (first | apply Kd.R_alloc | apply Kd.R_drewN | apply Kd.R_drew)); exact Kd.R_mono y.out (fun _ hk => hk.2)⟩, ⟨by (try simp only [hl4_2]); (try simp only [hl4_3]); (with_reducible repeat (first | apply Kd.R_alloc | apply Kd.R_drewN | apply Kd.R_drew)); exact Kd.R_mono b4.out (fun _ hk => hk.2)⟩, ⟨by (try simp only [hl4_2]); (try simp only [hl4_3]); exact bf s.out⟩, ⟨bs HB.out⟩⟩
               case round =>
                clear H'
                try clear c1
                try clear c2
                try clear p2
                try clear q2
                try clear cn
                try clear co
                try clear c3
                try clear p3
                try clear q3
                try clear cU
                try clear c5
                try clear c6
                try clear p6
                try clear aq
                try clear ah
                try clear bk
                try clear bl
                try clear ai
                try clear bm
                try clear bn
                try clear ak
                try clear aI
                try clear aC
                try clear bX
                try clear aD
                try clear bv
                try clear au
                try clear av
                try clear cp
                try clear ct
                try clear aw
                try clear ax
                try clear aK
                try clear cu
                try clear aL
                try clear bC
                try clear ay
                try clear b2
                try clear br bt
                try clear aQ aR
                try clear aT aU
                try clear aW aX
                try clear bu
                try clear aS
                try clear aV
                try clear aY
                try clear b1
                try clear bE
                try clear p2
                try clear au
                try clear al
                try clear p6
                try clear q2
                try clear av
                try clear an
                obtain ⟨ab, I, rfl, HA, a7, O, y, aN, s, HB⟩ := hrel
                have hl4_4 := (Kd.R_reads' y.out).1
                rw [hl4_4] at y
                (try simp only [hl4_4])
                (try simp only [hl4_4] at s)
                (try simp only [hl4_4] at O)
                (try simp only [hl4_4] at aN)
                cases gk with
                | zero => exact absurd HA.out (by simp [impl_WalkParts.l2])
                | succ k4 =>
                 have H := HA.out
                 clear HA
                 simp only [impl_WalkParts.l2] at H
                 by_cases aF : I < (G.length : Int)
                 ·rw [if_pos aF] at H
                  have cB : decide (I < (G.length : Int)) = true := decide_eq_true aF
                  clear aF
                  by_cases a8 : 0 ≤ I
                  ·rw [if_pos a8] at H
                   have cV : decide (0 ≤ I) = true := decide_eq_true a8
                   clear a8
                   by_cases a9 : I < (G.length : Int)
                   ·rw [if_pos a9] at H
                    have cW : decide (I < (G.length : Int)) = true := decide_eq_true a9
                    clear a9
                    by_cases ba : 0 ≤ (rd G I)
                    ·rw [if_pos ba] at H
                     have cX : decide (0 ≤ (rd G I)) = true := decide_eq_true ba
                     clear ba
                     by_cases bc : (rd G I) < (ab.length : Int)
                     ·rw [if_pos bc] at H
                      have cY : decide ((rd G I) < (ab.length : Int)) = true := decide_eq_true bc
                      clear bc
                      obtain ⟨bG, bH⟩ : ∃ y_ : List Int, y_ = (ab.set ((rd G I) : Int).toNat z) := ⟨_, rfl⟩
                      replace H : (impl_WalkParts.l2 k4 D bG z (M.length : Int) z G (G.length : Int) (wrap64 (I + 1))) = some r := by first | (rw [bH]; exact H) | exact H
                      have cC := am bH
                      clear bH
                      have H' := am H
                      clear H
                      have bI : 0 ≤ (I : Int) := oda
                      have bJ : I < (G.length : Int) := oda
                      obtain ⟨b5, cD, cZ⟩ := Kd.at_int (Kd.R_reads' aN.out).2.2 I bI bJ
                      cases cD
                      replace bI := eq_true bI
                      replace bJ := eq_true bJ
                      have bK : 0 ≤ ((rd G I) : Int) := oda
                      have bL : ((rd G I) : Int) < ((ab.length : Int) : Int) := oda
                      obtain ⟨az, c8, b6, b7, cE, c9, b8⟩ := Kd.R_form y.out (by omega)
                      (first | cases b6 | (injection b6 with ea_ en_ ec_; (first | subst ea_ | (injection ea_ with ea_; subst ea_)); subst ec_; clear en_))
                      have cF := am b7
                      have da := am b8
                      clear b7 cE b8
                      (first | simp only [add_plain] at bE | skip)
                      obtain ⟨db, dc⟩ := Kd.R_celln 0 y.out ((rd G I) : Int) bK bL
                      replace bK := eq_true bK
                      replace bL := eq_true bL
                      have bM := Kd.R_putg y.out ((rd G I) : Int) z
                      go_wp2_with (first | ((with_reducible refine gate_store (t := 3) (p := 59) rfl ?_); refine store_event (t := 3) (p := 59) (v := ?vo_w41) (w1 := (wr.setCell ⟨az, ((rd G I) : Int).toNat, none⟩ (.int .i64 z))) ?hg ?ho ?hn ?hr ?_; (case ho => rfl); (case hg => rfl); (case hn => rfl); (case hr => first | (go_simp; done) | (go_simp; rfl)); intro bN hw; have hg : wr.grownBy bN (some az) := (by rw [hw]; exact bM.2); have hp_ : Kd.R (Kd.int .i64) 3 bN w.heap.size (fun k_ => some k_ ≠ (.slice (some b5) G.length aM : Value).ownBlock) (.slice (some ⟨az, 0, none⟩) ab.length Y) bG := (by rw [hw, cC.out]; exact bM.1); clear bM; replace O := am (Kd.S_after (v := (.slice (some ⟨az, 0, none⟩) ab.length Y)) (v1 := (.slice (some ⟨az, 0, none⟩) ab.length Y)) (ok := (fun k_ => some k_ ≠ (.slice (some b5) G.length aM : Value).ownBlock)) (by (with_reducible repeat (first | apply Kd.S_alloc | apply Kd.S_drewN | apply Kd.S_drew)); exact Kd.S_mono O.out (fun _ hk => ⟨hk.2, hk.1⟩)) hg (.inl rfl)); replace aN := am (Kd.R_after (v := (.slice (some ⟨az, 0, none⟩) ab.length Y)) (v1 := (.slice (some ⟨az, 0, none⟩) ab.length Y)) (ok := (fun _ => True)) (by (with_reducible repeat (first | apply Kd.R_alloc | apply Kd.R_drewN | apply Kd.R_drew)); exact Kd.R_mono aN.out (fun _ hk => ⟨trivial, hk⟩)) hg (.inl rfl)); replace s := gr s y hg; replace y := am hp_; replace HB := am ((by rw [hw]; exact below_set (HB.out) cF.out : Below w.heap.size w bN)); clear hg hw hp_))
                      (try simp only [← hl4_4])
                      go_roundg k4
                      case measure => have := ag.out; have := aj.out; have := aE.out; have := a7.out; omega
                      case rel => exact ⟨(bG), (wrap64 (I + 1)), eqs, H', ⟨by have := ag.out; have := aj.out; have := aE.out; have := a7.out; omega⟩, ⟨by (try simp only [hl4_2]); (try simp only [hl4_3]); (try simp only [hl4_4]); (with_reducible repeat (first | apply Kd.S_alloc | apply Kd.S_drewN | apply Kd.S_drew)); exact Kd.S_mono O.out (fun _ hk => ⟨hk.2, hk.1⟩)⟩, ⟨by (try simp only [hl4_2]); (try simp only [hl4_3]); (try simp only [hl4_4]); (with_reducible repeat (first | apply Kd.R_alloc | apply Kd.R_drewN | apply Kd.R_drew)); exact y.out⟩, ⟨by (try simp only [hl4_2]); (try simp only [hl4_3]); (try simp only [hl4_4]); (with_reducible repeat (first | apply Kd.R_alloc | apply Kd.R_drewN | apply Kd.R_drew)); exact Kd.R_mono aN.out (fun _ hk => hk.2)⟩, ⟨by (try simp only [hl4_2]); (try simp only [hl4_3]); (try simp only [hl4_4]); exact bf s.out⟩, ⟨bs HB.out⟩⟩
                     ·rw [if_neg bc] at H
                      exact absurd H (by simp)
                    ·rw [if_neg ba] at H
                     exact absurd H (by simp)
                   ·rw [if_neg a9] at H
                    exact absurd H (by simp)
                  ·rw [if_neg a8] at H
                   exact absurd H (by simp)
                 ·rw [if_neg aF] at H
                  have cB : decide (I < (G.length : Int)) = false := decide_eq_false aF
                  clear aF
                  have H' := am H
                  clear H
                  go_wp2
                  (try simp only [← hl4_3, ← hl4_4])
                  go_roundg k4
                  case measure => have := ag.out; have := aj.out; have := aE.out; have := a7.out; omega
                  case rel => exact ⟨(ab), (wrap64 (z + 1)), eqs, H', ⟨by have := ag.out; have := aj.out; have := aE.out; have := a7.out; omega⟩, ⟨by (try simp only [hl4_2]); (try simp only [hl4_3]); (try simp only [hl4_4]); (with_reducible repeat (first | apply Kd.S_alloc | apply Kd.S_drewN | apply Kd.S_drew)); exact Kd.S_mono O.out (fun _ hk => hk.1)⟩, ⟨by (try simp only [hl4_2]); (try simp only [hl4_3]); (try simp only [hl4_4]); (with_reducible repeat (first | apply Kd.R_alloc | apply Kd.R_drewN | apply Kd.R_drew)); exact Kd.R_mono y.out (fun _ hk => trivial)⟩, ⟨by (try simp only [hl4_2]); (try simp only [hl4_3]); (try simp only [hl4_4]); exact bf s.out⟩, ⟨bs HB.out⟩⟩
             ·rw [if_neg aL] at H
              exact absurd H (by simp)
            ·rw [if_neg aK] at H
             exact absurd H (by simp)
           ·rw [if_neg aw] at H
            have ax : decide (z < (M.length : Int)) = false := decide_eq_false aw
            (try simp only [hl4_4] at ax)
            (try simp only [hl4_3] at ax)
            (try simp only [hl4_2] at ax)
            clear aw
            obtain rfl := Option.some.inj H
            go_wp2
            go_ret
            exact ⟨_, eqr, by (with_reducible repeat (first | apply Kd.R_alloc | apply Kd.R_drewN | apply Kd.R_drew)); exact y.out, bs HB.out⟩
     ·rw [if_neg ai] at H
      exact absurd H (by simp)
    ·rw [if_neg ah] at H
     exact absurd H (by simp)

/-! ### laws_eqIntS: function 28 -/
def laws_eqIntS.l0 : Nat → List Int → List Int → Int → Option (Bool)
 | 0, _, _, _ => none
 | k + 1, y, z, s => if s < (y.length : Int) then (if 0 ≤ s then (if s < (z.length : Int) then (if (rd y s) = (rd z s) then (laws_eqIntS.l0 k y z (wrap64 (s + 1))) else (some false)) else (none)) else (none)) else (some true)
def laws_eqIntS.f (k : Nat) (l0 : List Int) (l1 : List Int) : Option (Bool) := if (l0.length : Int) = (l1.length : Int) then (laws_eqIntS.l0 k l0 l1 0) else (some false)
theorem laws_eqIntS.calls (k : Nat) (Z : Option Addr) (c0 : Nat) (l0 : List Int) (A1 : Option Addr) (T : Nat) (l1 : List Int) (r : Bool) (w : World) (aa : Kd.C (Kd.int .i64) w Z l0.length l0) (ac : l0.length ≤ c0) (ad : Kd.C (Kd.int .i64) w A1 l1.length l1) (ae : l1.length ≤ T) (h : laws_eqIntS.f k l0 l1 = some r) :
  Calls Try.prog 28 #[.slice Z l0.length c0, .slice A1 l1.length T] w fun e w' => e = .returned (.bool r) ∧ Drawn0 w w' := by
 have af := am aa
 have av := am ac
 clear aa ac
 have ag := am ad
 have aw := am ae
 clear ad ae
 have H := h; unfold laws_eqIntS.f at H
 clear h
 by_cases y : (l0.length : Int) = (l1.length : Int)
 ·rw [if_pos y] at H
  have ah : ((l0.length : Int) == (l1.length : Int)) = true := beq_iff_eq.mpr y
  have ai : ((l0.length : Int) != (l1.length : Int)) = false := bne_eq_false_iff_eq.mpr y
  have aj : (l0.length == l1.length) = true := by first | simpa using y | (simp at y ⊢; omega)
  clear y
  have H' := am H
  clear H
  go_enter Try.func28, Try.ntmps28
  go_wp2
  repeat (go_quiet (fail); try go_wp2)
  go_loopg [5] k (fun kq v5 w' => ∃ (s : Int), v5 = .int .i64 s ∧ Aside0 (laws_eqIntS.l0 kq l0 l1 s = some r) ∧ Aside0 (kq ≤ k) ∧ Drawn0 w w')
  case atStart => exact ⟨(0), eqs, H', ⟨Nat.le_refl _⟩, drs⟩
  case round =>
   clear H'
   try clear T
   try clear c2
   try clear p2
   try clear y
   try clear ah
   try clear ai
   try clear aj
   obtain ⟨s, rfl, HA, ak, ⟨m1, rfl⟩⟩ := hrel
   cases gk with
   | zero => exact absurd HA.out (by simp [laws_eqIntS.l0])
   | succ k1 =>
    have H := HA.out
    clear HA
    simp only [laws_eqIntS.l0] at H
    by_cases L : s < (l0.length : Int)
    ·rw [if_pos L] at H
     have al : decide (s < (l0.length : Int)) = true := decide_eq_true L
     clear L
     by_cases M : 0 ≤ s
     ·rw [if_pos M] at H
      have ax : decide (0 ≤ s) = true := decide_eq_true M
      clear M
      by_cases O : s < (l1.length : Int)
      ·rw [if_pos O] at H
       have ay : decide (s < (l1.length : Int)) = true := decide_eq_true O
       clear O
       by_cases z : (rd l0 s) = (rd l1 s)
       ·rw [if_pos z] at H
        have an : ((rd l0 s) == (rd l1 s)) = true := beq_iff_eq.mpr z
        have ao : ((rd l0 s) != (rd l1 s)) = false := bne_eq_false_iff_eq.mpr z
        clear z
        have H' := am H
        clear H
        have D : 0 ≤ (s : Int) := oda
        have G : s < (l0.length : Int) := oda
        obtain ⟨ap, X, aq⟩ := Kd.at_int af.out s D G
        cases X
        replace D := eq_true D
        replace G := eq_true G
        have I : 0 ≤ (s : Int) := oda
        have J : s < (l1.length : Int) := oda
        obtain ⟨ar, Y, au⟩ := Kd.at_int ag.out s I J
        cases Y
        replace I := eq_true I
        replace J := eq_true J
        go_wp2
        repeat (go_quiet (fail); try go_wp2)
        go_roundg k1
        case measure => have := ak.out; omega
        case rel => exact ⟨(wrap64 (s + 1)), eqs, H', ⟨by have := ak.out; omega⟩, drs⟩
       ·rw [if_neg z] at H
        have an : ((rd l0 s) == (rd l1 s)) = false := beq_eq_false_iff_ne.mpr z
        have ao : ((rd l0 s) != (rd l1 s)) = true := bne_iff_ne.mpr z
        obtain rfl := Option.some.inj H
        have D : 0 ≤ (s : Int) := oda
        have G : s < (l0.length : Int) := oda
        obtain ⟨ap, X, aq⟩ := Kd.at_int af.out s D G
        cases X
        replace D := eq_true D
        replace G := eq_true G
        have I : 0 ≤ (s : Int) := oda
        have J : s < (l1.length : Int) := oda
        obtain ⟨ar, Y, au⟩ := Kd.at_int ag.out s I J
        cases Y
        replace I := eq_true I
        replace J := eq_true J
        go_wp2
        repeat (go_quiet (fail); try go_wp2)
        go_ret
        exact ⟨eqs, drs⟩
      ·rw [if_neg O] at H
       exact absurd H (by simp)
     ·rw [if_neg M] at H
      exact absurd H (by simp)
    ·rw [if_neg L] at H
     have al : decide (s < (l0.length : Int)) = false := decide_eq_false L
     clear L
     obtain rfl := Option.some.inj H
     go_wp2
     repeat (go_quiet (fail); try go_wp2)
     go_ret
     exact ⟨eqs, drs⟩
 ·rw [if_neg y] at H
  have ah : ((l0.length : Int) == (l1.length : Int)) = false := beq_eq_false_iff_ne.mpr y
  have ai : ((l0.length : Int) != (l1.length : Int)) = true := bne_iff_ne.mpr y
  have aj : (l0.length == l1.length) = false := by first | simpa using y | (simp at y ⊢; omega)
  obtain rfl := Option.some.inj H
  go_enter Try.func28, Try.ntmps28
  go_wp2
  repeat (go_quiet (fail); try go_wp2)
  go_ret
  exact ⟨eqs, drs⟩

/-! ### laws_markIntS: function 29 -/
def laws_markIntS.l0 : Nat → List Int → Int → Int → Option (Int × List Int)
 | 0, _, _, _ => none
 | k + 1, y, z, s => if s < (y.length : Int) then (if 0 ≤ s then (laws_markIntS.l0 k (y.set (s : Int).toNat z) (wrap64 (z + 1)) (wrap64 (s + 1))) else (none)) else (some (z, y))
def laws_markIntS.f (k : Nat) (l0 : List Int) (s : Int) : Option (Int × List Int) := laws_markIntS.l0 k l0 s 0
theorem laws_markIntS.calls (k : Nat) (P0_ : Nat → Prop) (J : Value) (l0 : List Int) (X : Int) (M : Int) (O : List Int) (w0 w : World) (hB : Below w0.heap.size w0 w) (af : Kd.R (Kd.int .i64) 3 w w0.heap.size P0_ J l0) (h : laws_markIntS.f k l0 X = some (M, O)) :
  Calls Try.prog 29 #[J, .int .i64 X] w fun e w' => e = .returned (.int .i64 M) ∧ Kd.R (Kd.int .i64) 3 w' w0.heap.size (fun k_ => (P0_ k_ ∨ w.heap.size ≤ k_)) J O ∧ Below w0.heap.size w0 w' ∧ Kept w w' (fun k_ => P0_ k_) := by
 have ag := am (show Kd.R (Kd.int .i64) 3 w w0.heap.size (fun k_ => (P0_ k_ ∨ w.heap.size ≤ k_)) J l0 from Kd.R_mono af (fun k_ hk => (.inl hk)))
 have HK := am (Kept.refl w (fun k_ => P0_ k_))
 have ap := am hB.size
 have HB := am hB
 clear hB
 have H := h; unfold laws_markIntS.f at H
 clear h
 have H' := am H
 clear H
 go_enter Try.func29, Try.ntmps29
 go_wp2
 go_loopg [1, 5] k (fun kq v1 v5 w' => ∃ (D : List Int) (G : Int) (s : Int), v1 = .int .i64 G ∧ v5 = .int .i64 s ∧ Aside0 (laws_markIntS.l0 kq D G s = some (M, O)) ∧ Aside0 (kq ≤ k) ∧ Aside0 (Kd.R (Kd.int .i64) 3 w' w0.heap.size (fun k_ => (P0_ k_ ∨ w.heap.size ≤ k_)) J D) ∧ Aside0 (Kept w w' (fun k_ => P0_ k_)) ∧ Aside0 (Below w0.heap.size w0 w'))
 case atStart => exact ⟨(l0), (X), (0), eqs, eqs, H', ⟨Nat.le_refl _⟩, ⟨rl ag.out⟩, ⟨ts HK.out⟩, ⟨bs HB.out⟩⟩
 case round =>
  clear H'
  try clear c2
  try clear p2
  obtain ⟨D, G, s, rfl, rfl, HA, ab, y, HK, HB⟩ := hrel
  cases gk with
  | zero => exact absurd HA.out (by simp [laws_markIntS.l0])
  | succ k1 =>
   have H := HA.out
   clear HA
   simp only [laws_markIntS.l0] at H
   by_cases I : s < (D.length : Int)
   ·rw [if_pos I] at H
    have ah : decide (s < (D.length : Int)) = true := decide_eq_true I
    clear I
    by_cases T : 0 ≤ s
    ·rw [if_pos T] at H
     have aq : decide (0 ≤ s) = true := decide_eq_true T
     clear T
     obtain ⟨Y, Z⟩ : ∃ y_ : List Int, y_ = (D.set (s : Int).toNat G) := ⟨_, rfl⟩
     replace H : (laws_markIntS.l0 k1 Y (wrap64 (G + 1)) (wrap64 (s + 1))) = some (M, O) := by first | (rw [Z]; exact H) | exact H
     have ai := am Z
     clear Z
     have H' := am H
     clear H
     obtain ⟨ar, aj, ak⟩ := Kd.R_slice y.out
     subst ak
     have p5 : 0 ≤ (s : Int) := oda
     have q5 : (s : Int) < ((D.length : Int) : Int) := oda
     obtain ⟨L, au, ac, ad, al, av, ae⟩ := Kd.R_form y.out (by omega)
     (first | cases ac | (injection ac with ea_ en_ ec_; (first | subst ea_ | (injection ea_ with ea_; subst ea_)); subst ec_; clear en_))
     have an := am ad
     have aw := am ae
     clear ad al ae
     have HMgo5 := am (show (P0_ L ∨ w.heap.size ≤ L) from (y.out.1 _ rfl))
     obtain ⟨ax, ay⟩ := Kd.R_celln 0 y.out (s : Int) p5 q5
     replace p5 := eq_true p5
     replace q5 := eq_true q5
     have aa := Kd.R_putg y.out (s : Int) G
     go_wp2_with (first | ((with_reducible refine gate_store (t := 3) (p := 15) rfl ?_); refine store_event (t := 3) (p := 15) (v := ?vo_w8) (w1 := (wr.setCell ⟨L, (s : Int).toNat, none⟩ (.int .i64 G))) ?hg ?ho ?hn ?hr ?_; (case ho => rfl); (case hg => rfl); (case hn => rfl); (case hr => first | (go_simp; done) | (go_simp; rfl)); intro w8 hw; have hg : wr.grownBy w8 (some L) := (by rw [hw]; exact aa.2); have hp_ : Kd.R (Kd.int .i64) 3 w8 w0.heap.size (fun k_ => (P0_ k_ ∨ w.heap.size ≤ k_)) (.slice (some ⟨L, 0, none⟩) D.length aj) Y := (by rw [hw, ai.out]; exact aa.1); clear aa; replace HB := am ((by rw [hw]; exact below_set (HB.out) an.out : Below w0.heap.size w0 w8)); replace HK := am (Kept.of_grown (S := (fun k_ => P0_ k_)) hg (ts HK.out) (fun k_ e_ => (y.out.1 k_ e_))); replace y := am hp_; clear hg hw hp_))
     go_roundg k1
     case measure => have := ab.out; omega
     case rel => exact ⟨(Y), (wrap64 (G + 1)), (wrap64 (s + 1)), eqs, eqs, H', ⟨by have := ab.out; omega⟩, ⟨rl y.out⟩, ⟨ts HK.out⟩, ⟨bs HB.out⟩⟩
    ·rw [if_neg T] at H
     exact absurd H (by simp)
   ·rw [if_neg I] at H
    have ah : decide (s < (D.length : Int)) = false := decide_eq_false I
    clear I
    simp only [Option.some.injEq, Prod.mk.injEq] at H
    obtain ⟨rfl, rfl⟩ := H
    obtain ⟨az, aA, ao⟩ := Kd.R_slice y.out
    subst ao
    go_wp2
    go_ret
    exact ⟨eqr, by (with_reducible repeat (first | apply Kd.R_alloc | apply Kd.R_drewN | apply Kd.R_drew)); exact y.out, bs HB.out, ts HK.out⟩

/-! ### laws_heldIntS: function 30 -/
def laws_heldIntS.l0 : Nat → List Int → Int → Int → Option (Int)
 | 0, _, _, _ => none
 | k + 1, y, z, s => if s < (y.length : Int) then (if 0 ≤ s then (if (rd y s) = z then (laws_heldIntS.l0 k y (wrap64 (z + 1)) (wrap64 (s + 1))) else (some (-1))) else (none)) else (some z)
def laws_heldIntS.f (k : Nat) (l0 : List Int) (s : Int) : Option (Int) := laws_heldIntS.l0 k l0 s 0
theorem laws_heldIntS.calls (k : Nat) (T : Option Addr) (X : Nat) (l0 : List Int) (M : Int) (r : Int) (w : World) (Y : Kd.C (Kd.int .i64) w T l0.length l0) (Z : l0.length ≤ X) (h : laws_heldIntS.f k l0 M = some r) :
  Calls Try.prog 30 #[.slice T l0.length X, .int .i64 M] w fun e w' => e = .returned (.int .i64 r) ∧ Drawn0 w w' := by
 have aa := am Y
 have ah := am Z
 clear Y Z
 have H := h; unfold laws_heldIntS.f at H
 clear h
 have H' := am H
 clear H
 go_enter Try.func30, Try.ntmps30
 go_wp2
 go_loopg [1, 5] k (fun kq v1 v5 w' => ∃ (y : Int) (s : Int), v1 = .int .i64 y ∧ v5 = .int .i64 s ∧ Aside0 (laws_heldIntS.l0 kq l0 y s = some r) ∧ Aside0 (kq ≤ k) ∧ Drawn0 w w')
 case atStart => exact ⟨(M), (0), eqs, eqs, H', ⟨Nat.le_refl _⟩, drs⟩
 case round =>
  clear H'
  try clear p2
  obtain ⟨y, s, rfl, rfl, HA, ab, ⟨m1, rfl⟩⟩ := hrel
  cases gk with
  | zero => exact absurd HA.out (by simp [laws_heldIntS.l0])
  | succ k1 =>
   have H := HA.out
   clear HA
   simp only [laws_heldIntS.l0] at H
   by_cases I : s < (l0.length : Int)
   ·rw [if_pos I] at H
    have ac : decide (s < (l0.length : Int)) = true := decide_eq_true I
    clear I
    by_cases L : 0 ≤ s
    ·rw [if_pos L] at H
     have ai : decide (0 ≤ s) = true := decide_eq_true L
     clear L
     by_cases z : (rd l0 s) = y
     ·rw [if_pos z] at H
      have ad : ((rd l0 s) == y) = true := beq_iff_eq.mpr z
      have ae : ((rd l0 s) != y) = false := bne_eq_false_iff_eq.mpr z
      clear z
      have H' := am H
      clear H
      have D : 0 ≤ (s : Int) := oda
      have G : s < (l0.length : Int) := oda
      obtain ⟨af, O, ag⟩ := Kd.at_int aa.out s D G
      cases O
      replace D := eq_true D
      replace G := eq_true G
      go_wp2
      go_roundg k1
      case measure => have := ab.out; omega
      case rel => exact ⟨(wrap64 (y + 1)), (wrap64 (s + 1)), eqs, eqs, H', ⟨by have := ab.out; omega⟩, drs⟩
     ·rw [if_neg z] at H
      have ad : ((rd l0 s) == y) = false := beq_eq_false_iff_ne.mpr z
      have ae : ((rd l0 s) != y) = true := bne_iff_ne.mpr z
      obtain rfl := Option.some.inj H
      have D : 0 ≤ (s : Int) := oda
      have G : s < (l0.length : Int) := oda
      obtain ⟨af, O, ag⟩ := Kd.at_int aa.out s D G
      cases O
      replace D := eq_true D
      replace G := eq_true G
      go_wp2
      go_ret
      exact ⟨eqs, drs⟩
    ·rw [if_neg L] at H
     exact absurd H (by simp)
   ·rw [if_neg I] at H
    have ac : decide (s < (l0.length : Int)) = false := decide_eq_false I
    clear I
    obtain rfl := Option.some.inj H
    go_wp2
    go_ret
    exact ⟨eqs, drs⟩

end Go.Proofs.Ytohmemckdogljaa.QFnExactWalkParts
