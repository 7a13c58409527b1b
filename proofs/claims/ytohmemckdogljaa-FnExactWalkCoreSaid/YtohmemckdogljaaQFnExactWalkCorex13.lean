/- Contracts of the Go functions that this law reaches: each does what its plain Lean function says. No condition. -/
import Derived.Test.YtohmemckdogljaaQFnExactWalkCorex0
import Derived.Test.YtohmemckdogljaaQFnExactWalkCorex2
import Derived.Test.YtohmemckdogljaaQFnExactWalkCorex3
import Derived.Test.YtohmemckdogljaaQFnExactWalkCorex8
import Derived.Test.YtohmemckdogljaaQFnExactWalkCorex10
import Derived.Test.YtohmemckdogljaaQFnExactWalkCorex12
namespace Go.Proofs.Ytohmemckdogljaa.QFnExactWalkCore
open Go.RowKit Go.Proofs.YtohmemckdogljaaW.PrintWords Go.Proofs.YtohmemckdogljaaW.PrintLast Go.Proofs.YtohmemckdogljaaW.PrintMore Go.Proofs.Ytohmemckdogljaa.Bl
attribute [local go_sem] max2_int min2_int max_two min_two max_three min_three max_four min_four   -- for this text's walks alone
set_option linter.unusedVariables false
set_option linter.unusedSimpArgs false
set_option maxHeartbeats 8000000
set_option maxRecDepth 100000

/-! ### impl_WalkCore: function 32 -/
mutual
def impl_WalkCore.j0 : Nat → Bool → List (S36) → List (S56) → Option (List Int)
 | 0, _, _, _ => none
 | k + 1, z, D, G => if z = true then (some ([] : List Int)) else ((impl_nearPlaces.f k D G).bind fun s => (if 0 ≤ (s.length : Int) then (if ((s.length : Int) : Int).toNat ≤ 35184372088832 then (if ((s.length : Int) : Int).toNat ≤ 281474976710656 then ((some (List.replicate ((s.length : Int) : Int).toNat false : List Bool)).bind fun y => (impl_WalkCore.l0 k s (List.replicate ((s.length : Int) : Int).toNat 0) y (y.length : Int) 0)) else (none)) else (none)) else (none)))
def impl_WalkCore.l0 : Nat → List (List Int) → List Int → List Bool → Int → Int → Option (List Int)
 | 0, _, _, _, _, _ => none
 | k + 1, z, D, y, G, s => if s < G then (if 0 ≤ s then (if s < (y.length : Int) then (impl_WalkCore.l0 k z D (y.set (s : Int).toNat true) G (wrap64 (s + 1))) else (none)) else (none)) else (impl_WalkCore.l1 k z D y 1)
def impl_WalkCore.l1 : Nat → List (List Int) → List Int → List Bool → Int → Option (List Int)
 | 0, _, _, _, _ => none
 | k + 1, y, s, G, z => (impl_peel.f k y G z).bind fun D => (if D.1 = true then (impl_WalkCore.l2 k y s D.2 z (s.length : Int) 0) else (some s))
def impl_WalkCore.l2 : Nat → List (List Int) → List Int → List Bool → Int → Int → Int → Option (List Int)
 | 0, _, _, _, _, _, _ => none
 | k + 1, G, z, y, D, I, s => if s < I then (if 0 ≤ s then (if s < (y.length : Int) then (if rdOf false y s = true then (if s < (z.length : Int) then (impl_WalkCore.l2 k G (z.set (s : Int).toNat D) y D I (wrap64 (s + 1))) else (none)) else (impl_WalkCore.l2 k G z y D I (wrap64 (s + 1)))) else (none)) else (none)) else (impl_WalkCore.l1 k G z y (wrap64 (D + 1)))
end
def impl_WalkCore.f (k : Nat) (s : List (S36)) (y : List (S56)) : Option (List Int) := (impl_GraphOk.f k s y).bind fun z => (if z = true then (impl_WalkCore.j0 k ((s.length : Int) == 0) s y) else (impl_WalkCore.j0 k true s y))
theorem impl_WalkCore.calls (k : Nat) (ae : Option Addr) (af : Nat) (J : List (S36)) (ag : Option Addr) (ah : Nat) (L : List (S56)) (r : List Int) (w : World) (bP : Kd.C k36 w ae J.length J) (bQ : J.length ≤ af) (bR : Kd.C k56 w ag L.length L) (bS : L.length ≤ ah) (h : impl_WalkCore.f k J L = some r) :
  Calls Try.prog 32 #[.agg #[.slice ae J.length af, .slice ag L.length ah]] w fun e w' => ∃ bT : Value, e = .returned (bT) ∧ Kd.R (Kd.int .i64) 3 w' w.heap.size (fun _ => True) bT r ∧ Below w.heap.size w w' := by
 have hu34 := Try.underlying34
 have be := am bP
 have bg := am bQ
 clear bP bQ
 have bh := am bR
 have bi := am bS
 clear bR bS
 have HB := am (Below.refl w.heap.size w)
 have H := h; unfold impl_WalkCore.f at H
 clear h
 have bj := am H
 clear H
 go_enter Try.func32, Try.ntmps32
 go_upto_region 1 with (first | ((with_reducible refine gd 1 rfl ?_); refine bx 1 (cs := #[.slice ae J.length af, .slice ag L.length ah]) (t := 34) ?_; intro aV hg w3 hbox hb; have s := am hbox; have cE := gwb HB hg; replace HB := hs HB hb; clear hb hbox hg))
 (try simp only [Act.put, List.setIfInBounds_toArray, List.set_cons_zero, List.set_cons_succ])
 go_cut [17] (fun cf wc => ∃ (kq : Nat) (aW : Bool), cf = .bool aW ∧ Aside0 (impl_WalkCore.j0 kq aW J L = some r) ∧ Aside0 (kq ≤ k) ∧ Aside0 (wc.heap[aV]? = some (.cells #[(.slice ae J.length af), (.slice ag L.length ah)] 34 (0, 0))) ∧ Aside0 (Below w.heap.size w wc))
 case first =>
  have H := bj.out
  clear bj
  replace H := Option.bind_eq_some_iff.mp H
  obtain ⟨cg, bU, H⟩ := H
  try dsimp -simprocs only at H
  have A4 := am bU
  clear bU
  by_cases c5 : cg = true
  ·subst c5
   replace H : (impl_WalkCore.j0 k ((J.length : Int) == 0) J L) = some r := by rw [if_pos rfl] at H; exact H
   have H' := am H
   clear H
   obtain ⟨aX, aY⟩ := bc2 (w := w3) s.out
   have aZ := blk_frozen s.out
   go_wp2_with (first | ((with_reducible refine gc 34 rfl ?_); refine gl 10 Try.func34 #[.agg #[.slice ae J.length af, .slice ag L.length ah]] ?_; (with_reducible refine (impl_GraphOk.calls k _ _ J _ _ L true _ ?ai ?aj ?ak ?al A4.out).mono ?_); (case ai => exact Kd.C_below be.out (bs HB.out)); (case aj => exact bg.out); (case ak => exact Kd.C_below bh.out (bs HB.out)); (case al => exact bi.out); rintro e w7 ⟨rfl, hb⟩; refine ⟨_, rfl, ?_⟩; replace s := bb s hb rfl; replace HB := hs HB hb; (try clear hb); obtain ⟨a2, a3⟩ := bc2 (w := w7) s.out; have a4 := blk_frozen s.out))
   go_meet
   case rel => exact ⟨_, (((J.length : Int) == 0)), eqs, H', ⟨by first | omega | exact Nat.le_refl _⟩, ⟨bf s.out⟩, ⟨bs HB.out⟩⟩
  ·replace c5 := Bool.eq_false_iff.mpr c5
   subst c5
   have H1 : (impl_WalkCore.j0 k true J L) = some r := by rw [if_neg (show ¬ (false = true) by decide)] at H; exact H
   clear H
   have H := H1
   clear H1
   have H' := am H
   clear H
   obtain ⟨a5, a6⟩ := bc2 (w := w3) s.out
   have a7 := blk_frozen s.out
   go_wp2_with (first | ((with_reducible refine gc 34 rfl ?_); refine gl 10 Try.func34 #[.agg #[.slice ae J.length af, .slice ag L.length ah]] ?_; (with_reducible refine (impl_GraphOk.calls k _ _ J _ _ L false _ ?ai ?aj ?ak ?al A4.out).mono ?_); (case ai => exact Kd.C_below be.out (bs HB.out)); (case aj => exact bg.out); (case ak => exact Kd.C_below bh.out (bs HB.out)); (case al => exact bi.out); rintro e cF ⟨rfl, hb⟩; refine ⟨_, rfl, ?_⟩; replace s := bb s hb rfl; replace HB := hs HB hb; (try clear hb)))
   go_meet
   case rel => exact ⟨_, (true), eqs, H', ⟨by first | omega | exact Nat.le_refl _⟩, ⟨bf s.out⟩, ⟨bs HB.out⟩⟩
 case rest =>
  clear bj
  try clear p2
  try clear c3
  try clear c5
  try clear aX aY
  try clear a2 a3
  try clear a5 a6
  try clear aZ
  try clear a4
  try clear a7
  obtain ⟨kq, aW, rfl, HA, ao, s, HB⟩ := hcut
  cases kq with
  | zero => exact absurd HA.out (by simp [impl_WalkCore.j0])
  | succ aw =>
   have H := HA.out
   clear HA
   simp only [impl_WalkCore.j0] at H
   by_cases ax : aW = true
   ·subst ax
    replace H : (some ([] : List Int)) = some r := by rw [if_pos rfl] at H; exact H
    obtain rfl := Option.some.inj H
    go_wp2
    go_ret
    exact ⟨_, eqr, by first | exact Kd.R_nil _ _ _ _ _ | exact Kd.N_nil _ _ _ _ _ | exact Kd.V_nil _ _ _ _ _ | exact Kd.Q_nil _ _ _ _ _ | exact Kd.S_nil _ _ _ _ _, bs HB.out⟩
   ·replace ax := Bool.eq_false_iff.mpr ax
    subst ax
    have H1 : ((impl_nearPlaces.f aw J L).bind fun y => (if 0 ≤ (y.length : Int) then (if ((y.length : Int) : Int).toNat ≤ 35184372088832 then (if ((y.length : Int) : Int).toNat ≤ 281474976710656 then ((some (List.replicate ((y.length : Int) : Int).toNat false : List Bool)).bind fun aa => (impl_WalkCore.l0 aw y (List.replicate ((y.length : Int) : Int).toNat 0) aa (aa.length : Int) 0)) else (none)) else (none)) else (none))) = some r := by rw [if_neg (show ¬ (false = true) by decide)] at H; exact H
    clear H
    have H := H1
    clear H1
    replace H := Option.bind_eq_some_iff.mp H
    obtain ⟨y, bV, H⟩ := H
    try dsimp -simprocs only at H
    have ch := am bV
    clear bV
    by_cases ap : 0 ≤ (y.length : Int)
    ·rw [if_pos ap] at H
     have bk := eq_true ap
     have bl : decide (0 ≤ (y.length : Int)) = true := decide_eq_true ap
     clear ap
     by_cases aq : ((y.length : Int) : Int).toNat ≤ 35184372088832
     ·rw [if_pos aq] at H
      have bm := eq_true aq
      have bn : decide (((y.length : Int) : Int).toNat ≤ 35184372088832) = true := decide_eq_true aq
      clear aq
      obtain ⟨aD, bo⟩ : ∃ y_ : List Int, y_ = (List.replicate ((y.length : Int) : Int).toNat 0) := ⟨_, rfl⟩
      replace H : (if ((y.length : Int) : Int).toNat ≤ 281474976710656 then ((some (List.replicate ((y.length : Int) : Int).toNat false : List Bool)).bind fun aa => (impl_WalkCore.l0 aw y aD aa (aa.length : Int) 0)) else (none)) = some r := by first | (rw [bo]; exact H) | exact H
      have bW := am bo
      clear bo
      by_cases ar : ((y.length : Int) : Int).toNat ≤ 281474976710656
      ·rw [if_pos ar] at H
       have br := eq_true ar
       have bt : decide (((y.length : Int) : Int).toNat ≤ 281474976710656) = true := decide_eq_true ar
       clear ar
       obtain ⟨aa, bu⟩ : ∃ y_ : List Bool, y_ = (List.replicate ((y.length : Int) : Int).toNat false) := ⟨_, rfl⟩
       replace H : (impl_WalkCore.l0 aw y aD aa (aa.length : Int) 0) = some r := by first | (rw [bu]; exact H) | exact H
       have bX := am bu
       clear bu
       have H' := am H
       clear H
       obtain ⟨bv, bw⟩ := bc2 (w := wc) s.out
       have bz := blk_frozen s.out
       go_wp2_with (first | ((with_reducible refine gc 68 rfl ?_); refine gl 19 Try.func68 #[.agg #[.slice ae J.length af, .slice ag L.length ah]] ?_; (with_reducible refine (impl_nearPlaces.calls aw _ _ J _ _ L y _ ?ai ?aj ?ak ?al ch.out).mono ?_); (case ai => exact Kd.C_below be.out (bs HB.out)); (case aj => exact bg.out); (case ak => exact Kd.C_below bh.out (bs HB.out)); (case al => exact bi.out); rintro e cG ⟨cH, rfl, bY, hb⟩; refine ⟨_, rfl, ?_⟩; have aE := am (Kd.S_lower bY (below_size (bs HB.out))); replace s := bb s hb rfl; replace HB := hs HB hb; (try clear bY hb); obtain ⟨aO, aP, ci⟩ := Kd.S_slice aE.out; subst ci) | ((with_reducible refine gd 22 rfl ?_); refine Kd.R_make (Kd.int .i64) _ 3 rfl (N := 22) rfl 43 _ _ rfl (y.length : Int) rfl rfl Try.underlying43 (.int .i64 0) 8 info3 rfl (by decide) (by omega) 0 (ok := fun _ => True) (okp := fun _ => True) rfl (fun _ hk => hk) trivial (oda) (Nat.le_trans (Nat.mul_le_mul_right _ (oda : (y.length : Int).toNat ≤ 35184372088832)) (by omega)) (Below.refl _ _) (Nat.le_refl _) ?_; intro aF cI aG hb hg_ hnew_; clear hg_ hnew_; (first | rw [← bW.out] at aG | (simp only [Int.reduceToNat] at aG; rw [← bW.out] at aG)); replace aE := am (Kd.S_elder' (by (with_reducible repeat (first | apply Kd.S_alloc | apply Kd.S_drewN | apply Kd.S_drew)); exact aE.out) (Kd.R_base aG) hb); have bA := am (Kd.R_lower aG (below_size (bs HB.out))); replace s := bb s hb rfl; replace HB := hs HB hb; clear hb aG) | ((with_reducible refine gd 25 rfl ?_); refine Kd.R_make Kd.bool _ 4 rfl (N := 25) rfl 91 _ _ rfl (y.length : Int) rfl rfl Try.underlying91 (.bool false) 1 info4 rfl (by decide) (by omega) false (ok := fun _ => True) (okp := fun _ => True) rfl (fun _ hk => hk) trivial (oda) (Nat.le_trans (Nat.mul_le_mul_right _ (oda : (y.length : Int).toNat ≤ 281474976710656)) (by omega)) (Below.refl _ _) (Nat.le_refl _) ?_; intro cJ cK aQ hb hg_ hnew_; clear hg_ hnew_; (first | rw [← bX.out] at aQ | (simp only [Int.reduceToNat] at aQ; rw [← bX.out] at aQ)); replace aE := am (Kd.S_below (by (with_reducible repeat (first | apply Kd.S_alloc | apply Kd.S_drewN | apply Kd.S_drew)); exact aE.out) hb); replace bA := rb bA hb; have bZ := am (Kd.R_lower aQ (below_size (bs HB.out))); replace s := bb s hb rfl; replace HB := hs HB hb; clear hb aQ; obtain ⟨an, ab, cj⟩ := Kd.R_slice bZ.out; subst cj))
       go_loopg [28] aw (fun kq ck w' => ∃ (ac : List Bool) (T : Int), ck = .int .i64 T ∧ Aside0 (impl_WalkCore.l0 kq y aD ac (aa.length : Int) T = some r) ∧ Aside0 (kq ≤ aw) ∧ Aside0 (Kd.S (Kd.slice 3 (Kd.int .i64)) 43 w' w.heap.size (fun k_ => some k_ ≠ (aF : Value).ownBlock) (.slice aO y.length aP) y) ∧ Aside0 (Kd.R (Kd.int .i64) 3 w' w.heap.size (fun _ => True) aF aD) ∧ Aside0 (Kd.R Kd.bool 4 w' w.heap.size (fun _ => True) (.slice an aa.length ab) ac) ∧ Aside0 (w'.heap[aV]? = some (.cells #[(.slice ae J.length af), (.slice ag L.length ah)] 34 (0, 0))) ∧ Aside0 (Below w.heap.size w w'))
       case atStart => exact ⟨(aa), (0), eqs, H', ⟨Nat.le_refl _⟩, ⟨by (with_reducible repeat (first | apply Kd.S_alloc | apply Kd.S_drewN | apply Kd.S_drew)); exact Kd.S_mono aE.out (fun _ hk => hk.2)⟩, ⟨rl bA.out⟩, ⟨rl bZ.out⟩, ⟨bf s.out⟩, ⟨bs HB.out⟩⟩
       case round =>
        clear H'
        try clear c1
        try clear p2
        try clear c3
        try clear c5
        try clear c6
        try clear ax
        try clear ap
        try clear bk
        try clear bl
        try clear aq
        try clear bm
        try clear bn
        try clear ar
        try clear br
        try clear bt
        try clear bv bw
        try clear aX aY
        try clear a2 a3
        try clear a5 a6
        try clear bz
        try clear aZ
        try clear a4
        try clear a7
        try clear p2
        obtain ⟨ac, T, rfl, HA, au, I, G, z, s, HB⟩ := hrel
        have hl5_2 := (Kd.R_reads' z.out).1
        rw [hl5_2] at z
        (try simp only [hl5_2])
        (try simp only [hl5_2] at s)
        (try simp only [hl5_2] at I)
        (try simp only [hl5_2] at G)
        cases gk with
        | zero => exact absurd HA.out (by simp [impl_WalkCore.l0])
        | succ k2 =>
         have H := HA.out
         clear HA
         simp only [impl_WalkCore.l0] at H
         by_cases av : T < (aa.length : Int)
         ·rw [if_pos av] at H
          have aR : decide (T < (aa.length : Int)) = true := decide_eq_true av
          (try simp only [hl5_2] at aR)
          clear av
          by_cases aH : 0 ≤ T
          ·rw [if_pos aH] at H
           have b0 : decide (0 ≤ T) = true := decide_eq_true aH
           clear aH
           by_cases aI : T < (ac.length : Int)
           ·rw [if_pos aI] at H
            have bB : decide (T < (ac.length : Int)) = true := decide_eq_true aI
            (try simp only [hl5_2] at bB)
            clear aI
            obtain ⟨bC, bD⟩ : ∃ y_ : List Bool, y_ = (ac.set (T : Int).toNat true) := ⟨_, rfl⟩
            replace H : (impl_WalkCore.l0 k2 y aD bC (aa.length : Int) (wrap64 (T + 1))) = some r := by first | (rw [bD]; exact H) | exact H
            have cl := am bD
            clear bD
            have H' := am H
            clear H
            have ay : 0 ≤ (T : Int) := oda
            have az : (T : Int) < ((ac.length : Int) : Int) := oda
            obtain ⟨aS, cL, b1, b2, cm, cM, b3⟩ := Kd.R_form z.out (by omega)
            (first | cases b1 | (injection b1 with ea_ en_ ec_; (first | subst ea_ | (injection ea_ with ea_; subst ea_)); subst ec_; clear en_))
            have cn := am b2
            have cN := am b3
            clear b2 cm b3
            obtain ⟨b4, cO⟩ := Kd.R_celln false z.out (T : Int) ay az
            replace ay := eq_true ay
            replace az := eq_true az
            have bE := Kd.R_putg z.out (T : Int) true
            go_wp2_with (first | ((with_reducible refine gate_store (t := 4) (p := 33) rfl ?_); refine store_event (t := 4) (p := 33) (v := ?vo_w29) (w1 := (wr.setCell ⟨aS, (T : Int).toNat, none⟩ (.bool true))) ?hg ?ho ?hn ?hr ?_; (case ho => rfl); (case hg => rfl); (case hn => rfl); (case hr => first | (go_simp; done) | (go_simp; rfl)); intro bF hw; have hg : wr.grownBy bF (some aS) := (by rw [hw]; exact bE.2); have hp_ : Kd.R Kd.bool 4 bF w.heap.size (fun _ => True) (.slice (some ⟨aS, 0, none⟩) ac.length ab) bC := (by rw [hw, cl.out]; exact bE.1); clear bE; replace I := am (Kd.S_over' (v := (.slice (some ⟨aS, 0, none⟩) ac.length ab)) (by (with_reducible repeat (first | apply Kd.S_alloc | apply Kd.S_drewN | apply Kd.S_drew)); exact I.out) (Kd.R_typed z.out) (by decide) hg); replace G := am (Kd.R_over' (v := (.slice (some ⟨aS, 0, none⟩) ac.length ab)) (rl G.out) (Kd.R_typed z.out) (by decide) hg); replace s := gr s z hg; replace z := am hp_; replace HB := am ((by rw [hw]; exact below_set (HB.out) cn.out : Below w.heap.size w bF)); clear hg hw hp_))
            (try simp only [← hl5_2])
            go_roundg k2
            case measure => have := ao.out; have := au.out; omega
            case rel => exact ⟨(bC), (wrap64 (T + 1)), eqs, H', ⟨by have := ao.out; have := au.out; omega⟩, ⟨by (try simp only [hl5_2]); (with_reducible repeat (first | apply Kd.S_alloc | apply Kd.S_drewN | apply Kd.S_drew)); exact I.out⟩, ⟨by (try simp only [hl5_2]); (with_reducible repeat (first | apply Kd.R_alloc | apply Kd.R_drewN | apply Kd.R_drew)); exact G.out⟩, ⟨by (try simp only [hl5_2]); (with_reducible repeat (first | apply Kd.R_alloc | apply Kd.R_drewN | apply Kd.R_drew)); exact z.out⟩, ⟨by (try simp only [hl5_2]); exact bf s.out⟩, ⟨bs HB.out⟩⟩
           ·rw [if_neg aI] at H
            exact absurd H (by simp)
          ·rw [if_neg aH] at H
           exact absurd H (by simp)
         ·rw [if_neg av] at H
          have aR : decide (T < (aa.length : Int)) = false := decide_eq_false av
          (try simp only [hl5_2] at aR)
          clear av
          have H' := am H
          clear H
          go_wp2
          go_loopg [7] k2 (fun kq v7 w' => ∃ (X : List Int) (ad : List Bool) (M : Int), v7 = .int .i64 M ∧ Aside0 (impl_WalkCore.l1 kq y X ad M = some r) ∧ Aside0 (kq ≤ k2) ∧ Aside0 (Kd.S (Kd.slice 3 (Kd.int .i64)) 43 w' w.heap.size (fun k_ => some k_ ≠ (aF : Value).ownBlock) (.slice aO y.length aP) y) ∧ Aside0 (Kd.R (Kd.int .i64) 3 w' w.heap.size (fun _ => True) aF X) ∧ Aside0 (Kd.R Kd.bool 4 w' w.heap.size (fun _ => True) (.slice an ac.length ab) ad) ∧ Aside0 (w'.heap[aV]? = some (.cells #[(.slice ae J.length af), (.slice ag L.length ah)] 34 (0, 0))) ∧ Aside0 (Below w.heap.size w w'))
          case atStart => exact ⟨(aD), (ac), (1), eqs, H', ⟨Nat.le_refl _⟩, ⟨by (try simp only [hl5_2]); (with_reducible repeat (first | apply Kd.S_alloc | apply Kd.S_drewN | apply Kd.S_drew)); exact I.out⟩, ⟨by (try simp only [hl5_2]); (with_reducible repeat (first | apply Kd.R_alloc | apply Kd.R_drewN | apply Kd.R_drew)); exact G.out⟩, ⟨by (try simp only [hl5_2]); (with_reducible repeat (first | apply Kd.R_alloc | apply Kd.R_drewN | apply Kd.R_drew)); exact z.out⟩, ⟨by (try simp only [hl5_2]); exact bf s.out⟩, ⟨bs HB.out⟩⟩
          case round =>
           clear H'
           try clear c1
           try clear c2
           try clear p2
           try clear q2
           try clear co
           try clear cp
           try clear c3
           try clear c5
           try clear c6
           try clear p6
           try clear ax
           try clear ap
           try clear bk
           try clear bl
           try clear aq
           try clear bm
           try clear bn
           try clear ar
           try clear br
           try clear bt
           try clear av
           try clear aR
           try clear aH
           try clear b0
           try clear aI
           try clear bB
           try clear ay
           try clear az
           try clear ct
           try clear cu
           try clear bv bw
           try clear aX aY
           try clear a2 a3
           try clear a5 a6
           try clear bz
           try clear aZ
           try clear a4
           try clear a7
           try clear b4
           try clear p2
           try clear ay
           try clear az
           obtain ⟨X, ad, M, rfl, HA, aJ, I, G, z, s, HB⟩ := hrel
           have hl5_3 := (Kd.R_reads' z.out).1
           rw [hl5_3] at z
           (try simp only [hl5_3])
           (try simp only [hl5_3] at s)
           (try simp only [hl5_3] at I)
           (try simp only [hl5_3] at G)
           cases gk with
           | zero => exact absurd HA.out (by simp [impl_WalkCore.l1])
           | succ k3 =>
            have H := HA.out
            clear HA
            simp only [impl_WalkCore.l1] at H
            replace H := Option.bind_eq_some_iff.mp H
            obtain ⟨⟨cv, Y⟩, b5, H⟩ := H
            try dsimp -simprocs only at H
            have b6 := am b5
            clear b5
            by_cases aT : cv = true
            ·subst aT
             replace H : (impl_WalkCore.l2 k3 y X Y M (X.length : Int) 0) = some r := by rw [if_pos rfl] at H; exact H
             have H' := am H
             clear H
             go_wp2_with (first | ((with_reducible refine gc 74 rfl ?_); refine gl 38 Try.func74 #[.slice aO y.length aP, .slice an ad.length ab, .int .i64 M] ?_; (with_reducible refine (impl_peel.calls k3 _ _ y (fun k_ => some k_ = (.slice an ad.length ab : Value).ownBlock) (.slice an ad.length ab) ad M true Y w _ ?ai ?aj ?ak ?al b6.out).mono ?_); (case ai => exact bs HB.out); (case aj => exact Kd.C_kept_own ((Kd.S_R (Kd.S_apart' I.out (Kd.R_typed z.out) (by decide)))) (fun k_ hk_ hs_ => (hk_.2) hs_)); (case ak => exact (Kd.S_reads' I.out).2.1); (case al => exact Kd.R_tight rfl z.out); rintro e cP ⟨rfl, aU, hb, hkp⟩; refine ⟨_, rfl, ?_⟩; replace I := am (Kd.S_mono (ok' := fun k_ => some k_ ≠ (aF : Value).ownBlock) (Kd.S_keptB ((Kd.S_apart' I.out (Kd.R_typed z.out) (by decide))) hkp (fun k_ hk_ hs_ => (hk_.2) hs_)) (fun k_ hk_ => hk_.1.1)); replace G := am (Kd.R_mono (ok' := fun k_ => True) (Kd.R_keptB ((Kd.R_apart' G.out (Kd.R_typed z.out) (by decide))) hkp (fun k_ hk_ hs_ => (hk_.2) hs_)) (fun k_ hk_ => trivial)); replace s := am (blk_kept (bf s.out) hkp (fun hs_ => (fun e_ => (Kd.R_ne z.out s.out (by decide)) e_) hs_)); replace z := am (Kd.R_reok rfl aU (fun k_ e_ => z.out.1 k_ e_)); replace HB := am hb; (try clear hb hkp); (try clear aU); obtain ⟨b7, aK, cy⟩ := Kd.R_slice G.out; subst cy))
             go_loopg [43] k3 (fun kq cz w' => ∃ (O : List Int) (D : Int), cz = .int .i64 D ∧ Aside0 (impl_WalkCore.l2 kq y O Y M (X.length : Int) D = some r) ∧ Aside0 (kq ≤ k3) ∧ Aside0 (Kd.S (Kd.slice 3 (Kd.int .i64)) 43 w' w.heap.size (fun k_ => some k_ ≠ ((.slice b7 X.length aK) : Value).ownBlock) (.slice aO y.length aP) y) ∧ Aside0 (Kd.R (Kd.int .i64) 3 w' w.heap.size (fun _ => True) (.slice b7 X.length aK) O) ∧ Aside0 (Kd.R Kd.bool 4 w' w.heap.size (fun _ => True) (.slice an ad.length ab) Y) ∧ Aside0 (w'.heap[aV]? = some (.cells #[(.slice ae J.length af), (.slice ag L.length ah)] 34 (0, 0))) ∧ Aside0 (Below w.heap.size w w'))
             case atStart => exact ⟨(X), (0), eqs, H', ⟨Nat.le_refl _⟩, ⟨by (try simp only [hl5_2]); (try simp only [hl5_3]); (with_reducible repeat (first | apply Kd.S_alloc | apply Kd.S_drewN | apply Kd.S_drew)); exact I.out⟩, ⟨by (try simp only [hl5_2]); (try simp only [hl5_3]); (with_reducible repeat (first | apply Kd.R_alloc | apply Kd.R_drewN | apply Kd.R_drew)); exact G.out⟩, ⟨by (try simp only [hl5_2]); (try simp only [hl5_3]); (with_reducible repeat (first | apply Kd.R_alloc | apply Kd.R_drewN | apply Kd.R_drew)); exact z.out⟩, ⟨by (try simp only [hl5_2]); (try simp only [hl5_3]); exact bf s.out⟩, ⟨bs HB.out⟩⟩
             case round =>
              clear H'
              try clear c1
              try clear c2
              try clear p2
              try clear q2
              try clear co
              try clear cp
              try clear c3
              try clear c5
              try clear c6
              try clear p6
              try clear c7
              try clear ax
              try clear ap
              try clear bk
              try clear bl
              try clear aq
              try clear bm
              try clear bn
              try clear ar
              try clear br
              try clear bt
              try clear av
              try clear aR
              try clear aH
              try clear b0
              try clear aI
              try clear bB
              try clear ay
              try clear az
              try clear ct
              try clear cu
              try clear aT
              try clear cQ
              try clear bv bw
              try clear aX aY
              try clear a2 a3
              try clear a5 a6
              try clear bz
              try clear aZ
              try clear a4
              try clear a7
              try clear b4
              try clear p2
              try clear ay
              try clear p6
              try clear q2
              try clear az
              obtain ⟨O, D, rfl, HA, aL, I, G, z, s, HB⟩ := hrel
              have hl4_4 := (Kd.R_reads' G.out).1
              rw [hl4_4] at G
              (try simp only [hl4_4])
              (try simp only [hl4_4] at s)
              (try simp only [hl4_4] at I)
              (try simp only [hl4_4] at z)
              have hl5_4 := (Kd.R_reads' z.out).1
              rw [hl5_4] at z
              (try simp only [hl5_4])
              (try simp only [hl5_4] at s)
              (try simp only [hl5_4] at I)
              (try simp only [hl5_4] at G)
              cases gk with
              | zero => exact absurd HA.out (by simp [impl_WalkCore.l2])
              | succ k4 =>
               have H := HA.out
               clear HA
               simp only [impl_WalkCore.l2] at H
               by_cases aM : D < (X.length : Int)
               ·rw [if_pos aM] at H
                have aA : decide (D < (X.length : Int)) = true := decide_eq_true aM
                (try simp only [hl5_4] at aA)
                (try simp only [hl4_4] at aA)
                (try simp only [hl5_3] at aA)
                clear aM
                by_cases a8 : 0 ≤ D
                ·rw [if_pos a8] at H
                 have cR : decide (0 ≤ D) = true := decide_eq_true a8
                 clear a8
                 by_cases a9 : D < (Y.length : Int)
                 ·rw [if_pos a9] at H
                  have cS : decide (D < (Y.length : Int)) = true := decide_eq_true a9
                  clear a9
                  obtain ⟨bq37, hbq37⟩ : ∃ b_ : Bool, b_ = (rdOf false Y D) := ⟨_, rfl⟩
                  replace H : (if bq37 = true then (if D < (O.length : Int) then (impl_WalkCore.l2 k4 y (O.set (D : Int).toNat M) Y M (X.length : Int) (wrap64 (D + 1))) else (none)) else (impl_WalkCore.l2 k4 y O Y M (X.length : Int) (wrap64 (D + 1)))) = some r := by rw [← hbq37] at H; exact H
                  have Nbq37 := am hbq37
                  clear hbq37
                  by_cases ba : bq37 = true
                  ·subst ba
                   replace H : (if D < (O.length : Int) then (impl_WalkCore.l2 k4 y (O.set (D : Int).toNat M) Y M (X.length : Int) (wrap64 (D + 1))) else (none)) = some r := by rw [if_pos rfl] at H; exact H
                   by_cases bc : D < (O.length : Int)
                   ·rw [if_pos bc] at H
                    have bG : decide (D < (O.length : Int)) = true := decide_eq_true bc
                    (try simp only [hl5_4] at bG)
                    (try simp only [hl4_4] at bG)
                    (try simp only [hl5_3] at bG)
                    clear bc
                    obtain ⟨bH, bI⟩ : ∃ y_ : List Int, y_ = (O.set (D : Int).toNat M) := ⟨_, rfl⟩
                    replace H : (impl_WalkCore.l2 k4 y bH Y M (X.length : Int) (wrap64 (D + 1))) = some r := by first | (rw [bI]; exact H) | exact H
                    have cA := am bI
                    clear bI
                    have H' := am H
                    clear H
                    have aB : 0 ≤ (D : Int) := oda
                    have aC : D < (Y.length : Int) := oda
                    obtain ⟨cB, bJ, bK⟩ := Kd.at_bool (Kd.R_reads' z.out).2.2 D aB aC
                    (try rw [← Nbq37.out] at bK)
                    cases bJ
                    replace aB := eq_true aB
                    replace aC := eq_true aC
                    have bL : 0 ≤ (D : Int) := oda
                    have bM : (D : Int) < ((O.length : Int) : Int) := oda
                    obtain ⟨aN, cT, b8, b9, cC, cU, ce⟩ := Kd.R_form G.out (by omega)
                    (first | cases b8 | (injection b8 with ea_ en_ ec_; (first | subst ea_ | (injection ea_ with ea_; subst ea_)); subst ec_; clear en_))
                    have cD := am b9
                    have cV := am ce
                    clear b9 cC ce
                    obtain ⟨cW, cX⟩ := Kd.R_celln 0 G.out (D : Int) bL bM
                    replace bL := eq_true bL
                    replace bM := eq_true bM
                    have bN := Kd.R_putg G.out (D : Int) M
                    go_wp2_with (first | ((with_reducible refine gate_store (t := 3) (p := 53) rfl ?_); refine store_event (t := 3) (p := 53) (v := ?vo_w42) (w1 := (wr.setCell ⟨aN, (D : Int).toNat, none⟩ (.int .i64 M))) ?hg ?ho ?hn ?hr ?_; (case ho => rfl); (case hg => rfl); (case hn => rfl); (case hr => first | (go_simp; done) | (go_simp; rfl)); intro bO hw; have hg : wr.grownBy bO (some aN) := (by rw [hw]; exact bN.2); have hp_ : Kd.R (Kd.int .i64) 3 bO w.heap.size (fun _ => True) (.slice (some ⟨aN, 0, none⟩) O.length aK) bH := (by rw [hw, cA.out]; exact bN.1); clear bN; replace I := am (Kd.S_after (v := (.slice (some ⟨aN, 0, none⟩) O.length aK)) (v1 := (.slice (some ⟨aN, 0, none⟩) O.length aK)) (ok := (fun _ => True)) (by (with_reducible repeat (first | apply Kd.S_alloc | apply Kd.S_drewN | apply Kd.S_drew)); exact Kd.S_mono I.out (fun _ hk => ⟨trivial, hk⟩)) hg (.inl rfl)); replace z := am (Kd.R_over' (v := (.slice (some ⟨aN, 0, none⟩) O.length aK)) (rl z.out) (Kd.R_typed G.out) (by decide) hg); replace s := gr s G hg; replace G := am hp_; replace HB := am ((by rw [hw]; exact below_set (HB.out) cD.out : Below w.heap.size w bO)); clear hg hw hp_))
                    (try simp only [← hl4_4, ← hl5_4])
                    go_roundg k4
                    case measure => have := ao.out; have := au.out; have := aJ.out; have := aL.out; omega
                    case rel => exact ⟨(bH), (wrap64 (D + 1)), eqs, H', ⟨by have := ao.out; have := au.out; have := aJ.out; have := aL.out; omega⟩, ⟨by (try simp only [hl5_2]); (try simp only [hl5_3]); (try simp only [hl4_4]); (try simp only [hl5_4]); (with_reducible repeat (first | apply Kd.S_alloc | apply Kd.S_drewN | apply Kd.S_drew)); exact Kd.S_mono I.out (fun _ hk => hk.2)⟩, ⟨by (try simp only [hl5_2]); (try simp only [hl5_3]); (try simp only [hl4_4]); (try simp only [hl5_4]); (with_reducible repeat (first | apply Kd.R_alloc | apply Kd.R_drewN | apply Kd.R_drew)); exact G.out⟩, ⟨by (try simp only [hl5_2]); (try simp only [hl5_3]); (try simp only [hl4_4]); (try simp only [hl5_4]); (with_reducible repeat (first | apply Kd.R_alloc | apply Kd.R_drewN | apply Kd.R_drew)); exact z.out⟩, ⟨by (try simp only [hl5_2]); (try simp only [hl5_3]); (try simp only [hl4_4]); (try simp only [hl5_4]); exact bf s.out⟩, ⟨bs HB.out⟩⟩
                   ·rw [if_neg bc] at H
                    exact absurd H (by simp)
                  ·replace ba := Bool.eq_false_iff.mpr ba
                   subst ba
                   have H1 : (impl_WalkCore.l2 k4 y O Y M (X.length : Int) (wrap64 (D + 1))) = some r := by rw [if_neg (show ¬ (false = true) by decide)] at H; exact H
                   clear H
                   have H := H1
                   clear H1
                   have H' := am H
                   clear H
                   have aB : 0 ≤ (D : Int) := oda
                   have aC : D < (Y.length : Int) := oda
                   obtain ⟨cB, bJ, bK⟩ := Kd.at_bool (Kd.R_reads' z.out).2.2 D aB aC
                   (try rw [← Nbq37.out] at bK)
                   cases bJ
                   replace aB := eq_true aB
                   replace aC := eq_true aC
                   go_wp2
                   (try simp only [← hl4_4, ← hl5_4])
                   go_roundg k4
                   case measure => have := ao.out; have := au.out; have := aJ.out; have := aL.out; omega
                   case rel => exact ⟨(O), (wrap64 (D + 1)), eqs, H', ⟨by have := ao.out; have := au.out; have := aJ.out; have := aL.out; omega⟩, ⟨by (try simp only [hl5_2]); (try simp only [hl5_3]); (try simp only [hl4_4]); (try simp only [hl5_4]); (with_reducible repeat (first | apply Kd.S_alloc | apply Kd.S_drewN | apply Kd.S_drew)); exact I.out⟩, ⟨by (try simp only [hl5_2]); (try simp only [hl5_3]); (try simp only [hl4_4]); (try simp only [hl5_4]); (with_reducible repeat (first | apply Kd.R_alloc | apply Kd.R_drewN | apply Kd.R_drew)); exact G.out⟩, ⟨by (try simp only [hl5_2]); (try simp only [hl5_3]); (try simp only [hl4_4]); (try simp only [hl5_4]); (with_reducible repeat (first | apply Kd.R_alloc | apply Kd.R_drewN | apply Kd.R_drew)); exact z.out⟩, ⟨by (try simp only [hl5_2]); (try simp only [hl5_3]); (try simp only [hl4_4]); (try simp only [hl5_4]); exact bf s.out⟩, ⟨bs HB.out⟩⟩
                 ·rw [if_neg a9] at H
                  exact absurd H (by simp)
                ·rw [if_neg a8] at H
                 exact absurd H (by simp)
               ·rw [if_neg aM] at H
                have aA : decide (D < (X.length : Int)) = false := decide_eq_false aM
                (try simp only [hl5_4] at aA)
                (try simp only [hl4_4] at aA)
                (try simp only [hl5_3] at aA)
                clear aM
                have H' := am H
                clear H
                go_wp2
                (try simp only [← hl5_3, ← hl4_4, ← hl5_4])
                go_roundg k4
                case measure => have := ao.out; have := au.out; have := aJ.out; have := aL.out; omega
                case rel => exact ⟨(O), (Y), (wrap64 (M + 1)), eqs, H', ⟨by have := ao.out; have := au.out; have := aJ.out; have := aL.out; omega⟩, ⟨by (try simp only [hl5_2]); (try simp only [hl5_3]); (try simp only [hl4_4]); (try simp only [hl5_4]); (with_reducible repeat (first | apply Kd.S_alloc | apply Kd.S_drewN | apply Kd.S_drew)); exact I.out⟩, ⟨by (try simp only [hl5_2]); (try simp only [hl5_3]); (try simp only [hl4_4]); (try simp only [hl5_4]); (with_reducible repeat (first | apply Kd.R_alloc | apply Kd.R_drewN | apply Kd.R_drew)); exact G.out⟩, ⟨by (try simp only [hl5_2]); (try simp only [hl5_3]); (try simp only [hl4_4]); (try simp only [hl5_4]); (with_reducible repeat (first | apply Kd.R_alloc | apply Kd.R_drewN | apply Kd.R_drew)); exact z.out⟩, ⟨by (try simp only [hl5_2]); (try simp only [hl5_3]); (try simp only [hl4_4]); (try simp only [hl5_4]); exact bf s.out⟩, ⟨bs HB.out⟩⟩
            ·replace aT := Bool.eq_false_iff.mpr aT
             subst aT
             have H1 : (some X) = some r := by rw [if_neg (show ¬ (false = true) by decide)] at H; exact H
             clear H
             have H := H1
             clear H1
             obtain rfl := Option.some.inj H
             go_wp2_with (first | ((with_reducible refine gc 74 rfl ?_); refine gl 38 Try.func74 #[.slice aO y.length aP, .slice an ad.length ab, .int .i64 M] ?_; (with_reducible refine (impl_peel.calls k3 _ _ y (fun k_ => some k_ = (.slice an ad.length ab : Value).ownBlock) (.slice an ad.length ab) ad M false Y w _ ?ai ?aj ?ak ?al b6.out).mono ?_); (case ai => exact bs HB.out); (case aj => exact Kd.C_kept_own ((Kd.S_R (Kd.S_apart' I.out (Kd.R_typed z.out) (by decide)))) (fun k_ hk_ hs_ => (hk_.2) hs_)); (case ak => exact (Kd.S_reads' I.out).2.1); (case al => exact Kd.R_tight rfl z.out); rintro e cY ⟨rfl, aU, hb, hkp⟩; refine ⟨_, rfl, ?_⟩; replace I := am (Kd.S_mono (ok' := fun k_ => some k_ ≠ (aF : Value).ownBlock) (Kd.S_keptB ((Kd.S_apart' I.out (Kd.R_typed z.out) (by decide))) hkp (fun k_ hk_ hs_ => (hk_.2) hs_)) (fun k_ hk_ => hk_.1.1)); replace G := am (Kd.R_mono (ok' := fun k_ => True) (Kd.R_keptB ((Kd.R_apart' G.out (Kd.R_typed z.out) (by decide))) hkp (fun k_ hk_ hs_ => (hk_.2) hs_)) (fun k_ hk_ => trivial)); replace s := am (blk_kept (bf s.out) hkp (fun hs_ => (fun e_ => (Kd.R_ne z.out s.out (by decide)) e_) hs_)); replace z := am (Kd.R_reok rfl aU (fun k_ e_ => z.out.1 k_ e_)); replace HB := am hb; (try clear hb hkp); (try clear aU)))
             go_ret
             exact ⟨_, eqr, by (with_reducible repeat (first | apply Kd.R_alloc | apply Kd.R_drewN | apply Kd.R_drew)); exact G.out, bs HB.out⟩
      ·rw [if_neg ar] at H
       exact absurd H (by simp)
     ·rw [if_neg aq] at H
      exact absurd H (by simp)
    ·rw [if_neg ap] at H
     exact absurd H (by simp)

/-! ### laws_FnExactWalkCore: function 5 -/
def laws_FnExactWalkCore.j0 : Nat → List Int → List Int → Bool → List (S27) → List (S70) → Option (Bool)
 | 0, _, _, _, _, _ => none
 | k + 1, G, I, J, L, M => if J = true then (some false) else ((laws_markIntS.f k I 1).bind fun s => ((laws_heldIntS.f k s.2 1).bind fun y => (if y < 0 then (some false) else (if y = s.1 then ((laws_toGraph.f k L M).bind fun z => ((impl_WalkCore.f k z.1 z.2).bind fun O => ((laws_eqIntS.f k O G).bind fun T => (if T = true then ((laws_heldIntS.f k s.2 1).bind fun D => (if D < 0 then (some false) else (if D = s.1 then (some true) else (some false)))) else (some false))))) else (some false)))))
def laws_FnExactWalkCore.f (k : Nat) (s : List (S27)) (y : List (S70)) : Option (Bool) := (laws_szGraph.f s y 1048576).bind fun L => (if L < 0 then (some true) else ((laws_toGraph.f k s y).bind fun I => ((spec_WalkCore.f k I.1 I.2).bind fun D => ((laws_toGraph.f k s y).bind fun z => ((impl_WalkCore.f k z.1 z.2).bind fun G => ((laws_eqIntS.f k G D).bind fun M => (if M = true then ((laws_toGraph.f k s y).bind fun J => ((laws_eqGraph.f k z.1 z.2 J.1 J.2).bind fun O => (if O = true then ((laws_markGraph.f k z.1 z.2 1).bind fun T => (if T.1 < 0 then (laws_FnExactWalkCore.j0 k D G true s y) else ((laws_eqIntS.f k G D).bind fun X => (laws_FnExactWalkCore.j0 k D G (!X) s y)))) else (some false)))) else (some false))))))))
theorem laws_FnExactWalkCore.calls (k : Nat) (ak : Option Addr) (al : Nat) (J : List (S27)) (an : Option Addr) (ao : Nat) (L : List (S70)) (r : Bool) (hT : Aside0 (r = true)) (w : World) (bB : Kd.C k27 w ak J.length J) (bC : J.length ≤ al) (bD : Kd.C k70 w an L.length L) (bE : L.length ≤ ao) (h : laws_FnExactWalkCore.f k J L = some r) :
  Calls Try.prog 5 #[.agg #[.slice ak J.length al, .slice an L.length ao]] w fun e w' => e = .returned (.bool r) ∧ Below w.heap.size w w' := by
 have hu25 := Try.underlying25
 have hu34 := Try.underlying34
 have aN := am bB
 have aO := am bC
 clear bB bC
 have aP := am bD
 have aQ := am bE
 clear bD bE
 have HB := am (Below.refl w.heap.size w)
 have H := h; unfold laws_FnExactWalkCore.f at H
 clear h
 replace H := Option.bind_eq_some_iff.mp H
 obtain ⟨aW, bF, H⟩ := H
 try dsimp -simprocs only at H
 have A2 := am bF
 clear bF
 by_cases c3 : aW < 0
 ·rw [if_pos c3] at H
  have bG : decide (aW < 0) = true := decide_eq_true c3
  clear c3
  obtain rfl := Option.some.inj H
  go_enter Try.func5, Try.ntmps5
  go_wp2_with (first | ((with_reducible refine gd 1 rfl ?_); refine bx 1 (cs := #[.slice ak J.length al, .slice an L.length ao]) (t := 25) ?_; intro aR hg w4 hbox hb; have s := am hbox; have cm := gwb HB hg; replace HB := hs HB hb; clear hb hbox hg; obtain ⟨cn, co⟩ := bc2 (w := w4) s.out; have cp := blk_frozen s.out) | ((with_reducible refine gc 16 rfl ?_); refine gl 13 Try.func16 #[.agg #[.slice ak J.length al, .slice an L.length ao], .int .i64 1048576] ?_; (with_reducible refine (laws_szGraph.calls _ _ J _ _ L 1048576 aW _ ?z ?D ?O ?Y A2.out).mono ?_); (case z => exact Kd.C_below aN.out (bs HB.out)); (case D => exact aO.out); (case O => exact Kd.C_below aP.out (bs HB.out)); (case Y => exact aQ.out); rintro e w6 ⟨rfl, hb⟩; refine ⟨_, rfl, ?_⟩; replace s := bb s hb rfl; replace HB := hs HB hb; (try clear hb)))
  go_ret
  exact ⟨eqr, bs HB.out⟩
 ·rw [if_neg c3] at H
  have bG : decide (aW < 0) = false := decide_eq_false c3
  clear c3
  replace H := Option.bind_eq_some_iff.mp H
  obtain ⟨⟨aE, aF⟩, bH, H⟩ := H
  try dsimp -simprocs only at H
  have A7 := am bH
  clear bH
  replace H := Option.bind_eq_some_iff.mp H
  obtain ⟨ae, bI, H⟩ := H
  try dsimp -simprocs only at H
  have A8 := am bI
  clear bI
  replace H := Option.bind_eq_some_iff.mp H
  obtain ⟨⟨ab, ac⟩, bJ, H⟩ := H
  try dsimp -simprocs only at H
  have A9 := am bJ
  clear bJ
  replace H := Option.bind_eq_some_iff.mp H
  obtain ⟨M, bK, H⟩ := H
  try dsimp -simprocs only at H
  have ct := am bK
  clear bK
  replace H := Option.bind_eq_some_iff.mp H
  obtain ⟨cu, bL, H⟩ := H
  try dsimp -simprocs only at H
  have cv := am bL
  clear bL
  by_cases aX : cu = true
  ·subst aX
   replace H : ((laws_toGraph.f k J L).bind fun bM => ((laws_eqGraph.f k ab ac bM.1 bM.2).bind fun bm => (if bm = true then ((laws_markGraph.f k ab ac 1).bind fun bn => (if bn.1 < 0 then (laws_FnExactWalkCore.j0 k ae M true J L) else ((laws_eqIntS.f k M ae).bind fun aS => (laws_FnExactWalkCore.j0 k ae M (!aS) J L)))) else (some false)))) = some r := by rw [if_pos rfl] at H; exact H
   replace H := Option.bind_eq_some_iff.mp H
   obtain ⟨⟨bc, be⟩, bN, H⟩ := H
   try dsimp -simprocs only at H
   have cy := am bN
   clear bN
   replace H := Option.bind_eq_some_iff.mp H
   obtain ⟨bm, bO, H⟩ := H
   try dsimp -simprocs only at H
   have cz := am bO
   clear bO
   by_cases aY : bm = true
   ·subst aY
    replace H : ((laws_markGraph.f k ab ac 1).bind fun bn => (if bn.1 < 0 then (laws_FnExactWalkCore.j0 k ae M true J L) else ((laws_eqIntS.f k M ae).bind fun aS => (laws_FnExactWalkCore.j0 k ae M (!aS) J L)))) = some r := by rw [if_pos rfl] at H; exact H
    replace H := Option.bind_eq_some_iff.mp H
    obtain ⟨⟨bg, bP, bQ⟩, bR, H⟩ := H
    try dsimp -simprocs only at H
    have cA := am bR
    clear bR
    have bo := am H
    clear H
    go_enter Try.func5, Try.ntmps5
    try go_wp2_with (first | ((with_reducible refine gd 1 rfl ?_); refine bx 1 (cs := #[.slice ak J.length al, .slice an L.length ao]) (t := 25) ?_; intro aR hg cB hbox hb; have s := am hbox; have cm := gwb HB hg; replace HB := hs HB hb; clear hb hbox hg; obtain ⟨cC, cD⟩ := bc2 (w := cB) s.out; have cE := blk_frozen s.out) | ((with_reducible refine gc 16 rfl ?_); refine gl 13 Try.func16 #[.agg #[.slice ak J.length al, .slice an L.length ao], .int .i64 1048576] ?_; (with_reducible refine (laws_szGraph.calls _ _ J _ _ L 1048576 aW _ ?z ?D ?O ?Y A2.out).mono ?_); (case z => exact Kd.C_below aN.out (bs HB.out)); (case D => exact aO.out); (case O => exact Kd.C_below aP.out (bs HB.out)); (case Y => exact aQ.out); rintro e cF ⟨rfl, hb⟩; refine ⟨_, rfl, ?_⟩; replace s := bb s hb rfl; replace HB := hs HB hb; (try clear hb); obtain ⟨cG, cH⟩ := bc2 (w := cF) s.out; have cI := blk_frozen s.out) | ((with_reducible refine gc 18 rfl ?_); refine gl 17 Try.func18 #[.agg #[.slice ak J.length al, .slice an L.length ao]] ?_; (with_reducible refine (laws_toGraph.calls k _ _ J _ _ L aE aF _ ?z ?D ?O ?Y A7.out).mono ?_); (case z => exact Kd.C_below aN.out (bs HB.out)); (case D => exact aO.out); (case O => exact Kd.C_below aP.out (bs HB.out)); (case Y => exact aQ.out); rintro e dD ⟨dE, dF, rfl, T, ag, hb⟩; refine ⟨_, rfl, ?_⟩; have Z := am (Kd.R_lower T (below_size (bs HB.out))); have aa := am (Kd.R_lower ag (below_size (bs HB.out))); replace s := bb s hb rfl; replace HB := hs HB hb; (try clear T ag hb); obtain ⟨aZ, a2, cJ⟩ := Kd.R_slice Z.out; subst cJ; obtain ⟨a3, a4, cK⟩ := Kd.R_slice aa.out; subst cK) | ((with_reducible refine gc 31 rfl ?_); refine gl 18 Try.func31 #[.agg #[.slice aZ aE.length a2, .slice a3 aF.length a4]] ?_; (with_reducible refine (spec_WalkCore.calls k _ _ aE _ _ aF ae _ ?z ?D ?O ?Y A8.out).mono ?_); (case z => exact cr Z); (case D => exact cc Z); (case O => exact cr aa); (case Y => exact cc aa); rintro e cL ⟨dG, rfl, T, hb⟩; refine ⟨_, rfl, ?_⟩; replace Z := rb Z hb; replace aa := rb aa hb; have X := am (Kd.R_lower T (below_size (bs HB.out))); replace s := bb s hb rfl; replace HB := hs HB hb; (try clear T hb); obtain ⟨cM, cN⟩ := bc2 (w := cL) s.out; have cO := blk_frozen s.out) | ((with_reducible refine gc 18 rfl ?_); refine gl 20 Try.func18 #[.agg #[.slice ak J.length al, .slice an L.length ao]] ?_; (with_reducible refine (laws_toGraph.calls k _ _ J _ _ L ab ac _ ?z ?D ?O ?Y A9.out).mono ?_); (case z => exact Kd.C_below aN.out (bs HB.out)); (case D => exact aO.out); (case O => exact Kd.C_below aP.out (bs HB.out)); (case Y => exact aQ.out); rintro e dH ⟨dI, dJ, rfl, T, ag, hb⟩; refine ⟨_, rfl, ?_⟩; replace X := rb X hb; have G := am (Kd.R_lower (Kd.R_new' T (rk Z)) (below_size (bs HB.out))); replace Z := re Z T hb; have I := am (Kd.R_lower (Kd.R_new' ag (rk aa)) (below_size (bs HB.out))); replace aa := re aa ag hb; replace s := bb s hb rfl; replace HB := hs HB hb; (try clear T ag hb)) | ((with_reducible refine gd 5 rfl ?_); refine bx 5 (cs := #[.slice none 0 0, .slice none 0 0]) (t := 34) ?_; intro bh hg cP hbox hb; replace Z := rb Z hb; replace aa := rb aa hb; replace X := rb X hb; replace G := rb G hb; replace I := rb I hb; have y := am hbox; have dK := gwb HB hg; replace HB := hs HB hb; have bS := nq s hg; have bT := nq' s hg; replace s := bb s hb rfl; clear hb hbox hg; obtain ⟨ap, ah, cQ⟩ := Kd.R_slice G.out; subst cQ; have dL := bT.out; have dM := bS.out; obtain ⟨cR, cS⟩ := bc2 (w := cP) y.out; have cT := blk_frozen y.out; obtain ⟨aq, ai, cU⟩ := Kd.R_slice I.out; subst cU) | ((with_reducible refine gc 32 rfl ?_); refine gl 22 Try.func32 #[.agg #[.slice ap ab.length ah, .slice aq ac.length ai]] ?_; (with_reducible refine (impl_WalkCore.calls k _ _ ab _ _ ac M _ ?z ?D ?O ?Y ct.out).mono ?_); (case z => refine (Kd.R_reads' (e := 36) (base := w.heap.size) (ok := fun k_ => (True ∧ some k_ ≠ (.slice aZ aE.length a2 : Value).ownBlock)) (n := ab.length) (c := ah) ?_).2.2; exact (rt G.out y.out (by decide))); (case D => exact cc G); (case O => refine (Kd.R_reads' (e := 56) (base := w.heap.size) (ok := fun k_ => (True ∧ some k_ ≠ (.slice a3 aF.length a4 : Value).ownBlock)) (n := ac.length) (c := ai) ?_).2.2; exact (rt I.out y.out (by decide))); (case Y => exact cc I); rintro e ar ⟨dN, rfl, T, hb⟩; refine ⟨_, rfl, ?_⟩; replace Z := am (Kd.R_below (rt Z.out y.out (by decide)) hb); replace aa := am (Kd.R_below (rt aa.out y.out (by decide)) hb); replace G := am (Kd.R_below (rt G.out y.out (by decide)) hb); replace I := am (Kd.R_below (rt I.out y.out (by decide)) hb); have af := am (Kd.R_lower (Kd.R_new' T (Kd.R_lt (rt X.out y.out (by decide)))) (below_size (bs HB.out))); replace X := am (Kd.R_elder' (rt X.out y.out (by decide)) (Kd.R_base T) hb); replace s := am (blk_below (g := aR) (o := .cells #[.slice ak J.length al, .slice an L.length ao] 25 (0, 0)) (bf s.out) hb); replace y := bq #[.slice ap ab.length ah, .slice aq ac.length ai] y hb; replace HB := hs HB hb; (try clear hb); (try clear hb2); (try clear hk); (try clear hi); (try clear T); obtain ⟨av, aw, cV⟩ := Kd.R_slice af.out; subst cV; obtain ⟨aG, aH, cW⟩ := Kd.R_slice X.out; subst cW) | ((with_reducible refine gc 28 rfl ?_); refine gl 25 Try.func28 #[.slice av M.length aw, .slice aG ae.length aH] ?_; (with_reducible refine (laws_eqIntS.calls k _ _ M _ _ ae true _ ?z ?D ?O ?Y cv.out).mono ?_); (case z => exact cr af); (case D => exact cc af); (case O => exact cr X); (case Y => exact cc X); rintro e w' ⟨rfl, ⟨nd, rfl⟩⟩; refine ⟨_, rfl, ?_⟩))
    (try (rw [drewN_self ar]; generalize hq_ : World.drewN ar _ = ar; have bU : Aside0 (Kd.R k36 36 ar w.heap.size (fun k_ => some k_ ≠ (.slice ap ab.length ah : Value).ownBlock) (.slice aZ aE.length a2) aE) := ⟨by rw [← hq_]; exact (by (with_reducible repeat (first | apply Kd.R_alloc | apply Kd.R_drewN | apply Kd.R_drew)); exact Kd.R_mono Z.out (fun _ hk => hk.2))⟩; have bV : Aside0 (Kd.R k56 56 ar w.heap.size (fun k_ => some k_ ≠ (.slice aq ac.length ai : Value).ownBlock) (.slice a3 aF.length a4) aF) := ⟨by rw [← hq_]; exact (by (with_reducible repeat (first | apply Kd.R_alloc | apply Kd.R_drewN | apply Kd.R_drew)); exact Kd.R_mono aa.out (fun _ hk => hk.2))⟩; have bW : Aside0 (Kd.R (Kd.int .i64) 3 ar w.heap.size (fun k_ => some k_ ≠ (.slice av M.length aw : Value).ownBlock) (.slice aG ae.length aH) ae) := ⟨by rw [← hq_]; exact (by (with_reducible repeat (first | apply Kd.R_alloc | apply Kd.R_drewN | apply Kd.R_drew)); exact Kd.R_mono X.out (fun _ hk => hk.2))⟩; have bX : Aside0 (Kd.R k36 36 ar w.heap.size (fun k_ => some k_ ≠ (.slice aZ aE.length a2 : Value).ownBlock) (.slice ap ab.length ah) ab) := ⟨by rw [← hq_]; exact (by (with_reducible repeat (first | apply Kd.R_alloc | apply Kd.R_drewN | apply Kd.R_drew)); exact Kd.R_mono G.out (fun _ hk => hk.2))⟩; have bY : Aside0 (Kd.R k56 56 ar w.heap.size (fun k_ => some k_ ≠ (.slice a3 aF.length a4 : Value).ownBlock) (.slice aq ac.length ai) ac) := ⟨by rw [← hq_]; exact (by (with_reducible repeat (first | apply Kd.R_alloc | apply Kd.R_drewN | apply Kd.R_drew)); exact Kd.R_mono I.out (fun _ hk => hk.2))⟩; have bZ : Aside0 (Kd.R (Kd.int .i64) 3 ar w.heap.size (fun k_ => some k_ ≠ (.slice aG ae.length aH : Value).ownBlock) (.slice av M.length aw) M) := ⟨by rw [← hq_]; exact (by (with_reducible repeat (first | apply Kd.R_alloc | apply Kd.R_drewN | apply Kd.R_drew)); exact Kd.R_mono af.out (fun _ hk => hk.2))⟩; have b0 : Aside0 (ar.heap[aR]? = some (.cells #[.slice ak J.length al, .slice an L.length ao] 25 (0, 0))) := ⟨by rw [← hq_]; exact (bf s.out)⟩; have b1 : Aside0 (ar.heap[bh]? = some (.cells #[.slice ap ab.length ah, .slice aq ac.length ai] 34 (0, 0))) := ⟨by rw [← hq_]; exact (bf y.out)⟩; have b2 : Aside0 (Below w.heap.size w ar) := ⟨by rw [← hq_]; exact (bs HB.out)⟩; clear Z aa X G I af s y HB hq_; have Z := bU; have aa := bV; have X := bW; have G := bX; have I := bY; have af := bZ; have s := b0; have y := b1; have HB := b2; clear bU bV bW bX bY bZ b0 b1 b2))
    replace Z := rd_ Z
    replace aa := rd_ aa
    replace X := rd_ X
    replace G := rd_ G
    replace I := rd_ I
    replace af := rd_ af
    replace s := bd s
    replace y := bd y
    replace HB := hd HB
    refine sta 5 (fun w' => w'.cell? ⟨bh, 0, none⟩ = some (.slice ap ab.length ah) ∧ w'.cell? ⟨bh, 1, none⟩ = some (.slice aq ac.length ai) ∧ w'.cell? ⟨aR, 0, none⟩ = some (.slice ak J.length al) ∧ w'.cell? ⟨aR, 1, none⟩ = some (.slice an L.length ao)) [] ⟨cx y 0, cx y 1, cx s 0, cx s 1⟩ (fun hHeld => ?_)
    generalize ar.drew = dO at Z aa X G I af s y HB hHeld ⊢
    refine tk 0 27 ?_
    refine tk 1 28 ?_
    refine on 2 29 (fun K hK => ?_)
    refine gs Try.func18 #[.agg #[.slice ak J.length al, .slice an L.length ao]] ?_
    with_reducible refine (laws_toGraph.calls k _ _ J _ _ L bc be _ ?z ?D ?O ?Y cy.out).mono ?_
    (case z => exact Kd.C_below aN.out (bs HB.out))
    (case D => exact aO.out)
    (case O => exact Kd.C_below aP.out (bs HB.out))
    (case Y => exact aQ.out)
    rintro e dP ⟨dQ, dR, rfl, T, ag, hb⟩
    refine ⟨_, rfl, ?_⟩
    replace X := rb X hb
    replace af := rb af hb
    have aI := am (Kd.R_lower (Kd.R_new' (Kd.R_new' T (rk Z)) (rk G)) (below_size (bs HB.out)))
    replace Z := re Z T hb
    replace G := re G T hb
    have aJ := am (Kd.R_lower (Kd.R_new' (Kd.R_new' ag (rk aa)) (rk I)) (below_size (bs HB.out)))
    replace aa := re aa ag hb
    replace I := re I ag hb
    replace s := bb s hb rfl
    replace y := bb y hb rfl
    replace HB := hs HB hb
    (try clear hb)
    (try clear hb2)
    (try clear hk)
    (try clear hi)
    (try clear T)
    (try clear ag)
    obtain ⟨b3, b4, b5⟩ := Kd.R_slice aI.out
    (first | subst b5 | (injection b5 with a5 br a6; have bt := a5.symm; have bu := a6.symm; clear a5 br a6; subst bt; subst bu))
    obtain ⟨b6, b7, b8⟩ := Kd.R_slice aJ.out
    (first | subst b8 | (injection b8 with a5 br a6; have bt := a5.symm; have bu := a6.symm; clear a5 br a6; subst bt; subst bu))
    refine hK.out _ _ ⟨cx y 0, cx y 1, cx s 0, cx s 1⟩ (fun hHeld => ?_)
    clear hK K
    refine nrm 29 ?_
    refine on 3 30 (fun K hK => ?_)
    refine gs Try.func22 #[.agg #[.slice ap ab.length ah, .slice aq ac.length ai], .agg #[.slice b3 bc.length b4, .slice b6 be.length b7]] ?_
    with_reducible refine (laws_eqGraph.calls k _ _ ab _ _ ac _ _ bc _ _ be true _ ?z ?D ?O ?Y ?cX ?cY ?cZ ?c0 cz.out).mono ?_
    (case z => exact cr G)
    (case D => exact cc G)
    (case O => exact cr I)
    (case Y => exact cc I)
    (case cX => exact cr aI)
    (case cY => exact cc aI)
    (case cZ => exact cr aJ)
    (case c0 => exact cc aJ)
    rintro e c8 ⟨rfl, hb⟩
    refine ⟨_, rfl, ?_⟩
    replace Z := rb Z hb
    replace aa := rb aa hb
    replace X := rb X hb
    replace G := rb G hb
    replace I := rb I hb
    replace af := rb af hb
    replace aI := rb aI hb
    replace aJ := rb aJ hb
    replace s := bb s hb rfl
    replace y := bb y hb rfl
    replace HB := hs HB hb
    (try clear hb)
    (try clear hb2)
    (try clear hk)
    (try clear hi)
    refine hK.out _ _ ⟨cx y 0, cx y 1, cx s 0, cx s 1⟩ (fun hHeld => ?_)
    clear hK K
    refine nrm 30 ?_
    refine pu 4 31 ?_
    refine dn ?_
    obtain ⟨c9, da⟩ := bc2 (w := c8) y.out
    have db := blk_frozen y.out
    go_upto_region 14 with (first | ((with_reducible refine gc 23 rfl ?_); refine gl 34 Try.func23 #[.agg #[.slice ap ab.length ah, .slice aq ac.length ai], .int .i64 1] ?_; (with_reducible refine (laws_markGraph.calls k (fun k_ => some k_ = (.slice ap ab.length ah : Value).ownBlock) (.slice ap ab.length ah) ab (fun k_ => some k_ = (.slice aq ac.length ai : Value).ownBlock) (.slice aq ac.length ai) ac 1 bg bP bQ w _ ?z ?D ?O cA.out).mono ?_); (case z => exact bs HB.out); (case D => exact Kd.R_tight rfl G.out); (case O => exact Kd.R_tight rfl I.out); rintro e dS ⟨rfl, a7, b9, hb, hkp⟩; refine ⟨_, rfl, ?_⟩; replace s := am (blk_kept (bf s.out) hkp (fun hs_ => Or.elim hs_ (fun e_ => (fun e_ => (Kd.R_ne G.out s.out (by decide)) e_) e_) (fun e_ => (fun e_ => (Kd.R_ne I.out s.out (by decide)) e_) e_))); replace Z := am (Kd.R_mono (ok' := fun k_ => some k_ ≠ (.slice ap ab.length ah : Value).ownBlock ∧ some k_ ≠ (.slice b3 bc.length b4 : Value).ownBlock) (Kd.R_keptB ((Kd.R_apart' Z.out (Kd.R_typed I.out) (by decide))) hkp (fun k_ hk_ hs_ => Or.elim hs_ (fun e_ => by first | exact hk_.1.1.2 e_ | exact hk_.1.1 e_) (fun e_ => (hk_.2) e_))) (fun k_ hk_ => by first | exact ⟨hk_.1.1.1.2, hk_.1.1.2⟩ | exact hk_.1.1)); replace aa := am (Kd.R_mono (ok' := fun k_ => some k_ ≠ (.slice aq ac.length ai : Value).ownBlock ∧ some k_ ≠ (.slice b6 be.length b7 : Value).ownBlock) (Kd.R_keptB ((Kd.R_apart' aa.out (Kd.R_typed G.out) (by decide))) hkp (fun k_ hk_ hs_ => Or.elim hs_ (fun e_ => (hk_.2) e_) (fun e_ => by first | exact hk_.1.1.2 e_ | exact hk_.1.1 e_))) (fun k_ hk_ => by first | exact ⟨hk_.1.1.1.2, hk_.1.1.2⟩ | exact hk_.1.1)); replace X := am (Kd.R_mono (ok' := fun k_ => some k_ ≠ (.slice av M.length aw : Value).ownBlock) (Kd.R_keptB ((Kd.R_apart' (Kd.R_apart' X.out (Kd.R_typed G.out) (by decide)) (Kd.R_typed I.out) (by decide))) hkp (fun k_ hk_ hs_ => Or.elim hs_ (fun e_ => (hk_.1.2) e_) (fun e_ => (hk_.2) e_))) (fun k_ hk_ => by first | exact hk_.1.1.1.2 | exact hk_.1.1.1)); replace y := am (blk_kept (bf y.out) hkp (fun hs_ => Or.elim hs_ (fun e_ => (fun e_ => (Kd.R_ne G.out y.out (by decide)) e_) e_) (fun e_ => (fun e_ => (Kd.R_ne I.out y.out (by decide)) e_) e_))); replace af := am (Kd.R_mono (ok' := fun k_ => some k_ ≠ (.slice aG ae.length aH : Value).ownBlock) (Kd.R_keptB ((Kd.R_apart' (Kd.R_apart' af.out (Kd.R_typed G.out) (by decide)) (Kd.R_typed I.out) (by decide))) hkp (fun k_ hk_ hs_ => Or.elim hs_ (fun e_ => (hk_.1.2) e_) (fun e_ => (hk_.2) e_))) (fun k_ hk_ => by first | exact hk_.1.1.1.2 | exact hk_.1.1.1)); replace aI := am (Kd.R_mono (ok' := fun k_ => some k_ ≠ (.slice aZ aE.length a2 : Value).ownBlock ∧ some k_ ≠ (.slice ap ab.length ah : Value).ownBlock) (Kd.R_keptB ((Kd.R_apart' aI.out (Kd.R_typed I.out) (by decide))) hkp (fun k_ hk_ hs_ => Or.elim hs_ (fun e_ => (hk_.1.2) e_) (fun e_ => (hk_.2) e_))) (fun k_ hk_ => by first | exact ⟨hk_.1.1.1.2, hk_.1.1.2⟩ | exact hk_.1.1)); replace I := am (Kd.R_reok rfl b9 (fun k_ e_ => I.out.1 k_ e_)); replace aJ := am (Kd.R_mono (ok' := fun k_ => some k_ ≠ (.slice a3 aF.length a4 : Value).ownBlock ∧ some k_ ≠ (.slice aq ac.length ai : Value).ownBlock) (Kd.R_keptB ((Kd.R_apart' aJ.out (Kd.R_typed G.out) (by decide))) hkp (fun k_ hk_ hs_ => Or.elim hs_ (fun e_ => (hk_.2) e_) (fun e_ => (hk_.1.2) e_))) (fun k_ hk_ => by first | exact ⟨hk_.1.1.1.2, hk_.1.1.2⟩ | exact hk_.1.1)); replace G := am (Kd.R_reok rfl a7 (fun k_ e_ => G.out.1 k_ e_)); replace HB := am hb; (try clear hb hkp); (try clear a7); (try clear b9)))
    (try simp only [Act.put, List.setIfInBounds_toArray, List.set_cons_zero, List.set_cons_succ])
    go_cut [42] (fun dc wc => ∃ (kq : Nat) (bi : Bool), dc = .bool bi ∧ Aside0 (laws_FnExactWalkCore.j0 kq ae M bi J L = some r) ∧ Aside0 (kq ≤ k) ∧ Aside0 (Kd.R (Kd.int .i64) 3 wc w.heap.size (fun k_ => some k_ ≠ ((.slice av M.length aw) : Value).ownBlock) (.slice aG ae.length aH) ae) ∧ Aside0 (Kd.R (Kd.int .i64) 3 wc w.heap.size (fun k_ => some k_ ≠ ((.slice aG ae.length aH) : Value).ownBlock) (.slice av M.length aw) M) ∧ Aside0 (Kd.R k36 36 wc w.heap.size (fun _ => True) (.slice ap ab.length ah) bP) ∧ Aside0 (Kd.R k56 56 wc w.heap.size (fun _ => True) (.slice aq ac.length ai) bQ) ∧ Aside0 (wc.heap[aR]? = some (.cells #[(.slice ak J.length al), (.slice an L.length ao)] 25 (0, 0))) ∧ Aside0 (wc.heap[bh]? = some (.cells #[(.slice ap ab.length ah), (.slice aq ac.length ai)] 34 (0, 0))) ∧ Aside0 (Below w.heap.size w wc))
    case first =>
     have H := bo.out
     clear bo
     by_cases aK : bg < 0
     ·rw [if_pos aK] at H
      have aT : decide (bg < 0) = true := decide_eq_true aK
      clear aK
      (first | rw [aT] | (simp only [i64_w, i32_w]; rw [aT]) | skip)
      have H' := am H
      clear H
      go_wp2
      go_meet
      case rel => exact ⟨_, (true), eqs, H', ⟨by first | omega | exact Nat.le_refl _⟩, ⟨rl X.out⟩, ⟨rl af.out⟩, ⟨by (with_reducible repeat (first | apply Kd.R_alloc | apply Kd.R_drewN | apply Kd.R_drew)); exact Kd.R_mono G.out (fun _ hk => trivial)⟩, ⟨by (with_reducible repeat (first | apply Kd.R_alloc | apply Kd.R_drewN | apply Kd.R_drew)); exact Kd.R_mono I.out (fun _ hk => trivial)⟩, ⟨bf s.out⟩, ⟨bf y.out⟩, ⟨bs HB.out⟩⟩
     ·rw [if_neg aK] at H
      have aT : decide (bg < 0) = false := decide_eq_false aK
      clear aK
      (first | rw [aT] | (simp only [i64_w, i32_w]; rw [aT]) | skip)
      replace H := Option.bind_eq_some_iff.mp H
      obtain ⟨aS, ce, H⟩ := H
      try dsimp -simprocs only at H
      have dd := am ce
      clear ce
      have H' := am H
      clear H
      go_wp2_with (first | (go_at_call 28; (with_reducible refine (laws_eqIntS.calls k _ _ M _ _ ae aS _ ?z ?D ?O ?Y dd.out).mono ?_); (case z => exact cr af); (case D => exact cc af); (case O => exact cr X); (case Y => exact cc X); rintro e w' ⟨rfl, ⟨nd, rfl⟩⟩))
      go_meet
      case rel => exact ⟨_, (!aS), eqs, H', ⟨by first | omega | exact Nat.le_refl _⟩, ⟨rl X.out⟩, ⟨rl af.out⟩, ⟨by (with_reducible repeat (first | apply Kd.R_alloc | apply Kd.R_drewN | apply Kd.R_drew)); exact Kd.R_mono G.out (fun _ hk => trivial)⟩, ⟨by (with_reducible repeat (first | apply Kd.R_alloc | apply Kd.R_drewN | apply Kd.R_drew)); exact Kd.R_mono I.out (fun _ hk => trivial)⟩, ⟨bf s.out⟩, ⟨bf y.out⟩, ⟨bs HB.out⟩⟩
    case rest =>
     clear bo
     try clear c1
     try clear c2
     try clear p2
     try clear c3
     try clear bG
     try clear c4
     try clear c5
     try clear aX
     try clear aY
     try clear dT
     try clear dU
     try clear dV
     try clear dW
     try clear dX
     try clear dY
     try clear dZ
     try clear d0
     try clear aK
     try clear aT
     try clear cC cD
     try clear cG cH
     try clear cM cN
     try clear cR cS
     try clear c9 da
     try clear cn co
     try clear cE
     try clear cI
     try clear cO
     try clear cT
     try clear db
     try clear cp
     obtain ⟨kq, bi, rfl, HA, d1, az, ad, aA, aB, s, y, HB⟩ := hcut
     have hl389000_16 := (Kd.R_reads' aA.out).1
     rw [hl389000_16] at aA
     (try simp only [hl389000_16])
     (try simp only [hl389000_16] at s)
     (try simp only [hl389000_16] at y)
     (try simp only [hl389000_16] at az)
     (try simp only [hl389000_16] at ad)
     (try simp only [hl389000_16] at aB)
     have hl389001_16 := (Kd.R_reads' aB.out).1
     rw [hl389001_16] at aB
     (try simp only [hl389001_16])
     (try simp only [hl389001_16] at s)
     (try simp only [hl389001_16] at y)
     (try simp only [hl389001_16] at az)
     (try simp only [hl389001_16] at ad)
     (try simp only [hl389001_16] at aA)
     cases kq with
     | zero => exact absurd HA.out (by simp [laws_FnExactWalkCore.j0])
     | succ au =>
      have H := HA.out
      clear HA
      simp only [laws_FnExactWalkCore.j0] at H
      by_cases bj : bi = true
      ·subst bj
       replace H : (some false) = some r := by rw [if_pos rfl] at H; exact H
       exact absurd (Option.some.inj H) (by rw [hT.out]; decide)
      ·replace bj := Bool.eq_false_iff.mpr bj
       subst bj
       have H1 : ((laws_markIntS.f au M 1).bind fun bk => ((laws_heldIntS.f au bk.2 1).bind fun ax => (if ax < 0 then (some false) else (if ax = bk.1 then ((laws_toGraph.f au J L).bind fun cf => ((impl_WalkCore.f au cf.1 cf.2).bind fun a8 => ((laws_eqIntS.f au a8 ae).bind fun bv => (if bv = true then ((laws_heldIntS.f au bk.2 1).bind fun aj => (if aj < 0 then (some false) else (if aj = bk.1 then (some true) else (some false)))) else (some false))))) else (some false))))) = some r := by rw [if_neg (show ¬ (false = true) by decide)] at H; exact H
       clear H
       have H := H1
       clear H1
       replace H := Option.bind_eq_some_iff.mp H
       obtain ⟨⟨ay, aC⟩, cg, H⟩ := H
       try dsimp -simprocs only at H
       have de := am cg
       clear cg
       replace H := Option.bind_eq_some_iff.mp H
       obtain ⟨ax, ch, H⟩ := H
       try dsimp -simprocs only at H
       have df := am ch
       clear ch
       by_cases aU : ax < 0
       ·rw [if_pos aU] at H
        have dg : decide (ax < 0) = true := decide_eq_true aU
        clear aU
        exact absurd (Option.some.inj H) (by rw [hT.out]; decide)
       ·rw [if_neg aU] at H
        have dg : decide (ax < 0) = false := decide_eq_false aU
        clear aU
        by_cases aL : ax = ay
        ·rw [if_pos aL] at H
         have dh : (ax == ay) = true := beq_iff_eq.mpr aL
         have di : (ax != ay) = false := bne_eq_false_iff_eq.mpr aL
         clear aL
         replace H := Option.bind_eq_some_iff.mp H
         obtain ⟨⟨bw, bz⟩, ci, H⟩ := H
         try dsimp -simprocs only at H
         have dj := am ci
         clear ci
         replace H := Option.bind_eq_some_iff.mp H
         obtain ⟨a8, cj, H⟩ := H
         try dsimp -simprocs only at H
         have dk := am cj
         clear cj
         replace H := Option.bind_eq_some_iff.mp H
         obtain ⟨bv, ck, H⟩ := H
         try dsimp -simprocs only at H
         have dl := am ck
         clear ck
         by_cases bl : bv = true
         ·subst bl
          replace H : ((laws_heldIntS.f au aC 1).bind fun aj => (if aj < 0 then (some false) else (if aj = ay then (some true) else (some false)))) = some r := by rw [if_pos rfl] at H; exact H
          replace H := Option.bind_eq_some_iff.mp H
          obtain ⟨aj, cl, H⟩ := H
          try dsimp -simprocs only at H
          have dm := am cl
          clear cl
          by_cases aV : aj < 0
          ·rw [if_pos aV] at H
           have dp : decide (aj < 0) = true := decide_eq_true aV
           clear aV
           exact absurd (Option.some.inj H) (by rw [hT.out]; decide)
          ·rw [if_neg aV] at H
           have dp : decide (aj < 0) = false := decide_eq_false aV
           clear aV
           by_cases aM : aj = ay
           ·rw [if_pos aM] at H
            have dq : (aj == ay) = true := beq_iff_eq.mpr aM
            have dr : (aj != ay) = false := bne_eq_false_iff_eq.mpr aM
            clear aM
            obtain rfl := Option.some.inj H
            go_wp2_with (first | ((with_reducible refine gc 29 rfl ?_); refine gl 45 Try.func29 #[.slice av M.length aw, .int .i64 1] ?_; (with_reducible refine (laws_markIntS.calls au (fun k_ => some k_ = (.slice av M.length aw : Value).ownBlock) (.slice av M.length aw) M 1 ay aC w _ ?z ?D de.out).mono ?_); (case z => exact bs HB.out); (case D => exact Kd.R_tight rfl ad.out); rintro e dt ⟨rfl, a7, hb, hkp⟩; refine ⟨_, rfl, ?_⟩; replace az := am (Kd.R_mono (ok' := fun k_ => some k_ ≠ (.slice av M.length aw : Value).ownBlock) (Kd.R_keptB (az.out) hkp (fun k_ hk_ hs_ => (hk_) hs_)) (fun k_ hk_ => hk_.1)); replace aA := am (Kd.R_mono (ok' := fun k_ => True) (Kd.R_keptB ((Kd.R_apart' aA.out (Kd.R_typed ad.out) (by decide))) hkp (fun k_ hk_ hs_ => (hk_.2) hs_)) (fun k_ hk_ => trivial)); replace aB := am (Kd.R_mono (ok' := fun k_ => True) (Kd.R_keptB ((Kd.R_apart' aB.out (Kd.R_typed ad.out) (by decide))) hkp (fun k_ hk_ hs_ => (hk_.2) hs_)) (fun k_ hk_ => trivial)); replace s := am (blk_kept (bf s.out) hkp (fun hs_ => (fun e_ => (Kd.R_ne ad.out s.out (by decide)) e_) hs_)); replace y := am (blk_kept (bf y.out) hkp (fun hs_ => (fun e_ => (Kd.R_ne ad.out y.out (by decide)) e_) hs_)); replace ad := am (Kd.R_reok rfl a7 (fun k_ e_ => ad.out.1 k_ e_)); replace HB := am hb; (try clear hb hkp); (try clear a7)) | ((with_reducible refine gc 30 rfl ?_); refine goesL_ (some 48) rfl rfl Try.func30 (by kernel_rfl) rfl #[.slice av aC.length aw, .int .i64 1] rfl (by (try simp only [List.map_toArray, List.map_cons, List.map_nil]); first | done | (rw [show aC.length = M.length from (Kd.R_reads' ad.out).1.symm] <;> rfl) | rfl | (simp only [List.length_drop, List.length_take]; rfl)) ?_; (with_reducible refine (laws_heldIntS.calls au _ _ aC 1 ax _ ?z ?D df.out).mono ?_); (case z => exact cr ad); (case D => rw [show aC.length = M.length from (Kd.R_reads' ad.out).1.symm]; exact cc ad); rintro e w' ⟨rfl, ⟨nd, rfl⟩⟩; refine ⟨_, rfl, ?_⟩; have d2 := bS.out; have d3 := bT.out; obtain ⟨d4, d5⟩ := bc2 (w := dt) s.out; have d6 := blk_frozen s.out) | ((with_reducible refine gc 18 rfl ?_); refine gl 55 Try.func18 #[.agg #[.slice ak J.length al, .slice an L.length ao]] ?_; (with_reducible refine (laws_toGraph.calls au _ _ J _ _ L bw bz _ ?z ?D ?O ?Y dj.out).mono ?_); (case z => exact Kd.C_below aN.out (bs HB.out)); (case D => exact aO.out); (case O => exact Kd.C_below aP.out (bs HB.out)); (case Y => exact aQ.out); rintro e d7 ⟨d8, d9, rfl, T, ag, hb⟩; refine ⟨_, rfl, ?_⟩; replace az := rb az hb; replace ad := rb ad hb; have a9 := am (Kd.R_lower (Kd.R_new' T (rk aA)) (below_size (bs HB.out))); replace aA := re aA T hb; have ba := am (Kd.R_lower (Kd.R_new' ag (rk aB)) (below_size (bs HB.out))); replace aB := re aB ag hb; replace s := bb s hb rfl; replace y := bb y hb rfl; replace HB := hs HB hb; (try clear T ag hb); obtain ⟨du, dv, dw⟩ := Kd.R_slice a9.out; subst dw; obtain ⟨dx, dy, dz⟩ := Kd.R_slice ba.out; subst dz) | ((with_reducible refine gc 32 rfl ?_); refine gl 56 Try.func32 #[.agg #[.slice du bw.length dv, .slice dx bz.length dy]] ?_; (with_reducible refine (impl_WalkCore.calls au _ _ bw _ _ bz a8 _ ?z ?D ?O ?Y dk.out).mono ?_); (case z => exact cr a9); (case D => exact cc a9); (case O => exact cr ba); (case Y => exact cc ba); rintro e ea ⟨eb, rfl, T, hb⟩; refine ⟨_, rfl, ?_⟩; replace aA := rb aA hb; replace aB := rb aB hb; replace a9 := rb a9 hb; replace ba := rb ba hb; have bA := am (Kd.R_lower (Kd.R_new' (Kd.R_new' T (rk az)) (rk ad)) (below_size (bs HB.out))); replace az := re az T hb; replace ad := re ad T hb; replace s := bb s hb rfl; replace y := bb y hb rfl; replace HB := hs HB hb; (try clear T hb); obtain ⟨dA, dB, dC⟩ := Kd.R_slice bA.out; subst dC) | ((with_reducible refine gc 28 rfl ?_); refine gl 59 Try.func28 #[.slice dA a8.length dB, .slice aG ae.length aH] ?_; (with_reducible refine (laws_eqIntS.calls au _ _ a8 _ _ ae true _ ?z ?D ?O ?Y dl.out).mono ?_); (case z => exact cr bA); (case D => exact cc bA); (case O => exact cr az); (case Y => exact cc az); rintro e w' ⟨rfl, ⟨nd, rfl⟩⟩; refine ⟨_, rfl, ?_⟩) | ((with_reducible refine gc 30 rfl ?_); refine goesL_ (some 63) rfl rfl Try.func30 (by kernel_rfl) rfl #[.slice av aC.length aw, .int .i64 1] rfl (by (try simp only [List.map_toArray, List.map_cons, List.map_nil]); first | done | (rw [show aC.length = M.length from (Kd.R_reads' ad.out).1.symm] <;> rfl) | rfl | (simp only [List.length_drop, List.length_take]; rfl)) ?_; (with_reducible refine (laws_heldIntS.calls au _ _ aC 1 aj _ ?z ?D dm.out).mono ?_); (case z => exact cr ad); (case D => rw [show aC.length = M.length from (Kd.R_reads' ad.out).1.symm]; exact cc ad); rintro e w' ⟨rfl, ⟨nd, rfl⟩⟩; refine ⟨_, rfl, ?_⟩))
            go_ret
            exact ⟨eqr, bs HB.out⟩
           ·rw [if_neg aM] at H
            have dq : (aj == ay) = false := beq_eq_false_iff_ne.mpr aM
            have dr : (aj != ay) = true := bne_iff_ne.mpr aM
            exact absurd (Option.some.inj H) (by rw [hT.out]; decide)
         ·replace bl := Bool.eq_false_iff.mpr bl
          subst bl
          have H1 : (some false) = some r := by rw [if_neg (show ¬ (false = true) by decide)] at H; exact H
          clear H
          have H := H1
          clear H1
          exact absurd (Option.some.inj H) (by rw [hT.out]; decide)
        ·rw [if_neg aL] at H
         have dh : (ax == ay) = false := beq_eq_false_iff_ne.mpr aL
         have di : (ax != ay) = true := bne_iff_ne.mpr aL
         exact absurd (Option.some.inj H) (by rw [hT.out]; decide)
   ·replace aY := Bool.eq_false_iff.mpr aY
    subst aY
    have H1 : (some false) = some r := by rw [if_neg (show ¬ (false = true) by decide)] at H; exact H
    clear H
    have H := H1
    clear H1
    exact absurd (Option.some.inj H) (by rw [hT.out]; decide)
  ·replace aX := Bool.eq_false_iff.mpr aX
   subst aX
   have H1 : (some false) = some r := by rw [if_neg (show ¬ (false = true) by decide)] at H; exact H
   clear H
   have H := H1
   clear H1
   exact absurd (Option.some.inj H) (by rw [hT.out]; decide)

end Go.Proofs.Ytohmemckdogljaa.QFnExactWalkCore
