/- Contracts of the Go functions that this law reaches: each does what its plain Lean function says. No condition. -/
import Derived.Test.YtohmemckdogljaaQFnExactGraphDox0
namespace Go.Proofs.Ytohmemckdogljaa.QFnExactGraphDo
open Go.RowKit Go.Proofs.YtohmemckdogljaaW.PrintWords Go.Proofs.YtohmemckdogljaaW.PrintLast Go.Proofs.YtohmemckdogljaaW.PrintMore Go.Proofs.Ytohmemckdogljaa.Bl
attribute [local go_sem] max2_int min2_int max_two min_two max_three min_three max_four min_four   -- for this text's walks alone
set_option linter.unusedVariables false
set_option linter.unusedSimpArgs false
set_option maxHeartbeats 8000000
set_option maxRecDepth 100000

/-! ### laws_szNodeS: function 60 -/
def laws_szNodeS.f (l0 : List (S27)) (s : Int) : Option (Int) := if (wrap64 (s - (l0.length : Int))) < 0 then (some (-1)) else (some (wrap64 (s - (l0.length : Int))))
theorem laws_szNodeS.calls (z : Option Addr) (D : Nat) (l0 : List (S27)) (y : Int) (r : Int) (w : World) (G : Kd.C k27 w z l0.length l0) (I : l0.length ≤ D) (h : laws_szNodeS.f l0 y = some r) :
  Calls Try.prog 60 #[.slice z l0.length D, .int .i64 y] w fun e w' => e = .returned (.int .i64 r) ∧ Drawn0 w w' := by
 have M := am G
 have O := am I
 clear G I
 have H := h; unfold laws_szNodeS.f at H
 clear h
 by_cases s : (wrap64 (y - (l0.length : Int))) < 0
 ·rw [if_pos s] at H
  have L : decide ((wrap64 (y - (l0.length : Int))) < 0) = true := decide_eq_true s
  clear s
  obtain rfl := Option.some.inj H
  go_enter Try.func60, Try.ntmps60
  go_wp2
  go_ret
  exact ⟨eqs, drs⟩
 ·rw [if_neg s] at H
  have L : decide ((wrap64 (y - (l0.length : Int))) < 0) = false := decide_eq_false s
  clear s
  obtain rfl := Option.some.inj H
  go_enter Try.func60, Try.ntmps60
  go_wp2
  go_ret
  exact ⟨eqs, drs⟩

/-! ### laws_szEdgeS: function 61 -/
def laws_szEdgeS.f (l0 : List (S70)) (s : Int) : Option (Int) := if (wrap64 (s - (l0.length : Int))) < 0 then (some (-1)) else (some (wrap64 (s - (l0.length : Int))))
theorem laws_szEdgeS.calls (z : Option Addr) (D : Nat) (l0 : List (S70)) (y : Int) (r : Int) (w : World) (G : Kd.C k70 w z l0.length l0) (I : l0.length ≤ D) (h : laws_szEdgeS.f l0 y = some r) :
  Calls Try.prog 61 #[.slice z l0.length D, .int .i64 y] w fun e w' => e = .returned (.int .i64 r) ∧ Drawn0 w w' := by
 have M := am G
 have O := am I
 clear G I
 have H := h; unfold laws_szEdgeS.f at H
 clear h
 by_cases s : (wrap64 (y - (l0.length : Int))) < 0
 ·rw [if_pos s] at H
  have L : decide ((wrap64 (y - (l0.length : Int))) < 0) = true := decide_eq_true s
  clear s
  obtain rfl := Option.some.inj H
  go_enter Try.func61, Try.ntmps61
  go_wp2
  go_ret
  exact ⟨eqs, drs⟩
 ·rw [if_neg s] at H
  have L : decide ((wrap64 (y - (l0.length : Int))) < 0) = false := decide_eq_false s
  clear s
  obtain rfl := Option.some.inj H
  go_enter Try.func61, Try.ntmps61
  go_wp2
  go_ret
  exact ⟨eqs, drs⟩

/-! ### laws_szGraph: function 16 -/
def laws_szGraph.f (z : List (S27)) (D : List (S70)) (G : Int) : Option (Int) := (laws_szNodeS.f z G).bind fun s => (if s < 0 then (some (-1)) else ((laws_szEdgeS.f D s).bind fun y => (if y < 0 then (some (-1)) else (some y))))
theorem laws_szGraph.calls (I : Option Addr) (J : Nat) (s : List (S27)) (O : Option Addr) (T : Nat) (y : List (S70)) (L : Int) (r : Int) (w : World) (ad : Kd.C k27 w I s.length s) (ae : s.length ≤ J) (af : Kd.C k70 w O y.length y) (ag : y.length ≤ T) (h : laws_szGraph.f s y L = some r) :
  Calls Try.prog 16 #[.agg #[.slice I s.length J, .slice O y.length T], .int .i64 L] w fun e w' => e = .returned (.int .i64 r) ∧ Below w.heap.size w w' := by
 have hu25 := Try.underlying25
 have ab := am ad
 have ac := am ae
 clear ad ae
 have ah := am af
 have ai := am ag
 clear af ag
 have HB := am (Below.refl w.heap.size w)
 have H := h; unfold laws_szGraph.f at H
 clear h
 replace H := Option.bind_eq_some_iff.mp H
 obtain ⟨z, aj, H⟩ := H
 try dsimp -simprocs only at H
 have A3 := am aj
 clear aj
 by_cases Y : z < 0
 ·rw [if_pos Y] at H
  have ao : decide (z < 0) = true := decide_eq_true Y
  clear Y
  obtain rfl := Option.some.inj H
  go_enter Try.func16, Try.ntmps16
  go_wp2_with (first | ((with_reducible refine gd 2 rfl ?_); refine bx 2 (cs := #[.slice I s.length J, .slice O y.length T]) (t := 25) ?_; intro ak hg w5 hbox hb; have M := am hbox; have al := gwb HB hg; replace HB := hs HB hb; clear hb hbox hg; obtain ⟨ar, au⟩ := bc2 (w := w5) M.out; have av := blk_frozen M.out) | ((with_reducible refine gc 60 rfl ?_); refine gl 8 Try.func60 #[.slice I s.length J, .int .i64 L] ?_; (with_reducible refine (laws_szNodeS.calls _ _ s L z _ ?D ?G A3.out).mono ?_); (case D => exact Kd.C_below ab.out (bs HB.out)); (case G => exact ac.out); rintro e w' ⟨rfl, ⟨nd, rfl⟩⟩; refine ⟨_, rfl, ?_⟩))
  go_ret
  exact ⟨eqr, bs HB.out⟩
 ·rw [if_neg Y] at H
  have ao : decide (z < 0) = false := decide_eq_false Y
  clear Y
  replace H := Option.bind_eq_some_iff.mp H
  obtain ⟨aa, an, H⟩ := H
  try dsimp -simprocs only at H
  have A7 := am an
  clear an
  by_cases Z : aa < 0
  ·rw [if_pos Z] at H
   have ap : decide (aa < 0) = true := decide_eq_true Z
   clear Z
   obtain rfl := Option.some.inj H
   go_enter Try.func16, Try.ntmps16
   go_wp2_with (first | ((with_reducible refine gd 2 rfl ?_); refine bx 2 (cs := #[.slice I s.length J, .slice O y.length T]) (t := 25) ?_; intro ak hg w9 hbox hb; have M := am hbox; have al := gwb HB hg; replace HB := hs HB hb; clear hb hbox hg; obtain ⟨aw, ax⟩ := bc2 (w := w9) M.out; have ay := blk_frozen M.out) | ((with_reducible refine gc 60 rfl ?_); refine gl 8 Try.func60 #[.slice I s.length J, .int .i64 L] ?_; (with_reducible refine (laws_szNodeS.calls _ _ s L z _ ?D ?G A3.out).mono ?_); (case D => exact Kd.C_below ab.out (bs HB.out)); (case G => exact ac.out); rintro e w' ⟨rfl, ⟨nd, rfl⟩⟩; refine ⟨_, rfl, ?_⟩) | ((with_reducible refine gc 61 rfl ?_); refine gl 14 Try.func61 #[.slice O y.length T, .int .i64 z] ?_; (with_reducible refine (laws_szEdgeS.calls _ _ y z aa _ ?D ?G A7.out).mono ?_); (case D => exact Kd.C_below ah.out (bs HB.out)); (case G => exact ai.out); rintro e w' ⟨rfl, ⟨nd, rfl⟩⟩; refine ⟨_, rfl, ?_⟩))
   go_ret
   exact ⟨eqr, bs HB.out⟩
  ·rw [if_neg Z] at H
   have ap : decide (aa < 0) = false := decide_eq_false Z
   clear Z
   obtain rfl := Option.some.inj H
   go_enter Try.func16, Try.ntmps16
   go_wp2_with (first | ((with_reducible refine gd 2 rfl ?_); refine bx 2 (cs := #[.slice I s.length J, .slice O y.length T]) (t := 25) ?_; intro ak hg aq hbox hb; have M := am hbox; have al := gwb HB hg; replace HB := hs HB hb; clear hb hbox hg; obtain ⟨az, aA⟩ := bc2 (w := aq) M.out; have aB := blk_frozen M.out) | ((with_reducible refine gc 60 rfl ?_); refine gl 8 Try.func60 #[.slice I s.length J, .int .i64 L] ?_; (with_reducible refine (laws_szNodeS.calls _ _ s L z _ ?D ?G A3.out).mono ?_); (case D => exact Kd.C_below ab.out (bs HB.out)); (case G => exact ac.out); rintro e w' ⟨rfl, ⟨nd, rfl⟩⟩; refine ⟨_, rfl, ?_⟩) | ((with_reducible refine gc 61 rfl ?_); refine gl 14 Try.func61 #[.slice O y.length T, .int .i64 z] ?_; (with_reducible refine (laws_szEdgeS.calls _ _ y z aa _ ?D ?G A7.out).mono ?_); (case D => exact Kd.C_below ah.out (bs HB.out)); (case G => exact ai.out); rintro e w' ⟨rfl, ⟨nd, rfl⟩⟩; refine ⟨_, rfl, ?_⟩))
   go_ret
   exact ⟨eqr, bs HB.out⟩

/-! ### laws_toNode: function 19 -/
def laws_toNode.f (s : Int) (y : Int) : Option (Int × Int) := some (s, y)
theorem laws_toNode.calls (D : Int) (G : Int) (J : Int) (L : Int) (w : World) (h : laws_toNode.f D G = some (J, L)) :
  Calls Try.prog 19 #[.agg #[.int .i64 D, .int .i64 G]] w fun e w' => e = .returned (.agg #[.int .i64 J, .int .i64 L]) ∧ Below w.heap.size w w' := by
 have hu27 := Try.underlying27
 have hu36 := Try.underlying36
 have HB := am (Below.refl w.heap.size w)
 have H := h; unfold laws_toNode.f at H
 clear h
 simp only [Option.some.injEq, Prod.mk.injEq] at H
 obtain ⟨rfl, rfl⟩ := H
 go_enter Try.func19, Try.ntmps19
 go_wp2_with (first | ((with_reducible refine gd 1 rfl ?_); refine bx 1 (cs := #[.int .i64 D, .int .i64 G]) (t := 27) ?_; intro ac hg w2 hbox hb; have y := am hbox; have ad := gwb HB hg; replace HB := hs HB hb; clear hb hbox hg) | ((with_reducible refine gd 2 rfl ?_); refine bx 2 (cs := #[.int .i64 0, .int .i64 0]) (t := 36) ?_; intro O hg w3 hbox hb; have z := am hbox; have ae := gwb HB hg; replace HB := hs HB hb; have T := nq y hg; have X := nq' y hg; replace y := bb y hb rfl; clear hb hbox hg) | ((with_reducible refine gd 3 rfl ?_); refine bx 3 (cs := #[.int .i64 0, .int .i64 0]) (t := 36) ?_; intro af hg I hbox hb; have M := am hbox; have ag := gwb HB hg; replace HB := hs HB hb; have Y := nq y hg; have Z := nq' y hg; replace y := bb y hb rfl; have aa := nq z hg; have ab := nq' z hg; replace z := bb z hb rfl; clear hb hbox hg; have ah := T.out; have ai := X.out; have aj := Y.out; have ak := Z.out; obtain ⟨al, an⟩ := bc2 (w := I) y.out; have ao := blk_frozen y.out; have ap := ab.out; have aq := aa.out; obtain ⟨ar, au⟩ := bc2 (w := I) M.out; have av := blk_frozen M.out; obtain ⟨aw, ax⟩ := bc2 (w := I) z.out; have ay := blk_frozen z.out))
 refine bodyPost_ret (results_cell_row rfl _ _ O 36 #[.int .i64 D, .int .i64 G] (0, 0) _ rfl (bp z.out rfl) Try.underlying36 rfl (by kernel_rfl)) rfl ?_
 exact ⟨eqr, bs HB.out⟩

/-! ### laws_toNodeS: function 65 -/
def laws_toNodeS.l0 : Nat → List (S27) → List (S36) → Int → Option ((List (S36)))
 | 0, _, _, _ => none
 | k + 1, y, z, s => if s < (y.length : Int) then (if 0 ≤ s then ((laws_toNode.f ((rd_T27 y s).f0) ((rd_T27 y s).f1)).bind fun D => (if s < (z.length : Int) then (laws_toNodeS.l0 k y (z.set (s : Int).toNat (⟨D.1, D.2⟩ : S36)) (wrap64 (s + 1))) else (none))) else (none)) else (some z)
def laws_toNodeS.f (k : Nat) (l0 : List (S27)) : Option ((List (S36))) := if 0 ≤ (l0.length : Int) then (if ((l0.length : Int) : Int).toNat ≤ 17592186044416 then (laws_toNodeS.l0 k l0 (List.replicate ((l0.length : Int) : Int).toNat z36) 0) else (none)) else (none)
theorem laws_toNodeS.calls (k : Nat) (A0 : Option Addr) (c0 : Nat) (l0 : List (S27)) (r : List (S36)) (w : World) (an : Kd.C k27 w A0 l0.length l0) (ao : l0.length ≤ c0) (h : laws_toNodeS.f k l0 = some r) :
  Calls Try.prog 65 #[.slice A0 l0.length c0] w fun e w' => ∃ ap : Value, e = .returned (ap) ∧ Kd.R k36 36 w' w.heap.size (fun _ => True) ap r ∧ Below w.heap.size w w' := by
 have hu27 := Try.underlying27
 have hu36 := Try.underlying36
 have aG := am an
 have aW := am ao
 clear an ao
 have HB := am (Below.refl w.heap.size w)
 have H := h; unfold laws_toNodeS.f at H
 clear h
 by_cases c2 : 0 ≤ (l0.length : Int)
 ·rw [if_pos c2] at H
  have aH := eq_true c2
  have aI : decide (0 ≤ (l0.length : Int)) = true := decide_eq_true c2
  clear c2
  by_cases J : ((l0.length : Int) : Int).toNat ≤ 17592186044416
  ·rw [if_pos J] at H
   have aJ := eq_true J
   have aK : decide (((l0.length : Int) : Int).toNat ≤ 17592186044416) = true := decide_eq_true J
   clear J
   obtain ⟨aq, aa⟩ : ∃ y_ : List (S36), y_ = (List.replicate ((l0.length : Int) : Int).toNat z36) := ⟨_, rfl⟩
   replace H : (laws_toNodeS.l0 k l0 aq 0) = some r := by first | (rw [aa]; exact H) | exact H
   have ar := am aa
   clear aa
   have H' := am H
   clear H
   go_enter Try.func65, Try.ntmps65
   go_wp2_with (first | ((with_reducible refine gd 7 rfl ?_); refine Kd.R_make k36 _ 36 rfl (N := 7) rfl 29 _ _ rfl (l0.length : Int) rfl rfl Try.underlying29 (.agg #[(.int .i64 0), (.int .i64 0)]) 16 info36 rfl (by decide) (by omega) z36 (ok := fun _ => True) (okp := fun _ => True) (k36_mkM _ _ _ z36 ) (fun _ hk => hk) trivial (oda) (Nat.le_trans (Nat.mul_le_mul_right _ (oda : (l0.length : Int).toNat ≤ 17592186044416)) (by omega)) (Below.refl _ _) (Nat.le_refl _) ?_; intro aL w4 T hb hg_ hnew_; clear hg_ hnew_; (first | rw [← ar.out] at T | (simp only [Int.reduceToNat] at T; rw [← ar.out] at T)); have aM := am (Kd.R_lower T (below_size (bs HB.out))); replace HB := hs HB hb; clear hb T))
   go_loopg [4] k (fun kq v4 w' => ∃ (y : List (S36)) (s : Int), v4 = .int .i64 s ∧ Aside0 (laws_toNodeS.l0 kq l0 y s = some r) ∧ Aside0 (kq ≤ k) ∧ Aside0 (Kd.R k36 36 w' w.heap.size (fun _ => True) aL y) ∧ Aside0 (Below w.heap.size w w'))
   case atStart => exact ⟨(aq), (0), eqs, H', ⟨Nat.le_refl _⟩, ⟨rl aM.out⟩, ⟨bs HB.out⟩⟩
   case round =>
    clear H'
    try clear c2
    try clear aH
    try clear aI
    try clear p2
    try clear J
    try clear aJ
    try clear aK
    obtain ⟨y, s, rfl, HA, au, D, HB⟩ := hrel
    cases gk with
    | zero => exact absurd HA.out (by simp [laws_toNodeS.l0])
    | succ k1 =>
     have H := HA.out
     clear HA
     simp only [laws_toNodeS.l0] at H
     by_cases L : s < (l0.length : Int)
     ·rw [if_pos L] at H
      have aN : decide (s < (l0.length : Int)) = true := decide_eq_true L
      clear L
      by_cases X : 0 ≤ s
      ·rw [if_pos X] at H
       have aX : decide (0 ≤ s) = true := decide_eq_true X
       clear X
       replace H := Option.bind_eq_some_iff.mp H
       obtain ⟨⟨M, O⟩, av, H⟩ := H
       try dsimp -simprocs only at H
       have A8 := am av
       clear av
       by_cases Y : s < (y.length : Int)
       ·rw [if_pos Y] at H
        have aY : decide (s < (y.length : Int)) = true := decide_eq_true Y
        clear Y
        obtain ⟨ab, ac⟩ : ∃ y_ : List (S36), y_ = (y.set (s : Int).toNat (⟨M, O⟩ : S36)) := ⟨_, rfl⟩
        replace H : (laws_toNodeS.l0 k1 l0 ab (wrap64 (s + 1))) = some r := by first | (rw [ac]; exact H) | exact H
        have aO := am ac
        clear ac
        have H' := am H
        clear H
        have ad : 0 ≤ (s : Int) := oda
        have ae : s < (l0.length : Int) := oda
        obtain ⟨aZ, aP, aw, ax⟩ := at_T27 aG.out s ad ae
        cases aP
        replace aw := cb HB aw
        replace ax := cb HB ax
        replace ad := eq_true ad
        replace ae := eq_true ae
        go_wp2_with (first | ((with_reducible refine gc 19 rfl ?_); refine gl 20 Try.func19 #[.agg #[.int .i64 ((rd_T27 l0 s).f0), .int .i64 ((rd_T27 l0 s).f1)]] ?_; (with_reducible refine (laws_toNode.calls ((rd_T27 l0 s).f0) ((rd_T27 l0 s).f1) M O _ A8.out).mono ?_); rintro e I ⟨rfl, hb⟩; refine ⟨_, rfl, ?_⟩; replace D := rb D hb; replace HB := hs HB hb; (try clear hb); have af : 0 ≤ (s : Int) := oda; have ag : (s : Int) < ((y.length : Int) : Int) := oda; obtain ⟨G, ay, az, aA, aQ, a2, aB⟩ := Kd.R_form D.out (by omega); (first | cases az | (injection az with ea_ en_ ec_; (first | subst ea_ | (injection ea_ with ea_; subst ea_)); subst ec_; clear en_)); have aC := am aA; have a3 := am aB; clear aA aQ aB; obtain ⟨a4, aR, aD, ah, ai⟩ := Kd.R_elem D.out z36 (s : Int) af ag; obtain rfl := k36_openM aD; have a5 : I.cell? ⟨G, (s : Int).toNat * 2, none⟩ = some (.int .i64 ((rd_T36 y s).f0)) := ah 0 _ rfl; have a6 : I.cell? ⟨G, (s : Int).toNat * 2 + 1, none⟩ = some (.int .i64 ((rd_T36 y s).f1)) := ah 1 _ rfl; have a7 : I.frozen? ⟨G, (s : Int).toNat * 2, none⟩ = false := ai 0; have a8 : I.frozen? ⟨G, (s : Int).toNat * 2 + 1, none⟩ = false := ai 1; clear aR ah ai aD; replace af := eq_true af; replace ag := eq_true ag; have HX12 := am (show Kd.R k36 36 I w.heap.size (fun _ => True) (.slice (some ⟨G, 0, none⟩) y.length ay) y from (rl D.out)); obtain ⟨a9, aE, aF, Z, aj⟩ := Kd.R_elem HX12.out z36 (s : Int) (oda) (by have h_ : (s : Int) < ((y.length : Int) : Int) := oda; first | exact h_ | (have e_ := (Kd.R_reads' D.out).1; omega) | simpa using h_); obtain rfl := k36_openM aF; have ak := Kd.R_seg HX12.out (s : Int) (oda) (by have h_ : (s : Int) < ((y.length : Int) : Int) := oda; first | exact h_ | (have e_ := (Kd.R_reads' D.out).1; omega) | simpa using h_) (seg := [.int .i64 M, .int .i64 O]) (j := 0) aE Z (show 2 ≤ 2 from by decide) (x' := (⟨M, O⟩ : S36)) (k36_mkM _ _ _ (⟨M, O⟩ : S36) ) (fun _ hk => hk); have aS := Z 0 _ rfl; (try simp only [show (k36).sz = 2 from rfl, Nat.mul_one, Nat.add_zero] at aS); have aT := aj 0; (try simp only [show (k36).sz = 2 from rfl, Nat.mul_one, Nat.add_zero] at aT); have aU := Z 1 _ rfl; (try simp only [show (k36).sz = 2 from rfl, Nat.mul_one, Nat.add_zero] at aU); have aV := aj 1; (try simp only [show (k36).sz = 2 from rfl, Nat.mul_one, Nat.add_zero] at aV); clear aE Z aj aF) | ((with_reducible refine gate_store (t := 36) (p := 21) rfl ?_); refine store_event (t := 36) (p := 21) (v := ?vo_w13) (w1 := ((I.setCell ⟨G, (s : Int).toNat * 2, none⟩ (.int .i64 M)).setCell ⟨G, (s : Int).toNat * 2 + 1, none⟩ (.int .i64 O))) ?hg ?ho ?hn ?hr ?_; (case ho => rfl); (case hg => rfl); (case hn => rfl); (case hr => first | (go_simp; done) | (go_simp; rfl)); intro al hw; have hg : I.grownBy al (some G) := (by rw [hw]; exact ak.2); have hp_ : Kd.R k36 36 al w.heap.size (fun _ => True) (.slice (some ⟨G, 0, none⟩) y.length ay) ab := (by rw [hw, aO.out]; exact ak.1); clear ak; replace D := am hp_; replace HB := am ((by rw [hw]; exact below_set (below_set (HB.out) aC.out) aC.out : Below w.heap.size w al)); clear hg hw hp_))
        go_roundg k1
        case measure => have := au.out; omega
        case rel => exact ⟨(ab), (wrap64 (s + 1)), eqs, H', ⟨by have := au.out; omega⟩, ⟨rl D.out⟩, ⟨bs HB.out⟩⟩
       ·rw [if_neg Y] at H
        exact absurd H (by simp)
      ·rw [if_neg X] at H
       exact absurd H (by simp)
     ·rw [if_neg L] at H
      have aN : decide (s < (l0.length : Int)) = false := decide_eq_false L
      clear L
      obtain rfl := Option.some.inj H
      go_wp2
      go_ret
      exact ⟨_, eqr, by (with_reducible repeat (first | apply Kd.R_alloc | apply Kd.R_drewN | apply Kd.R_drew)); exact D.out, bs HB.out⟩
  ·rw [if_neg J] at H
   exact absurd H (by simp)
 ·rw [if_neg c2] at H
  exact absurd H (by simp)

/-! ### laws_toEdge: function 98 -/
def laws_toEdge.f (z : Int) (D : Int) (G : Int) (I : Int) (J : Int) : Option (Int × Int × Int × Int × Int) := (laws_toNode.f D G).bind fun s => ((laws_toNode.f I J).bind fun y => (some (z, s.1, s.2, y.1, y.2)))
theorem laws_toEdge.calls (G : Int) (I : Int) (J : Int) (L : Int) (M : Int) (Y : Int) (Z : Int) (r3 : Int) (r4 : Int) (r5 : Int) (w : World) (h : laws_toEdge.f G I J L M = some (Y, Z, r3, r4, r5)) :
  Calls Try.prog 98 #[.agg #[.int .i64 G, .int .i64 I, .int .i64 J, .int .i64 L, .int .i64 M]] w fun e w' => e = .returned (.agg #[.int .i64 Y, .int .i64 Z, .int .i64 r3, .int .i64 r4, .int .i64 r5]) ∧ Below w.heap.size w w' := by
 have hu70 := Try.underlying70
 have hu56 := Try.underlying56
 have hu27 := Try.underlying27
 have hu36 := Try.underlying36
 have HB := am (Below.refl w.heap.size w)
 have H := h; unfold laws_toEdge.f at H
 clear h
 replace H := Option.bind_eq_some_iff.mp H
 obtain ⟨⟨O, T⟩, aa, H⟩ := H
 try dsimp -simprocs only at H
 have A2 := am aa
 clear aa
 replace H := Option.bind_eq_some_iff.mp H
 obtain ⟨⟨ab, ac⟩, ad, H⟩ := H
 try dsimp -simprocs only at H
 have A3 := am ad
 clear ad
 simp only [Option.some.injEq, Prod.mk.injEq] at H
 obtain ⟨rfl, rfl, rfl, rfl, rfl⟩ := H
 go_enter Try.func98, Try.ntmps98
 go_wp2_with (first | ((with_reducible refine gd 1 rfl ?_); refine bx 1 (cs := #[.int .i64 G, .int .i64 I, .int .i64 J, .int .i64 L, .int .i64 M]) (t := 70) ?_; intro ae hg w4 hbox hb; have y := am hbox; have ao := gwb HB hg; replace HB := hs HB hb; clear hb hbox hg) | ((with_reducible refine gd 2 rfl ?_); refine bx 2 (cs := #[.int .i64 0, .int .i64 0, .int .i64 0, .int .i64 0, .int .i64 0]) (t := 56) ?_; intro X hg w5 hbox hb; have z := am hbox; have ap := gwb HB hg; replace HB := hs HB hb; have ah := nq y hg; have ai := nq' y hg; replace y := bb y hb rfl; clear hb hbox hg) | ((with_reducible refine gd 3 rfl ?_); refine bx 3 (cs := #[.int .i64 0, .int .i64 0, .int .i64 0, .int .i64 0, .int .i64 0]) (t := 56) ?_; intro aq hg w6 hbox hb; have D := am hbox; have ar := gwb HB hg; replace HB := hs HB hb; have aj := nq y hg; have ak := nq' y hg; replace y := bb y hb rfl; have al := nq z hg; have an := nq' z hg; replace z := bb z hb rfl; clear hb hbox hg; have au := ah.out; have av := ai.out; have aw := aj.out; have ax := ak.out; obtain ⟨ay, az, aA, aB, aC⟩ := bc5 (w := w6) y.out; have aD := blk_frozen y.out; have aE := an.out; have aF := al.out; obtain ⟨aG, aH, aI, aJ, aK⟩ := bc5 (w := w6) D.out; have aL := blk_frozen D.out) | ((with_reducible refine gc 19 rfl ?_); refine gl 9 Try.func19 #[.agg #[.int .i64 I, .int .i64 J]] ?_; (with_reducible refine (laws_toNode.calls I J O T _ A2.out).mono ?_); rintro e af ⟨rfl, hb⟩; refine ⟨_, rfl, ?_⟩; replace y := am (blk_below (g := ae) (o := .cells #[.int .i64 G, .int .i64 I, .int .i64 J, .int .i64 L, .int .i64 M] 70 (0, 0)) (bf y.out) hb); replace z := am (blk_below (g := X) (o := .cells #[.int .i64 0, .int .i64 0, .int .i64 0, .int .i64 0, .int .i64 0] 56 (0, 0)) (bf z.out) hb); replace D := bq #[.int .i64 G, .int .i64 0, .int .i64 0, .int .i64 0, .int .i64 0] D hb; replace HB := hs HB hb; (try clear hb); obtain ⟨aM, aN, aO, aP, aQ⟩ := bc5 (w := af) D.out; have aR := blk_frozen D.out; obtain ⟨aS, aT, aU, aV, aW⟩ := bc5 (w := af) y.out; have aX := blk_frozen y.out) | ((with_reducible refine gc 19 rfl ?_); refine gl 13 Try.func19 #[.agg #[.int .i64 L, .int .i64 M]] ?_; (with_reducible refine (laws_toNode.calls L M ab ac _ A3.out).mono ?_); rintro e ag ⟨rfl, hb⟩; refine ⟨_, rfl, ?_⟩; replace y := am (blk_below (g := ae) (o := .cells #[.int .i64 G, .int .i64 I, .int .i64 J, .int .i64 L, .int .i64 M] 70 (0, 0)) (bf y.out) hb); replace z := am (blk_below (g := X) (o := .cells #[.int .i64 0, .int .i64 0, .int .i64 0, .int .i64 0, .int .i64 0] 56 (0, 0)) (bf z.out) hb); replace D := bq #[.int .i64 G, .int .i64 O, .int .i64 T, .int .i64 0, .int .i64 0] D hb; replace HB := hs HB hb; (try clear hb); obtain ⟨aY, aZ, a2, a3, a4⟩ := bc5 (w := ag) D.out; have a5 := blk_frozen D.out; obtain ⟨a6, a7, a8, a9, ba⟩ := bc5 (w := ag) z.out; have bc := blk_frozen z.out))
 refine bodyPost_ret (results_cell_row rfl _ _ X 56 #[.int .i64 G, .int .i64 O, .int .i64 T, .int .i64 ab, .int .i64 ac] (0, 0) _ rfl (bp z.out rfl) Try.underlying56 rfl (by kernel_rfl)) rfl ?_
 exact ⟨eqr, bs HB.out⟩

/-! ### laws_toEdgeS: function 66 -/
def laws_toEdgeS.l0 : Nat → List (S70) → List (S56) → Int → Option ((List (S56)))
 | 0, _, _, _ => none
 | k + 1, y, D, s => if s < (y.length : Int) then (if 0 ≤ s then ((laws_toEdge.f ((rd_T70 y s).f0) ((rd_T70 y s).f1.f0) ((rd_T70 y s).f1.f1) ((rd_T70 y s).f2.f0) ((rd_T70 y s).f2.f1)).bind fun z => (if s < (D.length : Int) then (laws_toEdgeS.l0 k y (D.set (s : Int).toNat (⟨z.1, (⟨z.2.1, z.2.2.1⟩ : S36), (⟨z.2.2.2.1, z.2.2.2.2⟩ : S36)⟩ : S56)) (wrap64 (s + 1))) else (none))) else (none)) else (some D)
def laws_toEdgeS.f (k : Nat) (l0 : List (S70)) : Option ((List (S56))) := if 0 ≤ (l0.length : Int) then (if ((l0.length : Int) : Int).toNat ≤ 7036874417766 then (laws_toEdgeS.l0 k l0 (List.replicate ((l0.length : Int) : Int).toNat z56) 0) else (none)) else (none)
theorem laws_toEdgeS.calls (k : Nat) (A0 : Option Addr) (c0 : Nat) (l0 : List (S70)) (r : List (S56)) (w : World) (ap : Kd.C k70 w A0 l0.length l0) (aq : l0.length ≤ c0) (h : laws_toEdgeS.f k l0 = some r) :
  Calls Try.prog 66 #[.slice A0 l0.length c0] w fun e w' => ∃ ar : Value, e = .returned (ar) ∧ Kd.R k56 56 w' w.heap.size (fun _ => True) ar r ∧ Below w.heap.size w w' := by
 have hu70 := Try.underlying70
 have hu56 := Try.underlying56
 have aK := am ap
 have a8 := am aq
 clear ap aq
 have HB := am (Below.refl w.heap.size w)
 have H := h; unfold laws_toEdgeS.f at H
 clear h
 by_cases c2 : 0 ≤ (l0.length : Int)
 ·rw [if_pos c2] at H
  have aL := eq_true c2
  have aM : decide (0 ≤ (l0.length : Int)) = true := decide_eq_true c2
  clear c2
  by_cases L : ((l0.length : Int) : Int).toNat ≤ 7036874417766
  ·rw [if_pos L] at H
   have aN := eq_true L
   have aO : decide (((l0.length : Int) : Int).toNat ≤ 7036874417766) = true := decide_eq_true L
   clear L
   obtain ⟨au, af⟩ : ∃ y_ : List (S56), y_ = (List.replicate ((l0.length : Int) : Int).toNat z56) := ⟨_, rfl⟩
   replace H : (laws_toEdgeS.l0 k l0 au 0) = some r := by first | (rw [af]; exact H) | exact H
   have av := am af
   clear af
   have H' := am H
   clear H
   go_enter Try.func66, Try.ntmps66
   go_wp2_with (first | ((with_reducible refine gd 7 rfl ?_); refine Kd.R_make k56 _ 56 rfl (N := 7) rfl 32 _ _ rfl (l0.length : Int) rfl rfl Try.underlying32 (.agg #[(.int .i64 0), (.int .i64 0), (.int .i64 0), (.int .i64 0), (.int .i64 0)]) 40 info56 rfl (by decide) (by omega) z56 (ok := fun _ => True) (okp := fun _ => True) (k56_mkM _ _ _ z56 ) (fun _ hk => hk) trivial (oda) (Nat.le_trans (Nat.mul_le_mul_right _ (oda : (l0.length : Int).toNat ≤ 7036874417766)) (by omega)) (Below.refl _ _) (Nat.le_refl _) ?_; intro aP w4 ad hb hg_ hnew_; clear hg_ hnew_; (first | rw [← av.out] at ad | (simp only [Int.reduceToNat] at ad; rw [← av.out] at ad)); have aQ := am (Kd.R_lower ad (below_size (bs HB.out))); replace HB := hs HB hb; clear hb ad))
   go_loopg [4] k (fun kq v4 w' => ∃ (D : List (S56)) (s : Int), v4 = .int .i64 s ∧ Aside0 (laws_toEdgeS.l0 kq l0 D s = some r) ∧ Aside0 (kq ≤ k) ∧ Aside0 (Kd.R k56 56 w' w.heap.size (fun _ => True) aP D) ∧ Aside0 (Below w.heap.size w w'))
   case atStart => exact ⟨(au), (0), eqs, H', ⟨Nat.le_refl _⟩, ⟨rl aQ.out⟩, ⟨bs HB.out⟩⟩
   case round =>
    clear H'
    try clear c2
    try clear aL
    try clear aM
    try clear p2
    try clear L
    try clear aN
    try clear aO
    obtain ⟨D, s, rfl, HA, aw, I, HB⟩ := hrel
    cases gk with
    | zero => exact absurd HA.out (by simp [laws_toEdgeS.l0])
    | succ k1 =>
     have H := HA.out
     clear HA
     simp only [laws_toEdgeS.l0] at H
     by_cases M : s < (l0.length : Int)
     ·rw [if_pos M] at H
      have aR : decide (s < (l0.length : Int)) = true := decide_eq_true M
      clear M
      by_cases c7 : 0 ≤ s
      ·rw [if_pos c7] at H
       have a9 : decide (0 ≤ s) = true := decide_eq_true c7
       clear c7
       replace H := Option.bind_eq_some_iff.mp H
       obtain ⟨⟨O, T, X, Y, Z⟩, ax, H⟩ := H
       try dsimp -simprocs only at H
       have A8 := am ax
       clear ax
       by_cases c9 : s < (D.length : Int)
       ·rw [if_pos c9] at H
        have ba : decide (s < (D.length : Int)) = true := decide_eq_true c9
        clear c9
        obtain ⟨ag, ah⟩ : ∃ y_ : List (S56), y_ = (D.set (s : Int).toNat (⟨O, (⟨T, X⟩ : S36), (⟨Y, Z⟩ : S36)⟩ : S56)) := ⟨_, rfl⟩
        replace H : (laws_toEdgeS.l0 k1 l0 ag (wrap64 (s + 1))) = some r := by first | (rw [ah]; exact H) | exact H
        have aS := am ah
        clear ah
        have H' := am H
        clear H
        have ai : 0 ≤ (s : Int) := oda
        have aj : s < (l0.length : Int) := oda
        obtain ⟨bc, aT, ay, az, aA, aB, aC⟩ := at_T70 aK.out s ai aj
        cases aT
        replace ay := cb HB ay
        replace az := cb HB az
        replace aA := cb HB aA
        replace aB := cb HB aB
        replace aC := cb HB aC
        replace ai := eq_true ai
        replace aj := eq_true aj
        go_wp2_with (first | ((with_reducible refine gc 98 rfl ?_); refine gl 20 Try.func98 #[.agg #[.int .i64 ((rd_T70 l0 s).f0), .int .i64 ((rd_T70 l0 s).f1.f0), .int .i64 ((rd_T70 l0 s).f1.f1), .int .i64 ((rd_T70 l0 s).f2.f0), .int .i64 ((rd_T70 l0 s).f2.f1)]] ?_; (with_reducible refine (laws_toEdge.calls ((rd_T70 l0 s).f0) ((rd_T70 l0 s).f1.f0) ((rd_T70 l0 s).f1.f1) ((rd_T70 l0 s).f2.f0) ((rd_T70 l0 s).f2.f1) O T X Y Z _ A8.out).mono ?_); rintro e G ⟨rfl, hb⟩; refine ⟨_, rfl, ?_⟩; replace I := rb I hb; replace HB := hs HB hb; (try clear hb); have ak : 0 ≤ (s : Int) := oda; have al : (s : Int) < ((D.length : Int) : Int) := oda; obtain ⟨z, aD, aE, aF, aU, be, aG⟩ := Kd.R_form I.out (by omega); (first | cases aE | (injection aE with ea_ en_ ec_; (first | subst ea_ | (injection ea_ with ea_; subst ea_)); subst ec_; clear en_)); have ae := am aF; have bg := am aG; clear aF aU aG; obtain ⟨bh, aV, aH, aa, ab⟩ := Kd.R_elem I.out z56 (s : Int) ak al; obtain rfl := k56_openM aH; have bi : G.cell? ⟨z, (s : Int).toNat * 5, none⟩ = some (.int .i64 ((rd_T56 D s).f0)) := aa 0 _ rfl; have bj : G.cell? ⟨z, (s : Int).toNat * 5 + 1, none⟩ = some (.int .i64 ((rd_T56 D s).f1.f0)) := aa 1 _ rfl; have bk : G.cell? ⟨z, (s : Int).toNat * 5 + 2, none⟩ = some (.int .i64 ((rd_T56 D s).f1.f1)) := aa 2 _ rfl; have bl : G.cell? ⟨z, (s : Int).toNat * 5 + 3, none⟩ = some (.int .i64 ((rd_T56 D s).f2.f0)) := aa 3 _ rfl; have bm : G.cell? ⟨z, (s : Int).toNat * 5 + 4, none⟩ = some (.int .i64 ((rd_T56 D s).f2.f1)) := aa 4 _ rfl; have bn : G.frozen? ⟨z, (s : Int).toNat * 5, none⟩ = false := ab 0; have bo : G.frozen? ⟨z, (s : Int).toNat * 5 + 1, none⟩ = false := ab 1; have br : G.frozen? ⟨z, (s : Int).toNat * 5 + 2, none⟩ = false := ab 2; have bt : G.frozen? ⟨z, (s : Int).toNat * 5 + 3, none⟩ = false := ab 3; have bu : G.frozen? ⟨z, (s : Int).toNat * 5 + 4, none⟩ = false := ab 4; clear aV aa ab aH; replace ak := eq_true ak; replace al := eq_true al; have HX12 := am (show Kd.R k56 56 G w.heap.size (fun _ => True) (.slice (some ⟨z, 0, none⟩) D.length aD) D from (rl I.out)); obtain ⟨bv, aI, aJ, J, ac⟩ := Kd.R_elem HX12.out z56 (s : Int) (oda) (by have h_ : (s : Int) < ((D.length : Int) : Int) := oda; first | exact h_ | (have e_ := (Kd.R_reads' I.out).1; omega) | simpa using h_); obtain rfl := k56_openM aJ; have an := Kd.R_seg HX12.out (s : Int) (oda) (by have h_ : (s : Int) < ((D.length : Int) : Int) := oda; first | exact h_ | (have e_ := (Kd.R_reads' I.out).1; omega) | simpa using h_) (seg := [.int .i64 O, .int .i64 T, .int .i64 X, .int .i64 Y, .int .i64 Z]) (j := 0) aI J (show 5 ≤ 5 from by decide) (x' := (⟨O, (⟨T, X⟩ : S36), (⟨Y, Z⟩ : S36)⟩ : S56)) (k56_mkM _ _ _ (⟨O, (⟨T, X⟩ : S36), (⟨Y, Z⟩ : S36)⟩ : S56) ) (fun _ hk => hk); have aW := J 0 _ rfl; (try simp only [show (k56).sz = 5 from rfl, Nat.mul_one, Nat.add_zero] at aW); have aX := ac 0; (try simp only [show (k56).sz = 5 from rfl, Nat.mul_one, Nat.add_zero] at aX); have aY := J 1 _ rfl; (try simp only [show (k56).sz = 5 from rfl, Nat.mul_one, Nat.add_zero] at aY); have aZ := ac 1; (try simp only [show (k56).sz = 5 from rfl, Nat.mul_one, Nat.add_zero] at aZ); have a2 := J 2 _ rfl; (try simp only [show (k56).sz = 5 from rfl, Nat.mul_one, Nat.add_zero] at a2); have a3 := ac 2; (try simp only [show (k56).sz = 5 from rfl, Nat.mul_one, Nat.add_zero] at a3); have a4 := J 3 _ rfl; (try simp only [show (k56).sz = 5 from rfl, Nat.mul_one, Nat.add_zero] at a4); have a5 := ac 3; (try simp only [show (k56).sz = 5 from rfl, Nat.mul_one, Nat.add_zero] at a5); have a6 := J 4 _ rfl; (try simp only [show (k56).sz = 5 from rfl, Nat.mul_one, Nat.add_zero] at a6); have a7 := ac 4; (try simp only [show (k56).sz = 5 from rfl, Nat.mul_one, Nat.add_zero] at a7); clear aI J ac aJ) | ((with_reducible refine gate_store (t := 56) (p := 21) rfl ?_); refine store_event (t := 56) (p := 21) (v := ?vo_w13) (w1 := (((((G.setCell ⟨z, (s : Int).toNat * 5, none⟩ (.int .i64 O)).setCell ⟨z, (s : Int).toNat * 5 + 1, none⟩ (.int .i64 T)).setCell ⟨z, (s : Int).toNat * 5 + 2, none⟩ (.int .i64 X)).setCell ⟨z, (s : Int).toNat * 5 + 3, none⟩ (.int .i64 Y)).setCell ⟨z, (s : Int).toNat * 5 + 4, none⟩ (.int .i64 Z))) ?hg ?ho ?hn ?hr ?_; (case ho => rfl); (case hg => rfl); (case hn => rfl); (case hr => first | (go_simp; done) | (go_simp; rfl)); intro ao hw; have hg : G.grownBy ao (some z) := (by rw [hw]; exact an.2); have hp_ : Kd.R k56 56 ao w.heap.size (fun _ => True) (.slice (some ⟨z, 0, none⟩) D.length aD) ag := (by rw [hw, aS.out]; exact an.1); clear an; replace I := am hp_; replace HB := am ((by rw [hw]; exact below_set (below_set (below_set (below_set (below_set (HB.out) ae.out) ae.out) ae.out) ae.out) ae.out : Below w.heap.size w ao)); clear hg hw hp_))
        go_roundg k1
        case measure => have := aw.out; omega
        case rel => exact ⟨(ag), (wrap64 (s + 1)), eqs, H', ⟨by have := aw.out; omega⟩, ⟨rl I.out⟩, ⟨bs HB.out⟩⟩
       ·rw [if_neg c9] at H
        exact absurd H (by simp)
      ·rw [if_neg c7] at H
       exact absurd H (by simp)
     ·rw [if_neg M] at H
      have aR : decide (s < (l0.length : Int)) = false := decide_eq_false M
      clear M
      obtain rfl := Option.some.inj H
      go_wp2
      go_ret
      exact ⟨_, eqr, by (with_reducible repeat (first | apply Kd.R_alloc | apply Kd.R_drewN | apply Kd.R_drew)); exact I.out, bs HB.out⟩
  ·rw [if_neg L] at H
   exact absurd H (by simp)
 ·rw [if_neg c2] at H
  exact absurd H (by simp)

/-! ### laws_toGraph: function 18 -/
def laws_toGraph.f (k : Nat) (s : List (S27)) (y : List (S70)) : Option ((List (S36)) × (List (S56))) := (laws_toNodeS.f k s).bind fun z => ((laws_toEdgeS.f k y).bind fun D => (some (z, D)))
theorem laws_toGraph.calls (k : Nat) (L : Option Addr) (M : Nat) (D : List (S27)) (O : Option Addr) (T : Nat) (G : List (S70)) (r1 : List (S36)) (r2 : List (S56)) (w : World) (ag : Kd.C k27 w L D.length D) (ah : D.length ≤ M) (ai : Kd.C k70 w O G.length G) (aj : G.length ≤ T) (h : laws_toGraph.f k D G = some (r1, r2)) :
  Calls Try.prog 18 #[.agg #[.slice L D.length M, .slice O G.length T]] w fun e w' => ∃ ak al : Value, e = .returned (.agg #[ak, al]) ∧ Kd.R k36 36 w' w.heap.size (fun _ => True) ak r1 ∧ Kd.R k56 56 w' w.heap.size (fun _ => True) al r2 ∧ Below w.heap.size w w' := by
 have hu25 := Try.underlying25
 have hu34 := Try.underlying34
 have av := am ag
 have aw := am ah
 clear ag ah
 have ax := am ai
 have ay := am aj
 clear ai aj
 have HB := am (Below.refl w.heap.size w)
 have H := h; unfold laws_toGraph.f at H
 clear h
 replace H := Option.bind_eq_some_iff.mp H
 obtain ⟨X, an, H⟩ := H
 try dsimp -simprocs only at H
 have A2 := am an
 clear an
 replace H := Option.bind_eq_some_iff.mp H
 obtain ⟨I, ao, H⟩ := H
 try dsimp -simprocs only at H
 have A3 := am ao
 clear ao
 simp only [Option.some.injEq, Prod.mk.injEq] at H
 obtain ⟨rfl, rfl⟩ := H
 go_enter Try.func18, Try.ntmps18
 go_wp2_with (first | ((with_reducible refine gd 1 rfl ?_); refine bx 1 (cs := #[.slice L D.length M, .slice O G.length T]) (t := 25) ?_; intro az hg w4 hbox hb; have s := am hbox; have aI := gwb HB hg; replace HB := hs HB hb; clear hb hbox hg) | ((with_reducible refine gd 2 rfl ?_); refine bx 2 (cs := #[.slice none 0 0, .slice none 0 0]) (t := 34) ?_; intro J hg w5 hbox hb; have y := am hbox; have aJ := gwb HB hg; replace HB := hs HB hb; have aA := nq s hg; have aB := nq' s hg; replace s := bb s hb rfl; clear hb hbox hg) | ((with_reducible refine gd 3 rfl ?_); refine bx 3 (cs := #[.slice none 0 0, .slice none 0 0]) (t := 34) ?_; intro ap hg w6 hbox hb; have z := am hbox; have aK := gwb HB hg; replace HB := hs HB hb; have aC := nq s hg; have aD := nq' s hg; replace s := bb s hb rfl; have aE := nq y hg; have aF := nq' y hg; replace y := bb y hb rfl; clear hb hbox hg; have aL := aA.out; have aM := aB.out; have aN := aC.out; have aO := aD.out; obtain ⟨aP, aQ⟩ := bc2 (w := w6) s.out; have aR := blk_frozen s.out) | ((with_reducible refine gc 65 rfl ?_); refine gl 6 Try.func65 #[.slice L D.length M] ?_; (with_reducible refine (laws_toNodeS.calls k _ _ D X _ ?ae ?af A2.out).mono ?_); (case ae => exact Kd.C_below av.out (bs HB.out)); (case af => exact aw.out); rintro e aq ⟨aS, rfl, Y, hb⟩; refine ⟨_, rfl, ?_⟩; have ab := am (Kd.R_lower Y (below_size (bs HB.out))); replace s := bb s hb rfl; replace y := bb y hb rfl; replace z := bb z hb rfl; replace HB := hs HB hb; (try clear Y hb); obtain ⟨ac, ad, aG⟩ := Kd.R_slice ab.out; subst aG; have aT := aF.out; have aU := aE.out; obtain ⟨aV, aW⟩ := bc2 (w := aq) z.out; have aX := blk_frozen z.out; obtain ⟨aY, aZ⟩ := bc2 (w := aq) s.out; have a2 := blk_frozen s.out) | ((with_reducible refine gc 66 rfl ?_); refine gl 10 Try.func66 #[.slice O G.length T] ?_; (with_reducible refine (laws_toEdgeS.calls k _ _ G I _ ?ae ?af A3.out).mono ?_); (case ae => exact Kd.C_below ax.out (bs HB.out)); (case af => exact ay.out); rintro e ar ⟨a3, rfl, Y, hb⟩; refine ⟨_, rfl, ?_⟩; replace ab := am (Kd.R_below (rt ab.out z.out (by decide)) hb); have au := am (Kd.R_lower Y (below_size (bs HB.out))); replace s := am (blk_below (g := az) (o := .cells #[.slice L D.length M, .slice O G.length T] 25 (0, 0)) (bf s.out) hb); replace y := am (blk_below (g := J) (o := .cells #[.slice none 0 0, .slice none 0 0] 34 (0, 0)) (bf y.out) hb); replace z := bq #[.slice ac X.length ad, .slice none 0 0] z hb; replace HB := hs HB hb; (try clear hb); (try clear hb2); (try clear hk); (try clear hi); (try clear Y); obtain ⟨Z, aa, aH⟩ := Kd.R_slice au.out; subst aH; obtain ⟨a4, a5⟩ := bc2 (w := ar) z.out; have a6 := blk_frozen z.out; obtain ⟨a7, a8⟩ := bc2 (w := ar) y.out; have a9 := blk_frozen y.out))
 refine bodyPost_ret (results_cell_row rfl _ _ J 34 #[.slice ac X.length ad, .slice Z I.length aa] (0, 0) _ rfl (bp y.out rfl) Try.underlying34 rfl (by kernel_rfl)) rfl ?_
 exact ⟨_, _, eqr, by (with_reducible repeat (first | apply Kd.R_alloc | apply Kd.R_drewN | apply Kd.R_drew)); exact Kd.R_mono (Kd.R_far (p := ⟨J, 1, none⟩) (Kd.R_far (p := ⟨J, 0, none⟩) (Kd.R_far (p := ⟨ap, 1, none⟩) (Kd.R_types (Kd.R_types ab.out z.out (by decide)) y.out (by decide)) (fun _ hk => hk.1.2) (.slice Z I.length aa)) (fun _ hk => hk.2) (.slice ac X.length ad)) (fun _ hk => hk.2) (.slice Z I.length aa)) (fun _ hk => trivial), by (with_reducible repeat (first | apply Kd.R_alloc | apply Kd.R_drewN | apply Kd.R_drew)); exact Kd.R_mono (Kd.R_far (p := ⟨J, 1, none⟩) (Kd.R_far (p := ⟨J, 0, none⟩) (Kd.R_far (p := ⟨ap, 1, none⟩) (Kd.R_types (Kd.R_types au.out z.out (by decide)) y.out (by decide)) (fun _ hk => hk.1.2) (.slice Z I.length aa)) (fun _ hk => hk.2) (.slice ac X.length ad)) (fun _ hk => hk.2) (.slice Z I.length aa)) (fun _ hk => trivial), bs HB.out⟩

/-! ### laws_eqNode: function 70 -/
def laws_eqNode.f (s : Int) (y : Int) (z : Int) (D : Int) : Option (Bool) := if s = z then (if y = D then (some true) else (some false)) else (some false)
theorem laws_eqNode.calls (z : Int) (D : Int) (G : Int) (I : Int) (r : Bool) (w : World) (h : laws_eqNode.f z D G I = some r) :
  Calls Try.prog 70 #[.agg #[.int .i64 z, .int .i64 D], .agg #[.int .i64 G, .int .i64 I]] w fun e w' => e = .returned (.bool r) ∧ Below w.heap.size w w' := by
 have hu36 := Try.underlying36
 have HB := am (Below.refl w.heap.size w)
 have H := h; unfold laws_eqNode.f at H
 clear h
 by_cases L : z = G
 ·rw [if_pos L] at H
  have ad : (z == G) = true := beq_iff_eq.mpr L
  have ae : (z != G) = false := bne_eq_false_iff_eq.mpr L
  clear L
  by_cases M : D = I
  ·rw [if_pos M] at H
   have af : (D == I) = true := beq_iff_eq.mpr M
   have ag : (D != I) = false := bne_eq_false_iff_eq.mpr M
   clear M
   obtain rfl := Option.some.inj H
   go_enter Try.func70, Try.ntmps70
   go_wp2_with (first | ((with_reducible refine gd 2 rfl ?_); refine bx 2 (cs := #[.int .i64 z, .int .i64 D]) (t := 36) ?_; intro X hg w5 hbox hb; have s := am hbox; have Y := gwb HB hg; replace HB := hs HB hb; clear hb hbox hg) | ((with_reducible refine gd 3 rfl ?_); refine bx 3 (cs := #[.int .i64 G, .int .i64 I]) (t := 36) ?_; intro Z hg w6 hbox hb; have J := am hbox; have aa := gwb HB hg; replace HB := hs HB hb; have O := nq s hg; have T := nq' s hg; replace s := bb s hb rfl; clear hb hbox hg; have ah := O.out; have ai := T.out; obtain ⟨aj, ak⟩ := bc2 (w := w6) s.out; have al := blk_frozen s.out; obtain ⟨an, ao⟩ := bc2 (w := w6) J.out; have ap := blk_frozen J.out))
   go_ret
   exact ⟨eqr, bs HB.out⟩
  ·rw [if_neg M] at H
   have af : (D == I) = false := beq_eq_false_iff_ne.mpr M
   have ag : (D != I) = true := bne_iff_ne.mpr M
   obtain rfl := Option.some.inj H
   go_enter Try.func70, Try.ntmps70
   go_wp2_with (first | ((with_reducible refine gd 2 rfl ?_); refine bx 2 (cs := #[.int .i64 z, .int .i64 D]) (t := 36) ?_; intro X hg aq hbox hb; have s := am hbox; have Y := gwb HB hg; replace HB := hs HB hb; clear hb hbox hg) | ((with_reducible refine gd 3 rfl ?_); refine bx 3 (cs := #[.int .i64 G, .int .i64 I]) (t := 36) ?_; intro Z hg ab hbox hb; have J := am hbox; have aa := gwb HB hg; replace HB := hs HB hb; have O := nq s hg; have T := nq' s hg; replace s := bb s hb rfl; clear hb hbox hg; have ar := O.out; have au := T.out; obtain ⟨av, aw⟩ := bc2 (w := ab) s.out; have ax := blk_frozen s.out; obtain ⟨ay, az⟩ := bc2 (w := ab) J.out; have aA := blk_frozen J.out))
   go_ret
   exact ⟨eqr, bs HB.out⟩
 ·rw [if_neg L] at H
  have ad : (z == G) = false := beq_eq_false_iff_ne.mpr L
  have ae : (z != G) = true := bne_iff_ne.mpr L
  obtain rfl := Option.some.inj H
  go_enter Try.func70, Try.ntmps70
  go_wp2_with (first | ((with_reducible refine gd 2 rfl ?_); refine bx 2 (cs := #[.int .i64 z, .int .i64 D]) (t := 36) ?_; intro X hg aB hbox hb; have s := am hbox; have Y := gwb HB hg; replace HB := hs HB hb; clear hb hbox hg) | ((with_reducible refine gd 3 rfl ?_); refine bx 3 (cs := #[.int .i64 G, .int .i64 I]) (t := 36) ?_; intro Z hg ac hbox hb; have J := am hbox; have aa := gwb HB hg; replace HB := hs HB hb; have O := nq s hg; have T := nq' s hg; replace s := bb s hb rfl; clear hb hbox hg; have aC := O.out; have aD := T.out; obtain ⟨aE, aF⟩ := bc2 (w := ac) s.out; have aG := blk_frozen s.out; obtain ⟨aH, aI⟩ := bc2 (w := ac) J.out; have aJ := blk_frozen J.out))
  go_ret
  exact ⟨eqr, bs HB.out⟩

/-! ### laws_eqNodeS: function 21 -/
def laws_eqNodeS.l0 : Nat → List (S36) → List (S36) → Int → Option (Bool)
 | 0, _, _, _ => none
 | k + 1, y, z, s => if s < (y.length : Int) then (if 0 ≤ s then (if s < (z.length : Int) then ((laws_eqNode.f ((rd_T36 y s).f0) ((rd_T36 y s).f1) ((rd_T36 z s).f0) ((rd_T36 z s).f1)).bind fun D => (if D = true then (laws_eqNodeS.l0 k y z (wrap64 (s + 1))) else (some false))) else (none)) else (none)) else (some true)
def laws_eqNodeS.f (k : Nat) (l0 : List (S36)) (l1 : List (S36)) : Option (Bool) := if (l0.length : Int) = (l1.length : Int) then (laws_eqNodeS.l0 k l0 l1 0) else (some false)
theorem laws_eqNodeS.calls (k : Nat) (A0 : Option Addr) (c0 : Nat) (l0 : List (S36)) (A1 : Option Addr) (c1 : Nat) (l1 : List (S36)) (r : Bool) (w : World) (al : Kd.C k36 w A0 l0.length l0) (an : l0.length ≤ c0) (ao : Kd.C k36 w A1 l1.length l1) (ap : l1.length ≤ c1) (h : laws_eqNodeS.f k l0 l1 = some r) :
  Calls Try.prog 21 #[.slice A0 l0.length c0, .slice A1 l1.length c1] w fun e w' => e = .returned (.bool r) ∧ Below w.heap.size w w' := by
 have hu36 := Try.underlying36
 have aq := am al
 have aB := am an
 clear al an
 have ar := am ao
 have aC := am ap
 clear ao ap
 have HB := am (Below.refl w.heap.size w)
 have H := h; unfold laws_eqNodeS.f at H
 clear h
 by_cases z : (l0.length : Int) = (l1.length : Int)
 ·rw [if_pos z] at H
  have au : ((l0.length : Int) == (l1.length : Int)) = true := beq_iff_eq.mpr z
  have av : ((l0.length : Int) != (l1.length : Int)) = false := bne_eq_false_iff_eq.mpr z
  have aw : (l0.length == l1.length) = true := by first | simpa using z | (simp at z ⊢; omega)
  clear z
  have H' := am H
  clear H
  go_enter Try.func21, Try.ntmps21
  go_wp2
  go_loopg [5] k (fun kq v5 w' => ∃ (s : Int), v5 = .int .i64 s ∧ Aside0 (laws_eqNodeS.l0 kq l0 l1 s = some r) ∧ Aside0 (kq ≤ k) ∧ Aside0 (Below w.heap.size w w'))
  case atStart => exact ⟨(0), eqs, H', ⟨Nat.le_refl _⟩, ⟨bs HB.out⟩⟩
  case round =>
   clear H'
   try clear c1
   try clear c2
   try clear p2
   try clear z
   try clear au
   try clear av
   try clear aw
   obtain ⟨s, rfl, HA, ax, HB⟩ := hrel
   cases gk with
   | zero => exact absurd HA.out (by simp [laws_eqNodeS.l0])
   | succ k1 =>
    have H := HA.out
    clear HA
    simp only [laws_eqNodeS.l0] at H
    by_cases Z : s < (l0.length : Int)
    ·rw [if_pos Z] at H
     have az : decide (s < (l0.length : Int)) = true := decide_eq_true Z
     clear Z
     by_cases c5 : 0 ≤ s
     ·rw [if_pos c5] at H
      have aD : decide (0 ≤ s) = true := decide_eq_true c5
      clear c5
      by_cases c6 : s < (l1.length : Int)
      ·rw [if_pos c6] at H
       have aE : decide (s < (l1.length : Int)) = true := decide_eq_true c6
       clear c6
       replace H := Option.bind_eq_some_iff.mp H
       obtain ⟨aA, ay, H⟩ := H
       try dsimp -simprocs only at H
       have A7 := am ay
       clear ay
       by_cases c8 : aA = true
       ·subst c8
        replace H : (laws_eqNodeS.l0 k1 l0 l1 (wrap64 (s + 1))) = some r := by rw [if_pos rfl] at H; exact H
        have H' := am H
        clear H
        try go_wp2
        replace HB := hd HB
        have L : 0 ≤ (s : Int) := oda
        have M : s < (l0.length : Int) := oda
        obtain ⟨O, ab, D, G⟩ := at_T36 aq.out s L M
        have ac := G
        have ad := D
        cases ab
        replace D := cb HB D
        replace G := cb HB G
        replace L := eq_true L
        replace M := eq_true M
        have T : 0 ≤ (s : Int) := oda
        have X : s < (l1.length : Int) := oda
        obtain ⟨Y, ae, I, J⟩ := at_T36 ar.out s T X
        have af := J
        have ag := I
        cases ae
        replace I := cb HB I
        replace J := cb HB J
        replace T := eq_true T
        replace X := eq_true X
        refine wp_region_bel (by kernel_rfl) (by kernel_rfl) ?_
        generalize wr.drew = w9 at HB D G I J ⊢
        have hbp_ := fun (p_ : Bel w9) => below_step HB.out p_.h
        have ah : ∀ p_ : Bel w9, p_.v.cell? (O.add ((s).toNat * 2)) = some (.int .i64 ((rd_T36 l0 s).f0)) := fun p_ => cell_bel ((cb HB ad)) p_
        have ai : ∀ p_ : Bel w9, p_.v.cell? ⟨(O.add ((s).toNat * 2)).block, (O.add ((s).toNat * 2)).off + 1, none⟩ = some (.int .i64 ((rd_T36 l0 s).f1)) := fun p_ => cell_bel ((cb HB ac)) p_
        have aj : ∀ p_ : Bel w9, p_.v.cell? (Y.add ((s).toNat * 2)) = some (.int .i64 ((rd_T36 l1 s).f0)) := fun p_ => cell_bel ((cb HB ag)) p_
        have ak : ∀ p_ : Bel w9, p_.v.cell? ⟨(Y.add ((s).toNat * 2)).block, (Y.add ((s).toNat * 2)).off + 1, none⟩ = some (.int .i64 ((rd_T36 l1 s).f1)) := fun p_ => cell_bel ((cb HB af)) p_
        repeat (go_big_quiet_step (first
         | (with_reducible show Calls Try.prog 70 #[.agg #[.int .i64 ((rd_T36 l0 s).f0), .int .i64 ((rd_T36 l0 s).f1)], .agg #[.int .i64 ((rd_T36 l1 s).f0), .int .i64 ((rd_T36 l1 s).f1)]] _ _; with_reducible exact calls_bel (laws_eqNode.calls ((rd_T36 l0 s).f0) ((rd_T36 l0 s).f1) ((rd_T36 l1 s).f0) ((rd_T36 l1 s).f1) true _ A7.out))))
        refine wpQuiet_nil ?_
        intro aF hw'
        obtain ⟨⟨wq_, hb⟩, hw''⟩ := hw'
        subst hw''
        clear hbp_ ah ai aj ak
        replace HB := hs HB hb
        (try clear hb)
        (try clear hb2)
        (try clear hk)
        (try clear hi)
        try go_wp2
        go_roundg k1
        case measure => have := ax.out; omega
        case rel => exact ⟨(wrap64 (s + 1)), eqs, H', ⟨by have := ax.out; omega⟩, ⟨bs HB.out⟩⟩
       ·replace c8 := Bool.eq_false_iff.mpr c8
        subst c8
        have H1 : (some false) = some r := by rw [if_neg (show ¬ (false = true) by decide)] at H; exact H
        clear H
        have H := H1
        clear H1
        obtain rfl := Option.some.inj H
        try go_wp2
        replace HB := hd HB
        have L : 0 ≤ (s : Int) := oda
        have M : s < (l0.length : Int) := oda
        obtain ⟨O, ab, D, G⟩ := at_T36 aq.out s L M
        have ac := G
        have ad := D
        cases ab
        replace D := cb HB D
        replace G := cb HB G
        replace L := eq_true L
        replace M := eq_true M
        have T : 0 ≤ (s : Int) := oda
        have X : s < (l1.length : Int) := oda
        obtain ⟨Y, ae, I, J⟩ := at_T36 ar.out s T X
        have af := J
        have ag := I
        cases ae
        replace I := cb HB I
        replace J := cb HB J
        replace T := eq_true T
        replace X := eq_true X
        refine wp_region_bel (by kernel_rfl) (by kernel_rfl) ?_
        generalize wr.drew = aa at HB D G I J ⊢
        have hbp_ := fun (p_ : Bel aa) => below_step HB.out p_.h
        have ah : ∀ p_ : Bel aa, p_.v.cell? (O.add ((s).toNat * 2)) = some (.int .i64 ((rd_T36 l0 s).f0)) := fun p_ => cell_bel ((cb HB ad)) p_
        have ai : ∀ p_ : Bel aa, p_.v.cell? ⟨(O.add ((s).toNat * 2)).block, (O.add ((s).toNat * 2)).off + 1, none⟩ = some (.int .i64 ((rd_T36 l0 s).f1)) := fun p_ => cell_bel ((cb HB ac)) p_
        have aj : ∀ p_ : Bel aa, p_.v.cell? (Y.add ((s).toNat * 2)) = some (.int .i64 ((rd_T36 l1 s).f0)) := fun p_ => cell_bel ((cb HB ag)) p_
        have ak : ∀ p_ : Bel aa, p_.v.cell? ⟨(Y.add ((s).toNat * 2)).block, (Y.add ((s).toNat * 2)).off + 1, none⟩ = some (.int .i64 ((rd_T36 l1 s).f1)) := fun p_ => cell_bel ((cb HB af)) p_
        repeat (go_big_quiet_step (first
         | (with_reducible show Calls Try.prog 70 #[.agg #[.int .i64 ((rd_T36 l0 s).f0), .int .i64 ((rd_T36 l0 s).f1)], .agg #[.int .i64 ((rd_T36 l1 s).f0), .int .i64 ((rd_T36 l1 s).f1)]] _ _; with_reducible exact calls_bel (laws_eqNode.calls ((rd_T36 l0 s).f0) ((rd_T36 l0 s).f1) ((rd_T36 l1 s).f0) ((rd_T36 l1 s).f1) false _ A7.out))))
        refine wpQuiet_nil ?_
        intro aG hw'
        obtain ⟨⟨wq_, hb⟩, hw''⟩ := hw'
        subst hw''
        clear hbp_ ah ai aj ak
        replace HB := hs HB hb
        (try clear hb)
        (try clear hb2)
        (try clear hk)
        (try clear hi)
        try go_wp2
        go_ret
        exact ⟨eqr, bs HB.out⟩
      ·rw [if_neg c6] at H
       exact absurd H (by simp)
     ·rw [if_neg c5] at H
      exact absurd H (by simp)
    ·rw [if_neg Z] at H
     have az : decide (s < (l0.length : Int)) = false := decide_eq_false Z
     clear Z
     obtain rfl := Option.some.inj H
     go_wp2
     go_ret
     exact ⟨eqr, bs HB.out⟩
 ·rw [if_neg z] at H
  have au : ((l0.length : Int) == (l1.length : Int)) = false := beq_eq_false_iff_ne.mpr z
  have av : ((l0.length : Int) != (l1.length : Int)) = true := bne_iff_ne.mpr z
  have aw : (l0.length == l1.length) = false := by first | simpa using z | (simp at z ⊢; omega)
  obtain rfl := Option.some.inj H
  go_enter Try.func21, Try.ntmps21
  go_wp2
  go_ret
  exact ⟨eqr, bs HB.out⟩

/-! ### laws_eqEdge: function 111 -/
def laws_eqEdge.f (s : Int) (y : Int) (z : Int) (D : Int) (G : Int) (I : Int) (J : Int) (L : Int) (M : Int) (O : Int) : Option (Bool) := if s = I then ((laws_eqNode.f y z J L).bind fun T => (if T = true then ((laws_eqNode.f D G M O).bind fun X => (if X = true then (some true) else (some false))) else (some false))) else (some false)
theorem laws_eqEdge.calls (L : Int) (D : Int) (G : Int) (M : Int) (O : Int) (T : Int) (I : Int) (J : Int) (X : Int) (Y : Int) (r : Bool) (w : World) (h : laws_eqEdge.f L D G M O T I J X Y = some r) :
  Calls Try.prog 111 #[.agg #[.int .i64 L, .int .i64 D, .int .i64 G, .int .i64 M, .int .i64 O], .agg #[.int .i64 T, .int .i64 I, .int .i64 J, .int .i64 X, .int .i64 Y]] w fun e w' => e = .returned (.bool r) ∧ Below w.heap.size w w' := by
 have hu56 := Try.underlying56
 have hu36 := Try.underlying36
 have HB := am (Below.refl w.heap.size w)
 have H := h; unfold laws_eqEdge.f at H
 clear h
 by_cases Z : L = T
 ·rw [if_pos Z] at H
  have ap : (L == T) = true := beq_iff_eq.mpr Z
  have aq : (L != T) = false := bne_eq_false_iff_eq.mpr Z
  clear Z
  replace H := Option.bind_eq_some_iff.mp H
  obtain ⟨ar, ah, H⟩ := H
  try dsimp -simprocs only at H
  have A4 := am ah
  clear ah
  by_cases c5 : ar = true
  ·subst c5
   replace H : ((laws_eqNode.f M O X Y).bind fun ac => (if ac = true then (some true) else (some false))) = some r := by rw [if_pos rfl] at H; exact H
   replace H := Option.bind_eq_some_iff.mp H
   obtain ⟨ac, ai, H⟩ := H
   try dsimp -simprocs only at H
   have A6 := am ai
   clear ai
   by_cases c7 : ac = true
   ·subst c7
    replace H : (some true) = some r := by rw [if_pos rfl] at H; exact H
    obtain rfl := Option.some.inj H
    go_enter Try.func111, Try.ntmps111
    go_wp2_with (first | ((with_reducible refine gd 2 rfl ?_); refine bx 2 (cs := #[.int .i64 L, .int .i64 D, .int .i64 G, .int .i64 M, .int .i64 O]) (t := 56) ?_; intro ad hg w8 hbox hb; have y := am hbox; have ae := gwb HB hg; replace HB := hs HB hb; clear hb hbox hg) | ((with_reducible refine gd 3 rfl ?_); refine bx 3 (cs := #[.int .i64 T, .int .i64 I, .int .i64 J, .int .i64 X, .int .i64 Y]) (t := 56) ?_; intro af hg w9 hbox hb; have z := am hbox; have ag := gwb HB hg; replace HB := hs HB hb; have aa := nq y hg; have ab := nq' y hg; replace y := bb y hb rfl; clear hb hbox hg; have au := aa.out; have av := ab.out; obtain ⟨aw, ax, ay, az, aA⟩ := bc5 (w := w9) y.out; have aB := blk_frozen y.out; obtain ⟨aC, aD, aE, aF, aG⟩ := bc5 (w := w9) z.out; have aH := blk_frozen z.out) | ((with_reducible refine gc 70 rfl ?_); refine gl 14 Try.func70 #[.agg #[.int .i64 D, .int .i64 G], .agg #[.int .i64 I, .int .i64 J]] ?_; (with_reducible refine (laws_eqNode.calls D G I J true _ A4.out).mono ?_); rintro e aj ⟨rfl, hb⟩; refine ⟨_, rfl, ?_⟩; replace y := bb y hb rfl; replace z := bb z hb rfl; replace HB := hs HB hb; (try clear hb); obtain ⟨aI, aJ, aK, aL, aM⟩ := bc5 (w := aj) y.out; have aN := blk_frozen y.out; obtain ⟨aO, aP, aQ, aR, aS⟩ := bc5 (w := aj) z.out; have aT := blk_frozen z.out) | ((with_reducible refine gc 70 rfl ?_); refine gl 20 Try.func70 #[.agg #[.int .i64 M, .int .i64 O], .agg #[.int .i64 X, .int .i64 Y]] ?_; (with_reducible refine (laws_eqNode.calls M O X Y true _ A6.out).mono ?_); rintro e aU ⟨rfl, hb⟩; refine ⟨_, rfl, ?_⟩; replace y := bb y hb rfl; replace z := bb z hb rfl; replace HB := hs HB hb; (try clear hb)))
    go_ret
    exact ⟨eqr, bs HB.out⟩
   ·replace c7 := Bool.eq_false_iff.mpr c7
    subst c7
    have H1 : (some false) = some r := by rw [if_neg (show ¬ (false = true) by decide)] at H; exact H
    clear H
    have H := H1
    clear H1
    obtain rfl := Option.some.inj H
    go_enter Try.func111, Try.ntmps111
    go_wp2_with (first | ((with_reducible refine gd 2 rfl ?_); refine bx 2 (cs := #[.int .i64 L, .int .i64 D, .int .i64 G, .int .i64 M, .int .i64 O]) (t := 56) ?_; intro ad hg aV hbox hb; have y := am hbox; have ae := gwb HB hg; replace HB := hs HB hb; clear hb hbox hg) | ((with_reducible refine gd 3 rfl ?_); refine bx 3 (cs := #[.int .i64 T, .int .i64 I, .int .i64 J, .int .i64 X, .int .i64 Y]) (t := 56) ?_; intro af hg ak hbox hb; have z := am hbox; have ag := gwb HB hg; replace HB := hs HB hb; have aa := nq y hg; have ab := nq' y hg; replace y := bb y hb rfl; clear hb hbox hg; have aW := aa.out; have aX := ab.out; obtain ⟨aY, aZ, a2, a3, a4⟩ := bc5 (w := ak) y.out; have a5 := blk_frozen y.out; obtain ⟨a6, a7, a8, a9, ba⟩ := bc5 (w := ak) z.out; have bc := blk_frozen z.out) | ((with_reducible refine gc 70 rfl ?_); refine gl 14 Try.func70 #[.agg #[.int .i64 D, .int .i64 G], .agg #[.int .i64 I, .int .i64 J]] ?_; (with_reducible refine (laws_eqNode.calls D G I J true _ A4.out).mono ?_); rintro e al ⟨rfl, hb⟩; refine ⟨_, rfl, ?_⟩; replace y := bb y hb rfl; replace z := bb z hb rfl; replace HB := hs HB hb; (try clear hb); obtain ⟨be, bg, bh, bi, bj⟩ := bc5 (w := al) y.out; have bk := blk_frozen y.out; obtain ⟨bl, bm, bn, bo, br⟩ := bc5 (w := al) z.out; have bt := blk_frozen z.out) | ((with_reducible refine gc 70 rfl ?_); refine gl 20 Try.func70 #[.agg #[.int .i64 M, .int .i64 O], .agg #[.int .i64 X, .int .i64 Y]] ?_; (with_reducible refine (laws_eqNode.calls M O X Y false _ A6.out).mono ?_); rintro e bu ⟨rfl, hb⟩; refine ⟨_, rfl, ?_⟩; replace y := bb y hb rfl; replace z := bb z hb rfl; replace HB := hs HB hb; (try clear hb)))
    go_ret
    exact ⟨eqr, bs HB.out⟩
  ·replace c5 := Bool.eq_false_iff.mpr c5
   subst c5
   have H1 : (some false) = some r := by rw [if_neg (show ¬ (false = true) by decide)] at H; exact H
   clear H
   have H := H1
   clear H1
   obtain rfl := Option.some.inj H
   go_enter Try.func111, Try.ntmps111
   go_wp2_with (first | ((with_reducible refine gd 2 rfl ?_); refine bx 2 (cs := #[.int .i64 L, .int .i64 D, .int .i64 G, .int .i64 M, .int .i64 O]) (t := 56) ?_; intro ad hg bv hbox hb; have y := am hbox; have ae := gwb HB hg; replace HB := hs HB hb; clear hb hbox hg) | ((with_reducible refine gd 3 rfl ?_); refine bx 3 (cs := #[.int .i64 T, .int .i64 I, .int .i64 J, .int .i64 X, .int .i64 Y]) (t := 56) ?_; intro af hg an hbox hb; have z := am hbox; have ag := gwb HB hg; replace HB := hs HB hb; have aa := nq y hg; have ab := nq' y hg; replace y := bb y hb rfl; clear hb hbox hg; have bw := aa.out; have bz := ab.out; obtain ⟨bA, bB, bC, bD, bE⟩ := bc5 (w := an) y.out; have bF := blk_frozen y.out; obtain ⟨bG, bH, bI, bJ, bK⟩ := bc5 (w := an) z.out; have bL := blk_frozen z.out) | ((with_reducible refine gc 70 rfl ?_); refine gl 14 Try.func70 #[.agg #[.int .i64 D, .int .i64 G], .agg #[.int .i64 I, .int .i64 J]] ?_; (with_reducible refine (laws_eqNode.calls D G I J false _ A4.out).mono ?_); rintro e bM ⟨rfl, hb⟩; refine ⟨_, rfl, ?_⟩; replace y := bb y hb rfl; replace z := bb z hb rfl; replace HB := hs HB hb; (try clear hb)))
   go_ret
   exact ⟨eqr, bs HB.out⟩
 ·rw [if_neg Z] at H
  have ap : (L == T) = false := beq_eq_false_iff_ne.mpr Z
  have aq : (L != T) = true := bne_iff_ne.mpr Z
  obtain rfl := Option.some.inj H
  go_enter Try.func111, Try.ntmps111
  go_wp2_with (first | ((with_reducible refine gd 2 rfl ?_); refine bx 2 (cs := #[.int .i64 L, .int .i64 D, .int .i64 G, .int .i64 M, .int .i64 O]) (t := 56) ?_; intro ad hg bN hbox hb; have y := am hbox; have ae := gwb HB hg; replace HB := hs HB hb; clear hb hbox hg) | ((with_reducible refine gd 3 rfl ?_); refine bx 3 (cs := #[.int .i64 T, .int .i64 I, .int .i64 J, .int .i64 X, .int .i64 Y]) (t := 56) ?_; intro af hg ao hbox hb; have z := am hbox; have ag := gwb HB hg; replace HB := hs HB hb; have aa := nq y hg; have ab := nq' y hg; replace y := bb y hb rfl; clear hb hbox hg; have bO := aa.out; have bP := ab.out; obtain ⟨bQ, bR, bS, bT, bU⟩ := bc5 (w := ao) y.out; have bV := blk_frozen y.out; obtain ⟨bW, bX, bY, bZ, b0⟩ := bc5 (w := ao) z.out; have b1 := blk_frozen z.out))
  go_ret
  exact ⟨eqr, bs HB.out⟩

end Go.Proofs.Ytohmemckdogljaa.QFnExactGraphDo
