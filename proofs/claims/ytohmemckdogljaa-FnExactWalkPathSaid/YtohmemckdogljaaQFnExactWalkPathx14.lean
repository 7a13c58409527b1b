/- Contracts of the Go functions that this law reaches: each does what its plain Lean function says. No condition. -/
import Derived.Test.YtohmemckdogljaaQFnExactWalkPathx0
import Derived.Test.YtohmemckdogljaaQFnExactWalkPathx10
import Derived.Test.YtohmemckdogljaaQFnExactWalkPathx12
import Derived.Test.YtohmemckdogljaaQFnExactWalkPathx13
namespace Go.Proofs.Ytohmemckdogljaa.QFnExactWalkPath
open Go.RowKit Go.Proofs.YtohmemckdogljaaW.PrintWords Go.Proofs.YtohmemckdogljaaW.PrintLast Go.Proofs.YtohmemckdogljaaW.PrintMore Go.Proofs.Ytohmemckdogljaa.Bl
attribute [local go_sem] max2_int min2_int max_two min_two max_three min_three max_four min_four   -- for this text's walks alone
set_option linter.unusedVariables false
set_option linter.unusedSimpArgs false
set_option maxHeartbeats 8000000
set_option maxRecDepth 100000

/-! ### impl_WalkPath: function 20 -/
mutual
def impl_WalkPath.j0 : Nat → Int → Int → Bool → List (S36) → List (S56) → Int → Int → Option ((List (S36)) × Bool)
 | 0, _, _, _, _, _, _, _ => none
 | k + 1, s, z, J, D, G, L, O => if J = true then (some (([] : List (S36)), false)) else ((impl_nearPlaces.f k D G).bind fun I => ((impl_stepsFrom.f k I z).bind fun y => (if 0 ≤ s then (if s < (y.1.length : Int) then (if (rd y.1 s) < 0 then (some (([] : List (S36)), false)) else (impl_WalkPath.l0 k s z I y.1 (([(⟨L, O⟩ : S36)] : List (S36))) D G)) else (none)) else (none))))
def impl_WalkPath.l0 : Nat → Int → Int → List (List Int) → List Int → List (S36) → List (S36) → List (S56) → Option ((List (S36)) × Bool)
 | 0, _, _, _, _, _, _, _ => none
 | k + 1, s, z, y, G, D, I, J => if s = z then (some (D, true)) else (if 0 ≤ s then (if s < (y.length : Int) then (impl_WalkPath.l1 k s z y G D (rd_L9 y s) ((rd_L9 y s).length : Int) 0 I J) else (none)) else (none))
def impl_WalkPath.l1 : Nat → Int → Int → List (List Int) → List Int → List (S36) → List Int → Int → Int → List (S36) → List (S56) → Option ((List (S36)) × Bool)
 | 0, _, _, _, _, _, _, _, _, _, _ => none
 | k + 1, y, J, L, G, I, z, T, s, D, O => if s < T then (if 0 ≤ s then (if s < (z.length : Int) then (if 0 ≤ (rd z s) then (if (rd z s) < (G.length : Int) then (if 0 ≤ y then (if y < (G.length : Int) then (if (rd G (rd z s)) = (wrap64 ((rd G y) - 1)) then (if (rd z s) < (D.length : Int) then (if I.length < 8796093022208 then (impl_WalkPath.l0 k (rd z s) J L G (I ++ [(⟨(rd_T36 D (rd z s)).f0, (rd_T36 D (rd z s)).f1⟩ : S36)]) D O) else (none)) else (none)) else (impl_WalkPath.l1 k y J L G I z T (wrap64 (s + 1)) D O)) else (none)) else (none)) else (none)) else (none)) else (none)) else (none)) else (if 0 ≤ y then (if y < (D.length : Int) then (if I.length < 8796093022208 then (impl_WalkPath.l0 k y J L G (I ++ [(⟨(rd_T36 D y).f0, (rd_T36 D y).f1⟩ : S36)]) D O) else (none)) else (none)) else (none))
end
def impl_WalkPath.f (k : Nat) (s : List (S36)) (y : List (S56)) (z : Int) (D : Int) (J : Int) (L : Int) : Option ((List (S36)) × Bool) := (impl_GraphOk.f k s y).bind fun O => (if O = true then ((impl_nodePlace.f k s y z D).bind fun G => ((impl_nodePlace.f k s y J L).bind fun I => (if G < 0 then (impl_WalkPath.j0 k G I true s y z D) else (impl_WalkPath.j0 k G I (decide (I < 0)) s y z D)))) else (some (([] : List (S36)), false)))
def impl_WalkPath.T15 : Bool × List (List Nat × List Nat) := (true, [([], []), ([], []), ([0, 1], [0, 1]), ([2], [2]), ([], []), ([], []), ([4, 5], [4, 5]), ([6], [6]), ([7], [7]), ([3, 8], [3, 8])])
def impl_WalkPath.B15 : List Nat := [0, 0, 3, 7, 0, 0, 48, 112, 240, 511]
theorem impl_WalkPath.tab15 : rtab .any (opsOf Try.f20 15) = impl_WalkPath.T15 := by kernel_rfl
theorem impl_WalkPath.bits15 : waitsOk impl_WalkPath.T15.2 impl_WalkPath.B15 = true := by kernel_rfl
theorem impl_WalkPath.calls (k : Nat) (al : Option Addr) (an : Nat) (G : List (S36)) (ao : Option Addr) (ap : Nat) (X : List (S56)) (Z : Int) (aa : Int) (af : Int) (ag : Int) (r1 : List (S36)) (r2 : Bool) (w : World) (b7 : Kd.C k36 w al G.length G) (b8 : G.length ≤ an) (b9 : Kd.C k56 w ao X.length X) (ce : X.length ≤ ap) (h : impl_WalkPath.f k G X Z aa af ag = some (r1, r2)) :
  Calls Try.prog 20 #[.agg #[.slice al G.length an, .slice ao X.length ap], .agg #[.int .i64 Z, .int .i64 aa], .agg #[.int .i64 af, .int .i64 ag]] w fun e w' => ∃ cf : Value, e = .returned (.tuple #[cf, .bool r2]) ∧ Kd.R k36 36 w' w.heap.size (fun _ => True) cf r1 ∧ Below w.heap.size w w' := by
 have hu34 := Try.underlying34
 have hu36 := Try.underlying36
 have aE := am b7
 have a7 := am b8
 clear b7 b8
 have a8 := am b9
 have a9 := am ce
 clear b9 ce
 have HB := am (Below.refl w.heap.size w)
 have H := h; unfold impl_WalkPath.f at H
 clear h
 replace H := Option.bind_eq_some_iff.mp H
 obtain ⟨cX, cg, H⟩ := H
 try dsimp -simprocs only at H
 have A4 := am cg
 clear cg
 by_cases c5 : cX = true
 ·subst c5
  replace H : ((impl_nodePlace.f k G X Z aa).bind fun Y => ((impl_nodePlace.f k G X af ag).bind fun ac => (if Y < 0 then (impl_WalkPath.j0 k Y ac true G X Z aa) else (impl_WalkPath.j0 k Y ac (decide (ac < 0)) G X Z aa)))) = some (r1, r2) := by rw [if_pos rfl] at H; exact H
  replace H := Option.bind_eq_some_iff.mp H
  obtain ⟨Y, ch, H⟩ := H
  try dsimp -simprocs only at H
  have A6 := am ch
  clear ch
  replace H := Option.bind_eq_some_iff.mp H
  obtain ⟨ac, ci, H⟩ := H
  try dsimp -simprocs only at H
  have A7 := am ci
  clear ci
  have bL := am H
  clear H
  go_enter Try.func20, Try.ntmps20
  try go_wp2_with (first | ((with_reducible refine gd 3 rfl ?_); refine bx 3 (cs := #[.slice al G.length an, .slice ao X.length ap]) (t := 34) ?_; intro ba hg w9 hbox hb; have y := am hbox; have cY := gwb HB hg; replace HB := hs HB hb; clear hb hbox hg) | ((with_reducible refine gd 4 rfl ?_); refine bx 4 (cs := #[.int .i64 Z, .int .i64 aa]) (t := 36) ?_; intro ah hg dY hbox hb; have I := am hbox; have cZ := gwb HB hg; replace HB := hs HB hb; have aK := nq y hg; have aM := nq' y hg; replace y := bb y hb rfl; clear hb hbox hg) | ((with_reducible refine gd 5 rfl ?_); refine bx 5 (cs := #[.int .i64 af, .int .i64 ag]) (t := 36) ?_; intro ai hg c7 hbox hb; have L := am hbox; have c9 := gwb HB hg; replace HB := hs HB hb; have aN := nq y hg; have aQ := nq' y hg; replace y := bb y hb rfl; have cj := nq I hg; have ck := nq' I hg; replace I := bb I hb rfl; clear hb hbox hg; have dZ := aK.out; have d0 := aM.out; have d1 := aN.out; have d2 := aQ.out; obtain ⟨bM, bN⟩ := bc2 (w := c7) y.out; have bO := blk_frozen y.out) | ((with_reducible refine gc 34 rfl ?_); refine gl 17 Try.func34 #[.agg #[.slice al G.length an, .slice ao X.length ap]] ?_; (with_reducible refine (impl_GraphOk.calls k _ _ G _ _ X true _ ?aj ?ak ?aw ?ax A4.out).mono ?_); (case aj => exact Kd.C_below aE.out (bs HB.out)); (case ak => exact a7.out); (case aw => exact Kd.C_below a8.out (bs HB.out)); (case ax => exact a9.out); rintro e da ⟨rfl, hb⟩; refine ⟨_, rfl, ?_⟩; replace y := bb y hb rfl; replace I := bb I hb rfl; replace L := bb L hb rfl; replace HB := hs HB hb; (try clear hb)))
  replace y := bd y
  replace I := bd I
  replace L := bd L
  replace HB := hd HB
  refine wp_region_bel (by kernel_rfl) (by kernel_rfl) ?_
  generalize da.drew = aR at y I L HB ⊢
  have hbp_ := fun (p_ : Bel aR) => below_step HB.out p_.h
  have db : ∀ p_ : Bel aR, p_.v.cell? ⟨ba, 0, none⟩ = some (.slice al G.length an) := fun p_ => cell_bel (cx y 0) p_
  have dc : ∀ p_ : Bel aR, p_.v.cell? ⟨ba, 1, none⟩ = some (.slice ao X.length ap) := fun p_ => cell_bel (cx y 1) p_
  have dd : ∀ p_ : Bel aR, p_.v.cell? ⟨ah, 0, none⟩ = some (.int .i64 Z) := fun p_ => cell_bel (cx I 0) p_
  have de : ∀ p_ : Bel aR, p_.v.cell? ⟨ah, 1, none⟩ = some (.int .i64 aa) := fun p_ => cell_bel (cx I 1) p_
  have df : ∀ p_ : Bel aR, p_.v.cell? ⟨ai, 0, none⟩ = some (.int .i64 af) := fun p_ => cell_bel (cx L 0) p_
  have dg : ∀ p_ : Bel aR, p_.v.cell? ⟨ai, 1, none⟩ = some (.int .i64 ag) := fun p_ => cell_bel (cx L 1) p_
  repeat (go_big_quiet_step (first
   | (with_reducible show Calls Try.prog 67 #[.agg #[.slice al G.length an, .slice ao X.length ap], .agg #[.int .i64 Z, .int .i64 aa]] _ _; with_reducible refine calls_bel (impl_nodePlace.calls k _ _ G _ _ X Z aa Y _ ?aj ?ak ?aw ?ax A6.out); (case aj => repeat (first | exact (Kd.C_below aE.out (hbp_ _)) | (with_reducible refine Kd.C_alloc ?_ _) | (with_reducible refine Kd.C_drewN ?_ _) | (with_reducible refine Kd.C_drew ?_))); (case ak => exact a7.out); (case aw => repeat (first | exact (Kd.C_below a8.out (hbp_ _)) | (with_reducible refine Kd.C_alloc ?_ _) | (with_reducible refine Kd.C_drewN ?_ _) | (with_reducible refine Kd.C_drew ?_))); (case ax => exact a9.out))
   | (with_reducible show Calls Try.prog 67 #[.agg #[.slice al G.length an, .slice ao X.length ap], .agg #[.int .i64 af, .int .i64 ag]] _ _; with_reducible refine calls_bel (impl_nodePlace.calls k _ _ G _ _ X af ag ac _ ?aj ?ak ?aw ?ax A7.out); (case aj => repeat (first | exact (Kd.C_below aE.out (hbp_ _)) | (with_reducible refine Kd.C_alloc ?_ _) | (with_reducible refine Kd.C_drewN ?_ _) | (with_reducible refine Kd.C_drew ?_))); (case ak => exact a7.out); (case aw => repeat (first | exact (Kd.C_below a8.out (hbp_ _)) | (with_reducible refine Kd.C_alloc ?_ _) | (with_reducible refine Kd.C_drewN ?_ _) | (with_reducible refine Kd.C_drew ?_))); (case ax => exact a9.out))))
  refine wpQuiet_nil ?_
  intro d3 hw'
  obtain ⟨⟨wq_, hb⟩, hw''⟩ := hw'
  subst hw''
  clear hbp_ db dc dd de df dg
  replace y := bb y hb rfl
  replace I := bb I hb rfl
  replace L := bb L hb rfl
  replace HB := hs HB hb
  (try clear hb)
  (try clear hb2)
  (try clear hk)
  (try clear hi)
  go_upto_region 4 with (fail)
  go_cut [30] (fun dh wc => ∃ (kq : Nat) (bw : Bool), dh = .bool bw ∧ Aside0 (impl_WalkPath.j0 kq Y ac bw G X Z aa = some (r1, r2)) ∧ Aside0 (kq ≤ k) ∧ Aside0 (wc.heap[ba]? = some (.cells #[(.slice al G.length an), (.slice ao X.length ap)] 34 (0, 0))) ∧ Aside0 (wc.heap[ah]? = some (.cells #[.int .i64 Z, .int .i64 aa] 36 (0, 0))) ∧ Aside0 (wc.heap[ai]? = some (.cells #[.int .i64 af, .int .i64 ag] 36 (0, 0))) ∧ Aside0 (Below w.heap.size w wc))
  case first =>
   have H := bL.out
   clear bL
   by_cases aA : Y < 0
   ·rw [if_pos aA] at H
    have aG : decide (Y < 0) = true := decide_eq_true aA
    clear aA
    (first | rw [aG] | (simp only [i64_w, i32_w]; rw [aG]) | skip)
    have H' := am H
    clear H
    go_wp2
    go_meet
    case rel => exact ⟨_, (true), eqs, H', ⟨by first | omega | exact Nat.le_refl _⟩, ⟨bf y.out⟩, ⟨bf I.out⟩, ⟨bf L.out⟩, ⟨bs HB.out⟩⟩
   ·rw [if_neg aA] at H
    have aG : decide (Y < 0) = false := decide_eq_false aA
    clear aA
    (first | rw [aG] | (simp only [i64_w, i32_w]; rw [aG]) | skip)
    have H' := am H
    clear H
    go_wp2
    go_meet
    case rel => exact ⟨_, (decide (ac < 0)), eqs, H', ⟨by first | omega | exact Nat.le_refl _⟩, ⟨bf y.out⟩, ⟨bf I.out⟩, ⟨bf L.out⟩, ⟨bs HB.out⟩⟩
  case rest =>
   clear bL
   try clear c1
   try clear c2
   try clear p2
   try clear c3
   try clear c5
   try clear c6
   try clear cl
   try clear cm
   try clear aA
   try clear aG
   try clear bM bN
   try clear bO
   obtain ⟨kq, bw, rfl, HA, bc, y, I, L, HB⟩ := hcut
   cases kq with
   | zero => exact absurd HA.out (by simp [impl_WalkPath.j0])
   | succ az =>
    have H := HA.out
    clear HA
    simp only [impl_WalkPath.j0] at H
    by_cases be : bw = true
    ·subst be
     replace H : (some (([] : List (S36)), false)) = some (r1, r2) := by rw [if_pos rfl] at H; exact H
     simp only [Option.some.injEq, Prod.mk.injEq] at H
     obtain ⟨rfl, rfl⟩ := H
     go_wp2
     go_ret2
     exact ⟨_, eqr, by first | exact Kd.R_nil _ _ _ _ _ | exact Kd.N_nil _ _ _ _ _ | exact Kd.V_nil _ _ _ _ _ | exact Kd.Q_nil _ _ _ _ _ | exact Kd.S_nil _ _ _ _ _, bs HB.out⟩
    ·replace be := Bool.eq_false_iff.mpr be
     subst be
     have H1 : ((impl_nearPlaces.f az G X).bind fun z => ((impl_stepsFrom.f az z ac).bind fun bP => (if 0 ≤ Y then (if Y < (bP.1.length : Int) then (if (rd bP.1 Y) < 0 then (some (([] : List (S36)), false)) else (impl_WalkPath.l0 az Y ac z bP.1 (([(⟨Z, aa⟩ : S36)] : List (S36))) G X)) else (none)) else (none)))) = some (r1, r2) := by rw [if_neg (show ¬ (false = true) by decide)] at H; exact H
     clear H
     have H := H1
     clear H1
     replace H := Option.bind_eq_some_iff.mp H
     obtain ⟨z, cn, H⟩ := H
     try dsimp -simprocs only at H
     have co := am cn
     clear cn
     replace H := Option.bind_eq_some_iff.mp H
     obtain ⟨⟨O, cp⟩, ct, H⟩ := H
     try dsimp -simprocs only at H
     have cu := am ct
     clear ct
     by_cases bg : 0 ≤ Y
     ·rw [if_pos bg] at H
      have cv : decide (0 ≤ Y) = true := decide_eq_true bg
      clear bg
      by_cases bh : Y < (O.length : Int)
      ·rw [if_pos bh] at H
       have cy : decide (Y < (O.length : Int)) = true := decide_eq_true bh
       clear bh
       by_cases aH : (rd O Y) < 0
       ·rw [if_pos aH] at H
        have bQ : decide ((rd O Y) < 0) = true := decide_eq_true aH
        clear aH
        simp only [Option.some.injEq, Prod.mk.injEq] at H
        obtain ⟨rfl, rfl⟩ := H
        have d4 := aK.out
        have d5 := aM.out
        have d6 := aN.out
        have d7 := aQ.out
        obtain ⟨cz, cA⟩ := bc2 (w := wc) y.out
        have cB := blk_frozen y.out
        go_wp2_with (first | ((with_reducible refine gc 68 rfl ?_); refine gl 32 Try.func68 #[.agg #[.slice al G.length an, .slice ao X.length ap]] ?_; (with_reducible refine (impl_nearPlaces.calls az _ _ G _ _ X z _ ?aj ?ak ?aw ?ax co.out).mono ?_); (case aj => exact Kd.C_below aE.out (bs HB.out)); (case ak => exact a7.out); (case aw => exact Kd.C_below a8.out (bs HB.out)); (case ax => exact a9.out); rintro e d8 ⟨di, rfl, ar, hb⟩; refine ⟨_, rfl, ?_⟩; have aq := am (Kd.S_lower ar (below_size (bs HB.out))); replace y := bb y hb rfl; replace I := bb I hb rfl; replace L := bb L hb rfl; replace HB := hs HB hb; (try clear ar hb); obtain ⟨dj, dk, dl⟩ := Kd.S_slice aq.out; subst dl) | ((with_reducible refine gc 69 rfl ?_); refine gl 36 Try.func69 #[.slice dj z.length dk, .int .i64 ac] ?_; (with_reducible refine (impl_stepsFrom.calls az _ _ z ac O cp _ ?aj ?ak cu.out).mono ?_); (case aj => repeat (first | exact (Kd.S_reads' aq.out).2.2 | (with_reducible refine Kd.C_alloc ?_ _) | (with_reducible refine Kd.C_drewN ?_ _) | (with_reducible refine Kd.C_drew ?_))); (case ak => exact (Kd.S_reads' aq.out).2.1); rintro e d9 ⟨dm, dp, rfl, ar, aT, hb⟩; refine ⟨_, rfl, ?_⟩; replace aq := am (Kd.S_mono (Kd.S_told (Kd.S_told (Kd.S_old (by (with_reducible repeat (first | apply Kd.S_alloc | apply Kd.S_drewN | apply Kd.S_drew)); exact aq.out) hb) (Kd.R_base ar)) (Kd.R_base aT)) (fun _ h_ => h_.1)); have aI := am (Kd.R_lower ar (below_size (bs HB.out))); have bR := am (Kd.R_lower aT (below_size (bs HB.out))); replace y := bb y hb rfl; replace I := bb I hb rfl; replace L := bb L hb rfl; replace HB := hs HB hb; (try clear hb); (try clear hb2); (try clear hk); (try clear hi); (try clear ar); (try clear aT); obtain ⟨ea, eb, dq⟩ := Kd.R_slice aI.out; subst dq; have aC : 0 ≤ (Y : Int) := oda; have aD : Y < (O.length : Int) := oda; obtain ⟨au, bS, bT⟩ := Kd.at_int (Kd.R_reads' aI.out).2.2 Y aC aD; cases bS; replace aC := eq_true aC; replace aD := eq_true aD))
        go_ret2
        exact ⟨_, eqr, by first | exact Kd.R_nil _ _ _ _ _ | exact Kd.N_nil _ _ _ _ _ | exact Kd.V_nil _ _ _ _ _ | exact Kd.Q_nil _ _ _ _ _ | exact Kd.S_nil _ _ _ _ _, bs HB.out⟩
       ·rw [if_neg aH] at H
        have bQ : decide ((rd O Y) < 0) = false := decide_eq_false aH
        clear aH
        obtain ⟨cC, bU⟩ : ∃ y_ : List (S36), y_ = (([(⟨Z, aa⟩ : S36)] : List (S36))) := ⟨_, rfl⟩
        replace H : (impl_WalkPath.l0 az Y ac z O cC G X) = some (r1, r2) := by first | (rw [bU]; exact H) | exact H
        have cD := am bU
        clear bU
        have H' := am H
        clear H
        have ec := aK.out
        have ed := aM.out
        have ee := aN.out
        have ef := aQ.out
        obtain ⟨cE, cF⟩ := bc2 (w := wc) y.out
        have cG := blk_frozen y.out
        go_wp2_with (first | ((with_reducible refine gc 68 rfl ?_); refine gl 32 Try.func68 #[.agg #[.slice al G.length an, .slice ao X.length ap]] ?_; (with_reducible refine (impl_nearPlaces.calls az _ _ G _ _ X z _ ?aj ?ak ?aw ?ax co.out).mono ?_); (case aj => exact Kd.C_below aE.out (bs HB.out)); (case ak => exact a7.out); (case aw => exact Kd.C_below a8.out (bs HB.out)); (case ax => exact a9.out); rintro e eg ⟨di, rfl, ar, hb⟩; refine ⟨_, rfl, ?_⟩; have aq := am (Kd.S_lower ar (below_size (bs HB.out))); replace y := bb y hb rfl; replace I := bb I hb rfl; replace L := bb L hb rfl; replace HB := hs HB hb; (try clear ar hb); obtain ⟨cH, bV, dr⟩ := Kd.S_slice aq.out; subst dr) | ((with_reducible refine gc 69 rfl ?_); refine gl 36 Try.func69 #[.slice cH z.length bV, .int .i64 ac] ?_; (with_reducible refine (impl_stepsFrom.calls az _ _ z ac O cp _ ?aj ?ak cu.out).mono ?_); (case aj => repeat (first | exact (Kd.S_reads' aq.out).2.2 | (with_reducible refine Kd.C_alloc ?_ _) | (with_reducible refine Kd.C_drewN ?_ _) | (with_reducible refine Kd.C_drew ?_))); (case ak => exact (Kd.S_reads' aq.out).2.1); rintro e dt ⟨dm, dp, rfl, ar, aT, hb⟩; refine ⟨_, rfl, ?_⟩; replace aq := am (Kd.S_mono (Kd.S_told (Kd.S_told (Kd.S_old (by (with_reducible repeat (first | apply Kd.S_alloc | apply Kd.S_drewN | apply Kd.S_drew)); exact aq.out) hb) (Kd.R_base ar)) (Kd.R_base aT)) (fun _ h_ => h_.1)); have aI := am (Kd.R_lower ar (below_size (bs HB.out))); have bR := am (Kd.R_lower aT (below_size (bs HB.out))); replace y := bb y hb rfl; replace I := bb I hb rfl; replace L := bb L hb rfl; replace HB := hs HB hb; (try clear hb); (try clear hb2); (try clear hk); (try clear hi); (try clear ar); (try clear aT); obtain ⟨eh, bz, du⟩ := Kd.R_slice aI.out; subst du; have aC : 0 ≤ (Y : Int) := oda; have aD : Y < (O.length : Int) := oda; obtain ⟨au, bS, bT⟩ := Kd.at_int (Kd.R_reads' aI.out).2.2 Y aC aD; cases bS; replace aC := eq_true aC; replace aD := eq_true aD; have ei := cj.out; have ej := ck.out; obtain ⟨cI, cJ⟩ := bc2 (w := dt) I.out; have cK := blk_frozen I.out) | ((with_reducible refine gd 45 rfl ?_); refine Kd.R_lit k36 _ 36 ?hg (N := 45) ?hd (xs := ([(⟨Z, aa⟩ : S36)] : List (S36))) (inner := [.int .i64 Z, .int .i64 aa]) (ok := fun _ => True) (okp := fun _ => True) ?hr ?hp (fun _ hk => hk) trivial (Below.refl _ _) (Nat.le_refl _) (by simp) ?_; (case hd => rfl); (case hg => rfl); (case hr => first | (go_simp; done) | (go_simp; rfl)); (case hp => exact (Reps.c2 (show Kd.M k36 _ _ _ (⟨Z, aa⟩ : S36) [.int .i64 Z, .int .i64 aa] from (k36_mkM _ _ _ (⟨Z, aa⟩ : S36) )) (Reps.none _ _))); intro ek el bl hb hg_ hnew_; clear hg_ hnew_; (first | rw [← cD.out] at bl | (simp only [Int.reduceToNat] at bl; rw [← cD.out] at bl)); replace aq := am (Kd.S_below (by (with_reducible repeat (first | apply Kd.S_alloc | apply Kd.S_drewN | apply Kd.S_drew)); exact aq.out) hb); replace aI := rb aI hb; replace bR := rb bR hb; have dv := am (Kd.R_lower (Kd.R_newB (Kd.R_newB bl (g := ah) (o := .cells #[.int .i64 Z, .int .i64 aa] 36 (0, 0)) (bf I.out)) (g := ai) (o := .cells #[.int .i64 af, .int .i64 ag] 36 (0, 0)) (bf L.out)) (below_size (bs HB.out))); replace y := bb y hb rfl; replace I := bb I hb rfl; replace L := bb L hb rfl; replace HB := hs HB hb; clear hb bl))
        go_loopg [8, 13] az (fun kq v8 dw w' => ∃ (D : Int) (ay : List (S36)), v8 = .int .i64 D ∧ Aside0 (impl_WalkPath.l0 kq D ac z O ay G X = some (r1, r2)) ∧ Aside0 (kq ≤ az) ∧ Aside0 (Kd.S (Kd.slice 3 (Kd.int .i64)) 43 w' w.heap.size (fun k_ => some k_ ≠ ((.slice (some au) O.length bz) : Value).ownBlock) (.slice cH z.length bV) z) ∧ Aside0 (Kd.R (Kd.int .i64) 3 w' w.heap.size (fun _ => True) (.slice (some au) O.length bz) O) ∧ Aside0 (Kd.R k36 36 w' w.heap.size (fun k_ => k_ ≠ ah ∧ k_ ≠ ai) dw ay) ∧ Aside0 (w'.heap[ba]? = some (.cells #[(.slice al G.length an), (.slice ao X.length ap)] 34 (0, 0))) ∧ Aside0 (w'.heap[ah]? = some (.cells #[.int .i64 Z, .int .i64 aa] 36 (0, 0))) ∧ Aside0 (w'.heap[ai]? = some (.cells #[.int .i64 af, .int .i64 ag] 36 (0, 0))) ∧ Aside0 (Below w.heap.size w w'))
        case atStart => exact ⟨(Y), (cC), eqs, H', ⟨Nat.le_refl _⟩, ⟨by (with_reducible repeat (first | apply Kd.S_alloc | apply Kd.S_drewN | apply Kd.S_drew)); exact Kd.S_mono aq.out (fun _ hk => hk.1.2)⟩, ⟨by (with_reducible repeat (first | apply Kd.R_alloc | apply Kd.R_drewN | apply Kd.R_drew)); exact Kd.R_mono aI.out (fun _ hk => trivial)⟩, ⟨by (with_reducible repeat (first | apply Kd.R_alloc | apply Kd.R_drewN | apply Kd.R_drew)); exact Kd.R_mono dv.out (fun _ hk => ⟨hk.1.2, hk.2⟩)⟩, ⟨bf y.out⟩, ⟨bf I.out⟩, ⟨bf L.out⟩, ⟨bs HB.out⟩⟩
        case round =>
         clear H'
         try clear c1
         try clear c2
         try clear p2
         try clear c3
         try clear p3
         try clear q3
         try clear dx
         try clear c4
         try clear c5
         try clear c6
         try clear cl
         try clear cm
         try clear aA
         try clear aG
         try clear be
         try clear bg
         try clear cv
         try clear bh
         try clear cy
         try clear aH
         try clear bQ
         try clear dy
         try clear dz
         try clear dA
         try clear dB
         try clear cL
         try clear cM
         try clear dC
         try clear dD
         try clear bM bN
         try clear cz cA
         try clear cE cF
         try clear cI cJ
         try clear bO
         try clear cB
         try clear cG
         try clear cK
         try clear bT
         try clear p2
         try clear aC
         try clear aD
         obtain ⟨D, ay, rfl, HA, bi, ae, ad, ab, y, I, L, HB⟩ := hrel
         cases gk with
         | zero => exact absurd HA.out (by simp [impl_WalkPath.l0])
         | succ k2 =>
          have H := HA.out
          clear HA
          simp only [impl_WalkPath.l0] at H
          by_cases aJ : D = ac
          ·rw [if_pos aJ] at H
           have cN : (D == ac) = true := beq_iff_eq.mpr aJ
           have cO : (D != ac) = false := bne_eq_false_iff_eq.mpr aJ
           clear aJ
           simp only [Option.some.injEq, Prod.mk.injEq] at H
           obtain ⟨rfl, rfl⟩ := H
           go_wp2
           go_ret2
           exact ⟨_, eqr, by (with_reducible repeat (first | apply Kd.R_alloc | apply Kd.R_drewN | apply Kd.R_drew)); exact Kd.R_mono ab.out (fun _ hk => trivial), bs HB.out⟩
          ·rw [if_neg aJ] at H
           have cN : (D == ac) = false := beq_eq_false_iff_ne.mpr aJ
           have cO : (D != ac) = true := bne_iff_ne.mpr aJ
           by_cases bm : 0 ≤ D
           ·rw [if_pos bm] at H
            have dE : decide (0 ≤ D) = true := decide_eq_true bm
            clear bm
            by_cases bn : D < (z.length : Int)
            ·rw [if_pos bn] at H
             have dF : decide (D < (z.length : Int)) = true := decide_eq_true bn
             clear bn
             have H' := am H
             clear H
             have bo : 0 ≤ (D : Int) := oda
             have br : D < (z.length : Int) := oda
             obtain ⟨dG, dH, em, dI, cP, hl377_0, hi377_0⟩ := at_L9 (Kd.S_reads' ae.out).2.2 D bo br
             cases dI
             obtain ⟨en, hce377, hMe377, cQ⟩ := Kd.S_get ae.out [] D bo (by first | exact br | exact oda | (have e_ := (Kd.S_reads' ae.out).1; omega))
             obtain ⟨ve377_0, rfl, ge377_0⟩ := hMe377
             have hv377_0 := cQ 0 _ rfl
             rw [Nat.add_zero, show ((Kd.slice 3 (Kd.int .i64))).sz = 1 from rfl, Nat.mul_one] at hv377_0
             replace hv377_0 := Option.some.inj (hv377_0.symm.trans cP)
             rw [hv377_0] at ge377_0
             have HL377_0 := am (show Kd.R (Kd.int .i64) 3 _ _ _ _ (rd_L9 z D) from ge377_0)
             clear hv377_0 ge377_0
             clear cQ hce377
             have av := am hi377_0
             have eo := am hl377_0
             clear hi377_0 hl377_0
             replace bo := eq_true bo
             replace br := eq_true br
             go_wp2
             go_loopg [8, 54] k2 (fun kq v8 dJ w' => ∃ (T : Int) (J : Int), v8 = .int .i64 T ∧ dJ = .int .i64 J ∧ Aside0 (impl_WalkPath.l1 kq T ac z O ay (rd_L9 z D) ((rd_L9 z D).length : Int) J G X = some (r1, r2)) ∧ Aside0 (kq ≤ k2) ∧ Aside0 (Kd.S (Kd.slice 3 (Kd.int .i64)) 43 w' w.heap.size (fun k_ => some k_ ≠ ((.slice (some au) O.length bz) : Value).ownBlock) (.slice (some dG) z.length bV) z) ∧ Aside0 (Kd.R (Kd.int .i64) 3 w' w.heap.size (fun _ => True) (.slice (some au) O.length bz) O) ∧ Aside0 (Kd.R k36 36 w' w.heap.size (fun k_ => k_ ≠ ah ∧ k_ ≠ ai) u13 ay) ∧ Aside0 (w'.heap[ba]? = some (.cells #[(.slice al G.length an), (.slice ao X.length ap)] 34 (0, 0))) ∧ Aside0 (w'.heap[ah]? = some (.cells #[.int .i64 Z, .int .i64 aa] 36 (0, 0))) ∧ Aside0 (w'.heap[ai]? = some (.cells #[.int .i64 af, .int .i64 ag] 36 (0, 0))) ∧ Aside0 (Kd.C (Kd.int .i64) w' dH (rd_L9 z D).length (rd_L9 z D)) ∧ Aside0 (Below w.heap.size w w'))
             case atStart => exact ⟨(D), (0), eqs, eqs, H', ⟨Nat.le_refl _⟩, ⟨by (with_reducible repeat (first | apply Kd.S_alloc | apply Kd.S_drewN | apply Kd.S_drew)); exact ae.out⟩, ⟨rl ad.out⟩, ⟨rl ab.out⟩, ⟨bf y.out⟩, ⟨bf I.out⟩, ⟨bf L.out⟩, ⟨by repeat (first | (with_reducible exact av.out) | (with_reducible refine Kd.C_alloc ?_ _) | (with_reducible refine Kd.C_drewN ?_ _) | (with_reducible refine Kd.C_drew ?_) | exact av.out)⟩, ⟨bs HB.out⟩⟩
             case round =>
              clear H'
              try clear c1
              try clear c2
              try clear p2
              try clear c3
              try clear p3
              try clear q3
              try clear dx
              try clear c4
              try clear c5
              try clear c6
              try clear cl
              try clear cm
              try clear aA
              try clear aG
              try clear be
              try clear bg
              try clear cv
              try clear bh
              try clear cy
              try clear aH
              try clear bQ
              try clear dy
              try clear dz
              try clear dA
              try clear dB
              try clear ep
              try clear cL
              try clear cM
              try clear dC
              try clear dD
              try clear aJ
              try clear cN
              try clear cO
              try clear bm
              try clear dE
              try clear bn
              try clear dF
              try clear bM bN
              try clear cz cA
              try clear cE cF
              try clear cI cJ
              try clear bO
              try clear cB
              try clear cG
              try clear cK
              try clear bT
              try clear cP
              try clear p2
              try clear p3
              try clear cL
              try clear aC
              try clear bo
              try clear q3
              try clear cM
              try clear aD
              try clear br
              obtain ⟨T, J, rfl, rfl, HA, bj, ae, ad, ab, y, I, L, av, HB⟩ := hrel
              cases gk with
              | zero => exact absurd HA.out (by simp [impl_WalkPath.l1])
              | succ k3 =>
               have H := HA.out
               clear HA
               simp only [impl_WalkPath.l1] at H
               by_cases bk : J < ((rd_L9 z D).length : Int)
               ·rw [if_pos bk] at H
                have dK : decide (J < ((rd_L9 z D).length : Int)) = true := decide_eq_true bk
                clear bk
                by_cases bA : 0 ≤ J
                ·rw [if_pos bA] at H
                 have eq : decide (0 ≤ J) = true := decide_eq_true bA
                 clear bA
                 by_cases bB : J < ((rd_L9 z D).length : Int)
                 ·rw [if_pos bB] at H
                  have er : decide (J < ((rd_L9 z D).length : Int)) = true := decide_eq_true bB
                  clear bB
                  by_cases bC : 0 ≤ (rd (rd_L9 z D) J)
                  ·rw [if_pos bC] at H
                   have es : decide (0 ≤ (rd (rd_L9 z D) J)) = true := decide_eq_true bC
                   clear bC
                   by_cases bD : (rd (rd_L9 z D) J) < (O.length : Int)
                   ·rw [if_pos bD] at H
                    have et : decide ((rd (rd_L9 z D) J) < (O.length : Int)) = true := decide_eq_true bD
                    clear bD
                    by_cases bE : 0 ≤ T
                    ·rw [if_pos bE] at H
                     have eu : decide (0 ≤ T) = true := decide_eq_true bE
                     clear bE
                     by_cases bF : T < (O.length : Int)
                     ·rw [if_pos bF] at H
                      have ev : decide (T < (O.length : Int)) = true := decide_eq_true bF
                      clear bF
                      by_cases aU : (rd O (rd (rd_L9 z D) J)) = (wrap64 ((rd O T) - 1))
                      ·rw [if_pos aU] at H
                       have dL : ((rd O (rd (rd_L9 z D) J)) == (wrap64 ((rd O T) - 1))) = true := beq_iff_eq.mpr aU
                       have dM : ((rd O (rd (rd_L9 z D) J)) != (wrap64 ((rd O T) - 1))) = false := bne_eq_false_iff_eq.mpr aU
                       clear aU
                       by_cases bG : (rd (rd_L9 z D) J) < (G.length : Int)
                       ·rw [if_pos bG] at H
                        have ew : decide ((rd (rd_L9 z D) J) < (G.length : Int)) = true := decide_eq_true bG
                        clear bG
                        by_cases bH : ay.length < 8796093022208
                        ·rw [if_pos bH] at H
                         have dN := am bH
                         clear bH
                         obtain ⟨cR, bW⟩ : ∃ y_ : List (S36), y_ = (ay ++ [(⟨(rd_T36 G (rd (rd_L9 z D) J)).f0, (rd_T36 G (rd (rd_L9 z D) J)).f1⟩ : S36)]) := ⟨_, rfl⟩
                         replace H : (impl_WalkPath.l0 k3 (rd (rd_L9 z D) J) ac z O cR G X) = some (r1, r2) := by first | (rw [bW]; exact H) | exact H
                         have dO := am bW
                         clear bW
                         have H' := am H
                         clear H
                         have aV : 0 ≤ (J : Int) := oda
                         have aW : J < ((rd_L9 z D).length : Int) := oda
                         obtain ⟨dP, bX, bt⟩ := Kd.at_int av.out J aV aW
                         cases bX
                         (try replace bt := cb HB bt)
                         replace aV := eq_true aV
                         replace aW := eq_true aW
                         try go_wp2
                         replace ae := am (Kd.S_drew ae.out)
                         replace ad := rd_ ad
                         replace ab := rd_ ab
                         replace y := bd y
                         replace I := bd I
                         replace L := bd L
                         replace av := am (Kd.C_drew av.out)
                         replace HB := hd HB
                         have aX : 0 ≤ ((rd (rd_L9 z D) J) : Int) := oda
                         have aY : (rd (rd_L9 z D) J) < (O.length : Int) := oda
                         obtain ⟨bY, bZ, bu⟩ := Kd.at_int (Kd.R_reads' ad.out).2.2 (rd (rd_L9 z D) J) aX aY
                         obtain rfl : au = bY := (by injection bZ)
                         replace aX := eq_true aX
                         replace aY := eq_true aY
                         have aZ : 0 ≤ (T : Int) := oda
                         have a6 : T < (O.length : Int) := oda
                         obtain ⟨b0, b1, bv⟩ := Kd.at_int (Kd.R_reads' ad.out).2.2 T aZ a6
                         obtain rfl : au = b0 := (by injection b1)
                         replace aZ := eq_true aZ
                         replace a6 := eq_true a6
                         refine sta 10 (fun w' => w'.cell? (au.add ((rd (rd_L9 z D) J)).toNat) = some (.int .i64 (rd O (rd (rd_L9 z D) J))) ∧ w'.cell? (au.add (T).toNat) = some (.int .i64 (rd O T))) [] ⟨bu, bv⟩ (fun hHeld => ?_); refine with_tabW impl_WalkPath.tab15 impl_WalkPath.bits15 (fun HT_ HW_ => ?_)
                         generalize wr.drew = dQ at ae ad ab y I L av HB bu bv hHeld ⊢
                         refine pu 0 58 ?_
                         refine pu 1 59 ?_
                         refine pu 2 60 ?_
                         refine pu 4 62 ?_
                         refine pu 5 63 ?_
                         refine pu 6 64 ?_
                         refine tk 3 61 ?_
                         refine tk 7 65 ?_
                         refine pu 8 66 ?_
                         refine pu 9 67 ?_
                         refine dn ?_
                         have ex := aK.out
                         have ey := aM.out
                         have ez := aN.out
                         have eA := aQ.out
                         obtain ⟨eB, eC⟩ := bc2 (w := dQ) y.out
                         have eD := blk_frozen y.out
                         have b2 : 0 ≤ ((rd (rd_L9 z D) J) : Int) := oda
                         have b3 : (rd (rd_L9 z D) J) < (G.length : Int) := oda
                         obtain ⟨eE, dR, cS, cT⟩ := at_T36 aE.out (rd (rd_L9 z D) J) b2 b3
                         cases dR
                         (try replace cS := cb HB cS)
                         (try replace cT := cb HB cT)
                         replace b2 := eq_true b2
                         replace b3 := eq_true b3
                         try go_wp2_with (first | ((with_reducible refine gate_builtin (b := .append) (xs := #[.tmp 70, .tmp 76]) rfl ?_); at_builtin; refine Kd.R_append k36 (w0 := w) w.heap.size rfl (.tmp 70) (.tmp 76) 29 36 (.agg #[(.int .i64 0), (.int .i64 0)]) 16 rfl Try.underlying29 info36 rfl (by decide) (by omega) u13 ay (⟨(rd_T36 G (rd (rd_L9 z D) J)).f0, (rd_T36 G (rd (rd_L9 z D) J)).f1⟩ : S36) [.int .i64 ((rd_T36 G (rd (rd_L9 z D) J)).f0), .int .i64 ((rd_T36 G (rd (rd_L9 z D) J)).f1)] (fun k_ => k_ ≠ ah ∧ k_ ≠ ai) (fun _ => False) rfl rfl ?aP (fun _ hk => hk.elim) ?aF ?aO ?aB ?aS ?aL ?_; (case aP => exact k36_mkM _ _ _ (⟨(rd_T36 G (rd (rd_L9 z D) J)).f0, (rd_T36 G (rd (rd_L9 z D) J)).f1⟩ : S36)); (case aB => exact (bs HB.out)); (case aF => exact (fun k_ hk => ⟨Kd.freshB (g := ah) (o := .cells #[.int .i64 Z, .int .i64 aa] 36 (0, 0)) (bf I.out) k_ hk, Kd.freshB (g := ai) (o := .cells #[.int .i64 af, .int .i64 ag] 36 (0, 0)) (bf L.out) k_ hk⟩)); (case aO => exact (rl ab.out)); (case aS => exact (below_size (bs HB.out))); (case aL => have := dN.out; omega); intro eF eG ho hb hg hat; rw [← dO.out] at ho; replace ae := am (Kd.S_over' (by (with_reducible repeat (first | apply Kd.S_alloc | apply Kd.S_drewN | apply Kd.S_drew)); exact ae.out) (Kd.R_typed (rl ab.out)) (by decide) hg); replace ad := am (Kd.R_over' (rl ad.out) (Kd.R_typed (rl ab.out)) (by decide) hg); replace y := gr y ab hg; replace I := am (blk_grown (g := ah) (o := .cells #[.int .i64 Z, .int .i64 aa] 36 (0, 0)) (bf I.out) hg (Kd.R_away ab.out (fun _ hk => hk.1))); replace L := am (blk_grown (g := ai) (o := .cells #[.int .i64 af, .int .i64 ag] 36 (0, 0)) (bf L.out) hg (Kd.R_away ab.out (fun _ hk => hk.2))); replace HB := am hb; have dS := am ho; clear ab; clear ho hb hg hat))
                         go_roundg k3
                         case measure => have := bc.out; have := bi.out; have := bj.out; omega
                         case rel => exact ⟨(rd (rd_L9 z D) J), (cR), eqs, H', ⟨by have := bc.out; have := bi.out; have := bj.out; omega⟩, ⟨by (with_reducible repeat (first | apply Kd.S_alloc | apply Kd.S_drewN | apply Kd.S_drew)); exact ae.out⟩, ⟨rl ad.out⟩, ⟨rl dS.out⟩, ⟨bf y.out⟩, ⟨bf I.out⟩, ⟨bf L.out⟩, ⟨bs HB.out⟩⟩
                        ·rw [if_neg bH] at H
                         exact absurd H (by simp)
                       ·rw [if_neg bG] at H
                        exact absurd H (by simp)
                      ·rw [if_neg aU] at H
                       have dL : ((rd O (rd (rd_L9 z D) J)) == (wrap64 ((rd O T) - 1))) = false := beq_eq_false_iff_ne.mpr aU
                       have dM : ((rd O (rd (rd_L9 z D) J)) != (wrap64 ((rd O T) - 1))) = true := bne_iff_ne.mpr aU
                       have H' := am H
                       clear H
                       have aV : 0 ≤ (J : Int) := oda
                       have aW : J < ((rd_L9 z D).length : Int) := oda
                       obtain ⟨dP, bX, bt⟩ := Kd.at_int av.out J aV aW
                       cases bX
                       (try replace bt := cb HB bt)
                       replace aV := eq_true aV
                       replace aW := eq_true aW
                       try go_wp2
                       replace ae := am (Kd.S_drew ae.out)
                       replace ad := rd_ ad
                       replace ab := rd_ ab
                       replace y := bd y
                       replace I := bd I
                       replace L := bd L
                       replace av := am (Kd.C_drew av.out)
                       replace HB := hd HB
                       have aX : 0 ≤ ((rd (rd_L9 z D) J) : Int) := oda
                       have aY : (rd (rd_L9 z D) J) < (O.length : Int) := oda
                       obtain ⟨bY, bZ, bu⟩ := Kd.at_int (Kd.R_reads' ad.out).2.2 (rd (rd_L9 z D) J) aX aY
                       obtain rfl : au = bY := (by injection bZ)
                       replace aX := eq_true aX
                       replace aY := eq_true aY
                       have aZ : 0 ≤ (T : Int) := oda
                       have a6 : T < (O.length : Int) := oda
                       obtain ⟨b0, b1, bv⟩ := Kd.at_int (Kd.R_reads' ad.out).2.2 T aZ a6
                       obtain rfl : au = b0 := (by injection b1)
                       replace aZ := eq_true aZ
                       replace a6 := eq_true a6
                       refine sta 10 (fun w' => w'.cell? (au.add ((rd (rd_L9 z D) J)).toNat) = some (.int .i64 (rd O (rd (rd_L9 z D) J))) ∧ w'.cell? (au.add (T).toNat) = some (.int .i64 (rd O T))) [] ⟨bu, bv⟩ (fun hHeld => ?_); refine with_tabW impl_WalkPath.tab15 impl_WalkPath.bits15 (fun HT_ HW_ => ?_)
                       generalize wr.drew = eH at ae ad ab y I L av HB bu bv hHeld ⊢
                       refine pu 0 58 ?_
                       refine pu 1 59 ?_
                       refine pu 2 60 ?_
                       refine pu 4 62 ?_
                       refine pu 5 63 ?_
                       refine pu 6 64 ?_
                       refine tk 3 61 ?_
                       refine tk 7 65 ?_
                       refine pu 8 66 ?_
                       refine pu 9 67 ?_
                       refine dn ?_
                       try go_wp2
                       go_roundg k3
                       case measure => have := bc.out; have := bi.out; have := bj.out; omega
                       case rel => exact ⟨(T), (wrap64 (J + 1)), eqs, eqs, H', ⟨by have := bc.out; have := bi.out; have := bj.out; omega⟩, ⟨by (with_reducible repeat (first | apply Kd.S_alloc | apply Kd.S_drewN | apply Kd.S_drew)); exact ae.out⟩, ⟨rl ad.out⟩, ⟨rl ab.out⟩, ⟨bf y.out⟩, ⟨bf I.out⟩, ⟨bf L.out⟩, ⟨by repeat (first | (with_reducible exact av.out) | (with_reducible refine Kd.C_alloc ?_ _) | (with_reducible refine Kd.C_drewN ?_ _) | (with_reducible refine Kd.C_drew ?_) | exact av.out)⟩, ⟨bs HB.out⟩⟩
                     ·rw [if_neg bF] at H
                      exact absurd H (by simp)
                    ·rw [if_neg bE] at H
                     exact absurd H (by simp)
                   ·rw [if_neg bD] at H
                    exact absurd H (by simp)
                  ·rw [if_neg bC] at H
                   exact absurd H (by simp)
                 ·rw [if_neg bB] at H
                  exact absurd H (by simp)
                ·rw [if_neg bA] at H
                 exact absurd H (by simp)
               ·rw [if_neg bk] at H
                have dK : decide (J < ((rd_L9 z D).length : Int)) = false := decide_eq_false bk
                clear bk
                by_cases bI : 0 ≤ T
                ·rw [if_pos bI] at H
                 have eI : decide (0 ≤ T) = true := decide_eq_true bI
                 clear bI
                 by_cases bJ : T < (G.length : Int)
                 ·rw [if_pos bJ] at H
                  have eJ : decide (T < (G.length : Int)) = true := decide_eq_true bJ
                  clear bJ
                  by_cases bK : ay.length < 8796093022208
                  ·rw [if_pos bK] at H
                   have dT := am bK
                   clear bK
                   obtain ⟨cU, b4⟩ : ∃ y_ : List (S36), y_ = (ay ++ [(⟨(rd_T36 G T).f0, (rd_T36 G T).f1⟩ : S36)]) := ⟨_, rfl⟩
                   replace H : (impl_WalkPath.l0 k3 T ac z O cU G X) = some (r1, r2) := by first | (rw [b4]; exact H) | exact H
                   have dU := am b4
                   clear b4
                   have H' := am H
                   clear H
                   have eK := aK.out
                   have eL := aM.out
                   have eM := aN.out
                   have eN := aQ.out
                   obtain ⟨eO, eP⟩ := bc2 (w := wr) y.out
                   have eQ := blk_frozen y.out
                   have b5 : 0 ≤ (T : Int) := oda
                   have b6 : T < (G.length : Int) := oda
                   obtain ⟨eR, dV, cV, cW⟩ := at_T36 aE.out T b5 b6
                   cases dV
                   (try replace cV := cb HB cV)
                   (try replace cW := cb HB cW)
                   replace b5 := eq_true b5
                   replace b6 := eq_true b6
                   go_wp2_with (first | ((with_reducible refine gate_builtin (b := .append) (xs := #[.tmp 70, .tmp 76]) rfl ?_); at_builtin; refine Kd.R_append k36 (w0 := w) w.heap.size rfl (.tmp 70) (.tmp 76) 29 36 (.agg #[(.int .i64 0), (.int .i64 0)]) 16 rfl Try.underlying29 info36 rfl (by decide) (by omega) u13 ay (⟨(rd_T36 G T).f0, (rd_T36 G T).f1⟩ : S36) [.int .i64 ((rd_T36 G T).f0), .int .i64 ((rd_T36 G T).f1)] (fun k_ => k_ ≠ ah ∧ k_ ≠ ai) (fun _ => False) rfl rfl ?aP (fun _ hk => hk.elim) ?aF ?aO ?aB ?aS ?aL ?_; (case aP => exact k36_mkM _ _ _ (⟨(rd_T36 G T).f0, (rd_T36 G T).f1⟩ : S36)); (case aB => exact (bs HB.out)); (case aF => exact (fun k_ hk => ⟨Kd.freshB (g := ah) (o := .cells #[.int .i64 Z, .int .i64 aa] 36 (0, 0)) (bf I.out) k_ hk, Kd.freshB (g := ai) (o := .cells #[.int .i64 af, .int .i64 ag] 36 (0, 0)) (bf L.out) k_ hk⟩)); (case aO => exact (rl ab.out)); (case aS => exact (below_size (bs HB.out))); (case aL => have := dT.out; omega); intro eS eT ho hb hg hat; rw [← dU.out] at ho; replace ae := am (Kd.S_over' (by (with_reducible repeat (first | apply Kd.S_alloc | apply Kd.S_drewN | apply Kd.S_drew)); exact ae.out) (Kd.R_typed (rl ab.out)) (by decide) hg); replace ad := am (Kd.R_over' (rl ad.out) (Kd.R_typed (rl ab.out)) (by decide) hg); replace y := gr y ab hg; replace I := am (blk_grown (g := ah) (o := .cells #[.int .i64 Z, .int .i64 aa] 36 (0, 0)) (bf I.out) hg (Kd.R_away ab.out (fun _ hk => hk.1))); replace L := am (blk_grown (g := ai) (o := .cells #[.int .i64 af, .int .i64 ag] 36 (0, 0)) (bf L.out) hg (Kd.R_away ab.out (fun _ hk => hk.2))); replace HB := am hb; have dW := am ho; clear ab; clear ho hb hg hat))
                   go_roundg k3
                   case measure => have := bc.out; have := bi.out; have := bj.out; omega
                   case rel => exact ⟨(T), (cU), eqs, H', ⟨by have := bc.out; have := bi.out; have := bj.out; omega⟩, ⟨by (with_reducible repeat (first | apply Kd.S_alloc | apply Kd.S_drewN | apply Kd.S_drew)); exact ae.out⟩, ⟨rl ad.out⟩, ⟨rl dW.out⟩, ⟨bf y.out⟩, ⟨bf I.out⟩, ⟨bf L.out⟩, ⟨bs HB.out⟩⟩
                  ·rw [if_neg bK] at H
                   exact absurd H (by simp)
                 ·rw [if_neg bJ] at H
                  exact absurd H (by simp)
                ·rw [if_neg bI] at H
                 exact absurd H (by simp)
            ·rw [if_neg bn] at H
             exact absurd H (by simp)
           ·rw [if_neg bm] at H
            exact absurd H (by simp)
      ·rw [if_neg bh] at H
       exact absurd H (by simp)
     ·rw [if_neg bg] at H
      exact absurd H (by simp)
 ·replace c5 := Bool.eq_false_iff.mpr c5
  subst c5
  have H1 : (some (([] : List (S36)), false)) = some (r1, r2) := by rw [if_neg (show ¬ (false = true) by decide)] at H; exact H
  clear H
  have H := H1
  clear H1
  simp only [Option.some.injEq, Prod.mk.injEq] at H
  obtain ⟨rfl, rfl⟩ := H
  go_enter Try.func20, Try.ntmps20
  go_wp2_with (first | ((with_reducible refine gd 3 rfl ?_); refine bx 3 (cs := #[.slice al G.length an, .slice ao X.length ap]) (t := 34) ?_; intro ba hg eU hbox hb; have y := am hbox; have cY := gwb HB hg; replace HB := hs HB hb; clear hb hbox hg) | ((with_reducible refine gd 4 rfl ?_); refine bx 4 (cs := #[.int .i64 Z, .int .i64 aa]) (t := 36) ?_; intro ah hg eV hbox hb; have I := am hbox; have cZ := gwb HB hg; replace HB := hs HB hb; have aK := nq y hg; have aM := nq' y hg; replace y := bb y hb rfl; clear hb hbox hg) | ((with_reducible refine gd 5 rfl ?_); refine bx 5 (cs := #[.int .i64 af, .int .i64 ag]) (t := 36) ?_; intro ai hg dX hbox hb; have L := am hbox; have c9 := gwb HB hg; replace HB := hs HB hb; have aN := nq y hg; have aQ := nq' y hg; replace y := bb y hb rfl; have cj := nq I hg; have ck := nq' I hg; replace I := bb I hb rfl; clear hb hbox hg; have eW := aK.out; have eX := aM.out; have eY := aN.out; have eZ := aQ.out; obtain ⟨e0, e1⟩ := bc2 (w := dX) y.out; have e2 := blk_frozen y.out) | ((with_reducible refine gc 34 rfl ?_); refine gl 17 Try.func34 #[.agg #[.slice al G.length an, .slice ao X.length ap]] ?_; (with_reducible refine (impl_GraphOk.calls k _ _ G _ _ X false _ ?aj ?ak ?aw ?ax A4.out).mono ?_); (case aj => exact Kd.C_below aE.out (bs HB.out)); (case ak => exact a7.out); (case aw => exact Kd.C_below a8.out (bs HB.out)); (case ax => exact a9.out); rintro e e3 ⟨rfl, hb⟩; refine ⟨_, rfl, ?_⟩; replace y := bb y hb rfl; replace I := bb I hb rfl; replace L := bb L hb rfl; replace HB := hs HB hb; (try clear hb)))
  go_ret2
  exact ⟨_, eqr, by first | exact Kd.R_nil _ _ _ _ _ | exact Kd.N_nil _ _ _ _ _ | exact Kd.V_nil _ _ _ _ _ | exact Kd.Q_nil _ _ _ _ _ | exact Kd.S_nil _ _ _ _ _, bs HB.out⟩

/-! ### laws_eqNode: function 70 -/
def laws_eqNode.f (s : Int) (y : Int) (z : Int) (D : Int) : Option (Bool) := if s = z then (if y = D then (some true) else (some false)) else (some false)
theorem laws_eqNode.calls (z : Int) (D : Int) (G : Int) (I : Int) (r : Bool) (w : World) (h : laws_eqNode.f z D G I = some r) :
  Calls Try.prog 70 #[.agg #[.int .i64 z, .int .i64 D], .agg #[.int .i64 G, .int .i64 I]] w fun e w' => e = .returned (.bool r) ∧ Below w.heap.size w w' := by
 have hu36 := Try.underlying36
 have HB := am (Below.refl w.heap.size w)
 have H := h; unfold laws_eqNode.f at H
 clear h
 by_cases L : z = G
 ·rw [if_pos L] at H
  have ae : (z == G) = true := beq_iff_eq.mpr L
  have af : (z != G) = false := bne_eq_false_iff_eq.mpr L
  clear L
  by_cases O : D = I
  ·rw [if_pos O] at H
   have ag : (D == I) = true := beq_iff_eq.mpr O
   have ah : (D != I) = false := bne_eq_false_iff_eq.mpr O
   clear O
   obtain rfl := Option.some.inj H
   go_enter Try.func70, Try.ntmps70
   go_wp2_with (first | ((with_reducible refine gd 2 rfl ?_); refine bx 2 (cs := #[.int .i64 z, .int .i64 D]) (t := 36) ?_; intro Y hg w5 hbox hb; have s := am hbox; have Z := gwb HB hg; replace HB := hs HB hb; clear hb hbox hg) | ((with_reducible refine gd 3 rfl ?_); refine bx 3 (cs := #[.int .i64 G, .int .i64 I]) (t := 36) ?_; intro aa hg w6 hbox hb; have J := am hbox; have ab := gwb HB hg; replace HB := hs HB hb; have T := nq s hg; have X := nq' s hg; replace s := bb s hb rfl; clear hb hbox hg; have ai := T.out; have aj := X.out; obtain ⟨ak, al⟩ := bc2 (w := w6) s.out; have an := blk_frozen s.out; obtain ⟨ao, ap⟩ := bc2 (w := w6) J.out; have aq := blk_frozen J.out))
   go_ret
   exact ⟨eqr, bs HB.out⟩
  ·rw [if_neg O] at H
   have ag : (D == I) = false := beq_eq_false_iff_ne.mpr O
   have ah : (D != I) = true := bne_iff_ne.mpr O
   obtain rfl := Option.some.inj H
   go_enter Try.func70, Try.ntmps70
   go_wp2_with (first | ((with_reducible refine gd 2 rfl ?_); refine bx 2 (cs := #[.int .i64 z, .int .i64 D]) (t := 36) ?_; intro Y hg ar hbox hb; have s := am hbox; have Z := gwb HB hg; replace HB := hs HB hb; clear hb hbox hg) | ((with_reducible refine gd 3 rfl ?_); refine bx 3 (cs := #[.int .i64 G, .int .i64 I]) (t := 36) ?_; intro aa hg ac hbox hb; have J := am hbox; have ab := gwb HB hg; replace HB := hs HB hb; have T := nq s hg; have X := nq' s hg; replace s := bb s hb rfl; clear hb hbox hg; have au := T.out; have av := X.out; obtain ⟨aw, ax⟩ := bc2 (w := ac) s.out; have ay := blk_frozen s.out; obtain ⟨az, aA⟩ := bc2 (w := ac) J.out; have aC := blk_frozen J.out))
   go_ret
   exact ⟨eqr, bs HB.out⟩
 ·rw [if_neg L] at H
  have ae : (z == G) = false := beq_eq_false_iff_ne.mpr L
  have af : (z != G) = true := bne_iff_ne.mpr L
  obtain rfl := Option.some.inj H
  go_enter Try.func70, Try.ntmps70
  go_wp2_with (first | ((with_reducible refine gd 2 rfl ?_); refine bx 2 (cs := #[.int .i64 z, .int .i64 D]) (t := 36) ?_; intro Y hg aD hbox hb; have s := am hbox; have Z := gwb HB hg; replace HB := hs HB hb; clear hb hbox hg) | ((with_reducible refine gd 3 rfl ?_); refine bx 3 (cs := #[.int .i64 G, .int .i64 I]) (t := 36) ?_; intro aa hg ad hbox hb; have J := am hbox; have ab := gwb HB hg; replace HB := hs HB hb; have T := nq s hg; have X := nq' s hg; replace s := bb s hb rfl; clear hb hbox hg; have aE := T.out; have aG := X.out; obtain ⟨aH, aI⟩ := bc2 (w := ad) s.out; have aJ := blk_frozen s.out; obtain ⟨aK, aM⟩ := bc2 (w := ad) J.out; have aN := blk_frozen J.out))
  go_ret
  exact ⟨eqr, bs HB.out⟩

/-! ### laws_eqNodeS: function 21 -/
def laws_eqNodeS.l0 : Nat → List (S36) → List (S36) → Int → Option (Bool)
 | 0, _, _, _ => none
 | k + 1, y, z, s => if s < (y.length : Int) then (if 0 ≤ s then (if s < (z.length : Int) then ((laws_eqNode.f ((rd_T36 y s).f0) ((rd_T36 y s).f1) ((rd_T36 z s).f0) ((rd_T36 z s).f1)).bind fun D => (if D = true then (laws_eqNodeS.l0 k y z (wrap64 (s + 1))) else (some false))) else (none)) else (none)) else (some true)
def laws_eqNodeS.f (k : Nat) (l0 : List (S36)) (l1 : List (S36)) : Option (Bool) := if (l0.length : Int) = (l1.length : Int) then (laws_eqNodeS.l0 k l0 l1 0) else (some false)
theorem laws_eqNodeS.calls (k : Nat) (A0 : Option Addr) (c0 : Nat) (l0 : List (S36)) (A1 : Option Addr) (c1 : Nat) (l1 : List (S36)) (r : Bool) (w : World) (al : Kd.C k36 w A0 l0.length l0) (an : l0.length ≤ c0) (ao : Kd.C k36 w A1 l1.length l1) (ap : l1.length ≤ c1) (h : laws_eqNodeS.f k l0 l1 = some r) :
  Calls Try.prog 21 #[.slice A0 l0.length c0, .slice A1 l1.length c1] w fun e w' => e = .returned (.bool r) ∧ Below w.heap.size w w' := by
 have hu36 := Try.underlying36
 have aq := am al
 have aC := am an
 clear al an
 have ar := am ao
 have aD := am ap
 clear ao ap
 have HB := am (Below.refl w.heap.size w)
 have H := h; unfold laws_eqNodeS.f at H
 clear h
 by_cases z : (l0.length : Int) = (l1.length : Int)
 ·rw [if_pos z] at H
  have au : ((l0.length : Int) == (l1.length : Int)) = true := beq_iff_eq.mpr z
  have av : ((l0.length : Int) != (l1.length : Int)) = false := bne_eq_false_iff_eq.mpr z
  have aw : (l0.length == l1.length) = true := by first | simpa using z | (simp at z ⊢; omega)
  clear z
  have H' := am H
  clear H
  go_enter Try.func21, Try.ntmps21
  go_wp2
  go_loopg [5] k (fun kq v5 w' => ∃ (s : Int), v5 = .int .i64 s ∧ Aside0 (laws_eqNodeS.l0 kq l0 l1 s = some r) ∧ Aside0 (kq ≤ k) ∧ Aside0 (Below w.heap.size w w'))
  case atStart => exact ⟨(0), eqs, H', ⟨Nat.le_refl _⟩, ⟨bs HB.out⟩⟩
  case round =>
   clear H'
   try clear c1
   try clear c2
   try clear p2
   try clear z
   try clear au
   try clear av
   try clear aw
   obtain ⟨s, rfl, HA, ax, HB⟩ := hrel
   cases gk with
   | zero => exact absurd HA.out (by simp [laws_eqNodeS.l0])
   | succ k1 =>
    have H := HA.out
    clear HA
    simp only [laws_eqNodeS.l0] at H
    by_cases c4 : s < (l0.length : Int)
    ·rw [if_pos c4] at H
     have az : decide (s < (l0.length : Int)) = true := decide_eq_true c4
     clear c4
     by_cases c5 : 0 ≤ s
     ·rw [if_pos c5] at H
      have aE : decide (0 ≤ s) = true := decide_eq_true c5
      clear c5
      by_cases c6 : s < (l1.length : Int)
      ·rw [if_pos c6] at H
       have aG : decide (s < (l1.length : Int)) = true := decide_eq_true c6
       clear c6
       replace H := Option.bind_eq_some_iff.mp H
       obtain ⟨aA, ay, H⟩ := H
       try dsimp -simprocs only at H
       have A7 := am ay
       clear ay
       by_cases c8 : aA = true
       ·subst c8
        replace H : (laws_eqNodeS.l0 k1 l0 l1 (wrap64 (s + 1))) = some r := by rw [if_pos rfl] at H; exact H
        have H' := am H
        clear H
        try go_wp2
        replace HB := hd HB
        have L : 0 ≤ (s : Int) := oda
        have O : s < (l0.length : Int) := oda
        obtain ⟨T, ab, D, G⟩ := at_T36 aq.out s L O
        have ac := G
        have ad := D
        cases ab
        replace D := cb HB D
        replace G := cb HB G
        replace L := eq_true L
        replace O := eq_true O
        have X : 0 ≤ (s : Int) := oda
        have Y : s < (l1.length : Int) := oda
        obtain ⟨Z, ae, I, J⟩ := at_T36 ar.out s X Y
        have af := J
        have ag := I
        cases ae
        replace I := cb HB I
        replace J := cb HB J
        replace X := eq_true X
        replace Y := eq_true Y
        refine wp_region_bel (by kernel_rfl) (by kernel_rfl) ?_
        generalize wr.drew = w9 at HB D G I J ⊢
        have hbp_ := fun (p_ : Bel w9) => below_step HB.out p_.h
        have ah : ∀ p_ : Bel w9, p_.v.cell? (T.add ((s).toNat * 2)) = some (.int .i64 ((rd_T36 l0 s).f0)) := fun p_ => cell_bel ((cb HB ad)) p_
        have ai : ∀ p_ : Bel w9, p_.v.cell? ⟨(T.add ((s).toNat * 2)).block, (T.add ((s).toNat * 2)).off + 1, none⟩ = some (.int .i64 ((rd_T36 l0 s).f1)) := fun p_ => cell_bel ((cb HB ac)) p_
        have aj : ∀ p_ : Bel w9, p_.v.cell? (Z.add ((s).toNat * 2)) = some (.int .i64 ((rd_T36 l1 s).f0)) := fun p_ => cell_bel ((cb HB ag)) p_
        have ak : ∀ p_ : Bel w9, p_.v.cell? ⟨(Z.add ((s).toNat * 2)).block, (Z.add ((s).toNat * 2)).off + 1, none⟩ = some (.int .i64 ((rd_T36 l1 s).f1)) := fun p_ => cell_bel ((cb HB af)) p_
        repeat (go_big_quiet_step (first
         | (with_reducible show Calls Try.prog 70 #[.agg #[.int .i64 ((rd_T36 l0 s).f0), .int .i64 ((rd_T36 l0 s).f1)], .agg #[.int .i64 ((rd_T36 l1 s).f0), .int .i64 ((rd_T36 l1 s).f1)]] _ _; with_reducible exact calls_bel (laws_eqNode.calls ((rd_T36 l0 s).f0) ((rd_T36 l0 s).f1) ((rd_T36 l1 s).f0) ((rd_T36 l1 s).f1) true _ A7.out))))
        refine wpQuiet_nil ?_
        intro aH hw'
        obtain ⟨⟨wq_, hb⟩, hw''⟩ := hw'
        subst hw''
        clear hbp_ ah ai aj ak
        replace HB := hs HB hb
        (try clear hb)
        (try clear hb2)
        (try clear hk)
        (try clear hi)
        try go_wp2
        go_roundg k1
        case measure => have := ax.out; omega
        case rel => exact ⟨(wrap64 (s + 1)), eqs, H', ⟨by have := ax.out; omega⟩, ⟨bs HB.out⟩⟩
       ·replace c8 := Bool.eq_false_iff.mpr c8
        subst c8
        have H1 : (some false) = some r := by rw [if_neg (show ¬ (false = true) by decide)] at H; exact H
        clear H
        have H := H1
        clear H1
        obtain rfl := Option.some.inj H
        try go_wp2
        replace HB := hd HB
        have L : 0 ≤ (s : Int) := oda
        have O : s < (l0.length : Int) := oda
        obtain ⟨T, ab, D, G⟩ := at_T36 aq.out s L O
        have ac := G
        have ad := D
        cases ab
        replace D := cb HB D
        replace G := cb HB G
        replace L := eq_true L
        replace O := eq_true O
        have X : 0 ≤ (s : Int) := oda
        have Y : s < (l1.length : Int) := oda
        obtain ⟨Z, ae, I, J⟩ := at_T36 ar.out s X Y
        have af := J
        have ag := I
        cases ae
        replace I := cb HB I
        replace J := cb HB J
        replace X := eq_true X
        replace Y := eq_true Y
        refine wp_region_bel (by kernel_rfl) (by kernel_rfl) ?_
        generalize wr.drew = aa at HB D G I J ⊢
        have hbp_ := fun (p_ : Bel aa) => below_step HB.out p_.h
        have ah : ∀ p_ : Bel aa, p_.v.cell? (T.add ((s).toNat * 2)) = some (.int .i64 ((rd_T36 l0 s).f0)) := fun p_ => cell_bel ((cb HB ad)) p_
        have ai : ∀ p_ : Bel aa, p_.v.cell? ⟨(T.add ((s).toNat * 2)).block, (T.add ((s).toNat * 2)).off + 1, none⟩ = some (.int .i64 ((rd_T36 l0 s).f1)) := fun p_ => cell_bel ((cb HB ac)) p_
        have aj : ∀ p_ : Bel aa, p_.v.cell? (Z.add ((s).toNat * 2)) = some (.int .i64 ((rd_T36 l1 s).f0)) := fun p_ => cell_bel ((cb HB ag)) p_
        have ak : ∀ p_ : Bel aa, p_.v.cell? ⟨(Z.add ((s).toNat * 2)).block, (Z.add ((s).toNat * 2)).off + 1, none⟩ = some (.int .i64 ((rd_T36 l1 s).f1)) := fun p_ => cell_bel ((cb HB af)) p_
        repeat (go_big_quiet_step (first
         | (with_reducible show Calls Try.prog 70 #[.agg #[.int .i64 ((rd_T36 l0 s).f0), .int .i64 ((rd_T36 l0 s).f1)], .agg #[.int .i64 ((rd_T36 l1 s).f0), .int .i64 ((rd_T36 l1 s).f1)]] _ _; with_reducible exact calls_bel (laws_eqNode.calls ((rd_T36 l0 s).f0) ((rd_T36 l0 s).f1) ((rd_T36 l1 s).f0) ((rd_T36 l1 s).f1) false _ A7.out))))
        refine wpQuiet_nil ?_
        intro aI hw'
        obtain ⟨⟨wq_, hb⟩, hw''⟩ := hw'
        subst hw''
        clear hbp_ ah ai aj ak
        replace HB := hs HB hb
        (try clear hb)
        (try clear hb2)
        (try clear hk)
        (try clear hi)
        try go_wp2
        go_ret
        exact ⟨eqr, bs HB.out⟩
      ·rw [if_neg c6] at H
       exact absurd H (by simp)
     ·rw [if_neg c5] at H
      exact absurd H (by simp)
    ·rw [if_neg c4] at H
     have az : decide (s < (l0.length : Int)) = false := decide_eq_false c4
     clear c4
     obtain rfl := Option.some.inj H
     go_wp2
     go_ret
     exact ⟨eqr, bs HB.out⟩
 ·rw [if_neg z] at H
  have au : ((l0.length : Int) == (l1.length : Int)) = false := beq_eq_false_iff_ne.mpr z
  have av : ((l0.length : Int) != (l1.length : Int)) = true := bne_iff_ne.mpr z
  have aw : (l0.length == l1.length) = false := by first | simpa using z | (simp at z ⊢; omega)
  obtain rfl := Option.some.inj H
  go_enter Try.func21, Try.ntmps21
  go_wp2
  go_ret
  exact ⟨eqr, bs HB.out⟩

end Go.Proofs.Ytohmemckdogljaa.QFnExactWalkPath
