/- Contracts of the Go functions that this law reaches: each does what its plain Lean function says. No condition. -/
import Derived.Test.YtohmemckdogljaaQFnExactWalkPathx0
import Derived.Test.YtohmemckdogljaaQFnExactWalkPathx1
import Derived.Test.YtohmemckdogljaaQFnExactWalkPathx10
import Derived.Test.YtohmemckdogljaaQFnExactWalkPathx11
namespace Go.Proofs.Ytohmemckdogljaa.QFnExactWalkPath
open Go.RowKit Go.Proofs.YtohmemckdogljaaW.PrintWords Go.Proofs.YtohmemckdogljaaW.PrintLast Go.Proofs.YtohmemckdogljaaW.PrintMore Go.Proofs.Ytohmemckdogljaa.Bl
attribute [local go_sem] max2_int min2_int max_two min_two max_three min_three max_four min_four   -- for this text's walks alone
set_option linter.unusedVariables false
set_option linter.unusedSimpArgs false
set_option maxHeartbeats 8000000
set_option maxRecDepth 100000

attribute [local go_sem high] eqA36
/-! ### impl_GraphNear: function 55 -/
def impl_GraphNear.l0 : Nat → List (S36) → List (S56) → Int → Int → Int → Int → Option ((List (S36)))
 | 0, _, _, _, _, _, _ => none
 | k + 1, z, y, I, s, D, G => if s < I then (if 0 ≤ s then (if s < (y.length : Int) then (if (D == ((rd_T56 y s).f1.f0) && (G == ((rd_T56 y s).f1.f1))) = true then (if z.length < 8796093022208 then (impl_GraphNear.l0 k (z ++ [(⟨(rd_T56 y s).f2.f0, (rd_T56 y s).f2.f1⟩ : S36)]) y I (wrap64 (s + 1)) D G) else (none)) else (if (D == ((rd_T56 y s).f2.f0) && (G == ((rd_T56 y s).f2.f1))) = true then (if z.length < 8796093022208 then (impl_GraphNear.l0 k (z ++ [(⟨(rd_T56 y s).f1.f0, (rd_T56 y s).f1.f1⟩ : S36)]) y I (wrap64 (s + 1)) D G) else (none)) else (impl_GraphNear.l0 k z y I (wrap64 (s + 1)) D G))) else (none)) else (none)) else ((impl_Node_104.f z).bind fun J => ((impl_Node_106.f k J).bind fun L => (some L)))
def impl_GraphNear.f (k : Nat) (y : List (S36)) (s : List (S56)) (z : Int) (D : Int) : Option ((List (S36))) := (impl_GraphOk.f k y s).bind fun G => (if G = true then (impl_GraphNear.l0 k ([] : List (S36)) s (s.length : Int) 0 z D) else (some ([] : List (S36))))
theorem impl_GraphNear.calls (k : Nat) (ah : Option Addr) (ai : Nat) (T : List (S36)) (aj : Option Addr) (ak : Nat) (s : List (S56)) (I : Int) (J : Int) (r : List (S36)) (w : World) (aQ : Kd.C k36 w ah T.length T) (aR : T.length ≤ ai) (aT : Kd.C k56 w aj s.length s) (aU : s.length ≤ ak) (h : impl_GraphNear.f k T s I J = some r) :
  Calls Try.prog 55 #[.agg #[.slice ah T.length ai, .slice aj s.length ak], .agg #[.int .i64 I, .int .i64 J]] w fun e w' => ∃ aV : Value, e = .returned (aV) ∧ Kd.R k36 36 w' w.heap.size (fun _ => True) aV r ∧ Below w.heap.size w w' := by
 have hu34 := Try.underlying34
 have hu36 := Try.underlying36
 have hu56 := Try.underlying56
 have aW := am aQ
 have aX := am aR
 clear aQ aR
 have aw := am aT
 have aY := am aU
 clear aT aU
 have HB := am (Below.refl w.heap.size w)
 have H := h; unfold impl_GraphNear.f at H
 clear h
 replace H := Option.bind_eq_some_iff.mp H
 obtain ⟨bk, aZ, H⟩ := H
 try dsimp -simprocs only at H
 have A3 := am aZ
 clear aZ
 by_cases c4 : bk = true
 ·subst c4
  replace H : (impl_GraphNear.l0 k ([] : List (S36)) s (s.length : Int) 0 I J) = some r := by rw [if_pos rfl] at H; exact H
  have H' := am H
  clear H
  go_enter Try.func55, Try.ntmps55
  go_wp2_with (first | ((with_reducible refine gd 2 rfl ?_); refine bx 2 (cs := #[.slice ah T.length ai, .slice aj s.length ak]) (t := 34) ?_; intro a4 hg w5 hbox hb; have D := am hbox; have bl := gwb HB hg; replace HB := hs HB hb; clear hb hbox hg) | ((with_reducible refine gd 3 rfl ?_); refine bx 3 (cs := #[.int .i64 I, .int .i64 J]) (t := 36) ?_; intro X hg w6 hbox hb; have G := am hbox; have bm := gwb HB hg; replace HB := hs HB hb; have ao := nq D hg; have ap := nq' D hg; replace D := bb D hb rfl; clear hb hbox hg; have bS := ao.out; have bT := ap.out; obtain ⟨bn, bo⟩ := bc2 (w := w6) D.out; have br := blk_frozen D.out) | ((with_reducible refine gc 34 rfl ?_); refine gl 9 Try.func34 #[.agg #[.slice ah T.length ai, .slice aj s.length ak]] ?_; (with_reducible refine (impl_GraphOk.calls k _ _ T _ _ s true _ ?al ?an ?aJ ?aK A3.out).mono ?_); (case al => exact Kd.C_below aW.out (bs HB.out)); (case an => exact aX.out); (case aJ => exact Kd.C_below aw.out (bs HB.out)); (case aK => exact aY.out); rintro e w9 ⟨rfl, hb⟩; refine ⟨_, rfl, ?_⟩; replace D := bb D hb rfl; replace G := bb G hb rfl; replace HB := hs HB hb; (try clear hb); obtain ⟨bt, bu⟩ := bc2 (w := w9) D.out; have bv := blk_frozen D.out))
  go_loopg [5, 14] k (fun kq v5 bw w' => ∃ (M : List (S36)) (y : Int), bw = .int .i64 y ∧ Aside0 (impl_GraphNear.l0 kq M s (s.length : Int) y I J = some r) ∧ Aside0 (kq ≤ k) ∧ Aside0 (Kd.R k36 36 w' w.heap.size (fun k_ => k_ ≠ X) v5 M) ∧ Aside0 (w'.heap[a4]? = some (.cells #[(.slice ah T.length ai), (.slice aj s.length ak)] 34 (0, 0))) ∧ Aside0 (w'.heap[X]? = some (.cells #[.int .i64 I, .int .i64 J] 36 (0, 0))) ∧ Aside0 (Below w.heap.size w w'))
  case atStart => exact ⟨(([] : List (S36))), (0), eqs, H', ⟨Nat.le_refl _⟩, ⟨by first | exact Kd.R_nil _ _ _ _ _ | exact Kd.N_nil _ _ _ _ _ | exact Kd.V_nil _ _ _ _ _ | exact Kd.Q_nil _ _ _ _ _ | exact Kd.S_nil _ _ _ _ _⟩, ⟨bf D.out⟩, ⟨bf G.out⟩, ⟨bs HB.out⟩⟩
  case round =>
   clear H'
   try clear p2
   try clear c3
   try clear c4
   try clear c5
   try clear c7
   try clear bt bu
   try clear bn bo
   try clear bv
   try clear br
   obtain ⟨M, y, rfl, HA, aq, L, D, G, HB⟩ := hrel
   cases gk with
   | zero => exact absurd HA.out (by simp [impl_GraphNear.l0])
   | succ k1 =>
    have H := HA.out
    clear HA
    simp only [impl_GraphNear.l0] at H
    by_cases ar : y < (s.length : Int)
    ·rw [if_pos ar] at H
     have bz : decide (y < (s.length : Int)) = true := decide_eq_true ar
     clear ar
     by_cases aD : 0 ≤ y
     ·rw [if_pos aD] at H
      have bU : decide (0 ≤ y) = true := decide_eq_true aD
      clear aD
      by_cases aE : y < (s.length : Int)
      ·rw [if_pos aE] at H
       have bV : decide (y < (s.length : Int)) = true := decide_eq_true aE
       clear aE
       by_cases Y : (I == ((rd_T56 s y).f1.f0) && (J == ((rd_T56 s y).f1.f1))) = true
       ·rw [if_pos Y] at H
        have bA : (I == ((rd_T56 s y).f1.f0) && (J == ((rd_T56 s y).f1.f1))) = true := Y
        (try (have bB : decide (I = ((rd_T56 s y).f1.f0) && (J == ((rd_T56 s y).f1.f1))) = true := by simpa using Y))
        (try (have bC : (I == ((rd_T56 s y).f1.f0) && (J == ((rd_T56 s y).f1.f1))) = true := by simpa using Y))
        clear Y
        by_cases aG : M.length < 8796093022208
        ·rw [if_pos aG] at H
         have bD := am aG
         clear aG
         obtain ⟨a5, aM⟩ : ∃ y_ : List (S36), y_ = (M ++ [(⟨(rd_T56 s y).f2.f0, (rd_T56 s y).f2.f1⟩ : S36)]) := ⟨_, rfl⟩
         replace H : (impl_GraphNear.l0 k1 a5 s (s.length : Int) (wrap64 (y + 1)) I J) = some r := by first | (rw [aM]; exact H) | exact H
         have bE := am aM
         clear aM
         have H' := am H
         clear H
         have Z : 0 ≤ (y : Int) := oda
         have aa : y < (s.length : Int) := oda
         obtain ⟨a6, ax, ac, ad, ae, af, ag⟩ := at_T56 aw.out y Z aa
         cases ax
         replace ac := cb HB ac
         replace ad := cb HB ad
         replace ae := cb HB ae
         replace af := cb HB af
         replace ag := cb HB ag
         replace Z := eq_true Z
         replace aa := eq_true aa
         go_wp2_with (first | ((with_reducible refine gd 7 rfl ?_); refine bx 7 (cs := #[.int .i64 0, .int .i64 0, .int .i64 0, .int .i64 0, .int .i64 0]) (t := 56) ?_; intro aH hg a7 hbox hb; replace L := rb L hb; have O := am hbox; have a8 := gwb HB hg; replace HB := hs HB hb; have ay := nq D hg; have az := nq' D hg; replace D := bb D hb rfl; have aA := nq G hg; have aC := nq' G hg; replace G := bb G hb rfl; clear hb hbox hg; have bW := az.out; have bX := ay.out; have bY := aC.out; have bZ := aA.out; obtain ⟨b0, b1, b2, b3, b4⟩ := bc5 (w := a7) O.out; have b5 := blk_frozen O.out; have b6 := ap.out; have b7 := ao.out; obtain ⟨b8, b9⟩ := bc2 (w := a7) G.out; have ce := blk_frozen G.out) | ((with_reducible refine gate_builtin (b := .append) (xs := #[.tmp 23, .tmp 26]) rfl ?_); at_builtin; refine Kd.R_append k36 (w0 := w) w.heap.size rfl (.tmp 23) (.tmp 26) 29 36 (.agg #[(.int .i64 0), (.int .i64 0)]) 16 rfl Try.underlying29 info36 rfl (by decide) (by omega) u5 M (⟨(rd_T56 s y).f2.f0, (rd_T56 s y).f2.f1⟩ : S36) [.int .i64 ((rd_T56 s y).f2.f0), .int .i64 ((rd_T56 s y).f2.f1)] (fun k_ => k_ ≠ X) (fun _ => False) rfl (by first | (go_simp; done) | (go_simp; rfl)) ?aP (fun _ hk => hk.elim) ?aF ?aO ?aB ?aS ?aL ?_; (case aP => exact k36_mkM _ _ _ (⟨(rd_T56 s y).f2.f0, (rd_T56 s y).f2.f1⟩ : S36)); (case aB => exact (bs HB.out)); (case aF => exact (fun k_ hk => Kd.freshB (g := X) (o := .cells #[.int .i64 I, .int .i64 J] 36 (0, 0)) (bf G.out) k_ hk)); (case aO => exact (Kd.R_mono (rt L.out O.out (by decide)) (fun _ hk => hk))); (case aS => exact (below_size (bs HB.out))); (case aL => have := bD.out; omega); intro cf cg ho hb hg hat; rw [← bE.out] at ho; replace D := gr D L hg; replace G := am (blk_grown (g := X) (o := .cells #[.int .i64 I, .int .i64 J] 36 (0, 0)) (bf G.out) hg (Kd.R_away L.out (fun _ hk => hk))); replace O := am (blk_grown (g := aH) (o := .cells #[.int .i64 ((rd_T56 s y).f0), .int .i64 ((rd_T56 s y).f1.f0), .int .i64 ((rd_T56 s y).f1.f1), .int .i64 ((rd_T56 s y).f2.f0), .int .i64 ((rd_T56 s y).f2.f1)] 56 (0, 0)) (bp O.out rfl) hg (Kd.R_ne L.out O.out (by decide))); replace HB := am hb; have bF := am ho; clear L; clear ho hb hg hat))
         go_roundg k1
         case measure => have := aq.out; omega
         case rel => exact ⟨(a5), (wrap64 (y + 1)), eqs, H', ⟨by have := aq.out; omega⟩, ⟨rl bF.out⟩, ⟨bf D.out⟩, ⟨bf G.out⟩, ⟨bs HB.out⟩⟩
        ·rw [if_neg aG] at H
         exact absurd H (by simp)
       ·rw [if_neg Y] at H
        have bA : (I == ((rd_T56 s y).f1.f0) && (J == ((rd_T56 s y).f1.f1))) = false := by simpa using Y
        (try (have bB : decide (I = ((rd_T56 s y).f1.f0) && (J == ((rd_T56 s y).f1.f1))) = false := by simpa using Y))
        (try (have bC : (I == ((rd_T56 s y).f1.f0) && (J == ((rd_T56 s y).f1.f1))) = false := by simpa using Y))
        (try (have ch : ¬ (I = ((rd_T56 s y).f1.f0) && (J == ((rd_T56 s y).f1.f1))) := by simpa using Y))
        clear Y
        by_cases ab : (I == ((rd_T56 s y).f2.f0) && (J == ((rd_T56 s y).f2.f1))) = true
        ·rw [if_pos ab] at H
         have bG : (I == ((rd_T56 s y).f2.f0) && (J == ((rd_T56 s y).f2.f1))) = true := ab
         (try (have bH : decide (I = ((rd_T56 s y).f2.f0) && (J == ((rd_T56 s y).f2.f1))) = true := by simpa using ab))
         (try (have bI : (I == ((rd_T56 s y).f2.f0) && (J == ((rd_T56 s y).f2.f1))) = true := by simpa using ab))
         clear ab
         by_cases aI : M.length < 8796093022208
         ·rw [if_pos aI] at H
          have bJ := am aI
          clear aI
          obtain ⟨a9, aN⟩ : ∃ y_ : List (S36), y_ = (M ++ [(⟨(rd_T56 s y).f1.f0, (rd_T56 s y).f1.f1⟩ : S36)]) := ⟨_, rfl⟩
          replace H : (impl_GraphNear.l0 k1 a9 s (s.length : Int) (wrap64 (y + 1)) I J) = some r := by first | (rw [aN]; exact H) | exact H
          have bK := am aN
          clear aN
          have H' := am H
          clear H
          have Z : 0 ≤ (y : Int) := oda
          have aa : y < (s.length : Int) := oda
          obtain ⟨a6, ax, ac, ad, ae, af, ag⟩ := at_T56 aw.out y Z aa
          cases ax
          replace ac := cb HB ac
          replace ad := cb HB ad
          replace ae := cb HB ae
          replace af := cb HB af
          replace ag := cb HB ag
          replace Z := eq_true Z
          replace aa := eq_true aa
          go_wp2_with (first | ((with_reducible refine gd 7 rfl ?_); refine bx 7 (cs := #[.int .i64 0, .int .i64 0, .int .i64 0, .int .i64 0, .int .i64 0]) (t := 56) ?_; intro aH hg ba hbox hb; replace L := rb L hb; have O := am hbox; have a8 := gwb HB hg; replace HB := hs HB hb; have ay := nq D hg; have az := nq' D hg; replace D := bb D hb rfl; have aA := nq G hg; have aC := nq' G hg; replace G := bb G hb rfl; clear hb hbox hg; have ci := az.out; have cj := ay.out; have ck := aC.out; have cl := aA.out; obtain ⟨cm, cn, co, cp, ct⟩ := bc5 (w := ba) O.out; have cu := blk_frozen O.out; have cv := ap.out; have cy := ao.out; obtain ⟨cz, cA⟩ := bc2 (w := ba) G.out; have cB := blk_frozen G.out) | ((with_reducible refine gate_builtin (b := .append) (xs := #[.tmp 32, .tmp 35]) rfl ?_); at_builtin; refine Kd.R_append k36 (w0 := w) w.heap.size rfl (.tmp 32) (.tmp 35) 29 36 (.agg #[(.int .i64 0), (.int .i64 0)]) 16 rfl Try.underlying29 info36 rfl (by decide) (by omega) u5 M (⟨(rd_T56 s y).f1.f0, (rd_T56 s y).f1.f1⟩ : S36) [.int .i64 ((rd_T56 s y).f1.f0), .int .i64 ((rd_T56 s y).f1.f1)] (fun k_ => k_ ≠ X) (fun _ => False) rfl (by first | (go_simp; done) | (go_simp; rfl)) ?aP (fun _ hk => hk.elim) ?aF ?aO ?aB ?aS ?aL ?_; (case aP => exact k36_mkM _ _ _ (⟨(rd_T56 s y).f1.f0, (rd_T56 s y).f1.f1⟩ : S36)); (case aB => exact (bs HB.out)); (case aF => exact (fun k_ hk => Kd.freshB (g := X) (o := .cells #[.int .i64 I, .int .i64 J] 36 (0, 0)) (bf G.out) k_ hk)); (case aO => exact (Kd.R_mono (rt L.out O.out (by decide)) (fun _ hk => hk))); (case aS => exact (below_size (bs HB.out))); (case aL => have := bJ.out; omega); intro cC cD ho hb hg hat; rw [← bK.out] at ho; replace D := gr D L hg; replace G := am (blk_grown (g := X) (o := .cells #[.int .i64 I, .int .i64 J] 36 (0, 0)) (bf G.out) hg (Kd.R_away L.out (fun _ hk => hk))); replace O := am (blk_grown (g := aH) (o := .cells #[.int .i64 ((rd_T56 s y).f0), .int .i64 ((rd_T56 s y).f1.f0), .int .i64 ((rd_T56 s y).f1.f1), .int .i64 ((rd_T56 s y).f2.f0), .int .i64 ((rd_T56 s y).f2.f1)] 56 (0, 0)) (bp O.out rfl) hg (Kd.R_ne L.out O.out (by decide))); replace HB := am hb; have bL := am ho; clear L; clear ho hb hg hat))
          go_roundg k1
          case measure => have := aq.out; omega
          case rel => exact ⟨(a9), (wrap64 (y + 1)), eqs, H', ⟨by have := aq.out; omega⟩, ⟨rl bL.out⟩, ⟨bf D.out⟩, ⟨bf G.out⟩, ⟨bs HB.out⟩⟩
         ·rw [if_neg aI] at H
          exact absurd H (by simp)
        ·rw [if_neg ab] at H
         have bG : (I == ((rd_T56 s y).f2.f0) && (J == ((rd_T56 s y).f2.f1))) = false := by simpa using ab
         (try (have bH : decide (I = ((rd_T56 s y).f2.f0) && (J == ((rd_T56 s y).f2.f1))) = false := by simpa using ab))
         (try (have bI : (I == ((rd_T56 s y).f2.f0) && (J == ((rd_T56 s y).f2.f1))) = false := by simpa using ab))
         (try (have cE : ¬ (I = ((rd_T56 s y).f2.f0) && (J == ((rd_T56 s y).f2.f1))) := by simpa using ab))
         clear ab
         have H' := am H
         clear H
         have Z : 0 ≤ (y : Int) := oda
         have aa : y < (s.length : Int) := oda
         obtain ⟨a6, ax, ac, ad, ae, af, ag⟩ := at_T56 aw.out y Z aa
         cases ax
         replace ac := cb HB ac
         replace ad := cb HB ad
         replace ae := cb HB ae
         replace af := cb HB af
         replace ag := cb HB ag
         replace Z := eq_true Z
         replace aa := eq_true aa
         go_wp2_with (first | ((with_reducible refine gd 7 rfl ?_); refine bx 7 (cs := #[.int .i64 0, .int .i64 0, .int .i64 0, .int .i64 0, .int .i64 0]) (t := 56) ?_; intro aH hg bc hbox hb; replace L := rb L hb; have O := am hbox; have a8 := gwb HB hg; replace HB := hs HB hb; have ay := nq D hg; have az := nq' D hg; replace D := bb D hb rfl; have aA := nq G hg; have aC := nq' G hg; replace G := bb G hb rfl; clear hb hbox hg; have cF := az.out; have cG := ay.out; have cH := aC.out; have cI := aA.out; obtain ⟨cJ, cK, cL, cM, cN⟩ := bc5 (w := bc) O.out; have cO := blk_frozen O.out; have cP := ap.out; have cQ := ao.out; obtain ⟨cR, cS⟩ := bc2 (w := bc) G.out; have cT := blk_frozen G.out))
         go_roundg k1
         case measure => have := aq.out; omega
         case rel => exact ⟨(M), (wrap64 (y + 1)), eqs, H', ⟨by have := aq.out; omega⟩, ⟨Kd.R_mono (rt L.out O.out (by decide)) (fun _ hk => hk)⟩, ⟨bf D.out⟩, ⟨bf G.out⟩, ⟨bs HB.out⟩⟩
      ·rw [if_neg aE] at H
       exact absurd H (by simp)
     ·rw [if_neg aD] at H
      exact absurd H (by simp)
    ·rw [if_neg ar] at H
     have bz : decide (y < (s.length : Int)) = false := decide_eq_false ar
     clear ar
     replace H := Option.bind_eq_some_iff.mp H
     obtain ⟨be, bg, H⟩ := H
     try dsimp -simprocs only at H
     have bM := am bg
     clear bg
     replace H := Option.bind_eq_some_iff.mp H
     obtain ⟨bN, bh, H⟩ := H
     try dsimp -simprocs only at H
     have bO := am bh
     clear bh
     obtain rfl := Option.some.inj H
     obtain ⟨au, av, bP⟩ := Kd.R_slice L.out
     subst bP
     go_wp2_with (first | ((with_reducible refine gc 104 rfl ?_); refine gl 39 Try.func104 #[.slice au M.length av, .func (.func 105) #[] #[]] ?_; (with_reducible refine (impl_Node_104.calls (fun k_ => some k_ = (.slice au M.length av : Value).ownBlock) (.slice au M.length av) M be w _ ?al ?an bM.out).mono ?_); (case al => exact bs HB.out); (case an => exact Kd.R_tight rfl L.out); rintro e cU ⟨rfl, bi, hb, hkp⟩; refine ⟨_, rfl, ?_⟩; replace D := am (blk_kept (bf D.out) hkp (fun hs_ => (fun e_ => (Kd.R_ne L.out D.out (by decide)) e_) hs_)); replace G := am (blk_kept (bf G.out) hkp (fun hs_ => (fun e_ => (Kd.R_away L.out (fun _ hk => hk)) e_) hs_)); replace L := am (Kd.R_reok rfl bi (fun k_ e_ => L.out.1 k_ e_)); replace HB := am hb; (try clear hb hkp); (try clear bi)) | ((with_reducible refine gc 106 rfl ?_); refine gl 41 Try.func106 #[.slice au M.length av] ?_; (with_reducible refine (impl_Node_106.calls k1 (fun k_ => some k_ = (.slice au M.length av : Value).ownBlock) (.slice au M.length av) be bN w _ ?al ?an bO.out).mono ?_); (case al => exact bs HB.out); (case an => exact Kd.R_tight rfl L.out); rintro e cV ⟨cW, rfl, bj, hb, hkp⟩; refine ⟨_, rfl, ?_⟩; replace D := am (blk_kept (bf D.out) hkp (fun hs_ => (fun e_ => (Kd.R_ne L.out D.out (by decide)) e_) hs_)); have bQ := am (Kd.R_mono (ok' := fun k_ => k_ ≠ X) bj (fun k_ hk_ => Or.elim hk_ (fun hs_ => fun e_ => (Kd.R_away L.out (fun _ hk => hk)) (by rw [← e_]; exact hs_)) (fun hn_ => (Kd.freshB (g := X) (o := .cells #[.int .i64 I, .int .i64 J] 36 (0, 0)) (bf G.out) k_ hn_)))); replace G := am (blk_kept (bf G.out) hkp (fun hs_ => (fun e_ => (Kd.R_away L.out (fun _ hk => hk)) e_) hs_)); replace HB := am hb; clear L; (try clear bj hb hkp)))
     go_ret
     exact ⟨_, eqr, by (with_reducible repeat (first | apply Kd.R_alloc | apply Kd.R_drewN | apply Kd.R_drew)); exact Kd.R_mono bQ.out (fun _ hk => trivial), bs HB.out⟩
 ·replace c4 := Bool.eq_false_iff.mpr c4
  subst c4
  have H1 : (some ([] : List (S36))) = some r := by rw [if_neg (show ¬ (false = true) by decide)] at H; exact H
  clear H
  have H := H1
  clear H1
  obtain rfl := Option.some.inj H
  go_enter Try.func55, Try.ntmps55
  go_wp2_with (first | ((with_reducible refine gd 2 rfl ?_); refine bx 2 (cs := #[.slice ah T.length ai, .slice aj s.length ak]) (t := 34) ?_; intro a4 hg cX hbox hb; have D := am hbox; have bl := gwb HB hg; replace HB := hs HB hb; clear hb hbox hg) | ((with_reducible refine gd 3 rfl ?_); refine bx 3 (cs := #[.int .i64 I, .int .i64 J]) (t := 36) ?_; intro X hg bR hbox hb; have G := am hbox; have bm := gwb HB hg; replace HB := hs HB hb; have ao := nq D hg; have ap := nq' D hg; replace D := bb D hb rfl; clear hb hbox hg; have cY := ao.out; have cZ := ap.out; obtain ⟨c0, c8⟩ := bc2 (w := bR) D.out; have da := blk_frozen D.out) | ((with_reducible refine gc 34 rfl ?_); refine gl 9 Try.func34 #[.agg #[.slice ah T.length ai, .slice aj s.length ak]] ?_; (with_reducible refine (impl_GraphOk.calls k _ _ T _ _ s false _ ?al ?an ?aJ ?aK A3.out).mono ?_); (case al => exact Kd.C_below aW.out (bs HB.out)); (case an => exact aX.out); (case aJ => exact Kd.C_below aw.out (bs HB.out)); (case aK => exact aY.out); rintro e db ⟨rfl, hb⟩; refine ⟨_, rfl, ?_⟩; replace D := bb D hb rfl; replace G := bb G hb rfl; replace HB := hs HB hb; (try clear hb)))
  go_ret
  exact ⟨_, eqr, by first | exact Kd.R_nil _ _ _ _ _ | exact Kd.N_nil _ _ _ _ _ | exact Kd.V_nil _ _ _ _ _ | exact Kd.Q_nil _ _ _ _ _ | exact Kd.S_nil _ _ _ _ _, bs HB.out⟩

/-! ### impl_nearPlaces: function 68 -/
mutual
def impl_nearPlaces.l0 : Nat → List (List Int) → List (S36) → Int → Int → List (S36) → List (S56) → Option ((List (List Int)))
 | 0, _, _, _, _, _, _ => none
 | k + 1, z, y, D, s, G, I => if s < D then (if 0 ≤ s then (if s < (y.length : Int) then ((impl_GraphNear.f k G I ((rd_T36 y s).f0) ((rd_T36 y s).f1)).bind fun J => (impl_nearPlaces.l1 k z s y D s J (J.length : Int) 0 G I)) else (none)) else (none)) else (some z)
def impl_nearPlaces.l1 : Nat → List (List Int) → Int → List (S36) → Int → Int → List (S36) → Int → Int → List (S36) → List (S56) → Option ((List (List Int)))
 | 0, _, _, _, _, _, _, _, _, _, _ => none
 | k + 1, z, s, J, L, M, D, O, y, G, I => if y < O then (if 0 ≤ y then (if y < (D.length : Int) then (if 0 ≤ s then (if s < (z.length : Int) then ((impl_nodePlace.f k G I ((rd_T36 D y).f0) ((rd_T36 D y).f1)).bind fun T => (if (rd_L9 z s).length < 17592186044416 then (impl_nearPlaces.l1 k (z.set (s : Int).toNat ((rd_L9 z s) ++ [T])) s J L M D O (wrap64 (y + 1)) G I) else (none))) else (none)) else (none)) else (none)) else (none)) else (impl_nearPlaces.l0 k z J L (wrap64 (M + 1)) G I)
end
def impl_nearPlaces.f (k : Nat) (s : List (S36)) (y : List (S56)) : Option ((List (List Int))) := if 0 ≤ (s.length : Int) then (if ((s.length : Int) : Int).toNat ≤ 11728124029610 then (impl_nearPlaces.l0 k (List.replicate ((s.length : Int) : Int).toNat []) s (s.length : Int) 0 s y) else (none)) else (none)
def impl_nearPlaces.T8 : Bool × List (List Nat × List Nat) := (true, [([], []), ([], []), ([], []), ([], []), ([2, 3], [2, 3]), ([4], [4]), ([], []), ([], []), ([6, 7], [6, 7]), ([8], [8]), ([5, 9, 8], [5, 9]), ([0, 1, 0, 1, 2, 3, 4, 5, 6, 7, 8, 9, 10], [0, 1]), ([11, 10, 10, 0, 1, 2, 3, 4, 5, 6, 7, 8, 9, 10], [10, 11])])
def impl_nearPlaces.B8 : List Nat := [0, 0, 0, 0, 12, 28, 0, 0, 192, 448, 1020, 2047, 4095]
theorem impl_nearPlaces.tab8 : rtab .any (opsOf Try.f68 8) = impl_nearPlaces.T8 := by kernel_rfl
theorem impl_nearPlaces.bits8 : waitsOk impl_nearPlaces.T8.2 impl_nearPlaces.B8 = true := by kernel_rfl
theorem impl_nearPlaces.calls (k : Nat) (aq : Option Addr) (Z : Nat) (z : List (S36)) (aa : Option Addr) (ab : Nat) (X : List (S56)) (r : List (List Int)) (w : World) (bk : Kd.C k36 w aq z.length z) (bl : z.length ≤ Z) (bm : Kd.C k56 w aa X.length X) (bn : X.length ≤ ab) (h : impl_nearPlaces.f k z X = some r) :
  Calls Try.prog 68 #[.agg #[.slice aq z.length Z, .slice aa X.length ab]] w fun e w' => ∃ bo : Value, e = .returned (bo) ∧ Kd.S (Kd.slice 3 (Kd.int .i64)) 43 w' w.heap.size (fun _ => True) bo r ∧ Below w.heap.size w w' := by
 have hu34 := Try.underlying34
 have hu36 := Try.underlying36
 have aN := am bk
 have br := am bl
 clear bk bl
 have bt := am bm
 have bu := am bn
 clear bm bn
 have HB := am (Below.refl w.heap.size w)
 have H := h; unfold impl_nearPlaces.f at H
 clear h
 by_cases c2 : 0 ≤ (z.length : Int)
 ·rw [if_pos c2] at H
  have bv := eq_true c2
  have bw : decide (0 ≤ (z.length : Int)) = true := decide_eq_true c2
  clear c2
  by_cases c3 : ((z.length : Int) : Int).toNat ≤ 11728124029610
  ·rw [if_pos c3] at H
   have bz := eq_true c3
   have bA : decide (((z.length : Int) : Int).toNat ≤ 11728124029610) = true := decide_eq_true c3
   clear c3
   obtain ⟨bB, aQ⟩ : ∃ y_ : List (List Int), y_ = (List.replicate ((z.length : Int) : Int).toNat []) := ⟨_, rfl⟩
   replace H : (impl_nearPlaces.l0 k bB z (z.length : Int) 0 z X) = some r := by first | (rw [aQ]; exact H) | exact H
   have bC := am aQ
   clear aQ
   have H' := am H
   clear H
   go_enter Try.func68, Try.ntmps68
   go_wp2_with (first | ((with_reducible refine gd 1 rfl ?_); refine bx 1 (cs := #[.slice aq z.length Z, .slice aa X.length ab]) (t := 34) ?_; intro ad hg w4 hbox hb; have I := am hbox; have b7 := gwb HB hg; replace HB := hs HB hb; clear hb hbox hg; obtain ⟨bD, bE⟩ := bc2 (w := w4) I.out; have bF := blk_frozen I.out) | ((with_reducible refine gd 11 rfl ?_); refine Kd.S_make (Kd.slice 3 (Kd.int .i64)) _ 43 rfl (N := 11) rfl 84 _ _ rfl (z.length : Int) rfl rfl Try.underlying84 (.slice none 0 0) 24 info43 rfl (by decide) (by omega) [] (ok := fun _ => True) (okp := fun _ => True) ⟨_, rfl, Kd.R_nil _ _ _ _ _⟩ (fun _ hk => hk) trivial (oda) (Nat.le_trans (Nat.mul_le_mul_right _ (oda : (z.length : Int).toNat ≤ 11728124029610)) (by omega)) (Below.refl _ _) (Nat.le_refl _) ?_; intro aR w6 ah hb hg_ hnew_; clear hg_ hnew_; (first | rw [← bC.out] at ah | (simp only [Int.reduceToNat] at ah; rw [← bC.out] at ah)); have b8 := am (Kd.S_lower ah (below_size (bs HB.out))); replace I := bb I hb rfl; replace HB := hs HB hb; clear hb ah; obtain ⟨bG, bH⟩ := bc2 (w := w6) I.out; have bI := blk_frozen I.out))
   go_loopg [15] k (fun kq b9 w' => ∃ (ar : List (List Int)) (s : Int), b9 = .int .i64 s ∧ Aside0 (impl_nearPlaces.l0 kq ar z (z.length : Int) s z X = some r) ∧ Aside0 (kq ≤ k) ∧ Aside0 (Kd.S (Kd.slice 3 (Kd.int .i64)) 43 w' w.heap.size (fun _ => True) aR ar) ∧ Aside0 (w'.heap[ad]? = some (.cells #[(.slice aq z.length Z), (.slice aa X.length ab)] 34 (0, 0))) ∧ Aside0 (Below w.heap.size w w'))
   case atStart => exact ⟨(bB), (0), eqs, H', ⟨Nat.le_refl _⟩, ⟨by (with_reducible repeat (first | apply Kd.S_alloc | apply Kd.S_drewN | apply Kd.S_drew)); exact b8.out⟩, ⟨bf I.out⟩, ⟨bs HB.out⟩⟩
   case round =>
    clear H'
    try clear c2
    try clear bv
    try clear bw
    try clear p2
    try clear c3
    try clear bz
    try clear bA
    try clear c6
    try clear bD bE
    try clear bG bH
    try clear bF
    try clear bI
    obtain ⟨ar, s, rfl, HA, au, J, I, HB⟩ := hrel
    cases gk with
    | zero => exact absurd HA.out (by simp [impl_nearPlaces.l0])
    | succ k1 =>
     have H := HA.out
     clear HA
     simp only [impl_nearPlaces.l0] at H
     by_cases c9 : s < (z.length : Int)
     ·rw [if_pos c9] at H
      have bJ : decide (s < (z.length : Int)) = true := decide_eq_true c9
      clear c9
      by_cases ai : 0 ≤ s
      ·rw [if_pos ai] at H
       have ce : decide (0 ≤ s) = true := decide_eq_true ai
       clear ai
       by_cases aj : s < (z.length : Int)
       ·rw [if_pos aj] at H
        have cf : decide (s < (z.length : Int)) = true := decide_eq_true aj
        clear aj
        replace H := Option.bind_eq_some_iff.mp H
        obtain ⟨D, bK, H⟩ := H
        try dsimp -simprocs only at H
        have cg := am bK
        clear bK
        have H' := am H
        clear H
        have av : 0 ≤ (s : Int) := oda
        have aw : s < (z.length : Int) := oda
        obtain ⟨af, ch, aT, aU⟩ := at_T36 aN.out s av aw
        cases ch
        replace aT := cb HB aT
        replace aU := cb HB aU
        replace av := eq_true av
        replace aw := eq_true aw
        go_wp2_with (first | ((with_reducible refine gd 5 rfl ?_); refine bx 5 (cs := #[.int .i64 0, .int .i64 0]) (t := 36) ?_; intro ac hg bL hbox hb; replace J := am (Kd.S_below (by (with_reducible repeat (first | apply Kd.S_alloc | apply Kd.S_drewN | apply Kd.S_drew)); exact J.out) hb); have M := am hbox; have ci := gwb HB hg; replace HB := hs HB hb; have cj := nq I hg; have ck := nq' I hg; replace I := bb I hb rfl; clear hb hbox hg; have cU := ck.out; have cV := cj.out; obtain ⟨cl, cm⟩ := bc2 (w := bL) M.out; have cn := blk_frozen M.out; obtain ⟨co, cp⟩ := bc2 (w := bL) I.out; have ct := blk_frozen I.out) | ((with_reducible refine gc 55 rfl ?_); refine gl 22 Try.func55 #[.agg #[.slice (some af) z.length Z, .slice aa X.length ab], .agg #[.int .i64 ((rd_T36 z s).f0), .int .i64 ((rd_T36 z s).f1)]] ?_; (with_reducible refine (impl_GraphNear.calls k1 _ _ z _ _ X ((rd_T36 z s).f0) ((rd_T36 z s).f1) D _ ?aV ?aW ?aX ?aY cg.out).mono ?_); (case aV => exact Kd.C_below aN.out (bs HB.out)); (case aW => exact br.out); (case aX => exact Kd.C_below bt.out (bs HB.out)); (case aY => exact bu.out); rintro e cW ⟨cX, rfl, bM, hb⟩; refine ⟨_, rfl, ?_⟩; replace J := am (Kd.S_below (by (with_reducible repeat (first | apply Kd.S_alloc | apply Kd.S_drewN | apply Kd.S_drew)); exact (Kd.S_mono (Kd.S_far (p := ⟨ac, 1, none⟩) (Kd.S_far (p := ⟨ac, 0, none⟩) (Kd.S_types J.out M.out (by decide)) (fun _ hk => hk.2) (.int .i64 ((rd_T36 z s).f0))) (fun _ hk => hk.2) (.int .i64 ((rd_T36 z s).f1))) (fun _ h_ => h_.1))) hb); have bN := am (Kd.R_lower (Kd.R_newB bM (g := ac) (o := .cells #[.int .i64 ((rd_T36 z s).f0), .int .i64 ((rd_T36 z s).f1)] 36 (0, 0)) (bp M.out rfl)) (below_size (bs HB.out))); replace I := am (blk_below (g := ad) (o := .cells #[.slice (some af) z.length Z, .slice aa X.length ab] 34 (0, 0)) (bf I.out) hb); replace M := bq #[.int .i64 ((rd_T36 z s).f0), .int .i64 ((rd_T36 z s).f1)] M hb; replace HB := hs HB hb; (try clear hb); (try clear hb2); (try clear hk); (try clear hi); (try clear bM); obtain ⟨cu, bO, cv⟩ := Kd.R_slice bN.out; subst cv))
        go_loopg [24] k1 (fun kq cy w' => ∃ (O : List (List Int)) (G : Int), cy = .int .i64 G ∧ Aside0 (impl_nearPlaces.l1 kq O s z (z.length : Int) s D (D.length : Int) G z X = some r) ∧ Aside0 (kq ≤ k1) ∧ Aside0 (Kd.S (Kd.slice 3 (Kd.int .i64)) 43 w' w.heap.size (fun _ => True) aR O) ∧ Aside0 (Kd.R k36 36 w' w.heap.size (fun k_ => k_ ≠ ac) (.slice cu D.length bO) D) ∧ Aside0 (w'.heap[ad]? = some (.cells #[(.slice (some af) z.length Z), (.slice aa X.length ab)] 34 (0, 0))) ∧ Aside0 (w'.heap[ac]? = some (.cells #[.int .i64 ((rd_T36 z s).f0), .int .i64 ((rd_T36 z s).f1)] 36 (0, 0))) ∧ Aside0 (Below w.heap.size w w'))
        case atStart => exact ⟨(ar), (0), eqs, H', ⟨Nat.le_refl _⟩, ⟨by (with_reducible repeat (first | apply Kd.S_alloc | apply Kd.S_drewN | apply Kd.S_drew)); exact J.out⟩, ⟨by (with_reducible repeat (first | apply Kd.R_alloc | apply Kd.R_drewN | apply Kd.R_drew)); exact Kd.R_mono bN.out (fun _ hk => hk.2)⟩, ⟨bf I.out⟩, ⟨bf M.out⟩, ⟨bs HB.out⟩⟩
        case round =>
         clear H'
         try clear c1
         try clear c2
         try clear bv
         try clear bw
         try clear p2
         try clear c3
         try clear bz
         try clear bA
         try clear p3
         try clear q3
         try clear cY
         try clear c5
         try clear c6
         try clear c9
         try clear bJ
         try clear ai
         try clear ce
         try clear aj
         try clear cf
         try clear cZ
         try clear cl cm
         try clear co cp
         try clear bD bE
         try clear bG bH
         try clear cn
         try clear ct
         try clear bF
         try clear bI
         try clear aT
         try clear aU
         try clear p2
         try clear av
         try clear aw
         obtain ⟨O, G, rfl, HA, ax, J, Y, I, M, HB⟩ := hrel
         cases gk with
         | zero => exact absurd HA.out (by simp [impl_nearPlaces.l1])
         | succ k2 =>
          have H := HA.out
          clear HA
          simp only [impl_nearPlaces.l1] at H
          by_cases ag : G < (D.length : Int)
          ·rw [if_pos ag] at H
           have cz : decide (G < (D.length : Int)) = true := decide_eq_true ag
           clear ag
           by_cases ay : 0 ≤ G
           ·rw [if_pos ay] at H
            have c0 : decide (0 ≤ G) = true := decide_eq_true ay
            clear ay
            by_cases az : G < (D.length : Int)
            ·rw [if_pos az] at H
             have c8 : decide (G < (D.length : Int)) = true := decide_eq_true az
             clear az
             by_cases aA : 0 ≤ s
             ·rw [if_pos aA] at H
              have da : decide (0 ≤ s) = true := decide_eq_true aA
              clear aA
              by_cases aC : s < (O.length : Int)
              ·rw [if_pos aC] at H
               have db : decide (s < (O.length : Int)) = true := decide_eq_true aC
               clear aC
               replace H := Option.bind_eq_some_iff.mp H
               obtain ⟨aD, bP, H⟩ := H
               try dsimp -simprocs only at H
               have cA := am bP
               clear bP
               by_cases aE : (rd_L9 O s).length < 17592186044416
               ·rw [if_pos aE] at H
                have cB := am aE
                clear aE
                obtain ⟨ak, aZ⟩ : ∃ y_ : List Int, y_ = ((rd_L9 O s) ++ [aD]) := ⟨_, rfl⟩
                replace H : (impl_nearPlaces.l1 k2 (O.set (s : Int).toNat ak) s z (z.length : Int) s D (D.length : Int) (wrap64 (G + 1)) z X) = some r := by first | (rw [aZ]; exact H) | exact H
                have cC := am aZ
                clear aZ
                obtain ⟨bQ, a4⟩ : ∃ y_ : List (List Int), y_ = (O.set (s : Int).toNat ak) := ⟨_, rfl⟩
                replace H : (impl_nearPlaces.l1 k2 bQ s z (z.length : Int) s D (D.length : Int) (wrap64 (G + 1)) z X) = some r := by first | (rw [a4]; exact H) | exact H
                have cD := am a4
                clear a4
                have H' := am H
                clear H
                have a5 : 0 ≤ (G : Int) := oda
                have a6 : G < (D.length : Int) := oda
                obtain ⟨cE, cF, dc, dd⟩ := at_T36 (Kd.R_reads' Y.out).2.2 G a5 a6
                cases cF
                replace a5 := eq_true a5
                replace a6 := eq_true a6
                try go_wp2_with (first | ((with_reducible refine gd 7 rfl ?_); refine bx 7 (cs := #[.int .i64 0, .int .i64 0]) (t := 36) ?_; intro L hg ae hbox hb; replace J := am (Kd.S_below (by (with_reducible repeat (first | apply Kd.S_alloc | apply Kd.S_drewN | apply Kd.S_drew)); exact J.out) hb); replace Y := am (Kd.R_below (Kd.R_elderB (rl Y.out) L (Nat.le_of_eq hg.symm)) hb); have T := am hbox; have cG := gwb HB hg; replace HB := hs HB hb; have cH := nq I hg; have cI := nq' I hg; replace I := bb I hb rfl; have cJ := nq M hg; have cK := nq' M hg; replace M := bb M hb rfl; clear hb hbox hg; have de := cI.out; have df := cH.out; have dg := cK.out; have dh := cJ.out; obtain ⟨di, dj⟩ := bc2 (w := ae) T.out; have dk := blk_frozen T.out))
                have a7 : Aside0 (Kd.S (Kd.slice 3 (Kd.int .i64)) 43 ((ae.setCell ⟨L, 0, none⟩ (.int .i64 ((rd_T36 D G).f0))).setCell ⟨L, 1, none⟩ (.int .i64 ((rd_T36 D G).f1))) w.heap.size (fun _ => True) aR O) := ⟨by (with_reducible repeat (first | apply Kd.S_alloc | apply Kd.S_drewN | apply Kd.S_drew)); exact Kd.S_mono (Kd.S_far (p := ⟨L, 1, none⟩) (Kd.S_far (p := ⟨L, 0, none⟩) (Kd.S_types J.out T.out (by decide)) (fun _ hk => hk.2) (.int .i64 ((rd_T36 D G).f0))) (fun _ hk => hk.2) (.int .i64 ((rd_T36 D G).f1))) (fun _ hk => trivial)⟩
                have a8 : Aside0 (Kd.R k36 36 ((ae.setCell ⟨L, 0, none⟩ (.int .i64 ((rd_T36 D G).f0))).setCell ⟨L, 1, none⟩ (.int .i64 ((rd_T36 D G).f1))) w.heap.size (fun k_ => k_ ≠ ac ∧ k_ ≠ L) (.slice (some cE) D.length bO) D) := ⟨by (with_reducible repeat (first | apply Kd.R_alloc | apply Kd.R_drewN | apply Kd.R_drew)); exact Kd.R_mono (Kd.R_far (p := ⟨L, 1, none⟩) (Kd.R_far (p := ⟨L, 0, none⟩) (Kd.R_mono Y.out (fun k_ hk => (⟨hk, hk.2⟩ : _ ∧ k_ ≠ L))) (fun _ hk => hk.2) (.int .i64 ((rd_T36 D G).f0))) (fun _ hk => hk.2) (.int .i64 ((rd_T36 D G).f1))) (fun _ hk => ⟨hk.1.1, hk.1.2⟩)⟩
                have a9 : Aside0 (((ae.setCell ⟨L, 0, none⟩ (.int .i64 ((rd_T36 D G).f0))).setCell ⟨L, 1, none⟩ (.int .i64 ((rd_T36 D G).f1))).heap[ad]? = some (.cells #[.slice (some af) z.length Z, .slice aa X.length ab] 34 (0, 0))) := ⟨bf I.out⟩
                have ba : Aside0 (((ae.setCell ⟨L, 0, none⟩ (.int .i64 ((rd_T36 D G).f0))).setCell ⟨L, 1, none⟩ (.int .i64 ((rd_T36 D G).f1))).heap[ac]? = some (.cells #[.int .i64 ((rd_T36 z s).f0), .int .i64 ((rd_T36 z s).f1)] 36 (0, 0))) := ⟨bf M.out⟩
                have bc : Aside0 (((ae.setCell ⟨L, 0, none⟩ (.int .i64 ((rd_T36 D G).f0))).setCell ⟨L, 1, none⟩ (.int .i64 ((rd_T36 D G).f1))).heap[L]? = some (.cells #[.int .i64 ((rd_T36 D G).f0), .int .i64 ((rd_T36 D G).f1)] 36 (0, 0))) := ⟨by (with_reducible repeat (first | refine blk_drewN ?_ _ | refine blk_drew ?_ | refine blk_alloc ?_ _)); refine blk_put (cs := #[.int .i64 ((rd_T36 D G).f0), .int .i64 0]) ?_ 1 _ rfl; (with_reducible repeat (first | refine blk_drewN ?_ _ | refine blk_drew ?_ | refine blk_alloc ?_ _)); refine blk_put (cs := #[.int .i64 0, .int .i64 0]) ?_ 0 _ rfl; exact bf T.out⟩
                have be : Aside0 (Below w.heap.size w ((ae.setCell ⟨L, 0, none⟩ (.int .i64 ((rd_T36 D G).f0))).setCell ⟨L, 1, none⟩ (.int .i64 ((rd_T36 D G).f1)))) := ⟨bs HB.out⟩
                (try clear J)
                (try clear Y)
                (try clear I)
                (try clear M)
                (try clear T)
                (try clear HB)
                generalize ((ae.setCell ⟨L, 0, none⟩ (.int .i64 ((rd_T36 D G).f0))).setCell ⟨L, 1, none⟩ (.int .i64 ((rd_T36 D G).f1))) = cL at a7 a8 a9 ba bc be ⊢
                have J := a7
                have Y := a8
                have I := a9
                have M := ba
                have T := bc
                have HB := be
                clear a7 a8 a9 ba bc be
                replace J := am (Kd.S_drew J.out)
                replace Y := rd_ Y
                replace I := bd I
                replace M := bd M
                replace T := bd T
                replace HB := hd HB
                obtain ⟨dl, dm, bR⟩ := Kd.S_slice J.out
                (first | subst bR | (injection bR with al bg an; have bh := al.symm; have bi := an.symm; clear al bg an; subst bh; subst bi))
                have aG : 0 ≤ (s : Int) := oda
                have aH : s < (O.length : Int) := oda
                obtain ⟨cM, aI, aJ, cN, ao, hl335_0, hi335_0⟩ := at_L9 (Kd.S_reads' J.out).2.2 s aG aH
                cases cN
                obtain ⟨dp, hce335, hMe335, bS⟩ := Kd.S_get J.out [] s aG (by first | exact aH | exact oda | (have e_ := (Kd.S_reads' J.out).1; omega))
                obtain ⟨ve335_0, rfl, ge335_0⟩ := hMe335
                have hv335_0 := bS 0 _ rfl
                rw [Nat.add_zero, show ((Kd.slice 3 (Kd.int .i64))).sz = 1 from rfl, Nat.mul_one] at hv335_0
                replace hv335_0 := Option.some.inj (hv335_0.symm.trans ao)
                rw [hv335_0] at ge335_0
                have HL335_0 := am (show Kd.R (Kd.int .i64) 3 _ _ _ _ (rd_L9 O s) from ge335_0)
                clear hv335_0 ge335_0
                have HX335_0 := am ao
                clear bS hce335
                have aK := am hi335_0
                have dq := am hl335_0
                clear hi335_0 hl335_0
                replace aG := eq_true aG
                replace aH := eq_true aH
                refine sta 13 (fun w' => w'.cell? ⟨ad, 0, none⟩ = some (.slice (some af) z.length Z) ∧ w'.cell? ⟨ad, 1, none⟩ = some (.slice aa X.length ab) ∧ w'.cell? ⟨L, 0, none⟩ = some (.int .i64 ((rd_T36 D G).f0)) ∧ w'.cell? ⟨L, 1, none⟩ = some (.int .i64 ((rd_T36 D G).f1)) ∧ w'.cell? (cM.add (s).toNat) = some (.slice aI (rd_L9 O s).length aJ)) [12] ⟨cx I 0, cx I 1, cx T 0, cx T 1, ao⟩ (fun hHeld => ?_); refine with_tabW impl_nearPlaces.tab8 impl_nearPlaces.bits8 (fun HT_ HW_ => ?_)
                generalize cL.drew = dr at J Y I M T HB HL335_0 aK HX335_0 ao hHeld ⊢
                refine pu 0 28 ?_
                refine pu 1 29 ?_
                refine pu 2 30 ?_
                refine pu 3 31 ?_
                refine pu 4 32 ?_
                refine tk 5 33 ?_
                refine tk 6 34 ?_
                refine tk 7 35 ?_
                refine on 8 36 (fun K hK => ?_)
                refine gs Try.func67 #[.agg #[.slice (some af) z.length Z, .slice aa X.length ab], .agg #[.int .i64 ((rd_T36 D G).f0), .int .i64 ((rd_T36 D G).f1)]] ?_
                with_reducible refine (impl_nodePlace.calls k2 _ _ z _ _ X ((rd_T36 D G).f0) ((rd_T36 D G).f1) aD _ ?aV ?aW ?aX ?aY cA.out).mono ?_
                (case aV => exact Kd.C_below aN.out (bs HB.out))
                (case aW => exact br.out)
                (case aX => exact Kd.C_below bt.out (bs HB.out))
                (case aY => exact bu.out)
                rintro e cO ⟨rfl, hb⟩
                have aM := cw hb hHeld.2.2.2.2
                refine ⟨_, rfl, ?_⟩
                replace J := am (Kd.S_below (by (with_reducible repeat (first | apply Kd.S_alloc | apply Kd.S_drewN | apply Kd.S_drew)); exact J.out) hb)
                replace Y := rb Y hb
                replace HL335_0 := am (Kd.R_below (by (with_reducible repeat (first | apply Kd.R_alloc | apply Kd.R_drewN | apply Kd.R_drew)); exact HL335_0.out) hb)
                replace I := bb I hb rfl
                replace M := bb M hb rfl
                replace T := bb T hb rfl
                replace aK := am (Kd.C_below (by repeat (first | (with_reducible exact aK.out) | (with_reducible refine Kd.C_alloc ?_ _) | (with_reducible refine Kd.C_drewN ?_ _) | (with_reducible refine Kd.C_drew ?_) | exact aK.out)) hb)
                replace HX335_0 := am (pw_cell_below hb HX335_0.out)
                replace HB := hs HB hb
                (try clear hb)
                (try clear hb2)
                (try clear hk)
                (try clear hi)
                obtain ⟨ap, dt, bT, bU, cP, du, bV⟩ := Kd.S_form J.out (by have h_ : (s : Int) < ((O.length : Int) : Int) := oda; have dv : 0 ≤ (s : Int) := (oda); omega)
                (first | cases bT | (injection bT with ea_ en_ ec_; (first | subst ea_ | (injection ea_ with ea_; subst ea_)); subst ec_; clear en_))
                have cQ := am bU
                have dw := am bV
                clear bU cP bV
                (first | simp only [add_plain] at ao | skip)
                obtain ⟨oki35, dx, cR, cS, bW, _, _, hH35⟩ := Kd.S_elem J.out [] (s : Int) (oda) (by have h_ : (s : Int) < ((O.length : Int) : Int) := oda; first | exact h_ | (have e_ := (Kd.S_reads' J.out).1; omega) | simpa using h_)
                obtain ⟨ve35_0, rfl, ge35_0⟩ := cS
                have hv35 := bW 0 _ rfl
                have hX35 := HX335_0.out
                (try simp only [add_plain] at hX35)
                (try simp only [Nat.add_zero] at hv35)
                (try rw [show ((Kd.slice 3 (Kd.int .i64))).sz = 1 from rfl, Nat.mul_one] at hv35)
                replace hv35 := Option.some.inj (hv35.symm.trans hX35)
                subst hv35
                clear hX35 bW cR
                have UU35 := am (show Kd.R (Kd.int .i64) 3 _ w.heap.size oki35 (.slice aI (rd_L9 O s).length aJ) (rd_L9 O s) from ge35_0)
                have HH35 := am hH35
                have HN35 := am (Kd.S_reads' J.out).1
                clear hH35 ge35_0
                refine hK.out _ _ ⟨cx I 0, cx I 1, cx T 0, cx T 1, aM⟩ (fun hHeld => ?_)
                clear hK K
                refine nrm 36 ?_
                refine on 9 37 (fun K hK => ?_)
                refine va ?_
                refine hK.out _ _ ⟨cx I 0, cx I 1, cx T 0, cx T 1, ca hHeld.2.2.2.2⟩ (fun hHeld => ?_)
                clear hK K
                refine nrm 37 ?_
                refine on 10 38 (fun K hK => ?_)
                refine Kd.R_append_step (Kd.int .i64) (w0 := w) w.heap.size (by rfl) (.tmp 33) (.tmp 37) 43 3 (.int .i64 0) 8 rfl Try.underlying43 info3 rfl (by decide) (by omega) (.slice aI (rd_L9 O s).length aJ) (rd_L9 O s) aD [.int .i64 aD] (fun k_ => oki35 k_ ∨ ((fun _ => True)) k_ ∧ cO.heap.size ≤ k_) (fun _ => False) rfl rfl ?aP (fun _ hk => hk.elim) ?aF ?aO ?aB ?aS ?aL ?_
                (case aP => exact rfl)
                (case aB => exact (bs HB.out))
                (case aF => exact (fun k_ hk => .inr ⟨trivial, hk⟩))
                (case aO => exact (by (with_reducible repeat (first | apply Kd.R_alloc | apply Kd.R_drewN | apply Kd.R_drew)); exact Kd.R_mono UU35.out (fun _ hk => .inl hk)))
                (case aS => exact (below_size (bs HB.out)))
                (case aL => have := cB.out; omega)
                intro dy dz ho hb hg hat
                (first | have aM := Go.Proofs.YtohmemckdogljaaW.PrintWords.cell_grown hg (hHeld.2.2.2.2) (by first | (rw [add_block]; exact (fun e_ => ((HL335_0.out.1 _ e_.symm).2) rfl)) | (show some (Addr.add _ _).block ≠ _; rw [add_block]; exact (fun e_ => ((HL335_0.out.1 _ e_.symm).2) rfl)) | exact (fun e_ => ((HL335_0.out.1 _ e_.symm).2) rfl)) | have aM := Go.Proofs.YtohmemckdogljaaW.PrintWords.cell_grown hg (cell_unalloc (hHeld.2.2.2.2) (by first | (rw [add_block]; exact Kd.S_lt J.out _ rfl) | (show (Addr.add _ _).block < _; rw [add_block]; exact Kd.S_lt J.out _ rfl) | exact Kd.S_lt J.out _ rfl)) (by first | (rw [add_block]; exact (fun e_ => ((HL335_0.out.1 _ e_.symm).2) rfl)) | (show some (Addr.add _ _).block ≠ _; rw [add_block]; exact (fun e_ => ((HL335_0.out.1 _ e_.symm).2) rfl)) | exact (fun e_ => ((HL335_0.out.1 _ e_.symm).2) rfl)))
                rw [← cC.out] at ho
                replace Y := am (Kd.R_over' (v := (.slice aI (rd_L9 O s).length aJ)) (rl Y.out) (Kd.R_typed HL335_0.out) (by decide) hg)
                replace I := am (blk_grown (g := ad) (o := .cells #[.slice (some af) z.length Z, .slice aa X.length ab] 34 (0, 0)) (bf I.out) hg (Kd.R_ne HL335_0.out I.out (by decide)))
                replace M := am (blk_grown (g := ac) (o := .cells #[.int .i64 ((rd_T36 z s).f0), .int .i64 ((rd_T36 z s).f1)] 36 (0, 0)) (bf M.out) hg (Kd.R_ne HL335_0.out M.out (by decide)))
                replace T := am (blk_grown (g := L) (o := .cells #[.int .i64 ((rd_T36 D G).f0), .int .i64 ((rd_T36 D G).f1)] 36 (0, 0)) (bf T.out) hg (Kd.R_ne HL335_0.out T.out (by decide)))
                replace HB := am hb
                replace HH35 := am (Kd.H_grown (Kd.H_widen (by repeat (first | exact HH35.out | refine Kd.H_alloc ?_ _ | refine Kd.H_drewN ?_ _ | refine Kd.H_drew ?_))) hg (fun k_ e_ => .inl (UU35.out.1 k_ e_)))
                have bX := am ho
                clear J UU35 HL335_0
                clear ho hb hg hat
                have bY : 0 ≤ (s : Int) := oda
                have bZ : (s : Int) < ((O.length : Int) : Int) := oda
                replace bY := eq_true bY
                replace bZ := eq_true bZ
                obtain ⟨b0, b1, b2⟩ := Kd.R_slice bX.out
                (first | subst b2 | (injection b2 with al bg an; have bh := al.symm; have bi := an.symm; clear al bg an; subst bh; subst bi))
                obtain ⟨_, _, hraw37, _, _, b3, _⟩ := Kd.H_raw HH35.out (oda) (by have h_ : (s : Int) < ((O.length : Int) : Int) := oda; first | exact h_ | (have e_ := (HN35.out); omega) | simpa using h_)
                obtain ⟨_, b4⟩ := Kd.H_at HH35.out (oda) (by have h_ : (s : Int) < ((O.length : Int) : Int) := oda; first | exact h_ | (have e_ := (HN35.out); omega) | simpa using h_)
                have b5 := b3 0 _ rfl
                have b6 := b4 0
                (try simp only [Nat.add_zero] at b5 b6)
                (try rw [show ((Kd.slice 3 (Kd.int .i64))).sz = 1 from rfl, Nat.mul_one] at b5)
                (try rw [show ((Kd.slice 3 (Kd.int .i64))).sz = 1 from rfl, Nat.mul_one] at b6)
                have bj := Kd.S_seg0 HH35.out (oda) (by have h_ : (s : Int) < ((O.length : Int) : Int) := oda; first | exact h_ | (have e_ := (HN35.out); omega) | simpa using h_) (seg := [.slice b0 ak.length b1]) (j := 0) (show 1 ≤ 1 from by decide) (x' := ak) (Kd.M_row bX.out) (fun _ hk => hk)
                (try simp only [show ((Kd.slice 3 (Kd.int .i64))).sz = 1 from rfl, Nat.mul_one, Nat.add_zero] at bj)
                clear b3 b4
                have HNB324_go35 := Nq.mk (show ad ≠ ap from by have h_ := Kd.R_ne hraw37 I.out (by decide); intro e_; exact h_ (by rw [e_]; rfl))
                have HNB329_go35 := Nq.mk (show ac ≠ ap from by have h_ := Kd.R_ne hraw37 M.out (by decide); intro e_; exact h_ (by rw [e_]; rfl))
                have HNB334_go35 := Nq.mk (show L ≠ ap from by have h_ := Kd.R_ne hraw37 T.out (by decide); intro e_; exact h_ (by rw [e_]; rfl))
                have HS37 := bj.1
                rw [← cD.out] at HS37
                have cT := am HS37
                obtain ⟨_, hgg37⟩ := Kd.R_typed hraw37 ap rfl
                have GG37_ := am hgg37
                clear bj HS37 hgg37
                refine hK.out _ _ ⟨cx I 0, cx I 1, cx T 0, cx T 1, aM⟩ (fun hHeld => ?_)
                clear hK K
                refine nrm 38 ?_
                refine pu 11 39 ?_
                refine la0 12 (fun K hK => ?_)
                refine sk ?_
                refine hK.out _ _ ?_
                clear hK K
                refine dn ?_
                try go_wp2
                go_roundg k2
                case measure => have := au.out; have := ax.out; omega
                case rel => exact ⟨(bQ), (wrap64 (G + 1)), eqs, H', ⟨by have := au.out; have := ax.out; omega⟩, ⟨by (with_reducible repeat (first | apply Kd.S_alloc | apply Kd.S_drewN | apply Kd.S_drew)); exact cT.out⟩, ⟨by (with_reducible repeat (first | apply Kd.R_alloc | apply Kd.R_drewN | apply Kd.R_drew)); exact Kd.R_mono (Kd.R_far (p := ⟨ap, (s : Int).toNat, none⟩) (Kd.R_types Y.out GG37_.out (by decide)) (fun _ hk => hk.2) (.slice b0 ak.length b1)) (fun _ hk => hk.1.1)⟩, ⟨bf I.out⟩, ⟨bf M.out⟩, ⟨by repeat (first | (with_reducible first | exact HB.out | apply below_alloc | apply pw_below_drewN | apply below_drew1 | refine below_set ?_ cQ.out | refine below_set ?_ b7.out | refine below_set ?_ ci.out | refine below_set ?_ cG.out) | exact HB.out)⟩⟩
               ·rw [if_neg aE] at H
                exact absurd H (by simp)
              ·rw [if_neg aC] at H
               exact absurd H (by simp)
             ·rw [if_neg aA] at H
              exact absurd H (by simp)
            ·rw [if_neg az] at H
             exact absurd H (by simp)
           ·rw [if_neg ay] at H
            exact absurd H (by simp)
          ·rw [if_neg ag] at H
           have cz : decide (G < (D.length : Int)) = false := decide_eq_false ag
           clear ag
           have H' := am H
           clear H
           go_wp2
           go_roundg k2
           case measure => have := au.out; have := ax.out; omega
           case rel => exact ⟨(O), (wrap64 (s + 1)), eqs, H', ⟨by have := au.out; have := ax.out; omega⟩, ⟨by (with_reducible repeat (first | apply Kd.S_alloc | apply Kd.S_drewN | apply Kd.S_drew)); exact J.out⟩, ⟨bf I.out⟩, ⟨bs HB.out⟩⟩
       ·rw [if_neg aj] at H
        exact absurd H (by simp)
      ·rw [if_neg ai] at H
       exact absurd H (by simp)
     ·rw [if_neg c9] at H
      have bJ : decide (s < (z.length : Int)) = false := decide_eq_false c9
      clear c9
      obtain rfl := Option.some.inj H
      go_wp2
      go_ret
      exact ⟨_, eqr, by (with_reducible repeat (first | apply Kd.S_alloc | apply Kd.S_drewN | apply Kd.S_drew)); exact J.out, bs HB.out⟩
  ·rw [if_neg c3] at H
   exact absurd H (by simp)
 ·rw [if_neg c2] at H
  exact absurd H (by simp)

end Go.Proofs.Ytohmemckdogljaa.QFnExactWalkPath
