/- Contracts of the Go functions that this law reaches: each does what its plain Lean function says. No condition. -/
import Derived.Test.YtohmemckdogljaaQFnExactWalkPathx0
import Derived.Test.YtohmemckdogljaaQFnExactWalkPathx8
namespace Go.Proofs.Ytohmemckdogljaa.QFnExactWalkPath
open Go.RowKit Go.Proofs.YtohmemckdogljaaW.PrintWords Go.Proofs.YtohmemckdogljaaW.PrintLast Go.Proofs.YtohmemckdogljaaW.PrintMore Go.Proofs.Ytohmemckdogljaa.Bl
attribute [local go_sem] max2_int min2_int max_two min_two max_three min_three max_four min_four   -- for this text's walks alone
set_option linter.unusedVariables false
set_option linter.unusedSimpArgs false
set_option maxHeartbeats 8000000
set_option maxRecDepth 100000

/-! ### laws_toEdgeS: function 66 -/
def laws_toEdgeS.l0 : Nat → List (S70) → List (S56) → Int → Option ((List (S56)))
 | 0, _, _, _ => none
 | k + 1, z, I, s => if s < (z.length : Int) then (if 0 ≤ s then ((laws_toEdge.f ((rd_T70 z s).f0) ((rd_T70 z s).f1.f0) ((rd_T70 z s).f1.f1) ((rd_T70 z s).f2.f0) ((rd_T70 z s).f2.f1)).bind fun D => (if s < (I.length : Int) then (laws_toEdgeS.l0 k z (I.set (s : Int).toNat (⟨D.1, (⟨D.2.1, D.2.2.1⟩ : S36), (⟨D.2.2.2.1, D.2.2.2.2⟩ : S36)⟩ : S56)) (wrap64 (s + 1))) else (none))) else (none)) else (some I)
def laws_toEdgeS.f (k : Nat) (l0 : List (S70)) : Option ((List (S56))) := if 0 ≤ (l0.length : Int) then (if ((l0.length : Int) : Int).toNat ≤ 7036874417766 then (laws_toEdgeS.l0 k l0 (List.replicate ((l0.length : Int) : Int).toNat z56) 0) else (none)) else (none)
theorem laws_toEdgeS.calls (k : Nat) (A0 : Option Addr) (c0 : Nat) (l0 : List (S70)) (r : List (S56)) (w : World) (au : Kd.C k70 w A0 l0.length l0) (av : l0.length ≤ c0) (h : laws_toEdgeS.f k l0 = some r) :
  Calls Try.prog 66 #[.slice A0 l0.length c0] w fun e w' => ∃ aw : Value, e = .returned (aw) ∧ Kd.R k56 56 w' w.heap.size (fun _ => True) aw r ∧ Below w.heap.size w w' := by
 have hu70 := Try.underlying70
 have hu56 := Try.underlying56
 have aN := am au
 have bc := am av
 clear au av
 have HB := am (Below.refl w.heap.size w)
 have H := h; unfold laws_toEdgeS.f at H
 clear h
 by_cases c2 : 0 ≤ (l0.length : Int)
 ·rw [if_pos c2] at H
  have aO := eq_true c2
  have aP : decide (0 ≤ (l0.length : Int)) = true := decide_eq_true c2
  clear c2
  by_cases O : ((l0.length : Int) : Int).toNat ≤ 7036874417766
  ·rw [if_pos O] at H
   have aQ := eq_true O
   have aR : decide (((l0.length : Int) : Int).toNat ≤ 7036874417766) = true := decide_eq_true O
   clear O
   obtain ⟨ax, ai⟩ : ∃ y_ : List (S56), y_ = (List.replicate ((l0.length : Int) : Int).toNat z56) := ⟨_, rfl⟩
   replace H : (laws_toEdgeS.l0 k l0 ax 0) = some r := by first | (rw [ai]; exact H) | exact H
   have ay := am ai
   clear ai
   have H' := am H
   clear H
   go_enter Try.func66, Try.ntmps66
   go_wp2_with (first | ((with_reducible refine gd 7 rfl ?_); refine Kd.R_make k56 _ 56 rfl (N := 7) rfl 32 _ _ rfl (l0.length : Int) rfl rfl Try.underlying32 (.agg #[(.int .i64 0), (.int .i64 0), (.int .i64 0), (.int .i64 0), (.int .i64 0)]) 40 info56 rfl (by decide) (by omega) z56 (ok := fun _ => True) (okp := fun _ => True) (k56_mkM _ _ _ z56 ) (fun _ hk => hk) trivial (oda) (Nat.le_trans (Nat.mul_le_mul_right _ (oda : (l0.length : Int).toNat ≤ 7036874417766)) (by omega)) (Below.refl _ _) (Nat.le_refl _) ?_; intro aS w4 ag hb hg_ hnew_; clear hg_ hnew_; (first | rw [← ay.out] at ag | (simp only [Int.reduceToNat] at ag; rw [← ay.out] at ag)); have aT := am (Kd.R_lower ag (below_size (bs HB.out))); replace HB := hs HB hb; clear hb ag))
   go_loopg [4] k (fun kq v4 w' => ∃ (I : List (S56)) (s : Int), v4 = .int .i64 s ∧ Aside0 (laws_toEdgeS.l0 kq l0 I s = some r) ∧ Aside0 (kq ≤ k) ∧ Aside0 (Kd.R k56 56 w' w.heap.size (fun _ => True) aS I) ∧ Aside0 (Below w.heap.size w w'))
   case atStart => exact ⟨(ax), (0), eqs, H', ⟨Nat.le_refl _⟩, ⟨rl aT.out⟩, ⟨bs HB.out⟩⟩
   case round =>
    clear H'
    try clear c2
    try clear aO
    try clear aP
    try clear p2
    try clear O
    try clear aQ
    try clear aR
    obtain ⟨I, s, rfl, HA, az, L, HB⟩ := hrel
    cases gk with
    | zero => exact absurd HA.out (by simp [laws_toEdgeS.l0])
    | succ k1 =>
     have H := HA.out
     clear HA
     simp only [laws_toEdgeS.l0] at H
     by_cases T : s < (l0.length : Int)
     ·rw [if_pos T] at H
      have aU : decide (s < (l0.length : Int)) = true := decide_eq_true T
      clear T
      by_cases c7 : 0 ≤ s
      ·rw [if_pos c7] at H
       have be : decide (0 ≤ s) = true := decide_eq_true c7
       clear c7
       replace H := Option.bind_eq_some_iff.mp H
       obtain ⟨⟨X, Y, Z, aa, ab⟩, aA, H⟩ := H
       try dsimp -simprocs only at H
       have A8 := am aA
       clear aA
       by_cases c9 : s < (I.length : Int)
       ·rw [if_pos c9] at H
        have bg : decide (s < (I.length : Int)) = true := decide_eq_true c9
        clear c9
        obtain ⟨aj, ak⟩ : ∃ y_ : List (S56), y_ = (I.set (s : Int).toNat (⟨X, (⟨Y, Z⟩ : S36), (⟨aa, ab⟩ : S36)⟩ : S56)) := ⟨_, rfl⟩
        replace H : (laws_toEdgeS.l0 k1 l0 aj (wrap64 (s + 1))) = some r := by first | (rw [ak]; exact H) | exact H
        have aV := am ak
        clear ak
        have H' := am H
        clear H
        have al : 0 ≤ (s : Int) := oda
        have an : s < (l0.length : Int) := oda
        obtain ⟨bh, aW, aB, aC, aD, aE, aF⟩ := at_T70 aN.out s al an
        cases aW
        replace aB := cb HB aB
        replace aC := cb HB aC
        replace aD := cb HB aD
        replace aE := cb HB aE
        replace aF := cb HB aF
        replace al := eq_true al
        replace an := eq_true an
        go_wp2_with (first | ((with_reducible refine gc 98 rfl ?_); refine gl 20 Try.func98 #[.agg #[.int .i64 ((rd_T70 l0 s).f0), .int .i64 ((rd_T70 l0 s).f1.f0), .int .i64 ((rd_T70 l0 s).f1.f1), .int .i64 ((rd_T70 l0 s).f2.f0), .int .i64 ((rd_T70 l0 s).f2.f1)]] ?_; (with_reducible refine (laws_toEdge.calls ((rd_T70 l0 s).f0) ((rd_T70 l0 s).f1.f0) ((rd_T70 l0 s).f1.f1) ((rd_T70 l0 s).f2.f0) ((rd_T70 l0 s).f2.f1) X Y Z aa ab _ A8.out).mono ?_); rintro e J ⟨rfl, hb⟩; refine ⟨_, rfl, ?_⟩; replace L := rb L hb; replace HB := hs HB hb; (try clear hb); have ao : 0 ≤ (s : Int) := oda; have ap : (s : Int) < ((I.length : Int) : Int) := oda; obtain ⟨D, aG, aH, aI, aX, bi, aJ⟩ := Kd.R_form L.out (by omega); (first | cases aH | (injection aH with ea_ en_ ec_; (first | subst ea_ | (injection ea_ with ea_; subst ea_)); subst ec_; clear en_)); have ah := am aI; have bj := am aJ; clear aI aX aJ; obtain ⟨bk, aY, aK, ac, ae⟩ := Kd.R_elem L.out z56 (s : Int) ao ap; obtain rfl := k56_openM aK; have bl : J.cell? ⟨D, (s : Int).toNat * 5, none⟩ = some (.int .i64 ((rd_T56 I s).f0)) := ac 0 _ rfl; have bm : J.cell? ⟨D, (s : Int).toNat * 5 + 1, none⟩ = some (.int .i64 ((rd_T56 I s).f1.f0)) := ac 1 _ rfl; have bn : J.cell? ⟨D, (s : Int).toNat * 5 + 2, none⟩ = some (.int .i64 ((rd_T56 I s).f1.f1)) := ac 2 _ rfl; have bo : J.cell? ⟨D, (s : Int).toNat * 5 + 3, none⟩ = some (.int .i64 ((rd_T56 I s).f2.f0)) := ac 3 _ rfl; have br : J.cell? ⟨D, (s : Int).toNat * 5 + 4, none⟩ = some (.int .i64 ((rd_T56 I s).f2.f1)) := ac 4 _ rfl; have bt : J.frozen? ⟨D, (s : Int).toNat * 5, none⟩ = false := ae 0; have bu : J.frozen? ⟨D, (s : Int).toNat * 5 + 1, none⟩ = false := ae 1; have bv : J.frozen? ⟨D, (s : Int).toNat * 5 + 2, none⟩ = false := ae 2; have bw : J.frozen? ⟨D, (s : Int).toNat * 5 + 3, none⟩ = false := ae 3; have bz : J.frozen? ⟨D, (s : Int).toNat * 5 + 4, none⟩ = false := ae 4; clear aY ac ae aK; replace ao := eq_true ao; replace ap := eq_true ap; have HX12 := am (show Kd.R k56 56 J w.heap.size (fun _ => True) (.slice (some ⟨D, 0, none⟩) I.length aG) I from (rl L.out)); obtain ⟨bA, aL, aM, M, af⟩ := Kd.R_elem HX12.out z56 (s : Int) (oda) (by have h_ : (s : Int) < ((I.length : Int) : Int) := oda; first | exact h_ | (have e_ := (Kd.R_reads' L.out).1; omega) | simpa using h_); obtain rfl := k56_openM aM; have aq := Kd.R_seg HX12.out (s : Int) (oda) (by have h_ : (s : Int) < ((I.length : Int) : Int) := oda; first | exact h_ | (have e_ := (Kd.R_reads' L.out).1; omega) | simpa using h_) (seg := [.int .i64 X, .int .i64 Y, .int .i64 Z, .int .i64 aa, .int .i64 ab]) (j := 0) aL M (show 5 ≤ 5 from by decide) (x' := (⟨X, (⟨Y, Z⟩ : S36), (⟨aa, ab⟩ : S36)⟩ : S56)) (k56_mkM _ _ _ (⟨X, (⟨Y, Z⟩ : S36), (⟨aa, ab⟩ : S36)⟩ : S56) ) (fun _ hk => hk); have aZ := M 0 _ rfl; (try simp only [show (k56).sz = 5 from rfl, Nat.mul_one, Nat.add_zero] at aZ); have a2 := af 0; (try simp only [show (k56).sz = 5 from rfl, Nat.mul_one, Nat.add_zero] at a2); have a3 := M 1 _ rfl; (try simp only [show (k56).sz = 5 from rfl, Nat.mul_one, Nat.add_zero] at a3); have a4 := af 1; (try simp only [show (k56).sz = 5 from rfl, Nat.mul_one, Nat.add_zero] at a4); have a5 := M 2 _ rfl; (try simp only [show (k56).sz = 5 from rfl, Nat.mul_one, Nat.add_zero] at a5); have a6 := af 2; (try simp only [show (k56).sz = 5 from rfl, Nat.mul_one, Nat.add_zero] at a6); have a7 := M 3 _ rfl; (try simp only [show (k56).sz = 5 from rfl, Nat.mul_one, Nat.add_zero] at a7); have a8 := af 3; (try simp only [show (k56).sz = 5 from rfl, Nat.mul_one, Nat.add_zero] at a8); have a9 := M 4 _ rfl; (try simp only [show (k56).sz = 5 from rfl, Nat.mul_one, Nat.add_zero] at a9); have ba := af 4; (try simp only [show (k56).sz = 5 from rfl, Nat.mul_one, Nat.add_zero] at ba); clear aL M af aM) | ((with_reducible refine gate_store (t := 56) (p := 21) rfl ?_); refine store_event (t := 56) (p := 21) (v := ?vo_w13) (w1 := (((((J.setCell ⟨D, (s : Int).toNat * 5, none⟩ (.int .i64 X)).setCell ⟨D, (s : Int).toNat * 5 + 1, none⟩ (.int .i64 Y)).setCell ⟨D, (s : Int).toNat * 5 + 2, none⟩ (.int .i64 Z)).setCell ⟨D, (s : Int).toNat * 5 + 3, none⟩ (.int .i64 aa)).setCell ⟨D, (s : Int).toNat * 5 + 4, none⟩ (.int .i64 ab))) ?hg ?ho ?hn ?hr ?_; (case ho => rfl); (case hg => rfl); (case hn => rfl); (case hr => first | (go_simp; done) | (go_simp; rfl)); intro ar hw; have hg : J.grownBy ar (some D) := (by rw [hw]; exact aq.2); have hp_ : Kd.R k56 56 ar w.heap.size (fun _ => True) (.slice (some ⟨D, 0, none⟩) I.length aG) aj := (by rw [hw, aV.out]; exact aq.1); clear aq; replace L := am hp_; replace HB := am ((by rw [hw]; exact below_set (below_set (below_set (below_set (below_set (HB.out) ah.out) ah.out) ah.out) ah.out) ah.out : Below w.heap.size w ar)); clear hg hw hp_))
        go_roundg k1
        case measure => have := az.out; omega
        case rel => exact ⟨(aj), (wrap64 (s + 1)), eqs, H', ⟨by have := az.out; omega⟩, ⟨rl L.out⟩, ⟨bs HB.out⟩⟩
       ·rw [if_neg c9] at H
        exact absurd H (by simp)
      ·rw [if_neg c7] at H
       exact absurd H (by simp)
     ·rw [if_neg T] at H
      have aU : decide (s < (l0.length : Int)) = false := decide_eq_false T
      clear T
      obtain rfl := Option.some.inj H
      go_wp2
      go_ret
      exact ⟨_, eqr, by (with_reducible repeat (first | apply Kd.R_alloc | apply Kd.R_drewN | apply Kd.R_drew)); exact L.out, bs HB.out⟩
  ·rw [if_neg O] at H
   exact absurd H (by simp)
 ·rw [if_neg c2] at H
  exact absurd H (by simp)

/-! ### laws_toGraph: function 18 -/
def laws_toGraph.f (k : Nat) (s : List (S27)) (z : List (S70)) : Option ((List (S36)) × (List (S56))) := (laws_toNodeS.f k s).bind fun D => ((laws_toEdgeS.f k z).bind fun I => (some (D, I)))
theorem laws_toGraph.calls (k : Nat) (O : Option Addr) (T : Nat) (I : List (S27)) (X : Option Addr) (Y : Nat) (J : List (S70)) (r1 : List (S36)) (r2 : List (S56)) (w : World) (aj : Kd.C k27 w O I.length I) (ak : I.length ≤ T) (al : Kd.C k70 w X J.length J) (an : J.length ≤ Y) (h : laws_toGraph.f k I J = some (r1, r2)) :
  Calls Try.prog 18 #[.agg #[.slice O I.length T, .slice X J.length Y]] w fun e w' => ∃ ao ap : Value, e = .returned (.agg #[ao, ap]) ∧ Kd.R k36 36 w' w.heap.size (fun _ => True) ao r1 ∧ Kd.R k56 56 w' w.heap.size (fun _ => True) ap r2 ∧ Below w.heap.size w w' := by
 have hu25 := Try.underlying25
 have hu34 := Try.underlying34
 have ay := am aj
 have az := am ak
 clear aj ak
 have aA := am al
 have aB := am an
 clear al an
 have HB := am (Below.refl w.heap.size w)
 have H := h; unfold laws_toGraph.f at H
 clear h
 replace H := Option.bind_eq_some_iff.mp H
 obtain ⟨Z, aq, H⟩ := H
 try dsimp -simprocs only at H
 have A2 := am aq
 clear aq
 replace H := Option.bind_eq_some_iff.mp H
 obtain ⟨L, ar, H⟩ := H
 try dsimp -simprocs only at H
 have A3 := am ar
 clear ar
 simp only [Option.some.injEq, Prod.mk.injEq] at H
 obtain ⟨rfl, rfl⟩ := H
 go_enter Try.func18, Try.ntmps18
 go_wp2_with (first | ((with_reducible refine gd 1 rfl ?_); refine bx 1 (cs := #[.slice O I.length T, .slice X J.length Y]) (t := 25) ?_; intro aC hg w4 hbox hb; have s := am hbox; have aL := gwb HB hg; replace HB := hs HB hb; clear hb hbox hg) | ((with_reducible refine gd 2 rfl ?_); refine bx 2 (cs := #[.slice none 0 0, .slice none 0 0]) (t := 34) ?_; intro M hg w5 hbox hb; have z := am hbox; have aM := gwb HB hg; replace HB := hs HB hb; have aD := nq s hg; have aE := nq' s hg; replace s := bb s hb rfl; clear hb hbox hg) | ((with_reducible refine gd 3 rfl ?_); refine bx 3 (cs := #[.slice none 0 0, .slice none 0 0]) (t := 34) ?_; intro au hg w6 hbox hb; have D := am hbox; have aN := gwb HB hg; replace HB := hs HB hb; have aF := nq s hg; have aG := nq' s hg; replace s := bb s hb rfl; have aH := nq z hg; have aI := nq' z hg; replace z := bb z hb rfl; clear hb hbox hg; have aO := aD.out; have aP := aE.out; have aQ := aF.out; have aR := aG.out; obtain ⟨aS, aT⟩ := bc2 (w := w6) s.out; have aU := blk_frozen s.out) | ((with_reducible refine gc 65 rfl ?_); refine gl 6 Try.func65 #[.slice O I.length T] ?_; (with_reducible refine (laws_toNodeS.calls k _ _ I Z _ ?ah ?ai A2.out).mono ?_); (case ah => exact Kd.C_below ay.out (bs HB.out)); (case ai => exact az.out); rintro e av ⟨aV, rfl, aa, hb⟩; refine ⟨_, rfl, ?_⟩; have ae := am (Kd.R_lower aa (below_size (bs HB.out))); replace s := bb s hb rfl; replace z := bb z hb rfl; replace D := bb D hb rfl; replace HB := hs HB hb; (try clear aa hb); obtain ⟨af, ag, aJ⟩ := Kd.R_slice ae.out; subst aJ; have aW := aI.out; have aX := aH.out; obtain ⟨aY, aZ⟩ := bc2 (w := av) D.out; have a2 := blk_frozen D.out; obtain ⟨a3, a4⟩ := bc2 (w := av) s.out; have a5 := blk_frozen s.out) | ((with_reducible refine gc 66 rfl ?_); refine gl 10 Try.func66 #[.slice X J.length Y] ?_; (with_reducible refine (laws_toEdgeS.calls k _ _ J L _ ?ah ?ai A3.out).mono ?_); (case ah => exact Kd.C_below aA.out (bs HB.out)); (case ai => exact aB.out); rintro e aw ⟨a6, rfl, aa, hb⟩; refine ⟨_, rfl, ?_⟩; replace ae := am (Kd.R_below (rt ae.out D.out (by decide)) hb); have ax := am (Kd.R_lower aa (below_size (bs HB.out))); replace s := am (blk_below (g := aC) (o := .cells #[.slice O I.length T, .slice X J.length Y] 25 (0, 0)) (bf s.out) hb); replace z := am (blk_below (g := M) (o := .cells #[.slice none 0 0, .slice none 0 0] 34 (0, 0)) (bf z.out) hb); replace D := bq #[.slice af Z.length ag, .slice none 0 0] D hb; replace HB := hs HB hb; (try clear hb); (try clear hb2); (try clear hk); (try clear hi); (try clear aa); obtain ⟨ab, ac, aK⟩ := Kd.R_slice ax.out; subst aK; obtain ⟨a7, a8⟩ := bc2 (w := aw) D.out; have a9 := blk_frozen D.out; obtain ⟨ba, bc⟩ := bc2 (w := aw) z.out; have be := blk_frozen z.out))
 refine bodyPost_ret (results_cell_row rfl _ _ M 34 #[.slice af Z.length ag, .slice ab L.length ac] (0, 0) _ rfl (bp z.out rfl) Try.underlying34 rfl (by kernel_rfl)) rfl ?_
 exact ⟨_, _, eqr, by (with_reducible repeat (first | apply Kd.R_alloc | apply Kd.R_drewN | apply Kd.R_drew)); exact Kd.R_mono (Kd.R_far (p := ⟨M, 1, none⟩) (Kd.R_far (p := ⟨M, 0, none⟩) (Kd.R_far (p := ⟨au, 1, none⟩) (Kd.R_types (Kd.R_types ae.out D.out (by decide)) z.out (by decide)) (fun _ hk => hk.1.2) (.slice ab L.length ac)) (fun _ hk => hk.2) (.slice af Z.length ag)) (fun _ hk => hk.2) (.slice ab L.length ac)) (fun _ hk => trivial), by (with_reducible repeat (first | apply Kd.R_alloc | apply Kd.R_drewN | apply Kd.R_drew)); exact Kd.R_mono (Kd.R_far (p := ⟨M, 1, none⟩) (Kd.R_far (p := ⟨M, 0, none⟩) (Kd.R_far (p := ⟨au, 1, none⟩) (Kd.R_types (Kd.R_types ax.out D.out (by decide)) z.out (by decide)) (fun _ hk => hk.1.2) (.slice ab L.length ac)) (fun _ hk => hk.2) (.slice af Z.length ag)) (fun _ hk => hk.2) (.slice ab L.length ac)) (fun _ hk => trivial), bs HB.out⟩

/-! ### impl_LabelOk: function 46 -/
def impl_LabelOk.f (s : Int) : Option (Bool) := if 0 ≤ s then (some (decide (s ≤ 7))) else (some false)
theorem impl_LabelOk.calls (s : Int) (r : Bool) (w : World) (h : impl_LabelOk.f s = some r) :
  Calls Try.prog 46 #[.int .i64 s] w fun e w' => e = .returned (.bool r) ∧ Drawn0 w w' := by
 have H := h; unfold impl_LabelOk.f at H
 clear h
 by_cases c2 : 0 ≤ s
 ·rw [if_pos c2] at H
  have z : decide (0 ≤ s) = true := decide_eq_true c2
  clear c2
  obtain rfl := Option.some.inj H
  go_enter Try.func46, Try.ntmps46
  go_wp2
  go_ret
  exact ⟨eqs, drs⟩
 ·rw [if_neg c2] at H
  have z : decide (0 ≤ s) = false := decide_eq_false c2
  clear c2
  obtain rfl := Option.some.inj H
  go_enter Try.func46, Try.ntmps46
  go_wp2
  go_ret
  exact ⟨eqs, drs⟩

/-! ### impl_letters_under: function 95 -/
def impl_letters_under.f (s : Int) (z : Int) : Option (Bool) := some ((Go.bits .andNot .u8 s z) == 0)
theorem impl_letters_under.calls (s : Int) (z : Int) (r : Bool) (w : World) (h : impl_letters_under.f s z = some r) :
  Calls Try.prog 95 #[.int .u8 s, .int .u8 z] w fun e w' => e = .returned (.bool r) ∧ Drawn0 w w' := by
 have H := h; unfold impl_letters_under.f at H
 clear h
 obtain rfl := Option.some.inj H
 go_enter Try.func95, Try.ntmps95
 go_wp2
 go_ret
 exact ⟨eqs, drs⟩

/-! ### impl_LabelUnder: function 47 -/
def impl_LabelUnder.f (s : Int) (z : Int) : Option (Bool) := (impl_LabelOk.f s).bind fun D => (if D = true then ((impl_LabelOk.f z).bind fun I => (if I = true then ((impl_letters_under.f ((s) % 256) ((z) % 256)).bind fun J => (some J)) else (some false))) else (some false))
theorem impl_LabelUnder.calls (s : Int) (z : Int) (r : Bool) (w : World) (h : impl_LabelUnder.f s z = some r) :
  Calls Try.prog 47 #[.int .i64 s, .int .i64 z] w fun e w' => e = .returned (.bool r) ∧ Drawn0 w w' := by
 have H := h; unfold impl_LabelUnder.f at H
 clear h
 replace H := Option.bind_eq_some_iff.mp H
 obtain ⟨aa, T, H⟩ := H
 try dsimp -simprocs only at H
 have M := am T
 clear T
 by_cases J : aa = true
 ·subst J
  replace H : ((impl_LabelOk.f z).bind fun O => (if O = true then ((impl_letters_under.f ((s) % 256) ((z) % 256)).bind fun D => (some D)) else (some false))) = some r := by rw [if_pos rfl] at H; exact H
  replace H := Option.bind_eq_some_iff.mp H
  obtain ⟨O, X, H⟩ := H
  try dsimp -simprocs only at H
  have Y := am X
  clear X
  by_cases L : O = true
  ·subst L
   replace H : ((impl_letters_under.f ((s) % 256) ((z) % 256)).bind fun D => (some D)) = some r := by rw [if_pos rfl] at H; exact H
   replace H := Option.bind_eq_some_iff.mp H
   obtain ⟨D, Z, H⟩ := H
   try dsimp -simprocs only at H
   have A7 := am Z
   clear Z
   obtain rfl := Option.some.inj H
   go_enter Try.func47, Try.ntmps47
   go_wp2_with (first | ((with_reducible refine gc 46 rfl ?_); refine gl 6 Try.func46 #[.int .i64 s] ?_; (with_reducible refine (impl_LabelOk.calls s true _ M.out).mono ?_); rintro e w' ⟨rfl, ⟨nd, rfl⟩⟩; refine ⟨_, rfl, ?_⟩) | (go_at_call 46; (with_reducible refine (impl_LabelOk.calls z true _ Y.out).mono ?_); rintro e w' ⟨rfl, ⟨nd, rfl⟩⟩) | (go_at_call 95; (with_reducible refine (impl_letters_under.calls ((s) % 256) ((z) % 256) D _ A7.out).mono ?_); rintro e w' ⟨rfl, ⟨nd, rfl⟩⟩))
   go_ret
   exact ⟨eqs, drs⟩
  ·replace L := Bool.eq_false_iff.mpr L
   subst L
   have H1 : (some false) = some r := by rw [if_neg (show ¬ (false = true) by decide)] at H; exact H
   clear H
   have H := H1
   clear H1
   obtain rfl := Option.some.inj H
   go_enter Try.func47, Try.ntmps47
   go_wp2_with (first | ((with_reducible refine gc 46 rfl ?_); refine gl 6 Try.func46 #[.int .i64 s] ?_; (with_reducible refine (impl_LabelOk.calls s true _ M.out).mono ?_); rintro e w' ⟨rfl, ⟨nd, rfl⟩⟩; refine ⟨_, rfl, ?_⟩) | (go_at_call 46; (with_reducible refine (impl_LabelOk.calls z false _ Y.out).mono ?_); rintro e w' ⟨rfl, ⟨nd, rfl⟩⟩))
   go_ret
   exact ⟨eqs, drs⟩
 ·replace J := Bool.eq_false_iff.mpr J
  subst J
  have H1 : (some false) = some r := by rw [if_neg (show ¬ (false = true) by decide)] at H; exact H
  clear H
  have H := H1
  clear H1
  obtain rfl := Option.some.inj H
  go_enter Try.func47, Try.ntmps47
  go_wp2_with (first | ((with_reducible refine gc 46 rfl ?_); refine gl 6 Try.func46 #[.int .i64 s] ?_; (with_reducible refine (impl_LabelOk.calls s false _ M.out).mono ?_); rintro e w' ⟨rfl, ⟨nd, rfl⟩⟩; refine ⟨_, rfl, ?_⟩))
  go_ret
  exact ⟨eqs, drs⟩

/-! ### impl_NodeOk: function 92 -/
def impl_NodeOk.f (z : Int) (s : Int) : Option (Bool) := (impl_LabelOk.f z).bind fun D => (if D = true then (if 0 ≤ s then (some (decide (s ≤ 40))) else (some false)) else (some false))
theorem impl_NodeOk.calls (s : Int) (z : Int) (r : Bool) (w : World) (h : impl_NodeOk.f s z = some r) :
  Calls Try.prog 92 #[.agg #[.int .i64 s, .int .i64 z]] w fun e w' => e = .returned (.bool r) ∧ Below w.heap.size w w' := by
 have hu36 := Try.underlying36
 have HB := am (Below.refl w.heap.size w)
 have H := h; unfold impl_NodeOk.f at H
 clear h
 replace H := Option.bind_eq_some_iff.mp H
 obtain ⟨Y, O, H⟩ := H
 try dsimp -simprocs only at H
 have M := am O
 clear O
 by_cases L : Y = true
 ·subst L
  replace H : (if 0 ≤ z then (some (decide (z ≤ 40))) else (some false)) = some r := by rw [if_pos rfl] at H; exact H
  by_cases J : 0 ≤ z
  ·rw [if_pos J] at H
   have Z : decide (0 ≤ z) = true := decide_eq_true J
   clear J
   obtain rfl := Option.some.inj H
   go_enter Try.func92, Try.ntmps92
   go_wp2_with (first | ((with_reducible refine gd 1 rfl ?_); refine bx 1 (cs := #[.int .i64 s, .int .i64 z]) (t := 36) ?_; intro T hg w5 hbox hb; have I := am hbox; have X := gwb HB hg; replace HB := hs HB hb; clear hb hbox hg; obtain ⟨aa, ab⟩ := bc2 (w := w5) I.out; have ac := blk_frozen I.out) | ((with_reducible refine gc 46 rfl ?_); refine gl 5 Try.func46 #[.int .i64 s] ?_; (with_reducible refine (impl_LabelOk.calls s true _ M.out).mono ?_); rintro e w' ⟨rfl, ⟨nd, rfl⟩⟩; refine ⟨_, rfl, ?_⟩))
   go_ret
   exact ⟨eqr, bs HB.out⟩
  ·rw [if_neg J] at H
   have Z : decide (0 ≤ z) = false := decide_eq_false J
   clear J
   obtain rfl := Option.some.inj H
   go_enter Try.func92, Try.ntmps92
   go_wp2_with (first | ((with_reducible refine gd 1 rfl ?_); refine bx 1 (cs := #[.int .i64 s, .int .i64 z]) (t := 36) ?_; intro T hg w7 hbox hb; have I := am hbox; have X := gwb HB hg; replace HB := hs HB hb; clear hb hbox hg; obtain ⟨ae, af⟩ := bc2 (w := w7) I.out; have ag := blk_frozen I.out) | ((with_reducible refine gc 46 rfl ?_); refine gl 5 Try.func46 #[.int .i64 s] ?_; (with_reducible refine (impl_LabelOk.calls s true _ M.out).mono ?_); rintro e w' ⟨rfl, ⟨nd, rfl⟩⟩; refine ⟨_, rfl, ?_⟩))
   go_ret
   exact ⟨eqr, bs HB.out⟩
 ·replace L := Bool.eq_false_iff.mpr L
  subst L
  have H1 : (some false) = some r := by rw [if_neg (show ¬ (false = true) by decide)] at H; exact H
  clear H
  have H := H1
  clear H1
  obtain rfl := Option.some.inj H
  go_enter Try.func92, Try.ntmps92
  go_wp2_with (first | ((with_reducible refine gd 1 rfl ?_); refine bx 1 (cs := #[.int .i64 s, .int .i64 z]) (t := 36) ?_; intro T hg w9 hbox hb; have I := am hbox; have X := gwb HB hg; replace HB := hs HB hb; clear hb hbox hg; obtain ⟨ah, ai⟩ := bc2 (w := w9) I.out; have aj := blk_frozen I.out) | ((with_reducible refine gc 46 rfl ?_); refine gl 5 Try.func46 #[.int .i64 s] ?_; (with_reducible refine (impl_LabelOk.calls s false _ M.out).mono ?_); rintro e w' ⟨rfl, ⟨nd, rfl⟩⟩; refine ⟨_, rfl, ?_⟩))
  go_ret
  exact ⟨eqr, bs HB.out⟩

/-! ### impl_NodeCode: function 116 -/
def impl_NodeCode.f (s : Int) (z : Int) : Option (Int) := (impl_NodeOk.f s z).bind fun D => (if D = true then (some (wrap64 ((wrap64 (64 * s)) + z))) else (some (-1)))
theorem impl_NodeCode.calls (D : Int) (I : Int) (r : Int) (w : World) (h : impl_NodeCode.f D I = some r) :
  Calls Try.prog 116 #[.agg #[.int .i64 D, .int .i64 I]] w fun e w' => e = .returned (.int .i64 r) ∧ Below w.heap.size w w' := by
 have hu36 := Try.underlying36
 have HB := am (Below.refl w.heap.size w)
 have H := h; unfold impl_NodeCode.f at H
 clear h
 replace H := Option.bind_eq_some_iff.mp H
 obtain ⟨O, L, H⟩ := H
 try dsimp -simprocs only at H
 have M := am L
 clear L
 by_cases J : O = true
 ·subst J
  replace H : (some (wrap64 ((wrap64 (64 * D)) + I))) = some r := by rw [if_pos rfl] at H; exact H
  obtain rfl := Option.some.inj H
  go_enter Try.func116, Try.ntmps116
  go_wp2_with (first | ((with_reducible refine gd 1 rfl ?_); refine bx 1 (cs := #[.int .i64 D, .int .i64 I]) (t := 36) ?_; intro T hg X hbox hb; have s := am hbox; have Y := gwb HB hg; replace HB := hs HB hb; clear hb hbox hg; obtain ⟨aa, ab⟩ := bc2 (w := X) s.out; have ac := blk_frozen s.out) | ((with_reducible refine gc 92 rfl ?_); refine gl 4 Try.func92 #[.agg #[.int .i64 D, .int .i64 I]] ?_; (with_reducible refine (impl_NodeOk.calls D I true _ M.out).mono ?_); rintro e Z ⟨rfl, hb⟩; refine ⟨_, rfl, ?_⟩; replace s := bb s hb rfl; replace HB := hs HB hb; (try clear hb); obtain ⟨ae, af⟩ := bc2 (w := Z) s.out; have ag := blk_frozen s.out))
  go_ret
  exact ⟨eqr, bs HB.out⟩
 ·replace J := Bool.eq_false_iff.mpr J
  subst J
  have H1 : (some (-1)) = some r := by rw [if_neg (show ¬ (false = true) by decide)] at H; exact H
  clear H
  have H := H1
  clear H1
  obtain rfl := Option.some.inj H
  go_enter Try.func116, Try.ntmps116
  go_wp2_with (first | ((with_reducible refine gd 1 rfl ?_); refine bx 1 (cs := #[.int .i64 D, .int .i64 I]) (t := 36) ?_; intro T hg w8 hbox hb; have s := am hbox; have Y := gwb HB hg; replace HB := hs HB hb; clear hb hbox hg; obtain ⟨ah, ai⟩ := bc2 (w := w8) s.out; have aj := blk_frozen s.out) | ((with_reducible refine gc 92 rfl ?_); refine gl 4 Try.func92 #[.agg #[.int .i64 D, .int .i64 I]] ?_; (with_reducible refine (impl_NodeOk.calls D I false _ M.out).mono ?_); rintro e ak ⟨rfl, hb⟩; refine ⟨_, rfl, ?_⟩; replace s := bb s hb rfl; replace HB := hs HB hb; (try clear hb)))
  go_ret
  exact ⟨eqr, bs HB.out⟩

/-! ### impl_EdgeOk: function 93 -/
theorem iIs (a : Int) : impl_LabelOk.f a = some (isL a) := by
  unfold impl_LabelOk.f isL
  by_cases h : 0 ≤ a
  · rw [if_pos h]; simp [h]
  · rw [if_neg h]; simp [h]
theorem iU8 : ∀ a b : Fin 8, impl_LabelUnder.f (a.val : Int) (b.val : Int) = some (U a.val b.val) := by decide +kernel
theorem iU (a b : Int) : impl_LabelUnder.f a b = some (U a b) := by
  by_cases ha : isL a = true
  · by_cases hb : isL b = true
    · obtain ⟨x, rfl⟩ := fin8 ha
      obtain ⟨y, rfl⟩ := fin8 hb
      exact iU8 x y
    · simp [impl_LabelUnder.f, iIs, U, ha, hb]
  · simp [impl_LabelUnder.f, iIs, U, ha]
theorem iN (a b : Int) : impl_NodeOk.f a b = some (nOk a b) := by
  unfold impl_NodeOk.f
  rw [iIs]
  cases h : isL a
  · simp [nOk, h]
  · by_cases hb : 0 ≤ b
    · simp [nOk, h, hb]
    · simp [nOk, h, hb]
theorem iC (a b : Int) : impl_NodeCode.f a b = some (Cd a b) := by
  unfold impl_NodeCode.f Cd
  rw [iN]
  cases h : nOk a b
  · simp
  · have h' := nOk_iff.1 h
    simp only [Option.bind_some, if_true, w64 (x := 64 * a) (by omega), w64 (x := 64 * a + b) (by omega)]
def impl_EdgeOk.f (s : Int) (z : Int) (D : Int) (I : Int) (J : Int) : Option (Bool) := some (EOk s z D I J)
set_option maxHeartbeats 8000000 in
set_option maxRecDepth 100000 in
theorem impl_EdgeOk.calls (I : Int) (s : Int) (J : Int) (z : Int) (L : Int) (r : Bool) (w : World) (h : impl_EdgeOk.f I s J z L = some r) :
    Calls Try.prog 93 #[.agg #[.int .i64 I, .int .i64 s, .int .i64 J, .int .i64 z, .int .i64 L]] w fun e w' => e = .returned (.bool r) ∧ Below w.heap.size w w' := by
  have hu56 := Try.underlying56
  have hu36 := Try.underlying36
  have HB := am (Below.refl w.heap.size w)
  obtain rfl := Option.some.inj h
  clear h
  have F : ∀ (b1 b2 b3 b4 b5 b6 : Bool), isL I = b1 → nOk s J = b2 → nOk z L = b3 → decide (Cd s J < Cd z L) = b4 → U s I = b5 → U z I = b6 →
      Calls Try.prog 93 #[.agg #[.int .i64 I, .int .i64 s, .int .i64 J, .int .i64 z, .int .i64 L]] w fun e w' => e = .returned (.bool (b1 && (b2 && (b3 && (b4 && (b5 && b6)))))) ∧ Below w.heap.size w w' := by
    intro b1 b2 b3 b4 b5 b6 h1 h2 h3 h4 h5 h6
    have T := am ((iIs I).trans (congrArg some h1))
    have X := am ((iN s J).trans (congrArg some h2))
    have Y := am ((iN z L).trans (congrArg some h3))
    have Z := am ((iU s I).trans (congrArg some h5))
    have A6 := am ((iU z I).trans (congrArg some h6))
    clear h1 h2 h3 h5 h6
    go_enter Try.func93, Try.ntmps93
    go_wp2_with (first | ((with_reducible refine gate_dst (N := 1) rfl ?_); refine box_event ?hg (N := 1) ?hd (cs := #[.int .i64 I, .int .i64 s, .int .i64 J, .int .i64 z, .int .i64 L]) (t := 56) ?hr ?_; (case hd => rfl); (case hg => rfl); (case hr => first | (go_simp; done) | (go_simp; rfl)); intro gb hg M hbox hb; have O := am (below_step HB.out hb); clear HB; have HB := O; clear O hg hb))
    have aa : ∀ p : Bel M, p.v.cell? ⟨gb, 0, none⟩ = some (.int .i64 I) := fun p => cell_bel ((blk_cell hbox 0).trans rfl) p
    have ab : ∀ p : Bel M, p.v.cell? ⟨gb, 1, none⟩ = some (.int .i64 s) := fun p => cell_bel ((blk_cell hbox 1).trans rfl) p
    have ac : ∀ p : Bel M, p.v.cell? ⟨gb, 2, none⟩ = some (.int .i64 J) := fun p => cell_bel ((blk_cell hbox 2).trans rfl) p
    have ae : ∀ p : Bel M, p.v.cell? ⟨gb, 3, none⟩ = some (.int .i64 z) := fun p => cell_bel ((blk_cell hbox 3).trans rfl) p
    have af : ∀ p : Bel M, p.v.cell? ⟨gb, 4, none⟩ = some (.int .i64 L) := fun p => cell_bel ((blk_cell hbox 4).trans rfl) p
    clear hbox
    refine wp_region_bel0 (by kernel_rfl) (by kernel_rfl) ?_
    rcases path6 b1 b2 b3 b4 b5 b6 with rfl | ⟨rfl, rfl⟩ | ⟨rfl, rfl, rfl⟩ | ⟨rfl, rfl, rfl, rfl⟩ | ⟨rfl, rfl, rfl, rfl, rfl⟩ | ⟨rfl, rfl, rfl, rfl, rfl, rfl⟩ | ⟨rfl, rfl, rfl, rfl, rfl, rfl⟩ <;>
    (repeat (go_big_quiet_step (first
        | with_reducible exact calls_bel0 (impl_LabelOk.calls _ _ _ T.out)
        | with_reducible exact calls_bel (impl_NodeOk.calls s J _ _ X.out)
        | with_reducible exact calls_bel (impl_NodeOk.calls z L _ _ Y.out)
        | with_reducible exact calls_bel (impl_NodeCode.calls s J _ _ (iC s J))
        | with_reducible exact calls_bel (impl_NodeCode.calls z L _ _ (iC z L))
        | with_reducible exact calls_bel0 (impl_LabelUnder.calls s I _ _ Z.out)
        | with_reducible exact calls_bel0 (impl_LabelUnder.calls z I _ _ A6.out)))
     refine wpQuiet_nil ?_
     intro _ hw'
     obtain ⟨⟨wq, hbq⟩, hw''⟩ := hw'
     subst hw''
     go_wp2
     go_ret
     exact ⟨by first | rfl | (simp; done) | (simp [*]; done), below_step HB.out hbq⟩)
  have G := F _ _ _ _ _ _ rfl rfl rfl rfl rfl rfl
  have e : EOk I s J z L = (isL I && (nOk s J && (nOk z L && (decide (Cd s J < Cd z L) && (U s I && U z I))))) := by
    unfold EOk Cd
    cases h1 : nOk s J
    · simp
    · cases h2 : nOk z L
      · simp
      · simp
  rw [e]
  exact G

/-! ### impl_nodesOk: function 81 -/
/-- Counts, as the cells of an array. -/
def cts (m : List Int) : Array Value := (m.map fun x => Value.int .i64 x).toArray
theorem cts_get (m : List Int) (i : Nat) (h : i < m.length) : (cts m)[i]? = some (.int .i64 (rd m i)) := by
  simp [cts, rd, h]
theorem cts_set (m : List Int) (i : Nat) (x : Int) : (cts m).setIfInBounds i (.int .i64 x) = cts (m.set i x) := by
  simp [cts, List.map_set]
def impl_nodesOk.l0 : Nat → List S36 → Int → List Int → Int → Option Bool
  | 0, _, _, _, _ => none
  | k + 1, xs, last, m, i => if i < (xs.length : Int) then (if 0 ≤ i then (if Cd (rd_T36 xs i).f0 (rd_T36 xs i).f1 ≤ last then some false else (if rd m (rd_T36 xs i).f0 = 5 then some false else impl_nodesOk.l0 k xs (Cd (rd_T36 xs i).f0 (rd_T36 xs i).f1) (m.set ((rd_T36 xs i).f0).toNat (wrap64 (rd m (rd_T36 xs i).f0 + 1))) (wrap64 (i + 1)))) else none) else some true
def impl_nodesOk.f (k : Nat) (l0 : List S36) : Option Bool := impl_nodesOk.l0 k l0 (-1) [0, 0, 0, 0, 0, 0, 0, 0] 0
set_option maxHeartbeats 8000000 in
set_option maxRecDepth 100000 in
theorem impl_nodesOk.calls (k : Nat) (A0 : Option Addr) (c0 : Nat) (l0 : List S36) (r : Bool) (w : World) (aa : Kd.C k36 w A0 l0.length l0) (ab : l0.length ≤ c0) (h : impl_nodesOk.f k l0 = some r) :
    Calls Try.prog 81 #[.slice A0 l0.length c0] w fun e w' => e = .returned (.bool r) ∧ Below w.heap.size w w' := by
  have hu36 := Try.underlying36
  have hu122 := Try.underlying122
  have ai := am aa
  have ar := am ab
  clear aa ab
  have HB := am (Below.refl w.heap.size w)
  have H' := am (show impl_nodesOk.l0 k l0 (-1) [0, 0, 0, 0, 0, 0, 0, 0] 0 = some r from h)
  clear h
  go_enter Try.func81, Try.ntmps81
  go_wp2_with (first | ((with_reducible refine gate_dst (N := 3) rfl ?_); refine box_event ?hg (N := 3) ?hd (cs := cts [0, 0, 0, 0, 0, 0, 0, 0]) (t := 122) ?hr ?_; (case hd => rfl); (case hg => rfl); (case hr => first | (go_simp; done) | (go_simp; rfl)); intro gb hg w3 hbox hb; have z := am (below_step HB.out hb); have D := am hbox; have I := am ((by rw [hg]; exact (below_size (by repeat (first | (with_reducible first | exact HB.out | apply below_alloc | apply pw_below_drewN | apply below_drew1) | exact HB.out))) : w.heap.size ≤ gb)); clear HB; have HB := z; have BK := D; have GE := I; clear z D I hg hb hbox))
  go_loopg [4, 10] k (fun kq v4 aj w' => ∃ (L J : Int) (m : List Int), v4 = .int .i64 L ∧ aj = .int .i64 J ∧ Aside0 (impl_nodesOk.l0 kq l0 L m J = some r) ∧ Aside0 (-1 ≤ L ∧ m.length = 8) ∧ Aside0 (kq ≤ k) ∧ Aside0 (w'.heap[gb]? = some (.cells (cts m) 122 (0, 0))) ∧ Aside0 (Below w.heap.size w w'))
  case atStart => exact ⟨-1, 0, [0, 0, 0, 0, 0, 0, 0, 0], (by first | rfl | (simp; done) | (simp [*]; done)), (by first | rfl | (simp; done) | (simp [*]; done)), H', ⟨by omega, rfl⟩, ⟨Nat.le_refl _⟩, ⟨by (with_reducible repeat (first | refine blk_drewN ?_ _ | refine blk_drew ?_ | refine blk_alloc ?_ _)); exact BK.out⟩, ⟨by repeat (first | (with_reducible first | exact HB.out | apply below_alloc | apply pw_below_drewN | apply below_drew1 | refine below_set ?_ GE.out) | exact HB.out)⟩⟩
  case round =>
    clear H'
    obtain ⟨L, J, m, rfl, rfl, HA, HM, ac, BK, HB⟩ := hrel
    cases gk with
    | zero => exact absurd HA.out (by simp [impl_nodesOk.l0])
    | succ k1 =>
      have H := HA.out
      clear HA
      simp only [impl_nodesOk.l0] at H
      by_cases M : J < (l0.length : Int)
      · rw [if_pos M] at H
        have ak : decide (J < (l0.length : Int)) = true := decide_eq_true M
        by_cases c2 : 0 ≤ J
        · rw [if_pos c2] at H
          have Z := c2
          have q0 := M
          obtain ⟨ad, ea, X, Y⟩ := at_T36 ai.out J Z q0
          cases ea
          replace X := (HB.out.cell (World.block_lt_of_cell? w _ X)).trans X
          replace Y := (HB.out.cell (World.block_lt_of_cell? w _ Y)).trans Y
          replace Z := eq_true Z
          replace q0 := eq_true q0
          generalize (rd_T36 l0 J).f0 = f0 at H X Y
          generalize (rd_T36 l0 J).f1 = f1 at H X Y
          clear M c2
          go_wp2_with (first | ((with_reducible refine gate_dst (N := 6) rfl ?_); refine box_event ?hg (N := 6) ?hd (cs := #[.int .i64 0, .int .i64 0]) (t := 36) ?hr ?_; (case hd => rfl); (case hg => rfl); (case hr => first | (go_simp; done) | (go_simp; rfl)); intro gn hg w5 hbox hb; have z := am (blk_below (g := gb) (by (with_reducible repeat (first | refine blk_drewN ?_ _ | refine blk_drew ?_ | refine blk_alloc ?_ _)); exact BK.out) hb); have D := am (below_step (by repeat (first | (with_reducible first | exact HB.out | apply below_alloc | apply pw_below_drewN | apply below_drew1 | refine below_set ?_ GE.out) | exact HB.out)) hb); have I := am hbox; have ae := am ((by rw [hg]; exact (below_size (by repeat (first | (with_reducible first | exact HB.out | apply below_alloc | apply pw_below_drewN | apply below_drew1 | refine below_set ?_ GE.out) | exact HB.out))) : w.heap.size ≤ gn)); have af := am ((by rw [hg]; exact Nat.ne_of_lt (blk_lt (g := gb) (by (with_reducible repeat (first | refine blk_drewN ?_ _ | refine blk_drew ?_ | refine blk_alloc ?_ _)); exact BK.out)) : gb ≠ gn)); clear BK HB; have BK := z; have HB := D; have BN := I; have GN := ae; have NE := af; clear z D I ae af; clear hb hbox hg; have ag : w5.cell? ⟨gn, 0, none⟩ = some (.int .i64 0) := (blk_cell BN.out 0).trans rfl; have ah : w5.cell? ⟨gn, 1, none⟩ = some (.int .i64 0) := (blk_cell BN.out 1).trans rfl; have al := blk_frozen BN.out 0; have an := blk_frozen BN.out 1))
          have z := am (blk_far (blk_far BK.out (p := ⟨gn, 0, none⟩) NE.out (.int .i64 f0)) (p := ⟨gn, 1, none⟩) NE.out (.int .i64 f1))
          have D := am (blk_put (cs' := #[.int .i64 f0, .int .i64 f1]) (blk_put (cs' := #[.int .i64 f0, .int .i64 0]) BN.out 0 (.int .i64 f0) rfl) 1 (.int .i64 f1) rfl)
          have I := am (below_set (j := 1) (v := .int .i64 f1) (below_set (j := 0) (v := .int .i64 f0) HB.out GN.out) GN.out)
          clear BK BN HB ag ah al an
          have BK := z
          have BN := D
          have HB := I
          clear z D I
          generalize (w5.setCell ⟨gn, 0, none⟩ (.int .i64 f0)).setCell ⟨gn, 1, none⟩ (.int .i64 f1) = w6 at BK BN HB ⊢
          refine (impl_NodeCode.calls _ _ _ _ (iC _ _)).mono ?_
          rintro e w7 ⟨rfl, hb⟩
          have z := am (blk_below BK.out hb)
          have D := am (blk_below BN.out hb)
          have I := am (below_step HB.out hb)
          clear BK BN HB hb
          have BK := z
          have BN := D
          have HB := I
          clear z D I
          have ag : w7.cell? ⟨gn, 0, none⟩ = some (.int .i64 f0) := (blk_cell BN.out 0).trans rfl
          have ah : w7.cell? ⟨gn, 1, none⟩ = some (.int .i64 f1) := (blk_cell BN.out 1).trans rfl
          by_cases O : Cd f0 f1 ≤ L
          · rw [if_pos O] at H
            have ao : decide (Cd f0 f1 ≤ L) = true := decide_eq_true O
            clear O
            obtain rfl := Option.some.inj H
            go_wp2
            go_ret
            exact ⟨by first | rfl | (simp; done) | (simp [*]; done), by repeat (first | (with_reducible first | exact HB.out | apply below_alloc | apply pw_below_drewN | apply below_drew1) | exact HB.out)⟩
          · rw [if_neg O] at H
            have ao : decide (Cd f0 f1 ≤ L) = false := decide_eq_false O
            have hok := Cd_ok (a := f0) (b := f1) (by have := HM.out.1; omega)
            obtain ⟨j, rfl⟩ := Int.eq_ofNat_of_zero_le hok.2.1
            have au : j < 8 := by omega
            have hjm : j < m.length := by have := HM.out.2; omega
            have hcm : w7.cell? ⟨gb, j, none⟩ = some (.int .i64 (rd m j)) := (blk_cell BK.out j).trans (cts_get m j hjm)
            have hfm := blk_frozen BK.out j
            have hlo : (0 ≤ (j : Int)) = True := eq_true (by omega)
            have hhi : ((j : Int) < 8) = True := eq_true (by omega)
            have ap : -1 ≤ Cd (j : Int) f1 := by rw [hok.1]; omega
            clear O hok
            by_cases T : rd m (j : Int) = 5
            · rw [if_pos T] at H
              have aq : (rd m (j : Int) == 5) = true := beq_iff_eq.mpr T
              clear T
              obtain rfl := Option.some.inj H
              go_wp2
              go_ret
              exact ⟨by first | rfl | (simp; done) | (simp [*]; done), by repeat (first | (with_reducible first | exact HB.out | apply below_alloc | apply pw_below_drewN | apply below_drew1) | exact HB.out)⟩
            · rw [if_neg T] at H
              have aq : (rd m (j : Int) == 5) = false := beq_eq_false_iff_ne.mpr T
              clear T
              have H' := am H
              clear H
              go_wp2
              go_roundg k1
              case measure => have := ac.out; omega
              case rel => exact ⟨Cd (j : Int) f1, wrap64 (J + 1), m.set j (wrap64 (rd m (j : Int) + 1)), (by first | rfl | (simp; done) | (simp [*]; done)), (by first | rfl | (simp; done) | (simp [*]; done)), ⟨by simpa using H'.out⟩, ⟨ap, by simpa using HM.out.2⟩, ⟨by have := ac.out; omega⟩, ⟨by refine blk_put ?_ j _ (cts_set m j _); exact BK.out⟩, ⟨by refine below_set ?_ GE.out; exact HB.out⟩⟩
        · rw [if_neg c2] at H; cases H
      · rw [if_neg M] at H
        have ak : decide (J < (l0.length : Int)) = false := decide_eq_false M
        clear M
        obtain rfl := Option.some.inj H
        go_wp2
        go_ret
        exact ⟨by first | rfl | (simp; done) | (simp [*]; done), by repeat (first | (with_reducible first | exact HB.out | apply below_alloc | apply pw_below_drewN | apply below_drew1 | refine below_set ?_ GE.out) | exact HB.out)⟩

/-! ### cmp_isNaN_int: function 160 -/
def cmp_isNaN_int.f (s : Int) : Option (Bool) := some (s != s)
theorem cmp_isNaN_int.calls (s : Int) (r : Bool) (w : World) (h : cmp_isNaN_int.f s = some r) :
  Calls Try.prog 160 #[.int .i64 s] w fun e w' => e = .returned (.bool r) ∧ Drawn0 w w' := by
 have H := h; unfold cmp_isNaN_int.f at H
 clear h
 obtain rfl := Option.some.inj H
 go_enter Try.func160, Try.ntmps160
 go_wp2
 go_ret
 exact ⟨eqs, drs⟩

/-! ### cmp_Compare_int: function 138 -/
def cmp_Compare_int.f (s : Int) (z : Int) : Option (Int) := (cmp_isNaN_int.f s).bind fun I => ((cmp_isNaN_int.f z).bind fun D => (if I = true then (if D = true then (some 0) else (some (-1))) else (if D = true then (some 1) else (if s < z then (some (-1)) else (if s > z then (some 1) else (some 0))))))
theorem cmp_Compare_int.calls (s : Int) (z : Int) (r : Int) (w : World) (h : cmp_Compare_int.f s z = some r) :
  Calls Try.prog 138 #[.int .i64 s, .int .i64 z] w fun e w' => e = .returned (.int .i64 r) ∧ Drawn0 w w' := by
 have H := h; unfold cmp_Compare_int.f at H
 clear h
 replace H := Option.bind_eq_some_iff.mp H
 obtain ⟨ab, Z, H⟩ := H
 try dsimp -simprocs only at H
 have I := am Z
 clear Z
 replace H := Option.bind_eq_some_iff.mp H
 obtain ⟨O, aa, H⟩ := H
 try dsimp -simprocs only at H
 have J := am aa
 clear aa
 by_cases T : ab = true
 ·subst T
  replace H : (if O = true then (some 0) else (some (-1))) = some r := by rw [if_pos rfl] at H; exact H
  by_cases X : O = true
  ·subst X
   replace H : (some 0) = some r := by rw [if_pos rfl] at H; exact H
   obtain rfl := Option.some.inj H
   go_enter Try.func138, Try.ntmps138
   go_wp2_with (first | ((with_reducible refine gc 160 rfl ?_); refine gl 8 Try.func160 #[.int .i64 s] ?_; (with_reducible refine (cmp_isNaN_int.calls s true _ I.out).mono ?_); rintro e w' ⟨rfl, ⟨nd, rfl⟩⟩; refine ⟨_, rfl, ?_⟩) | ((with_reducible refine gc 160 rfl ?_); refine gl 10 Try.func160 #[.int .i64 z] ?_; (with_reducible refine (cmp_isNaN_int.calls z true _ J.out).mono ?_); rintro e w' ⟨rfl, ⟨nd, rfl⟩⟩; refine ⟨_, rfl, ?_⟩))
   go_ret
   exact ⟨eqs, drs⟩
  ·replace X := Bool.eq_false_iff.mpr X
   subst X
   have H1 : (some (-1)) = some r := by rw [if_neg (show ¬ (false = true) by decide)] at H; exact H
   clear H
   have H := H1
   clear H1
   obtain rfl := Option.some.inj H
   go_enter Try.func138, Try.ntmps138
   go_wp2_with (first | ((with_reducible refine gc 160 rfl ?_); refine gl 8 Try.func160 #[.int .i64 s] ?_; (with_reducible refine (cmp_isNaN_int.calls s true _ I.out).mono ?_); rintro e w' ⟨rfl, ⟨nd, rfl⟩⟩; refine ⟨_, rfl, ?_⟩) | ((with_reducible refine gc 160 rfl ?_); refine gl 10 Try.func160 #[.int .i64 z] ?_; (with_reducible refine (cmp_isNaN_int.calls z false _ J.out).mono ?_); rintro e w' ⟨rfl, ⟨nd, rfl⟩⟩; refine ⟨_, rfl, ?_⟩))
   go_ret
   exact ⟨eqs, drs⟩
 ·replace T := Bool.eq_false_iff.mpr T
  subst T
  have H1 : (if O = true then (some 1) else (if s < z then (some (-1)) else (if s > z then (some 1) else (some 0)))) = some r := by rw [if_neg (show ¬ (false = true) by decide)] at H; exact H
  clear H
  have H := H1
  clear H1
  by_cases Y : O = true
  ·subst Y
   replace H : (some 1) = some r := by rw [if_pos rfl] at H; exact H
   obtain rfl := Option.some.inj H
   go_enter Try.func138, Try.ntmps138
   go_wp2_with (first | ((with_reducible refine gc 160 rfl ?_); refine gl 8 Try.func160 #[.int .i64 s] ?_; (with_reducible refine (cmp_isNaN_int.calls s false _ I.out).mono ?_); rintro e w' ⟨rfl, ⟨nd, rfl⟩⟩; refine ⟨_, rfl, ?_⟩) | ((with_reducible refine gc 160 rfl ?_); refine gl 10 Try.func160 #[.int .i64 z] ?_; (with_reducible refine (cmp_isNaN_int.calls z true _ J.out).mono ?_); rintro e w' ⟨rfl, ⟨nd, rfl⟩⟩; refine ⟨_, rfl, ?_⟩))
   go_ret
   exact ⟨eqs, drs⟩
  ·replace Y := Bool.eq_false_iff.mpr Y
   subst Y
   have H1 : (if s < z then (some (-1)) else (if s > z then (some 1) else (some 0))) = some r := by rw [if_neg (show ¬ (false = true) by decide)] at H; exact H
   clear H
   have H := H1
   clear H1
   by_cases L : s < z
   ·rw [if_pos L] at H
    have ac : decide (s < z) = true := decide_eq_true L
    clear L
    obtain rfl := Option.some.inj H
    go_enter Try.func138, Try.ntmps138
    go_wp2_with (first | ((with_reducible refine gc 160 rfl ?_); refine gl 8 Try.func160 #[.int .i64 s] ?_; (with_reducible refine (cmp_isNaN_int.calls s false _ I.out).mono ?_); rintro e w' ⟨rfl, ⟨nd, rfl⟩⟩; refine ⟨_, rfl, ?_⟩) | ((with_reducible refine gc 160 rfl ?_); refine gl 10 Try.func160 #[.int .i64 z] ?_; (with_reducible refine (cmp_isNaN_int.calls z false _ J.out).mono ?_); rintro e w' ⟨rfl, ⟨nd, rfl⟩⟩; refine ⟨_, rfl, ?_⟩))
    go_ret
    exact ⟨eqs, drs⟩
   ·rw [if_neg L] at H
    have ac : decide (s < z) = false := decide_eq_false L
    clear L
    by_cases M : s > z
    ·rw [if_pos M] at H
     have ae : decide (z < s) = true := decide_eq_true M
     clear M
     obtain rfl := Option.some.inj H
     go_enter Try.func138, Try.ntmps138
     go_wp2_with (first | ((with_reducible refine gc 160 rfl ?_); refine gl 8 Try.func160 #[.int .i64 s] ?_; (with_reducible refine (cmp_isNaN_int.calls s false _ I.out).mono ?_); rintro e w' ⟨rfl, ⟨nd, rfl⟩⟩; refine ⟨_, rfl, ?_⟩) | ((with_reducible refine gc 160 rfl ?_); refine gl 10 Try.func160 #[.int .i64 z] ?_; (with_reducible refine (cmp_isNaN_int.calls z false _ J.out).mono ?_); rintro e w' ⟨rfl, ⟨nd, rfl⟩⟩; refine ⟨_, rfl, ?_⟩))
     go_ret
     exact ⟨eqs, drs⟩
    ·rw [if_neg M] at H
     have ae : decide (z < s) = false := decide_eq_false M
     clear M
     obtain rfl := Option.some.inj H
     go_enter Try.func138, Try.ntmps138
     go_wp2_with (first | ((with_reducible refine gc 160 rfl ?_); refine gl 8 Try.func160 #[.int .i64 s] ?_; (with_reducible refine (cmp_isNaN_int.calls s false _ I.out).mono ?_); rintro e w' ⟨rfl, ⟨nd, rfl⟩⟩; refine ⟨_, rfl, ?_⟩) | ((with_reducible refine gc 160 rfl ?_); refine gl 10 Try.func160 #[.int .i64 z] ?_; (with_reducible refine (cmp_isNaN_int.calls z false _ J.out).mono ?_); rintro e w' ⟨rfl, ⟨nd, rfl⟩⟩; refine ⟨_, rfl, ?_⟩))
     go_ret
     exact ⟨eqs, drs⟩

/-! ### impl_nodeOrder: function 105 -/
def impl_nodeOrder.f (s : Int) (z : Int) (D : Int) (I : Int) : Option (Int) := (impl_NodeCode.f s z).bind fun J => ((impl_NodeCode.f D I).bind fun L => ((cmp_Compare_int.f J L).bind fun M => (some M)))
theorem impl_nodeOrder.calls (I : Int) (J : Int) (L : Int) (M : Int) (r : Int) (w : World) (h : impl_nodeOrder.f I J L M = some r) :
  Calls Try.prog 105 #[.agg #[.int .i64 I, .int .i64 J], .agg #[.int .i64 L, .int .i64 M]] w fun e w' => e = .returned (.int .i64 r) ∧ Below w.heap.size w w' := by
 have hu36 := Try.underlying36
 have HB := am (Below.refl w.heap.size w)
 have H := h; unfold impl_nodeOrder.f at H
 clear h
 replace H := Option.bind_eq_some_iff.mp H
 obtain ⟨T, Y, H⟩ := H
 try dsimp -simprocs only at H
 have A3 := am Y
 clear Y
 replace H := Option.bind_eq_some_iff.mp H
 obtain ⟨X, Z, H⟩ := H
 try dsimp -simprocs only at H
 have A4 := am Z
 clear Z
 replace H := Option.bind_eq_some_iff.mp H
 obtain ⟨ae, aa, H⟩ := H
 try dsimp -simprocs only at H
 have A5 := am aa
 clear aa
 obtain rfl := Option.some.inj H
 go_enter Try.func105, Try.ntmps105
 try go_wp2_with (first | ((with_reducible refine gd 2 rfl ?_); refine bx 2 (cs := #[.int .i64 I, .int .i64 J]) (t := 36) ?_; intro ab hg w6 hbox hb; have z := am hbox; have aj := gwb HB hg; replace HB := hs HB hb; clear hb hbox hg) | ((with_reducible refine gd 3 rfl ?_); refine bx 3 (cs := #[.int .i64 L, .int .i64 M]) (t := 36) ?_; intro ac hg w7 hbox hb; have D := am hbox; have ak := gwb HB hg; replace HB := hs HB hb; have al := nq z hg; have an := nq' z hg; replace z := bb z hb rfl; clear hb hbox hg))
 replace z := bd z
 replace D := bd D
 replace HB := hd HB
 refine wp_region_bel (by kernel_rfl) (by kernel_rfl) ?_
 generalize w7.drew = O at z D HB ⊢
 have hbp_ := fun (p_ : Bel O) => below_step HB.out p_.h
 have af : ∀ p_ : Bel O, p_.v.cell? ⟨ab, 0, none⟩ = some (.int .i64 I) := fun p_ => cell_bel (cx z 0) p_
 have ag : ∀ p_ : Bel O, p_.v.cell? ⟨ab, 1, none⟩ = some (.int .i64 J) := fun p_ => cell_bel (cx z 1) p_
 have ah : ∀ p_ : Bel O, p_.v.cell? ⟨ac, 0, none⟩ = some (.int .i64 L) := fun p_ => cell_bel (cx D 0) p_
 have ai : ∀ p_ : Bel O, p_.v.cell? ⟨ac, 1, none⟩ = some (.int .i64 M) := fun p_ => cell_bel (cx D 1) p_
 repeat (go_big_quiet_step (first
  | (with_reducible show Calls Try.prog 116 #[.agg #[.int .i64 I, .int .i64 J]] _ _; with_reducible exact calls_bel (impl_NodeCode.calls I J T _ A3.out))
  | (with_reducible show Calls Try.prog 116 #[.agg #[.int .i64 L, .int .i64 M]] _ _; with_reducible exact calls_bel (impl_NodeCode.calls L M X _ A4.out))
  | (with_reducible show Calls Try.prog 138 #[.int .i64 T, .int .i64 X] _ _; with_reducible exact calls_bel0 (cmp_Compare_int.calls T X ae _ A5.out))))
 refine wpQuiet_nil ?_
 intro ao hw'
 obtain ⟨⟨wq_, hb⟩, hw''⟩ := hw'
 subst hw''
 clear hbp_ af ag ah ai
 replace z := bb z hb rfl
 replace D := bb D hb rfl
 replace HB := hs HB hb
 (try clear hb)
 (try clear hb2)
 (try clear hk)
 (try clear hi)
 try go_wp2
 go_ret
 exact ⟨eqr, bs HB.out⟩

/-! ### cmp_Or_int: function 142 -/
def cmp_Or_int.l0 : Nat → Int → List Int → Int → Int → Option (Int)
 | 0, _, _, _, _ => none
 | k + 1, D, z, I, s => if s < I then (if 0 ≤ s then (if s < (z.length : Int) then (if (rd z s) = D then (cmp_Or_int.l0 k D z I (wrap64 (s + 1))) else (some (rd z s))) else (none)) else (none)) else (some D)
def cmp_Or_int.f (k : Nat) (l0 : List Int) : Option (Int) := cmp_Or_int.l0 k 0 l0 (l0.length : Int) 0
theorem cmp_Or_int.calls (k : Nat) (O : Option Addr) (T : Nat) (l0 : List Int) (r : Int) (w : World) (X : Kd.C (Kd.int .i64) w O l0.length l0) (Z : l0.length ≤ T) (h : cmp_Or_int.f k l0 = some r) :
  Calls Try.prog 142 #[.slice O l0.length T] w fun e w' => e = .returned (.int .i64 r) ∧ Drawn0 w w' := by
 have aa := am X
 have ai := am Z
 clear X Z
 have H := h; unfold cmp_Or_int.f at H
 clear h
 have H' := am H
 clear H
 go_enter Try.func142, Try.ntmps142
 go_wp2
 go_loopg [8] k (fun kq v8 w' => ∃ (s : Int), v8 = .int .i64 s ∧ Aside0 (cmp_Or_int.l0 kq 0 l0 (l0.length : Int) s = some r) ∧ Aside0 (kq ≤ k) ∧ Drawn0 w w')
 case atStart => exact ⟨(0), eqs, H', ⟨Nat.le_refl _⟩, drs⟩
 case round =>
  clear H'
  try clear c1
  obtain ⟨s, rfl, HA, ab, ⟨m1, rfl⟩⟩ := hrel
  cases gk with
  | zero => exact absurd HA.out (by simp [cmp_Or_int.l0])
  | succ k1 =>
   have H := HA.out
   clear HA
   simp only [cmp_Or_int.l0] at H
   by_cases c2 : s < (l0.length : Int)
   ·rw [if_pos c2] at H
    have ac : decide (s < (l0.length : Int)) = true := decide_eq_true c2
    clear c2
    by_cases J : 0 ≤ s
    ·rw [if_pos J] at H
     have aj : decide (0 ≤ s) = true := decide_eq_true J
     clear J
     by_cases L : s < (l0.length : Int)
     ·rw [if_pos L] at H
      have ak : decide (s < (l0.length : Int)) = true := decide_eq_true L
      clear L
      by_cases z : (rd l0 s) = 0
      ·rw [if_pos z] at H
       have ae : ((rd l0 s) == 0) = true := beq_iff_eq.mpr z
       have af : ((rd l0 s) != 0) = false := bne_eq_false_iff_eq.mpr z
       clear z
       have H' := am H
       clear H
       have D : 0 ≤ (s : Int) := oda
       have I : s < (l0.length : Int) := oda
       obtain ⟨ag, M, ah⟩ := Kd.at_int aa.out s D I
       cases M
       replace D := eq_true D
       replace I := eq_true I
       go_wp2
       go_roundg k1
       case measure => have := ab.out; omega
       case rel => exact ⟨(wrap64 (s + 1)), eqs, H', ⟨by have := ab.out; omega⟩, drs⟩
      ·rw [if_neg z] at H
       have ae : ((rd l0 s) == 0) = false := beq_eq_false_iff_ne.mpr z
       have af : ((rd l0 s) != 0) = true := bne_iff_ne.mpr z
       obtain rfl := Option.some.inj H
       have D : 0 ≤ (s : Int) := oda
       have I : s < (l0.length : Int) := oda
       obtain ⟨ag, M, ah⟩ := Kd.at_int aa.out s D I
       cases M
       replace D := eq_true D
       replace I := eq_true I
       go_wp2
       go_ret
       exact ⟨eqs, drs⟩
     ·rw [if_neg L] at H
      exact absurd H (by simp)
    ·rw [if_neg J] at H
     exact absurd H (by simp)
   ·rw [if_neg c2] at H
    have ac : decide (s < (l0.length : Int)) = false := decide_eq_false c2
    clear c2
    obtain rfl := Option.some.inj H
    go_wp2
    go_ret
    exact ⟨eqs, drs⟩

end Go.Proofs.Ytohmemckdogljaa.QFnExactWalkPath
