/- Contracts of the Go functions that this law reaches: each does what its plain Lean function says. No condition. -/
import Derived.Test.YtohmemckdogljaaQFnGraphUnionx0
import Derived.Test.YtohmemckdogljaaQFnGraphUnionx1
import Derived.Test.YtohmemckdogljaaQFnGraphUnionx5
import Derived.Test.YtohmemckdogljaaQFnGraphUnionx8
import Derived.Test.YtohmemckdogljaaQFnGraphUnionx16
import Derived.Test.YtohmemckdogljaaQFnGraphUnionx17
namespace Go.Proofs.Ytohmemckdogljaa.QFnGraphUnion
open Go.RowKit Go.Proofs.YtohmemckdogljaaW.PrintWords Go.Proofs.YtohmemckdogljaaW.PrintLast Go.Proofs.YtohmemckdogljaaW.PrintMore Go.Proofs.Ytohmemckdogljaa.Bl
attribute [local go_sem] max2_int min2_int max_two min_two max_three min_three max_four min_four   -- for this text's walks alone
set_option linter.unusedVariables false
set_option linter.unusedSimpArgs false
set_option maxHeartbeats 8000000
set_option maxRecDepth 100000

attribute [local go_sem high] eqA36
/-! ### spec_l1Label: function 94 -/
def spec_l1Label.f (k : Nat) (s : List Int) (G : Int) : Option (Int × Int) := (spec_l9Rd_pick.f k s G 20).bind fun y => (if y.1 = 0 then ((spec_l9Rd_num.f k s y.2 (([(-1), 8, 9223372036854775807, (-9223372036854775808)] : List Int))).bind fun z => (some (z.1, z.2))) else ((spec_l9Rd_pick.f k s y.2 8).bind fun D => (some (D.1, D.2))))
theorem spec_l1Label.calls (k : Nat) (g : Nat) (z : List Int) (X : Int) (Y : Int) (Z : Int) (w0 w : World) (hI : IsS126 w0 w g z X) (hB : Below w0.heap.size w0 w) (h : spec_l1Label.f k z X = some (Y, Z)) :
  Calls Try.prog 94 #[.pointer (some ⟨g, 0, none⟩)] w fun e w' => e = .returned (.int .i64 Y) ∧ IsS126 w0 w' g z Z ∧ Below w0.heap.size w0 w' ∧ KeepBut w w' g none := by
 have y := am hI
 have GEg_ : Ge w0 g := ⟨IsS126.ge y.out⟩
 have HK := am (KeepBut.refl w g none)
 have HL := am hB.size
 clear hI
 have ax := am hB.size
 have HB := am hB
 clear hB
 have H := h; unfold spec_l1Label.f at H
 clear h
 replace H := Option.bind_eq_some_iff.mp H
 obtain ⟨⟨D, O⟩, ac, H⟩ := H
 try dsimp -simprocs only at H
 have A2 := am ac
 clear ac
 by_cases G : D = 0
 ·rw [if_pos G] at H
  have ah : (D == 0) = true := beq_iff_eq.mpr G
  have ai : (D != 0) = false := bne_eq_false_iff_eq.mpr G
  clear G
  obtain ⟨aa, ab⟩ : ∃ y_ : List Int, y_ = (([(-1), 8, 9223372036854775807, (-9223372036854775808)] : List Int)) := ⟨_, rfl⟩
  replace H : ((spec_l9Rd_num.f k z O aa).bind fun ad => (some (ad.1, ad.2))) = some (Y, Z) := by first | (rw [ab]; exact H) | exact H
  have ae := am ab
  clear ab
  replace H := Option.bind_eq_some_iff.mp H
  obtain ⟨⟨aj, ak⟩, af, H⟩ := H
  try dsimp -simprocs only at H
  have A4 := am af
  clear af
  simp only [Option.some.injEq, Prod.mk.injEq] at H
  obtain ⟨rfl, rfl⟩ := H
  go_enter Try.func94, Try.ntmps94
  go_wp2_with (first | ((with_reducible refine gc 120 rfl ?_); refine gl 4 Try.func120 #[.pointer (some ⟨g, 0, none⟩), .int .i64 20] ?_; (with_reducible refine (spec_l9Rd_pick.calls k g z X 20 D O w0 _ ?I ?J A2.out).mono ?_); (case I => exact iis y.out); (case J => exact bs HB.out); rintro e w5 ⟨rfl, hi, hb, hk⟩; refine ⟨_, rfl, ?_⟩; replace HK := kt HK hk; replace HB := am hb; replace y := am hi; (try clear hi hb hk)) | ((with_reducible refine gd 7 rfl ?_); refine Kd.R_lit (Kd.int .i64) _ 3 ?hg (N := 7) ?hd (xs := ([(-1), 8, 9223372036854775807, (-9223372036854775808)] : List Int)) (inner := [.int .i64 (-1), .int .i64 8, .int .i64 9223372036854775807, .int .i64 (-9223372036854775808)]) (ok := fun _ => True) (okp := fun _ => True) ?hr ?hp (fun _ hk => hk) trivial (Below.refl _ _) (Nat.le_refl _) (by simp) ?_; (case hd => rfl); (case hg => rfl); (case hr => first | (go_simp; done) | (go_simp; rfl)); (case hp => exact (Reps.one (show Kd.M (Kd.int .i64) _ _ _ (-1) [.int .i64 (-1)] from rfl) (Reps.one (show Kd.M (Kd.int .i64) _ _ _ 8 [.int .i64 8] from rfl) (Reps.one (show Kd.M (Kd.int .i64) _ _ _ 9223372036854775807 [.int .i64 9223372036854775807] from rfl) (Reps.one (show Kd.M (Kd.int .i64) _ _ _ (-9223372036854775808) [.int .i64 (-9223372036854775808)] from rfl) (Reps.none _ _)))))); intro ay w6 T hb hg_ hnew_; clear hg_ hnew_; (first | rw [← ae.out] at T | (simp only [Int.reduceToNat] at T; rw [← ae.out] at T)); have L := am (Kd.R_lower T (keep_size (w := w) (g := g) (row := none) (ks HK.out))); replace y := ib y hb; replace HK := kb HK hb; replace HB := hs HB hb; clear hb T; obtain ⟨al, an, ao⟩ := Kd.R_slice L.out; subst ao) | ((with_reducible refine gc 119 rfl ?_); refine gl 8 Try.func119 #[.pointer (some ⟨g, 0, none⟩), .slice al aa.length an] ?_; (with_reducible refine (spec_l9Rd_num.calls k g z O _ _ aa aj ak w0 _ ?I ?J ?ap ?aq ?ar A4.out).mono ?_); (case I => exact iis y.out); (case J => exact bs HB.out); (case ap => exact cr L); (case aq => exact cc L); (case ar => exact far_slice (IsS126.own_ne y.out L.out (by decide))); rintro e w9 ⟨rfl, hi, hb, hk⟩; refine ⟨_, rfl, ?_⟩; replace L := ro L y hk; replace HK := kt HK hk; replace HB := am hb; replace y := am hi; (try clear hi hb hk)))
  go_ret
  exact ⟨eqr, iis y.out, bs HB.out, ks HK.out⟩
 ·rw [if_neg G] at H
  have ah : (D == 0) = false := beq_eq_false_iff_ne.mpr G
  have ai : (D != 0) = true := bne_iff_ne.mpr G
  replace H := Option.bind_eq_some_iff.mp H
  obtain ⟨⟨au, av⟩, ag, H⟩ := H
  try dsimp -simprocs only at H
  have aw := am ag
  clear ag
  simp only [Option.some.injEq, Prod.mk.injEq] at H
  obtain ⟨rfl, rfl⟩ := H
  go_enter Try.func94, Try.ntmps94
  go_wp2_with (first | ((with_reducible refine gc 120 rfl ?_); refine gl 4 Try.func120 #[.pointer (some ⟨g, 0, none⟩), .int .i64 20] ?_; (with_reducible refine (spec_l9Rd_pick.calls k g z X 20 D O w0 _ ?I ?J A2.out).mono ?_); (case I => exact iis y.out); (case J => exact bs HB.out); rintro e az ⟨rfl, hi, hb, hk⟩; refine ⟨_, rfl, ?_⟩; replace HK := kt HK hk; replace HB := am hb; replace y := am hi; (try clear hi hb hk)) | ((with_reducible refine gc 120 rfl ?_); refine gl 10 Try.func120 #[.pointer (some ⟨g, 0, none⟩), .int .i64 8] ?_; (with_reducible refine (spec_l9Rd_pick.calls k g z O 8 au av w0 _ ?I ?J aw.out).mono ?_); (case I => exact iis y.out); (case J => exact bs HB.out); rintro e aA ⟨rfl, hi, hb, hk⟩; refine ⟨_, rfl, ?_⟩; replace HK := kt HK hk; replace HB := am hb; replace y := am hi; (try clear hi hb hk)))
  go_ret
  exact ⟨eqr, iis y.out, bs HB.out, ks HK.out⟩

/-! ### spec_DrawGraphView: function 45 -/
def spec_DrawGraphView.f (k : Nat) (l0 : List Int) : Option ((List (S36)) × (List (S56)) × Int) := (spec_l9Open.f l0).bind fun s => ((spec_l2Graph.f k s.1 s.2).bind fun y => ((spec_l2Bent.f k s.1 y.2.2 y.1 y.2.1).bind fun z => ((spec_l1Label.f k s.1 z.2.2).bind fun D => (some (z.1, z.2.1, D.1)))))
theorem spec_DrawGraphView.calls (k : Nat) (A0 : Option Addr) (c0 : Nat) (l0 : List Int) (r1 : List (S36)) (r2 : List (S56)) (r3 : Int) (w : World) (aF : Kd.C (Kd.int .u8) w A0 l0.length l0) (aG : l0.length ≤ c0) (h : spec_DrawGraphView.f k l0 = some (r1, r2, r3)) :
  Calls Try.prog 45 #[.slice A0 l0.length c0] w fun e w' => ∃ aH aI : Value, e = .returned (.tuple #[.agg #[aH, aI], .int .i64 r3]) ∧ Kd.Q k36 36 w' w.heap.size (fun _ => True) aH r1 ∧ Kd.R k56 56 w' w.heap.size (fun _ => True) aI r2 ∧ Below w.heap.size w w' := by
 have hu34 := Try.underlying34
 have aP := am aF
 have aQ := am aG
 clear aF aG
 have HB := am (Below.refl w.heap.size w)
 have H := h; unfold spec_DrawGraphView.f at H
 clear h
 replace H := Option.bind_eq_some_iff.mp H
 obtain ⟨⟨T, aJ⟩, aK, H⟩ := H
 try dsimp -simprocs only at H
 have A2 := am aK
 clear aK
 replace H := Option.bind_eq_some_iff.mp H
 obtain ⟨⟨aj, ak, al⟩, aL, H⟩ := H
 try dsimp -simprocs only at H
 have A3 := am aL
 clear aL
 replace H := Option.bind_eq_some_iff.mp H
 obtain ⟨⟨I, J, ae⟩, aM, H⟩ := H
 try dsimp -simprocs only at H
 have A4 := am aM
 clear aM
 replace H := Option.bind_eq_some_iff.mp H
 obtain ⟨⟨aR, aS⟩, aN, H⟩ := H
 try dsimp -simprocs only at H
 have A5 := am aN
 clear aN
 simp only [Option.some.injEq, Prod.mk.injEq] at H
 obtain ⟨rfl, rfl, rfl⟩ := H
 go_enter Try.func45, Try.ntmps45
 try go_wp2_with (first | ((with_reducible refine gd 2 rfl ?_); refine bx 2 (cs := #[.slice none 0 0, .slice none 0 0]) (t := 34) ?_; intro af hg w6 hbox hb; have s := am hbox; have a8 := gwb HB hg; replace HB := hs HB hb; clear hb hbox hg) | ((with_reducible refine gc 86 rfl ?_); refine gl 7 Try.func86 #[.slice A0 l0.length c0] ?_; (with_reducible refine (spec_l9Open.calls _ _ l0 T aJ w _ ?ag ?ah ?ap A2.out).mono ?_); (case ag => exact bs HB.out); (case ah => exact aP.out); (case ap => exact aQ.out); rintro e w7 ⟨D, rfl, hi, hb, hb2⟩; refine ⟨_, rfl, ?_⟩; replace HB := am hb; have y := am hi; have a9 := Nq.mk (IsS126.ne_blk hi (blk_belowD s.out hb2 rfl) (by decide)); have ba := Nq.mk (Ne.symm (IsS126.ne_blk hi (blk_belowD s.out hb2 rfl) (by decide))); replace s := am (blk_belowD s.out hb2 rfl); (try clear hi hb hb2)) | ((with_reducible refine gc 87 rfl ?_); refine gl 10 Try.func87 #[.pointer (some ⟨D, 0, none⟩)] ?_; (with_reducible refine (spec_l2Graph.calls k D T aJ aj ak al w _ ?ag ?ah A3.out).mono ?_); (case ag => exact iis y.out); (case ah => exact bs HB.out); rintro e w8 ⟨bc, be, rfl, an, ao, hi, hb, hk⟩; refine ⟨_, rfl, ?_⟩; replace s := kk s hk; have L := am (Kd.R_lower an (below_size (bs HB.out))); have O := am (Kd.R_lower ao (below_size (bs HB.out))); replace HB := am hb; replace y := am hi; (try clear an ao hi hb hk); obtain ⟨aq, ar, aT⟩ := Kd.R_slice L.out; subst aT; obtain ⟨au, av, aU⟩ := Kd.R_slice O.out; subst aU) | ((with_reducible refine gc 88 rfl ?_); refine gl 11 Try.func88 #[.pointer (some ⟨D, 0, none⟩), .agg #[.slice aq aj.length ar, .slice au ak.length av]] ?_; (with_reducible refine (spec_l2Bent.calls k D T al _ _ aj _ _ ak I J ae w _ ?ag ?ah ?ap ?aV ?aW ?aX A4.out).mono ?_); (case ag => exact iis y.out); (case ah => exact bs HB.out); (case ap => exact Kd.C_foot_own (IsS126.apart (show IsS126 w _ D T al from iis y.out) (rl L.out) (by decide)) (fun _ h_ => h_.2)); (case aV => exact cc L); (case aW => exact Kd.C_foot_own (IsS126.apart (show IsS126 w _ D T al from iis y.out) (rl O.out) (by decide)) (fun _ h_ => h_.2)); (case aX => exact cc O); rintro e bg ⟨bh, bi, rfl, an, ao, hi, hb, hk⟩; refine ⟨_, rfl, ?_⟩; replace s := kk s hk; have ab := am (Kd.Q_lower (Kd.Q_new' an (rk L)) (below_size (bs HB.out))); replace L := am (Kd.R_mono (Kd.R_told (Kd.R_oldK (IsS126.apart (show IsS126 w _ D T al from iis y.out) (rl L.out) (by decide)) hk) (Kd.Q_base an)) (fun _ h_ => h_.1)); have ac := am (Kd.R_lower (Kd.R_new' ao (rk O)) (below_size (bs HB.out))); replace O := am (Kd.R_mono (Kd.R_told (Kd.R_oldK (IsS126.apart (show IsS126 w _ D T al from iis y.out) (rl O.out) (by decide)) hk) (Kd.R_base ao)) (fun _ h_ => h_.1)); replace HB := am hb; replace y := am hi; (try clear an ao hi hb hk)) | ((with_reducible refine gd 5 rfl ?_); refine bx 5 (cs := #[.slice none 0 0, .slice none 0 0]) (t := 34) ?_; intro z hg ad hbox hb; replace L := rb L hb; replace O := rb O hb; replace ab := qb ab hb; replace ac := rb ac hb; have G := am hbox; have bj := gwb HB hg; replace HB := hs HB hb; have aw := nq s hg; have ai := nq' s hg; replace s := bb s hb rfl; have aY := Nq.mk ((by rw [hg]; exact Nat.ne_of_lt (IsS126.lt (show IsS126 w _ D T ae from iis y.out)) : D ≠ z)); have aZ := Nq.mk ((by rw [hg]; exact Nat.ne_of_gt (IsS126.lt (show IsS126 w _ D T ae from iis y.out)) : z ≠ D)); replace y := ib y hb; clear hb hbox hg; obtain ⟨X, Y, a4, _⟩ := Kd.Q_slice ab.out; subst a4; have bk := ai.out; have bl := aw.out; have bm := aZ.out; have bn := aY.out; obtain ⟨bo, br⟩ := bc2 (w := ad) G.out; have bt := blk_frozen G.out; obtain ⟨Z, aa, a5⟩ := Kd.R_slice ac.out; subst a5))
 have ax : Aside0 (Kd.R k36 36 ((ad.setCell ⟨z, 0, none⟩ (.slice X I.length Y)).setCell ⟨z, 1, none⟩ (.slice Z J.length aa)) w.heap.size (fun k_ => some k_ ≠ (.slice X I.length Y : Value).ownBlock) (.slice aq aj.length ar) aj) := ⟨Kd.R_mono (rt L.out G.out (by decide)) (fun _ hk => hk.2)⟩
 have ay : Aside0 (Kd.R k56 56 ((ad.setCell ⟨z, 0, none⟩ (.slice X I.length Y)).setCell ⟨z, 1, none⟩ (.slice Z J.length aa)) w.heap.size (fun k_ => some k_ ≠ (.slice Z J.length aa : Value).ownBlock) (.slice au ak.length av) ak) := ⟨Kd.R_mono (rt O.out G.out (by decide)) (fun _ hk => hk.2)⟩
 have az : Aside0 (Kd.Q k36 36 ((ad.setCell ⟨z, 0, none⟩ (.slice X I.length Y)).setCell ⟨z, 1, none⟩ (.slice Z J.length aa)) w.heap.size (fun k_ => some k_ ≠ (.slice aq aj.length ar : Value).ownBlock) (.slice X I.length Y) I) := ⟨Kd.Q_mono (qt ab.out G.out (by decide)) (fun _ hk => hk.2)⟩
 have aA : Aside0 (Kd.R k56 56 ((ad.setCell ⟨z, 0, none⟩ (.slice X I.length Y)).setCell ⟨z, 1, none⟩ (.slice Z J.length aa)) w.heap.size (fun k_ => some k_ ≠ (.slice au ak.length av : Value).ownBlock) (.slice Z J.length aa) J) := ⟨Kd.R_mono (rt ac.out G.out (by decide)) (fun _ hk => hk.2)⟩
 have aB : Aside0 (((ad.setCell ⟨z, 0, none⟩ (.slice X I.length Y)).setCell ⟨z, 1, none⟩ (.slice Z J.length aa)).heap[af]? = some (.cells #[.slice none 0 0, .slice none 0 0] 34 (0, 0))) := ⟨bf s.out⟩
 have aC : Aside0 (((ad.setCell ⟨z, 0, none⟩ (.slice X I.length Y)).setCell ⟨z, 1, none⟩ (.slice Z J.length aa)).heap[z]? = some (.cells #[.slice X I.length Y, .slice Z J.length aa] 34 (0, 0))) := ⟨by (with_reducible repeat (first | refine blk_drewN ?_ _ | refine blk_drew ?_ | refine blk_alloc ?_ _)); refine blk_put (cs := #[.slice X I.length Y, .slice none 0 0]) ?_ 1 _ rfl; (with_reducible repeat (first | refine blk_drewN ?_ _ | refine blk_drew ?_ | refine blk_alloc ?_ _)); refine blk_put (cs := #[.slice none 0 0, .slice none 0 0]) ?_ 0 _ rfl; exact bf G.out⟩
 have aD : Aside0 (IsS126 w ((ad.setCell ⟨z, 0, none⟩ (.slice X I.length Y)).setCell ⟨z, 1, none⟩ (.slice Z J.length aa)) D T ae) := ⟨iis y.out⟩
 have aE : Aside0 (Below w.heap.size w ((ad.setCell ⟨z, 0, none⟩ (.slice X I.length Y)).setCell ⟨z, 1, none⟩ (.slice Z J.length aa))) := ⟨bs HB.out⟩
 (try clear L)
 (try clear O)
 (try clear ab)
 (try clear ac)
 (try clear s)
 (try clear G)
 (try clear y)
 (try clear HB)
 generalize ((ad.setCell ⟨z, 0, none⟩ (.slice X I.length Y)).setCell ⟨z, 1, none⟩ (.slice Z J.length aa)) = a6 at ax ay az aA aB aC aD aE ⊢
 have L := ax
 have O := ay
 have ab := az
 have ac := aA
 have s := aB
 have G := aC
 have y := aD
 have HB := aE
 clear ax ay az aA aB aC aD aE
 replace L := rd_ L
 replace O := rd_ O
 replace ab := qd ab
 replace ac := rd_ ac
 replace s := bd s
 replace G := bd G
 replace y := am (IsS126.drew y.out)
 replace HB := hd HB
 refine sta 5 (fun w' => w'.cell? ⟨z, 0, none⟩ = some (.slice X I.length Y) ∧ w'.cell? ⟨z, 1, none⟩ = some (.slice Z J.length aa)) [] ⟨cx G 0, cx G 1⟩ (fun hHeld => ?_)
 generalize a6.drew = bu at L O ab ac s G y HB hHeld ⊢
 refine pu 1 13 ?_
 refine tk 0 12 ?_
 refine on 2 14 (fun K hK => ?_)
 refine gs Try.func94 #[.pointer (some ⟨D, 0, none⟩)] ?_
 with_reducible refine (spec_l1Label.calls k D T ae aR aS w _ ?ag ?ah A5.out).mono ?_
 (case ag => exact iis y.out)
 (case ah => exact bs HB.out)
 rintro e aO ⟨rfl, hi, hb, hk⟩
 refine ⟨_, rfl, ?_⟩
 replace s := kk s hk
 replace L := am (Kd.R_mono (Kd.R_keep (IsS126.apart (show IsS126 w _ D T ae from iis y.out) (rl L.out) (by decide)) hk (fun _ h => h.2)) (fun _ h => h.1))
 replace O := am (Kd.R_mono (Kd.R_keep (IsS126.apart (show IsS126 w _ D T ae from iis y.out) (rl O.out) (by decide)) hk (fun _ h => h.2)) (fun _ h => h.1))
 replace ab := am (Kd.Q_mono (Kd.Q_keep (IsS126.apartQ (show IsS126 w _ D T ae from iis y.out) (qf ab.out) (by decide)) hk (fun _ h => h.2)) (fun _ h => h.1))
 replace ac := am (Kd.R_mono (Kd.R_keep (IsS126.apart (show IsS126 w _ D T ae from iis y.out) (rl ac.out) (by decide)) hk (fun _ h => h.2)) (fun _ h => h.1))
 replace G := kk G hk
 replace HB := am hb
 replace y := am hi
 (try clear hb)
 (try clear hb2)
 (try clear hk)
 (try clear hi)
 refine hK.out _ _ ⟨cx G 0, cx G 1⟩ (fun hHeld => ?_)
 clear hK K
 refine nrm 14 ?_
 refine on0 3 (fun K hK => ?_)
 have bv : aO.cell? ⟨af, 0, none⟩ = some (.slice none 0 0) := cx s 0
 have bw := blk_frozen s.out 0
 have bz := ai.out
 have bA := aw.out
 have bB : aO.cell? ⟨af, 1, none⟩ = some (.slice none 0 0) := cx s 1
 have bC := blk_frozen s.out 1
 have bD := ai.out
 have bE := aw.out
 refine sk ?_
 refine hK.out _ _ ⟨((cell_far (p := ⟨af, _, none⟩) ai.out _).trans (((cell_far (p := ⟨af, _, none⟩) ai.out _).trans (hHeld.1)))), ((cell_far (p := ⟨af, _, none⟩) ai.out _).trans (((cell_far (p := ⟨af, _, none⟩) ai.out _).trans (hHeld.2))))⟩ (fun hHeld => ?_)
 clear hK K
 refine pu 4 3 ?_
 refine dn ?_
 try go_wp2
 refine bodyPost_ret (results_ct rfl _ _ af 34 #[.slice X I.length Y, .slice Z J.length aa] (0, 0) _ rfl (bp s.out rfl) Try.underlying34 rfl (by kernel_rfl)) rfl ?_
 exact ⟨_, _, eqr, Kd.Q_mono (qt ab.out s.out (by decide)) (fun _ hk => trivial), Kd.R_mono (rt ac.out s.out (by decide)) (fun _ hk => trivial), bs HB.out⟩

/-! ### impl_LabelMeet: function 48 -/
def impl_LabelMeet.f (s : Int) (y : Int) : Option (Int) := (impl_LabelOk.f s).bind fun z => (if z = true then ((impl_LabelOk.f y).bind fun D => (if D = true then (some (wrap64 (Go.bits .and .u8 ((s) % 256) ((y) % 256)))) else (some 0))) else (some 0))
theorem impl_LabelMeet.calls (s : Int) (y : Int) (r : Int) (w : World) (h : impl_LabelMeet.f s y = some r) :
  Calls Try.prog 48 #[.int .i64 s, .int .i64 y] w fun e w' => e = .returned (.int .i64 r) ∧ Drawn0 w w' := by
 have H := h; unfold impl_LabelMeet.f at H
 clear h
 replace H := Option.bind_eq_some_iff.mp H
 obtain ⟨X, L, H⟩ := H
 try dsimp -simprocs only at H
 have I := am L
 clear L
 by_cases D : X = true
 ·subst D
  replace H : ((impl_LabelOk.f y).bind fun J => (if J = true then (some (wrap64 (Go.bits .and .u8 ((s) % 256) ((y) % 256)))) else (some 0))) = some r := by rw [if_pos rfl] at H; exact H
  replace H := Option.bind_eq_some_iff.mp H
  obtain ⟨J, O, H⟩ := H
  try dsimp -simprocs only at H
  have T := am O
  clear O
  by_cases G : J = true
  ·subst G
   replace H : (some (wrap64 (Go.bits .and .u8 ((s) % 256) ((y) % 256)))) = some r := by rw [if_pos rfl] at H; exact H
   obtain rfl := Option.some.inj H
   go_enter Try.func48, Try.ntmps48
   go_wp2_with (first | ((with_reducible refine gc 46 rfl ?_); refine gl 6 Try.func46 #[.int .i64 s] ?_; (with_reducible refine (impl_LabelOk.calls s true _ I.out).mono ?_); rintro e w' ⟨rfl, ⟨nd, rfl⟩⟩; refine ⟨_, rfl, ?_⟩) | (go_at_call 46; (with_reducible refine (impl_LabelOk.calls y true _ T.out).mono ?_); rintro e w' ⟨rfl, ⟨nd, rfl⟩⟩))
   go_ret
   exact ⟨eqs, drs⟩
  ·replace G := Bool.eq_false_iff.mpr G
   subst G
   have H1 : (some 0) = some r := by rw [if_neg (show ¬ (false = true) by decide)] at H; exact H
   clear H
   have H := H1
   clear H1
   obtain rfl := Option.some.inj H
   go_enter Try.func48, Try.ntmps48
   go_wp2_with (first | ((with_reducible refine gc 46 rfl ?_); refine gl 6 Try.func46 #[.int .i64 s] ?_; (with_reducible refine (impl_LabelOk.calls s true _ I.out).mono ?_); rintro e w' ⟨rfl, ⟨nd, rfl⟩⟩; refine ⟨_, rfl, ?_⟩) | (go_at_call 46; (with_reducible refine (impl_LabelOk.calls y false _ T.out).mono ?_); rintro e w' ⟨rfl, ⟨nd, rfl⟩⟩))
   go_ret
   exact ⟨eqs, drs⟩
 ·replace D := Bool.eq_false_iff.mpr D
  subst D
  have H1 : (some 0) = some r := by rw [if_neg (show ¬ (false = true) by decide)] at H; exact H
  clear H
  have H := H1
  clear H1
  obtain rfl := Option.some.inj H
  go_enter Try.func48, Try.ntmps48
  go_wp2_with (first | ((with_reducible refine gc 46 rfl ?_); refine gl 6 Try.func46 #[.int .i64 s] ?_; (with_reducible refine (impl_LabelOk.calls s false _ I.out).mono ?_); rintro e w' ⟨rfl, ⟨nd, rfl⟩⟩; refine ⟨_, rfl, ?_⟩))
  go_ret
  exact ⟨eqs, drs⟩

/-! ### impl_LabelJoin: function 49 -/
def impl_LabelJoin.f (s : Int) (y : Int) : Option (Int) := (impl_LabelOk.f s).bind fun z => (if z = true then ((impl_LabelOk.f y).bind fun D => (if D = true then (some (wrap64 (Go.bits .or .u8 ((s) % 256) ((y) % 256)))) else (some 0))) else (some 0))
theorem impl_LabelJoin.calls (s : Int) (y : Int) (r : Int) (w : World) (h : impl_LabelJoin.f s y = some r) :
  Calls Try.prog 49 #[.int .i64 s, .int .i64 y] w fun e w' => e = .returned (.int .i64 r) ∧ Drawn0 w w' := by
 have H := h; unfold impl_LabelJoin.f at H
 clear h
 replace H := Option.bind_eq_some_iff.mp H
 obtain ⟨X, L, H⟩ := H
 try dsimp -simprocs only at H
 have I := am L
 clear L
 by_cases D : X = true
 ·subst D
  replace H : ((impl_LabelOk.f y).bind fun J => (if J = true then (some (wrap64 (Go.bits .or .u8 ((s) % 256) ((y) % 256)))) else (some 0))) = some r := by rw [if_pos rfl] at H; exact H
  replace H := Option.bind_eq_some_iff.mp H
  obtain ⟨J, O, H⟩ := H
  try dsimp -simprocs only at H
  have T := am O
  clear O
  by_cases G : J = true
  ·subst G
   replace H : (some (wrap64 (Go.bits .or .u8 ((s) % 256) ((y) % 256)))) = some r := by rw [if_pos rfl] at H; exact H
   obtain rfl := Option.some.inj H
   go_enter Try.func49, Try.ntmps49
   go_wp2_with (first | ((with_reducible refine gc 46 rfl ?_); refine gl 6 Try.func46 #[.int .i64 s] ?_; (with_reducible refine (impl_LabelOk.calls s true _ I.out).mono ?_); rintro e w' ⟨rfl, ⟨nd, rfl⟩⟩; refine ⟨_, rfl, ?_⟩) | (go_at_call 46; (with_reducible refine (impl_LabelOk.calls y true _ T.out).mono ?_); rintro e w' ⟨rfl, ⟨nd, rfl⟩⟩))
   go_ret
   exact ⟨eqs, drs⟩
  ·replace G := Bool.eq_false_iff.mpr G
   subst G
   have H1 : (some 0) = some r := by rw [if_neg (show ¬ (false = true) by decide)] at H; exact H
   clear H
   have H := H1
   clear H1
   obtain rfl := Option.some.inj H
   go_enter Try.func49, Try.ntmps49
   go_wp2_with (first | ((with_reducible refine gc 46 rfl ?_); refine gl 6 Try.func46 #[.int .i64 s] ?_; (with_reducible refine (impl_LabelOk.calls s true _ I.out).mono ?_); rintro e w' ⟨rfl, ⟨nd, rfl⟩⟩; refine ⟨_, rfl, ?_⟩) | (go_at_call 46; (with_reducible refine (impl_LabelOk.calls y false _ T.out).mono ?_); rintro e w' ⟨rfl, ⟨nd, rfl⟩⟩))
   go_ret
   exact ⟨eqs, drs⟩
 ·replace D := Bool.eq_false_iff.mpr D
  subst D
  have H1 : (some 0) = some r := by rw [if_neg (show ¬ (false = true) by decide)] at H; exact H
  clear H
  have H := H1
  clear H1
  obtain rfl := Option.some.inj H
  go_enter Try.func49, Try.ntmps49
  go_wp2_with (first | ((with_reducible refine gc 46 rfl ?_); refine gl 6 Try.func46 #[.int .i64 s] ?_; (with_reducible refine (impl_LabelOk.calls s false _ I.out).mono ?_); rintro e w' ⟨rfl, ⟨nd, rfl⟩⟩; refine ⟨_, rfl, ?_⟩))
  go_ret
  exact ⟨eqs, drs⟩

/-! ### laws_wpAt: function 50 -/
def laws_wpAt.l0 : Nat → Int → List (S36) → List (S56) → Int → Int → Option (Int)
 | 0, _, _, _, _, _ => none
 | k + 1, s, y, G, z, D => if s < (y.length : Int) then (if 0 ≤ s then (if (((rd_T36 y s).f0) == z && (((rd_T36 y s).f1) == D)) = true then (some s) else (laws_wpAt.l0 k (wrap64 (s + 1)) y G z D)) else (none)) else (some (-1))
def laws_wpAt.f (k : Nat) (s : List (S36)) (y : List (S56)) (z : Int) (D : Int) : Option (Int) := laws_wpAt.l0 k 0 s y z D
theorem laws_wpAt.calls (k : Nat) (Y : Option Addr) (Z : Nat) (s : List (S36)) (aa : Option Addr) (ab : Nat) (L : List (S56)) (D : Int) (G : Int) (r : Int) (w : World) (aj : Kd.C k36 w Y s.length s) (ak : s.length ≤ Z) (al : Kd.C k56 w aa L.length L) (an : L.length ≤ ab) (h : laws_wpAt.f k s L D G = some r) :
  Calls Try.prog 50 #[.agg #[.slice Y s.length Z, .slice aa L.length ab], .agg #[.int .i64 D, .int .i64 G]] w fun e w' => e = .returned (.int .i64 r) ∧ Below w.heap.size w w' := by
 have hu34 := Try.underlying34
 have hu36 := Try.underlying36
 have ao := am aj
 have az := am ak
 clear aj ak
 have aA := am al
 have aB := am an
 clear al an
 have HB := am (Below.refl w.heap.size w)
 have H := h; unfold laws_wpAt.f at H
 clear h
 have H' := am H
 clear H
 go_enter Try.func50, Try.ntmps50
 go_wp2_with (first | ((with_reducible refine gd 2 rfl ?_); refine bx 2 (cs := #[.slice Y s.length Z, .slice aa L.length ab]) (t := 34) ?_; intro ag hg w3 hbox hb; have z := am hbox; have ap := gwb HB hg; replace HB := hs HB hb; clear hb hbox hg) | ((with_reducible refine gd 3 rfl ?_); refine bx 3 (cs := #[.int .i64 D, .int .i64 G]) (t := 36) ?_; intro ah hg w4 hbox hb; have O := am hbox; have aq := gwb HB hg; replace HB := hs HB hb; have ac := nq z hg; have ad := nq' z hg; replace z := bb z hb rfl; clear hb hbox hg))
 repeat (go_quiet (first | ((with_reducible refine gd 2 rfl ?_); refine bx 2 (cs := #[.slice Y s.length Z, .slice aa L.length ab]) (t := 34) ?_; intro ag hg w3 hbox hb; have z := am hbox; have ap := gwb HB hg; replace HB := hs HB hb; clear hb hbox hg) | ((with_reducible refine gd 3 rfl ?_); refine bx 3 (cs := #[.int .i64 D, .int .i64 G]) (t := 36) ?_; intro ah hg w4 hbox hb; have O := am hbox; have aq := gwb HB hg; replace HB := hs HB hb; have ac := nq z hg; have ad := nq' z hg; replace z := bb z hb rfl; clear hb hbox hg)); try go_wp2_with (first | ((with_reducible refine gd 2 rfl ?_); refine bx 2 (cs := #[.slice Y s.length Z, .slice aa L.length ab]) (t := 34) ?_; intro ag hg w3 hbox hb; have z := am hbox; have ap := gwb HB hg; replace HB := hs HB hb; clear hb hbox hg) | ((with_reducible refine gd 3 rfl ?_); refine bx 3 (cs := #[.int .i64 D, .int .i64 G]) (t := 36) ?_; intro ah hg w4 hbox hb; have O := am hbox; have aq := gwb HB hg; replace HB := hs HB hb; have ac := nq z hg; have ad := nq' z hg; replace z := bb z hb rfl; clear hb hbox hg)))
 go_loopg [5] k (fun kq v5 w' => ∃ (y : Int), v5 = .int .i64 y ∧ Aside0 (laws_wpAt.l0 kq y s L D G = some r) ∧ Aside0 (kq ≤ k) ∧ Aside0 (w'.heap[ag]? = some (.cells #[(.slice Y s.length Z), (.slice aa L.length ab)] 34 (0, 0))) ∧ Aside0 (w'.heap[ah]? = some (.cells #[.int .i64 D, .int .i64 G] 36 (0, 0))) ∧ Aside0 (Below w.heap.size w w'))
 case atStart => exact ⟨(0), eqs, H', ⟨Nat.le_refl _⟩, ⟨bf z.out⟩, ⟨bf O.out⟩, ⟨bs HB.out⟩⟩
 case round =>
  clear H'
  try clear p2
  obtain ⟨y, rfl, HA, ar, z, O, HB⟩ := hrel
  cases gk with
  | zero => exact absurd HA.out (by simp [laws_wpAt.l0])
  | succ k1 =>
   have H := HA.out
   clear HA
   simp only [laws_wpAt.l0] at H
   by_cases c5 : y < (s.length : Int)
   ·rw [if_pos c5] at H
    have au : decide (y < (s.length : Int)) = true := decide_eq_true c5
    clear c5
    by_cases c6 : 0 ≤ y
    ·rw [if_pos c6] at H
     have aC : decide (0 ≤ y) = true := decide_eq_true c6
     clear c6
     by_cases J : (((rd_T36 s y).f0) == D && (((rd_T36 s y).f1) == G)) = true
     ·rw [if_pos J] at H
      have av : (((rd_T36 s y).f0) == D && (((rd_T36 s y).f1) == G)) = true := J
      (try (have aw : decide (((rd_T36 s y).f0) = D && (((rd_T36 s y).f1) == G)) = true := by simpa using J))
      (try (have ax : (((rd_T36 s y).f0) == D && (((rd_T36 s y).f1) == G)) = true := by simpa using J))
      clear J
      obtain rfl := Option.some.inj H
      have aD := ac.out
      have aE := ad.out
      obtain ⟨aF, aG⟩ := bc2 (w := wr) z.out
      have aH := blk_frozen z.out
      have T : 0 ≤ (y : Int) := oda
      have X : y < (s.length : Int) := oda
      obtain ⟨ay, ai, ae, af⟩ := at_T36 ao.out y T X
      cases ai
      replace ae := cb HB ae
      replace af := cb HB af
      replace T := eq_true T
      replace X := eq_true X
      obtain ⟨aI, aJ⟩ := bc2 (w := wr) O.out
      have aK := blk_frozen O.out
      go_wp2
      repeat (go_quiet (fail); try go_wp2)
      go_ret
      exact ⟨eqr, bs HB.out⟩
     ·rw [if_neg J] at H
      have av : (((rd_T36 s y).f0) == D && (((rd_T36 s y).f1) == G)) = false := by simpa using J
      (try (have aw : decide (((rd_T36 s y).f0) = D && (((rd_T36 s y).f1) == G)) = false := by simpa using J))
      (try (have ax : (((rd_T36 s y).f0) == D && (((rd_T36 s y).f1) == G)) = false := by simpa using J))
      (try (have aL : ¬ (((rd_T36 s y).f0) = D && (((rd_T36 s y).f1) == G)) := by simpa using J))
      clear J
      have H' := am H
      clear H
      have aM := ac.out
      have aN := ad.out
      obtain ⟨aO, aP⟩ := bc2 (w := wr) z.out
      have aQ := blk_frozen z.out
      have T : 0 ≤ (y : Int) := oda
      have X : y < (s.length : Int) := oda
      obtain ⟨ay, ai, ae, af⟩ := at_T36 ao.out y T X
      cases ai
      replace ae := cb HB ae
      replace af := cb HB af
      replace T := eq_true T
      replace X := eq_true X
      obtain ⟨aR, aS⟩ := bc2 (w := wr) O.out
      have aT := blk_frozen O.out
      go_wp2
      repeat (go_quiet (fail); try go_wp2)
      go_roundg k1
      case measure => have := ar.out; omega
      case rel => exact ⟨(wrap64 (y + 1)), eqs, H', ⟨by have := ar.out; omega⟩, ⟨bf z.out⟩, ⟨bf O.out⟩, ⟨bs HB.out⟩⟩
    ·rw [if_neg c6] at H
     exact absurd H (by simp)
   ·rw [if_neg c5] at H
    have au : decide (y < (s.length : Int)) = false := decide_eq_false c5
    clear c5
    obtain rfl := Option.some.inj H
    have aU := ac.out
    have aV := ad.out
    obtain ⟨aW, aX⟩ := bc2 (w := wr) z.out
    have aY := blk_frozen z.out
    go_wp2
    repeat (go_quiet (fail); try go_wp2)
    go_ret
    exact ⟨eqr, bs HB.out⟩

end Go.Proofs.Ytohmemckdogljaa.QFnGraphUnion
