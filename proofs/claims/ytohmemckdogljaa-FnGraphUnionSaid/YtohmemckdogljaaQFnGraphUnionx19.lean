/- Contracts of the Go functions that this law reaches: each does what its plain Lean function says. No condition. -/
import Derived.Test.YtohmemckdogljaaQFnGraphUnionx0
import Derived.Test.YtohmemckdogljaaQFnGraphUnionx4
import Derived.Test.YtohmemckdogljaaQFnGraphUnionx5
import Derived.Test.YtohmemckdogljaaQFnGraphUnionx7
import Derived.Test.YtohmemckdogljaaQFnGraphUnionx8
import Derived.Test.YtohmemckdogljaaQFnGraphUnionx18
namespace Go.Proofs.Ytohmemckdogljaa.QFnGraphUnion
open Go.RowKit Go.Proofs.YtohmemckdogljaaW.PrintWords Go.Proofs.YtohmemckdogljaaW.PrintLast Go.Proofs.YtohmemckdogljaaW.PrintMore Go.Proofs.Ytohmemckdogljaa.Bl
attribute [local go_sem] max2_int min2_int max_two min_two max_three min_three max_four min_four   -- for this text's walks alone
set_option linter.unusedVariables false
set_option linter.unusedSimpArgs false
set_option maxHeartbeats 8000000
set_option maxRecDepth 100000

/-! ### laws_FnGraphUnion: function 11 -/
mutual
def laws_FnGraphUnion.j0 : Nat → List Int → List Int → Bool → Option (Bool)
 | 0, _, _, _ => none
 | k + 1, G, I, J => if J = true then (some true) else ((spec_DrawGraphView.f k G).bind fun s => ((spec_DrawGraphView.f k I).bind fun z => ((impl_GraphView.f k s.1 s.2.1 s.2.2).bind fun y => ((spec_GraphView.f k s.1 s.2.1 s.2.2).bind fun D => ((impl_GraphSame.f k y.1 y.2 D.1 D.2).bind fun L => (if L = true then ((spec_GraphOk.f k s.1 s.2.1).bind fun M => (if M = true then ((impl_LabelOk.f s.2.2).bind fun O => (if O = true then ((impl_LabelOk.f z.2.2).bind fun T => (laws_FnGraphUnion.j1 k s.2.2 z.2.2 (!T) s.1 s.2.1 y.1 y.2)) else (laws_FnGraphUnion.j1 k s.2.2 z.2.2 true s.1 s.2.1 y.1 y.2))) else (laws_FnGraphUnion.j1 k s.2.2 z.2.2 true s.1 s.2.1 y.1 y.2))) else (laws_FnGraphUnion.j1 k s.2.2 z.2.2 true s.1 s.2.1 y.1 y.2)))))))
def laws_FnGraphUnion.j1 : Nat → Int → Int → Bool → List (S36) → List (S56) → List (S36) → List (S56) → Option (Bool)
 | 0, _, _, _, _, _, _, _ => none
 | k + 1, z, D, T, s, y, G, I => if T = true then ((spec_GraphView.f k s y z).bind fun J => ((impl_GraphSame.f k G I J.1 J.2).bind fun X => (some X))) else ((impl_GraphView.f k s y D).bind fun L => ((impl_LabelJoin.f z D).bind fun Y => ((impl_GraphView.f k s y Y).bind fun M => ((impl_LabelMeet.f z D).bind fun Z => ((impl_GraphView.f k s y Z).bind fun O => (laws_FnGraphUnion.l0 k 0 0 G I L.1 L.2 M.1 M.2 O.1 O.2))))))
def laws_FnGraphUnion.l0 : Nat → Int → Int → List (S36) → List (S56) → List (S36) → List (S56) → List (S36) → List (S56) → List (S36) → List (S56) → Option (Bool)
 | 0, _, _, _, _, _, _, _, _, _, _ => none
 | k + 1, M, s, G, I, J, L, y, O, z, D => if s < (y.length : Int) then (if 0 ≤ s then ((laws_wpAt.f k G I ((rd_T36 y s).f0) ((rd_T36 y s).f1)).bind fun T => ((laws_wpAt.f k J L ((rd_T36 y s).f0) ((rd_T36 y s).f1)).bind fun X => (if T ≥ 0 then ((laws_wpAt.f k z D ((rd_T36 y s).f0) ((rd_T36 y s).f1)).bind fun Y => (laws_FnGraphUnion.j3 k M s (decide (T ≥ 0)) (decide (X ≥ 0)) ((decide (X ≥ 0)) != (decide (Y ≥ 0))) G I J L y O z D)) else ((laws_wpAt.f k z D ((rd_T36 y s).f0) ((rd_T36 y s).f1)).bind fun Z => (laws_FnGraphUnion.j3 k M s (decide (T ≥ 0)) (decide (X ≥ 0)) (false != (decide (Z ≥ 0))) G I J L y O z D))))) else (none)) else (if M = (wrap64 ((wrap64 ((G.length : Int) + (J.length : Int))) - (z.length : Int))) then (some (decide ((wrap64 ((wrap64 ((I.length : Int) + (L.length : Int))) - (D.length : Int))) ≤ (O.length : Int)))) else (some false))
def laws_FnGraphUnion.j3 : Nat → Int → Int → Bool → Bool → Bool → List (S36) → List (S56) → List (S36) → List (S56) → List (S36) → List (S56) → List (S36) → List (S56) → Option (Bool)
 | 0, _, _, _, _, _, _, _, _, _, _, _, _, _ => none
 | k + 1, s, y, T, X, Y, z, D, G, I, J, L, M, O => if Y = true then (some false) else (if T = true then (laws_FnGraphUnion.l0 k (wrap64 (s + 1)) (wrap64 (y + 1)) z D G I J L M O) else (if X = true then (laws_FnGraphUnion.l0 k (wrap64 (s + 1)) (wrap64 (y + 1)) z D G I J L M O) else (laws_FnGraphUnion.l0 k s (wrap64 (y + 1)) z D G I J L M O)))
end
def laws_FnGraphUnion.f (k : Nat) (l0 : List Int) (l1 : List Int) : Option (Bool) := if (l0.length : Int) > 1048576 then (laws_FnGraphUnion.j0 k l0 l1 true) else (laws_FnGraphUnion.j0 k l0 l1 (decide ((l1.length : Int) > 1048576)))
def laws_FnGraphUnion.T6 : Bool × List (List Nat × List Nat) := (true, [([], []), ([], []), ([], []), ([1, 2], [1, 2]), ([0, 3, 3], [0, 3]), ([4], [4]), ([5, 4], [5]), ([6], [6]), ([7, 6, 6], [6, 7]), ([8, 6], [6, 8]), ([6, 9], [6, 9]), ([10, 8], [10]), ([11], [11]), ([12, 11, 11], [11, 12]), ([13, 11], [11, 13]), ([11, 14], [11, 14]), ([15, 13], [15]), ([16], [16]), ([17, 16, 16], [16, 17]), ([18, 16], [16, 18]), ([16, 19], [16, 19])])
def laws_FnGraphUnion.B6 : List Nat := [0, 0, 0, 6, 15, 31, 63, 127, 255, 511, 1023, 2047, 4095, 8191, 16383, 32767, 65535, 131071, 262143, 524287, 1048575]
theorem laws_FnGraphUnion.tab6 : rtab .any (opsOf Try.f11 6) = laws_FnGraphUnion.T6 := by kernel_rfl
theorem laws_FnGraphUnion.bits6 : waitsOk laws_FnGraphUnion.T6.2 laws_FnGraphUnion.B6 = true := by kernel_rfl
def laws_FnGraphUnion.T15 : Bool × List (List Nat × List Nat) := (true, [([], []), ([], []), ([1], [1]), ([], []), ([2, 3], [2, 3]), ([4], [4]), ([0, 5], [0, 5]), ([6], [6]), ([7, 6, 0, 1, 2, 3, 4, 5, 6, 7], [7])])
def laws_FnGraphUnion.B15 : List Nat := [0, 0, 2, 0, 14, 30, 63, 127, 255]
theorem laws_FnGraphUnion.tab15 : rtab .any (opsOf Try.f11 15) = laws_FnGraphUnion.T15 := by kernel_rfl
theorem laws_FnGraphUnion.bits15 : waitsOk laws_FnGraphUnion.T15.2 laws_FnGraphUnion.B15 = true := by kernel_rfl
def laws_FnGraphUnion.T16 : Bool × List (List Nat × List Nat) := (true, [([], []), ([], []), ([1], [1]), ([], []), ([2, 3], [2, 3]), ([4], [4]), ([0, 5], [0, 5]), ([6], [6]), ([7, 6, 0, 1, 2, 3, 4, 5, 6, 7], [7])])
def laws_FnGraphUnion.B16 : List Nat := [0, 0, 2, 0, 14, 30, 63, 127, 255]
theorem laws_FnGraphUnion.tab16 : rtab .any (opsOf Try.f11 16) = laws_FnGraphUnion.T16 := by kernel_rfl
theorem laws_FnGraphUnion.bits16 : waitsOk laws_FnGraphUnion.T16.2 laws_FnGraphUnion.B16 = true := by kernel_rfl
def laws_FnGraphUnion.T17 : Bool × List (List Nat × List Nat) := (true, [([], []), ([0], [0]), ([1], [1]), ([1, 2], [1, 2]), ([], []), ([], []), ([5], [5]), ([], []), ([6, 7], [6, 7]), ([8], [8]), ([4, 9, 1], [4, 9]), ([10], [10]), ([3, 11], [3, 11])])
def laws_FnGraphUnion.B17 : List Nat := [0, 1, 3, 7, 0, 0, 32, 0, 224, 480, 1011, 2035, 4095]
theorem laws_FnGraphUnion.tab17 : rtab .any (opsOf Try.f11 17) = laws_FnGraphUnion.T17 := by kernel_rfl
theorem laws_FnGraphUnion.bits17 : waitsOk laws_FnGraphUnion.T17.2 laws_FnGraphUnion.B17 = true := by kernel_rfl
theorem laws_FnGraphUnion.calls (k : Nat) (A0 : Option Addr) (c0 : Nat) (l0 : List Int) (A1 : Option Addr) (c1 : Nat) (l1 : List Int) (r : Bool) (hT : Aside0 (r = true)) (w : World) (em : Kd.C (Kd.int .u8) w A0 l0.length l0) (en : l0.length ≤ c0) (eo : Kd.C (Kd.int .u8) w A1 l1.length l1) (ep : l1.length ≤ c1) (h : laws_FnGraphUnion.f k l0 l1 = some r) :
  Calls Try.prog 11 #[.slice A0 l0.length c0, .slice A1 l1.length c1] w fun e w' => e = .returned (.bool r) ∧ Below w.heap.size w w' := by
 have hu34 := Try.underlying34
 have hu36 := Try.underlying36
 have fD := am em
 have fE := am en
 clear em en
 have fF := am eo
 have fG := am ep
 clear eo ep
 have HB := am (Below.refl w.heap.size w)
 have H := h; unfold laws_FnGraphUnion.f at H
 clear h
 have d0 := am H
 clear H
 go_enter Try.func11, Try.ntmps11
 go_upto_region 1 with (fail)
 go_cut [24] (fun fH wc => ∃ (kq : Nat) (dO : Bool), fH = .bool dO ∧ Aside0 (laws_FnGraphUnion.j0 kq l0 l1 dO = some r) ∧ Aside0 (kq ≤ k) ∧ Aside0 (Below w.heap.size w wc))
 case first =>
  have H := d0.out
  clear d0
  by_cases c4 : (l0.length : Int) > 1048576
  ·rw [if_pos c4] at H
   have cO : decide (1048576 < (l0.length : Int)) = true := decide_eq_true c4
   have eq : decide (1048576 < l0.length) = true := decide_eq_true (by omega)
   clear c4
   (first | rw [cO] | (simp only [i64_w, i32_w]; rw [cO]) | skip)
   have H' := am H
   clear H
   go_wp2
   go_meet
   case rel => exact ⟨_, (true), eqs, H', ⟨by first | omega | exact Nat.le_refl _⟩, ⟨bs HB.out⟩⟩
  ·rw [if_neg c4] at H
   have cO : decide (1048576 < (l0.length : Int)) = false := decide_eq_false c4
   have eq : decide (1048576 < l0.length) = false := decide_eq_false (by omega)
   clear c4
   (first | rw [cO] | (simp only [i64_w, i32_w]; rw [cO]) | skip)
   have H' := am H
   clear H
   go_wp2
   go_meet
   case rel => exact ⟨_, (decide ((l1.length : Int) > 1048576)), eqs, H', ⟨by first | omega | exact Nat.le_refl _⟩, ⟨bs HB.out⟩⟩
 case rest =>
  clear d0
  try clear c1
  try clear p2
  try clear c4
  try clear cO
  try clear eq
  obtain ⟨kq, dO, rfl, HA, bW, HB⟩ := hcut
  cases kq with
  | zero => exact absurd HA.out (by simp [laws_FnGraphUnion.j0])
  | succ a9 =>
   have H := HA.out
   clear HA
   simp only [laws_FnGraphUnion.j0] at H
   by_cases c5 : dO = true
   ·subst c5
    replace H : (some true) = some r := by rw [if_pos rfl] at H; exact H
    obtain rfl := Option.some.inj H
    go_wp2
    go_ret
    exact ⟨eqr, bs HB.out⟩
   ·replace c5 := Bool.eq_false_iff.mpr c5
    subst c5
    have H1 : ((spec_DrawGraphView.f a9 l0).bind fun bI => ((spec_DrawGraphView.f a9 l1).bind fun cZ => ((impl_GraphView.f a9 bI.1 bI.2.1 bI.2.2).bind fun b5 => ((spec_GraphView.f a9 bI.1 bI.2.1 bI.2.2).bind fun er => ((impl_GraphSame.f a9 b5.1 b5.2 er.1 er.2).bind fun d1 => (if d1 = true then ((spec_GraphOk.f a9 bI.1 bI.2.1).bind fun c2 => (if c2 = true then ((impl_LabelOk.f bI.2.2).bind fun cI => (if cI = true then ((impl_LabelOk.f cZ.2.2).bind fun b6 => (laws_FnGraphUnion.j1 a9 bI.2.2 cZ.2.2 (!b6) bI.1 bI.2.1 b5.1 b5.2)) else (laws_FnGraphUnion.j1 a9 bI.2.2 cZ.2.2 true bI.1 bI.2.1 b5.1 b5.2))) else (laws_FnGraphUnion.j1 a9 bI.2.2 cZ.2.2 true bI.1 bI.2.1 b5.1 b5.2))) else (laws_FnGraphUnion.j1 a9 bI.2.2 cZ.2.2 true bI.1 bI.2.1 b5.1 b5.2))))))) = some r := by rw [if_neg (show ¬ (false = true) by decide)] at H; exact H
    clear H
    have H := H1
    clear H1
    replace H := Option.bind_eq_some_iff.mp H
    obtain ⟨⟨I, J, a4⟩, es, H⟩ := H
    try dsimp -simprocs only at H
    have A6 := am es
    clear es
    replace H := Option.bind_eq_some_iff.mp H
    obtain ⟨⟨ap, aq, bi⟩, et, H⟩ := H
    try dsimp -simprocs only at H
    have A7 := am et
    clear et
    replace H := Option.bind_eq_some_iff.mp H
    obtain ⟨⟨z, G⟩, eu, H⟩ := H
    try dsimp -simprocs only at H
    have A8 := am eu
    clear eu
    have d2 := am H
    clear H
    go_upto_region 6 with (first | ((with_reducible refine gc 45 rfl ?_); refine gl 27 Try.func45 #[.slice A0 l0.length c0] ?_; (with_reducible refine (spec_DrawGraphView.calls a9 _ _ l0 I J a4 _ ?aR ?aS A6.out).mono ?_); (case aR => exact Kd.C_below fD.out (bs HB.out)); (case aS => exact fE.out); rintro e gP ⟨gQ, gR, rfl, al, an, hb⟩; refine ⟨_, rfl, ?_⟩; have ar := am (Kd.Q_lower al (below_size (bs HB.out))); have au := am (Kd.R_lower an (below_size (bs HB.out))); replace HB := hs HB hb; (try clear al an hb)) | ((with_reducible refine gd 5 rfl ?_); refine bx 5 (cs := #[.slice none 0 0, .slice none 0 0]) (t := 34) ?_; intro aY hg fI hbox hb; replace ar := qb ar hb; replace au := rb au hb; have s := am hbox; have gS := gwb HB hg; replace HB := hs HB hb; clear hb hbox hg; obtain ⟨af, ac, fJ, _⟩ := Kd.Q_slice ar.out; subst fJ; obtain ⟨gT, gU⟩ := bc2 (w := fI) s.out; have gV := blk_frozen s.out; obtain ⟨ag, ad, fK⟩ := Kd.R_slice au.out; subst fK) | ((with_reducible refine gc 45 rfl ?_); refine gl 32 Try.func45 #[.slice A1 l1.length c1] ?_; (with_reducible refine (spec_DrawGraphView.calls a9 _ _ l1 ap aq bi _ ?aR ?aS A7.out).mono ?_); (case aR => exact Kd.C_below fF.out (bs HB.out)); (case aS => exact fG.out); rintro e gW ⟨gX, gY, rfl, al, an, hb⟩; refine ⟨_, rfl, ?_⟩; have aK := am (Kd.Q_lower (Kd.Q_new' al (Kd.Q_lt (qt ar.out s.out (by decide)))) (below_size (bs HB.out))); replace ar := am (Kd.Q_elder' (qt ar.out s.out (by decide)) (Kd.Q_base al) hb); have aL := am (Kd.R_lower (Kd.R_new' an (Kd.R_lt (rt au.out s.out (by decide)))) (below_size (bs HB.out))); replace au := am (Kd.R_elder' (rt au.out s.out (by decide)) (Kd.R_base an) hb); replace s := bq #[.slice af I.length ac, .slice ag J.length ad] s hb; replace HB := hs HB hb; (try clear hb); (try clear hb2); (try clear hk); (try clear hi); (try clear al); (try clear an)) | ((with_reducible refine gd 7 rfl ?_); refine bx 7 (cs := #[.slice none 0 0, .slice none 0 0]) (t := 34) ?_; intro bJ hg ev hbox hb; replace ar := qb ar hb; replace au := rb au hb; replace aK := qb aK hb; replace aL := rb aL hb; have D := am hbox; have gZ := gwb HB hg; replace HB := hs HB hb; have ew := nq s hg; have ex := nq' s hg; replace s := bb s hb rfl; clear hb hbox hg; obtain ⟨ax, ay, fL, _⟩ := Kd.Q_slice aK.out; subst fL; have g0 := ex.out; have g1 := ew.out; obtain ⟨g2, g3⟩ := bc2 (w := ev) D.out; have g4 := blk_frozen D.out; obtain ⟨az, aA, fM⟩ := Kd.R_slice aL.out; subst fM; obtain ⟨g5, g6⟩ := bc2 (w := ev) s.out; have g7 := blk_frozen s.out) | ((with_reducible refine gc 36 rfl ?_); refine gl 37 Try.func36 #[.agg #[.slice af I.length ac, .slice ag J.length ad], .int .i64 a4] ?_; (with_reducible refine (impl_GraphView.calls a9 _ _ I _ _ J a4 z G _ ?aR ?aS ?aT ?aU A8.out).mono ?_); (case aR => refine (Kd.Q_reads' (e := 36) (base := w.heap.size) (ok := fun k_ => (True ∧ some k_ ≠ (.slice ax ap.length ay : Value).ownBlock)) (n := I.length) (c := ac) ?_).2.2; exact (qt ar.out D.out (by decide))); (case aS => exact cd ar); (case aT => refine (Kd.R_reads' (e := 56) (base := w.heap.size) (ok := fun k_ => (True ∧ some k_ ≠ (.slice az aq.length aA : Value).ownBlock)) (n := J.length) (c := ad) ?_).2.2; exact (rt au.out D.out (by decide))); (case aU => exact cc au); rintro e g8 ⟨g9, hh, rfl, al, an, hb⟩; refine ⟨_, rfl, ?_⟩; have aG := am (Kd.R_lower (Kd.R_new' (Kd.R_new' al (Kd.Q_lt (qt ar.out D.out (by decide)))) (Kd.Q_lt (qt aK.out D.out (by decide)))) (below_size (bs HB.out))); replace ar := am (Kd.Q_elder' (qt ar.out D.out (by decide)) (Kd.R_base al) hb); replace aK := am (Kd.Q_elder' (qt aK.out D.out (by decide)) (Kd.R_base al) hb); have aH := am (Kd.R_lower (Kd.R_new' (Kd.R_new' an (Kd.R_lt (rt au.out D.out (by decide)))) (Kd.R_lt (rt aL.out D.out (by decide)))) (below_size (bs HB.out))); replace au := am (Kd.R_elder' (rt au.out D.out (by decide)) (Kd.R_base an) hb); replace aL := am (Kd.R_elder' (rt aL.out D.out (by decide)) (Kd.R_base an) hb); replace s := am (blk_below (g := aY) (o := .cells #[.slice af I.length ac, .slice ag J.length ad] 34 (0, 0)) (bf s.out) hb); replace D := bq #[.slice ax ap.length ay, .slice az aq.length aA] D hb; replace HB := hs HB hb; (try clear hb); (try clear hb2); (try clear hk); (try clear hi); (try clear al); (try clear an)) | ((with_reducible refine gd 9 rfl ?_); refine bx 9 (cs := #[.slice none 0 0, .slice none 0 0]) (t := 34) ?_; intro X hg aW hbox hb; replace ar := qb ar hb; replace au := rb au hb; replace aK := qb aK hb; replace aL := rb aL hb; replace aG := rb aG hb; replace aH := rb aH hb; have y := am hbox; have hj := gwb HB hg; replace HB := hs HB hb; have d3 := nq s hg; have d4 := nq' s hg; replace s := bb s hb rfl; have ey := nq D hg; have ez := nq' D hg; replace D := bb D hb rfl; clear hb hbox hg; obtain ⟨L, M, fN⟩ := Kd.R_slice aG.out; subst fN; have ho := d4.out; have hp := d3.out; have hu := ez.out; have hv := ey.out; obtain ⟨hx, hy⟩ := bc2 (w := aW) y.out; have hz := blk_frozen y.out; obtain ⟨O, T, fO⟩ := Kd.R_slice aH.out; subst fO))
    (try simp only [Act.put, List.setIfInBounds_toArray, List.set_cons_zero, List.set_cons_succ])
    go_cut [58] (fun fP wc => ∃ (kq : Nat) (dP : Bool), fP = .bool dP ∧ Aside0 (laws_FnGraphUnion.j1 kq a4 bi dP I J z G = some r) ∧ Aside0 (kq ≤ a9) ∧ Aside0 (Kd.Q k36 36 wc w.heap.size (fun k_ => some k_ ≠ ((.slice ax ap.length ay) : Value).ownBlock ∧ some k_ ≠ ((.slice L z.length M) : Value).ownBlock) (.slice af I.length ac) I) ∧ Aside0 (Kd.R k56 56 wc w.heap.size (fun k_ => some k_ ≠ ((.slice az aq.length aA) : Value).ownBlock ∧ some k_ ≠ ((.slice O G.length T) : Value).ownBlock) (.slice ag J.length ad) J) ∧ Aside0 (Kd.Q k36 36 wc w.heap.size (fun k_ => some k_ ≠ ((.slice af I.length ac) : Value).ownBlock ∧ some k_ ≠ ((.slice L z.length M) : Value).ownBlock) (.slice ax ap.length ay) ap) ∧ Aside0 (Kd.R k56 56 wc w.heap.size (fun k_ => some k_ ≠ ((.slice ag J.length ad) : Value).ownBlock ∧ some k_ ≠ ((.slice O G.length T) : Value).ownBlock) (.slice az aq.length aA) aq) ∧ Aside0 (Kd.R k36 36 wc w.heap.size (fun k_ => some k_ ≠ ((.slice af I.length ac) : Value).ownBlock ∧ some k_ ≠ ((.slice ax ap.length ay) : Value).ownBlock) (.slice L z.length M) z) ∧ Aside0 (Kd.R k56 56 wc w.heap.size (fun k_ => some k_ ≠ ((.slice ag J.length ad) : Value).ownBlock ∧ some k_ ≠ ((.slice az aq.length aA) : Value).ownBlock) (.slice O G.length T) G) ∧ Aside0 (wc.heap[aY]? = some (.cells #[(.slice af I.length ac), (.slice ag J.length ad)] 34 (0, 0))) ∧ Aside0 (wc.heap[bJ]? = some (.cells #[(.slice ax ap.length ay), (.slice az aq.length aA)] 34 (0, 0))) ∧ Aside0 (wc.heap[X]? = some (.cells #[(.slice L z.length M), (.slice O G.length T)] 34 (0, 0))) ∧ Aside0 (Below w.heap.size w wc))
    case first =>
     have H := d2.out
     clear d2
     replace H := Option.bind_eq_some_iff.mp H
     obtain ⟨⟨bX, bY⟩, eA, H⟩ := H
     try dsimp -simprocs only at H
     have dQ := am eA
     clear eA
     replace H := Option.bind_eq_some_iff.mp H
     obtain ⟨d1, eB, H⟩ := H
     try dsimp -simprocs only at H
     have dR := am eB
     clear eB
     by_cases c6 : d1 = true
     ·subst c6
      replace H : ((spec_GraphOk.f a9 I J).bind fun c2 => (if c2 = true then ((impl_LabelOk.f a4).bind fun cI => (if cI = true then ((impl_LabelOk.f bi).bind fun b6 => (laws_FnGraphUnion.j1 a9 a4 bi (!b6) I J z G)) else (laws_FnGraphUnion.j1 a9 a4 bi true I J z G))) else (laws_FnGraphUnion.j1 a9 a4 bi true I J z G))) = some r := by rw [if_pos rfl] at H; exact H
      replace H := Option.bind_eq_some_iff.mp H
      obtain ⟨c2, eC, H⟩ := H
      try dsimp -simprocs only at H
      have d5 := am eC
      clear eC
      by_cases c7 : c2 = true
      ·subst c7
       replace H : ((impl_LabelOk.f a4).bind fun cI => (if cI = true then ((impl_LabelOk.f bi).bind fun b6 => (laws_FnGraphUnion.j1 a9 a4 bi (!b6) I J z G)) else (laws_FnGraphUnion.j1 a9 a4 bi true I J z G))) = some r := by rw [if_pos rfl] at H; exact H
       replace H := Option.bind_eq_some_iff.mp H
       obtain ⟨cI, eD, H⟩ := H
       try dsimp -simprocs only at H
       have eE := am eD
       clear eD
       by_cases c8 : cI = true
       ·subst c8
        replace H : ((impl_LabelOk.f bi).bind fun b6 => (laws_FnGraphUnion.j1 a9 a4 bi (!b6) I J z G)) = some r := by rw [if_pos rfl] at H; exact H
        replace H := Option.bind_eq_some_iff.mp H
        obtain ⟨b6, eF, H⟩ := H
        try dsimp -simprocs only at H
        have fQ := am eF
        clear eF
        have H' := am H
        clear H
        try go_wp2
        have bj : Aside0 (Kd.Q k36 36 ((aW.setCell ⟨X, 0, none⟩ (.slice L z.length M)).setCell ⟨X, 1, none⟩ (.slice O G.length T)) w.heap.size (fun k_ => some k_ ≠ (.slice ax ap.length ay : Value).ownBlock ∧ some k_ ≠ (.slice L z.length M : Value).ownBlock) (.slice af I.length ac) I) := ⟨Kd.Q_mono (qt ar.out y.out (by decide)) (fun _ hk => ⟨hk.1.2, hk.2⟩)⟩
        have bk : Aside0 (Kd.R k56 56 ((aW.setCell ⟨X, 0, none⟩ (.slice L z.length M)).setCell ⟨X, 1, none⟩ (.slice O G.length T)) w.heap.size (fun k_ => some k_ ≠ (.slice az aq.length aA : Value).ownBlock ∧ some k_ ≠ (.slice O G.length T : Value).ownBlock) (.slice ag J.length ad) J) := ⟨Kd.R_mono (rt au.out y.out (by decide)) (fun _ hk => ⟨hk.1.2, hk.2⟩)⟩
        have bl : Aside0 (Kd.Q k36 36 ((aW.setCell ⟨X, 0, none⟩ (.slice L z.length M)).setCell ⟨X, 1, none⟩ (.slice O G.length T)) w.heap.size (fun k_ => some k_ ≠ (.slice af I.length ac : Value).ownBlock ∧ some k_ ≠ (.slice L z.length M : Value).ownBlock) (.slice ax ap.length ay) ap) := ⟨Kd.Q_mono (qt aK.out y.out (by decide)) (fun _ hk => ⟨hk.1.2, hk.2⟩)⟩
        have bm : Aside0 (Kd.R k56 56 ((aW.setCell ⟨X, 0, none⟩ (.slice L z.length M)).setCell ⟨X, 1, none⟩ (.slice O G.length T)) w.heap.size (fun k_ => some k_ ≠ (.slice ag J.length ad : Value).ownBlock ∧ some k_ ≠ (.slice O G.length T : Value).ownBlock) (.slice az aq.length aA) aq) := ⟨Kd.R_mono (rt aL.out y.out (by decide)) (fun _ hk => ⟨hk.1.2, hk.2⟩)⟩
        have bn : Aside0 (Kd.R k36 36 ((aW.setCell ⟨X, 0, none⟩ (.slice L z.length M)).setCell ⟨X, 1, none⟩ (.slice O G.length T)) w.heap.size (fun k_ => some k_ ≠ (.slice af I.length ac : Value).ownBlock ∧ some k_ ≠ (.slice ax ap.length ay : Value).ownBlock) (.slice L z.length M) z) := ⟨Kd.R_mono (rt aG.out y.out (by decide)) (fun _ hk => ⟨hk.1.2, hk.2⟩)⟩
        have bo : Aside0 (Kd.R k56 56 ((aW.setCell ⟨X, 0, none⟩ (.slice L z.length M)).setCell ⟨X, 1, none⟩ (.slice O G.length T)) w.heap.size (fun k_ => some k_ ≠ (.slice ag J.length ad : Value).ownBlock ∧ some k_ ≠ (.slice az aq.length aA : Value).ownBlock) (.slice O G.length T) G) := ⟨Kd.R_mono (rt aH.out y.out (by decide)) (fun _ hk => ⟨hk.1.2, hk.2⟩)⟩
        have br : Aside0 (((aW.setCell ⟨X, 0, none⟩ (.slice L z.length M)).setCell ⟨X, 1, none⟩ (.slice O G.length T)).heap[aY]? = some (.cells #[.slice af I.length ac, .slice ag J.length ad] 34 (0, 0))) := ⟨bf s.out⟩
        have bt : Aside0 (((aW.setCell ⟨X, 0, none⟩ (.slice L z.length M)).setCell ⟨X, 1, none⟩ (.slice O G.length T)).heap[bJ]? = some (.cells #[.slice ax ap.length ay, .slice az aq.length aA] 34 (0, 0))) := ⟨bf D.out⟩
        have bu : Aside0 (((aW.setCell ⟨X, 0, none⟩ (.slice L z.length M)).setCell ⟨X, 1, none⟩ (.slice O G.length T)).heap[X]? = some (.cells #[.slice L z.length M, .slice O G.length T] 34 (0, 0))) := ⟨by (with_reducible repeat (first | refine blk_drewN ?_ _ | refine blk_drew ?_ | refine blk_alloc ?_ _)); refine blk_put (cs := #[.slice L z.length M, .slice none 0 0]) ?_ 1 _ rfl; (with_reducible repeat (first | refine blk_drewN ?_ _ | refine blk_drew ?_ | refine blk_alloc ?_ _)); refine blk_put (cs := #[.slice none 0 0, .slice none 0 0]) ?_ 0 _ rfl; exact bf y.out⟩
        have bv : Aside0 (Below w.heap.size w ((aW.setCell ⟨X, 0, none⟩ (.slice L z.length M)).setCell ⟨X, 1, none⟩ (.slice O G.length T))) := ⟨bs HB.out⟩
        (try clear ar)
        (try clear au)
        (try clear aK)
        (try clear aL)
        (try clear aG)
        (try clear aH)
        (try clear s)
        (try clear D)
        (try clear y)
        (try clear HB)
        generalize ((aW.setCell ⟨X, 0, none⟩ (.slice L z.length M)).setCell ⟨X, 1, none⟩ (.slice O G.length T)) = fR at bj bk bl bm bn bo br bt bu bv ⊢
        have ar := bj
        have au := bk
        have aK := bl
        have aL := bm
        have aG := bn
        have aH := bo
        have s := br
        have D := bt
        have y := bu
        have HB := bv
        clear bj bk bl bm bn bo br bt bu bv
        replace ar := qd ar
        replace au := rd_ au
        replace aK := qd aK
        replace aL := rd_ aL
        replace aG := rd_ aG
        replace aH := rd_ aH
        replace s := bd s
        replace D := bd D
        replace y := bd y
        replace HB := hd HB
        refine sta 21 (fun w' => w'.cell? ⟨X, 0, none⟩ = some (.slice L z.length M) ∧ w'.cell? ⟨X, 1, none⟩ = some (.slice O G.length T) ∧ w'.cell? ⟨aY, 0, none⟩ = some (.slice af I.length ac) ∧ w'.cell? ⟨aY, 1, none⟩ = some (.slice ag J.length ad)) [] ⟨cx y 0, cx y 1, cx s 0, cx s 1⟩ (fun hHeld => ?_); refine with_tabW laws_FnGraphUnion.tab6 laws_FnGraphUnion.bits6 (fun HT_ HW_ => ?_)
        generalize fR.drew = hA at ar au aK aL aG aH s D y HB hHeld ⊢
        refine pu 2 40 ?_
        refine tk 0 38 ?_
        refine tk 1 39 ?_
        refine on 3 41 (fun K hK => ?_)
        refine gs Try.func35 #[.agg #[.slice af I.length ac, .slice ag J.length ad], .int .i64 a4] ?_
        with_reducible refine (spec_GraphView.calls a9 _ _ I _ _ J a4 bX bY _ ?aR ?aS ?aT ?aU dQ.out).mono ?_
        (case aR => exact cq ar)
        (case aS => exact cd ar)
        (case aT => exact cr au)
        (case aU => exact cc au)
        rintro e hC ⟨d6, d7, rfl, al, an, hb⟩
        refine ⟨_, rfl, ?_⟩
        have bw := am (Kd.R_lower (Kd.R_new' (Kd.R_new' (Kd.R_new' al (ql ar)) (ql aK)) (rk aG)) (below_size (bs HB.out)))
        replace ar := qe ar al hb
        replace aK := qe aK al hb
        replace aG := re aG al hb
        have bz := am (Kd.R_lower (Kd.R_new' (Kd.R_new' (Kd.R_new' an (rk au)) (rk aL)) (rk aH)) (below_size (bs HB.out)))
        replace au := re au an hb
        replace aL := re aL an hb
        replace aH := re aH an hb
        replace s := bb s hb rfl
        replace D := bb D hb rfl
        replace y := bb y hb rfl
        replace HB := hs HB hb
        (try clear hb)
        (try clear hb2)
        (try clear hk)
        (try clear hi)
        (try clear al)
        (try clear an)
        obtain ⟨fS, fT, eG⟩ := Kd.R_slice bw.out
        (first | subst eG | (injection eG with a2 bC a3; have bD := a2.symm; have bE := a3.symm; clear a2 bC a3; subst bD; subst bE))
        obtain ⟨fU, fV, eH⟩ := Kd.R_slice bz.out
        (first | subst eH | (injection eH with a2 bC a3; have bD := a2.symm; have bE := a3.symm; clear a2 bC a3; subst bD; subst bE))
        refine hK.out _ _ ⟨cx y 0, cx y 1, cx s 0, cx s 1⟩ (fun hHeld => ?_)
        clear hK K
        refine nrm 41 ?_
        refine on 4 42 (fun K hK => ?_)
        refine gs Try.func41 #[.agg #[.slice L z.length M, .slice O G.length T], .agg #[.slice fS bX.length fT, .slice fU bY.length fV]] ?_
        with_reducible refine (impl_GraphSame.calls a9 _ _ z _ _ G _ _ bX _ _ bY true _ ?aR ?aS ?aT ?aU ?cn ?co ?cp ?ct dR.out).mono ?_
        (case aR => exact cr aG)
        (case aS => exact cc aG)
        (case aT => exact cr aH)
        (case aU => exact cc aH)
        (case cn => exact cr bw)
        (case co => exact cc bw)
        (case cp => exact cr bz)
        (case ct => exact cc bz)
        rintro e hD ⟨rfl, hb⟩
        refine ⟨_, rfl, ?_⟩
        replace ar := qb ar hb
        replace au := rb au hb
        replace aK := qb aK hb
        replace aL := rb aL hb
        replace aG := rb aG hb
        replace aH := rb aH hb
        replace bw := rb bw hb
        replace bz := rb bz hb
        replace s := bb s hb rfl
        replace D := bb D hb rfl
        replace y := bb y hb rfl
        replace HB := hs HB hb
        (try clear hb)
        (try clear hb2)
        (try clear hk)
        (try clear hi)
        refine hK.out _ _ ⟨cx y 0, cx y 1, cx s 0, cx s 1⟩ (fun hHeld => ?_)
        clear hK K
        refine nrm 42 ?_
        refine pu 5 43 ?_
        refine pu 6 44 ?_
        refine tk 7 45 ?_
        refine on 8 46 (fun K hK => ?_)
        refine gs Try.func33 #[.agg #[.slice af I.length ac, .slice ag J.length ad]] ?_
        with_reducible refine (spec_GraphOk.calls a9 _ _ I _ _ J true _ ?aR ?aS ?aT ?aU d5.out).mono ?_
        (case aR => exact cq ar)
        (case aS => exact cd ar)
        (case aT => exact cr au)
        (case aU => exact cc au)
        rintro e hE ⟨rfl, hb⟩
        refine ⟨_, rfl, ?_⟩
        replace ar := qb ar hb
        replace au := rb au hb
        replace aK := qb aK hb
        replace aL := rb aL hb
        replace aG := rb aG hb
        replace aH := rb aH hb
        replace bw := rb bw hb
        replace bz := rb bz hb
        replace s := bb s hb rfl
        replace D := bb D hb rfl
        replace y := bb y hb rfl
        replace HB := hs HB hb
        (try clear hb)
        (try clear hb2)
        (try clear hk)
        (try clear hi)
        refine hK.out _ _ ⟨cx y 0, cx y 1, cx s 0, cx s 1⟩ (fun hHeld => ?_)
        clear hK K
        refine nrm 46 ?_
        refine pu 9 47 ?_
        refine pu 10 48 ?_
        refine pu 11 49 ?_
        refine pu 12 50 ?_
        refine on 13 51 (fun K hK => ?_)
        refine gs Try.func46 #[.int .i64 a4] ?_
        with_reducible refine (impl_LabelOk.calls a4 true _ eE.out).mono ?_
        rintro e w' ⟨rfl, ⟨nd, rfl⟩⟩
        refine ⟨_, rfl, ?_⟩
        refine hK.out _ _ ⟨cx y 0, cx y 1, cx s 0, cx s 1⟩ (fun hHeld => ?_)
        clear hK K
        refine nrm 51 ?_
        refine pu 14 52 ?_
        refine pu 15 53 ?_
        refine pu 16 54 ?_
        refine pu 17 55 ?_
        refine on 18 56 (fun K hK => ?_)
        refine gs Try.func46 #[.int .i64 bi] ?_
        with_reducible refine (impl_LabelOk.calls bi b6 _ fQ.out).mono ?_
        rintro e w' ⟨rfl, ⟨nd, rfl⟩⟩
        refine ⟨_, rfl, ?_⟩
        refine hK.out _ _ ⟨cx y 0, cx y 1, cx s 0, cx s 1⟩ (fun hHeld => ?_)
        clear hK K
        refine nrm 56 ?_
        refine pu 19 57 ?_
        refine pu 20 58 ?_
        refine dn ?_
        try go_wp2
        go_meet
        case rel => exact ⟨_, (!b6), eqs, H', ⟨by have := bW.out; first | omega | exact Nat.le_refl _⟩, ⟨by (with_reducible repeat (first | apply Kd.Q_alloc | apply Kd.Q_drewN | apply Kd.Q_drew)); exact Kd.Q_mono ar.out (fun _ hk => ⟨hk.1.1, hk.1.2⟩)⟩, ⟨by (with_reducible repeat (first | apply Kd.R_alloc | apply Kd.R_drewN | apply Kd.R_drew)); exact Kd.R_mono au.out (fun _ hk => ⟨hk.1.1, hk.1.2⟩)⟩, ⟨by (with_reducible repeat (first | apply Kd.Q_alloc | apply Kd.Q_drewN | apply Kd.Q_drew)); exact Kd.Q_mono aK.out (fun _ hk => ⟨hk.1.1, hk.1.2⟩)⟩, ⟨by (with_reducible repeat (first | apply Kd.R_alloc | apply Kd.R_drewN | apply Kd.R_drew)); exact Kd.R_mono aL.out (fun _ hk => ⟨hk.1.1, hk.1.2⟩)⟩, ⟨by (with_reducible repeat (first | apply Kd.R_alloc | apply Kd.R_drewN | apply Kd.R_drew)); exact Kd.R_mono aG.out (fun _ hk => ⟨hk.1.1, hk.1.2⟩)⟩, ⟨by (with_reducible repeat (first | apply Kd.R_alloc | apply Kd.R_drewN | apply Kd.R_drew)); exact Kd.R_mono aH.out (fun _ hk => ⟨hk.1.1, hk.1.2⟩)⟩, ⟨bf s.out⟩, ⟨bf D.out⟩, ⟨bf y.out⟩, ⟨bs HB.out⟩⟩
       ·replace c8 := Bool.eq_false_iff.mpr c8
        subst c8
        have H1 : (laws_FnGraphUnion.j1 a9 a4 bi true I J z G) = some r := by rw [if_neg (show ¬ (false = true) by decide)] at H; exact H
        clear H
        have H := H1
        clear H1
        have H' := am H
        clear H
        try go_wp2
        have bj : Aside0 (Kd.Q k36 36 ((aW.setCell ⟨X, 0, none⟩ (.slice L z.length M)).setCell ⟨X, 1, none⟩ (.slice O G.length T)) w.heap.size (fun k_ => some k_ ≠ (.slice ax ap.length ay : Value).ownBlock ∧ some k_ ≠ (.slice L z.length M : Value).ownBlock) (.slice af I.length ac) I) := ⟨Kd.Q_mono (qt ar.out y.out (by decide)) (fun _ hk => ⟨hk.1.2, hk.2⟩)⟩
        have bk : Aside0 (Kd.R k56 56 ((aW.setCell ⟨X, 0, none⟩ (.slice L z.length M)).setCell ⟨X, 1, none⟩ (.slice O G.length T)) w.heap.size (fun k_ => some k_ ≠ (.slice az aq.length aA : Value).ownBlock ∧ some k_ ≠ (.slice O G.length T : Value).ownBlock) (.slice ag J.length ad) J) := ⟨Kd.R_mono (rt au.out y.out (by decide)) (fun _ hk => ⟨hk.1.2, hk.2⟩)⟩
        have bl : Aside0 (Kd.Q k36 36 ((aW.setCell ⟨X, 0, none⟩ (.slice L z.length M)).setCell ⟨X, 1, none⟩ (.slice O G.length T)) w.heap.size (fun k_ => some k_ ≠ (.slice af I.length ac : Value).ownBlock ∧ some k_ ≠ (.slice L z.length M : Value).ownBlock) (.slice ax ap.length ay) ap) := ⟨Kd.Q_mono (qt aK.out y.out (by decide)) (fun _ hk => ⟨hk.1.2, hk.2⟩)⟩
        have bm : Aside0 (Kd.R k56 56 ((aW.setCell ⟨X, 0, none⟩ (.slice L z.length M)).setCell ⟨X, 1, none⟩ (.slice O G.length T)) w.heap.size (fun k_ => some k_ ≠ (.slice ag J.length ad : Value).ownBlock ∧ some k_ ≠ (.slice O G.length T : Value).ownBlock) (.slice az aq.length aA) aq) := ⟨Kd.R_mono (rt aL.out y.out (by decide)) (fun _ hk => ⟨hk.1.2, hk.2⟩)⟩
        have bn : Aside0 (Kd.R k36 36 ((aW.setCell ⟨X, 0, none⟩ (.slice L z.length M)).setCell ⟨X, 1, none⟩ (.slice O G.length T)) w.heap.size (fun k_ => some k_ ≠ (.slice af I.length ac : Value).ownBlock ∧ some k_ ≠ (.slice ax ap.length ay : Value).ownBlock) (.slice L z.length M) z) := ⟨Kd.R_mono (rt aG.out y.out (by decide)) (fun _ hk => ⟨hk.1.2, hk.2⟩)⟩
        have bo : Aside0 (Kd.R k56 56 ((aW.setCell ⟨X, 0, none⟩ (.slice L z.length M)).setCell ⟨X, 1, none⟩ (.slice O G.length T)) w.heap.size (fun k_ => some k_ ≠ (.slice ag J.length ad : Value).ownBlock ∧ some k_ ≠ (.slice az aq.length aA : Value).ownBlock) (.slice O G.length T) G) := ⟨Kd.R_mono (rt aH.out y.out (by decide)) (fun _ hk => ⟨hk.1.2, hk.2⟩)⟩
        have br : Aside0 (((aW.setCell ⟨X, 0, none⟩ (.slice L z.length M)).setCell ⟨X, 1, none⟩ (.slice O G.length T)).heap[aY]? = some (.cells #[.slice af I.length ac, .slice ag J.length ad] 34 (0, 0))) := ⟨bf s.out⟩
        have bt : Aside0 (((aW.setCell ⟨X, 0, none⟩ (.slice L z.length M)).setCell ⟨X, 1, none⟩ (.slice O G.length T)).heap[bJ]? = some (.cells #[.slice ax ap.length ay, .slice az aq.length aA] 34 (0, 0))) := ⟨bf D.out⟩
        have bu : Aside0 (((aW.setCell ⟨X, 0, none⟩ (.slice L z.length M)).setCell ⟨X, 1, none⟩ (.slice O G.length T)).heap[X]? = some (.cells #[.slice L z.length M, .slice O G.length T] 34 (0, 0))) := ⟨by (with_reducible repeat (first | refine blk_drewN ?_ _ | refine blk_drew ?_ | refine blk_alloc ?_ _)); refine blk_put (cs := #[.slice L z.length M, .slice none 0 0]) ?_ 1 _ rfl; (with_reducible repeat (first | refine blk_drewN ?_ _ | refine blk_drew ?_ | refine blk_alloc ?_ _)); refine blk_put (cs := #[.slice none 0 0, .slice none 0 0]) ?_ 0 _ rfl; exact bf y.out⟩
        have bv : Aside0 (Below w.heap.size w ((aW.setCell ⟨X, 0, none⟩ (.slice L z.length M)).setCell ⟨X, 1, none⟩ (.slice O G.length T))) := ⟨bs HB.out⟩
        (try clear ar)
        (try clear au)
        (try clear aK)
        (try clear aL)
        (try clear aG)
        (try clear aH)
        (try clear s)
        (try clear D)
        (try clear y)
        (try clear HB)
        generalize ((aW.setCell ⟨X, 0, none⟩ (.slice L z.length M)).setCell ⟨X, 1, none⟩ (.slice O G.length T)) = fW at bj bk bl bm bn bo br bt bu bv ⊢
        have ar := bj
        have au := bk
        have aK := bl
        have aL := bm
        have aG := bn
        have aH := bo
        have s := br
        have D := bt
        have y := bu
        have HB := bv
        clear bj bk bl bm bn bo br bt bu bv
        replace ar := qd ar
        replace au := rd_ au
        replace aK := qd aK
        replace aL := rd_ aL
        replace aG := rd_ aG
        replace aH := rd_ aH
        replace s := bd s
        replace D := bd D
        replace y := bd y
        replace HB := hd HB
        refine sta 21 (fun w' => w'.cell? ⟨X, 0, none⟩ = some (.slice L z.length M) ∧ w'.cell? ⟨X, 1, none⟩ = some (.slice O G.length T) ∧ w'.cell? ⟨aY, 0, none⟩ = some (.slice af I.length ac) ∧ w'.cell? ⟨aY, 1, none⟩ = some (.slice ag J.length ad)) [] ⟨cx y 0, cx y 1, cx s 0, cx s 1⟩ (fun hHeld => ?_); refine with_tabW laws_FnGraphUnion.tab6 laws_FnGraphUnion.bits6 (fun HT_ HW_ => ?_)
        generalize fW.drew = hF at ar au aK aL aG aH s D y HB hHeld ⊢
        refine pu 2 40 ?_
        refine tk 0 38 ?_
        refine tk 1 39 ?_
        refine on 3 41 (fun K hK => ?_)
        refine gs Try.func35 #[.agg #[.slice af I.length ac, .slice ag J.length ad], .int .i64 a4] ?_
        with_reducible refine (spec_GraphView.calls a9 _ _ I _ _ J a4 bX bY _ ?aR ?aS ?aT ?aU dQ.out).mono ?_
        (case aR => exact cq ar)
        (case aS => exact cd ar)
        (case aT => exact cr au)
        (case aU => exact cc au)
        rintro e hG ⟨d6, d7, rfl, al, an, hb⟩
        refine ⟨_, rfl, ?_⟩
        have bw := am (Kd.R_lower (Kd.R_new' (Kd.R_new' (Kd.R_new' al (ql ar)) (ql aK)) (rk aG)) (below_size (bs HB.out)))
        replace ar := qe ar al hb
        replace aK := qe aK al hb
        replace aG := re aG al hb
        have bz := am (Kd.R_lower (Kd.R_new' (Kd.R_new' (Kd.R_new' an (rk au)) (rk aL)) (rk aH)) (below_size (bs HB.out)))
        replace au := re au an hb
        replace aL := re aL an hb
        replace aH := re aH an hb
        replace s := bb s hb rfl
        replace D := bb D hb rfl
        replace y := bb y hb rfl
        replace HB := hs HB hb
        (try clear hb)
        (try clear hb2)
        (try clear hk)
        (try clear hi)
        (try clear al)
        (try clear an)
        obtain ⟨fX, fY, eI⟩ := Kd.R_slice bw.out
        (first | subst eI | (injection eI with a2 bC a3; have bD := a2.symm; have bE := a3.symm; clear a2 bC a3; subst bD; subst bE))
        obtain ⟨fZ, f2, eJ⟩ := Kd.R_slice bz.out
        (first | subst eJ | (injection eJ with a2 bC a3; have bD := a2.symm; have bE := a3.symm; clear a2 bC a3; subst bD; subst bE))
        refine hK.out _ _ ⟨cx y 0, cx y 1, cx s 0, cx s 1⟩ (fun hHeld => ?_)
        clear hK K
        refine nrm 41 ?_
        refine on 4 42 (fun K hK => ?_)
        refine gs Try.func41 #[.agg #[.slice L z.length M, .slice O G.length T], .agg #[.slice fX bX.length fY, .slice fZ bY.length f2]] ?_
        with_reducible refine (impl_GraphSame.calls a9 _ _ z _ _ G _ _ bX _ _ bY true _ ?aR ?aS ?aT ?aU ?cn ?co ?cp ?ct dR.out).mono ?_
        (case aR => exact cr aG)
        (case aS => exact cc aG)
        (case aT => exact cr aH)
        (case aU => exact cc aH)
        (case cn => exact cr bw)
        (case co => exact cc bw)
        (case cp => exact cr bz)
        (case ct => exact cc bz)
        rintro e hH ⟨rfl, hb⟩
        refine ⟨_, rfl, ?_⟩
        replace ar := qb ar hb
        replace au := rb au hb
        replace aK := qb aK hb
        replace aL := rb aL hb
        replace aG := rb aG hb
        replace aH := rb aH hb
        replace bw := rb bw hb
        replace bz := rb bz hb
        replace s := bb s hb rfl
        replace D := bb D hb rfl
        replace y := bb y hb rfl
        replace HB := hs HB hb
        (try clear hb)
        (try clear hb2)
        (try clear hk)
        (try clear hi)
        refine hK.out _ _ ⟨cx y 0, cx y 1, cx s 0, cx s 1⟩ (fun hHeld => ?_)
        clear hK K
        refine nrm 42 ?_
        refine pu 5 43 ?_
        refine pu 6 44 ?_
        refine tk 7 45 ?_
        refine on 8 46 (fun K hK => ?_)
        refine gs Try.func33 #[.agg #[.slice af I.length ac, .slice ag J.length ad]] ?_
        with_reducible refine (spec_GraphOk.calls a9 _ _ I _ _ J true _ ?aR ?aS ?aT ?aU d5.out).mono ?_
        (case aR => exact cq ar)
        (case aS => exact cd ar)
        (case aT => exact cr au)
        (case aU => exact cc au)
        rintro e hI ⟨rfl, hb⟩
        refine ⟨_, rfl, ?_⟩
        replace ar := qb ar hb
        replace au := rb au hb
        replace aK := qb aK hb
        replace aL := rb aL hb
        replace aG := rb aG hb
        replace aH := rb aH hb
        replace bw := rb bw hb
        replace bz := rb bz hb
        replace s := bb s hb rfl
        replace D := bb D hb rfl
        replace y := bb y hb rfl
        replace HB := hs HB hb
        (try clear hb)
        (try clear hb2)
        (try clear hk)
        (try clear hi)
        refine hK.out _ _ ⟨cx y 0, cx y 1, cx s 0, cx s 1⟩ (fun hHeld => ?_)
        clear hK K
        refine nrm 46 ?_
        refine pu 9 47 ?_
        refine pu 10 48 ?_
        refine pu 11 49 ?_
        refine pu 12 50 ?_
        refine on 13 51 (fun K hK => ?_)
        refine gs Try.func46 #[.int .i64 a4] ?_
        with_reducible refine (impl_LabelOk.calls a4 false _ eE.out).mono ?_
        rintro e w' ⟨rfl, ⟨nd, rfl⟩⟩
        refine ⟨_, rfl, ?_⟩
        refine hK.out _ _ ⟨cx y 0, cx y 1, cx s 0, cx s 1⟩ (fun hHeld => ?_)
        clear hK K
        refine nrm 51 ?_
        refine pu 14 52 ?_
        refine pu 15 53 ?_
        refine pu 16 54 ?_
        refine ud 17 55 ?_
        refine ud 18 56 ?_
        refine ud 19 57 ?_
        refine pu 20 58 ?_
        refine dn ?_
        try go_wp2
        go_meet
        case rel => exact ⟨_, (true), eqs, H', ⟨by have := bW.out; first | omega | exact Nat.le_refl _⟩, ⟨by (with_reducible repeat (first | apply Kd.Q_alloc | apply Kd.Q_drewN | apply Kd.Q_drew)); exact Kd.Q_mono ar.out (fun _ hk => ⟨hk.1.1, hk.1.2⟩)⟩, ⟨by (with_reducible repeat (first | apply Kd.R_alloc | apply Kd.R_drewN | apply Kd.R_drew)); exact Kd.R_mono au.out (fun _ hk => ⟨hk.1.1, hk.1.2⟩)⟩, ⟨by (with_reducible repeat (first | apply Kd.Q_alloc | apply Kd.Q_drewN | apply Kd.Q_drew)); exact Kd.Q_mono aK.out (fun _ hk => ⟨hk.1.1, hk.1.2⟩)⟩, ⟨by (with_reducible repeat (first | apply Kd.R_alloc | apply Kd.R_drewN | apply Kd.R_drew)); exact Kd.R_mono aL.out (fun _ hk => ⟨hk.1.1, hk.1.2⟩)⟩, ⟨by (with_reducible repeat (first | apply Kd.R_alloc | apply Kd.R_drewN | apply Kd.R_drew)); exact Kd.R_mono aG.out (fun _ hk => ⟨hk.1.1, hk.1.2⟩)⟩, ⟨by (with_reducible repeat (first | apply Kd.R_alloc | apply Kd.R_drewN | apply Kd.R_drew)); exact Kd.R_mono aH.out (fun _ hk => ⟨hk.1.1, hk.1.2⟩)⟩, ⟨bf s.out⟩, ⟨bf D.out⟩, ⟨bf y.out⟩, ⟨bs HB.out⟩⟩
      ·replace c7 := Bool.eq_false_iff.mpr c7
       subst c7
       have H1 : (laws_FnGraphUnion.j1 a9 a4 bi true I J z G) = some r := by rw [if_neg (show ¬ (false = true) by decide)] at H; exact H
       clear H
       have H := H1
       clear H1
       have H' := am H
       clear H
       try go_wp2
       have bj : Aside0 (Kd.Q k36 36 ((aW.setCell ⟨X, 0, none⟩ (.slice L z.length M)).setCell ⟨X, 1, none⟩ (.slice O G.length T)) w.heap.size (fun k_ => some k_ ≠ (.slice ax ap.length ay : Value).ownBlock ∧ some k_ ≠ (.slice L z.length M : Value).ownBlock) (.slice af I.length ac) I) := ⟨Kd.Q_mono (qt ar.out y.out (by decide)) (fun _ hk => ⟨hk.1.2, hk.2⟩)⟩
       have bk : Aside0 (Kd.R k56 56 ((aW.setCell ⟨X, 0, none⟩ (.slice L z.length M)).setCell ⟨X, 1, none⟩ (.slice O G.length T)) w.heap.size (fun k_ => some k_ ≠ (.slice az aq.length aA : Value).ownBlock ∧ some k_ ≠ (.slice O G.length T : Value).ownBlock) (.slice ag J.length ad) J) := ⟨Kd.R_mono (rt au.out y.out (by decide)) (fun _ hk => ⟨hk.1.2, hk.2⟩)⟩
       have bl : Aside0 (Kd.Q k36 36 ((aW.setCell ⟨X, 0, none⟩ (.slice L z.length M)).setCell ⟨X, 1, none⟩ (.slice O G.length T)) w.heap.size (fun k_ => some k_ ≠ (.slice af I.length ac : Value).ownBlock ∧ some k_ ≠ (.slice L z.length M : Value).ownBlock) (.slice ax ap.length ay) ap) := ⟨Kd.Q_mono (qt aK.out y.out (by decide)) (fun _ hk => ⟨hk.1.2, hk.2⟩)⟩
       have bm : Aside0 (Kd.R k56 56 ((aW.setCell ⟨X, 0, none⟩ (.slice L z.length M)).setCell ⟨X, 1, none⟩ (.slice O G.length T)) w.heap.size (fun k_ => some k_ ≠ (.slice ag J.length ad : Value).ownBlock ∧ some k_ ≠ (.slice O G.length T : Value).ownBlock) (.slice az aq.length aA) aq) := ⟨Kd.R_mono (rt aL.out y.out (by decide)) (fun _ hk => ⟨hk.1.2, hk.2⟩)⟩
       have bn : Aside0 (Kd.R k36 36 ((aW.setCell ⟨X, 0, none⟩ (.slice L z.length M)).setCell ⟨X, 1, none⟩ (.slice O G.length T)) w.heap.size (fun k_ => some k_ ≠ (.slice af I.length ac : Value).ownBlock ∧ some k_ ≠ (.slice ax ap.length ay : Value).ownBlock) (.slice L z.length M) z) := ⟨Kd.R_mono (rt aG.out y.out (by decide)) (fun _ hk => ⟨hk.1.2, hk.2⟩)⟩
       have bo : Aside0 (Kd.R k56 56 ((aW.setCell ⟨X, 0, none⟩ (.slice L z.length M)).setCell ⟨X, 1, none⟩ (.slice O G.length T)) w.heap.size (fun k_ => some k_ ≠ (.slice ag J.length ad : Value).ownBlock ∧ some k_ ≠ (.slice az aq.length aA : Value).ownBlock) (.slice O G.length T) G) := ⟨Kd.R_mono (rt aH.out y.out (by decide)) (fun _ hk => ⟨hk.1.2, hk.2⟩)⟩
       have br : Aside0 (((aW.setCell ⟨X, 0, none⟩ (.slice L z.length M)).setCell ⟨X, 1, none⟩ (.slice O G.length T)).heap[aY]? = some (.cells #[.slice af I.length ac, .slice ag J.length ad] 34 (0, 0))) := ⟨bf s.out⟩
       have bt : Aside0 (((aW.setCell ⟨X, 0, none⟩ (.slice L z.length M)).setCell ⟨X, 1, none⟩ (.slice O G.length T)).heap[bJ]? = some (.cells #[.slice ax ap.length ay, .slice az aq.length aA] 34 (0, 0))) := ⟨bf D.out⟩
       have bu : Aside0 (((aW.setCell ⟨X, 0, none⟩ (.slice L z.length M)).setCell ⟨X, 1, none⟩ (.slice O G.length T)).heap[X]? = some (.cells #[.slice L z.length M, .slice O G.length T] 34 (0, 0))) := ⟨by (with_reducible repeat (first | refine blk_drewN ?_ _ | refine blk_drew ?_ | refine blk_alloc ?_ _)); refine blk_put (cs := #[.slice L z.length M, .slice none 0 0]) ?_ 1 _ rfl; (with_reducible repeat (first | refine blk_drewN ?_ _ | refine blk_drew ?_ | refine blk_alloc ?_ _)); refine blk_put (cs := #[.slice none 0 0, .slice none 0 0]) ?_ 0 _ rfl; exact bf y.out⟩
       have bv : Aside0 (Below w.heap.size w ((aW.setCell ⟨X, 0, none⟩ (.slice L z.length M)).setCell ⟨X, 1, none⟩ (.slice O G.length T))) := ⟨bs HB.out⟩
       (try clear ar)
       (try clear au)
       (try clear aK)
       (try clear aL)
       (try clear aG)
       (try clear aH)
       (try clear s)
       (try clear D)
       (try clear y)
       (try clear HB)
       generalize ((aW.setCell ⟨X, 0, none⟩ (.slice L z.length M)).setCell ⟨X, 1, none⟩ (.slice O G.length T)) = f3 at bj bk bl bm bn bo br bt bu bv ⊢
       have ar := bj
       have au := bk
       have aK := bl
       have aL := bm
       have aG := bn
       have aH := bo
       have s := br
       have D := bt
       have y := bu
       have HB := bv
       clear bj bk bl bm bn bo br bt bu bv
       replace ar := qd ar
       replace au := rd_ au
       replace aK := qd aK
       replace aL := rd_ aL
       replace aG := rd_ aG
       replace aH := rd_ aH
       replace s := bd s
       replace D := bd D
       replace y := bd y
       replace HB := hd HB
       refine sta 21 (fun w' => w'.cell? ⟨X, 0, none⟩ = some (.slice L z.length M) ∧ w'.cell? ⟨X, 1, none⟩ = some (.slice O G.length T) ∧ w'.cell? ⟨aY, 0, none⟩ = some (.slice af I.length ac) ∧ w'.cell? ⟨aY, 1, none⟩ = some (.slice ag J.length ad)) [] ⟨cx y 0, cx y 1, cx s 0, cx s 1⟩ (fun hHeld => ?_); refine with_tabW laws_FnGraphUnion.tab6 laws_FnGraphUnion.bits6 (fun HT_ HW_ => ?_)
       generalize f3.drew = hJ at ar au aK aL aG aH s D y HB hHeld ⊢
       refine pu 2 40 ?_
       refine tk 0 38 ?_
       refine tk 1 39 ?_
       refine on 3 41 (fun K hK => ?_)
       refine gs Try.func35 #[.agg #[.slice af I.length ac, .slice ag J.length ad], .int .i64 a4] ?_
       with_reducible refine (spec_GraphView.calls a9 _ _ I _ _ J a4 bX bY _ ?aR ?aS ?aT ?aU dQ.out).mono ?_
       (case aR => exact cq ar)
       (case aS => exact cd ar)
       (case aT => exact cr au)
       (case aU => exact cc au)
       rintro e hL ⟨d6, d7, rfl, al, an, hb⟩
       refine ⟨_, rfl, ?_⟩
       have bw := am (Kd.R_lower (Kd.R_new' (Kd.R_new' (Kd.R_new' al (ql ar)) (ql aK)) (rk aG)) (below_size (bs HB.out)))
       replace ar := qe ar al hb
       replace aK := qe aK al hb
       replace aG := re aG al hb
       have bz := am (Kd.R_lower (Kd.R_new' (Kd.R_new' (Kd.R_new' an (rk au)) (rk aL)) (rk aH)) (below_size (bs HB.out)))
       replace au := re au an hb
       replace aL := re aL an hb
       replace aH := re aH an hb
       replace s := bb s hb rfl
       replace D := bb D hb rfl
       replace y := bb y hb rfl
       replace HB := hs HB hb
       (try clear hb)
       (try clear hb2)
       (try clear hk)
       (try clear hi)
       (try clear al)
       (try clear an)
       obtain ⟨f4, f5, eK⟩ := Kd.R_slice bw.out
       (first | subst eK | (injection eK with a2 bC a3; have bD := a2.symm; have bE := a3.symm; clear a2 bC a3; subst bD; subst bE))
       obtain ⟨f6, f7, eL⟩ := Kd.R_slice bz.out
       (first | subst eL | (injection eL with a2 bC a3; have bD := a2.symm; have bE := a3.symm; clear a2 bC a3; subst bD; subst bE))
       refine hK.out _ _ ⟨cx y 0, cx y 1, cx s 0, cx s 1⟩ (fun hHeld => ?_)
       clear hK K
       refine nrm 41 ?_
       refine on 4 42 (fun K hK => ?_)
       refine gs Try.func41 #[.agg #[.slice L z.length M, .slice O G.length T], .agg #[.slice f4 bX.length f5, .slice f6 bY.length f7]] ?_
       with_reducible refine (impl_GraphSame.calls a9 _ _ z _ _ G _ _ bX _ _ bY true _ ?aR ?aS ?aT ?aU ?cn ?co ?cp ?ct dR.out).mono ?_
       (case aR => exact cr aG)
       (case aS => exact cc aG)
       (case aT => exact cr aH)
       (case aU => exact cc aH)
       (case cn => exact cr bw)
       (case co => exact cc bw)
       (case cp => exact cr bz)
       (case ct => exact cc bz)
       rintro e hM ⟨rfl, hb⟩
       refine ⟨_, rfl, ?_⟩
       replace ar := qb ar hb
       replace au := rb au hb
       replace aK := qb aK hb
       replace aL := rb aL hb
       replace aG := rb aG hb
       replace aH := rb aH hb
       replace bw := rb bw hb
       replace bz := rb bz hb
       replace s := bb s hb rfl
       replace D := bb D hb rfl
       replace y := bb y hb rfl
       replace HB := hs HB hb
       (try clear hb)
       (try clear hb2)
       (try clear hk)
       (try clear hi)
       refine hK.out _ _ ⟨cx y 0, cx y 1, cx s 0, cx s 1⟩ (fun hHeld => ?_)
       clear hK K
       refine nrm 42 ?_
       refine pu 5 43 ?_
       refine pu 6 44 ?_
       refine tk 7 45 ?_
       refine on 8 46 (fun K hK => ?_)
       refine gs Try.func33 #[.agg #[.slice af I.length ac, .slice ag J.length ad]] ?_
       with_reducible refine (spec_GraphOk.calls a9 _ _ I _ _ J false _ ?aR ?aS ?aT ?aU d5.out).mono ?_
       (case aR => exact cq ar)
       (case aS => exact cd ar)
       (case aT => exact cr au)
       (case aU => exact cc au)
       rintro e hO ⟨rfl, hb⟩
       refine ⟨_, rfl, ?_⟩
       replace ar := qb ar hb
       replace au := rb au hb
       replace aK := qb aK hb
       replace aL := rb aL hb
       replace aG := rb aG hb
       replace aH := rb aH hb
       replace bw := rb bw hb
       replace bz := rb bz hb
       replace s := bb s hb rfl
       replace D := bb D hb rfl
       replace y := bb y hb rfl
       replace HB := hs HB hb
       (try clear hb)
       (try clear hb2)
       (try clear hk)
       (try clear hi)
       refine hK.out _ _ ⟨cx y 0, cx y 1, cx s 0, cx s 1⟩ (fun hHeld => ?_)
       clear hK K
       refine nrm 46 ?_
       refine pu 9 47 ?_
       refine pu 10 48 ?_
       refine pu 11 49 ?_
       refine ud 12 50 ?_
       refine ud 13 51 ?_
       refine ud 14 52 ?_
       refine pu 15 53 ?_
       refine pu 16 54 ?_
       refine ud 17 55 ?_
       refine ud 18 56 ?_
       refine ud 19 57 ?_
       refine pu 20 58 ?_
       refine dn ?_
       try go_wp2
       go_meet
       case rel => exact ⟨_, (true), eqs, H', ⟨by have := bW.out; first | omega | exact Nat.le_refl _⟩, ⟨by (with_reducible repeat (first | apply Kd.Q_alloc | apply Kd.Q_drewN | apply Kd.Q_drew)); exact Kd.Q_mono ar.out (fun _ hk => ⟨hk.1.1, hk.1.2⟩)⟩, ⟨by (with_reducible repeat (first | apply Kd.R_alloc | apply Kd.R_drewN | apply Kd.R_drew)); exact Kd.R_mono au.out (fun _ hk => ⟨hk.1.1, hk.1.2⟩)⟩, ⟨by (with_reducible repeat (first | apply Kd.Q_alloc | apply Kd.Q_drewN | apply Kd.Q_drew)); exact Kd.Q_mono aK.out (fun _ hk => ⟨hk.1.1, hk.1.2⟩)⟩, ⟨by (with_reducible repeat (first | apply Kd.R_alloc | apply Kd.R_drewN | apply Kd.R_drew)); exact Kd.R_mono aL.out (fun _ hk => ⟨hk.1.1, hk.1.2⟩)⟩, ⟨by (with_reducible repeat (first | apply Kd.R_alloc | apply Kd.R_drewN | apply Kd.R_drew)); exact Kd.R_mono aG.out (fun _ hk => ⟨hk.1.1, hk.1.2⟩)⟩, ⟨by (with_reducible repeat (first | apply Kd.R_alloc | apply Kd.R_drewN | apply Kd.R_drew)); exact Kd.R_mono aH.out (fun _ hk => ⟨hk.1.1, hk.1.2⟩)⟩, ⟨bf s.out⟩, ⟨bf D.out⟩, ⟨bf y.out⟩, ⟨bs HB.out⟩⟩
     ·replace c6 := Bool.eq_false_iff.mpr c6
      subst c6
      have H1 : (laws_FnGraphUnion.j1 a9 a4 bi true I J z G) = some r := by rw [if_neg (show ¬ (false = true) by decide)] at H; exact H
      clear H
      have H := H1
      clear H1
      have H' := am H
      clear H
      try go_wp2
      have bj : Aside0 (Kd.Q k36 36 ((aW.setCell ⟨X, 0, none⟩ (.slice L z.length M)).setCell ⟨X, 1, none⟩ (.slice O G.length T)) w.heap.size (fun k_ => some k_ ≠ (.slice ax ap.length ay : Value).ownBlock ∧ some k_ ≠ (.slice L z.length M : Value).ownBlock) (.slice af I.length ac) I) := ⟨Kd.Q_mono (qt ar.out y.out (by decide)) (fun _ hk => ⟨hk.1.2, hk.2⟩)⟩
      have bk : Aside0 (Kd.R k56 56 ((aW.setCell ⟨X, 0, none⟩ (.slice L z.length M)).setCell ⟨X, 1, none⟩ (.slice O G.length T)) w.heap.size (fun k_ => some k_ ≠ (.slice az aq.length aA : Value).ownBlock ∧ some k_ ≠ (.slice O G.length T : Value).ownBlock) (.slice ag J.length ad) J) := ⟨Kd.R_mono (rt au.out y.out (by decide)) (fun _ hk => ⟨hk.1.2, hk.2⟩)⟩
      have bl : Aside0 (Kd.Q k36 36 ((aW.setCell ⟨X, 0, none⟩ (.slice L z.length M)).setCell ⟨X, 1, none⟩ (.slice O G.length T)) w.heap.size (fun k_ => some k_ ≠ (.slice af I.length ac : Value).ownBlock ∧ some k_ ≠ (.slice L z.length M : Value).ownBlock) (.slice ax ap.length ay) ap) := ⟨Kd.Q_mono (qt aK.out y.out (by decide)) (fun _ hk => ⟨hk.1.2, hk.2⟩)⟩
      have bm : Aside0 (Kd.R k56 56 ((aW.setCell ⟨X, 0, none⟩ (.slice L z.length M)).setCell ⟨X, 1, none⟩ (.slice O G.length T)) w.heap.size (fun k_ => some k_ ≠ (.slice ag J.length ad : Value).ownBlock ∧ some k_ ≠ (.slice O G.length T : Value).ownBlock) (.slice az aq.length aA) aq) := ⟨Kd.R_mono (rt aL.out y.out (by decide)) (fun _ hk => ⟨hk.1.2, hk.2⟩)⟩
      have bn : Aside0 (Kd.R k36 36 ((aW.setCell ⟨X, 0, none⟩ (.slice L z.length M)).setCell ⟨X, 1, none⟩ (.slice O G.length T)) w.heap.size (fun k_ => some k_ ≠ (.slice af I.length ac : Value).ownBlock ∧ some k_ ≠ (.slice ax ap.length ay : Value).ownBlock) (.slice L z.length M) z) := ⟨Kd.R_mono (rt aG.out y.out (by decide)) (fun _ hk => ⟨hk.1.2, hk.2⟩)⟩
      have bo : Aside0 (Kd.R k56 56 ((aW.setCell ⟨X, 0, none⟩ (.slice L z.length M)).setCell ⟨X, 1, none⟩ (.slice O G.length T)) w.heap.size (fun k_ => some k_ ≠ (.slice ag J.length ad : Value).ownBlock ∧ some k_ ≠ (.slice az aq.length aA : Value).ownBlock) (.slice O G.length T) G) := ⟨Kd.R_mono (rt aH.out y.out (by decide)) (fun _ hk => ⟨hk.1.2, hk.2⟩)⟩
      have br : Aside0 (((aW.setCell ⟨X, 0, none⟩ (.slice L z.length M)).setCell ⟨X, 1, none⟩ (.slice O G.length T)).heap[aY]? = some (.cells #[.slice af I.length ac, .slice ag J.length ad] 34 (0, 0))) := ⟨bf s.out⟩
      have bt : Aside0 (((aW.setCell ⟨X, 0, none⟩ (.slice L z.length M)).setCell ⟨X, 1, none⟩ (.slice O G.length T)).heap[bJ]? = some (.cells #[.slice ax ap.length ay, .slice az aq.length aA] 34 (0, 0))) := ⟨bf D.out⟩
      have bu : Aside0 (((aW.setCell ⟨X, 0, none⟩ (.slice L z.length M)).setCell ⟨X, 1, none⟩ (.slice O G.length T)).heap[X]? = some (.cells #[.slice L z.length M, .slice O G.length T] 34 (0, 0))) := ⟨by (with_reducible repeat (first | refine blk_drewN ?_ _ | refine blk_drew ?_ | refine blk_alloc ?_ _)); refine blk_put (cs := #[.slice L z.length M, .slice none 0 0]) ?_ 1 _ rfl; (with_reducible repeat (first | refine blk_drewN ?_ _ | refine blk_drew ?_ | refine blk_alloc ?_ _)); refine blk_put (cs := #[.slice none 0 0, .slice none 0 0]) ?_ 0 _ rfl; exact bf y.out⟩
      have bv : Aside0 (Below w.heap.size w ((aW.setCell ⟨X, 0, none⟩ (.slice L z.length M)).setCell ⟨X, 1, none⟩ (.slice O G.length T))) := ⟨bs HB.out⟩
      (try clear ar)
      (try clear au)
      (try clear aK)
      (try clear aL)
      (try clear aG)
      (try clear aH)
      (try clear s)
      (try clear D)
      (try clear y)
      (try clear HB)
      generalize ((aW.setCell ⟨X, 0, none⟩ (.slice L z.length M)).setCell ⟨X, 1, none⟩ (.slice O G.length T)) = f8 at bj bk bl bm bn bo br bt bu bv ⊢
      have ar := bj
      have au := bk
      have aK := bl
      have aL := bm
      have aG := bn
      have aH := bo
      have s := br
      have D := bt
      have y := bu
      have HB := bv
      clear bj bk bl bm bn bo br bt bu bv
      replace ar := qd ar
      replace au := rd_ au
      replace aK := qd aK
      replace aL := rd_ aL
      replace aG := rd_ aG
      replace aH := rd_ aH
      replace s := bd s
      replace D := bd D
      replace y := bd y
      replace HB := hd HB
      refine sta 21 (fun w' => w'.cell? ⟨X, 0, none⟩ = some (.slice L z.length M) ∧ w'.cell? ⟨X, 1, none⟩ = some (.slice O G.length T) ∧ w'.cell? ⟨aY, 0, none⟩ = some (.slice af I.length ac) ∧ w'.cell? ⟨aY, 1, none⟩ = some (.slice ag J.length ad)) [] ⟨cx y 0, cx y 1, cx s 0, cx s 1⟩ (fun hHeld => ?_); refine with_tabW laws_FnGraphUnion.tab6 laws_FnGraphUnion.bits6 (fun HT_ HW_ => ?_)
      generalize f8.drew = hP at ar au aK aL aG aH s D y HB hHeld ⊢
      refine pu 2 40 ?_
      refine tk 0 38 ?_
      refine tk 1 39 ?_
      refine on 3 41 (fun K hK => ?_)
      refine gs Try.func35 #[.agg #[.slice af I.length ac, .slice ag J.length ad], .int .i64 a4] ?_
      with_reducible refine (spec_GraphView.calls a9 _ _ I _ _ J a4 bX bY _ ?aR ?aS ?aT ?aU dQ.out).mono ?_
      (case aR => exact cq ar)
      (case aS => exact cd ar)
      (case aT => exact cr au)
      (case aU => exact cc au)
      rintro e hR ⟨d6, d7, rfl, al, an, hb⟩
      refine ⟨_, rfl, ?_⟩
      have bw := am (Kd.R_lower (Kd.R_new' (Kd.R_new' (Kd.R_new' al (ql ar)) (ql aK)) (rk aG)) (below_size (bs HB.out)))
      replace ar := qe ar al hb
      replace aK := qe aK al hb
      replace aG := re aG al hb
      have bz := am (Kd.R_lower (Kd.R_new' (Kd.R_new' (Kd.R_new' an (rk au)) (rk aL)) (rk aH)) (below_size (bs HB.out)))
      replace au := re au an hb
      replace aL := re aL an hb
      replace aH := re aH an hb
      replace s := bb s hb rfl
      replace D := bb D hb rfl
      replace y := bb y hb rfl
      replace HB := hs HB hb
      (try clear hb)
      (try clear hb2)
      (try clear hk)
      (try clear hi)
      (try clear al)
      (try clear an)
      obtain ⟨f9, ga, eM⟩ := Kd.R_slice bw.out
      (first | subst eM | (injection eM with a2 bC a3; have bD := a2.symm; have bE := a3.symm; clear a2 bC a3; subst bD; subst bE))
      obtain ⟨gb, ge, eN⟩ := Kd.R_slice bz.out
      (first | subst eN | (injection eN with a2 bC a3; have bD := a2.symm; have bE := a3.symm; clear a2 bC a3; subst bD; subst bE))
      refine hK.out _ _ ⟨cx y 0, cx y 1, cx s 0, cx s 1⟩ (fun hHeld => ?_)
      clear hK K
      refine nrm 41 ?_
      refine on 4 42 (fun K hK => ?_)
      refine gs Try.func41 #[.agg #[.slice L z.length M, .slice O G.length T], .agg #[.slice f9 bX.length ga, .slice gb bY.length ge]] ?_
      with_reducible refine (impl_GraphSame.calls a9 _ _ z _ _ G _ _ bX _ _ bY false _ ?aR ?aS ?aT ?aU ?cn ?co ?cp ?ct dR.out).mono ?_
      (case aR => exact cr aG)
      (case aS => exact cc aG)
      (case aT => exact cr aH)
      (case aU => exact cc aH)
      (case cn => exact cr bw)
      (case co => exact cc bw)
      (case cp => exact cr bz)
      (case ct => exact cc bz)
      rintro e hU ⟨rfl, hb⟩
      refine ⟨_, rfl, ?_⟩
      replace ar := qb ar hb
      replace au := rb au hb
      replace aK := qb aK hb
      replace aL := rb aL hb
      replace aG := rb aG hb
      replace aH := rb aH hb
      replace bw := rb bw hb
      replace bz := rb bz hb
      replace s := bb s hb rfl
      replace D := bb D hb rfl
      replace y := bb y hb rfl
      replace HB := hs HB hb
      (try clear hb)
      (try clear hb2)
      (try clear hk)
      (try clear hi)
      refine hK.out _ _ ⟨cx y 0, cx y 1, cx s 0, cx s 1⟩ (fun hHeld => ?_)
      clear hK K
      refine nrm 42 ?_
      refine pu 5 43 ?_
      refine pu 6 44 ?_
      refine ud 7 45 ?_
      refine ud 8 46 ?_
      refine ud 9 47 ?_
      refine pu 10 48 ?_
      refine pu 11 49 ?_
      refine ud 12 50 ?_
      refine ud 13 51 ?_
      refine ud 14 52 ?_
      refine pu 15 53 ?_
      refine pu 16 54 ?_
      refine ud 17 55 ?_
      refine ud 18 56 ?_
      refine ud 19 57 ?_
      refine pu 20 58 ?_
      refine dn ?_
      try go_wp2
      go_meet
      case rel => exact ⟨_, (true), eqs, H', ⟨by have := bW.out; first | omega | exact Nat.le_refl _⟩, ⟨by (with_reducible repeat (first | apply Kd.Q_alloc | apply Kd.Q_drewN | apply Kd.Q_drew)); exact Kd.Q_mono ar.out (fun _ hk => ⟨hk.1.1, hk.1.2⟩)⟩, ⟨by (with_reducible repeat (first | apply Kd.R_alloc | apply Kd.R_drewN | apply Kd.R_drew)); exact Kd.R_mono au.out (fun _ hk => ⟨hk.1.1, hk.1.2⟩)⟩, ⟨by (with_reducible repeat (first | apply Kd.Q_alloc | apply Kd.Q_drewN | apply Kd.Q_drew)); exact Kd.Q_mono aK.out (fun _ hk => ⟨hk.1.1, hk.1.2⟩)⟩, ⟨by (with_reducible repeat (first | apply Kd.R_alloc | apply Kd.R_drewN | apply Kd.R_drew)); exact Kd.R_mono aL.out (fun _ hk => ⟨hk.1.1, hk.1.2⟩)⟩, ⟨by (with_reducible repeat (first | apply Kd.R_alloc | apply Kd.R_drewN | apply Kd.R_drew)); exact Kd.R_mono aG.out (fun _ hk => ⟨hk.1.1, hk.1.2⟩)⟩, ⟨by (with_reducible repeat (first | apply Kd.R_alloc | apply Kd.R_drewN | apply Kd.R_drew)); exact Kd.R_mono aH.out (fun _ hk => ⟨hk.1.1, hk.1.2⟩)⟩, ⟨bf s.out⟩, ⟨bf D.out⟩, ⟨bf y.out⟩, ⟨bs HB.out⟩⟩
    case rest =>
     clear d2
     try clear p2
     try clear c3
     try clear c4
     try clear c6
     try clear c7
     try clear c8
     try clear hV
     obtain ⟨kq, dP, rfl, HA, cG, Y, Z, aj, ak, ah, ai, s, D, y, HB⟩ := hcut
     cases kq with
     | zero => exact absurd HA.out (by simp [laws_FnGraphUnion.j1])
     | succ bO =>
      have H := HA.out
      clear HA
      simp only [laws_FnGraphUnion.j1] at H
      by_cases dS : dP = true
      ·subst dS
       replace H : ((spec_GraphView.f bO I J a4).bind fun eO => ((impl_GraphSame.f bO z G eO.1 eO.2).bind fun d8 => (some d8))) = some r := by rw [if_pos rfl] at H; exact H
       replace H := Option.bind_eq_some_iff.mp H
       obtain ⟨⟨d9, ea⟩, eP, H⟩ := H
       try dsimp -simprocs only at H
       have gf := am eP
       clear eP
       replace H := Option.bind_eq_some_iff.mp H
       obtain ⟨d8, eQ, H⟩ := H
       try dsimp -simprocs only at H
       have gg := am eQ
       clear eQ
       obtain rfl := Option.some.inj H
       try go_wp2
       replace Y := qd Y
       replace Z := rd_ Z
       replace aj := qd aj
       replace ak := rd_ ak
       replace ah := rd_ ah
       replace ai := rd_ ai
       replace s := bd s
       replace D := bd D
       replace y := bd y
       replace HB := hd HB
       refine sta 6 (fun w' => w'.cell? ⟨X, 0, none⟩ = some (.slice L z.length M) ∧ w'.cell? ⟨X, 1, none⟩ = some (.slice O G.length T) ∧ w'.cell? ⟨aY, 0, none⟩ = some (.slice af I.length ac) ∧ w'.cell? ⟨aY, 1, none⟩ = some (.slice ag J.length ad)) [] ⟨cx y 0, cx y 1, cx s 0, cx s 1⟩ (fun hHeld => ?_)
       generalize wc.drew = hW at Y Z aj ak ah ai s D y HB hHeld ⊢
       refine pu 2 61 ?_
       refine tk 0 59 ?_
       refine tk 1 60 ?_
       refine on 3 62 (fun K hK => ?_)
       refine gs Try.func35 #[.agg #[.slice af I.length ac, .slice ag J.length ad], .int .i64 a4] ?_
       with_reducible refine (spec_GraphView.calls bO _ _ I _ _ J a4 d9 ea _ ?aR ?aS ?aT ?aU gf.out).mono ?_
       (case aR => exact cq Y)
       (case aS => exact cd Y)
       (case aT => exact cr Z)
       (case aU => exact cc Z)
       rintro e hX ⟨hY, hZ, rfl, al, an, hb⟩
       refine ⟨_, rfl, ?_⟩
       have c9 := am (Kd.R_lower (Kd.R_new' (Kd.R_new' (Kd.R_new' al (ql Y)) (ql aj)) (rk ah)) (below_size (bs HB.out)))
       replace Y := qe Y al hb
       replace aj := qe aj al hb
       replace ah := re ah al hb
       have da := am (Kd.R_lower (Kd.R_new' (Kd.R_new' (Kd.R_new' an (rk Z)) (rk ak)) (rk ai)) (below_size (bs HB.out)))
       replace Z := re Z an hb
       replace ak := re ak an hb
       replace ai := re ai an hb
       replace s := bb s hb rfl
       replace D := bb D hb rfl
       replace y := bb y hb rfl
       replace HB := hs HB hb
       (try clear hb)
       (try clear hb2)
       (try clear hk)
       (try clear hi)
       (try clear al)
       (try clear an)
       obtain ⟨gh, gi, eR⟩ := Kd.R_slice c9.out
       (first | subst eR | (injection eR with a2 bC a3; have bD := a2.symm; have bE := a3.symm; clear a2 bC a3; subst bD; subst bE))
       obtain ⟨gj, gm, eS⟩ := Kd.R_slice da.out
       (first | subst eS | (injection eS with a2 bC a3; have bD := a2.symm; have bE := a3.symm; clear a2 bC a3; subst bD; subst bE))
       refine hK.out _ _ ⟨cx y 0, cx y 1, cx s 0, cx s 1⟩ (fun hHeld => ?_)
       clear hK K
       refine nrm 62 ?_
       refine on 4 63 (fun K hK => ?_)
       refine gs Try.func41 #[.agg #[.slice L z.length M, .slice O G.length T], .agg #[.slice gh d9.length gi, .slice gj ea.length gm]] ?_
       with_reducible refine (impl_GraphSame.calls bO _ _ z _ _ G _ _ d9 _ _ ea d8 _ ?aR ?aS ?aT ?aU ?cn ?co ?cp ?ct gg.out).mono ?_
       (case aR => exact cr ah)
       (case aS => exact cc ah)
       (case aT => exact cr ai)
       (case aU => exact cc ai)
       (case cn => exact cr c9)
       (case co => exact cc c9)
       (case cp => exact cr da)
       (case ct => exact cc da)
       rintro e h0 ⟨rfl, hb⟩
       refine ⟨_, rfl, ?_⟩
       replace Y := qb Y hb
       replace Z := rb Z hb
       replace aj := qb aj hb
       replace ak := rb ak hb
       replace ah := rb ah hb
       replace ai := rb ai hb
       replace c9 := rb c9 hb
       replace da := rb da hb
       replace s := bb s hb rfl
       replace D := bb D hb rfl
       replace y := bb y hb rfl
       replace HB := hs HB hb
       (try clear hb)
       (try clear hb2)
       (try clear hk)
       (try clear hi)
       refine hK.out _ _ ⟨cx y 0, cx y 1, cx s 0, cx s 1⟩ (fun hHeld => ?_)
       clear hK K
       refine nrm 63 ?_
       refine pu 5 4 ?_
       refine dn ?_
       try go_wp2
       go_ret
       exact ⟨eqr, bs HB.out⟩
      ·replace dS := Bool.eq_false_iff.mpr dS
       subst dS
       have H1 : ((impl_GraphView.f bO I J bi).bind fun eT => ((impl_LabelJoin.f a4 bi).bind fun b1 => ((impl_GraphView.f bO I J b1).bind fun eU => ((impl_LabelMeet.f a4 bi).bind fun b2 => ((impl_GraphView.f bO I J b2).bind fun eV => (laws_FnGraphUnion.l0 bO 0 0 z G eT.1 eT.2 eU.1 eU.2 eV.1 eV.2)))))) = some r := by rw [if_neg (show ¬ (false = true) by decide)] at H; exact H
       clear H
       have H := H1
       clear H1
       replace H := Option.bind_eq_some_iff.mp H
       obtain ⟨⟨ao, av⟩, eW, H⟩ := H
       try dsimp -simprocs only at H
       have gn := am eW
       clear eW
       replace H := Option.bind_eq_some_iff.mp H
       obtain ⟨b1, eX, H⟩ := H
       try dsimp -simprocs only at H
       have eY := am eX
       clear eX
       replace H := Option.bind_eq_some_iff.mp H
       obtain ⟨⟨aa, aB⟩, eZ, H⟩ := H
       try dsimp -simprocs only at H
       have eb := am eZ
       clear eZ
       replace H := Option.bind_eq_some_iff.mp H
       obtain ⟨b2, e0, H⟩ := H
       try dsimp -simprocs only at H
       have e1 := am e0
       clear e0
       replace H := Option.bind_eq_some_iff.mp H
       obtain ⟨⟨a5, ba⟩, e2, H⟩ := H
       try dsimp -simprocs only at H
       have ec := am e2
       clear e2
       have H' := am H
       clear H
       have h1 := ew.out
       have h2 := ex.out
       have h3 := d3.out
       have h4 := d4.out
       obtain ⟨h5, h6⟩ := bc2 (w := wc) s.out
       have h7 := blk_frozen s.out
       try go_wp2_with (first | ((with_reducible refine gc 36 rfl ?_); refine gl 66 Try.func36 #[.agg #[.slice af I.length ac, .slice ag J.length ad], .int .i64 bi] ?_; (with_reducible refine (impl_GraphView.calls bO _ _ I _ _ J bi ao av _ ?aR ?aS ?aT ?aU gn.out).mono ?_); (case aR => exact cq Y); (case aS => exact cd Y); (case aT => exact cr Z); (case aU => exact cc Z); rintro e h8 ⟨h9, ia, rfl, al, an, hb⟩; refine ⟨_, rfl, ?_⟩; have aM := am (Kd.R_lower (Kd.R_new' (Kd.R_new' (Kd.R_new' al (ql Y)) (ql aj)) (rk ah)) (below_size (bs HB.out))); replace Y := qe Y al hb; replace aj := qe aj al hb; replace ah := re ah al hb; have aN := am (Kd.R_lower (Kd.R_new' (Kd.R_new' (Kd.R_new' an (rk Z)) (rk ak)) (rk ai)) (below_size (bs HB.out))); replace Z := re Z an hb; replace ak := re ak an hb; replace ai := re ai an hb; replace s := bb s hb rfl; replace D := bb D hb rfl; replace y := bb y hb rfl; replace HB := hs HB hb; (try clear hb); (try clear hb2); (try clear hk); (try clear hi); (try clear al); (try clear an)) | ((with_reducible refine gd 10 rfl ?_); refine bx 10 (cs := #[.slice none 0 0, .slice none 0 0]) (t := 34) ?_; intro aV hg bP hbox hb; replace Y := qb Y hb; replace Z := rb Z hb; replace aj := qb aj hb; replace ak := rb ak hb; replace ah := rb ah hb; replace ai := rb ai hb; replace aM := rb aM hb; replace aN := rb aN hb; have ab := am hbox; have ib := gwb HB hg; replace HB := hs HB hb; have e3 := nq s hg; have e4 := nq' s hg; replace s := bb s hb rfl; have e5 := nq D hg; have e6 := nq' D hg; replace D := bb D hb rfl; have e7 := nq y hg; have e8 := nq' y hg; replace y := bb y hb rfl; clear hb hbox hg; obtain ⟨aC, aD, go⟩ := Kd.R_slice aM.out; subst go; have ic := e4.out; have ie := e3.out; have ig := e6.out; have ih := e5.out; have ii := e8.out; have ij := e7.out; obtain ⟨ik, il⟩ := bc2 (w := bP) ab.out; have im := blk_frozen ab.out; obtain ⟨aE, aF, gp⟩ := Kd.R_slice aN.out; subst gp))
       have bj : Aside0 (Kd.Q k36 36 ((bP.setCell ⟨aV, 0, none⟩ (.slice aC ao.length aD)).setCell ⟨aV, 1, none⟩ (.slice aE av.length aF)) w.heap.size (fun k_ => some k_ ≠ (.slice ax ap.length ay : Value).ownBlock ∧ some k_ ≠ (.slice L z.length M : Value).ownBlock ∧ some k_ ≠ (.slice aC ao.length aD : Value).ownBlock) (.slice af I.length ac) I) := ⟨Kd.Q_mono (qt Y.out ab.out (by decide)) (fun _ hk => ⟨hk.1.1, ⟨hk.1.2, hk.2⟩⟩)⟩
       have bk : Aside0 (Kd.R k56 56 ((bP.setCell ⟨aV, 0, none⟩ (.slice aC ao.length aD)).setCell ⟨aV, 1, none⟩ (.slice aE av.length aF)) w.heap.size (fun k_ => some k_ ≠ (.slice az aq.length aA : Value).ownBlock ∧ some k_ ≠ (.slice O G.length T : Value).ownBlock ∧ some k_ ≠ (.slice aE av.length aF : Value).ownBlock) (.slice ag J.length ad) J) := ⟨Kd.R_mono (rt Z.out ab.out (by decide)) (fun _ hk => ⟨hk.1.1, ⟨hk.1.2, hk.2⟩⟩)⟩
       have bl : Aside0 (Kd.Q k36 36 ((bP.setCell ⟨aV, 0, none⟩ (.slice aC ao.length aD)).setCell ⟨aV, 1, none⟩ (.slice aE av.length aF)) w.heap.size (fun k_ => some k_ ≠ (.slice af I.length ac : Value).ownBlock ∧ some k_ ≠ (.slice L z.length M : Value).ownBlock ∧ some k_ ≠ (.slice aC ao.length aD : Value).ownBlock) (.slice ax ap.length ay) ap) := ⟨Kd.Q_mono (qt aj.out ab.out (by decide)) (fun _ hk => ⟨hk.1.1, ⟨hk.1.2, hk.2⟩⟩)⟩
       have bm : Aside0 (Kd.R k56 56 ((bP.setCell ⟨aV, 0, none⟩ (.slice aC ao.length aD)).setCell ⟨aV, 1, none⟩ (.slice aE av.length aF)) w.heap.size (fun k_ => some k_ ≠ (.slice ag J.length ad : Value).ownBlock ∧ some k_ ≠ (.slice O G.length T : Value).ownBlock ∧ some k_ ≠ (.slice aE av.length aF : Value).ownBlock) (.slice az aq.length aA) aq) := ⟨Kd.R_mono (rt ak.out ab.out (by decide)) (fun _ hk => ⟨hk.1.1, ⟨hk.1.2, hk.2⟩⟩)⟩
       have bn : Aside0 (Kd.R k36 36 ((bP.setCell ⟨aV, 0, none⟩ (.slice aC ao.length aD)).setCell ⟨aV, 1, none⟩ (.slice aE av.length aF)) w.heap.size (fun k_ => some k_ ≠ (.slice af I.length ac : Value).ownBlock ∧ some k_ ≠ (.slice ax ap.length ay : Value).ownBlock ∧ some k_ ≠ (.slice aC ao.length aD : Value).ownBlock) (.slice L z.length M) z) := ⟨Kd.R_mono (rt ah.out ab.out (by decide)) (fun _ hk => ⟨hk.1.1, ⟨hk.1.2, hk.2⟩⟩)⟩
       have bo : Aside0 (Kd.R k56 56 ((bP.setCell ⟨aV, 0, none⟩ (.slice aC ao.length aD)).setCell ⟨aV, 1, none⟩ (.slice aE av.length aF)) w.heap.size (fun k_ => some k_ ≠ (.slice ag J.length ad : Value).ownBlock ∧ some k_ ≠ (.slice az aq.length aA : Value).ownBlock ∧ some k_ ≠ (.slice aE av.length aF : Value).ownBlock) (.slice O G.length T) G) := ⟨Kd.R_mono (rt ai.out ab.out (by decide)) (fun _ hk => ⟨hk.1.1, ⟨hk.1.2, hk.2⟩⟩)⟩
       have br : Aside0 (Kd.R k36 36 ((bP.setCell ⟨aV, 0, none⟩ (.slice aC ao.length aD)).setCell ⟨aV, 1, none⟩ (.slice aE av.length aF)) w.heap.size (fun k_ => some k_ ≠ (.slice af I.length ac : Value).ownBlock ∧ some k_ ≠ (.slice ax ap.length ay : Value).ownBlock ∧ some k_ ≠ (.slice L z.length M : Value).ownBlock) (.slice aC ao.length aD) ao) := ⟨Kd.R_mono (rt aM.out ab.out (by decide)) (fun _ hk => ⟨hk.1.1.2, ⟨hk.1.2, hk.2⟩⟩)⟩
       have bt : Aside0 (Kd.R k56 56 ((bP.setCell ⟨aV, 0, none⟩ (.slice aC ao.length aD)).setCell ⟨aV, 1, none⟩ (.slice aE av.length aF)) w.heap.size (fun k_ => some k_ ≠ (.slice ag J.length ad : Value).ownBlock ∧ some k_ ≠ (.slice az aq.length aA : Value).ownBlock ∧ some k_ ≠ (.slice O G.length T : Value).ownBlock) (.slice aE av.length aF) av) := ⟨Kd.R_mono (rt aN.out ab.out (by decide)) (fun _ hk => ⟨hk.1.1.2, ⟨hk.1.2, hk.2⟩⟩)⟩
       have bu : Aside0 (((bP.setCell ⟨aV, 0, none⟩ (.slice aC ao.length aD)).setCell ⟨aV, 1, none⟩ (.slice aE av.length aF)).heap[aY]? = some (.cells #[.slice af I.length ac, .slice ag J.length ad] 34 (0, 0))) := ⟨bf s.out⟩
       have bv : Aside0 (((bP.setCell ⟨aV, 0, none⟩ (.slice aC ao.length aD)).setCell ⟨aV, 1, none⟩ (.slice aE av.length aF)).heap[bJ]? = some (.cells #[.slice ax ap.length ay, .slice az aq.length aA] 34 (0, 0))) := ⟨bf D.out⟩
       have bS : Aside0 (((bP.setCell ⟨aV, 0, none⟩ (.slice aC ao.length aD)).setCell ⟨aV, 1, none⟩ (.slice aE av.length aF)).heap[X]? = some (.cells #[.slice L z.length M, .slice O G.length T] 34 (0, 0))) := ⟨bf y.out⟩
       have bT : Aside0 (((bP.setCell ⟨aV, 0, none⟩ (.slice aC ao.length aD)).setCell ⟨aV, 1, none⟩ (.slice aE av.length aF)).heap[aV]? = some (.cells #[.slice aC ao.length aD, .slice aE av.length aF] 34 (0, 0))) := ⟨by (with_reducible repeat (first | refine blk_drewN ?_ _ | refine blk_drew ?_ | refine blk_alloc ?_ _)); refine blk_put (cs := #[.slice aC ao.length aD, .slice none 0 0]) ?_ 1 _ rfl; (with_reducible repeat (first | refine blk_drewN ?_ _ | refine blk_drew ?_ | refine blk_alloc ?_ _)); refine blk_put (cs := #[.slice none 0 0, .slice none 0 0]) ?_ 0 _ rfl; exact bf ab.out⟩
       have bU : Aside0 (Below w.heap.size w ((bP.setCell ⟨aV, 0, none⟩ (.slice aC ao.length aD)).setCell ⟨aV, 1, none⟩ (.slice aE av.length aF))) := ⟨bs HB.out⟩
       (try clear Y)
       (try clear Z)
       (try clear aj)
       (try clear ak)
       (try clear ah)
       (try clear ai)
       (try clear aM)
       (try clear aN)
       (try clear s)
       (try clear D)
       (try clear y)
       (try clear ab)
       (try clear HB)
       generalize ((bP.setCell ⟨aV, 0, none⟩ (.slice aC ao.length aD)).setCell ⟨aV, 1, none⟩ (.slice aE av.length aF)) = gq at bj bk bl bm bn bo br bt bu bv bS bT bU ⊢
       have Y := bj
       have Z := bk
       have aj := bl
       have ak := bm
       have ah := bn
       have ai := bo
       have aM := br
       have aN := bt
       have s := bu
       have D := bv
       have y := bS
       have ab := bT
       have HB := bU
       clear bj bk bl bm bn bo br bt bu bv bS bT bU
       replace Y := qd Y
       replace Z := rd_ Z
       replace aj := qd aj
       replace ak := rd_ ak
       replace ah := rd_ ah
       replace ai := rd_ ai
       replace aM := rd_ aM
       replace aN := rd_ aN
       replace s := bd s
       replace D := bd D
       replace y := bd y
       replace ab := bd ab
       replace HB := hd HB
       refine sta 7 (fun w' => w'.cell? ⟨aY, 0, none⟩ = some (.slice af I.length ac) ∧ w'.cell? ⟨aY, 1, none⟩ = some (.slice ag J.length ad)) [] ⟨cx s 0, cx s 1⟩ (fun hHeld => ?_)
       generalize gq.drew = io at Y Z aj ak ah ai aM aN s D y ab HB hHeld ⊢
       refine pu 1 68 ?_
       refine pu 2 69 ?_
       refine tk 0 67 ?_
       refine join_ (σ := Value × Value × Nat) 1 #[true, true, true, true, true, true, false] (fun s_ => [(70, .int .i64 b1), (71, .agg #[s_.1, s_.2.1]), (11, .pointer (some ⟨s_.2.2, 0, none⟩))]) (fun s_ w' => (w'.cell? ⟨aY, 0, none⟩ = some (.slice af I.length ac) ∧ w'.cell? ⟨aY, 1, none⟩ = some (.slice ag J.length ad)) ∧ (Kd.R k36 36 w' w.heap.size (fun k_ => some k_ ≠ (s_.1 : Value).ownBlock ∧ some k_ ≠ (.slice af I.length ac : Value).ownBlock ∧ some k_ ≠ (.slice ax ap.length ay : Value).ownBlock ∧ some k_ ≠ (.slice L z.length M : Value).ownBlock) (.slice aC ao.length aD) ao) ∧ (Kd.R k56 56 w' w.heap.size (fun k_ => some k_ ≠ (s_.2.1 : Value).ownBlock ∧ some k_ ≠ (.slice ag J.length ad : Value).ownBlock ∧ some k_ ≠ (.slice az aq.length aA : Value).ownBlock ∧ some k_ ≠ (.slice O G.length T : Value).ownBlock) (.slice aE av.length aF) av) ∧ (Kd.R k36 36 w' w.heap.size (fun k_ => some k_ ≠ (.slice aC ao.length aD : Value).ownBlock ∧ some k_ ≠ (.slice af I.length ac : Value).ownBlock ∧ some k_ ≠ (.slice ax ap.length ay : Value).ownBlock ∧ some k_ ≠ (.slice L z.length M : Value).ownBlock) s_.1 aa) ∧ (Kd.R k56 56 w' w.heap.size (fun k_ => some k_ ≠ (.slice aE av.length aF : Value).ownBlock ∧ some k_ ≠ (.slice ag J.length ad : Value).ownBlock ∧ some k_ ≠ (.slice az aq.length aA : Value).ownBlock ∧ some k_ ≠ (.slice O G.length T : Value).ownBlock) s_.2.1 aB) ∧ (Kd.Q k36 36 w' w.heap.size (fun k_ => some k_ ≠ (.slice aC ao.length aD : Value).ownBlock ∧ some k_ ≠ (s_.1 : Value).ownBlock ∧ some k_ ≠ (.slice ax ap.length ay : Value).ownBlock ∧ some k_ ≠ (.slice L z.length M : Value).ownBlock) (.slice af I.length ac) I) ∧ (Kd.R k56 56 w' w.heap.size (fun k_ => some k_ ≠ (.slice aE av.length aF : Value).ownBlock ∧ some k_ ≠ (s_.2.1 : Value).ownBlock ∧ some k_ ≠ (.slice az aq.length aA : Value).ownBlock ∧ some k_ ≠ (.slice O G.length T : Value).ownBlock) (.slice ag J.length ad) J) ∧ (Kd.Q k36 36 w' w.heap.size (fun k_ => some k_ ≠ (.slice aC ao.length aD : Value).ownBlock ∧ some k_ ≠ (s_.1 : Value).ownBlock ∧ some k_ ≠ (.slice af I.length ac : Value).ownBlock ∧ some k_ ≠ (.slice L z.length M : Value).ownBlock) (.slice ax ap.length ay) ap) ∧ (Kd.R k56 56 w' w.heap.size (fun k_ => some k_ ≠ (.slice aE av.length aF : Value).ownBlock ∧ some k_ ≠ (s_.2.1 : Value).ownBlock ∧ some k_ ≠ (.slice ag J.length ad : Value).ownBlock ∧ some k_ ≠ (.slice O G.length T : Value).ownBlock) (.slice az aq.length aA) aq) ∧ (Kd.R k36 36 w' w.heap.size (fun k_ => some k_ ≠ (.slice aC ao.length aD : Value).ownBlock ∧ some k_ ≠ (s_.1 : Value).ownBlock ∧ some k_ ≠ (.slice af I.length ac : Value).ownBlock ∧ some k_ ≠ (.slice ax ap.length ay : Value).ownBlock) (.slice L z.length M) z) ∧ (Kd.R k56 56 w' w.heap.size (fun k_ => some k_ ≠ (.slice aE av.length aF : Value).ownBlock ∧ some k_ ≠ (s_.2.1 : Value).ownBlock ∧ some k_ ≠ (.slice ag J.length ad : Value).ownBlock ∧ some k_ ≠ (.slice az aq.length aA : Value).ownBlock) (.slice O G.length T) G) ∧ (w'.heap[aY]? = some (.cells #[.slice af I.length ac, .slice ag J.length ad] 34 (0, 0))) ∧ (w'.heap[bJ]? = some (.cells #[.slice ax ap.length ay, .slice az aq.length aA] 34 (0, 0))) ∧ (w'.heap[X]? = some (.cells #[.slice L z.length M, .slice O G.length T] 34 (0, 0))) ∧ (w'.heap[aV]? = some (.cells #[.slice aC ao.length aD, .slice aE av.length aF] 34 (0, 0))) ∧ (w'.heap[s_.2.2]? = some (.cells #[.slice none 0 0, .slice none 0 0] 34 (0, 0))) ∧ (w.heap.size ≤ s_.2.2) ∧ (w.heap.size ≤ s_.2.2) ∧ (aY ≠ s_.2.2) ∧ (s_.2.2 ≠ aY) ∧ (bJ ≠ s_.2.2) ∧ (s_.2.2 ≠ bJ) ∧ (X ≠ s_.2.2) ∧ (s_.2.2 ≠ X) ∧ (aV ≠ s_.2.2) ∧ (s_.2.2 ≠ aV) ∧ (Below w.heap.size w w')) ?_ ?_
       rotate_left
       ·intro hCont
        refine two_ (i := 3) (j := 5) (Ni := some 70) (Nj := some 11) #[true, true, true, true, false, false, false] #[true, true, true, false, false, true, false] rfl rfl rfl rfl (by kernel_rfl) (by decide) (by decide) (fun K hK => ?_) (fun K hK => ?_)
        ·skip
         refine gs Try.func49 #[.int .i64 a4, .int .i64 bi] ?_
         with_reducible refine (impl_LabelJoin.calls a4 bi b1 _ eY.out).mono ?_
         rintro e w' ⟨rfl, ⟨nd, rfl⟩⟩
         refine ⟨_, rfl, ?_⟩
         refine hK.out _ _ ⟨cx s 0, cx s 1⟩ (fun hHeld => ?_)
         clear hK K
         refine nrm 70 ?_
         refine two_ (i := 4) (j := 5) (Ni := some 71) (Nj := some 11) #[true, true, true, true, true, false, false] #[true, true, true, true, false, true, false] rfl rfl rfl rfl (by kernel_rfl) (by decide) (by decide) (fun K hK => ?_) (fun K hK => ?_)
         ·skip
          refine gs Try.func36 #[.agg #[.slice af I.length ac, .slice ag J.length ad], .int .i64 b1] ?_
          with_reducible refine (impl_GraphView.calls bO _ _ I _ _ J b1 aa aB _ ?aR ?aS ?aT ?aU eb.out).mono ?_
          (case aR => exact cq Y)
          (case aS => exact cd Y)
          (case aT => exact cr Z)
          (case aU => exact cc Z)
          rintro e e9 ⟨b3, b4, rfl, al, an, hb⟩
          refine ⟨_, rfl, ?_⟩
          have a7 := am (Kd.R_lower (Kd.R_new' (Kd.R_new' (Kd.R_new' (Kd.R_new' al (ql Y)) (ql aj)) (rk ah)) (rk aM)) (below_size (bs HB.out)))
          replace Y := qe Y al hb
          replace aj := qe aj al hb
          replace ah := re ah al hb
          replace aM := re aM al hb
          have a8 := am (Kd.R_lower (Kd.R_new' (Kd.R_new' (Kd.R_new' (Kd.R_new' an (rk Z)) (rk ak)) (rk ai)) (rk aN)) (below_size (bs HB.out)))
          replace Z := re Z an hb
          replace ak := re ak an hb
          replace ai := re ai an hb
          replace aN := re aN an hb
          replace s := bb s hb rfl
          replace D := bb D hb rfl
          replace y := bb y hb rfl
          replace ab := bb ab hb rfl
          replace HB := hs HB hb
          (try clear hb)
          (try clear hb2)
          (try clear hk)
          (try clear hi)
          (try clear al)
          (try clear an)
          refine hK.out _ _ ⟨cx s 0, cx s 1⟩ (fun hHeld => ?_)
          clear hK K
          refine nrm 71 ?_
          refine on 5 11 (fun K hK => ?_)
          refine box_step ?hg (N := 11) ?hd (cs := #[.slice none 0 0, .slice none 0 0]) (t := 34) ?hr ?_; (case hd => rfl); (case hg => rfl); (case hr => first | (go_simp; done) | (go_simp; rfl))
          intro aw hg fa hbox hb
          replace Y := qb Y hb
          replace Z := rb Z hb
          replace aj := qb aj hb
          replace ak := rb ak hb
          replace ah := rb ah hb
          replace ai := rb ai hb
          replace aM := rb aM hb
          replace aN := rb aN hb
          replace a7 := rb a7 hb
          replace a8 := rb a8 hb
          have ae := am hbox
          have cP := gwb HB hg
          have cQ := gwb HB hg
          replace HB := hs HB hb
          have bR := nq s hg
          have b7 := nq' s hg
          replace s := bb s hb rfl
          have b8 := nq D hg
          have b9 := nq' D hg
          replace D := bb D hb rfl
          have ce := nq y hg
          have cf := nq' y hg
          replace y := bb y hb rfl
          have cg := nq ab hg
          have ch := nq' ab hg
          replace ab := bb ab hb rfl
          clear hb hbox hg
          refine hK.out _ _ ⟨cx s 0, cx s 1⟩ (fun hHeld => ?_)
          clear hK K
          refine nrm 11 ?_
          exact norm_ (by simp only [putAll, Act.put, List.setIfInBounds_toArray, List.set_cons_zero, List.set_cons_succ]) (hCont (b3, b4, aw) _ ⟨hHeld, (by (with_reducible repeat (first | apply Kd.R_alloc | apply Kd.R_drewN | apply Kd.R_drew)); exact Kd.R_mono aM.out (fun _ hk => ⟨hk.2, ⟨hk.1.1, ⟨hk.1.2.1, hk.1.2.2⟩⟩⟩)), (by (with_reducible repeat (first | apply Kd.R_alloc | apply Kd.R_drewN | apply Kd.R_drew)); exact Kd.R_mono aN.out (fun _ hk => ⟨hk.2, ⟨hk.1.1, ⟨hk.1.2.1, hk.1.2.2⟩⟩⟩)), (by (with_reducible repeat (first | apply Kd.R_alloc | apply Kd.R_drewN | apply Kd.R_drew)); exact Kd.R_mono a7.out (fun _ hk => ⟨hk.2, ⟨hk.1.1.1.2, ⟨hk.1.1.2, hk.1.2⟩⟩⟩)), (by (with_reducible repeat (first | apply Kd.R_alloc | apply Kd.R_drewN | apply Kd.R_drew)); exact Kd.R_mono a8.out (fun _ hk => ⟨hk.2, ⟨hk.1.1.1.2, ⟨hk.1.1.2, hk.1.2⟩⟩⟩)), (by (with_reducible repeat (first | apply Kd.Q_alloc | apply Kd.Q_drewN | apply Kd.Q_drew)); exact Kd.Q_mono Y.out (fun _ hk => ⟨hk.1.2.2, ⟨hk.2, ⟨hk.1.1, hk.1.2.1⟩⟩⟩)), (by (with_reducible repeat (first | apply Kd.R_alloc | apply Kd.R_drewN | apply Kd.R_drew)); exact Kd.R_mono Z.out (fun _ hk => ⟨hk.1.2.2, ⟨hk.2, ⟨hk.1.1, hk.1.2.1⟩⟩⟩)), (by (with_reducible repeat (first | apply Kd.Q_alloc | apply Kd.Q_drewN | apply Kd.Q_drew)); exact Kd.Q_mono aj.out (fun _ hk => ⟨hk.1.2.2, ⟨hk.2, ⟨hk.1.1, hk.1.2.1⟩⟩⟩)), (by (with_reducible repeat (first | apply Kd.R_alloc | apply Kd.R_drewN | apply Kd.R_drew)); exact Kd.R_mono ak.out (fun _ hk => ⟨hk.1.2.2, ⟨hk.2, ⟨hk.1.1, hk.1.2.1⟩⟩⟩)), (by (with_reducible repeat (first | apply Kd.R_alloc | apply Kd.R_drewN | apply Kd.R_drew)); exact Kd.R_mono ah.out (fun _ hk => ⟨hk.1.2.2, ⟨hk.2, ⟨hk.1.1, hk.1.2.1⟩⟩⟩)), (by (with_reducible repeat (first | apply Kd.R_alloc | apply Kd.R_drewN | apply Kd.R_drew)); exact Kd.R_mono ai.out (fun _ hk => ⟨hk.1.2.2, ⟨hk.2, ⟨hk.1.1, hk.1.2.1⟩⟩⟩)), (bf s.out), (bf D.out), (bf y.out), (bf ab.out), (bf ae.out), cP.out, cQ.out, bR.out, b7.out, b8.out, b9.out, ce.out, cf.out, cg.out, ch.out, (bs HB.out)⟩)
         ·skip
          refine box_step ?hg (N := 11) ?hd (cs := #[.slice none 0 0, .slice none 0 0]) (t := 34) ?hr ?_; (case hd => rfl); (case hg => rfl); (case hr => first | (go_simp; done) | (go_simp; rfl))
          intro aw hg e9 hbox hb
          replace Y := qb Y hb
          replace Z := rb Z hb
          replace aj := qb aj hb
          replace ak := rb ak hb
          replace ah := rb ah hb
          replace ai := rb ai hb
          replace aM := rb aM hb
          replace aN := rb aN hb
          have ae := am hbox
          have cP := gwb HB hg
          have cQ := gwb HB hg
          replace HB := hs HB hb
          have bR := nq s hg
          have b7 := nq' s hg
          replace s := bb s hb rfl
          have b8 := nq D hg
          have b9 := nq' D hg
          replace D := bb D hb rfl
          have ce := nq y hg
          have cf := nq' y hg
          replace y := bb y hb rfl
          have cg := nq ab hg
          have ch := nq' ab hg
          replace ab := bb ab hb rfl
          clear hb hbox hg
          refine hK.out _ _ ⟨cx s 0, cx s 1⟩ (fun hHeld => ?_)
          clear hK K
          refine nrm 11 ?_
          refine on 4 71 (fun K hK => ?_)
          refine gs Try.func36 #[.agg #[.slice af I.length ac, .slice ag J.length ad], .int .i64 b1] ?_
          with_reducible refine (impl_GraphView.calls bO _ _ I _ _ J b1 aa aB _ ?aR ?aS ?aT ?aU eb.out).mono ?_
          (case aR => exact cq Y)
          (case aS => exact cd Y)
          (case aT => exact cr Z)
          (case aU => exact cc Z)
          rintro e fa ⟨b3, b4, rfl, al, an, hb⟩
          refine ⟨_, rfl, ?_⟩
          have a7 := am (Kd.R_lower (Kd.R_new' (Kd.R_new' (Kd.R_new' (Kd.R_new' al (ql Y)) (ql aj)) (rk ah)) (rk aM)) (below_size (bs HB.out)))
          replace Y := qe Y al hb
          replace aj := qe aj al hb
          replace ah := re ah al hb
          replace aM := re aM al hb
          have a8 := am (Kd.R_lower (Kd.R_new' (Kd.R_new' (Kd.R_new' (Kd.R_new' an (rk Z)) (rk ak)) (rk ai)) (rk aN)) (below_size (bs HB.out)))
          replace Z := re Z an hb
          replace ak := re ak an hb
          replace ai := re ai an hb
          replace aN := re aN an hb
          replace s := bb s hb rfl
          replace D := bb D hb rfl
          replace y := bb y hb rfl
          replace ab := bb ab hb rfl
          replace ae := bb ae hb rfl
          replace HB := hs HB hb
          (try clear hb)
          (try clear hb2)
          (try clear hk)
          (try clear hi)
          (try clear al)
          (try clear an)
          refine hK.out _ _ ⟨cx s 0, cx s 1⟩ (fun hHeld => ?_)
          clear hK K
          refine nrm 71 ?_
          exact norm_ (by simp only [putAll, Act.put, List.setIfInBounds_toArray, List.set_cons_zero, List.set_cons_succ]) (hCont (b3, b4, aw) _ ⟨hHeld, (by (with_reducible repeat (first | apply Kd.R_alloc | apply Kd.R_drewN | apply Kd.R_drew)); exact Kd.R_mono aM.out (fun _ hk => ⟨hk.2, ⟨hk.1.1, ⟨hk.1.2.1, hk.1.2.2⟩⟩⟩)), (by (with_reducible repeat (first | apply Kd.R_alloc | apply Kd.R_drewN | apply Kd.R_drew)); exact Kd.R_mono aN.out (fun _ hk => ⟨hk.2, ⟨hk.1.1, ⟨hk.1.2.1, hk.1.2.2⟩⟩⟩)), (by (with_reducible repeat (first | apply Kd.R_alloc | apply Kd.R_drewN | apply Kd.R_drew)); exact Kd.R_mono a7.out (fun _ hk => ⟨hk.2, ⟨hk.1.1.1.2, ⟨hk.1.1.2, hk.1.2⟩⟩⟩)), (by (with_reducible repeat (first | apply Kd.R_alloc | apply Kd.R_drewN | apply Kd.R_drew)); exact Kd.R_mono a8.out (fun _ hk => ⟨hk.2, ⟨hk.1.1.1.2, ⟨hk.1.1.2, hk.1.2⟩⟩⟩)), (by (with_reducible repeat (first | apply Kd.Q_alloc | apply Kd.Q_drewN | apply Kd.Q_drew)); exact Kd.Q_mono Y.out (fun _ hk => ⟨hk.1.2.2, ⟨hk.2, ⟨hk.1.1, hk.1.2.1⟩⟩⟩)), (by (with_reducible repeat (first | apply Kd.R_alloc | apply Kd.R_drewN | apply Kd.R_drew)); exact Kd.R_mono Z.out (fun _ hk => ⟨hk.1.2.2, ⟨hk.2, ⟨hk.1.1, hk.1.2.1⟩⟩⟩)), (by (with_reducible repeat (first | apply Kd.Q_alloc | apply Kd.Q_drewN | apply Kd.Q_drew)); exact Kd.Q_mono aj.out (fun _ hk => ⟨hk.1.2.2, ⟨hk.2, ⟨hk.1.1, hk.1.2.1⟩⟩⟩)), (by (with_reducible repeat (first | apply Kd.R_alloc | apply Kd.R_drewN | apply Kd.R_drew)); exact Kd.R_mono ak.out (fun _ hk => ⟨hk.1.2.2, ⟨hk.2, ⟨hk.1.1, hk.1.2.1⟩⟩⟩)), (by (with_reducible repeat (first | apply Kd.R_alloc | apply Kd.R_drewN | apply Kd.R_drew)); exact Kd.R_mono ah.out (fun _ hk => ⟨hk.1.2.2, ⟨hk.2, ⟨hk.1.1, hk.1.2.1⟩⟩⟩)), (by (with_reducible repeat (first | apply Kd.R_alloc | apply Kd.R_drewN | apply Kd.R_drew)); exact Kd.R_mono ai.out (fun _ hk => ⟨hk.1.2.2, ⟨hk.2, ⟨hk.1.1, hk.1.2.1⟩⟩⟩)), (bf s.out), (bf D.out), (bf y.out), (bf ab.out), (bf ae.out), cP.out, cQ.out, bR.out, b7.out, b8.out, b9.out, ce.out, cf.out, cg.out, ch.out, (bs HB.out)⟩)
        ·skip
         refine box_step ?hg (N := 11) ?hd (cs := #[.slice none 0 0, .slice none 0 0]) (t := 34) ?hr ?_; (case hd => rfl); (case hg => rfl); (case hr => first | (go_simp; done) | (go_simp; rfl))
         intro aw hg e9 hbox hb
         replace Y := qb Y hb
         replace Z := rb Z hb
         replace aj := qb aj hb
         replace ak := rb ak hb
         replace ah := rb ah hb
         replace ai := rb ai hb
         replace aM := rb aM hb
         replace aN := rb aN hb
         have ae := am hbox
         have cP := gwb HB hg
         have cQ := gwb HB hg
         replace HB := hs HB hb
         have bR := nq s hg
         have b7 := nq' s hg
         replace s := bb s hb rfl
         have b8 := nq D hg
         have b9 := nq' D hg
         replace D := bb D hb rfl
         have ce := nq y hg
         have cf := nq' y hg
         replace y := bb y hb rfl
         have cg := nq ab hg
         have ch := nq' ab hg
         replace ab := bb ab hb rfl
         clear hb hbox hg
         refine hK.out _ _ ⟨cx s 0, cx s 1⟩ (fun hHeld => ?_)
         clear hK K
         refine nrm 11 ?_
         refine on 3 70 (fun K hK => ?_)
         refine gs Try.func49 #[.int .i64 a4, .int .i64 bi] ?_
         with_reducible refine (impl_LabelJoin.calls a4 bi b1 _ eY.out).mono ?_
         rintro e w' ⟨rfl, ⟨nd, rfl⟩⟩
         refine ⟨_, rfl, ?_⟩
         refine hK.out _ _ ⟨cx s 0, cx s 1⟩ (fun hHeld => ?_)
         clear hK K
         refine nrm 70 ?_
         refine on 4 71 (fun K hK => ?_)
         refine gs Try.func36 #[.agg #[.slice af I.length ac, .slice ag J.length ad], .int .i64 b1] ?_
         with_reducible refine (impl_GraphView.calls bO _ _ I _ _ J b1 aa aB _ ?aR ?aS ?aT ?aU eb.out).mono ?_
         (case aR => exact cq Y)
         (case aS => exact cd Y)
         (case aT => exact cr Z)
         (case aU => exact cc Z)
         rintro e fa ⟨b3, b4, rfl, al, an, hb⟩
         refine ⟨_, rfl, ?_⟩
         have a7 := am (Kd.R_lower (Kd.R_new' (Kd.R_new' (Kd.R_new' (Kd.R_new' al (ql Y)) (ql aj)) (rk ah)) (rk aM)) (below_size (bs HB.out)))
         replace Y := qe Y al hb
         replace aj := qe aj al hb
         replace ah := re ah al hb
         replace aM := re aM al hb
         have a8 := am (Kd.R_lower (Kd.R_new' (Kd.R_new' (Kd.R_new' (Kd.R_new' an (rk Z)) (rk ak)) (rk ai)) (rk aN)) (below_size (bs HB.out)))
         replace Z := re Z an hb
         replace ak := re ak an hb
         replace ai := re ai an hb
         replace aN := re aN an hb
         replace s := bb s hb rfl
         replace D := bb D hb rfl
         replace y := bb y hb rfl
         replace ab := bb ab hb rfl
         replace ae := bb ae hb rfl
         replace HB := hs HB hb
         (try clear hb)
         (try clear hb2)
         (try clear hk)
         (try clear hi)
         (try clear al)
         (try clear an)
         refine hK.out _ _ ⟨cx s 0, cx s 1⟩ (fun hHeld => ?_)
         clear hK K
         refine nrm 71 ?_
         exact norm_ (by simp only [putAll, Act.put, List.setIfInBounds_toArray, List.set_cons_zero, List.set_cons_succ]) (hCont (b3, b4, aw) _ ⟨hHeld, (by (with_reducible repeat (first | apply Kd.R_alloc | apply Kd.R_drewN | apply Kd.R_drew)); exact Kd.R_mono aM.out (fun _ hk => ⟨hk.2, ⟨hk.1.1, ⟨hk.1.2.1, hk.1.2.2⟩⟩⟩)), (by (with_reducible repeat (first | apply Kd.R_alloc | apply Kd.R_drewN | apply Kd.R_drew)); exact Kd.R_mono aN.out (fun _ hk => ⟨hk.2, ⟨hk.1.1, ⟨hk.1.2.1, hk.1.2.2⟩⟩⟩)), (by (with_reducible repeat (first | apply Kd.R_alloc | apply Kd.R_drewN | apply Kd.R_drew)); exact Kd.R_mono a7.out (fun _ hk => ⟨hk.2, ⟨hk.1.1.1.2, ⟨hk.1.1.2, hk.1.2⟩⟩⟩)), (by (with_reducible repeat (first | apply Kd.R_alloc | apply Kd.R_drewN | apply Kd.R_drew)); exact Kd.R_mono a8.out (fun _ hk => ⟨hk.2, ⟨hk.1.1.1.2, ⟨hk.1.1.2, hk.1.2⟩⟩⟩)), (by (with_reducible repeat (first | apply Kd.Q_alloc | apply Kd.Q_drewN | apply Kd.Q_drew)); exact Kd.Q_mono Y.out (fun _ hk => ⟨hk.1.2.2, ⟨hk.2, ⟨hk.1.1, hk.1.2.1⟩⟩⟩)), (by (with_reducible repeat (first | apply Kd.R_alloc | apply Kd.R_drewN | apply Kd.R_drew)); exact Kd.R_mono Z.out (fun _ hk => ⟨hk.1.2.2, ⟨hk.2, ⟨hk.1.1, hk.1.2.1⟩⟩⟩)), (by (with_reducible repeat (first | apply Kd.Q_alloc | apply Kd.Q_drewN | apply Kd.Q_drew)); exact Kd.Q_mono aj.out (fun _ hk => ⟨hk.1.2.2, ⟨hk.2, ⟨hk.1.1, hk.1.2.1⟩⟩⟩)), (by (with_reducible repeat (first | apply Kd.R_alloc | apply Kd.R_drewN | apply Kd.R_drew)); exact Kd.R_mono ak.out (fun _ hk => ⟨hk.1.2.2, ⟨hk.2, ⟨hk.1.1, hk.1.2.1⟩⟩⟩)), (by (with_reducible repeat (first | apply Kd.R_alloc | apply Kd.R_drewN | apply Kd.R_drew)); exact Kd.R_mono ah.out (fun _ hk => ⟨hk.1.2.2, ⟨hk.2, ⟨hk.1.1, hk.1.2.1⟩⟩⟩)), (by (with_reducible repeat (first | apply Kd.R_alloc | apply Kd.R_drewN | apply Kd.R_drew)); exact Kd.R_mono ai.out (fun _ hk => ⟨hk.1.2.2, ⟨hk.2, ⟨hk.1.1, hk.1.2.1⟩⟩⟩)), (bf s.out), (bf D.out), (bf y.out), (bf ab.out), (bf ae.out), cP.out, cQ.out, bR.out, b7.out, b8.out, b9.out, ce.out, cf.out, cg.out, ch.out, (bs HB.out)⟩)
       rintro ⟨b3, b4, aw⟩ a6 ⟨hS_, db, dc, dd, de, df, dg, dh, di, dj, dk, dl, dm, dp, dq, dr, dt, du, dv, dw, dx, dy, dz, dA, dB, dC, dD⟩
       have bj : Aside0 (Kd.R k36 36 a6 w.heap.size (fun k_ => some k_ ≠ (b3 : Value).ownBlock ∧ some k_ ≠ (.slice af I.length ac : Value).ownBlock ∧ some k_ ≠ (.slice ax ap.length ay : Value).ownBlock ∧ some k_ ≠ (.slice L z.length M : Value).ownBlock) (.slice aC ao.length aD) ao) := ⟨db⟩
       have bk : Aside0 (Kd.R k56 56 a6 w.heap.size (fun k_ => some k_ ≠ (b4 : Value).ownBlock ∧ some k_ ≠ (.slice ag J.length ad : Value).ownBlock ∧ some k_ ≠ (.slice az aq.length aA : Value).ownBlock ∧ some k_ ≠ (.slice O G.length T : Value).ownBlock) (.slice aE av.length aF) av) := ⟨dc⟩
       have bl : Aside0 (Kd.R k36 36 a6 w.heap.size (fun k_ => some k_ ≠ (.slice aC ao.length aD : Value).ownBlock ∧ some k_ ≠ (.slice af I.length ac : Value).ownBlock ∧ some k_ ≠ (.slice ax ap.length ay : Value).ownBlock ∧ some k_ ≠ (.slice L z.length M : Value).ownBlock) b3 aa) := ⟨dd⟩
       have bm : Aside0 (Kd.R k56 56 a6 w.heap.size (fun k_ => some k_ ≠ (.slice aE av.length aF : Value).ownBlock ∧ some k_ ≠ (.slice ag J.length ad : Value).ownBlock ∧ some k_ ≠ (.slice az aq.length aA : Value).ownBlock ∧ some k_ ≠ (.slice O G.length T : Value).ownBlock) b4 aB) := ⟨de⟩
       have bn : Aside0 (Kd.Q k36 36 a6 w.heap.size (fun k_ => some k_ ≠ (.slice aC ao.length aD : Value).ownBlock ∧ some k_ ≠ (b3 : Value).ownBlock ∧ some k_ ≠ (.slice ax ap.length ay : Value).ownBlock ∧ some k_ ≠ (.slice L z.length M : Value).ownBlock) (.slice af I.length ac) I) := ⟨df⟩
       have bo : Aside0 (Kd.R k56 56 a6 w.heap.size (fun k_ => some k_ ≠ (.slice aE av.length aF : Value).ownBlock ∧ some k_ ≠ (b4 : Value).ownBlock ∧ some k_ ≠ (.slice az aq.length aA : Value).ownBlock ∧ some k_ ≠ (.slice O G.length T : Value).ownBlock) (.slice ag J.length ad) J) := ⟨dg⟩
       have br : Aside0 (Kd.Q k36 36 a6 w.heap.size (fun k_ => some k_ ≠ (.slice aC ao.length aD : Value).ownBlock ∧ some k_ ≠ (b3 : Value).ownBlock ∧ some k_ ≠ (.slice af I.length ac : Value).ownBlock ∧ some k_ ≠ (.slice L z.length M : Value).ownBlock) (.slice ax ap.length ay) ap) := ⟨dh⟩
       have bt : Aside0 (Kd.R k56 56 a6 w.heap.size (fun k_ => some k_ ≠ (.slice aE av.length aF : Value).ownBlock ∧ some k_ ≠ (b4 : Value).ownBlock ∧ some k_ ≠ (.slice ag J.length ad : Value).ownBlock ∧ some k_ ≠ (.slice O G.length T : Value).ownBlock) (.slice az aq.length aA) aq) := ⟨di⟩
       have bu : Aside0 (Kd.R k36 36 a6 w.heap.size (fun k_ => some k_ ≠ (.slice aC ao.length aD : Value).ownBlock ∧ some k_ ≠ (b3 : Value).ownBlock ∧ some k_ ≠ (.slice af I.length ac : Value).ownBlock ∧ some k_ ≠ (.slice ax ap.length ay : Value).ownBlock) (.slice L z.length M) z) := ⟨dj⟩
       have bv : Aside0 (Kd.R k56 56 a6 w.heap.size (fun k_ => some k_ ≠ (.slice aE av.length aF : Value).ownBlock ∧ some k_ ≠ (b4 : Value).ownBlock ∧ some k_ ≠ (.slice ag J.length ad : Value).ownBlock ∧ some k_ ≠ (.slice az aq.length aA : Value).ownBlock) (.slice O G.length T) G) := ⟨dk⟩
       have bS : Aside0 (a6.heap[aY]? = some (.cells #[.slice af I.length ac, .slice ag J.length ad] 34 (0, 0))) := ⟨dl⟩
       have bT : Aside0 (a6.heap[bJ]? = some (.cells #[.slice ax ap.length ay, .slice az aq.length aA] 34 (0, 0))) := ⟨dm⟩
       have bU : Aside0 (a6.heap[X]? = some (.cells #[.slice L z.length M, .slice O G.length T] 34 (0, 0))) := ⟨dp⟩
       have cu : Aside0 (a6.heap[aV]? = some (.cells #[.slice aC ao.length aD, .slice aE av.length aF] 34 (0, 0))) := ⟨dq⟩
       have cv : Aside0 (a6.heap[aw]? = some (.cells #[.slice none 0 0, .slice none 0 0] 34 (0, 0))) := ⟨dr⟩
       have cy : Ge w aw := ⟨dt⟩
       have dE : Ge w aw := ⟨du⟩
       have dF : Nq aY aw := ⟨dv⟩
       have dG : Nq aw aY := ⟨dw⟩
       have dH : Nq bJ aw := ⟨dx⟩
       have dI : Nq aw bJ := ⟨dy⟩
       have dJ : Nq X aw := ⟨dz⟩
       have dK : Nq aw X := ⟨dA⟩
       have dL : Nq aV aw := ⟨dB⟩
       have dM : Nq aw aV := ⟨dC⟩
       have dN : Aside0 (Below w.heap.size w a6) := ⟨dD⟩
       clear Y
       clear Z
       clear aj
       clear ak
       clear ah
       clear ai
       clear aM
       clear aN
       clear s
       clear D
       clear y
       clear ab
       clear HB
       clear db dc dd de df dg dh di dj dk dl dm dp dq dr dt du dv dw dx dy dz dA dB dC dD
       have aM := bj
       have aN := bk
       have a7 := bl
       have a8 := bm
       have Y := bn
       have Z := bo
       have aj := br
       have ak := bt
       have ah := bu
       have ai := bv
       have s := bS
       have D := bT
       have y := bU
       have ab := cu
       have ae := cv
       have cP := cy
       have cQ := dE
       have bR := dF
       have b7 := dG
       have b8 := dH
       have b9 := dI
       have ce := dJ
       have cf := dK
       have cg := dL
       have ch := dM
       have HB := dN
       clear bj bk bl bm bn bo br bt bu bv bS bT bU cu cv cy dE dF dG dH dI dJ dK dL dM dN
       have hHeld : a6.cell? ⟨aY, 0, none⟩ = some (.slice af I.length ac) ∧ a6.cell? ⟨aY, 1, none⟩ = some (.slice ag J.length ad) := hS_
       obtain ⟨aX, aO, fb⟩ := Kd.R_slice a7.out
       (first | subst fb | (injection fb with a2 bC a3; have bD := a2.symm; have bE := a3.symm; clear a2 bC a3; subst bD; subst bE))
       obtain ⟨aP, aQ, fc⟩ := Kd.R_slice a8.out
       (first | subst fc | (injection fc with a2 bC a3; have bD := a2.symm; have bE := a3.symm; clear a2 bC a3; subst bD; subst bE))
       refine norm_ (a' := ?_) ?_ ?_
       rotate_left
       ·simp only [putAll, Act.put, List.setIfInBounds_toArray, List.set_cons_zero, List.set_cons_succ]
        rfl
       refine on0 6 (fun K hK => ?_)
       have ip : a6.cell? ⟨aw, 0, none⟩ = some (.slice none 0 0) := cx ae 0
       have iq := blk_frozen ae.out 0
       have ir := bR.out
       have it := b8.out
       have iu := ce.out
       have iv := cg.out
       have iw := b7.out
       have ix := b9.out
       have iy := cf.out
       have iz := ch.out
       have iA : a6.cell? ⟨aw, 1, none⟩ = some (.slice none 0 0) := cx ae 1
       have iB := blk_frozen ae.out 1
       have iC := bR.out
       have iD := b8.out
       have iE := ce.out
       have iF := cg.out
       have iG := b7.out
       have iH := b9.out
       have iI := cf.out
       have iJ := ch.out
       refine sk ?_
       refine hK.out _ _ ⟨((cell_far (p := ⟨aw, _, none⟩) bR.out _).trans (((cell_far (p := ⟨aw, _, none⟩) bR.out _).trans (hHeld.1)))), ((cell_far (p := ⟨aw, _, none⟩) bR.out _).trans (((cell_far (p := ⟨aw, _, none⟩) bR.out _).trans (hHeld.2))))⟩ (fun hHeld => ?_)
       clear hK K
       refine dn ?_
       try go_wp2
       have bj : Aside0 (Kd.Q k36 36 ((a6.setCell ⟨aw, 0, none⟩ (.slice aX aa.length aO)).setCell ⟨aw, 1, none⟩ (.slice aP aB.length aQ)) w.heap.size (fun k_ => some k_ ≠ (.slice ax ap.length ay : Value).ownBlock ∧ some k_ ≠ (.slice L z.length M : Value).ownBlock ∧ some k_ ≠ (.slice aC ao.length aD : Value).ownBlock ∧ some k_ ≠ (.slice aX aa.length aO : Value).ownBlock) (.slice af I.length ac) I) := ⟨Kd.Q_mono (qt Y.out ae.out (by decide)) (fun _ hk => ⟨hk.2.2.1, ⟨hk.2.2.2, ⟨hk.1, hk.2.1⟩⟩⟩)⟩
       have bk : Aside0 (Kd.R k56 56 ((a6.setCell ⟨aw, 0, none⟩ (.slice aX aa.length aO)).setCell ⟨aw, 1, none⟩ (.slice aP aB.length aQ)) w.heap.size (fun k_ => some k_ ≠ (.slice az aq.length aA : Value).ownBlock ∧ some k_ ≠ (.slice O G.length T : Value).ownBlock ∧ some k_ ≠ (.slice aE av.length aF : Value).ownBlock ∧ some k_ ≠ (.slice aP aB.length aQ : Value).ownBlock) (.slice ag J.length ad) J) := ⟨Kd.R_mono (rt Z.out ae.out (by decide)) (fun _ hk => ⟨hk.2.2.1, ⟨hk.2.2.2, ⟨hk.1, hk.2.1⟩⟩⟩)⟩
       have bl : Aside0 (Kd.Q k36 36 ((a6.setCell ⟨aw, 0, none⟩ (.slice aX aa.length aO)).setCell ⟨aw, 1, none⟩ (.slice aP aB.length aQ)) w.heap.size (fun k_ => some k_ ≠ (.slice af I.length ac : Value).ownBlock ∧ some k_ ≠ (.slice L z.length M : Value).ownBlock ∧ some k_ ≠ (.slice aC ao.length aD : Value).ownBlock ∧ some k_ ≠ (.slice aX aa.length aO : Value).ownBlock) (.slice ax ap.length ay) ap) := ⟨Kd.Q_mono (qt aj.out ae.out (by decide)) (fun _ hk => ⟨hk.2.2.1, ⟨hk.2.2.2, ⟨hk.1, hk.2.1⟩⟩⟩)⟩
       have bm : Aside0 (Kd.R k56 56 ((a6.setCell ⟨aw, 0, none⟩ (.slice aX aa.length aO)).setCell ⟨aw, 1, none⟩ (.slice aP aB.length aQ)) w.heap.size (fun k_ => some k_ ≠ (.slice ag J.length ad : Value).ownBlock ∧ some k_ ≠ (.slice O G.length T : Value).ownBlock ∧ some k_ ≠ (.slice aE av.length aF : Value).ownBlock ∧ some k_ ≠ (.slice aP aB.length aQ : Value).ownBlock) (.slice az aq.length aA) aq) := ⟨Kd.R_mono (rt ak.out ae.out (by decide)) (fun _ hk => ⟨hk.2.2.1, ⟨hk.2.2.2, ⟨hk.1, hk.2.1⟩⟩⟩)⟩
       have bn : Aside0 (Kd.R k36 36 ((a6.setCell ⟨aw, 0, none⟩ (.slice aX aa.length aO)).setCell ⟨aw, 1, none⟩ (.slice aP aB.length aQ)) w.heap.size (fun k_ => some k_ ≠ (.slice af I.length ac : Value).ownBlock ∧ some k_ ≠ (.slice ax ap.length ay : Value).ownBlock ∧ some k_ ≠ (.slice aC ao.length aD : Value).ownBlock ∧ some k_ ≠ (.slice aX aa.length aO : Value).ownBlock) (.slice L z.length M) z) := ⟨Kd.R_mono (rt ah.out ae.out (by decide)) (fun _ hk => ⟨hk.2.2.1, ⟨hk.2.2.2, ⟨hk.1, hk.2.1⟩⟩⟩)⟩
       have bo : Aside0 (Kd.R k56 56 ((a6.setCell ⟨aw, 0, none⟩ (.slice aX aa.length aO)).setCell ⟨aw, 1, none⟩ (.slice aP aB.length aQ)) w.heap.size (fun k_ => some k_ ≠ (.slice ag J.length ad : Value).ownBlock ∧ some k_ ≠ (.slice az aq.length aA : Value).ownBlock ∧ some k_ ≠ (.slice aE av.length aF : Value).ownBlock ∧ some k_ ≠ (.slice aP aB.length aQ : Value).ownBlock) (.slice O G.length T) G) := ⟨Kd.R_mono (rt ai.out ae.out (by decide)) (fun _ hk => ⟨hk.2.2.1, ⟨hk.2.2.2, ⟨hk.1, hk.2.1⟩⟩⟩)⟩
       have br : Aside0 (Kd.R k36 36 ((a6.setCell ⟨aw, 0, none⟩ (.slice aX aa.length aO)).setCell ⟨aw, 1, none⟩ (.slice aP aB.length aQ)) w.heap.size (fun k_ => some k_ ≠ (.slice af I.length ac : Value).ownBlock ∧ some k_ ≠ (.slice ax ap.length ay : Value).ownBlock ∧ some k_ ≠ (.slice L z.length M : Value).ownBlock ∧ some k_ ≠ (.slice aX aa.length aO : Value).ownBlock) (.slice aC ao.length aD) ao) := ⟨Kd.R_mono (rt aM.out ae.out (by decide)) (fun _ hk => ⟨hk.2.1, ⟨hk.2.2.1, ⟨hk.2.2.2, hk.1⟩⟩⟩)⟩
       have bt : Aside0 (Kd.R k56 56 ((a6.setCell ⟨aw, 0, none⟩ (.slice aX aa.length aO)).setCell ⟨aw, 1, none⟩ (.slice aP aB.length aQ)) w.heap.size (fun k_ => some k_ ≠ (.slice ag J.length ad : Value).ownBlock ∧ some k_ ≠ (.slice az aq.length aA : Value).ownBlock ∧ some k_ ≠ (.slice O G.length T : Value).ownBlock ∧ some k_ ≠ (.slice aP aB.length aQ : Value).ownBlock) (.slice aE av.length aF) av) := ⟨Kd.R_mono (rt aN.out ae.out (by decide)) (fun _ hk => ⟨hk.2.1, ⟨hk.2.2.1, ⟨hk.2.2.2, hk.1⟩⟩⟩)⟩
       have bu : Aside0 (Kd.R k36 36 ((a6.setCell ⟨aw, 0, none⟩ (.slice aX aa.length aO)).setCell ⟨aw, 1, none⟩ (.slice aP aB.length aQ)) w.heap.size (fun k_ => some k_ ≠ (.slice af I.length ac : Value).ownBlock ∧ some k_ ≠ (.slice ax ap.length ay : Value).ownBlock ∧ some k_ ≠ (.slice L z.length M : Value).ownBlock ∧ some k_ ≠ (.slice aC ao.length aD : Value).ownBlock) (.slice aX aa.length aO) aa) := ⟨Kd.R_mono (rt a7.out ae.out (by decide)) (fun _ hk => ⟨hk.2.1, ⟨hk.2.2.1, ⟨hk.2.2.2, hk.1⟩⟩⟩)⟩
       have bv : Aside0 (Kd.R k56 56 ((a6.setCell ⟨aw, 0, none⟩ (.slice aX aa.length aO)).setCell ⟨aw, 1, none⟩ (.slice aP aB.length aQ)) w.heap.size (fun k_ => some k_ ≠ (.slice ag J.length ad : Value).ownBlock ∧ some k_ ≠ (.slice az aq.length aA : Value).ownBlock ∧ some k_ ≠ (.slice O G.length T : Value).ownBlock ∧ some k_ ≠ (.slice aE av.length aF : Value).ownBlock) (.slice aP aB.length aQ) aB) := ⟨Kd.R_mono (rt a8.out ae.out (by decide)) (fun _ hk => ⟨hk.2.1, ⟨hk.2.2.1, ⟨hk.2.2.2, hk.1⟩⟩⟩)⟩
       have bS : Aside0 (((a6.setCell ⟨aw, 0, none⟩ (.slice aX aa.length aO)).setCell ⟨aw, 1, none⟩ (.slice aP aB.length aQ)).heap[aY]? = some (.cells #[.slice af I.length ac, .slice ag J.length ad] 34 (0, 0))) := ⟨bf s.out⟩
       have bT : Aside0 (((a6.setCell ⟨aw, 0, none⟩ (.slice aX aa.length aO)).setCell ⟨aw, 1, none⟩ (.slice aP aB.length aQ)).heap[bJ]? = some (.cells #[.slice ax ap.length ay, .slice az aq.length aA] 34 (0, 0))) := ⟨bf D.out⟩
       have bU : Aside0 (((a6.setCell ⟨aw, 0, none⟩ (.slice aX aa.length aO)).setCell ⟨aw, 1, none⟩ (.slice aP aB.length aQ)).heap[X]? = some (.cells #[.slice L z.length M, .slice O G.length T] 34 (0, 0))) := ⟨bf y.out⟩
       have cu : Aside0 (((a6.setCell ⟨aw, 0, none⟩ (.slice aX aa.length aO)).setCell ⟨aw, 1, none⟩ (.slice aP aB.length aQ)).heap[aV]? = some (.cells #[.slice aC ao.length aD, .slice aE av.length aF] 34 (0, 0))) := ⟨bf ab.out⟩
       have cv : Aside0 (((a6.setCell ⟨aw, 0, none⟩ (.slice aX aa.length aO)).setCell ⟨aw, 1, none⟩ (.slice aP aB.length aQ)).heap[aw]? = some (.cells #[.slice aX aa.length aO, .slice aP aB.length aQ] 34 (0, 0))) := ⟨by (with_reducible repeat (first | refine blk_drewN ?_ _ | refine blk_drew ?_ | refine blk_alloc ?_ _)); refine blk_put (cs := #[.slice aX aa.length aO, .slice none 0 0]) ?_ 1 _ rfl; (with_reducible repeat (first | refine blk_drewN ?_ _ | refine blk_drew ?_ | refine blk_alloc ?_ _)); refine blk_put (cs := #[.slice none 0 0, .slice none 0 0]) ?_ 0 _ rfl; exact bf ae.out⟩
       have cy : Aside0 (Below w.heap.size w ((a6.setCell ⟨aw, 0, none⟩ (.slice aX aa.length aO)).setCell ⟨aw, 1, none⟩ (.slice aP aB.length aQ))) := ⟨bs HB.out⟩
       (try clear Y)
       (try clear Z)
       (try clear aj)
       (try clear ak)
       (try clear ah)
       (try clear ai)
       (try clear aM)
       (try clear aN)
       (try clear a7)
       (try clear a8)
       (try clear s)
       (try clear D)
       (try clear y)
       (try clear ab)
       (try clear ae)
       (try clear HB)
       generalize ((a6.setCell ⟨aw, 0, none⟩ (.slice aX aa.length aO)).setCell ⟨aw, 1, none⟩ (.slice aP aB.length aQ)) = gt at bj bk bl bm bn bo br bt bu bv bS bT bU cu cv cy ⊢
       have Y := bj
       have Z := bk
       have aj := bl
       have ak := bm
       have ah := bn
       have ai := bo
       have aM := br
       have aN := bt
       have a7 := bu
       have a8 := bv
       have s := bS
       have D := bT
       have y := bU
       have ab := cu
       have ae := cv
       have HB := cy
       clear bj bk bl bm bn bo br bt bu bv bS bT bU cu cv cy
       replace Y := qd Y
       replace Z := rd_ Z
       replace aj := qd aj
       replace ak := rd_ ak
       replace ah := rd_ ah
       replace ai := rd_ ai
       replace aM := rd_ aM
       replace aN := rd_ aN
       replace a7 := rd_ a7
       replace a8 := rd_ a8
       replace s := bd s
       replace D := bd D
       replace y := bd y
       replace ab := bd ab
       replace ae := bd ae
       replace HB := hd HB
       refine sta 7 (fun w' => w'.cell? ⟨aY, 0, none⟩ = some (.slice af I.length ac) ∧ w'.cell? ⟨aY, 1, none⟩ = some (.slice ag J.length ad)) [] ⟨cx s 0, cx s 1⟩ (fun hHeld => ?_)
       generalize gt.drew = iK at Y Z aj ak ah ai aM aN a7 a8 s D y ab ae HB hHeld ⊢
       refine pu 1 73 ?_
       refine pu 2 74 ?_
       refine tk 0 72 ?_
       refine join_ (σ := Value × Value × Nat) 1 #[true, true, true, true, true, true, false] (fun s_ => [(75, .int .i64 b2), (76, .agg #[s_.1, s_.2.1]), (12, .pointer (some ⟨s_.2.2, 0, none⟩))]) (fun s_ w' => (w'.cell? ⟨aY, 0, none⟩ = some (.slice af I.length ac) ∧ w'.cell? ⟨aY, 1, none⟩ = some (.slice ag J.length ad)) ∧ (Kd.R k36 36 w' w.heap.size (fun k_ => some k_ ≠ (.slice aX aa.length aO : Value).ownBlock ∧ some k_ ≠ (s_.1 : Value).ownBlock ∧ some k_ ≠ (.slice af I.length ac : Value).ownBlock ∧ some k_ ≠ (.slice ax ap.length ay : Value).ownBlock ∧ some k_ ≠ (.slice L z.length M : Value).ownBlock) (.slice aC ao.length aD) ao) ∧ (Kd.R k56 56 w' w.heap.size (fun k_ => some k_ ≠ (.slice aP aB.length aQ : Value).ownBlock ∧ some k_ ≠ (s_.2.1 : Value).ownBlock ∧ some k_ ≠ (.slice ag J.length ad : Value).ownBlock ∧ some k_ ≠ (.slice az aq.length aA : Value).ownBlock ∧ some k_ ≠ (.slice O G.length T : Value).ownBlock) (.slice aE av.length aF) av) ∧ (Kd.R k36 36 w' w.heap.size (fun k_ => some k_ ≠ (.slice aC ao.length aD : Value).ownBlock ∧ some k_ ≠ (s_.1 : Value).ownBlock ∧ some k_ ≠ (.slice af I.length ac : Value).ownBlock ∧ some k_ ≠ (.slice ax ap.length ay : Value).ownBlock ∧ some k_ ≠ (.slice L z.length M : Value).ownBlock) (.slice aX aa.length aO) aa) ∧ (Kd.R k56 56 w' w.heap.size (fun k_ => some k_ ≠ (.slice aE av.length aF : Value).ownBlock ∧ some k_ ≠ (s_.2.1 : Value).ownBlock ∧ some k_ ≠ (.slice ag J.length ad : Value).ownBlock ∧ some k_ ≠ (.slice az aq.length aA : Value).ownBlock ∧ some k_ ≠ (.slice O G.length T : Value).ownBlock) (.slice aP aB.length aQ) aB) ∧ (Kd.R k36 36 w' w.heap.size (fun k_ => some k_ ≠ (.slice aC ao.length aD : Value).ownBlock ∧ some k_ ≠ (.slice aX aa.length aO : Value).ownBlock ∧ some k_ ≠ (.slice af I.length ac : Value).ownBlock ∧ some k_ ≠ (.slice ax ap.length ay : Value).ownBlock ∧ some k_ ≠ (.slice L z.length M : Value).ownBlock) s_.1 a5) ∧ (Kd.R k56 56 w' w.heap.size (fun k_ => some k_ ≠ (.slice aE av.length aF : Value).ownBlock ∧ some k_ ≠ (.slice aP aB.length aQ : Value).ownBlock ∧ some k_ ≠ (.slice ag J.length ad : Value).ownBlock ∧ some k_ ≠ (.slice az aq.length aA : Value).ownBlock ∧ some k_ ≠ (.slice O G.length T : Value).ownBlock) s_.2.1 ba) ∧ (Kd.Q k36 36 w' w.heap.size (fun k_ => some k_ ≠ (.slice aC ao.length aD : Value).ownBlock ∧ some k_ ≠ (.slice aX aa.length aO : Value).ownBlock ∧ some k_ ≠ (s_.1 : Value).ownBlock ∧ some k_ ≠ (.slice ax ap.length ay : Value).ownBlock ∧ some k_ ≠ (.slice L z.length M : Value).ownBlock) (.slice af I.length ac) I) ∧ (Kd.R k56 56 w' w.heap.size (fun k_ => some k_ ≠ (.slice aE av.length aF : Value).ownBlock ∧ some k_ ≠ (.slice aP aB.length aQ : Value).ownBlock ∧ some k_ ≠ (s_.2.1 : Value).ownBlock ∧ some k_ ≠ (.slice az aq.length aA : Value).ownBlock ∧ some k_ ≠ (.slice O G.length T : Value).ownBlock) (.slice ag J.length ad) J) ∧ (Kd.Q k36 36 w' w.heap.size (fun k_ => some k_ ≠ (.slice aC ao.length aD : Value).ownBlock ∧ some k_ ≠ (.slice aX aa.length aO : Value).ownBlock ∧ some k_ ≠ (s_.1 : Value).ownBlock ∧ some k_ ≠ (.slice af I.length ac : Value).ownBlock ∧ some k_ ≠ (.slice L z.length M : Value).ownBlock) (.slice ax ap.length ay) ap) ∧ (Kd.R k56 56 w' w.heap.size (fun k_ => some k_ ≠ (.slice aE av.length aF : Value).ownBlock ∧ some k_ ≠ (.slice aP aB.length aQ : Value).ownBlock ∧ some k_ ≠ (s_.2.1 : Value).ownBlock ∧ some k_ ≠ (.slice ag J.length ad : Value).ownBlock ∧ some k_ ≠ (.slice O G.length T : Value).ownBlock) (.slice az aq.length aA) aq) ∧ (Kd.R k36 36 w' w.heap.size (fun k_ => some k_ ≠ (.slice aC ao.length aD : Value).ownBlock ∧ some k_ ≠ (.slice aX aa.length aO : Value).ownBlock ∧ some k_ ≠ (s_.1 : Value).ownBlock ∧ some k_ ≠ (.slice af I.length ac : Value).ownBlock ∧ some k_ ≠ (.slice ax ap.length ay : Value).ownBlock) (.slice L z.length M) z) ∧ (Kd.R k56 56 w' w.heap.size (fun k_ => some k_ ≠ (.slice aE av.length aF : Value).ownBlock ∧ some k_ ≠ (.slice aP aB.length aQ : Value).ownBlock ∧ some k_ ≠ (s_.2.1 : Value).ownBlock ∧ some k_ ≠ (.slice ag J.length ad : Value).ownBlock ∧ some k_ ≠ (.slice az aq.length aA : Value).ownBlock) (.slice O G.length T) G) ∧ (w'.heap[aY]? = some (.cells #[.slice af I.length ac, .slice ag J.length ad] 34 (0, 0))) ∧ (w'.heap[bJ]? = some (.cells #[.slice ax ap.length ay, .slice az aq.length aA] 34 (0, 0))) ∧ (w'.heap[X]? = some (.cells #[.slice L z.length M, .slice O G.length T] 34 (0, 0))) ∧ (w'.heap[aV]? = some (.cells #[.slice aC ao.length aD, .slice aE av.length aF] 34 (0, 0))) ∧ (w'.heap[aw]? = some (.cells #[.slice aX aa.length aO, .slice aP aB.length aQ] 34 (0, 0))) ∧ (w'.heap[s_.2.2]? = some (.cells #[.slice none 0 0, .slice none 0 0] 34 (0, 0))) ∧ (w.heap.size ≤ s_.2.2) ∧ (w.heap.size ≤ s_.2.2) ∧ (aY ≠ s_.2.2) ∧ (s_.2.2 ≠ aY) ∧ (bJ ≠ s_.2.2) ∧ (s_.2.2 ≠ bJ) ∧ (X ≠ s_.2.2) ∧ (s_.2.2 ≠ X) ∧ (aV ≠ s_.2.2) ∧ (s_.2.2 ≠ aV) ∧ (aw ≠ s_.2.2) ∧ (s_.2.2 ≠ aw) ∧ (Below w.heap.size w w')) ?_ ?_
       rotate_left
       ·intro hCont
        refine two_ (i := 3) (j := 5) (Ni := some 75) (Nj := some 12) #[true, true, true, true, false, false, false] #[true, true, true, false, false, true, false] rfl rfl rfl rfl (by kernel_rfl) (by decide) (by decide) (fun K hK => ?_) (fun K hK => ?_)
        ·skip
         refine gs Try.func48 #[.int .i64 a4, .int .i64 bi] ?_
         with_reducible refine (impl_LabelMeet.calls a4 bi b2 _ e1.out).mono ?_
         rintro e w' ⟨rfl, ⟨nd, rfl⟩⟩
         refine ⟨_, rfl, ?_⟩
         refine hK.out _ _ ⟨cx s 0, cx s 1⟩ (fun hHeld => ?_)
         clear hK K
         refine nrm 75 ?_
         refine two_ (i := 4) (j := 5) (Ni := some 76) (Nj := some 12) #[true, true, true, true, true, false, false] #[true, true, true, true, false, true, false] rfl rfl rfl rfl (by kernel_rfl) (by decide) (by decide) (fun K hK => ?_) (fun K hK => ?_)
         ·skip
          refine gs Try.func36 #[.agg #[.slice af I.length ac, .slice ag J.length ad], .int .i64 b2] ?_
          with_reducible refine (impl_GraphView.calls bO _ _ I _ _ J b2 a5 ba _ ?aR ?aS ?aT ?aU ec.out).mono ?_
          (case aR => exact cq Y)
          (case aS => exact cd Y)
          (case aT => exact cr Z)
          (case aU => exact cc Z)
          rintro e fd ⟨bZ, b0, rfl, al, an, hb⟩
          refine ⟨_, rfl, ?_⟩
          have ci := am (Kd.R_lower (Kd.R_new' (Kd.R_new' (Kd.R_new' (Kd.R_new' (Kd.R_new' al (ql Y)) (ql aj)) (rk ah)) (rk aM)) (rk a7)) (below_size (bs HB.out)))
          replace Y := qe Y al hb
          replace aj := qe aj al hb
          replace ah := re ah al hb
          replace aM := re aM al hb
          replace a7 := re a7 al hb
          have cj := am (Kd.R_lower (Kd.R_new' (Kd.R_new' (Kd.R_new' (Kd.R_new' (Kd.R_new' an (rk Z)) (rk ak)) (rk ai)) (rk aN)) (rk a8)) (below_size (bs HB.out)))
          replace Z := re Z an hb
          replace ak := re ak an hb
          replace ai := re ai an hb
          replace aN := re aN an hb
          replace a8 := re a8 an hb
          replace s := bb s hb rfl
          replace D := bb D hb rfl
          replace y := bb y hb rfl
          replace ab := bb ab hb rfl
          replace ae := bb ae hb rfl
          replace HB := hs HB hb
          (try clear hb)
          (try clear hb2)
          (try clear hk)
          (try clear hi)
          (try clear al)
          (try clear an)
          refine hK.out _ _ ⟨cx s 0, cx s 1⟩ (fun hHeld => ?_)
          clear hK K
          refine nrm 76 ?_
          refine on 5 12 (fun K hK => ?_)
          refine box_step ?hg (N := 12) ?hd (cs := #[.slice none 0 0, .slice none 0 0]) (t := 34) ?hr ?_; (case hd => rfl); (case hg => rfl); (case hr => first | (go_simp; done) | (go_simp; rfl))
          intro bc hg fe hbox hb
          replace Y := qb Y hb
          replace Z := rb Z hb
          replace aj := qb aj hb
          replace ak := rb ak hb
          replace ah := rb ah hb
          replace ai := rb ai hb
          replace aM := rb aM hb
          replace aN := rb aN hb
          replace a7 := rb a7 hb
          replace a8 := rb a8 hb
          replace ci := rb ci hb
          replace cj := rb cj hb
          have aI := am hbox
          have cR := gwb HB hg
          have cS := gwb HB hg
          replace HB := hs HB hb
          have bV := nq s hg
          have cz := nq' s hg
          replace s := bb s hb rfl
          have cA := nq D hg
          have cB := nq' D hg
          replace D := bb D hb rfl
          have cC := nq y hg
          have cD := nq' y hg
          replace y := bb y hb rfl
          have cE := nq ab hg
          have cF := nq' ab hg
          replace ab := bb ab hb rfl
          have ck := nq ae hg
          have cl := nq' ae hg
          replace ae := bb ae hb rfl
          clear hb hbox hg
          refine hK.out _ _ ⟨cx s 0, cx s 1⟩ (fun hHeld => ?_)
          clear hK K
          refine nrm 12 ?_
          exact norm_ (by simp only [putAll, Act.put, List.setIfInBounds_toArray, List.set_cons_zero, List.set_cons_succ]) (hCont (bZ, b0, bc) _ ⟨hHeld, (by (with_reducible repeat (first | apply Kd.R_alloc | apply Kd.R_drewN | apply Kd.R_drew)); exact Kd.R_mono aM.out (fun _ hk => ⟨hk.1.2.2.2, ⟨hk.2, ⟨hk.1.1, ⟨hk.1.2.1, hk.1.2.2.1⟩⟩⟩⟩)), (by (with_reducible repeat (first | apply Kd.R_alloc | apply Kd.R_drewN | apply Kd.R_drew)); exact Kd.R_mono aN.out (fun _ hk => ⟨hk.1.2.2.2, ⟨hk.2, ⟨hk.1.1, ⟨hk.1.2.1, hk.1.2.2.1⟩⟩⟩⟩)), (by (with_reducible repeat (first | apply Kd.R_alloc | apply Kd.R_drewN | apply Kd.R_drew)); exact Kd.R_mono a7.out (fun _ hk => ⟨hk.1.2.2.2, ⟨hk.2, ⟨hk.1.1, ⟨hk.1.2.1, hk.1.2.2.1⟩⟩⟩⟩)), (by (with_reducible repeat (first | apply Kd.R_alloc | apply Kd.R_drewN | apply Kd.R_drew)); exact Kd.R_mono a8.out (fun _ hk => ⟨hk.1.2.2.2, ⟨hk.2, ⟨hk.1.1, ⟨hk.1.2.1, hk.1.2.2.1⟩⟩⟩⟩)), (by (with_reducible repeat (first | apply Kd.R_alloc | apply Kd.R_drewN | apply Kd.R_drew)); exact Kd.R_mono ci.out (fun _ hk => ⟨hk.1.2, ⟨hk.2, ⟨hk.1.1.1.1.2, ⟨hk.1.1.1.2, hk.1.1.2⟩⟩⟩⟩)), (by (with_reducible repeat (first | apply Kd.R_alloc | apply Kd.R_drewN | apply Kd.R_drew)); exact Kd.R_mono cj.out (fun _ hk => ⟨hk.1.2, ⟨hk.2, ⟨hk.1.1.1.1.2, ⟨hk.1.1.1.2, hk.1.1.2⟩⟩⟩⟩)), (by (with_reducible repeat (first | apply Kd.Q_alloc | apply Kd.Q_drewN | apply Kd.Q_drew)); exact Kd.Q_mono Y.out (fun _ hk => ⟨hk.1.2.2.1, ⟨hk.1.2.2.2, ⟨hk.2, ⟨hk.1.1, hk.1.2.1⟩⟩⟩⟩)), (by (with_reducible repeat (first | apply Kd.R_alloc | apply Kd.R_drewN | apply Kd.R_drew)); exact Kd.R_mono Z.out (fun _ hk => ⟨hk.1.2.2.1, ⟨hk.1.2.2.2, ⟨hk.2, ⟨hk.1.1, hk.1.2.1⟩⟩⟩⟩)), (by (with_reducible repeat (first | apply Kd.Q_alloc | apply Kd.Q_drewN | apply Kd.Q_drew)); exact Kd.Q_mono aj.out (fun _ hk => ⟨hk.1.2.2.1, ⟨hk.1.2.2.2, ⟨hk.2, ⟨hk.1.1, hk.1.2.1⟩⟩⟩⟩)), (by (with_reducible repeat (first | apply Kd.R_alloc | apply Kd.R_drewN | apply Kd.R_drew)); exact Kd.R_mono ak.out (fun _ hk => ⟨hk.1.2.2.1, ⟨hk.1.2.2.2, ⟨hk.2, ⟨hk.1.1, hk.1.2.1⟩⟩⟩⟩)), (by (with_reducible repeat (first | apply Kd.R_alloc | apply Kd.R_drewN | apply Kd.R_drew)); exact Kd.R_mono ah.out (fun _ hk => ⟨hk.1.2.2.1, ⟨hk.1.2.2.2, ⟨hk.2, ⟨hk.1.1, hk.1.2.1⟩⟩⟩⟩)), (by (with_reducible repeat (first | apply Kd.R_alloc | apply Kd.R_drewN | apply Kd.R_drew)); exact Kd.R_mono ai.out (fun _ hk => ⟨hk.1.2.2.1, ⟨hk.1.2.2.2, ⟨hk.2, ⟨hk.1.1, hk.1.2.1⟩⟩⟩⟩)), (bf s.out), (bf D.out), (bf y.out), (bf ab.out), (bf ae.out), (bf aI.out), cR.out, cS.out, bV.out, cz.out, cA.out, cB.out, cC.out, cD.out, cE.out, cF.out, ck.out, cl.out, (bs HB.out)⟩)
         ·skip
          refine box_step ?hg (N := 12) ?hd (cs := #[.slice none 0 0, .slice none 0 0]) (t := 34) ?hr ?_; (case hd => rfl); (case hg => rfl); (case hr => first | (go_simp; done) | (go_simp; rfl))
          intro bc hg fd hbox hb
          replace Y := qb Y hb
          replace Z := rb Z hb
          replace aj := qb aj hb
          replace ak := rb ak hb
          replace ah := rb ah hb
          replace ai := rb ai hb
          replace aM := rb aM hb
          replace aN := rb aN hb
          replace a7 := rb a7 hb
          replace a8 := rb a8 hb
          have aI := am hbox
          have cR := gwb HB hg
          have cS := gwb HB hg
          replace HB := hs HB hb
          have bV := nq s hg
          have cz := nq' s hg
          replace s := bb s hb rfl
          have cA := nq D hg
          have cB := nq' D hg
          replace D := bb D hb rfl
          have cC := nq y hg
          have cD := nq' y hg
          replace y := bb y hb rfl
          have cE := nq ab hg
          have cF := nq' ab hg
          replace ab := bb ab hb rfl
          have ck := nq ae hg
          have cl := nq' ae hg
          replace ae := bb ae hb rfl
          clear hb hbox hg
          refine hK.out _ _ ⟨cx s 0, cx s 1⟩ (fun hHeld => ?_)
          clear hK K
          refine nrm 12 ?_
          refine on 4 76 (fun K hK => ?_)
          refine gs Try.func36 #[.agg #[.slice af I.length ac, .slice ag J.length ad], .int .i64 b2] ?_
          with_reducible refine (impl_GraphView.calls bO _ _ I _ _ J b2 a5 ba _ ?aR ?aS ?aT ?aU ec.out).mono ?_
          (case aR => exact cq Y)
          (case aS => exact cd Y)
          (case aT => exact cr Z)
          (case aU => exact cc Z)
          rintro e fe ⟨bZ, b0, rfl, al, an, hb⟩
          refine ⟨_, rfl, ?_⟩
          have ci := am (Kd.R_lower (Kd.R_new' (Kd.R_new' (Kd.R_new' (Kd.R_new' (Kd.R_new' al (ql Y)) (ql aj)) (rk ah)) (rk aM)) (rk a7)) (below_size (bs HB.out)))
          replace Y := qe Y al hb
          replace aj := qe aj al hb
          replace ah := re ah al hb
          replace aM := re aM al hb
          replace a7 := re a7 al hb
          have cj := am (Kd.R_lower (Kd.R_new' (Kd.R_new' (Kd.R_new' (Kd.R_new' (Kd.R_new' an (rk Z)) (rk ak)) (rk ai)) (rk aN)) (rk a8)) (below_size (bs HB.out)))
          replace Z := re Z an hb
          replace ak := re ak an hb
          replace ai := re ai an hb
          replace aN := re aN an hb
          replace a8 := re a8 an hb
          replace s := bb s hb rfl
          replace D := bb D hb rfl
          replace y := bb y hb rfl
          replace ab := bb ab hb rfl
          replace ae := bb ae hb rfl
          replace aI := bb aI hb rfl
          replace HB := hs HB hb
          (try clear hb)
          (try clear hb2)
          (try clear hk)
          (try clear hi)
          (try clear al)
          (try clear an)
          refine hK.out _ _ ⟨cx s 0, cx s 1⟩ (fun hHeld => ?_)
          clear hK K
          refine nrm 76 ?_
          exact norm_ (by simp only [putAll, Act.put, List.setIfInBounds_toArray, List.set_cons_zero, List.set_cons_succ]) (hCont (bZ, b0, bc) _ ⟨hHeld, (by (with_reducible repeat (first | apply Kd.R_alloc | apply Kd.R_drewN | apply Kd.R_drew)); exact Kd.R_mono aM.out (fun _ hk => ⟨hk.1.2.2.2, ⟨hk.2, ⟨hk.1.1, ⟨hk.1.2.1, hk.1.2.2.1⟩⟩⟩⟩)), (by (with_reducible repeat (first | apply Kd.R_alloc | apply Kd.R_drewN | apply Kd.R_drew)); exact Kd.R_mono aN.out (fun _ hk => ⟨hk.1.2.2.2, ⟨hk.2, ⟨hk.1.1, ⟨hk.1.2.1, hk.1.2.2.1⟩⟩⟩⟩)), (by (with_reducible repeat (first | apply Kd.R_alloc | apply Kd.R_drewN | apply Kd.R_drew)); exact Kd.R_mono a7.out (fun _ hk => ⟨hk.1.2.2.2, ⟨hk.2, ⟨hk.1.1, ⟨hk.1.2.1, hk.1.2.2.1⟩⟩⟩⟩)), (by (with_reducible repeat (first | apply Kd.R_alloc | apply Kd.R_drewN | apply Kd.R_drew)); exact Kd.R_mono a8.out (fun _ hk => ⟨hk.1.2.2.2, ⟨hk.2, ⟨hk.1.1, ⟨hk.1.2.1, hk.1.2.2.1⟩⟩⟩⟩)), (by (with_reducible repeat (first | apply Kd.R_alloc | apply Kd.R_drewN | apply Kd.R_drew)); exact Kd.R_mono ci.out (fun _ hk => ⟨hk.1.2, ⟨hk.2, ⟨hk.1.1.1.1.2, ⟨hk.1.1.1.2, hk.1.1.2⟩⟩⟩⟩)), (by (with_reducible repeat (first | apply Kd.R_alloc | apply Kd.R_drewN | apply Kd.R_drew)); exact Kd.R_mono cj.out (fun _ hk => ⟨hk.1.2, ⟨hk.2, ⟨hk.1.1.1.1.2, ⟨hk.1.1.1.2, hk.1.1.2⟩⟩⟩⟩)), (by (with_reducible repeat (first | apply Kd.Q_alloc | apply Kd.Q_drewN | apply Kd.Q_drew)); exact Kd.Q_mono Y.out (fun _ hk => ⟨hk.1.2.2.1, ⟨hk.1.2.2.2, ⟨hk.2, ⟨hk.1.1, hk.1.2.1⟩⟩⟩⟩)), (by (with_reducible repeat (first | apply Kd.R_alloc | apply Kd.R_drewN | apply Kd.R_drew)); exact Kd.R_mono Z.out (fun _ hk => ⟨hk.1.2.2.1, ⟨hk.1.2.2.2, ⟨hk.2, ⟨hk.1.1, hk.1.2.1⟩⟩⟩⟩)), (by (with_reducible repeat (first | apply Kd.Q_alloc | apply Kd.Q_drewN | apply Kd.Q_drew)); exact Kd.Q_mono aj.out (fun _ hk => ⟨hk.1.2.2.1, ⟨hk.1.2.2.2, ⟨hk.2, ⟨hk.1.1, hk.1.2.1⟩⟩⟩⟩)), (by (with_reducible repeat (first | apply Kd.R_alloc | apply Kd.R_drewN | apply Kd.R_drew)); exact Kd.R_mono ak.out (fun _ hk => ⟨hk.1.2.2.1, ⟨hk.1.2.2.2, ⟨hk.2, ⟨hk.1.1, hk.1.2.1⟩⟩⟩⟩)), (by (with_reducible repeat (first | apply Kd.R_alloc | apply Kd.R_drewN | apply Kd.R_drew)); exact Kd.R_mono ah.out (fun _ hk => ⟨hk.1.2.2.1, ⟨hk.1.2.2.2, ⟨hk.2, ⟨hk.1.1, hk.1.2.1⟩⟩⟩⟩)), (by (with_reducible repeat (first | apply Kd.R_alloc | apply Kd.R_drewN | apply Kd.R_drew)); exact Kd.R_mono ai.out (fun _ hk => ⟨hk.1.2.2.1, ⟨hk.1.2.2.2, ⟨hk.2, ⟨hk.1.1, hk.1.2.1⟩⟩⟩⟩)), (bf s.out), (bf D.out), (bf y.out), (bf ab.out), (bf ae.out), (bf aI.out), cR.out, cS.out, bV.out, cz.out, cA.out, cB.out, cC.out, cD.out, cE.out, cF.out, ck.out, cl.out, (bs HB.out)⟩)
        ·skip
         refine box_step ?hg (N := 12) ?hd (cs := #[.slice none 0 0, .slice none 0 0]) (t := 34) ?hr ?_; (case hd => rfl); (case hg => rfl); (case hr => first | (go_simp; done) | (go_simp; rfl))
         intro bc hg fd hbox hb
         replace Y := qb Y hb
         replace Z := rb Z hb
         replace aj := qb aj hb
         replace ak := rb ak hb
         replace ah := rb ah hb
         replace ai := rb ai hb
         replace aM := rb aM hb
         replace aN := rb aN hb
         replace a7 := rb a7 hb
         replace a8 := rb a8 hb
         have aI := am hbox
         have cR := gwb HB hg
         have cS := gwb HB hg
         replace HB := hs HB hb
         have bV := nq s hg
         have cz := nq' s hg
         replace s := bb s hb rfl
         have cA := nq D hg
         have cB := nq' D hg
         replace D := bb D hb rfl
         have cC := nq y hg
         have cD := nq' y hg
         replace y := bb y hb rfl
         have cE := nq ab hg
         have cF := nq' ab hg
         replace ab := bb ab hb rfl
         have ck := nq ae hg
         have cl := nq' ae hg
         replace ae := bb ae hb rfl
         clear hb hbox hg
         refine hK.out _ _ ⟨cx s 0, cx s 1⟩ (fun hHeld => ?_)
         clear hK K
         refine nrm 12 ?_
         refine on 3 75 (fun K hK => ?_)
         refine gs Try.func48 #[.int .i64 a4, .int .i64 bi] ?_
         with_reducible refine (impl_LabelMeet.calls a4 bi b2 _ e1.out).mono ?_
         rintro e w' ⟨rfl, ⟨nd, rfl⟩⟩
         refine ⟨_, rfl, ?_⟩
         refine hK.out _ _ ⟨cx s 0, cx s 1⟩ (fun hHeld => ?_)
         clear hK K
         refine nrm 75 ?_
         refine on 4 76 (fun K hK => ?_)
         refine gs Try.func36 #[.agg #[.slice af I.length ac, .slice ag J.length ad], .int .i64 b2] ?_
         with_reducible refine (impl_GraphView.calls bO _ _ I _ _ J b2 a5 ba _ ?aR ?aS ?aT ?aU ec.out).mono ?_
         (case aR => exact cq Y)
         (case aS => exact cd Y)
         (case aT => exact cr Z)
         (case aU => exact cc Z)
         rintro e fe ⟨bZ, b0, rfl, al, an, hb⟩
         refine ⟨_, rfl, ?_⟩
         have ci := am (Kd.R_lower (Kd.R_new' (Kd.R_new' (Kd.R_new' (Kd.R_new' (Kd.R_new' al (ql Y)) (ql aj)) (rk ah)) (rk aM)) (rk a7)) (below_size (bs HB.out)))
         replace Y := qe Y al hb
         replace aj := qe aj al hb
         replace ah := re ah al hb
         replace aM := re aM al hb
         replace a7 := re a7 al hb
         have cj := am (Kd.R_lower (Kd.R_new' (Kd.R_new' (Kd.R_new' (Kd.R_new' (Kd.R_new' an (rk Z)) (rk ak)) (rk ai)) (rk aN)) (rk a8)) (below_size (bs HB.out)))
         replace Z := re Z an hb
         replace ak := re ak an hb
         replace ai := re ai an hb
         replace aN := re aN an hb
         replace a8 := re a8 an hb
         replace s := bb s hb rfl
         replace D := bb D hb rfl
         replace y := bb y hb rfl
         replace ab := bb ab hb rfl
         replace ae := bb ae hb rfl
         replace aI := bb aI hb rfl
         replace HB := hs HB hb
         (try clear hb)
         (try clear hb2)
         (try clear hk)
         (try clear hi)
         (try clear al)
         (try clear an)
         refine hK.out _ _ ⟨cx s 0, cx s 1⟩ (fun hHeld => ?_)
         clear hK K
         refine nrm 76 ?_
         exact norm_ (by simp only [putAll, Act.put, List.setIfInBounds_toArray, List.set_cons_zero, List.set_cons_succ]) (hCont (bZ, b0, bc) _ ⟨hHeld, (by (with_reducible repeat (first | apply Kd.R_alloc | apply Kd.R_drewN | apply Kd.R_drew)); exact Kd.R_mono aM.out (fun _ hk => ⟨hk.1.2.2.2, ⟨hk.2, ⟨hk.1.1, ⟨hk.1.2.1, hk.1.2.2.1⟩⟩⟩⟩)), (by (with_reducible repeat (first | apply Kd.R_alloc | apply Kd.R_drewN | apply Kd.R_drew)); exact Kd.R_mono aN.out (fun _ hk => ⟨hk.1.2.2.2, ⟨hk.2, ⟨hk.1.1, ⟨hk.1.2.1, hk.1.2.2.1⟩⟩⟩⟩)), (by (with_reducible repeat (first | apply Kd.R_alloc | apply Kd.R_drewN | apply Kd.R_drew)); exact Kd.R_mono a7.out (fun _ hk => ⟨hk.1.2.2.2, ⟨hk.2, ⟨hk.1.1, ⟨hk.1.2.1, hk.1.2.2.1⟩⟩⟩⟩)), (by (with_reducible repeat (first | apply Kd.R_alloc | apply Kd.R_drewN | apply Kd.R_drew)); exact Kd.R_mono a8.out (fun _ hk => ⟨hk.1.2.2.2, ⟨hk.2, ⟨hk.1.1, ⟨hk.1.2.1, hk.1.2.2.1⟩⟩⟩⟩)), (by (with_reducible repeat (first | apply Kd.R_alloc | apply Kd.R_drewN | apply Kd.R_drew)); exact Kd.R_mono ci.out (fun _ hk => ⟨hk.1.2, ⟨hk.2, ⟨hk.1.1.1.1.2, ⟨hk.1.1.1.2, hk.1.1.2⟩⟩⟩⟩)), (by (with_reducible repeat (first | apply Kd.R_alloc | apply Kd.R_drewN | apply Kd.R_drew)); exact Kd.R_mono cj.out (fun _ hk => ⟨hk.1.2, ⟨hk.2, ⟨hk.1.1.1.1.2, ⟨hk.1.1.1.2, hk.1.1.2⟩⟩⟩⟩)), (by (with_reducible repeat (first | apply Kd.Q_alloc | apply Kd.Q_drewN | apply Kd.Q_drew)); exact Kd.Q_mono Y.out (fun _ hk => ⟨hk.1.2.2.1, ⟨hk.1.2.2.2, ⟨hk.2, ⟨hk.1.1, hk.1.2.1⟩⟩⟩⟩)), (by (with_reducible repeat (first | apply Kd.R_alloc | apply Kd.R_drewN | apply Kd.R_drew)); exact Kd.R_mono Z.out (fun _ hk => ⟨hk.1.2.2.1, ⟨hk.1.2.2.2, ⟨hk.2, ⟨hk.1.1, hk.1.2.1⟩⟩⟩⟩)), (by (with_reducible repeat (first | apply Kd.Q_alloc | apply Kd.Q_drewN | apply Kd.Q_drew)); exact Kd.Q_mono aj.out (fun _ hk => ⟨hk.1.2.2.1, ⟨hk.1.2.2.2, ⟨hk.2, ⟨hk.1.1, hk.1.2.1⟩⟩⟩⟩)), (by (with_reducible repeat (first | apply Kd.R_alloc | apply Kd.R_drewN | apply Kd.R_drew)); exact Kd.R_mono ak.out (fun _ hk => ⟨hk.1.2.2.1, ⟨hk.1.2.2.2, ⟨hk.2, ⟨hk.1.1, hk.1.2.1⟩⟩⟩⟩)), (by (with_reducible repeat (first | apply Kd.R_alloc | apply Kd.R_drewN | apply Kd.R_drew)); exact Kd.R_mono ah.out (fun _ hk => ⟨hk.1.2.2.1, ⟨hk.1.2.2.2, ⟨hk.2, ⟨hk.1.1, hk.1.2.1⟩⟩⟩⟩)), (by (with_reducible repeat (first | apply Kd.R_alloc | apply Kd.R_drewN | apply Kd.R_drew)); exact Kd.R_mono ai.out (fun _ hk => ⟨hk.1.2.2.1, ⟨hk.1.2.2.2, ⟨hk.2, ⟨hk.1.1, hk.1.2.1⟩⟩⟩⟩)), (bf s.out), (bf D.out), (bf y.out), (bf ab.out), (bf ae.out), (bf aI.out), cR.out, cS.out, bV.out, cz.out, cA.out, cB.out, cC.out, cD.out, cE.out, cF.out, ck.out, cl.out, (bs HB.out)⟩)
       rintro ⟨bZ, b0, bc⟩ bH ⟨hS_, db, dc, dd, de, df, dg, dh, di, dj, dk, dl, dm, dp, dq, dr, dt, du, dv, dw, dx, dy, dz, dA, dB, dC, dD, ff, fg, fh, fi, fj⟩
       have bj : Aside0 (Kd.R k36 36 bH w.heap.size (fun k_ => some k_ ≠ (.slice aX aa.length aO : Value).ownBlock ∧ some k_ ≠ (bZ : Value).ownBlock ∧ some k_ ≠ (.slice af I.length ac : Value).ownBlock ∧ some k_ ≠ (.slice ax ap.length ay : Value).ownBlock ∧ some k_ ≠ (.slice L z.length M : Value).ownBlock) (.slice aC ao.length aD) ao) := ⟨db⟩
       have bk : Aside0 (Kd.R k56 56 bH w.heap.size (fun k_ => some k_ ≠ (.slice aP aB.length aQ : Value).ownBlock ∧ some k_ ≠ (b0 : Value).ownBlock ∧ some k_ ≠ (.slice ag J.length ad : Value).ownBlock ∧ some k_ ≠ (.slice az aq.length aA : Value).ownBlock ∧ some k_ ≠ (.slice O G.length T : Value).ownBlock) (.slice aE av.length aF) av) := ⟨dc⟩
       have bl : Aside0 (Kd.R k36 36 bH w.heap.size (fun k_ => some k_ ≠ (.slice aC ao.length aD : Value).ownBlock ∧ some k_ ≠ (bZ : Value).ownBlock ∧ some k_ ≠ (.slice af I.length ac : Value).ownBlock ∧ some k_ ≠ (.slice ax ap.length ay : Value).ownBlock ∧ some k_ ≠ (.slice L z.length M : Value).ownBlock) (.slice aX aa.length aO) aa) := ⟨dd⟩
       have bm : Aside0 (Kd.R k56 56 bH w.heap.size (fun k_ => some k_ ≠ (.slice aE av.length aF : Value).ownBlock ∧ some k_ ≠ (b0 : Value).ownBlock ∧ some k_ ≠ (.slice ag J.length ad : Value).ownBlock ∧ some k_ ≠ (.slice az aq.length aA : Value).ownBlock ∧ some k_ ≠ (.slice O G.length T : Value).ownBlock) (.slice aP aB.length aQ) aB) := ⟨de⟩
       have bn : Aside0 (Kd.R k36 36 bH w.heap.size (fun k_ => some k_ ≠ (.slice aC ao.length aD : Value).ownBlock ∧ some k_ ≠ (.slice aX aa.length aO : Value).ownBlock ∧ some k_ ≠ (.slice af I.length ac : Value).ownBlock ∧ some k_ ≠ (.slice ax ap.length ay : Value).ownBlock ∧ some k_ ≠ (.slice L z.length M : Value).ownBlock) bZ a5) := ⟨df⟩
       have bo : Aside0 (Kd.R k56 56 bH w.heap.size (fun k_ => some k_ ≠ (.slice aE av.length aF : Value).ownBlock ∧ some k_ ≠ (.slice aP aB.length aQ : Value).ownBlock ∧ some k_ ≠ (.slice ag J.length ad : Value).ownBlock ∧ some k_ ≠ (.slice az aq.length aA : Value).ownBlock ∧ some k_ ≠ (.slice O G.length T : Value).ownBlock) b0 ba) := ⟨dg⟩
       have br : Aside0 (Kd.Q k36 36 bH w.heap.size (fun k_ => some k_ ≠ (.slice aC ao.length aD : Value).ownBlock ∧ some k_ ≠ (.slice aX aa.length aO : Value).ownBlock ∧ some k_ ≠ (bZ : Value).ownBlock ∧ some k_ ≠ (.slice ax ap.length ay : Value).ownBlock ∧ some k_ ≠ (.slice L z.length M : Value).ownBlock) (.slice af I.length ac) I) := ⟨dh⟩
       have bt : Aside0 (Kd.R k56 56 bH w.heap.size (fun k_ => some k_ ≠ (.slice aE av.length aF : Value).ownBlock ∧ some k_ ≠ (.slice aP aB.length aQ : Value).ownBlock ∧ some k_ ≠ (b0 : Value).ownBlock ∧ some k_ ≠ (.slice az aq.length aA : Value).ownBlock ∧ some k_ ≠ (.slice O G.length T : Value).ownBlock) (.slice ag J.length ad) J) := ⟨di⟩
       have bu : Aside0 (Kd.Q k36 36 bH w.heap.size (fun k_ => some k_ ≠ (.slice aC ao.length aD : Value).ownBlock ∧ some k_ ≠ (.slice aX aa.length aO : Value).ownBlock ∧ some k_ ≠ (bZ : Value).ownBlock ∧ some k_ ≠ (.slice af I.length ac : Value).ownBlock ∧ some k_ ≠ (.slice L z.length M : Value).ownBlock) (.slice ax ap.length ay) ap) := ⟨dj⟩
       have bv : Aside0 (Kd.R k56 56 bH w.heap.size (fun k_ => some k_ ≠ (.slice aE av.length aF : Value).ownBlock ∧ some k_ ≠ (.slice aP aB.length aQ : Value).ownBlock ∧ some k_ ≠ (b0 : Value).ownBlock ∧ some k_ ≠ (.slice ag J.length ad : Value).ownBlock ∧ some k_ ≠ (.slice O G.length T : Value).ownBlock) (.slice az aq.length aA) aq) := ⟨dk⟩
       have bS : Aside0 (Kd.R k36 36 bH w.heap.size (fun k_ => some k_ ≠ (.slice aC ao.length aD : Value).ownBlock ∧ some k_ ≠ (.slice aX aa.length aO : Value).ownBlock ∧ some k_ ≠ (bZ : Value).ownBlock ∧ some k_ ≠ (.slice af I.length ac : Value).ownBlock ∧ some k_ ≠ (.slice ax ap.length ay : Value).ownBlock) (.slice L z.length M) z) := ⟨dl⟩
       have bT : Aside0 (Kd.R k56 56 bH w.heap.size (fun k_ => some k_ ≠ (.slice aE av.length aF : Value).ownBlock ∧ some k_ ≠ (.slice aP aB.length aQ : Value).ownBlock ∧ some k_ ≠ (b0 : Value).ownBlock ∧ some k_ ≠ (.slice ag J.length ad : Value).ownBlock ∧ some k_ ≠ (.slice az aq.length aA : Value).ownBlock) (.slice O G.length T) G) := ⟨dm⟩
       have bU : Aside0 (bH.heap[aY]? = some (.cells #[.slice af I.length ac, .slice ag J.length ad] 34 (0, 0))) := ⟨dp⟩
       have cu : Aside0 (bH.heap[bJ]? = some (.cells #[.slice ax ap.length ay, .slice az aq.length aA] 34 (0, 0))) := ⟨dq⟩
       have cv : Aside0 (bH.heap[X]? = some (.cells #[.slice L z.length M, .slice O G.length T] 34 (0, 0))) := ⟨dr⟩
       have cy : Aside0 (bH.heap[aV]? = some (.cells #[.slice aC ao.length aD, .slice aE av.length aF] 34 (0, 0))) := ⟨dt⟩
       have dE : Aside0 (bH.heap[aw]? = some (.cells #[.slice aX aa.length aO, .slice aP aB.length aQ] 34 (0, 0))) := ⟨du⟩
       have dF : Aside0 (bH.heap[bc]? = some (.cells #[.slice none 0 0, .slice none 0 0] 34 (0, 0))) := ⟨dv⟩
       have dG : Ge w bc := ⟨dw⟩
       have dH : Ge w bc := ⟨dx⟩
       have dI : Nq aY bc := ⟨dy⟩
       have dJ : Nq bc aY := ⟨dz⟩
       have dK : Nq bJ bc := ⟨dA⟩
       have dL : Nq bc bJ := ⟨dB⟩
       have dM : Nq X bc := ⟨dC⟩
       have dN : Nq bc X := ⟨dD⟩
       have fk : Nq aV bc := ⟨ff⟩
       have fl : Nq bc aV := ⟨fg⟩
       have fm : Nq aw bc := ⟨fh⟩
       have fo : Nq bc aw := ⟨fi⟩
       have fp : Aside0 (Below w.heap.size w bH) := ⟨fj⟩
       clear Y
       clear Z
       clear aj
       clear ak
       clear ah
       clear ai
       clear aM
       clear aN
       clear a7
       clear a8
       clear s
       clear D
       clear y
       clear ab
       clear ae
       clear HB
       clear db dc dd de df dg dh di dj dk dl dm dp dq dr dt du dv dw dx dy dz dA dB dC dD ff fg fh fi fj
       have aM := bj
       have aN := bk
       have a7 := bl
       have a8 := bm
       have ci := bn
       have cj := bo
       have Y := br
       have Z := bt
       have aj := bu
       have ak := bv
       have ah := bS
       have ai := bT
       have s := bU
       have D := cu
       have y := cv
       have ab := cy
       have ae := dE
       have aI := dF
       have cR := dG
       have cS := dH
       have bV := dI
       have cz := dJ
       have cA := dK
       have cB := dL
       have cC := dM
       have cD := dN
       have cE := fk
       have cF := fl
       have ck := fm
       have cl := fo
       have HB := fp
       clear bj bk bl bm bn bo br bt bu bv bS bT bU cu cv cy dE dF dG dH dI dJ dK dL dM dN fk fl fm fo fp
       have hHeld : bH.cell? ⟨aY, 0, none⟩ = some (.slice af I.length ac) ∧ bH.cell? ⟨aY, 1, none⟩ = some (.slice ag J.length ad) := hS_
       obtain ⟨bK, bL, fq⟩ := Kd.R_slice ci.out
       (first | subst fq | (injection fq with a2 bC a3; have bD := a2.symm; have bE := a3.symm; clear a2 bC a3; subst bD; subst bE))
       obtain ⟨bM, bN, fr⟩ := Kd.R_slice cj.out
       (first | subst fr | (injection fr with a2 bC a3; have bD := a2.symm; have bE := a3.symm; clear a2 bC a3; subst bD; subst bE))
       refine norm_ (a' := ?_) ?_ ?_
       rotate_left
       ·simp only [putAll, Act.put, List.setIfInBounds_toArray, List.set_cons_zero, List.set_cons_succ]
        rfl
       refine on0 6 (fun K hK => ?_)
       have iL : bH.cell? ⟨bc, 0, none⟩ = some (.slice none 0 0) := cx aI 0
       have iM := blk_frozen aI.out 0
       have iN := bV.out
       have iO := cA.out
       have iP := cC.out
       have iQ := cE.out
       have iR := ck.out
       have iS := cz.out
       have iT := cB.out
       have iU := cD.out
       have iV := cF.out
       have iW := cl.out
       have iX : bH.cell? ⟨bc, 1, none⟩ = some (.slice none 0 0) := cx aI 1
       have iY := blk_frozen aI.out 1
       have iZ := bV.out
       have i0 := cA.out
       have i1 := cC.out
       have i2 := cE.out
       have i3 := ck.out
       have i4 := cz.out
       have i5 := cB.out
       have i6 := cD.out
       have i7 := cF.out
       have i8 := cl.out
       refine sk ?_
       refine hK.out _ _ ⟨((cell_far (p := ⟨bc, _, none⟩) bV.out _).trans (((cell_far (p := ⟨bc, _, none⟩) bV.out _).trans (hHeld.1)))), ((cell_far (p := ⟨bc, _, none⟩) bV.out _).trans (((cell_far (p := ⟨bc, _, none⟩) bV.out _).trans (hHeld.2))))⟩ (fun hHeld => ?_)
       clear hK K
       refine dn ?_
       try go_wp2
       go_loopg [13, 14] bO (fun kq gu gv w' => ∃ (bQ : Int) (aJ : Int), gu = .int .i64 bQ ∧ gv = .int .i64 aJ ∧ Aside0 (laws_FnGraphUnion.l0 kq bQ aJ z G ao av aa aB a5 ba = some r) ∧ Aside0 (kq ≤ bO) ∧ Aside0 (Kd.Q k36 36 w' w.heap.size (fun k_ => some k_ ≠ ((.slice ax ap.length ay) : Value).ownBlock ∧ some k_ ≠ ((.slice L z.length M) : Value).ownBlock ∧ some k_ ≠ ((.slice aC ao.length aD) : Value).ownBlock ∧ some k_ ≠ ((.slice aX aa.length aO) : Value).ownBlock ∧ some k_ ≠ ((.slice bK a5.length bL) : Value).ownBlock) (.slice af I.length ac) I) ∧ Aside0 (Kd.R k56 56 w' w.heap.size (fun k_ => some k_ ≠ ((.slice az aq.length aA) : Value).ownBlock ∧ some k_ ≠ ((.slice O G.length T) : Value).ownBlock ∧ some k_ ≠ ((.slice aE av.length aF) : Value).ownBlock ∧ some k_ ≠ ((.slice aP aB.length aQ) : Value).ownBlock ∧ some k_ ≠ ((.slice bM ba.length bN) : Value).ownBlock) (.slice ag J.length ad) J) ∧ Aside0 (Kd.Q k36 36 w' w.heap.size (fun k_ => some k_ ≠ ((.slice af I.length ac) : Value).ownBlock ∧ some k_ ≠ ((.slice L z.length M) : Value).ownBlock ∧ some k_ ≠ ((.slice aC ao.length aD) : Value).ownBlock ∧ some k_ ≠ ((.slice aX aa.length aO) : Value).ownBlock ∧ some k_ ≠ ((.slice bK a5.length bL) : Value).ownBlock) (.slice ax ap.length ay) ap) ∧ Aside0 (Kd.R k56 56 w' w.heap.size (fun k_ => some k_ ≠ ((.slice ag J.length ad) : Value).ownBlock ∧ some k_ ≠ ((.slice O G.length T) : Value).ownBlock ∧ some k_ ≠ ((.slice aE av.length aF) : Value).ownBlock ∧ some k_ ≠ ((.slice aP aB.length aQ) : Value).ownBlock ∧ some k_ ≠ ((.slice bM ba.length bN) : Value).ownBlock) (.slice az aq.length aA) aq) ∧ Aside0 (Kd.R k36 36 w' w.heap.size (fun k_ => some k_ ≠ ((.slice af I.length ac) : Value).ownBlock ∧ some k_ ≠ ((.slice ax ap.length ay) : Value).ownBlock ∧ some k_ ≠ ((.slice aC ao.length aD) : Value).ownBlock ∧ some k_ ≠ ((.slice aX aa.length aO) : Value).ownBlock ∧ some k_ ≠ ((.slice bK a5.length bL) : Value).ownBlock) (.slice L z.length M) z) ∧ Aside0 (Kd.R k56 56 w' w.heap.size (fun k_ => some k_ ≠ ((.slice ag J.length ad) : Value).ownBlock ∧ some k_ ≠ ((.slice az aq.length aA) : Value).ownBlock ∧ some k_ ≠ ((.slice aE av.length aF) : Value).ownBlock ∧ some k_ ≠ ((.slice aP aB.length aQ) : Value).ownBlock ∧ some k_ ≠ ((.slice bM ba.length bN) : Value).ownBlock) (.slice O G.length T) G) ∧ Aside0 (Kd.R k36 36 w' w.heap.size (fun k_ => some k_ ≠ ((.slice af I.length ac) : Value).ownBlock ∧ some k_ ≠ ((.slice ax ap.length ay) : Value).ownBlock ∧ some k_ ≠ ((.slice L z.length M) : Value).ownBlock ∧ some k_ ≠ ((.slice aX aa.length aO) : Value).ownBlock ∧ some k_ ≠ ((.slice bK a5.length bL) : Value).ownBlock) (.slice aC ao.length aD) ao) ∧ Aside0 (Kd.R k56 56 w' w.heap.size (fun k_ => some k_ ≠ ((.slice ag J.length ad) : Value).ownBlock ∧ some k_ ≠ ((.slice az aq.length aA) : Value).ownBlock ∧ some k_ ≠ ((.slice O G.length T) : Value).ownBlock ∧ some k_ ≠ ((.slice aP aB.length aQ) : Value).ownBlock ∧ some k_ ≠ ((.slice bM ba.length bN) : Value).ownBlock) (.slice aE av.length aF) av) ∧ Aside0 (Kd.R k36 36 w' w.heap.size (fun k_ => some k_ ≠ ((.slice af I.length ac) : Value).ownBlock ∧ some k_ ≠ ((.slice ax ap.length ay) : Value).ownBlock ∧ some k_ ≠ ((.slice L z.length M) : Value).ownBlock ∧ some k_ ≠ ((.slice aC ao.length aD) : Value).ownBlock ∧ some k_ ≠ ((.slice bK a5.length bL) : Value).ownBlock) (.slice aX aa.length aO) aa) ∧ Aside0 (Kd.R k56 56 w' w.heap.size (fun k_ => some k_ ≠ ((.slice ag J.length ad) : Value).ownBlock ∧ some k_ ≠ ((.slice az aq.length aA) : Value).ownBlock ∧ some k_ ≠ ((.slice O G.length T) : Value).ownBlock ∧ some k_ ≠ ((.slice aE av.length aF) : Value).ownBlock ∧ some k_ ≠ ((.slice bM ba.length bN) : Value).ownBlock) (.slice aP aB.length aQ) aB) ∧ Aside0 (Kd.R k36 36 w' w.heap.size (fun k_ => some k_ ≠ ((.slice af I.length ac) : Value).ownBlock ∧ some k_ ≠ ((.slice ax ap.length ay) : Value).ownBlock ∧ some k_ ≠ ((.slice L z.length M) : Value).ownBlock ∧ some k_ ≠ ((.slice aC ao.length aD) : Value).ownBlock ∧ some k_ ≠ ((.slice aX aa.length aO) : Value).ownBlock) (.slice bK a5.length bL) a5) ∧ Aside0 (Kd.R k56 56 w' w.heap.size (fun k_ => some k_ ≠ ((.slice ag J.length ad) : Value).ownBlock ∧ some k_ ≠ ((.slice az aq.length aA) : Value).ownBlock ∧ some k_ ≠ ((.slice O G.length T) : Value).ownBlock ∧ some k_ ≠ ((.slice aE av.length aF) : Value).ownBlock ∧ some k_ ≠ ((.slice aP aB.length aQ) : Value).ownBlock) (.slice bM ba.length bN) ba) ∧ Aside0 (w'.heap[aY]? = some (.cells #[(.slice af I.length ac), (.slice ag J.length ad)] 34 (0, 0))) ∧ Aside0 (w'.heap[bJ]? = some (.cells #[(.slice ax ap.length ay), (.slice az aq.length aA)] 34 (0, 0))) ∧ Aside0 (w'.heap[X]? = some (.cells #[(.slice L z.length M), (.slice O G.length T)] 34 (0, 0))) ∧ Aside0 (w'.heap[aV]? = some (.cells #[(.slice aC ao.length aD), (.slice aE av.length aF)] 34 (0, 0))) ∧ Aside0 (w'.heap[aw]? = some (.cells #[(.slice aX aa.length aO), (.slice aP aB.length aQ)] 34 (0, 0))) ∧ Aside0 (w'.heap[bc]? = some (.cells #[(.slice bK a5.length bL), (.slice bM ba.length bN)] 34 (0, 0))) ∧ Aside0 (Below w.heap.size w w'))
       case atStart => exact ⟨(0), (0), eqs, eqs, H', ⟨Nat.le_refl _⟩, ⟨Kd.Q_mono (qt Y.out aI.out (by decide)) (fun _ hk => ⟨hk.2.2.2.1, ⟨hk.2.2.2.2, ⟨hk.1, ⟨hk.2.1, hk.2.2.1⟩⟩⟩⟩)⟩, ⟨Kd.R_mono (rt Z.out aI.out (by decide)) (fun _ hk => ⟨hk.2.2.2.1, ⟨hk.2.2.2.2, ⟨hk.1, ⟨hk.2.1, hk.2.2.1⟩⟩⟩⟩)⟩, ⟨Kd.Q_mono (qt aj.out aI.out (by decide)) (fun _ hk => ⟨hk.2.2.2.1, ⟨hk.2.2.2.2, ⟨hk.1, ⟨hk.2.1, hk.2.2.1⟩⟩⟩⟩)⟩, ⟨Kd.R_mono (rt ak.out aI.out (by decide)) (fun _ hk => ⟨hk.2.2.2.1, ⟨hk.2.2.2.2, ⟨hk.1, ⟨hk.2.1, hk.2.2.1⟩⟩⟩⟩)⟩, ⟨Kd.R_mono (rt ah.out aI.out (by decide)) (fun _ hk => ⟨hk.2.2.2.1, ⟨hk.2.2.2.2, ⟨hk.1, ⟨hk.2.1, hk.2.2.1⟩⟩⟩⟩)⟩, ⟨Kd.R_mono (rt ai.out aI.out (by decide)) (fun _ hk => ⟨hk.2.2.2.1, ⟨hk.2.2.2.2, ⟨hk.1, ⟨hk.2.1, hk.2.2.1⟩⟩⟩⟩)⟩, ⟨Kd.R_mono (rt aM.out aI.out (by decide)) (fun _ hk => ⟨hk.2.2.1, ⟨hk.2.2.2.1, ⟨hk.2.2.2.2, ⟨hk.1, hk.2.1⟩⟩⟩⟩)⟩, ⟨Kd.R_mono (rt aN.out aI.out (by decide)) (fun _ hk => ⟨hk.2.2.1, ⟨hk.2.2.2.1, ⟨hk.2.2.2.2, ⟨hk.1, hk.2.1⟩⟩⟩⟩)⟩, ⟨Kd.R_mono (rt a7.out aI.out (by decide)) (fun _ hk => ⟨hk.2.2.1, ⟨hk.2.2.2.1, ⟨hk.2.2.2.2, ⟨hk.1, hk.2.1⟩⟩⟩⟩)⟩, ⟨Kd.R_mono (rt a8.out aI.out (by decide)) (fun _ hk => ⟨hk.2.2.1, ⟨hk.2.2.2.1, ⟨hk.2.2.2.2, ⟨hk.1, hk.2.1⟩⟩⟩⟩)⟩, ⟨Kd.R_mono (rt ci.out aI.out (by decide)) (fun _ hk => ⟨hk.2.2.1, ⟨hk.2.2.2.1, ⟨hk.2.2.2.2, ⟨hk.1, hk.2.1⟩⟩⟩⟩)⟩, ⟨Kd.R_mono (rt cj.out aI.out (by decide)) (fun _ hk => ⟨hk.2.2.1, ⟨hk.2.2.2.1, ⟨hk.2.2.2.2, ⟨hk.1, hk.2.1⟩⟩⟩⟩)⟩, ⟨bf s.out⟩, ⟨bf D.out⟩, ⟨bf y.out⟩, ⟨bf ab.out⟩, ⟨bf ae.out⟩, ⟨by (with_reducible repeat (first | refine blk_drewN ?_ _ | refine blk_drew ?_ | refine blk_alloc ?_ _)); refine blk_put (cs := #[.slice bK a5.length bL, .slice none 0 0]) ?_ 1 _ rfl; (with_reducible repeat (first | refine blk_drewN ?_ _ | refine blk_drew ?_ | refine blk_alloc ?_ _)); refine blk_put (cs := #[.slice none 0 0, .slice none 0 0]) ?_ 0 _ rfl; exact bf aI.out⟩, ⟨bs HB.out⟩⟩
       case round =>
        clear H'
        try clear p2
        try clear c3
        try clear c4
        try clear i9
        try clear ja
        obtain ⟨bQ, aJ, rfl, rfl, HA, cH, Y, Z, aj, ak, ah, ai, bA, bB, be, bF, bg, bh, s, D, y, ab, ae, aI, HB⟩ := hrel
        cases gk with
        | zero => exact absurd HA.out (by simp [laws_FnGraphUnion.l0])
        | succ k3 =>
         have H := HA.out
         clear HA
         simp only [laws_FnGraphUnion.l0] at H
         by_cases cT : aJ < (aa.length : Int)
         ·rw [if_pos cT] at H
          have gw : decide (aJ < (aa.length : Int)) = true := decide_eq_true cT
          clear cT
          by_cases dT : 0 ≤ aJ
          ·rw [if_pos dT] at H
           have jb : decide (0 ≤ aJ) = true := decide_eq_true dT
           clear dT
           replace H := Option.bind_eq_some_iff.mp H
           obtain ⟨cm, fs, H⟩ := H
           try dsimp -simprocs only at H
           have gx := am fs
           clear fs
           replace H := Option.bind_eq_some_iff.mp H
           obtain ⟨cJ, ft, H⟩ := H
           try dsimp -simprocs only at H
           have gy := am ft
           clear ft
           have ed := am H
           clear H
           have jc := b7.out
           have jd := bR.out
           have je := b9.out
           have jf := b8.out
           have jg := cf.out
           have jh := ce.out
           have ji := ch.out
           have jj := cg.out
           have jk := ck.out
           have jl := cl.out
           obtain ⟨jm, jn⟩ := bc2 (w := wr) ae.out
           have jo := blk_frozen ae.out
           try go_wp2
           replace Y := qd Y
           replace Z := rd_ Z
           replace aj := qd aj
           replace ak := rd_ ak
           replace ah := rd_ ah
           replace ai := rd_ ai
           replace bA := rd_ bA
           replace bB := rd_ bB
           replace be := rd_ be
           replace bF := rd_ bF
           replace bg := rd_ bg
           replace bh := rd_ bh
           replace s := bd s
           replace D := bd D
           replace y := bd y
           replace ab := bd ab
           replace ae := bd ae
           replace aI := bd aI
           replace HB := hd HB
           have ee : 0 ≤ (aJ : Int) := oda
           have ef : aJ < (aa.length : Int) := oda
           obtain ⟨bG, gz, fu, fv⟩ := at_T36 (Kd.R_reads' be.out).2.2 aJ ee ef
           cases gz
           replace ee := eq_true ee
           replace ef := eq_true ef
           refine sta 9 (fun w' => w'.cell? ⟨X, 0, none⟩ = some (.slice L z.length M) ∧ w'.cell? ⟨X, 1, none⟩ = some (.slice O G.length T) ∧ w'.cell? ⟨aw, 0, none⟩ = some (.slice (some bG) aa.length aO) ∧ w'.cell? ⟨aw, 1, none⟩ = some (.slice aP aB.length aQ) ∧ w'.cell? (bG.add ((aJ).toNat * 2)) = some (.int .i64 ((rd_T36 aa aJ).f0)) ∧ w'.cell? ⟨(bG.add ((aJ).toNat * 2)).block, (bG.add ((aJ).toNat * 2)).off + 1, none⟩ = some (.int .i64 ((rd_T36 aa aJ).f1))) [] ⟨cx y 0, cx y 1, cx ae 0, cx ae 1, fu, fv⟩ (fun hHeld => ?_); refine with_tabW laws_FnGraphUnion.tab15 laws_FnGraphUnion.bits15 (fun HT_ HW_ => ?_)
           generalize wr.drew = jp at Y Z aj ak ah ai bA bB be bF bg bh s D y ab ae aI HB fu fv hHeld ⊢
           refine pu 1 85 ?_
           refine pu 3 87 ?_
           refine tk 0 84 ?_
           refine tk 2 86 ?_
           refine pu 4 88 ?_
           refine tk 5 89 ?_
           refine on 6 90 (fun K hK => ?_)
           refine gs Try.func50 #[.agg #[.slice L z.length M, .slice O G.length T], .agg #[.int .i64 ((rd_T36 aa aJ).f0), .int .i64 ((rd_T36 aa aJ).f1)]] ?_
           with_reducible refine (laws_wpAt.calls k3 _ _ z _ _ G ((rd_T36 aa aJ).f0) ((rd_T36 aa aJ).f1) cm _ ?aR ?aS ?aT ?aU gx.out).mono ?_
           (case aR => exact cr ah)
           (case aS => exact cc ah)
           (case aT => exact cr ai)
           (case aU => exact cc ai)
           rintro e gA ⟨rfl, hb⟩
           have cK := cw hb hHeld.2.2.2.2.1
           have cL := cw hb hHeld.2.2.2.2.2
           refine ⟨_, rfl, ?_⟩
           replace Y := qb Y hb
           replace Z := rb Z hb
           replace aj := qb aj hb
           replace ak := rb ak hb
           replace ah := rb ah hb
           replace ai := rb ai hb
           replace bA := rb bA hb
           replace bB := rb bB hb
           replace be := rb be hb
           replace bF := rb bF hb
           replace bg := rb bg hb
           replace bh := rb bh hb
           replace s := bb s hb rfl
           replace D := bb D hb rfl
           replace y := bb y hb rfl
           replace ab := bb ab hb rfl
           replace ae := bb ae hb rfl
           replace aI := bb aI hb rfl
           replace HB := hs HB hb
           (try clear hb)
           (try clear hb2)
           (try clear hk)
           (try clear hi)
           refine hK.out _ _ ⟨cx y 0, cx y 1, cx ae 0, cx ae 1, cK, cL⟩ (fun hHeld => ?_)
           clear hK K
           refine nrm 90 ?_
           refine pu 7 91 ?_
           refine pu 8 15 ?_
           refine dn ?_
           try go_wp2
           replace Y := qd Y
           replace Z := rd_ Z
           replace aj := qd aj
           replace ak := rd_ ak
           replace ah := rd_ ah
           replace ai := rd_ ai
           replace bA := rd_ bA
           replace bB := rd_ bB
           replace be := rd_ be
           replace bF := rd_ bF
           replace bg := rd_ bg
           replace bh := rd_ bh
           replace s := bd s
           replace D := bd D
           replace y := bd y
           replace ab := bd ab
           replace ae := bd ae
           replace aI := bd aI
           replace HB := hd HB
           have eg : 0 ≤ (aJ : Int) := oda
           have eh : aJ < (aa.length : Int) := oda
           obtain ⟨gB, gC, fw, fx⟩ := at_T36 (Kd.R_reads' be.out).2.2 aJ eg eh
           obtain rfl : bG = gB := (by injection gC)
           replace eg := eq_true eg
           replace eh := eq_true eh
           refine sta 9 (fun w' => w'.cell? ⟨aV, 0, none⟩ = some (.slice aC ao.length aD) ∧ w'.cell? ⟨aV, 1, none⟩ = some (.slice aE av.length aF) ∧ w'.cell? ⟨aw, 0, none⟩ = some (.slice (some bG) aa.length aO) ∧ w'.cell? ⟨aw, 1, none⟩ = some (.slice aP aB.length aQ) ∧ w'.cell? (bG.add ((aJ).toNat * 2)) = some (.int .i64 ((rd_T36 aa aJ).f0)) ∧ w'.cell? ⟨(bG.add ((aJ).toNat * 2)).block, (bG.add ((aJ).toNat * 2)).off + 1, none⟩ = some (.int .i64 ((rd_T36 aa aJ).f1))) [] ⟨cx ab 0, cx ab 1, cx ae 0, cx ae 1, fw, fx⟩ (fun hHeld => ?_); refine with_tabW laws_FnGraphUnion.tab16 laws_FnGraphUnion.bits16 (fun HT_ HW_ => ?_)
           generalize gA.drew = jq at Y Z aj ak ah ai bA bB be bF bg bh s D y ab ae aI HB fw fx hHeld ⊢
           refine pu 1 93 ?_
           refine pu 3 95 ?_
           refine tk 0 92 ?_
           refine tk 2 94 ?_
           refine pu 4 96 ?_
           refine tk 5 97 ?_
           refine on 6 98 (fun K hK => ?_)
           refine gs Try.func50 #[.agg #[.slice aC ao.length aD, .slice aE av.length aF], .agg #[.int .i64 ((rd_T36 aa aJ).f0), .int .i64 ((rd_T36 aa aJ).f1)]] ?_
           with_reducible refine (laws_wpAt.calls k3 _ _ ao _ _ av ((rd_T36 aa aJ).f0) ((rd_T36 aa aJ).f1) cJ _ ?aR ?aS ?aT ?aU gy.out).mono ?_
           (case aR => exact cr bA)
           (case aS => exact cc bA)
           (case aT => exact cr bB)
           (case aU => exact cc bB)
           rintro e fy ⟨rfl, hb⟩
           have cK := cw hb hHeld.2.2.2.2.1
           have cL := cw hb hHeld.2.2.2.2.2
           refine ⟨_, rfl, ?_⟩
           replace Y := qb Y hb
           replace Z := rb Z hb
           replace aj := qb aj hb
           replace ak := rb ak hb
           replace ah := rb ah hb
           replace ai := rb ai hb
           replace bA := rb bA hb
           replace bB := rb bB hb
           replace be := rb be hb
           replace bF := rb bF hb
           replace bg := rb bg hb
           replace bh := rb bh hb
           replace s := bb s hb rfl
           replace D := bb D hb rfl
           replace y := bb y hb rfl
           replace ab := bb ab hb rfl
           replace ae := bb ae hb rfl
           replace aI := bb aI hb rfl
           replace HB := hs HB hb
           (try clear hb)
           (try clear hb2)
           (try clear hk)
           (try clear hi)
           refine hK.out _ _ ⟨cx ab 0, cx ab 1, cx ae 0, cx ae 1, cK, cL⟩ (fun hHeld => ?_)
           clear hK K
           refine nrm 98 ?_
           refine pu 7 99 ?_
           refine pu 8 16 ?_
           refine dn ?_
           go_upto_region 17 with (fail)
           go_cut [15, 112] (fun gD gE wc => ∃ (kq : Nat) (dU : Bool), gD = .bool (decide (0 ≤ cm)) ∧ gE = .bool dU ∧ Aside0 (laws_FnGraphUnion.j3 kq bQ aJ (decide (cm ≥ 0)) (decide (cJ ≥ 0)) dU z G ao av aa aB a5 ba = some r) ∧ Aside0 (kq ≤ k3) ∧ Aside0 (Kd.Q k36 36 wc w.heap.size (fun k_ => some k_ ≠ ((.slice ax ap.length ay) : Value).ownBlock ∧ some k_ ≠ ((.slice L z.length M) : Value).ownBlock ∧ some k_ ≠ ((.slice aC ao.length aD) : Value).ownBlock ∧ some k_ ≠ ((.slice (some bG) aa.length aO) : Value).ownBlock ∧ some k_ ≠ ((.slice bK a5.length bL) : Value).ownBlock) (.slice af I.length ac) I) ∧ Aside0 (Kd.R k56 56 wc w.heap.size (fun k_ => some k_ ≠ ((.slice az aq.length aA) : Value).ownBlock ∧ some k_ ≠ ((.slice O G.length T) : Value).ownBlock ∧ some k_ ≠ ((.slice aE av.length aF) : Value).ownBlock ∧ some k_ ≠ ((.slice aP aB.length aQ) : Value).ownBlock ∧ some k_ ≠ ((.slice bM ba.length bN) : Value).ownBlock) (.slice ag J.length ad) J) ∧ Aside0 (Kd.Q k36 36 wc w.heap.size (fun k_ => some k_ ≠ ((.slice af I.length ac) : Value).ownBlock ∧ some k_ ≠ ((.slice L z.length M) : Value).ownBlock ∧ some k_ ≠ ((.slice aC ao.length aD) : Value).ownBlock ∧ some k_ ≠ ((.slice (some bG) aa.length aO) : Value).ownBlock ∧ some k_ ≠ ((.slice bK a5.length bL) : Value).ownBlock) (.slice ax ap.length ay) ap) ∧ Aside0 (Kd.R k56 56 wc w.heap.size (fun k_ => some k_ ≠ ((.slice ag J.length ad) : Value).ownBlock ∧ some k_ ≠ ((.slice O G.length T) : Value).ownBlock ∧ some k_ ≠ ((.slice aE av.length aF) : Value).ownBlock ∧ some k_ ≠ ((.slice aP aB.length aQ) : Value).ownBlock ∧ some k_ ≠ ((.slice bM ba.length bN) : Value).ownBlock) (.slice az aq.length aA) aq) ∧ Aside0 (Kd.R k36 36 wc w.heap.size (fun k_ => some k_ ≠ ((.slice af I.length ac) : Value).ownBlock ∧ some k_ ≠ ((.slice ax ap.length ay) : Value).ownBlock ∧ some k_ ≠ ((.slice aC ao.length aD) : Value).ownBlock ∧ some k_ ≠ ((.slice (some bG) aa.length aO) : Value).ownBlock ∧ some k_ ≠ ((.slice bK a5.length bL) : Value).ownBlock) (.slice L z.length M) z) ∧ Aside0 (Kd.R k56 56 wc w.heap.size (fun k_ => some k_ ≠ ((.slice ag J.length ad) : Value).ownBlock ∧ some k_ ≠ ((.slice az aq.length aA) : Value).ownBlock ∧ some k_ ≠ ((.slice aE av.length aF) : Value).ownBlock ∧ some k_ ≠ ((.slice aP aB.length aQ) : Value).ownBlock ∧ some k_ ≠ ((.slice bM ba.length bN) : Value).ownBlock) (.slice O G.length T) G) ∧ Aside0 (Kd.R k36 36 wc w.heap.size (fun k_ => some k_ ≠ ((.slice af I.length ac) : Value).ownBlock ∧ some k_ ≠ ((.slice ax ap.length ay) : Value).ownBlock ∧ some k_ ≠ ((.slice L z.length M) : Value).ownBlock ∧ some k_ ≠ ((.slice (some bG) aa.length aO) : Value).ownBlock ∧ some k_ ≠ ((.slice bK a5.length bL) : Value).ownBlock) (.slice aC ao.length aD) ao) ∧ Aside0 (Kd.R k56 56 wc w.heap.size (fun k_ => some k_ ≠ ((.slice ag J.length ad) : Value).ownBlock ∧ some k_ ≠ ((.slice az aq.length aA) : Value).ownBlock ∧ some k_ ≠ ((.slice O G.length T) : Value).ownBlock ∧ some k_ ≠ ((.slice aP aB.length aQ) : Value).ownBlock ∧ some k_ ≠ ((.slice bM ba.length bN) : Value).ownBlock) (.slice aE av.length aF) av) ∧ Aside0 (Kd.R k36 36 wc w.heap.size (fun k_ => some k_ ≠ ((.slice af I.length ac) : Value).ownBlock ∧ some k_ ≠ ((.slice ax ap.length ay) : Value).ownBlock ∧ some k_ ≠ ((.slice L z.length M) : Value).ownBlock ∧ some k_ ≠ ((.slice aC ao.length aD) : Value).ownBlock ∧ some k_ ≠ ((.slice bK a5.length bL) : Value).ownBlock) (.slice (some bG) aa.length aO) aa) ∧ Aside0 (Kd.R k56 56 wc w.heap.size (fun k_ => some k_ ≠ ((.slice ag J.length ad) : Value).ownBlock ∧ some k_ ≠ ((.slice az aq.length aA) : Value).ownBlock ∧ some k_ ≠ ((.slice O G.length T) : Value).ownBlock ∧ some k_ ≠ ((.slice aE av.length aF) : Value).ownBlock ∧ some k_ ≠ ((.slice bM ba.length bN) : Value).ownBlock) (.slice aP aB.length aQ) aB) ∧ Aside0 (Kd.R k36 36 wc w.heap.size (fun k_ => some k_ ≠ ((.slice af I.length ac) : Value).ownBlock ∧ some k_ ≠ ((.slice ax ap.length ay) : Value).ownBlock ∧ some k_ ≠ ((.slice L z.length M) : Value).ownBlock ∧ some k_ ≠ ((.slice aC ao.length aD) : Value).ownBlock ∧ some k_ ≠ ((.slice (some bG) aa.length aO) : Value).ownBlock) (.slice bK a5.length bL) a5) ∧ Aside0 (Kd.R k56 56 wc w.heap.size (fun k_ => some k_ ≠ ((.slice ag J.length ad) : Value).ownBlock ∧ some k_ ≠ ((.slice az aq.length aA) : Value).ownBlock ∧ some k_ ≠ ((.slice O G.length T) : Value).ownBlock ∧ some k_ ≠ ((.slice aE av.length aF) : Value).ownBlock ∧ some k_ ≠ ((.slice aP aB.length aQ) : Value).ownBlock) (.slice bM ba.length bN) ba) ∧ Aside0 (wc.heap[aY]? = some (.cells #[(.slice af I.length ac), (.slice ag J.length ad)] 34 (0, 0))) ∧ Aside0 (wc.heap[bJ]? = some (.cells #[(.slice ax ap.length ay), (.slice az aq.length aA)] 34 (0, 0))) ∧ Aside0 (wc.heap[X]? = some (.cells #[(.slice L z.length M), (.slice O G.length T)] 34 (0, 0))) ∧ Aside0 (wc.heap[aV]? = some (.cells #[(.slice aC ao.length aD), (.slice aE av.length aF)] 34 (0, 0))) ∧ Aside0 (wc.heap[aw]? = some (.cells #[(.slice (some bG) aa.length aO), (.slice aP aB.length aQ)] 34 (0, 0))) ∧ Aside0 (wc.heap[bc]? = some (.cells #[(.slice bK a5.length bL), (.slice bM ba.length bN)] 34 (0, 0))) ∧ Aside0 (Below w.heap.size w wc))
           case first =>
            have H := ed.out
            clear ed
            by_cases cM : cm ≥ 0
            ·rw [if_pos cM] at H
             have cU : decide (0 ≤ cm) = true := decide_eq_true cM
             clear cM
             (first | rw [cU] | (simp only [i64_w, i32_w]; rw [cU]) | skip)
             replace H := Option.bind_eq_some_iff.mp H
             obtain ⟨fz, fA, H⟩ := H
             try dsimp -simprocs only at H
             have gF := am fA
             clear fA
             have H' := am H
             clear H
             try go_wp2
             replace Y := qd Y
             replace Z := rd_ Z
             replace aj := qd aj
             replace ak := rd_ ak
             replace ah := rd_ ah
             replace ai := rd_ ai
             replace bA := rd_ bA
             replace bB := rd_ bB
             replace be := rd_ be
             replace bF := rd_ bF
             replace bg := rd_ bg
             replace bh := rd_ bh
             replace s := bd s
             replace D := bd D
             replace y := bd y
             replace ab := bd ab
             replace ae := bd ae
             replace aI := bd aI
             replace HB := hd HB
             have dV : 0 ≤ (aJ : Int) := oda
             have dW : aJ < (aa.length : Int) := oda
             obtain ⟨gG, gH, ei, ej⟩ := at_T36 (Kd.R_reads' be.out).2.2 aJ dV dW
             obtain rfl : bG = gG := (by injection gH)
             replace dV := eq_true dV
             replace dW := eq_true dW
             refine sta 13 (fun w' => w'.cell? ⟨bc, 0, none⟩ = some (.slice bK a5.length bL) ∧ w'.cell? ⟨bc, 1, none⟩ = some (.slice bM ba.length bN) ∧ w'.cell? ⟨aw, 0, none⟩ = some (.slice (some bG) aa.length aO) ∧ w'.cell? ⟨aw, 1, none⟩ = some (.slice aP aB.length aQ) ∧ w'.cell? (bG.add ((aJ).toNat * 2)) = some (.int .i64 ((rd_T36 aa aJ).f0)) ∧ w'.cell? ⟨(bG.add ((aJ).toNat * 2)).block, (bG.add ((aJ).toNat * 2)).off + 1, none⟩ = some (.int .i64 ((rd_T36 aa aJ).f1))) [] ⟨cx aI 0, cx aI 1, cx ae 0, cx ae 1, ei, ej⟩ (fun hHeld => ?_); refine with_tabW laws_FnGraphUnion.tab17 laws_FnGraphUnion.bits17 (fun HT_ HW_ => ?_)
             generalize fy.drew = jr at Y Z aj ak ah ai bA bB be bF bg bh s D y ab ae aI HB ei ej hHeld ⊢
             refine pu 0 100 ?_
             refine pu 1 101 ?_
             refine pu 2 102 ?_
             refine pu 3 103 ?_
             refine pu 5 105 ?_
             refine pu 7 107 ?_
             refine tk 4 104 ?_
             refine tk 6 106 ?_
             refine pu 8 108 ?_
             refine tk 9 109 ?_
             refine on 10 110 (fun K hK => ?_)
             refine gs Try.func50 #[.agg #[.slice bK a5.length bL, .slice bM ba.length bN], .agg #[.int .i64 ((rd_T36 aa aJ).f0), .int .i64 ((rd_T36 aa aJ).f1)]] ?_
             with_reducible refine (laws_wpAt.calls k3 _ _ a5 _ _ ba ((rd_T36 aa aJ).f0) ((rd_T36 aa aJ).f1) fz _ ?aR ?aS ?aT ?aU gF.out).mono ?_
             (case aR => exact cr bg)
             (case aS => exact cc bg)
             (case aT => exact cr bh)
             (case aU => exact cc bh)
             rintro e js ⟨rfl, hb⟩
             have cK := cw hb hHeld.2.2.2.2.1
             have cL := cw hb hHeld.2.2.2.2.2
             refine ⟨_, rfl, ?_⟩
             replace Y := qb Y hb
             replace Z := rb Z hb
             replace aj := qb aj hb
             replace ak := rb ak hb
             replace ah := rb ah hb
             replace ai := rb ai hb
             replace bA := rb bA hb
             replace bB := rb bB hb
             replace be := rb be hb
             replace bF := rb bF hb
             replace bg := rb bg hb
             replace bh := rb bh hb
             replace s := bb s hb rfl
             replace D := bb D hb rfl
             replace y := bb y hb rfl
             replace ab := bb ab hb rfl
             replace ae := bb ae hb rfl
             replace aI := bb aI hb rfl
             replace HB := hs HB hb
             (try clear hb)
             (try clear hb2)
             (try clear hk)
             (try clear hi)
             refine hK.out _ _ ⟨cx aI 0, cx aI 1, cx ae 0, cx ae 1, cK, cL⟩ (fun hHeld => ?_)
             clear hK K
             refine nrm 110 ?_
             refine pu 11 111 ?_
             refine pu 12 112 ?_
             refine dn ?_
             try go_wp2
             go_meet
             case rel => exact ⟨_, (((decide (cJ ≥ 0)) != (decide (fz ≥ 0)))), (by first | rfl | (simp; done) | (simp [*]; done)), eqs, H', ⟨by have := bW.out; have := cG.out; have := cH.out; first | omega | exact Nat.le_refl _⟩, ⟨qf Y.out⟩, ⟨rl Z.out⟩, ⟨qf aj.out⟩, ⟨rl ak.out⟩, ⟨rl ah.out⟩, ⟨rl ai.out⟩, ⟨rl bA.out⟩, ⟨rl bB.out⟩, ⟨rl be.out⟩, ⟨rl bF.out⟩, ⟨rl bg.out⟩, ⟨rl bh.out⟩, ⟨bf s.out⟩, ⟨bf D.out⟩, ⟨bf y.out⟩, ⟨bf ab.out⟩, ⟨bf ae.out⟩, ⟨bf aI.out⟩, ⟨bs HB.out⟩⟩
            ·rw [if_neg cM] at H
             have cU : decide (0 ≤ cm) = false := decide_eq_false cM
             clear cM
             (first | rw [cU] | (simp only [i64_w, i32_w]; rw [cU]) | skip)
             replace H := Option.bind_eq_some_iff.mp H
             obtain ⟨fB, fC, H⟩ := H
             try dsimp -simprocs only at H
             have gI := am fC
             clear fC
             have H' := am H
             clear H
             try go_wp2
             replace Y := qd Y
             replace Z := rd_ Z
             replace aj := qd aj
             replace ak := rd_ ak
             replace ah := rd_ ah
             replace ai := rd_ ai
             replace bA := rd_ bA
             replace bB := rd_ bB
             replace be := rd_ be
             replace bF := rd_ bF
             replace bg := rd_ bg
             replace bh := rd_ bh
             replace s := bd s
             replace D := bd D
             replace y := bd y
             replace ab := bd ab
             replace ae := bd ae
             replace aI := bd aI
             replace HB := hd HB
             have dX : 0 ≤ (aJ : Int) := oda
             have dY : aJ < (aa.length : Int) := oda
             obtain ⟨gJ, gK, ek, el⟩ := at_T36 (Kd.R_reads' be.out).2.2 aJ dX dY
             obtain rfl : bG = gJ := (by injection gK)
             replace dX := eq_true dX
             replace dY := eq_true dY
             refine sta 13 (fun w' => w'.cell? ⟨bc, 0, none⟩ = some (.slice bK a5.length bL) ∧ w'.cell? ⟨bc, 1, none⟩ = some (.slice bM ba.length bN) ∧ w'.cell? ⟨aw, 0, none⟩ = some (.slice (some bG) aa.length aO) ∧ w'.cell? ⟨aw, 1, none⟩ = some (.slice aP aB.length aQ) ∧ w'.cell? (bG.add ((aJ).toNat * 2)) = some (.int .i64 ((rd_T36 aa aJ).f0)) ∧ w'.cell? ⟨(bG.add ((aJ).toNat * 2)).block, (bG.add ((aJ).toNat * 2)).off + 1, none⟩ = some (.int .i64 ((rd_T36 aa aJ).f1))) [] ⟨cx aI 0, cx aI 1, cx ae 0, cx ae 1, ek, el⟩ (fun hHeld => ?_); refine with_tabW laws_FnGraphUnion.tab17 laws_FnGraphUnion.bits17 (fun HT_ HW_ => ?_)
             generalize fy.drew = jt at Y Z aj ak ah ai bA bB be bF bg bh s D y ab ae aI HB ek el hHeld ⊢
             refine pu 0 100 ?_
             refine pu 1 101 ?_
             refine ud 2 102 ?_
             refine pu 3 103 ?_
             refine pu 5 105 ?_
             refine pu 7 107 ?_
             refine tk 4 104 ?_
             refine tk 6 106 ?_
             refine pu 8 108 ?_
             refine tk 9 109 ?_
             refine on 10 110 (fun K hK => ?_)
             refine gs Try.func50 #[.agg #[.slice bK a5.length bL, .slice bM ba.length bN], .agg #[.int .i64 ((rd_T36 aa aJ).f0), .int .i64 ((rd_T36 aa aJ).f1)]] ?_
             with_reducible refine (laws_wpAt.calls k3 _ _ a5 _ _ ba ((rd_T36 aa aJ).f0) ((rd_T36 aa aJ).f1) fB _ ?aR ?aS ?aT ?aU gI.out).mono ?_
             (case aR => exact cr bg)
             (case aS => exact cc bg)
             (case aT => exact cr bh)
             (case aU => exact cc bh)
             rintro e ju ⟨rfl, hb⟩
             have cK := cw hb hHeld.2.2.2.2.1
             have cL := cw hb hHeld.2.2.2.2.2
             refine ⟨_, rfl, ?_⟩
             replace Y := qb Y hb
             replace Z := rb Z hb
             replace aj := qb aj hb
             replace ak := rb ak hb
             replace ah := rb ah hb
             replace ai := rb ai hb
             replace bA := rb bA hb
             replace bB := rb bB hb
             replace be := rb be hb
             replace bF := rb bF hb
             replace bg := rb bg hb
             replace bh := rb bh hb
             replace s := bb s hb rfl
             replace D := bb D hb rfl
             replace y := bb y hb rfl
             replace ab := bb ab hb rfl
             replace ae := bb ae hb rfl
             replace aI := bb aI hb rfl
             replace HB := hs HB hb
             (try clear hb)
             (try clear hb2)
             (try clear hk)
             (try clear hi)
             refine hK.out _ _ ⟨cx aI 0, cx aI 1, cx ae 0, cx ae 1, cK, cL⟩ (fun hHeld => ?_)
             clear hK K
             refine nrm 110 ?_
             refine pu 11 111 ?_
             refine pu 12 112 ?_
             refine dn ?_
             try go_wp2
             go_meet
             case rel => exact ⟨_, ((false != (decide (fB ≥ 0)))), (by first | rfl | (simp; done) | (simp [*]; done)), eqs, H', ⟨by have := bW.out; have := cG.out; have := cH.out; first | omega | exact Nat.le_refl _⟩, ⟨qf Y.out⟩, ⟨rl Z.out⟩, ⟨qf aj.out⟩, ⟨rl ak.out⟩, ⟨rl ah.out⟩, ⟨rl ai.out⟩, ⟨rl bA.out⟩, ⟨rl bB.out⟩, ⟨rl be.out⟩, ⟨rl bF.out⟩, ⟨rl bg.out⟩, ⟨rl bh.out⟩, ⟨bf s.out⟩, ⟨bf D.out⟩, ⟨bf y.out⟩, ⟨bf ab.out⟩, ⟨bf ae.out⟩, ⟨bf aI.out⟩, ⟨bs HB.out⟩⟩
           case rest =>
            clear ed
            try clear c1
            try clear p2
            try clear c5
            try clear p6
            try clear q6
            try clear jv
            try clear jw
            try clear jx
            try clear jy
            try clear jz
            try clear jA
            try clear cM
            try clear cU
            try clear ei
            try clear ej
            try clear ek
            try clear el
            try clear dV
            try clear dX
            try clear dW
            try clear dY
            obtain ⟨kq, dU, rfl, rfl, HA, cV, Y, Z, aj, ak, ah, ai, bA, bB, be, bF, bg, bh, s, D, y, ab, ae, aI, HB⟩ := hcut
            cases kq with
            | zero => exact absurd HA.out (by simp [laws_FnGraphUnion.j3])
            | succ cW =>
             have H := HA.out
             clear HA
             simp only [laws_FnGraphUnion.j3] at H
             by_cases dZ : dU = true
             ·subst dZ
              replace H : (some false) = some r := by rw [if_pos rfl] at H; exact H
              exact absurd (Option.some.inj H) (by rw [hT.out]; decide)
             ·replace dZ := Bool.eq_false_iff.mpr dZ
              subst dZ
              have H1 : (if (decide (cm ≥ 0)) = true then (laws_FnGraphUnion.l0 cW (wrap64 (bQ + 1)) (wrap64 (aJ + 1)) z G ao av aa aB a5 ba) else (if (decide (cJ ≥ 0)) = true then (laws_FnGraphUnion.l0 cW (wrap64 (bQ + 1)) (wrap64 (aJ + 1)) z G ao av aa aB a5 ba) else (laws_FnGraphUnion.l0 cW bQ (wrap64 (aJ + 1)) z G ao av aa aB a5 ba))) = some r := by rw [if_neg (show ¬ (false = true) by decide)] at H; exact H
              clear H
              have H := H1
              clear H1
              by_cases cX : (decide (cm ≥ 0)) = true
              ·rw [if_pos cX] at H
               have gL : (decide (cm ≥ 0)) = true := cX
               clear cX
               have H' := am H
               clear H
               go_wp2
               go_roundg cW
               case measure => have := bW.out; have := cG.out; have := cH.out; have := cV.out; omega
               case rel => exact ⟨(wrap64 (bQ + 1)), (wrap64 (aJ + 1)), eqs, eqs, H', ⟨by have := bW.out; have := cG.out; have := cH.out; have := cV.out; omega⟩, ⟨qf Y.out⟩, ⟨rl Z.out⟩, ⟨qf aj.out⟩, ⟨rl ak.out⟩, ⟨rl ah.out⟩, ⟨rl ai.out⟩, ⟨rl bA.out⟩, ⟨rl bB.out⟩, ⟨rl be.out⟩, ⟨rl bF.out⟩, ⟨rl bg.out⟩, ⟨rl bh.out⟩, ⟨bf s.out⟩, ⟨bf D.out⟩, ⟨bf y.out⟩, ⟨bf ab.out⟩, ⟨bf ae.out⟩, ⟨bf aI.out⟩, ⟨bs HB.out⟩⟩
              ·rw [if_neg cX] at H
               have gL : (decide (cm ≥ 0)) = false := by simpa using cX
               clear cX
               by_cases cY : (decide (cJ ≥ 0)) = true
               ·rw [if_pos cY] at H
                have gM : (decide (cJ ≥ 0)) = true := cY
                clear cY
                have H' := am H
                clear H
                go_wp2
                go_roundg cW
                case measure => have := bW.out; have := cG.out; have := cH.out; have := cV.out; omega
                case rel => exact ⟨(wrap64 (bQ + 1)), (wrap64 (aJ + 1)), eqs, eqs, H', ⟨by have := bW.out; have := cG.out; have := cH.out; have := cV.out; omega⟩, ⟨qf Y.out⟩, ⟨rl Z.out⟩, ⟨qf aj.out⟩, ⟨rl ak.out⟩, ⟨rl ah.out⟩, ⟨rl ai.out⟩, ⟨rl bA.out⟩, ⟨rl bB.out⟩, ⟨rl be.out⟩, ⟨rl bF.out⟩, ⟨rl bg.out⟩, ⟨rl bh.out⟩, ⟨bf s.out⟩, ⟨bf D.out⟩, ⟨bf y.out⟩, ⟨bf ab.out⟩, ⟨bf ae.out⟩, ⟨bf aI.out⟩, ⟨bs HB.out⟩⟩
               ·rw [if_neg cY] at H
                have gM : (decide (cJ ≥ 0)) = false := by simpa using cY
                clear cY
                have H' := am H
                clear H
                go_wp2
                go_roundg cW
                case measure => have := bW.out; have := cG.out; have := cH.out; have := cV.out; omega
                case rel => exact ⟨(bQ), (wrap64 (aJ + 1)), eqs, eqs, H', ⟨by have := bW.out; have := cG.out; have := cH.out; have := cV.out; omega⟩, ⟨qf Y.out⟩, ⟨rl Z.out⟩, ⟨qf aj.out⟩, ⟨rl ak.out⟩, ⟨rl ah.out⟩, ⟨rl ai.out⟩, ⟨rl bA.out⟩, ⟨rl bB.out⟩, ⟨rl be.out⟩, ⟨rl bF.out⟩, ⟨rl bg.out⟩, ⟨rl bh.out⟩, ⟨bf s.out⟩, ⟨bf D.out⟩, ⟨bf y.out⟩, ⟨bf ab.out⟩, ⟨bf ae.out⟩, ⟨bf aI.out⟩, ⟨bs HB.out⟩⟩
          ·rw [if_neg dT] at H
           exact absurd H (by simp)
         ·rw [if_neg cT] at H
          have gw : decide (aJ < (aa.length : Int)) = false := decide_eq_false cT
          clear cT
          by_cases cN : bQ = (wrap64 ((wrap64 ((z.length : Int) + (ao.length : Int))) - (a5.length : Int)))
          ·rw [if_pos cN] at H
           have gN : (bQ == (wrap64 ((wrap64 ((z.length : Int) + (ao.length : Int))) - (a5.length : Int)))) = true := beq_iff_eq.mpr cN
           have gO : (bQ != (wrap64 ((wrap64 ((z.length : Int) + (ao.length : Int))) - (a5.length : Int)))) = false := bne_eq_false_iff_eq.mpr cN
           clear cN
           obtain rfl := Option.some.inj H
           have jB := b7.out
           have jC := bR.out
           have jD := b9.out
           have jE := b8.out
           have jF := cf.out
           have jG := ce.out
           have jH := ch.out
           have jI := cg.out
           have jJ := ck.out
           have jK := cl.out
           obtain ⟨jL, jM⟩ := bc2 (w := wr) ae.out
           have jN := blk_frozen ae.out
           have jO := d4.out
           have jP := d3.out
           have jQ := ez.out
           have jR := ey.out
           have jS := e7.out
           have jT := e8.out
           have jU := cC.out
           have jV := cD.out
           obtain ⟨jW, jX⟩ := bc2 (w := wr) y.out
           have jY := blk_frozen y.out
           have jZ := e4.out
           have j2 := e3.out
           have j4 := e6.out
           have j5 := e5.out
           have j6 := cE.out
           have j7 := cF.out
           obtain ⟨j8, j9⟩ := bc2 (w := wr) ab.out
           have ka := blk_frozen ab.out
           have kc := cz.out
           have kd := bV.out
           have ke := cB.out
           have kf := cA.out
           obtain ⟨kg, kh⟩ := bc2 (w := wr) aI.out
           have ki := blk_frozen aI.out
           go_wp2
           go_ret
           exact ⟨eqr, bs HB.out⟩
          ·rw [if_neg cN] at H
           have gN : (bQ == (wrap64 ((wrap64 ((z.length : Int) + (ao.length : Int))) - (a5.length : Int)))) = false := beq_eq_false_iff_ne.mpr cN
           have gO : (bQ != (wrap64 ((wrap64 ((z.length : Int) + (ao.length : Int))) - (a5.length : Int)))) = true := bne_iff_ne.mpr cN
           exact absurd (Option.some.inj H) (by rw [hT.out]; decide)

end Go.Proofs.Ytohmemckdogljaa.QFnGraphUnion
