/- Contracts of the Go functions that this law reaches: each does what its plain Lean function says. No condition. -/
import Derived.Test.YtkbamcicbofjbaaQFnStoreNarrowx0
import Derived.Test.YtkbamcicbofjbaaQFnStoreNarrowx1
import Derived.Test.YtkbamcicbofjbaaQFnStoreNarrowx4
import Derived.Test.YtkbamcicbofjbaaQFnStoreNarrowx5
import Derived.Test.YtkbamcicbofjbaaQFnStoreNarrowx9
import Derived.Test.YtkbamcicbofjbaaQFnStoreNarrowx10
import Derived.Test.YtkbamcicbofjbaaQFnStoreNarrowx16
namespace Go.Proofs.Ytkbamcicbofjbaa.QFnStoreNarrow
open Go.RowKit Go.Proofs.YtkbamcicbofjbaaW.PrintWords Go.Proofs.YtkbamcicbofjbaaW.PrintLast Go.Proofs.YtkbamcicbofjbaaW.PrintMore Go.Proofs.Ytkbamcicbofjbaa.Bl
attribute [local go_sem] max2_int min2_int max_two min_two max_three min_three max_four min_four   -- for this text's walks alone
set_option linter.unusedVariables false
set_option linter.unusedSimpArgs false
set_option maxHeartbeats 8000000
set_option maxRecDepth 100000

attribute [local go_sem high] eqA42
/-! ### spec_l1Label: function 14 -/
def spec_l1Label.f (k : Nat) (s : List Int) (G : Int) : Option (Int × Int) := (spec_l9Rd_pick.f k s G 20).bind fun y => (if y.1 = 0 then ((spec_l9Rd_num.f k s y.2 (([(-1), 8, 9223372036854775807, (-9223372036854775808)] : List Int))).bind fun z => (some (z.1, z.2))) else ((spec_l9Rd_pick.f k s y.2 8).bind fun D => (some (D.1, D.2))))
theorem spec_l1Label.calls (k : Nat) (g : Nat) (z : List Int) (X : Int) (Y : Int) (Z : Int) (w0 w : World) (hI : IsS46 w0 w g z X) (hB : Below w0.heap.size w0 w) (h : spec_l1Label.f k z X = some (Y, Z)) :
  Calls Try.prog 14 #[.pointer (some ⟨g, 0, none⟩)] w fun e w' => e = .returned (.int .i64 Y) ∧ IsS46 w0 w' g z Z ∧ Below w0.heap.size w0 w' ∧ KeepBut w w' g none := by
 have y := am hI
 have GEg_ : Ge w0 g := ⟨IsS46.ge y.out⟩
 have HK := am (KeepBut.refl w g none)
 have HL := am hB.size
 clear hI
 have ax := am hB.size
 have HB := am hB
 clear hB
 have H := h; unfold spec_l1Label.f at H
 clear h
 replace H := Option.bind_eq_some_iff.mp H
 obtain ⟨⟨D, O⟩, ac, H⟩ := H
 try dsimp -simprocs only at H
 have A2 := am ac
 clear ac
 by_cases G : D = 0
 ·rw [if_pos G] at H
  have ah : (D == 0) = true := beq_iff_eq.mpr G
  have ai : (D != 0) = false := bne_eq_false_iff_eq.mpr G
  clear G
  obtain ⟨aa, ab⟩ : ∃ y_ : List Int, y_ = (([(-1), 8, 9223372036854775807, (-9223372036854775808)] : List Int)) := ⟨_, rfl⟩
  replace H : ((spec_l9Rd_num.f k z O aa).bind fun ad => (some (ad.1, ad.2))) = some (Y, Z) := by first | (rw [ab]; exact H) | exact H
  have ae := am ab
  clear ab
  replace H := Option.bind_eq_some_iff.mp H
  obtain ⟨⟨aj, ak⟩, af, H⟩ := H
  try dsimp -simprocs only at H
  have A4 := am af
  clear af
  simp only [Option.some.injEq, Prod.mk.injEq] at H
  obtain ⟨rfl, rfl⟩ := H
  go_enter Try.func14, Try.ntmps14
  go_wp2_with (first | ((with_reducible refine gc 18 rfl ?_); refine gl 4 Try.func18 #[.pointer (some ⟨g, 0, none⟩), .int .i64 20] ?_; (with_reducible refine (spec_l9Rd_pick.calls k g z X 20 D O w0 _ ?I ?J A2.out).mono ?_); (case I => exact iis y.out); (case J => exact bs HB.out); rintro e w5 ⟨rfl, hi, hb, hk⟩; refine ⟨_, rfl, ?_⟩; replace HK := kt HK hk; replace HB := am hb; replace y := am hi; (try clear hi hb hk)) | ((with_reducible refine gd 7 rfl ?_); refine Kd.R_lit (Kd.int .i64) _ 3 ?hg (N := 7) ?hd (xs := ([(-1), 8, 9223372036854775807, (-9223372036854775808)] : List Int)) (inner := [.int .i64 (-1), .int .i64 8, .int .i64 9223372036854775807, .int .i64 (-9223372036854775808)]) (ok := fun _ => True) (okp := fun _ => True) ?hr ?hp (fun _ hk => hk) trivial (Below.refl _ _) (Nat.le_refl _) (by simp) ?_; (case hd => rfl); (case hg => rfl); (case hr => first | (go_simp; done) | (go_simp; rfl)); (case hp => exact (Reps.one (show Kd.M (Kd.int .i64) _ _ _ (-1) [.int .i64 (-1)] from rfl) (Reps.one (show Kd.M (Kd.int .i64) _ _ _ 8 [.int .i64 8] from rfl) (Reps.one (show Kd.M (Kd.int .i64) _ _ _ 9223372036854775807 [.int .i64 9223372036854775807] from rfl) (Reps.one (show Kd.M (Kd.int .i64) _ _ _ (-9223372036854775808) [.int .i64 (-9223372036854775808)] from rfl) (Reps.none _ _)))))); intro ay w6 T hb hg_ hnew_; clear hg_ hnew_; (first | rw [← ae.out] at T | (simp only [Int.reduceToNat] at T; rw [← ae.out] at T)); have L := am (Kd.R_lower T (keep_size (w := w) (g := g) (row := none) (ks HK.out))); replace y := ib y hb; replace HK := kb HK hb; replace HB := hs HB hb; clear hb T; obtain ⟨al, an, ao⟩ := Kd.R_slice L.out; subst ao) | ((with_reducible refine gc 19 rfl ?_); refine gl 8 Try.func19 #[.pointer (some ⟨g, 0, none⟩), .slice al aa.length an] ?_; (with_reducible refine (spec_l9Rd_num.calls k g z O _ _ aa aj ak w0 _ ?I ?J ?ap ?aq ?ar A4.out).mono ?_); (case I => exact iis y.out); (case J => exact bs HB.out); (case ap => exact cr L); (case aq => exact cc L); (case ar => exact far_slice (IsS46.own_ne y.out L.out (by decide))); rintro e w9 ⟨rfl, hi, hb, hk⟩; refine ⟨_, rfl, ?_⟩; replace L := ro L y hk; replace HK := kt HK hk; replace HB := am hb; replace y := am hi; (try clear hi hb hk)))
  go_ret
  exact ⟨eqr, iis y.out, bs HB.out, ks HK.out⟩
 ·rw [if_neg G] at H
  have ah : (D == 0) = false := beq_eq_false_iff_ne.mpr G
  have ai : (D != 0) = true := bne_iff_ne.mpr G
  replace H := Option.bind_eq_some_iff.mp H
  obtain ⟨⟨au, av⟩, ag, H⟩ := H
  try dsimp -simprocs only at H
  have aw := am ag
  clear ag
  simp only [Option.some.injEq, Prod.mk.injEq] at H
  obtain ⟨rfl, rfl⟩ := H
  go_enter Try.func14, Try.ntmps14
  go_wp2_with (first | ((with_reducible refine gc 18 rfl ?_); refine gl 4 Try.func18 #[.pointer (some ⟨g, 0, none⟩), .int .i64 20] ?_; (with_reducible refine (spec_l9Rd_pick.calls k g z X 20 D O w0 _ ?I ?J A2.out).mono ?_); (case I => exact iis y.out); (case J => exact bs HB.out); rintro e az ⟨rfl, hi, hb, hk⟩; refine ⟨_, rfl, ?_⟩; replace HK := kt HK hk; replace HB := am hb; replace y := am hi; (try clear hi hb hk)) | ((with_reducible refine gc 18 rfl ?_); refine gl 10 Try.func18 #[.pointer (some ⟨g, 0, none⟩), .int .i64 8] ?_; (with_reducible refine (spec_l9Rd_pick.calls k g z O 8 au av w0 _ ?I ?J aw.out).mono ?_); (case I => exact iis y.out); (case J => exact bs HB.out); rintro e aA ⟨rfl, hi, hb, hk⟩; refine ⟨_, rfl, ?_⟩; replace HK := kt HK hk; replace HB := am hb; replace y := am hi; (try clear hi hb hk)))
  go_ret
  exact ⟨eqr, iis y.out, bs HB.out, ks HK.out⟩

/-! ### spec_DrawStoreView: function 4 -/
def spec_DrawStoreView.f (k : Nat) (l0 : List Int) : Option ((List (S42)) × Int) := (spec_l9Open.f l0).bind fun s => ((spec_l2Graph.f k s.1 s.2).bind fun y => ((spec_l4Store.f k y.1 y.2.1).bind fun D => ((spec_l4Bent.f k s.1 y.2.2 D).bind fun z => ((spec_l1Label.f k s.1 z.2).bind fun G => (some (z.1, G.1))))))
theorem spec_DrawStoreView.calls (k : Nat) (Z : Option Addr) (c0 : Nat) (l0 : List Int) (r1 : List (S42)) (r2 : Int) (w : World) (af : Kd.C (Kd.int .u8) w Z l0.length l0) (ag : l0.length ≤ c0) (h : spec_DrawStoreView.f k l0 = some (r1, r2)) :
  Calls Try.prog 4 #[.slice Z l0.length c0] w fun e w' => ∃ ah : Value, e = .returned (.tuple #[ah, .int .i64 r2]) ∧ Kd.Q k42 42 w' w.heap.size (fun _ => True) ah r1 ∧ Below w.heap.size w w' := by
 have aq := am af
 have ar := am ag
 clear af ag
 have HB := am (Below.refl w.heap.size w)
 have H := h; unfold spec_DrawStoreView.f at H
 clear h
 replace H := Option.bind_eq_some_iff.mp H
 obtain ⟨⟨z, ai⟩, aj, H⟩ := H
 try dsimp -simprocs only at H
 have A2 := am aj
 clear aj
 replace H := Option.bind_eq_some_iff.mp H
 obtain ⟨⟨aa, ab, T⟩, ak, H⟩ := H
 try dsimp -simprocs only at H
 have A3 := am ak
 clear ak
 replace H := Option.bind_eq_some_iff.mp H
 obtain ⟨ac, al, H⟩ := H
 try dsimp -simprocs only at H
 have A4 := am al
 clear al
 replace H := Option.bind_eq_some_iff.mp H
 obtain ⟨⟨au, X⟩, an, H⟩ := H
 try dsimp -simprocs only at H
 have A5 := am an
 clear an
 replace H := Option.bind_eq_some_iff.mp H
 obtain ⟨⟨av, aw⟩, ao, H⟩ := H
 try dsimp -simprocs only at H
 have A6 := am ao
 clear ao
 simp only [Option.some.injEq, Prod.mk.injEq] at H
 obtain ⟨rfl, rfl⟩ := H
 go_enter Try.func4, Try.ntmps4
 go_wp2_with (first | ((with_reducible refine gc 10 rfl ?_); refine gl 7 Try.func10 #[.slice Z l0.length c0] ?_; (with_reducible refine (spec_l9Open.calls _ _ l0 z ai w _ ?D ?G ?Y A2.out).mono ?_); (case D => exact bs HB.out); (case G => exact aq.out); (case Y => exact ar.out); rintro e w7 ⟨y, rfl, hi, hb, hb2⟩; refine ⟨_, rfl, ?_⟩; replace HB := am hb; have s := am hi; (try clear hi hb hb2)) | ((with_reducible refine gc 13 rfl ?_); refine gl 10 Try.func13 #[.pointer (some ⟨y, 0, none⟩)] ?_; (with_reducible refine (spec_l2Graph.calls k y z ai aa ab T w _ ?D ?G A3.out).mono ?_); (case D => exact iis s.out); (case G => exact bs HB.out); rintro e w8 ⟨aJ, aK, rfl, I, ap, hi, hb, hk⟩; refine ⟨_, rfl, ?_⟩; have J := am (Kd.R_lower I (below_size (bs HB.out))); have L := am (Kd.R_lower ap (below_size (bs HB.out))); replace HB := am hb; replace s := am hi; (try clear I ap hi hb hk); obtain ⟨ax, ay, az⟩ := Kd.R_slice J.out; subst az; obtain ⟨aA, aC, aD⟩ := Kd.R_slice L.out; subst aD) | ((with_reducible refine gc 12 rfl ?_); refine gl 11 Try.func12 #[.agg #[.slice ax aa.length ay, .slice aA ab.length aC]] ?_; (with_reducible refine (spec_l4Store.calls k _ _ aa _ _ ab ac _ ?D ?G ?Y ?ad A4.out).mono ?_); (case D => exact cr J); (case G => exact cc J); (case Y => exact cr L); (case ad => exact cc L); rintro e aM ⟨aN, rfl, I, hb⟩; refine ⟨_, rfl, ?_⟩; replace J := rb J hb; replace L := rb L hb; have O := am (Kd.R_lower I (below_size (bs HB.out))); replace s := ib s hb; replace HB := hs HB hb; (try clear I hb); obtain ⟨aE, aG, aH⟩ := Kd.R_slice O.out; subst aH) | ((with_reducible refine gc 11 rfl ?_); refine gl 12 Try.func11 #[.pointer (some ⟨y, 0, none⟩), .slice aE ac.length aG] ?_; (with_reducible refine (spec_l4Bent.calls k y z T _ _ ac au X w _ ?D ?G ?Y ?ad A5.out).mono ?_); (case D => exact iis s.out); (case G => exact bs HB.out); (case Y => exact Kd.C_foot_own (IsS46.apart (show IsS46 w _ y z T from iis s.out) (rl O.out) (by decide)) (fun _ h_ => h_.2)); (case ad => exact cc O); rintro e aQ ⟨aR, rfl, I, hi, hb, hk⟩; refine ⟨_, rfl, ?_⟩; replace J := am (Kd.R_mono (Kd.R_keep (IsS46.apart (show IsS46 w _ y z T from iis s.out) (rl J.out) (by decide)) hk (fun _ h => h.2)) (fun _ h => h.1)); replace L := am (Kd.R_mono (Kd.R_keep (IsS46.apart (show IsS46 w _ y z T from iis s.out) (rl L.out) (by decide)) hk (fun _ h => h.2)) (fun _ h => h.1)); have ae := am (Kd.Q_lower (Kd.Q_new' I (rk O)) (below_size (bs HB.out))); replace O := am (Kd.R_mono (Kd.R_told (Kd.R_oldK (IsS46.apart (show IsS46 w _ y z T from iis s.out) (rl O.out) (by decide)) hk) (Kd.Q_base I)) (fun _ h_ => h_.1)); replace HB := am hb; replace s := am hi; (try clear I hi hb hk)) | ((with_reducible refine gc 14 rfl ?_); refine gl 15 Try.func14 #[.pointer (some ⟨y, 0, none⟩)] ?_; (with_reducible refine (spec_l1Label.calls k y z X av aw w _ ?D ?G A6.out).mono ?_); (case D => exact iis s.out); (case G => exact bs HB.out); rintro e aT ⟨rfl, hi, hb, hk⟩; refine ⟨_, rfl, ?_⟩; replace J := am (Kd.R_mono (Kd.R_keep (IsS46.apart (show IsS46 w _ y z X from iis s.out) (rl J.out) (by decide)) hk (fun _ h => h.2)) (fun _ h => h.1)); replace L := am (Kd.R_mono (Kd.R_keep (IsS46.apart (show IsS46 w _ y z X from iis s.out) (rl L.out) (by decide)) hk (fun _ h => h.2)) (fun _ h => h.1)); replace O := am (Kd.R_mono (Kd.R_keep (IsS46.apart (show IsS46 w _ y z X from iis s.out) (rl O.out) (by decide)) hk (fun _ h => h.2)) (fun _ h => h.1)); replace ae := am (Kd.Q_mono (Kd.Q_keep (IsS46.apartQ (show IsS46 w _ y z X from iis s.out) (qf ae.out) (by decide)) hk (fun _ h => h.2)) (fun _ h => h.1)); replace HB := am hb; replace s := am hi; (try clear hb); (try clear hb2); (try clear hk); (try clear hi)))
 go_ret2
 exact ⟨_, eqr, by (with_reducible repeat (first | apply Kd.Q_alloc | apply Kd.Q_drewN | apply Kd.Q_drew)); exact Kd.Q_mono ae.out (fun _ hk => trivial), bs HB.out⟩

/-! ### impl_LabelOk: function 8 -/
def impl_LabelOk.f (s : Int) : Option (Bool) := if 0 ≤ s then (some (decide (s ≤ 7))) else (some false)
theorem impl_LabelOk.calls (y : Int) (r : Bool) (w : World) (h : impl_LabelOk.f y = some r) :
  Calls Try.prog 8 #[.int .i64 y] w fun e w' => e = .returned (.bool r) ∧ Drawn0 w w' := by
 have H := h; unfold impl_LabelOk.f at H
 clear h
 by_cases s : 0 ≤ y
 ·rw [if_pos s] at H
  have z : decide (0 ≤ y) = true := decide_eq_true s
  clear s
  obtain rfl := Option.some.inj H
  go_enter Try.func8, Try.ntmps8
  go_wp2
  go_ret
  exact ⟨eqs, drs⟩
 ·rw [if_neg s] at H
  have z : decide (0 ≤ y) = false := decide_eq_false s
  clear s
  obtain rfl := Option.some.inj H
  go_enter Try.func8, Try.ntmps8
  go_wp2
  go_ret
  exact ⟨eqs, drs⟩

/-! ### impl_letters_under: function 25 -/
def impl_letters_under.f (s : Int) (y : Int) : Option (Bool) := some ((Go.bits .andNot .u8 s y) == 0)
theorem impl_letters_under.calls (s : Int) (y : Int) (r : Bool) (w : World) (h : impl_letters_under.f s y = some r) :
  Calls Try.prog 25 #[.int .u8 s, .int .u8 y] w fun e w' => e = .returned (.bool r) ∧ Drawn0 w w' := by
 have H := h; unfold impl_letters_under.f at H
 clear h
 obtain rfl := Option.some.inj H
 go_enter Try.func25, Try.ntmps25
 go_wp2
 go_ret
 exact ⟨eqs, drs⟩

/-! ### impl_LabelUnder: function 15 -/
def impl_LabelUnder.f (s : Int) (y : Int) : Option (Bool) := (impl_LabelOk.f s).bind fun z => (if z = true then ((impl_LabelOk.f y).bind fun D => (if D = true then ((impl_letters_under.f ((s) % 256) ((y) % 256)).bind fun G => (some G)) else (some false))) else (some false))
theorem impl_LabelUnder.calls (s : Int) (y : Int) (r : Bool) (w : World) (h : impl_LabelUnder.f s y = some r) :
  Calls Try.prog 15 #[.int .i64 s, .int .i64 y] w fun e w' => e = .returned (.bool r) ∧ Drawn0 w w' := by
 have H := h; unfold impl_LabelUnder.f at H
 clear h
 replace H := Option.bind_eq_some_iff.mp H
 obtain ⟨Z, O, H⟩ := H
 try dsimp -simprocs only at H
 have J := am O
 clear O
 by_cases G : Z = true
 ·subst G
  replace H : ((impl_LabelOk.f y).bind fun L => (if L = true then ((impl_letters_under.f ((s) % 256) ((y) % 256)).bind fun z => (some z)) else (some false))) = some r := by rw [if_pos rfl] at H; exact H
  replace H := Option.bind_eq_some_iff.mp H
  obtain ⟨L, T, H⟩ := H
  try dsimp -simprocs only at H
  have X := am T
  clear T
  by_cases I : L = true
  ·subst I
   replace H : ((impl_letters_under.f ((s) % 256) ((y) % 256)).bind fun z => (some z)) = some r := by rw [if_pos rfl] at H; exact H
   replace H := Option.bind_eq_some_iff.mp H
   obtain ⟨z, Y, H⟩ := H
   try dsimp -simprocs only at H
   have A7 := am Y
   clear Y
   obtain rfl := Option.some.inj H
   go_enter Try.func15, Try.ntmps15
   go_wp2_with (first | ((with_reducible refine gc 8 rfl ?_); refine gl 6 Try.func8 #[.int .i64 s] ?_; (with_reducible refine (impl_LabelOk.calls s true _ J.out).mono ?_); rintro e w' ⟨rfl, ⟨nd, rfl⟩⟩; refine ⟨_, rfl, ?_⟩) | (go_at_call 8; (with_reducible refine (impl_LabelOk.calls y true _ X.out).mono ?_); rintro e w' ⟨rfl, ⟨nd, rfl⟩⟩) | (go_at_call 25; (with_reducible refine (impl_letters_under.calls ((s) % 256) ((y) % 256) z _ A7.out).mono ?_); rintro e w' ⟨rfl, ⟨nd, rfl⟩⟩))
   go_ret
   exact ⟨eqs, drs⟩
  ·replace I := Bool.eq_false_iff.mpr I
   subst I
   have H1 : (some false) = some r := by rw [if_neg (show ¬ (false = true) by decide)] at H; exact H
   clear H
   have H := H1
   clear H1
   obtain rfl := Option.some.inj H
   go_enter Try.func15, Try.ntmps15
   go_wp2_with (first | ((with_reducible refine gc 8 rfl ?_); refine gl 6 Try.func8 #[.int .i64 s] ?_; (with_reducible refine (impl_LabelOk.calls s true _ J.out).mono ?_); rintro e w' ⟨rfl, ⟨nd, rfl⟩⟩; refine ⟨_, rfl, ?_⟩) | (go_at_call 8; (with_reducible refine (impl_LabelOk.calls y false _ X.out).mono ?_); rintro e w' ⟨rfl, ⟨nd, rfl⟩⟩))
   go_ret
   exact ⟨eqs, drs⟩
 ·replace G := Bool.eq_false_iff.mpr G
  subst G
  have H1 : (some false) = some r := by rw [if_neg (show ¬ (false = true) by decide)] at H; exact H
  clear H
  have H := H1
  clear H1
  obtain rfl := Option.some.inj H
  go_enter Try.func15, Try.ntmps15
  go_wp2_with (first | ((with_reducible refine gc 8 rfl ?_); refine gl 6 Try.func8 #[.int .i64 s] ?_; (with_reducible refine (impl_LabelOk.calls s false _ J.out).mono ?_); rintro e w' ⟨rfl, ⟨nd, rfl⟩⟩; refine ⟨_, rfl, ?_⟩))
  go_ret
  exact ⟨eqs, drs⟩

/-! ### impl_StoreView: function 5 -/
def impl_StoreView.l0 : Nat → Int → List (S42) → List (S42) → Int → Int → Option ((List (S42)))
 | 0, _, _, _, _, _ => none
 | k + 1, D, z, y, G, s => if s < G then (if 0 ≤ s then (if s < (y.length : Int) then ((impl_LabelUnder.f ((rd_T42 y s).f0) D).bind fun I => (if I = true then (if z.length < 5864062014805 then (impl_StoreView.l0 k D (z ++ [(⟨(rd_T42 y s).f0, (rd_T42 y s).f1⟩ : S42)]) y G (wrap64 (s + 1))) else (none)) else (impl_StoreView.l0 k D z y G (wrap64 (s + 1))))) else (none)) else (none)) else (some z)
def impl_StoreView.f (k : Nat) (l0 : List (S42)) (s : Int) : Option ((List (S42))) := impl_StoreView.l0 k s ([] : List (S42)) l0 (l0.length : Int) 0
theorem impl_StoreView.calls (k : Nat) (A0 : Option Addr) (c0 : Nat) (l0 : List (S42)) (D : Int) (r : List (S42)) (w : World) (ac : Kd.C k42 w A0 l0.length l0) (ad : l0.length ≤ c0) (h : impl_StoreView.f k l0 D = some r) :
  Calls Try.prog 5 #[.slice A0 l0.length c0, .int .i64 D] w fun e w' => ∃ ae : Value, e = .returned (ae) ∧ Kd.R k42 42 w' w.heap.size (fun _ => True) ae r ∧ Below w.heap.size w w' := by
 have hu42 := Try.underlying42
 have af := am ac
 have au := am ad
 clear ac ad
 have HB := am (Below.refl w.heap.size w)
 have H := h; unfold impl_StoreView.f at H
 clear h
 have H' := am H
 clear H
 go_enter Try.func5, Try.ntmps5
 go_wp2
 go_loopg [5, 10] k (fun kq v5 ai w' => ∃ (G : List (S42)) (s : Int), ai = .int .i64 s ∧ Aside0 (impl_StoreView.l0 kq D G l0 (l0.length : Int) s = some r) ∧ Aside0 (kq ≤ k) ∧ Aside0 (Kd.R k42 42 w' w.heap.size (fun _ => True) v5 G) ∧ Aside0 (Below w.heap.size w w'))
 case atStart => exact ⟨(([] : List (S42))), (0), eqs, H', ⟨Nat.le_refl _⟩, ⟨by first | exact Kd.R_nil _ _ _ _ _ | exact Kd.N_nil _ _ _ _ _ | exact Kd.V_nil _ _ _ _ _ | exact Kd.Q_nil _ _ _ _ _ | exact Kd.S_nil _ _ _ _ _⟩, ⟨bs HB.out⟩⟩
 case round =>
  clear H'
  try clear p2
  obtain ⟨G, s, rfl, HA, Z, I, HB⟩ := hrel
  cases gk with
  | zero => exact absurd HA.out (by simp [impl_StoreView.l0])
  | succ k1 =>
   have H := HA.out
   clear HA
   simp only [impl_StoreView.l0] at H
   by_cases T : s < (l0.length : Int)
   ·rw [if_pos T] at H
    have aj : decide (s < (l0.length : Int)) = true := decide_eq_true T
    clear T
    by_cases c4 : 0 ≤ s
    ·rw [if_pos c4] at H
     have av : decide (0 ≤ s) = true := decide_eq_true c4
     clear c4
     by_cases c5 : s < (l0.length : Int)
     ·rw [if_pos c5] at H
      have aw : decide (s < (l0.length : Int)) = true := decide_eq_true c5
      clear c5
      replace H := Option.bind_eq_some_iff.mp H
      obtain ⟨ak, ag, H⟩ := H
      try dsimp -simprocs only at H
      have A6 := am ag
      clear ag
      by_cases c7 : ak = true
      ·subst c7
       replace H : (if G.length < 5864062014805 then (impl_StoreView.l0 k1 D (G ++ [(⟨(rd_T42 l0 s).f0, (rd_T42 l0 s).f1⟩ : S42)]) l0 (l0.length : Int) (wrap64 (s + 1))) else (none)) = some r := by rw [if_pos rfl] at H; exact H
       by_cases c8 : G.length < 5864062014805
       ·rw [if_pos c8] at H
        have al := am c8
        clear c8
        obtain ⟨ah, aa⟩ : ∃ y_ : List (S42), y_ = (G ++ [(⟨(rd_T42 l0 s).f0, (rd_T42 l0 s).f1⟩ : S42)]) := ⟨_, rfl⟩
        replace H : (impl_StoreView.l0 k1 D ah l0 (l0.length : Int) (wrap64 (s + 1))) = some r := by first | (rw [aa]; exact H) | exact H
        have an := am aa
        clear aa
        have H' := am H
        clear H
        have L : 0 ≤ (s : Int) := oda
        have O : s < (l0.length : Int) := oda
        obtain ⟨ao, ab, X, Y⟩ := at_T42 af.out s L O
        cases ab
        replace X := cb HB X
        replace Y := cb HB Y
        replace L := eq_true L
        replace O := eq_true O
        go_wp2_with (first | ((with_reducible refine gd 7 rfl ?_); refine bx 7 (cs := #[.int .i64 0, .string (⟨#[]⟩ : ByteArray)]) (t := 42) ?_; intro z hg w9 hbox hb; replace I := am (Kd.R_below (Kd.R_elderB (rl I.out) z (Nat.le_of_eq hg.symm)) hb); have J := am hbox; have ap := gwb HB hg; replace HB := hs HB hb; clear hb hbox hg; obtain ⟨ax, ay⟩ := bc2 (w := w9) J.out; have az := blk_frozen J.out) | ((with_reducible refine gc 15 rfl ?_); refine gl 17 Try.func15 #[.int .i64 ((rd_T42 l0 s).f0), .int .i64 D] ?_; (with_reducible refine (impl_LabelUnder.calls ((rd_T42 l0 s).f0) D true _ A6.out).mono ?_); rintro e w' ⟨rfl, ⟨nd, rfl⟩⟩; refine ⟨_, rfl, ?_⟩) | ((with_reducible refine gate_builtin (b := .append) (xs := #[.tmp 18, .tmp 20]) rfl ?_); at_builtin; refine Kd.R_append k42 (w0 := w) w.heap.size rfl (.tmp 18) (.tmp 20) 23 42 (.agg #[(.int .i64 0), (.string ⟨#[]⟩)]) 24 rfl Try.underlying23 info42 rfl (by decide) (by omega) u5 G (⟨(rd_T42 l0 s).f0, (rd_T42 l0 s).f1⟩ : S42) [.int .i64 ((rd_T42 l0 s).f0), .string ((rd_T42 l0 s).f1)] (fun k_ => k_ ≠ z) (fun _ => False) rfl (by first | (go_simp; done) | (go_simp; rfl)) ?aP (fun _ hk => hk.elim) ?aF ?aO ?aB ?aS ?aL ?_; (case aP => exact k42_mkM _ _ _ (⟨(rd_T42 l0 s).f0, (rd_T42 l0 s).f1⟩ : S42)); (case aB => exact (bs HB.out)); (case aF => exact (fun k_ hk => Kd.freshB (g := z) (o := .cells #[.int .i64 ((rd_T42 l0 s).f0), .string ((rd_T42 l0 s).f1)] 42 (0, 0)) (by (with_reducible repeat (first | refine blk_drewN ?_ _ | refine blk_drew ?_ | refine blk_alloc ?_ _)); refine blk_put (cs := #[.int .i64 ((rd_T42 l0 s).f0), .string (⟨#[]⟩ : ByteArray)]) ?_ 1 _ rfl; (with_reducible repeat (first | refine blk_drewN ?_ _ | refine blk_drew ?_ | refine blk_alloc ?_ _)); refine blk_put (cs := #[.int .i64 0, .string (⟨#[]⟩ : ByteArray)]) ?_ 0 _ rfl; exact bf J.out) k_ hk)); (case aO => exact (by (with_reducible repeat (first | apply Kd.R_alloc | apply Kd.R_drewN | apply Kd.R_drew)); exact Kd.R_mono (Kd.R_far (p := ⟨z, 1, none⟩) (Kd.R_far (p := ⟨z, 0, none⟩) (Kd.R_mono I.out (fun k_ hk => (⟨hk, hk.2⟩ : _ ∧ k_ ≠ z))) (fun _ hk => hk.2) (.int .i64 ((rd_T42 l0 s).f0))) (fun _ hk => hk.2) (.string ((rd_T42 l0 s).f1))) (fun _ hk => hk.1.2))); (case aS => exact (below_size (bs HB.out))); (case aL => have := al.out; omega); intro aA aC ho hb hg hat; rw [← an.out] at ho; replace J := am (blk_grown (g := z) (o := .cells #[.int .i64 ((rd_T42 l0 s).f0), .string ((rd_T42 l0 s).f1)] 42 (0, 0)) (by (with_reducible repeat (first | refine blk_drewN ?_ _ | refine blk_drew ?_ | refine blk_alloc ?_ _)); refine blk_put (cs := #[.int .i64 ((rd_T42 l0 s).f0), .string (⟨#[]⟩ : ByteArray)]) ?_ 1 _ rfl; (with_reducible repeat (first | refine blk_drewN ?_ _ | refine blk_drew ?_ | refine blk_alloc ?_ _)); refine blk_put (cs := #[.int .i64 0, .string (⟨#[]⟩ : ByteArray)]) ?_ 0 _ rfl; exact bf J.out) hg (Kd.R_away I.out (fun _ hk => hk.2))); replace HB := am hb; have aq := am ho; clear I; clear ho hb hg hat))
        go_roundg k1
        case measure => have := Z.out; omega
        case rel => exact ⟨(ah), (wrap64 (s + 1)), eqs, H', ⟨by have := Z.out; omega⟩, ⟨by (with_reducible repeat (first | apply Kd.R_alloc | apply Kd.R_drewN | apply Kd.R_drew)); exact Kd.R_mono aq.out (fun _ hk => trivial)⟩, ⟨bs HB.out⟩⟩
       ·rw [if_neg c8] at H
        exact absurd H (by simp)
      ·replace c7 := Bool.eq_false_iff.mpr c7
       subst c7
       have H1 : (impl_StoreView.l0 k1 D G l0 (l0.length : Int) (wrap64 (s + 1))) = some r := by rw [if_neg (show ¬ (false = true) by decide)] at H; exact H
       clear H
       have H := H1
       clear H1
       have H' := am H
       clear H
       have L : 0 ≤ (s : Int) := oda
       have O : s < (l0.length : Int) := oda
       obtain ⟨ao, ab, X, Y⟩ := at_T42 af.out s L O
       cases ab
       replace X := cb HB X
       replace Y := cb HB Y
       replace L := eq_true L
       replace O := eq_true O
       go_wp2_with (first | ((with_reducible refine gd 7 rfl ?_); refine bx 7 (cs := #[.int .i64 0, .string (⟨#[]⟩ : ByteArray)]) (t := 42) ?_; intro z hg ar hbox hb; replace I := am (Kd.R_below (Kd.R_elderB (rl I.out) z (Nat.le_of_eq hg.symm)) hb); have J := am hbox; have ap := gwb HB hg; replace HB := hs HB hb; clear hb hbox hg; obtain ⟨aD, aE⟩ := bc2 (w := ar) J.out; have aG := blk_frozen J.out) | ((with_reducible refine gc 15 rfl ?_); refine gl 17 Try.func15 #[.int .i64 ((rd_T42 l0 s).f0), .int .i64 D] ?_; (with_reducible refine (impl_LabelUnder.calls ((rd_T42 l0 s).f0) D false _ A6.out).mono ?_); rintro e w' ⟨rfl, ⟨nd, rfl⟩⟩; refine ⟨_, rfl, ?_⟩))
       go_roundg k1
       case measure => have := Z.out; omega
       case rel => exact ⟨(G), (wrap64 (s + 1)), eqs, H', ⟨by have := Z.out; omega⟩, ⟨by (with_reducible repeat (first | apply Kd.R_alloc | apply Kd.R_drewN | apply Kd.R_drew)); exact Kd.R_mono (Kd.R_far (p := ⟨z, 1, none⟩) (Kd.R_far (p := ⟨z, 0, none⟩) (Kd.R_mono I.out (fun k_ hk => (⟨hk, hk.2⟩ : _ ∧ k_ ≠ z))) (fun _ hk => hk.2) (.int .i64 ((rd_T42 l0 s).f0))) (fun _ hk => hk.2) (.string ((rd_T42 l0 s).f1))) (fun _ hk => trivial)⟩, ⟨bs HB.out⟩⟩
     ·rw [if_neg c5] at H
      exact absurd H (by simp)
    ·rw [if_neg c4] at H
     exact absurd H (by simp)
   ·rw [if_neg T] at H
    have aj : decide (s < (l0.length : Int)) = false := decide_eq_false T
    clear T
    obtain rfl := Option.some.inj H
    go_wp2
    go_ret
    exact ⟨_, eqr, by (with_reducible repeat (first | apply Kd.R_alloc | apply Kd.R_drewN | apply Kd.R_drew)); exact I.out, bs HB.out⟩

/-! ### impl_Seg: function 16 -/
def impl_Seg.l0 : Nat → List (S42) → List (S42) → Int → Int → Option (Bool)
 | 0, _, _, _, _ => none
 | k + 1, y, z, D, s => if s < D then (if 0 ≤ s then (if s < (y.length : Int) then (if s < (z.length : Int) then (if (!(((rd_T42 y s).f0) == ((rd_T42 z s).f0)) || (!((((rd_T42 y s).f1).toList) == (((rd_T42 z s).f1).toList)))) = true then (some false) else (impl_Seg.l0 k y z D (wrap64 (s + 1)))) else (none)) else (none)) else (none)) else (some true)
def impl_Seg.f (k : Nat) (l0 : List (S42)) (l1 : List (S42)) : Option (Bool) := if (l0.length : Int) = (l1.length : Int) then (impl_Seg.l0 k l0 l1 (l0.length : Int) 0) else (some false)
theorem impl_Seg.calls (k : Nat) (A0 : Option Addr) (c0 : Nat) (l0 : List (S42)) (A1 : Option Addr) (Y : Nat) (l1 : List (S42)) (r : Bool) (w : World) (ab : Kd.C k42 w A0 l0.length l0) (ac : l0.length ≤ c0) (ad : Kd.C k42 w A1 l1.length l1) (ae : l1.length ≤ Y) (h : impl_Seg.f k l0 l1 = some r) :
  Calls Try.prog 16 #[.slice A0 l0.length c0, .slice A1 l1.length Y] w fun e w' => e = .returned (.bool r) ∧ Drawn0 w w' := by
 have hu42 := Try.underlying42
 have af := am ab
 have ax := am ac
 clear ab ac
 have ag := am ad
 have ay := am ae
 clear ad ae
 have H := h; unfold impl_Seg.f at H
 clear h
 by_cases y : (l0.length : Int) = (l1.length : Int)
 ·rw [if_pos y] at H
  have ah : ((l0.length : Int) == (l1.length : Int)) = true := beq_iff_eq.mpr y
  have ai : ((l0.length : Int) != (l1.length : Int)) = false := bne_eq_false_iff_eq.mpr y
  have aj : (l0.length == l1.length) = true := by first | simpa using y | (simp at y ⊢; omega)
  clear y
  have H' := am H
  clear H
  go_enter Try.func16, Try.ntmps16
  go_wp2
  repeat (go_quiet (fail); try go_wp2)
  go_loopg [13] k (fun kq al w' => ∃ (s : Int), al = .int .i64 s ∧ Aside0 (impl_Seg.l0 kq l0 l1 (l0.length : Int) s = some r) ∧ Aside0 (kq ≤ k) ∧ Drawn0 w w')
  case atStart => exact ⟨(0), eqs, H', ⟨Nat.le_refl _⟩, drs⟩
  case round =>
   clear H'
   try clear Y
   try clear p2
   try clear y
   try clear ah
   try clear ai
   try clear aj
   obtain ⟨s, rfl, HA, ak, ⟨m1, rfl⟩⟩ := hrel
   cases gk with
   | zero => exact absurd HA.out (by simp [impl_Seg.l0])
   | succ k1 =>
    have H := HA.out
    clear HA
    simp only [impl_Seg.l0] at H
    by_cases J : s < (l0.length : Int)
    ·rw [if_pos J] at H
     have an : decide (s < (l0.length : Int)) = true := decide_eq_true J
     clear J
     by_cases O : 0 ≤ s
     ·rw [if_pos O] at H
      have aA : decide (0 ≤ s) = true := decide_eq_true O
      clear O
      by_cases T : s < (l0.length : Int)
      ·rw [if_pos T] at H
       have aC : decide (s < (l0.length : Int)) = true := decide_eq_true T
       clear T
       by_cases X : s < (l1.length : Int)
       ·rw [if_pos X] at H
        have aD : decide (s < (l1.length : Int)) = true := decide_eq_true X
        clear X
        by_cases L : (!(((rd_T42 l0 s).f0) == ((rd_T42 l1 s).f0)) || (!((((rd_T42 l0 s).f1).toList) == (((rd_T42 l1 s).f1).toList)))) = true
        ·rw [if_pos L] at H
         have ao : (!(((rd_T42 l0 s).f0) == ((rd_T42 l1 s).f0)) || (!((((rd_T42 l0 s).f1).toList) == (((rd_T42 l1 s).f1).toList)))) = true := L
         clear L
         obtain rfl := Option.some.inj H
         have z : 0 ≤ (s : Int) := oda
         have D : s < (l0.length : Int) := oda
         obtain ⟨ap, Z, aq, ar⟩ := at_T42 af.out s z D
         cases Z
         replace z := eq_true z
         replace D := eq_true D
         have G : 0 ≤ (s : Int) := oda
         have I : s < (l1.length : Int) := oda
         obtain ⟨au, aa, av, aw⟩ := at_T42 ag.out s G I
         cases aa
         replace G := eq_true G
         replace I := eq_true I
         go_wp2
         repeat (go_quiet (fail); try go_wp2)
         go_ret
         exact ⟨eqs, drs⟩
        ·rw [if_neg L] at H
         have ao : (!(((rd_T42 l0 s).f0) == ((rd_T42 l1 s).f0)) || (!((((rd_T42 l0 s).f1).toList) == (((rd_T42 l1 s).f1).toList)))) = false := by simpa using L
         clear L
         have H' := am H
         clear H
         have z : 0 ≤ (s : Int) := oda
         have D : s < (l0.length : Int) := oda
         obtain ⟨ap, Z, aq, ar⟩ := at_T42 af.out s z D
         cases Z
         replace z := eq_true z
         replace D := eq_true D
         have G : 0 ≤ (s : Int) := oda
         have I : s < (l1.length : Int) := oda
         obtain ⟨au, aa, av, aw⟩ := at_T42 ag.out s G I
         cases aa
         replace G := eq_true G
         replace I := eq_true I
         go_wp2
         repeat (go_quiet (fail); try go_wp2)
         go_roundg k1
         case measure => have := ak.out; omega
         case rel => exact ⟨(wrap64 (s + 1)), eqs, H', ⟨by have := ak.out; omega⟩, drs⟩
       ·rw [if_neg X] at H
        exact absurd H (by simp)
      ·rw [if_neg T] at H
       exact absurd H (by simp)
     ·rw [if_neg O] at H
      exact absurd H (by simp)
    ·rw [if_neg J] at H
     have an : decide (s < (l0.length : Int)) = false := decide_eq_false J
     clear J
     obtain rfl := Option.some.inj H
     go_wp2
     repeat (go_quiet (fail); try go_wp2)
     go_ret
     exact ⟨eqs, drs⟩
 ·rw [if_neg y] at H
  have ah : ((l0.length : Int) == (l1.length : Int)) = false := beq_eq_false_iff_ne.mpr y
  have ai : ((l0.length : Int) != (l1.length : Int)) = true := bne_iff_ne.mpr y
  have aj : (l0.length == l1.length) = false := by first | simpa using y | (simp at y ⊢; omega)
  obtain rfl := Option.some.inj H
  go_enter Try.func16, Try.ntmps16
  go_wp2
  repeat (go_quiet (fail); try go_wp2)
  go_ret
  exact ⟨eqs, drs⟩

/-! ### impl_StoreSame: function 6 -/
def impl_StoreSame.f (k : Nat) (l0 : List (S42)) (l1 : List (S42)) : Option (Bool) := (impl_Seg.f k l0 l1).bind fun s => (some s)
theorem impl_StoreSame.calls (k : Nat) (s : Option Addr) (y : Nat) (l0 : List (S42)) (z : Option Addr) (D : Nat) (l1 : List (S42)) (r : Bool) (w : World) (G : Kd.C k42 w s l0.length l0) (I : l0.length ≤ y) (J : Kd.C k42 w z l1.length l1) (L : l1.length ≤ D) (h : impl_StoreSame.f k l0 l1 = some r) :
  Calls Try.prog 6 #[.slice s l0.length y, .slice z l1.length D] w fun e w' => e = .returned (.bool r) ∧ Drawn0 w w' := by
 have T := am G
 have X := am I
 clear G I
 have Y := am J
 have Z := am L
 clear J L
 have H := h; unfold impl_StoreSame.f at H
 clear h
 replace H := Option.bind_eq_some_iff.mp H
 obtain ⟨aa, O, H⟩ := H
 try dsimp -simprocs only at H
 have A3 := am O
 clear O
 obtain rfl := Option.some.inj H
 go_enter Try.func6, Try.ntmps6
 go_wp2_with (first | ((with_reducible refine gc 16 rfl ?_); refine gl 7 Try.func16 #[.slice s l0.length y, .slice z l1.length D] ?_; (with_reducible refine (impl_Seg.calls k _ _ l0 _ _ l1 aa _ ?ab ?ac ?ad ?ae A3.out).mono ?_); (case ab => repeat (first | exact T.out | (with_reducible refine Kd.C_alloc ?_ _) | (with_reducible refine Kd.C_drewN ?_ _) | (with_reducible refine Kd.C_drew ?_))); (case ac => exact X.out); (case ad => repeat (first | exact Y.out | (with_reducible refine Kd.C_alloc ?_ _) | (with_reducible refine Kd.C_drewN ?_ _) | (with_reducible refine Kd.C_drew ?_))); (case ae => exact Z.out); rintro e w' ⟨rfl, ⟨nd, rfl⟩⟩; refine ⟨_, rfl, ?_⟩))
 go_ret
 exact ⟨eqs, drs⟩

/-! ### spec_LabelUnder: function 17 -/
def spec_LabelUnder.f (k : Nat) (s : Int) (y : Int) : Option (Bool) := (spec_LabelOk.f s).bind fun z => (if z = true then ((spec_LabelOk.f y).bind fun D => (if D = true then ((spec_l1Under.f k s y).bind fun G => (some G)) else (some false))) else (some false))
theorem spec_LabelUnder.calls (k : Nat) (s : Int) (y : Int) (r : Bool) (w : World) (h : spec_LabelUnder.f k s y = some r) :
  Calls Try.prog 17 #[.int .i64 s, .int .i64 y] w fun e w' => e = .returned (.bool r) ∧ Drawn0 w w' := by
 have H := h; unfold spec_LabelUnder.f at H
 clear h
 replace H := Option.bind_eq_some_iff.mp H
 obtain ⟨Z, O, H⟩ := H
 try dsimp -simprocs only at H
 have J := am O
 clear O
 by_cases G : Z = true
 ·subst G
  replace H : ((spec_LabelOk.f y).bind fun L => (if L = true then ((spec_l1Under.f k s y).bind fun z => (some z)) else (some false))) = some r := by rw [if_pos rfl] at H; exact H
  replace H := Option.bind_eq_some_iff.mp H
  obtain ⟨L, T, H⟩ := H
  try dsimp -simprocs only at H
  have X := am T
  clear T
  by_cases I : L = true
  ·subst I
   replace H : ((spec_l1Under.f k s y).bind fun z => (some z)) = some r := by rw [if_pos rfl] at H; exact H
   replace H := Option.bind_eq_some_iff.mp H
   obtain ⟨z, Y, H⟩ := H
   try dsimp -simprocs only at H
   have A7 := am Y
   clear Y
   obtain rfl := Option.some.inj H
   go_enter Try.func17, Try.ntmps17
   go_wp2_with (first | ((with_reducible refine gc 26 rfl ?_); refine gl 6 Try.func26 #[.int .i64 s] ?_; (with_reducible refine (spec_LabelOk.calls s true _ J.out).mono ?_); rintro e w' ⟨rfl, ⟨nd, rfl⟩⟩; refine ⟨_, rfl, ?_⟩) | (go_at_call 26; (with_reducible refine (spec_LabelOk.calls y true _ X.out).mono ?_); rintro e w' ⟨rfl, ⟨nd, rfl⟩⟩) | (go_at_call 27; (with_reducible refine (spec_l1Under.calls k s y z _ A7.out).mono ?_); rintro e w' ⟨rfl, ⟨nd, rfl⟩⟩))
   go_ret
   exact ⟨eqs, drs⟩
  ·replace I := Bool.eq_false_iff.mpr I
   subst I
   have H1 : (some false) = some r := by rw [if_neg (show ¬ (false = true) by decide)] at H; exact H
   clear H
   have H := H1
   clear H1
   obtain rfl := Option.some.inj H
   go_enter Try.func17, Try.ntmps17
   go_wp2_with (first | ((with_reducible refine gc 26 rfl ?_); refine gl 6 Try.func26 #[.int .i64 s] ?_; (with_reducible refine (spec_LabelOk.calls s true _ J.out).mono ?_); rintro e w' ⟨rfl, ⟨nd, rfl⟩⟩; refine ⟨_, rfl, ?_⟩) | (go_at_call 26; (with_reducible refine (spec_LabelOk.calls y false _ X.out).mono ?_); rintro e w' ⟨rfl, ⟨nd, rfl⟩⟩))
   go_ret
   exact ⟨eqs, drs⟩
 ·replace G := Bool.eq_false_iff.mpr G
  subst G
  have H1 : (some false) = some r := by rw [if_neg (show ¬ (false = true) by decide)] at H; exact H
  clear H
  have H := H1
  clear H1
  obtain rfl := Option.some.inj H
  go_enter Try.func17, Try.ntmps17
  go_wp2_with (first | ((with_reducible refine gc 26 rfl ?_); refine gl 6 Try.func26 #[.int .i64 s] ?_; (with_reducible refine (spec_LabelOk.calls s false _ J.out).mono ?_); rintro e w' ⟨rfl, ⟨nd, rfl⟩⟩; refine ⟨_, rfl, ?_⟩))
  go_ret
  exact ⟨eqs, drs⟩

/-! ### spec_StoreView: function 7 -/
def spec_StoreView.l0 : Nat → List (S42) → Int → List (S42) → Int → Option ((List (S42)))
 | 0, _, _, _, _ => none
 | k + 1, y, D, z, s => if s < (y.length : Int) then (if 0 ≤ s then ((spec_LabelUnder.f k ((rd_T42 y s).f0) D).bind fun G => (if G = true then (if z.length < 5864062014805 then (spec_StoreView.l0 k y D (z ++ [(⟨(rd_T42 y s).f0, (rd_T42 y s).f1⟩ : S42)]) (wrap64 (s + 1))) else (none)) else (spec_StoreView.l0 k y D z (wrap64 (s + 1))))) else (none)) else (some z)
def spec_StoreView.f (k : Nat) (l0 : List (S42)) (s : Int) : Option ((List (S42))) := spec_StoreView.l0 k l0 s (([] : List (S42))) 0
theorem spec_StoreView.calls (k : Nat) (A0 : Option Addr) (c0 : Nat) (l0 : List (S42)) (y : Int) (r : List (S42)) (w : World) (ag : Kd.C k42 w A0 l0.length l0) (ah : l0.length ≤ c0) (h : spec_StoreView.f k l0 y = some r) :
  Calls Try.prog 7 #[.slice A0 l0.length c0, .int .i64 y] w fun e w' => ∃ ai : Value, e = .returned (ai) ∧ Kd.R k42 42 w' w.heap.size (fun _ => True) ai r ∧ Below w.heap.size w w' := by
 have hu42 := Try.underlying42
 have aa := am ag
 have aC := am ah
 clear ag ah
 have HB := am (Below.refl w.heap.size w)
 have H := h; unfold spec_StoreView.f at H
 clear h
 obtain ⟨aj, ab⟩ : ∃ y_ : List (S42), y_ = (([] : List (S42))) := ⟨_, rfl⟩
 replace H : (spec_StoreView.l0 k l0 y aj 0) = some r := by first | (rw [ab]; exact H) | exact H
 have ak := am ab
 clear ab
 have H' := am H
 clear H
 go_enter Try.func7, Try.ntmps7
 go_wp2_with (first | ((with_reducible refine gd 7 rfl ?_); refine Kd.R_lit k42 _ 42 ?hg (N := 7) ?hd (xs := ([] : List (S42))) (inner := []) (ok := fun _ => True) (okp := fun _ => True) ?hr ?hp (fun _ hk => hk) trivial (Below.refl _ _) (Nat.le_refl _) (by simp) ?_; (case hd => rfl); (case hg => rfl); (case hr => first | (go_simp; done) | (go_simp; rfl)); (case hp => exact (Reps.none _ _)); intro aD w3 L hb hg_ hnew_; clear hg_ hnew_; (first | rw [← ak.out] at L | (simp only [Int.reduceToNat] at L; rw [← ak.out] at L)); have ar := am (Kd.R_lower L (below_size (bs HB.out))); replace HB := hs HB hb; clear hb L))
 go_loopg [5, 6] k (fun kq v5 v6 w' => ∃ (z : List (S42)) (s : Int), v6 = .int .i64 s ∧ Aside0 (spec_StoreView.l0 kq l0 y z s = some r) ∧ Aside0 (kq ≤ k) ∧ Aside0 (Kd.R k42 42 w' w.heap.size (fun _ => True) v5 z) ∧ Aside0 (Below w.heap.size w w'))
 case atStart => exact ⟨(aj), (0), eqs, H', ⟨Nat.le_refl _⟩, ⟨rl ar.out⟩, ⟨bs HB.out⟩⟩
 case round =>
  clear H'
  try clear p2
  obtain ⟨z, s, rfl, HA, X, Y, HB⟩ := hrel
  cases gk with
  | zero => exact absurd HA.out (by simp [spec_StoreView.l0])
  | succ k1 =>
   have H := HA.out
   clear HA
   simp only [spec_StoreView.l0] at H
   by_cases J : s < (l0.length : Int)
   ·rw [if_pos J] at H
    have au : decide (s < (l0.length : Int)) = true := decide_eq_true J
    clear J
    by_cases Z : 0 ≤ s
    ·rw [if_pos Z] at H
     have aE : decide (0 ≤ s) = true := decide_eq_true Z
     clear Z
     replace H := Option.bind_eq_some_iff.mp H
     obtain ⟨av, al, H⟩ := H
     try dsimp -simprocs only at H
     have A7 := am al
     clear al
     by_cases c8 : av = true
     ·subst c8
      replace H : (if z.length < 5864062014805 then (spec_StoreView.l0 k1 l0 y (z ++ [(⟨(rd_T42 l0 s).f0, (rd_T42 l0 s).f1⟩ : S42)]) (wrap64 (s + 1))) else (none)) = some r := by rw [if_pos rfl] at H; exact H
      by_cases c9 : z.length < 5864062014805
      ·rw [if_pos c9] at H
       have aw := am c9
       clear c9
       obtain ⟨an, ac⟩ : ∃ y_ : List (S42), y_ = (z ++ [(⟨(rd_T42 l0 s).f0, (rd_T42 l0 s).f1⟩ : S42)]) := ⟨_, rfl⟩
       replace H : (spec_StoreView.l0 k1 l0 y an (wrap64 (s + 1))) = some r := by first | (rw [ac]; exact H) | exact H
       have ax := am ac
       clear ac
       have H' := am H
       clear H
       have G : 0 ≤ (s : Int) := oda
       have I : s < (l0.length : Int) := oda
       obtain ⟨ao, ad, O, T⟩ := at_T42 aa.out s G I
       cases ad
       replace O := cb HB O
       replace T := cb HB T
       replace G := eq_true G
       replace I := eq_true I
       go_wp2_with (first | ((with_reducible refine gc 17 rfl ?_); refine gl 20 Try.func17 #[.int .i64 ((rd_T42 l0 s).f0), .int .i64 y] ?_; (with_reducible refine (spec_LabelUnder.calls k1 ((rd_T42 l0 s).f0) y true _ A7.out).mono ?_); rintro e w' ⟨rfl, ⟨nd, rfl⟩⟩; refine ⟨_, rfl, ?_⟩; have ae : 0 ≤ (s : Int) := oda; have af : s < (l0.length : Int) := oda; obtain ⟨ay, az, ap, aq⟩ := at_T42 aa.out s ae af; obtain rfl : ao = ay := (by injection az); replace ap := cb HB ap; replace aq := cb HB aq; replace ae := eq_true ae; replace af := eq_true af) | ((with_reducible refine gate_builtin (b := .append) (xs := #[.tmp 21, .tmp 26]) rfl ?_); at_builtin; refine Kd.R_append k42 (w0 := w) w.heap.size rfl (.tmp 21) (.tmp 26) 23 42 (.agg #[(.int .i64 0), (.string ⟨#[]⟩)]) 24 rfl Try.underlying23 info42 rfl (by decide) (by omega) u5 z (⟨(rd_T42 l0 s).f0, (rd_T42 l0 s).f1⟩ : S42) [.int .i64 ((rd_T42 l0 s).f0), .string ((rd_T42 l0 s).f1)] (fun _ => True) (fun _ => False) rfl rfl ?aP (fun _ hk => hk.elim) ?aF ?aO ?aB ?aS ?aL ?_; (case aP => exact k42_mkM _ _ _ (⟨(rd_T42 l0 s).f0, (rd_T42 l0 s).f1⟩ : S42)); (case aB => exact (bs HB.out)); (case aF => exact (fun _ _ => trivial)); (case aO => exact (rl Y.out)); (case aS => exact (below_size (bs HB.out))); (case aL => have := aw.out; omega); intro aG aH ho hb hg hat; rw [← ax.out] at ho; replace HB := am hb; have aA := am ho; clear Y; clear ho hb hg hat))
       go_roundg k1
       case measure => have := X.out; omega
       case rel => exact ⟨(an), (wrap64 (s + 1)), eqs, H', ⟨by have := X.out; omega⟩, ⟨rl aA.out⟩, ⟨bs HB.out⟩⟩
      ·rw [if_neg c9] at H
       exact absurd H (by simp)
     ·replace c8 := Bool.eq_false_iff.mpr c8
      subst c8
      have H1 : (spec_StoreView.l0 k1 l0 y z (wrap64 (s + 1))) = some r := by rw [if_neg (show ¬ (false = true) by decide)] at H; exact H
      clear H
      have H := H1
      clear H1
      have H' := am H
      clear H
      have G : 0 ≤ (s : Int) := oda
      have I : s < (l0.length : Int) := oda
      obtain ⟨ao, ad, O, T⟩ := at_T42 aa.out s G I
      cases ad
      replace O := cb HB O
      replace T := cb HB T
      replace G := eq_true G
      replace I := eq_true I
      go_wp2_with (first | ((with_reducible refine gc 17 rfl ?_); refine gl 20 Try.func17 #[.int .i64 ((rd_T42 l0 s).f0), .int .i64 y] ?_; (with_reducible refine (spec_LabelUnder.calls k1 ((rd_T42 l0 s).f0) y false _ A7.out).mono ?_); rintro e w' ⟨rfl, ⟨nd, rfl⟩⟩; refine ⟨_, rfl, ?_⟩))
      go_roundg k1
      case measure => have := X.out; omega
      case rel => exact ⟨(z), (wrap64 (s + 1)), eqs, H', ⟨by have := X.out; omega⟩, ⟨rl Y.out⟩, ⟨bs HB.out⟩⟩
    ·rw [if_neg Z] at H
     exact absurd H (by simp)
   ·rw [if_neg J] at H
    have au : decide (s < (l0.length : Int)) = false := decide_eq_false J
    clear J
    obtain rfl := Option.some.inj H
    go_wp2
    go_ret
    exact ⟨_, eqr, by (with_reducible repeat (first | apply Kd.R_alloc | apply Kd.R_drewN | apply Kd.R_drew)); exact Y.out, bs HB.out⟩

/-! ### impl_LabelMeet: function 9 -/
def impl_LabelMeet.f (s : Int) (y : Int) : Option (Int) := (impl_LabelOk.f s).bind fun z => (if z = true then ((impl_LabelOk.f y).bind fun D => (if D = true then (some (wrap64 (Go.bits .and .u8 ((s) % 256) ((y) % 256)))) else (some 0))) else (some 0))
theorem impl_LabelMeet.calls (s : Int) (y : Int) (r : Int) (w : World) (h : impl_LabelMeet.f s y = some r) :
  Calls Try.prog 9 #[.int .i64 s, .int .i64 y] w fun e w' => e = .returned (.int .i64 r) ∧ Drawn0 w w' := by
 have H := h; unfold impl_LabelMeet.f at H
 clear h
 replace H := Option.bind_eq_some_iff.mp H
 obtain ⟨X, L, H⟩ := H
 try dsimp -simprocs only at H
 have I := am L
 clear L
 by_cases D : X = true
 ·subst D
  replace H : ((impl_LabelOk.f y).bind fun J => (if J = true then (some (wrap64 (Go.bits .and .u8 ((s) % 256) ((y) % 256)))) else (some 0))) = some r := by rw [if_pos rfl] at H; exact H
  replace H := Option.bind_eq_some_iff.mp H
  obtain ⟨J, O, H⟩ := H
  try dsimp -simprocs only at H
  have T := am O
  clear O
  by_cases G : J = true
  ·subst G
   replace H : (some (wrap64 (Go.bits .and .u8 ((s) % 256) ((y) % 256)))) = some r := by rw [if_pos rfl] at H; exact H
   obtain rfl := Option.some.inj H
   go_enter Try.func9, Try.ntmps9
   go_wp2_with (first | ((with_reducible refine gc 8 rfl ?_); refine gl 6 Try.func8 #[.int .i64 s] ?_; (with_reducible refine (impl_LabelOk.calls s true _ I.out).mono ?_); rintro e w' ⟨rfl, ⟨nd, rfl⟩⟩; refine ⟨_, rfl, ?_⟩) | (go_at_call 8; (with_reducible refine (impl_LabelOk.calls y true _ T.out).mono ?_); rintro e w' ⟨rfl, ⟨nd, rfl⟩⟩))
   go_ret
   exact ⟨eqs, drs⟩
  ·replace G := Bool.eq_false_iff.mpr G
   subst G
   have H1 : (some 0) = some r := by rw [if_neg (show ¬ (false = true) by decide)] at H; exact H
   clear H
   have H := H1
   clear H1
   obtain rfl := Option.some.inj H
   go_enter Try.func9, Try.ntmps9
   go_wp2_with (first | ((with_reducible refine gc 8 rfl ?_); refine gl 6 Try.func8 #[.int .i64 s] ?_; (with_reducible refine (impl_LabelOk.calls s true _ I.out).mono ?_); rintro e w' ⟨rfl, ⟨nd, rfl⟩⟩; refine ⟨_, rfl, ?_⟩) | (go_at_call 8; (with_reducible refine (impl_LabelOk.calls y false _ T.out).mono ?_); rintro e w' ⟨rfl, ⟨nd, rfl⟩⟩))
   go_ret
   exact ⟨eqs, drs⟩
 ·replace D := Bool.eq_false_iff.mpr D
  subst D
  have H1 : (some 0) = some r := by rw [if_neg (show ¬ (false = true) by decide)] at H; exact H
  clear H
  have H := H1
  clear H1
  obtain rfl := Option.some.inj H
  go_enter Try.func9, Try.ntmps9
  go_wp2_with (first | ((with_reducible refine gc 8 rfl ?_); refine gl 6 Try.func8 #[.int .i64 s] ?_; (with_reducible refine (impl_LabelOk.calls s false _ I.out).mono ?_); rintro e w' ⟨rfl, ⟨nd, rfl⟩⟩; refine ⟨_, rfl, ?_⟩))
  go_ret
  exact ⟨eqs, drs⟩

end Go.Proofs.Ytkbamcicbofjbaa.QFnStoreNarrow
