/- Contracts of the Go functions that this law reaches: each does what its plain Lean function says. No condition. -/
import Derived.Test.YtohmemckdogljaaQFnGraphBentx0
import Derived.Test.YtohmemckdogljaaQFnGraphBentx4
import Derived.Test.YtohmemckdogljaaQFnGraphBentx6
import Derived.Test.YtohmemckdogljaaQFnGraphBentx10
import Derived.Test.YtohmemckdogljaaQFnGraphBentx17
import Derived.Test.YtohmemckdogljaaQFnGraphBentx18
namespace Go.Proofs.Ytohmemckdogljaa.QFnGraphBent
open Go.RowKit Go.Proofs.YtohmemckdogljaaW.PrintWords Go.Proofs.YtohmemckdogljaaW.PrintLast Go.Proofs.YtohmemckdogljaaW.PrintMore Go.Proofs.Ytohmemckdogljaa.Bl
attribute [local go_sem] max2_int min2_int max_two min_two max_three min_three max_four min_four   -- for this text's walks alone
set_option linter.unusedVariables false
set_option linter.unusedSimpArgs false
set_option maxHeartbeats 8000000
set_option maxRecDepth 100000

/-! ### laws_FnGraphBent: function 8 -/
def laws_FnGraphBent.j0 : Nat → Bool → List (S36) → List (S56) → Option (Bool)
 | 0, _, _, _ => none
 | k + 1, T, s, y => if T = true then (some false) else ((spec_GraphOk.f k s y).bind fun X => (if X = true then ((some (([] : List (S36)) : List (S36))).bind fun G => (if G.length + s.length < 8796093022208 then ((some (G ++ s : List (S36))).bind fun I => (if I.length + s.length < 8796093022208 then ((some (([] : List (S56)) : List (S56))).bind fun J => (if J.length + y.length < 3518437208883 then ((some (J ++ y : List (S56))).bind fun L => (if L.length < 3518437208883 then ((some (L ++ [(⟨7, (⟨7, 38⟩ : S36), (⟨7, 39⟩ : S36)⟩ : S56)] : List (S56))).bind fun z => ((some (([] : List (S36)) : List (S36))).bind fun M => (if M.length + s.length < 8796093022208 then ((some (M ++ s : List (S36))).bind fun O => (if O.length < 8796093022208 then ((some (O ++ [(⟨8, 0⟩ : S36)] : List (S36))).bind fun D => (if (s.length : Int) = 0 then ((impl_GraphOk.f k s z).bind fun Y => (if Y = true then (some false) else ((impl_GraphOk.f k D y).bind fun Z => (if Z = true then (some false) else ((impl_GraphSame.f k s y s z).bind fun aa => (if aa = true then (some false) else ((impl_GraphSame.f k s y D y).bind fun ab => (some (!ab))))))))) else ((impl_GraphOk.f k (I ++ s) y).bind fun ac => (if ac = true then (some false) else ((impl_GraphOk.f k s z).bind fun ad => (if ad = true then (some false) else ((impl_GraphOk.f k D y).bind fun ae => (if ae = true then (some false) else ((impl_GraphSame.f k s y s z).bind fun af => (if af = true then (some false) else ((impl_GraphSame.f k s y D y).bind fun ag => (some (!ag))))))))))))) else (none))) else (none)))) else (none))) else (none))) else (none))) else (none))) else (some true)))
def laws_FnGraphBent.f (k : Nat) (l0 : List Int) : Option (Bool) := if (l0.length : Int) > 1048576 then (some true) else ((spec_DrawGraphSame.f k l0).bind fun y => ((spec_DrawGraphOk.f k l0).bind fun s => ((spec_DrawOpLabel.f k l0).bind fun z => ((impl_GraphSame.f k y.1 y.2.1 y.2.2.1 y.2.2.2).bind fun D => ((spec_GraphSame.f k y.1 y.2.1 y.2.2.1 y.2.2.2).bind fun G => (if (D != G) = true then (laws_FnGraphBent.j0 k true s.1 s.2) else ((impl_GraphSame.f k y.1 y.2.1 y.2.2.1 y.2.2.2).bind fun I => ((impl_GraphSame.f k y.2.2.1 y.2.2.2 y.1 y.2.1).bind fun J => (if (I != J) = true then (laws_FnGraphBent.j0 k true s.1 s.2) else ((impl_GraphSame.f k s.1 s.2 s.1 s.2).bind fun L => (if L = true then ((impl_GraphOk.f k s.1 s.2).bind fun M => ((spec_GraphOk.f k s.1 s.2).bind fun O => (if (M != O) = true then (laws_FnGraphBent.j0 k true s.1 s.2) else ((impl_OpLabel.f k z.1 z.2.1 z.2.2.1 z.2.2.2.1 z.2.2.2.2.1 z.2.2.2.2.2.1 z.2.2.2.2.2.2.1 z.2.2.2.2.2.2.2).bind fun T => ((spec_OpLabel.f k z.1 z.2.1 z.2.2.1 z.2.2.2.1 z.2.2.2.2.1 z.2.2.2.2.2.1 z.2.2.2.2.2.2.1 z.2.2.2.2.2.2.2).bind fun X => (if T = X then ((impl_GraphOk.f k ([] : List (S36)) ([] : List (S56))).bind fun Y => (laws_FnGraphBent.j0 k (!Y) s.1 s.2)) else (laws_FnGraphBent.j0 k true s.1 s.2))))))) else (laws_FnGraphBent.j0 k true s.1 s.2))))))))))))
def laws_FnGraphBent.T6 : Bool × List (List Nat × List Nat) := (true, [([], []), ([], []), ([0, 1], [0, 1]), ([], []), ([], []), ([3, 4, 2], [3, 4]), ([2, 5], [2, 5]), ([6, 5], [6]), ([7], [7]), ([7], [7]), ([8, 9, 7, 7], [7, 8, 9]), ([7], [7]), ([7], [7]), ([11, 12, 10, 7], [7, 11, 12]), ([10, 13, 7], [7, 10, 13]), ([7, 14], [7, 14]), ([15, 13], [15]), ([16], [16]), ([16], [16]), ([17, 18, 16, 16], [16, 17, 18]), ([19, 16], [16, 19]), ([16, 20], [16, 20]), ([21, 19], [21]), ([22], [22]), ([23, 22, 22], [22, 23]), ([22], [22]), ([25, 24, 22], [22, 25]), ([24, 26, 22], [22, 24, 26]), ([22, 27], [22, 27]), ([28, 26], [28]), ([29], [29]), ([30, 29, 29], [29, 30]), ([29], [29]), ([32, 31, 29], [29, 32]), ([31, 33, 29], [29, 31, 33]), ([29, 34], [29, 34]), ([35, 33], [35]), ([36], [36]), ([37, 36, 36], [36, 37]), ([38, 36], [36, 38]), ([36, 39], [36, 39])])
def laws_FnGraphBent.B6 : List Nat := [0, 0, 3, 0, 0, 31, 63, 127, 255, 255, 1023, 255, 255, 8191, 16383, 32767, 65535, 131071, 131071, 524287, 1048575, 2097151, 4194303, 8388607, 16777215, 8388607, 67108863, 134217727, 268435455, 536870911, 1073741823, 2147483647, 1073741823, 8589934591, 17179869183, 34359738367, 68719476735, 137438953471, 274877906943, 549755813887, 1099511627775]
theorem laws_FnGraphBent.tab6 : rtab .any (opsOf Try.f8 6) = laws_FnGraphBent.T6 := by kernel_rfl
theorem laws_FnGraphBent.bits6 : waitsOk laws_FnGraphBent.T6.2 laws_FnGraphBent.B6 = true := by kernel_rfl
def laws_FnGraphBent.T11 : Bool × List (List Nat × List Nat) := (true, [([], []), ([], []), ([1], [1]), ([0, 2], [0, 2]), ([], []), ([4], [4]), ([3, 5, 3], [3, 5]), ([0, 1, 2, 3, 4, 5, 6], []), ([7, 6, 6, 0, 1, 2, 3, 4, 5, 6], [6, 7])])
def laws_FnGraphBent.B11 : List Nat := [0, 0, 2, 7, 0, 16, 63, 127, 255]
theorem laws_FnGraphBent.tab11 : rtab .any (opsOf Try.f8 11) = laws_FnGraphBent.T11 := by kernel_rfl
theorem laws_FnGraphBent.bits11 : waitsOk laws_FnGraphBent.T11.2 laws_FnGraphBent.B11 = true := by kernel_rfl
theorem laws_FnGraphBent.calls (k : Nat) (A0 : Option Addr) (c0 : Nat) (l0 : List Int) (r : Bool) (hT : Aside0 (r = true)) (w : World) (d7 : Kd.C (Kd.int .u8) w A0 l0.length l0) (d8 : l0.length ≤ c0) (h : laws_FnGraphBent.f k l0 = some r) :
  Calls Try.prog 8 #[.slice A0 l0.length c0] w fun e w' => e = .returned (.bool r) ∧ Below w.heap.size w w' := by
 have hu34 := Try.underlying34
 have hu58 := Try.underlying58
 have hu36 := Try.underlying36
 have hu56 := Try.underlying56
 have dh := am d7
 have di := am d8
 clear d7 d8
 have HB := am (Below.refl w.heap.size w)
 have H := h; unfold laws_FnGraphBent.f at H
 clear h
 by_cases c2 : (l0.length : Int) > 1048576
 ·rw [if_pos c2] at H
  have eZ : decide (1048576 < (l0.length : Int)) = true := decide_eq_true c2
  have e0 : decide (1048576 < l0.length) = true := decide_eq_true (by omega)
  clear c2
  obtain rfl := Option.some.inj H
  go_enter Try.func8, Try.ntmps8
  go_wp2
  go_ret
  exact ⟨eqr, bs HB.out⟩
 ·rw [if_neg c2] at H
  have eZ : decide (1048576 < (l0.length : Int)) = false := decide_eq_false c2
  have e0 : decide (1048576 < l0.length) = false := decide_eq_false (by omega)
  clear c2
  replace H := Option.bind_eq_some_iff.mp H
  obtain ⟨⟨Y, aj, Z, ak⟩, b7, H⟩ := H
  try dsimp -simprocs only at H
  have A3 := am b7
  clear b7
  replace H := Option.bind_eq_some_iff.mp H
  obtain ⟨⟨D, I⟩, d9, H⟩ := H
  try dsimp -simprocs only at H
  have A4 := am d9
  clear d9
  replace H := Option.bind_eq_some_iff.mp H
  obtain ⟨⟨aa, af, ai, al, an, ap, ay, aA⟩, ea, H⟩ := H
  try dsimp -simprocs only at H
  have A5 := am ea
  clear ea
  have dj := am H
  clear H
  go_enter Try.func8, Try.ntmps8
  go_upto_region 6 with (first | ((with_reducible refine gc 38 rfl ?_); refine gl 15 Try.func38 #[.slice A0 l0.length c0] ?_; (with_reducible refine (spec_DrawGraphSame.calls k _ _ l0 Y aj Z ak _ ?aK ?aM A3.out).mono ?_); (case aK => repeat (first | exact dh.out | (with_reducible refine Kd.C_alloc ?_ _) | (with_reducible refine Kd.C_drewN ?_ _) | (with_reducible refine Kd.C_drew ?_))); (case aM => exact di.out); rintro e w7 ⟨f7, f9, ga, gb, rfl, cm, cn, eb, ec, hb⟩; refine ⟨_, rfl, ?_⟩; have M := am (Kd.R_lower cm (below_size (bs HB.out))); have O := am (Kd.R_lower cn (below_size (bs HB.out))); have T := am (Kd.Q_lower eb (below_size (bs HB.out))); have X := am (Kd.R_lower ec (below_size (bs HB.out))); replace HB := hs HB hb; (try clear cm cn eb ec hb)) | ((with_reducible refine gd 3 rfl ?_); refine bx 3 (cs := #[.slice none 0 0, .slice none 0 0]) (t := 34) ?_; intro a1 hg w8 hbox hb; replace M := rb M hb; replace O := rb O hb; replace T := qb T hb; replace X := rb X hb; have J := am hbox; have ge := gwb HB hg; replace HB := hs HB hb; clear hb hbox hg) | ((with_reducible refine gd 4 rfl ?_); refine bx 4 (cs := #[.slice none 0 0, .slice none 0 0]) (t := 34) ?_; intro a2 hg w9 hbox hb; replace M := rb M hb; replace O := rb O hb; replace T := qb T hb; replace X := rb X hb; have L := am hbox; have gf := gwb HB hg; replace HB := hs HB hb; have e1 := nq J hg; have e2 := nq' J hg; replace J := bb J hb rfl; clear hb hbox hg; obtain ⟨ar, au, e3⟩ := Kd.R_slice M.out; subst e3; have gg := e1.out; have gh := e2.out; obtain ⟨gi, gj⟩ := bc2 (w := w9) J.out; have gk := blk_frozen J.out; obtain ⟨aC, aD, e4⟩ := Kd.R_slice O.out; subst e4; obtain ⟨av, aw, e5, _⟩ := Kd.Q_slice T.out; subst e5; obtain ⟨gm, gn⟩ := bc2 (w := w9) L.out; have go := blk_frozen L.out; obtain ⟨aE, aG, e6⟩ := Kd.R_slice X.out; subst e6) | ((with_reducible refine gc 39 rfl ?_); refine gl 19 Try.func39 #[.slice A0 l0.length c0] ?_; (with_reducible refine (spec_DrawGraphOk.calls k _ _ l0 D I _ ?aK ?aM A4.out).mono ?_); (case aK => exact Kd.C_below dh.out (bs HB.out)); (case aM => exact di.out); rintro e gp ⟨gq, gt, rfl, cm, cn, hb⟩; refine ⟨_, rfl, ?_⟩; have ad := am (Kd.Q_lower (Kd.Q_new' (Kd.Q_new' cm (Kd.R_lt (by (with_reducible repeat (first | apply Kd.R_alloc | apply Kd.R_drewN | apply Kd.R_drew)); exact (Kd.R_mono (Kd.R_mono (Kd.R_far (p := ⟨a2, 1, none⟩) (Kd.R_far (p := ⟨a2, 0, none⟩) (Kd.R_far (p := ⟨a1, 1, none⟩) (Kd.R_far (p := ⟨a1, 0, none⟩) (Kd.R_types (Kd.R_types M.out J.out (by decide)) L.out (by decide)) (fun _ hk => hk.1.2) (.slice ar Y.length au)) (fun _ hk => hk.1.2) (.slice aC aj.length aD)) (fun _ hk => hk.2) (.slice av Z.length aw)) (fun _ hk => hk.2) (.slice aE ak.length aG)) (fun _ h_ => h_.1)) (fun _ h_ => h_.1))))) (Kd.Q_lt (by (with_reducible repeat (first | apply Kd.Q_alloc | apply Kd.Q_drewN | apply Kd.Q_drew)); exact (Kd.Q_mono (Kd.Q_mono (Kd.Q_far (p := ⟨a2, 1, none⟩) (Kd.Q_far (p := ⟨a2, 0, none⟩) (Kd.Q_far (p := ⟨a1, 1, none⟩) (Kd.Q_far (p := ⟨a1, 0, none⟩) (Kd.Q_types (Kd.Q_types T.out J.out (by decide)) L.out (by decide)) (fun _ hk => hk.1.2) (.slice ar Y.length au)) (fun _ hk => hk.1.2) (.slice aC aj.length aD)) (fun _ hk => hk.2) (.slice av Z.length aw)) (fun _ hk => hk.2) (.slice aE ak.length aG)) (fun _ h_ => h_.1)) (fun _ h_ => h_.1))))) (below_size (bs HB.out))); replace M := am (Kd.R_elder' (by (with_reducible repeat (first | apply Kd.R_alloc | apply Kd.R_drewN | apply Kd.R_drew)); exact (Kd.R_mono (Kd.R_mono (Kd.R_far (p := ⟨a2, 1, none⟩) (Kd.R_far (p := ⟨a2, 0, none⟩) (Kd.R_far (p := ⟨a1, 1, none⟩) (Kd.R_far (p := ⟨a1, 0, none⟩) (Kd.R_types (Kd.R_types M.out J.out (by decide)) L.out (by decide)) (fun _ hk => hk.1.2) (.slice ar Y.length au)) (fun _ hk => hk.1.2) (.slice aC aj.length aD)) (fun _ hk => hk.2) (.slice av Z.length aw)) (fun _ hk => hk.2) (.slice aE ak.length aG)) (fun _ h_ => h_.1)) (fun _ h_ => h_.1))) (Kd.Q_base cm) hb); replace T := am (Kd.Q_elder' (by (with_reducible repeat (first | apply Kd.Q_alloc | apply Kd.Q_drewN | apply Kd.Q_drew)); exact (Kd.Q_mono (Kd.Q_mono (Kd.Q_far (p := ⟨a2, 1, none⟩) (Kd.Q_far (p := ⟨a2, 0, none⟩) (Kd.Q_far (p := ⟨a1, 1, none⟩) (Kd.Q_far (p := ⟨a1, 0, none⟩) (Kd.Q_types (Kd.Q_types T.out J.out (by decide)) L.out (by decide)) (fun _ hk => hk.1.2) (.slice ar Y.length au)) (fun _ hk => hk.1.2) (.slice aC aj.length aD)) (fun _ hk => hk.2) (.slice av Z.length aw)) (fun _ hk => hk.2) (.slice aE ak.length aG)) (fun _ h_ => h_.1)) (fun _ h_ => h_.1))) (Kd.Q_base cm) hb); have ae := am (Kd.R_lower (Kd.R_new' (Kd.R_new' cn (Kd.R_lt (by (with_reducible repeat (first | apply Kd.R_alloc | apply Kd.R_drewN | apply Kd.R_drew)); exact (Kd.R_mono (Kd.R_mono (Kd.R_far (p := ⟨a2, 1, none⟩) (Kd.R_far (p := ⟨a2, 0, none⟩) (Kd.R_far (p := ⟨a1, 1, none⟩) (Kd.R_far (p := ⟨a1, 0, none⟩) (Kd.R_types (Kd.R_types O.out J.out (by decide)) L.out (by decide)) (fun _ hk => hk.1.2) (.slice ar Y.length au)) (fun _ hk => hk.1.2) (.slice aC aj.length aD)) (fun _ hk => hk.2) (.slice av Z.length aw)) (fun _ hk => hk.2) (.slice aE ak.length aG)) (fun _ h_ => h_.1)) (fun _ h_ => h_.1))))) (Kd.R_lt (by (with_reducible repeat (first | apply Kd.R_alloc | apply Kd.R_drewN | apply Kd.R_drew)); exact (Kd.R_mono (Kd.R_mono (Kd.R_far (p := ⟨a2, 1, none⟩) (Kd.R_far (p := ⟨a2, 0, none⟩) (Kd.R_far (p := ⟨a1, 1, none⟩) (Kd.R_far (p := ⟨a1, 0, none⟩) (Kd.R_types (Kd.R_types X.out J.out (by decide)) L.out (by decide)) (fun _ hk => hk.1.2) (.slice ar Y.length au)) (fun _ hk => hk.1.2) (.slice aC aj.length aD)) (fun _ hk => hk.2) (.slice av Z.length aw)) (fun _ hk => hk.2) (.slice aE ak.length aG)) (fun _ h_ => h_.1)) (fun _ h_ => h_.1))))) (below_size (bs HB.out))); replace O := am (Kd.R_elder' (by (with_reducible repeat (first | apply Kd.R_alloc | apply Kd.R_drewN | apply Kd.R_drew)); exact (Kd.R_mono (Kd.R_mono (Kd.R_far (p := ⟨a2, 1, none⟩) (Kd.R_far (p := ⟨a2, 0, none⟩) (Kd.R_far (p := ⟨a1, 1, none⟩) (Kd.R_far (p := ⟨a1, 0, none⟩) (Kd.R_types (Kd.R_types O.out J.out (by decide)) L.out (by decide)) (fun _ hk => hk.1.2) (.slice ar Y.length au)) (fun _ hk => hk.1.2) (.slice aC aj.length aD)) (fun _ hk => hk.2) (.slice av Z.length aw)) (fun _ hk => hk.2) (.slice aE ak.length aG)) (fun _ h_ => h_.1)) (fun _ h_ => h_.1))) (Kd.R_base cn) hb); replace X := am (Kd.R_elder' (by (with_reducible repeat (first | apply Kd.R_alloc | apply Kd.R_drewN | apply Kd.R_drew)); exact (Kd.R_mono (Kd.R_mono (Kd.R_far (p := ⟨a2, 1, none⟩) (Kd.R_far (p := ⟨a2, 0, none⟩) (Kd.R_far (p := ⟨a1, 1, none⟩) (Kd.R_far (p := ⟨a1, 0, none⟩) (Kd.R_types (Kd.R_types X.out J.out (by decide)) L.out (by decide)) (fun _ hk => hk.1.2) (.slice ar Y.length au)) (fun _ hk => hk.1.2) (.slice aC aj.length aD)) (fun _ hk => hk.2) (.slice av Z.length aw)) (fun _ hk => hk.2) (.slice aE ak.length aG)) (fun _ h_ => h_.1)) (fun _ h_ => h_.1))) (Kd.R_base cn) hb); replace J := bq #[.slice ar Y.length au, .slice aC aj.length aD] J hb; replace L := bq #[.slice av Z.length aw, .slice aE ak.length aG] L hb; replace HB := hs HB hb; (try clear hb); (try clear hb2); (try clear hk); (try clear hi); (try clear cm); (try clear cn)) | ((with_reducible refine gd 5 rfl ?_); refine bx 5 (cs := #[.slice none 0 0, .slice none 0 0]) (t := 34) ?_; intro a8 hg e7 hbox hb; replace M := rb M hb; replace O := rb O hb; replace T := qb T hb; replace X := rb X hb; replace ad := qb ad hb; replace ae := rb ae hb; have G := am hbox; have gu := gwb HB hg; replace HB := hs HB hb; have cM := nq J hg; have cN := nq' J hg; replace J := bb J hb rfl; have cO := nq L hg; have cP := nq' L hg; replace L := bb L hb rfl; clear hb hbox hg; obtain ⟨ac, ab, e8, _⟩ := Kd.Q_slice ad.out; subst e8; have gv := cN.out; have gw := cM.out; have gx := cP.out; have gy := cO.out; obtain ⟨gz, gA⟩ := bc2 (w := e7) G.out; have gB := blk_frozen G.out; obtain ⟨ah, ag, e9⟩ := Kd.R_slice ae.out; subst e9) | ((with_reducible refine gc 40 rfl ?_); refine gl 21 Try.func40 #[.slice A0 l0.length c0] ?_; (with_reducible refine (spec_DrawOpLabel.calls k _ _ l0 aa af ai al an ap ay aA _ ?aK ?aM A5.out).mono ?_); (case aK => exact Kd.C_below dh.out (bs HB.out)); (case aM => exact di.out); rintro e gC ⟨rfl, hb⟩; refine ⟨_, rfl, ?_⟩; replace M := am (Kd.R_below (rt M.out G.out (by decide)) hb); replace O := am (Kd.R_below (rt O.out G.out (by decide)) hb); replace T := am (Kd.Q_below (qt T.out G.out (by decide)) hb); replace X := am (Kd.R_below (rt X.out G.out (by decide)) hb); replace ad := am (Kd.Q_below (qt ad.out G.out (by decide)) hb); replace ae := am (Kd.R_below (rt ae.out G.out (by decide)) hb); replace J := am (blk_below (g := a1) (o := .cells #[.slice ar Y.length au, .slice aC aj.length aD] 34 (0, 0)) (bf J.out) hb); replace L := am (blk_below (g := a2) (o := .cells #[.slice av Z.length aw, .slice aE ak.length aG] 34 (0, 0)) (bf L.out) hb); replace G := bq #[.slice ac D.length ab, .slice ah I.length ag] G hb; replace HB := hs HB hb; (try clear hb); (try clear hb2); (try clear hk); (try clear hi)) | ((with_reducible refine gd 6 rfl ?_); refine bx 6 (cs := #[.int .i64 0, .int .i64 0, .int .i64 0, .int .i64 0, .int .i64 0, .int .i64 0, .int .i64 0, .int .i64 0]) (t := 58) ?_; intro y hg aX hbox hb; replace M := rb M hb; replace O := rb O hb; replace T := qb T hb; replace X := rb X hb; replace ad := qb ad hb; replace ae := rb ae hb; have z := am hbox; have gD := gwb HB hg; replace HB := hs HB hb; have fa := nq J hg; have fb := nq' J hg; replace J := bb J hb rfl; have fc := nq L hg; have fd := nq' L hg; replace L := bb L hb rfl; have cQ := nq G hg; have cR := nq' G hg; replace G := bb G hb rfl; clear hb hbox hg; have gE := fb.out; have gF := fa.out; have gG := fd.out; have gH := fc.out; have gI := cR.out; have gJ := cQ.out; obtain ⟨gK, gL, gM, gN, gO, gP, gQ, gR⟩ := bc8 (w := aX) z.out; have gS := blk_frozen z.out))
  (try simp only [Act.put, List.setIfInBounds_toArray, List.set_cons_zero, List.set_cons_succ])
  go_cut [62] (fun fe wc => ∃ (kq : Nat) (cS : Bool), fe = .bool cS ∧ Aside0 (laws_FnGraphBent.j0 kq cS D I = some r) ∧ Aside0 (kq ≤ k) ∧ Aside0 (Kd.R k36 36 wc w.heap.size (fun k_ => some k_ ≠ ((.slice av Z.length aw) : Value).ownBlock ∧ some k_ ≠ ((.slice ac D.length ab) : Value).ownBlock) (.slice ar Y.length au) Y) ∧ Aside0 (Kd.R k56 56 wc w.heap.size (fun k_ => some k_ ≠ ((.slice aE ak.length aG) : Value).ownBlock ∧ some k_ ≠ ((.slice ah I.length ag) : Value).ownBlock) (.slice aC aj.length aD) aj) ∧ Aside0 (Kd.Q k36 36 wc w.heap.size (fun k_ => some k_ ≠ ((.slice ar Y.length au) : Value).ownBlock ∧ some k_ ≠ ((.slice ac D.length ab) : Value).ownBlock) (.slice av Z.length aw) Z) ∧ Aside0 (Kd.R k56 56 wc w.heap.size (fun k_ => some k_ ≠ ((.slice aC aj.length aD) : Value).ownBlock ∧ some k_ ≠ ((.slice ah I.length ag) : Value).ownBlock) (.slice aE ak.length aG) ak) ∧ Aside0 (Kd.Q k36 36 wc w.heap.size (fun k_ => some k_ ≠ ((.slice ar Y.length au) : Value).ownBlock ∧ some k_ ≠ ((.slice av Z.length aw) : Value).ownBlock) (.slice ac D.length ab) D) ∧ Aside0 (Kd.R k56 56 wc w.heap.size (fun k_ => some k_ ≠ ((.slice aC aj.length aD) : Value).ownBlock ∧ some k_ ≠ ((.slice aE ak.length aG) : Value).ownBlock) (.slice ah I.length ag) I) ∧ Aside0 (wc.heap[a1]? = some (.cells #[(.slice ar Y.length au), (.slice aC aj.length aD)] 34 (0, 0))) ∧ Aside0 (wc.heap[a2]? = some (.cells #[(.slice av Z.length aw), (.slice aE ak.length aG)] 34 (0, 0))) ∧ Aside0 (wc.heap[a8]? = some (.cells #[(.slice ac D.length ab), (.slice ah I.length ag)] 34 (0, 0))) ∧ Aside0 (wc.heap[y]? = some (.cells #[.int .i64 aa, .int .i64 af, .int .i64 ai, .int .i64 al, .int .i64 an, .int .i64 ap, .int .i64 ay, .int .i64 aA] 58 (0, 0))) ∧ Aside0 (Below w.heap.size w wc))
  case first =>
   have H := dj.out
   clear dj
   replace H := Option.bind_eq_some_iff.mp H
   obtain ⟨bV, ed, H⟩ := H
   try dsimp -simprocs only at H
   have b7 := am ed
   clear ed
   replace H := Option.bind_eq_some_iff.mp H
   obtain ⟨bW, ee, H⟩ := H
   try dsimp -simprocs only at H
   have ct := am ee
   clear ee
   by_cases b4 : (bV != bW) = true
   ·rw [if_pos b4] at H
    have cz : (bV != bW) = true := b4
    (try (have ff : decide (bV = bW) = false := by simpa using b4))
    (try (have fg : (bV == bW) = false := by simpa using b4))
    (try (have gT : ¬ (bV = bW) := by simpa using b4))
    clear b4
    (first | rw [cz] | (simp only [i64_w, i32_w]; rw [cz]) | skip)
    have H' := am H
    clear H
    try go_wp2
    have bg : Aside0 (Kd.R k36 36 ((((((((aX.setCell ⟨y, 0, none⟩ (.int .i64 aa)).setCell ⟨y, 1, none⟩ (.int .i64 af)).setCell ⟨y, 2, none⟩ (.int .i64 ai)).setCell ⟨y, 3, none⟩ (.int .i64 al)).setCell ⟨y, 4, none⟩ (.int .i64 an)).setCell ⟨y, 5, none⟩ (.int .i64 ap)).setCell ⟨y, 6, none⟩ (.int .i64 ay)).setCell ⟨y, 7, none⟩ (.int .i64 aA)) w.heap.size (fun k_ => some k_ ≠ (.slice av Z.length aw : Value).ownBlock ∧ some k_ ≠ (.slice ac D.length ab : Value).ownBlock) (.slice ar Y.length au) Y) := ⟨Kd.R_mono (rt M.out z.out (by decide)) (fun _ hk => ⟨hk.1, hk.2⟩)⟩
    have bh : Aside0 (Kd.R k56 56 ((((((((aX.setCell ⟨y, 0, none⟩ (.int .i64 aa)).setCell ⟨y, 1, none⟩ (.int .i64 af)).setCell ⟨y, 2, none⟩ (.int .i64 ai)).setCell ⟨y, 3, none⟩ (.int .i64 al)).setCell ⟨y, 4, none⟩ (.int .i64 an)).setCell ⟨y, 5, none⟩ (.int .i64 ap)).setCell ⟨y, 6, none⟩ (.int .i64 ay)).setCell ⟨y, 7, none⟩ (.int .i64 aA)) w.heap.size (fun k_ => some k_ ≠ (.slice aE ak.length aG : Value).ownBlock ∧ some k_ ≠ (.slice ah I.length ag : Value).ownBlock) (.slice aC aj.length aD) aj) := ⟨Kd.R_mono (rt O.out z.out (by decide)) (fun _ hk => ⟨hk.1, hk.2⟩)⟩
    have bi : Aside0 (Kd.Q k36 36 ((((((((aX.setCell ⟨y, 0, none⟩ (.int .i64 aa)).setCell ⟨y, 1, none⟩ (.int .i64 af)).setCell ⟨y, 2, none⟩ (.int .i64 ai)).setCell ⟨y, 3, none⟩ (.int .i64 al)).setCell ⟨y, 4, none⟩ (.int .i64 an)).setCell ⟨y, 5, none⟩ (.int .i64 ap)).setCell ⟨y, 6, none⟩ (.int .i64 ay)).setCell ⟨y, 7, none⟩ (.int .i64 aA)) w.heap.size (fun k_ => some k_ ≠ (.slice ar Y.length au : Value).ownBlock ∧ some k_ ≠ (.slice ac D.length ab : Value).ownBlock) (.slice av Z.length aw) Z) := ⟨Kd.Q_mono (qt T.out z.out (by decide)) (fun _ hk => ⟨hk.1, hk.2⟩)⟩
    have bj : Aside0 (Kd.R k56 56 ((((((((aX.setCell ⟨y, 0, none⟩ (.int .i64 aa)).setCell ⟨y, 1, none⟩ (.int .i64 af)).setCell ⟨y, 2, none⟩ (.int .i64 ai)).setCell ⟨y, 3, none⟩ (.int .i64 al)).setCell ⟨y, 4, none⟩ (.int .i64 an)).setCell ⟨y, 5, none⟩ (.int .i64 ap)).setCell ⟨y, 6, none⟩ (.int .i64 ay)).setCell ⟨y, 7, none⟩ (.int .i64 aA)) w.heap.size (fun k_ => some k_ ≠ (.slice aC aj.length aD : Value).ownBlock ∧ some k_ ≠ (.slice ah I.length ag : Value).ownBlock) (.slice aE ak.length aG) ak) := ⟨Kd.R_mono (rt X.out z.out (by decide)) (fun _ hk => ⟨hk.1, hk.2⟩)⟩
    have bk : Aside0 (Kd.Q k36 36 ((((((((aX.setCell ⟨y, 0, none⟩ (.int .i64 aa)).setCell ⟨y, 1, none⟩ (.int .i64 af)).setCell ⟨y, 2, none⟩ (.int .i64 ai)).setCell ⟨y, 3, none⟩ (.int .i64 al)).setCell ⟨y, 4, none⟩ (.int .i64 an)).setCell ⟨y, 5, none⟩ (.int .i64 ap)).setCell ⟨y, 6, none⟩ (.int .i64 ay)).setCell ⟨y, 7, none⟩ (.int .i64 aA)) w.heap.size (fun k_ => some k_ ≠ (.slice ar Y.length au : Value).ownBlock ∧ some k_ ≠ (.slice av Z.length aw : Value).ownBlock) (.slice ac D.length ab) D) := ⟨Kd.Q_mono (qt ad.out z.out (by decide)) (fun _ hk => ⟨hk.1.2, hk.2⟩)⟩
    have bl : Aside0 (Kd.R k56 56 ((((((((aX.setCell ⟨y, 0, none⟩ (.int .i64 aa)).setCell ⟨y, 1, none⟩ (.int .i64 af)).setCell ⟨y, 2, none⟩ (.int .i64 ai)).setCell ⟨y, 3, none⟩ (.int .i64 al)).setCell ⟨y, 4, none⟩ (.int .i64 an)).setCell ⟨y, 5, none⟩ (.int .i64 ap)).setCell ⟨y, 6, none⟩ (.int .i64 ay)).setCell ⟨y, 7, none⟩ (.int .i64 aA)) w.heap.size (fun k_ => some k_ ≠ (.slice aC aj.length aD : Value).ownBlock ∧ some k_ ≠ (.slice aE ak.length aG : Value).ownBlock) (.slice ah I.length ag) I) := ⟨Kd.R_mono (rt ae.out z.out (by decide)) (fun _ hk => ⟨hk.1.2, hk.2⟩)⟩
    have bm : Aside0 (((((((((aX.setCell ⟨y, 0, none⟩ (.int .i64 aa)).setCell ⟨y, 1, none⟩ (.int .i64 af)).setCell ⟨y, 2, none⟩ (.int .i64 ai)).setCell ⟨y, 3, none⟩ (.int .i64 al)).setCell ⟨y, 4, none⟩ (.int .i64 an)).setCell ⟨y, 5, none⟩ (.int .i64 ap)).setCell ⟨y, 6, none⟩ (.int .i64 ay)).setCell ⟨y, 7, none⟩ (.int .i64 aA)).heap[a1]? = some (.cells #[.slice ar Y.length au, .slice aC aj.length aD] 34 (0, 0))) := ⟨bf J.out⟩
    have bn : Aside0 (((((((((aX.setCell ⟨y, 0, none⟩ (.int .i64 aa)).setCell ⟨y, 1, none⟩ (.int .i64 af)).setCell ⟨y, 2, none⟩ (.int .i64 ai)).setCell ⟨y, 3, none⟩ (.int .i64 al)).setCell ⟨y, 4, none⟩ (.int .i64 an)).setCell ⟨y, 5, none⟩ (.int .i64 ap)).setCell ⟨y, 6, none⟩ (.int .i64 ay)).setCell ⟨y, 7, none⟩ (.int .i64 aA)).heap[a2]? = some (.cells #[.slice av Z.length aw, .slice aE ak.length aG] 34 (0, 0))) := ⟨bf L.out⟩
    have bo : Aside0 (((((((((aX.setCell ⟨y, 0, none⟩ (.int .i64 aa)).setCell ⟨y, 1, none⟩ (.int .i64 af)).setCell ⟨y, 2, none⟩ (.int .i64 ai)).setCell ⟨y, 3, none⟩ (.int .i64 al)).setCell ⟨y, 4, none⟩ (.int .i64 an)).setCell ⟨y, 5, none⟩ (.int .i64 ap)).setCell ⟨y, 6, none⟩ (.int .i64 ay)).setCell ⟨y, 7, none⟩ (.int .i64 aA)).heap[a8]? = some (.cells #[.slice ac D.length ab, .slice ah I.length ag] 34 (0, 0))) := ⟨bf G.out⟩
    have br : Aside0 (((((((((aX.setCell ⟨y, 0, none⟩ (.int .i64 aa)).setCell ⟨y, 1, none⟩ (.int .i64 af)).setCell ⟨y, 2, none⟩ (.int .i64 ai)).setCell ⟨y, 3, none⟩ (.int .i64 al)).setCell ⟨y, 4, none⟩ (.int .i64 an)).setCell ⟨y, 5, none⟩ (.int .i64 ap)).setCell ⟨y, 6, none⟩ (.int .i64 ay)).setCell ⟨y, 7, none⟩ (.int .i64 aA)).heap[y]? = some (.cells #[.int .i64 aa, .int .i64 af, .int .i64 ai, .int .i64 al, .int .i64 an, .int .i64 ap, .int .i64 ay, .int .i64 aA] 58 (0, 0))) := ⟨by (with_reducible repeat (first | refine blk_drewN ?_ _ | refine blk_drew ?_ | refine blk_alloc ?_ _)); refine blk_put (cs := #[.int .i64 aa, .int .i64 af, .int .i64 ai, .int .i64 al, .int .i64 an, .int .i64 ap, .int .i64 ay, .int .i64 0]) ?_ 7 _ rfl; (with_reducible repeat (first | refine blk_drewN ?_ _ | refine blk_drew ?_ | refine blk_alloc ?_ _)); refine blk_put (cs := #[.int .i64 aa, .int .i64 af, .int .i64 ai, .int .i64 al, .int .i64 an, .int .i64 ap, .int .i64 0, .int .i64 0]) ?_ 6 _ rfl; (with_reducible repeat (first | refine blk_drewN ?_ _ | refine blk_drew ?_ | refine blk_alloc ?_ _)); refine blk_put (cs := #[.int .i64 aa, .int .i64 af, .int .i64 ai, .int .i64 al, .int .i64 an, .int .i64 0, .int .i64 0, .int .i64 0]) ?_ 5 _ rfl; (with_reducible repeat (first | refine blk_drewN ?_ _ | refine blk_drew ?_ | refine blk_alloc ?_ _)); refine blk_put (cs := #[.int .i64 aa, .int .i64 af, .int .i64 ai, .int .i64 al, .int .i64 0, .int .i64 0, .int .i64 0, .int .i64 0]) ?_ 4 _ rfl; (with_reducible repeat (first | refine blk_drewN ?_ _ | refine blk_drew ?_ | refine blk_alloc ?_ _)); refine blk_put (cs := #[.int .i64 aa, .int .i64 af, .int .i64 ai, .int .i64 0, .int .i64 0, .int .i64 0, .int .i64 0, .int .i64 0]) ?_ 3 _ rfl; (with_reducible repeat (first | refine blk_drewN ?_ _ | refine blk_drew ?_ | refine blk_alloc ?_ _)); refine blk_put (cs := #[.int .i64 aa, .int .i64 af, .int .i64 0, .int .i64 0, .int .i64 0, .int .i64 0, .int .i64 0, .int .i64 0]) ?_ 2 _ rfl; (with_reducible repeat (first | refine blk_drewN ?_ _ | refine blk_drew ?_ | refine blk_alloc ?_ _)); refine blk_put (cs := #[.int .i64 aa, .int .i64 0, .int .i64 0, .int .i64 0, .int .i64 0, .int .i64 0, .int .i64 0, .int .i64 0]) ?_ 1 _ rfl; (with_reducible repeat (first | refine blk_drewN ?_ _ | refine blk_drew ?_ | refine blk_alloc ?_ _)); refine blk_put (cs := #[.int .i64 0, .int .i64 0, .int .i64 0, .int .i64 0, .int .i64 0, .int .i64 0, .int .i64 0, .int .i64 0]) ?_ 0 _ rfl; exact bf z.out⟩
    have bt : Aside0 (Below w.heap.size w ((((((((aX.setCell ⟨y, 0, none⟩ (.int .i64 aa)).setCell ⟨y, 1, none⟩ (.int .i64 af)).setCell ⟨y, 2, none⟩ (.int .i64 ai)).setCell ⟨y, 3, none⟩ (.int .i64 al)).setCell ⟨y, 4, none⟩ (.int .i64 an)).setCell ⟨y, 5, none⟩ (.int .i64 ap)).setCell ⟨y, 6, none⟩ (.int .i64 ay)).setCell ⟨y, 7, none⟩ (.int .i64 aA))) := ⟨bs HB.out⟩
    (try clear M)
    (try clear O)
    (try clear T)
    (try clear X)
    (try clear ad)
    (try clear ae)
    (try clear J)
    (try clear L)
    (try clear G)
    (try clear z)
    (try clear HB)
    generalize ((((((((aX.setCell ⟨y, 0, none⟩ (.int .i64 aa)).setCell ⟨y, 1, none⟩ (.int .i64 af)).setCell ⟨y, 2, none⟩ (.int .i64 ai)).setCell ⟨y, 3, none⟩ (.int .i64 al)).setCell ⟨y, 4, none⟩ (.int .i64 an)).setCell ⟨y, 5, none⟩ (.int .i64 ap)).setCell ⟨y, 6, none⟩ (.int .i64 ay)).setCell ⟨y, 7, none⟩ (.int .i64 aA)) = fh at bg bh bi bj bk bl bm bn bo br bt ⊢
    have M := bg
    have O := bh
    have T := bi
    have X := bj
    have ad := bk
    have ae := bl
    have J := bm
    have L := bn
    have G := bo
    have z := br
    have HB := bt
    clear bg bh bi bj bk bl bm bn bo br bt
    replace M := rd_ M
    replace O := rd_ O
    replace T := qd T
    replace X := rd_ X
    replace ad := qd ad
    replace ae := rd_ ae
    replace J := bd J
    replace L := bd L
    replace G := bd G
    replace z := bd z
    replace HB := hd HB
    refine sta 41 (fun w' => w'.cell? ⟨a1, 0, none⟩ = some (.slice ar Y.length au) ∧ w'.cell? ⟨a1, 1, none⟩ = some (.slice aC aj.length aD) ∧ w'.cell? ⟨a2, 0, none⟩ = some (.slice av Z.length aw) ∧ w'.cell? ⟨a2, 1, none⟩ = some (.slice aE ak.length aG)) [] ⟨cx J 0, cx J 1, cx L 0, cx L 1⟩ (fun hHeld => ?_); refine with_tabW laws_FnGraphBent.tab6 laws_FnGraphBent.bits6 (fun HT_ HW_ => ?_)
    generalize fh.drew = gU at M O T X ad ae J L G z HB hHeld ⊢
    refine tk 0 22 ?_
    refine tk 1 23 ?_
    refine tk 3 25 ?_
    refine tk 4 26 ?_
    refine on 2 24 (fun K hK => ?_)
    refine gs Try.func41 #[.agg #[.slice ar Y.length au, .slice aC aj.length aD], .agg #[.slice av Z.length aw, .slice aE ak.length aG]] ?_
    with_reducible refine (impl_GraphSame.calls k _ _ Y _ _ aj _ _ Z _ _ ak bV _ ?aK ?aM ?aU ?aV ?a4 ?a5 ?a6 ?a7 b7.out).mono ?_
    (case aK => exact cr M)
    (case aM => exact cc M)
    (case aU => exact cr O)
    (case aV => exact cc O)
    (case a4 => exact cq T)
    (case a5 => exact cd T)
    (case a6 => exact cr X)
    (case a7 => exact cc X)
    rintro e gV ⟨rfl, hb⟩
    refine ⟨_, rfl, ?_⟩
    replace M := rb M hb
    replace O := rb O hb
    replace T := qb T hb
    replace X := rb X hb
    replace ad := qb ad hb
    replace ae := rb ae hb
    replace J := bb J hb rfl
    replace L := bb L hb rfl
    replace G := bb G hb rfl
    replace z := bb z hb rfl
    replace HB := hs HB hb
    (try clear hb)
    (try clear hb2)
    (try clear hk)
    (try clear hi)
    refine hK.out _ _ ⟨cx J 0, cx J 1, cx L 0, cx L 1⟩ (fun hHeld => ?_)
    clear hK K
    refine nrm 24 ?_
    refine on 5 27 (fun K hK => ?_)
    refine gs Try.func42 #[.agg #[.slice ar Y.length au, .slice aC aj.length aD], .agg #[.slice av Z.length aw, .slice aE ak.length aG]] ?_
    with_reducible refine (spec_GraphSame.calls k _ _ Y _ _ aj _ _ Z _ _ ak bW _ ?aK ?aM ?aU ?aV ?a4 ?a5 ?a6 ?a7 ct.out).mono ?_
    (case aK => exact cr M)
    (case aM => exact cc M)
    (case aU => exact cr O)
    (case aV => exact cc O)
    (case a4 => exact cq T)
    (case a5 => exact cd T)
    (case a6 => exact cr X)
    (case a7 => exact cc X)
    rintro e gW ⟨rfl, hb⟩
    refine ⟨_, rfl, ?_⟩
    replace M := rb M hb
    replace O := rb O hb
    replace T := qb T hb
    replace X := rb X hb
    replace ad := qb ad hb
    replace ae := rb ae hb
    replace J := bb J hb rfl
    replace L := bb L hb rfl
    replace G := bb G hb rfl
    replace z := bb z hb rfl
    replace HB := hs HB hb
    (try clear hb)
    (try clear hb2)
    (try clear hk)
    (try clear hi)
    refine hK.out _ _ ⟨cx J 0, cx J 1, cx L 0, cx L 1⟩ (fun hHeld => ?_)
    clear hK K
    refine nrm 27 ?_
    refine pu 6 28 ?_
    refine pu 7 29 ?_
    refine ud 8 30 ?_
    refine ud 9 31 ?_
    refine ud 10 32 ?_
    refine ud 11 33 ?_
    refine ud 12 34 ?_
    refine ud 13 35 ?_
    refine ud 14 36 ?_
    refine pu 15 37 ?_
    refine pu 16 38 ?_
    refine ud 17 39 ?_
    refine ud 18 40 ?_
    refine ud 19 41 ?_
    refine ud 20 42 ?_
    refine pu 21 43 ?_
    refine pu 22 44 ?_
    refine ud 23 45 ?_
    refine ud 24 46 ?_
    refine ud 25 47 ?_
    refine ud 26 48 ?_
    refine ud 27 49 ?_
    refine pu 28 50 ?_
    refine pu 29 51 ?_
    refine ud 30 52 ?_
    refine ud 31 53 ?_
    refine ud 32 54 ?_
    refine ud 33 55 ?_
    refine ud 34 56 ?_
    refine pu 35 57 ?_
    refine pu 36 58 ?_
    refine ud 37 59 ?_
    refine ud 38 60 ?_
    refine ud 39 61 ?_
    refine pu 40 62 ?_
    refine dn ?_
    try go_wp2
    go_meet
    case rel => exact ⟨_, (true), eqs, H', ⟨by first | omega | exact Nat.le_refl _⟩, ⟨rl M.out⟩, ⟨rl O.out⟩, ⟨qf T.out⟩, ⟨rl X.out⟩, ⟨qf ad.out⟩, ⟨rl ae.out⟩, ⟨bf J.out⟩, ⟨bf L.out⟩, ⟨bf G.out⟩, ⟨bf z.out⟩, ⟨bs HB.out⟩⟩
   ·rw [if_neg b4] at H
    have cz : (bV != bW) = false := by simpa using b4
    (try (have ff : decide (bV = bW) = true := by simpa using b4))
    (try (have fg : (bV == bW) = true := by simpa using b4))
    clear b4
    (first | rw [cz] | (simp only [i64_w, i32_w]; rw [cz]) | skip)
    replace H := Option.bind_eq_some_iff.mp H
    obtain ⟨bZ, ef, H⟩ := H
    try dsimp -simprocs only at H
    have cA := am ef
    clear ef
    replace H := Option.bind_eq_some_iff.mp H
    obtain ⟨b0, eg, H⟩ := H
    try dsimp -simprocs only at H
    have cB := am eg
    clear eg
    by_cases b5 : (bZ != b0) = true
    ·rw [if_pos b5] at H
     have fi : (bZ != b0) = true := b5
     (try (have fj : decide (bZ = b0) = false := by simpa using b5))
     (try (have fk : (bZ == b0) = false := by simpa using b5))
     (try (have gX : ¬ (bZ = b0) := by simpa using b5))
     clear b5
     have H' := am H
     clear H
     try go_wp2
     have bg : Aside0 (Kd.R k36 36 ((((((((aX.setCell ⟨y, 0, none⟩ (.int .i64 aa)).setCell ⟨y, 1, none⟩ (.int .i64 af)).setCell ⟨y, 2, none⟩ (.int .i64 ai)).setCell ⟨y, 3, none⟩ (.int .i64 al)).setCell ⟨y, 4, none⟩ (.int .i64 an)).setCell ⟨y, 5, none⟩ (.int .i64 ap)).setCell ⟨y, 6, none⟩ (.int .i64 ay)).setCell ⟨y, 7, none⟩ (.int .i64 aA)) w.heap.size (fun k_ => some k_ ≠ (.slice av Z.length aw : Value).ownBlock ∧ some k_ ≠ (.slice ac D.length ab : Value).ownBlock) (.slice ar Y.length au) Y) := ⟨Kd.R_mono (rt M.out z.out (by decide)) (fun _ hk => ⟨hk.1, hk.2⟩)⟩
     have bh : Aside0 (Kd.R k56 56 ((((((((aX.setCell ⟨y, 0, none⟩ (.int .i64 aa)).setCell ⟨y, 1, none⟩ (.int .i64 af)).setCell ⟨y, 2, none⟩ (.int .i64 ai)).setCell ⟨y, 3, none⟩ (.int .i64 al)).setCell ⟨y, 4, none⟩ (.int .i64 an)).setCell ⟨y, 5, none⟩ (.int .i64 ap)).setCell ⟨y, 6, none⟩ (.int .i64 ay)).setCell ⟨y, 7, none⟩ (.int .i64 aA)) w.heap.size (fun k_ => some k_ ≠ (.slice aE ak.length aG : Value).ownBlock ∧ some k_ ≠ (.slice ah I.length ag : Value).ownBlock) (.slice aC aj.length aD) aj) := ⟨Kd.R_mono (rt O.out z.out (by decide)) (fun _ hk => ⟨hk.1, hk.2⟩)⟩
     have bi : Aside0 (Kd.Q k36 36 ((((((((aX.setCell ⟨y, 0, none⟩ (.int .i64 aa)).setCell ⟨y, 1, none⟩ (.int .i64 af)).setCell ⟨y, 2, none⟩ (.int .i64 ai)).setCell ⟨y, 3, none⟩ (.int .i64 al)).setCell ⟨y, 4, none⟩ (.int .i64 an)).setCell ⟨y, 5, none⟩ (.int .i64 ap)).setCell ⟨y, 6, none⟩ (.int .i64 ay)).setCell ⟨y, 7, none⟩ (.int .i64 aA)) w.heap.size (fun k_ => some k_ ≠ (.slice ar Y.length au : Value).ownBlock ∧ some k_ ≠ (.slice ac D.length ab : Value).ownBlock) (.slice av Z.length aw) Z) := ⟨Kd.Q_mono (qt T.out z.out (by decide)) (fun _ hk => ⟨hk.1, hk.2⟩)⟩
     have bj : Aside0 (Kd.R k56 56 ((((((((aX.setCell ⟨y, 0, none⟩ (.int .i64 aa)).setCell ⟨y, 1, none⟩ (.int .i64 af)).setCell ⟨y, 2, none⟩ (.int .i64 ai)).setCell ⟨y, 3, none⟩ (.int .i64 al)).setCell ⟨y, 4, none⟩ (.int .i64 an)).setCell ⟨y, 5, none⟩ (.int .i64 ap)).setCell ⟨y, 6, none⟩ (.int .i64 ay)).setCell ⟨y, 7, none⟩ (.int .i64 aA)) w.heap.size (fun k_ => some k_ ≠ (.slice aC aj.length aD : Value).ownBlock ∧ some k_ ≠ (.slice ah I.length ag : Value).ownBlock) (.slice aE ak.length aG) ak) := ⟨Kd.R_mono (rt X.out z.out (by decide)) (fun _ hk => ⟨hk.1, hk.2⟩)⟩
     have bk : Aside0 (Kd.Q k36 36 ((((((((aX.setCell ⟨y, 0, none⟩ (.int .i64 aa)).setCell ⟨y, 1, none⟩ (.int .i64 af)).setCell ⟨y, 2, none⟩ (.int .i64 ai)).setCell ⟨y, 3, none⟩ (.int .i64 al)).setCell ⟨y, 4, none⟩ (.int .i64 an)).setCell ⟨y, 5, none⟩ (.int .i64 ap)).setCell ⟨y, 6, none⟩ (.int .i64 ay)).setCell ⟨y, 7, none⟩ (.int .i64 aA)) w.heap.size (fun k_ => some k_ ≠ (.slice ar Y.length au : Value).ownBlock ∧ some k_ ≠ (.slice av Z.length aw : Value).ownBlock) (.slice ac D.length ab) D) := ⟨Kd.Q_mono (qt ad.out z.out (by decide)) (fun _ hk => ⟨hk.1.2, hk.2⟩)⟩
     have bl : Aside0 (Kd.R k56 56 ((((((((aX.setCell ⟨y, 0, none⟩ (.int .i64 aa)).setCell ⟨y, 1, none⟩ (.int .i64 af)).setCell ⟨y, 2, none⟩ (.int .i64 ai)).setCell ⟨y, 3, none⟩ (.int .i64 al)).setCell ⟨y, 4, none⟩ (.int .i64 an)).setCell ⟨y, 5, none⟩ (.int .i64 ap)).setCell ⟨y, 6, none⟩ (.int .i64 ay)).setCell ⟨y, 7, none⟩ (.int .i64 aA)) w.heap.size (fun k_ => some k_ ≠ (.slice aC aj.length aD : Value).ownBlock ∧ some k_ ≠ (.slice aE ak.length aG : Value).ownBlock) (.slice ah I.length ag) I) := ⟨Kd.R_mono (rt ae.out z.out (by decide)) (fun _ hk => ⟨hk.1.2, hk.2⟩)⟩
     have bm : Aside0 (((((((((aX.setCell ⟨y, 0, none⟩ (.int .i64 aa)).setCell ⟨y, 1, none⟩ (.int .i64 af)).setCell ⟨y, 2, none⟩ (.int .i64 ai)).setCell ⟨y, 3, none⟩ (.int .i64 al)).setCell ⟨y, 4, none⟩ (.int .i64 an)).setCell ⟨y, 5, none⟩ (.int .i64 ap)).setCell ⟨y, 6, none⟩ (.int .i64 ay)).setCell ⟨y, 7, none⟩ (.int .i64 aA)).heap[a1]? = some (.cells #[.slice ar Y.length au, .slice aC aj.length aD] 34 (0, 0))) := ⟨bf J.out⟩
     have bn : Aside0 (((((((((aX.setCell ⟨y, 0, none⟩ (.int .i64 aa)).setCell ⟨y, 1, none⟩ (.int .i64 af)).setCell ⟨y, 2, none⟩ (.int .i64 ai)).setCell ⟨y, 3, none⟩ (.int .i64 al)).setCell ⟨y, 4, none⟩ (.int .i64 an)).setCell ⟨y, 5, none⟩ (.int .i64 ap)).setCell ⟨y, 6, none⟩ (.int .i64 ay)).setCell ⟨y, 7, none⟩ (.int .i64 aA)).heap[a2]? = some (.cells #[.slice av Z.length aw, .slice aE ak.length aG] 34 (0, 0))) := ⟨bf L.out⟩
     have bo : Aside0 (((((((((aX.setCell ⟨y, 0, none⟩ (.int .i64 aa)).setCell ⟨y, 1, none⟩ (.int .i64 af)).setCell ⟨y, 2, none⟩ (.int .i64 ai)).setCell ⟨y, 3, none⟩ (.int .i64 al)).setCell ⟨y, 4, none⟩ (.int .i64 an)).setCell ⟨y, 5, none⟩ (.int .i64 ap)).setCell ⟨y, 6, none⟩ (.int .i64 ay)).setCell ⟨y, 7, none⟩ (.int .i64 aA)).heap[a8]? = some (.cells #[.slice ac D.length ab, .slice ah I.length ag] 34 (0, 0))) := ⟨bf G.out⟩
     have br : Aside0 (((((((((aX.setCell ⟨y, 0, none⟩ (.int .i64 aa)).setCell ⟨y, 1, none⟩ (.int .i64 af)).setCell ⟨y, 2, none⟩ (.int .i64 ai)).setCell ⟨y, 3, none⟩ (.int .i64 al)).setCell ⟨y, 4, none⟩ (.int .i64 an)).setCell ⟨y, 5, none⟩ (.int .i64 ap)).setCell ⟨y, 6, none⟩ (.int .i64 ay)).setCell ⟨y, 7, none⟩ (.int .i64 aA)).heap[y]? = some (.cells #[.int .i64 aa, .int .i64 af, .int .i64 ai, .int .i64 al, .int .i64 an, .int .i64 ap, .int .i64 ay, .int .i64 aA] 58 (0, 0))) := ⟨by (with_reducible repeat (first | refine blk_drewN ?_ _ | refine blk_drew ?_ | refine blk_alloc ?_ _)); refine blk_put (cs := #[.int .i64 aa, .int .i64 af, .int .i64 ai, .int .i64 al, .int .i64 an, .int .i64 ap, .int .i64 ay, .int .i64 0]) ?_ 7 _ rfl; (with_reducible repeat (first | refine blk_drewN ?_ _ | refine blk_drew ?_ | refine blk_alloc ?_ _)); refine blk_put (cs := #[.int .i64 aa, .int .i64 af, .int .i64 ai, .int .i64 al, .int .i64 an, .int .i64 ap, .int .i64 0, .int .i64 0]) ?_ 6 _ rfl; (with_reducible repeat (first | refine blk_drewN ?_ _ | refine blk_drew ?_ | refine blk_alloc ?_ _)); refine blk_put (cs := #[.int .i64 aa, .int .i64 af, .int .i64 ai, .int .i64 al, .int .i64 an, .int .i64 0, .int .i64 0, .int .i64 0]) ?_ 5 _ rfl; (with_reducible repeat (first | refine blk_drewN ?_ _ | refine blk_drew ?_ | refine blk_alloc ?_ _)); refine blk_put (cs := #[.int .i64 aa, .int .i64 af, .int .i64 ai, .int .i64 al, .int .i64 0, .int .i64 0, .int .i64 0, .int .i64 0]) ?_ 4 _ rfl; (with_reducible repeat (first | refine blk_drewN ?_ _ | refine blk_drew ?_ | refine blk_alloc ?_ _)); refine blk_put (cs := #[.int .i64 aa, .int .i64 af, .int .i64 ai, .int .i64 0, .int .i64 0, .int .i64 0, .int .i64 0, .int .i64 0]) ?_ 3 _ rfl; (with_reducible repeat (first | refine blk_drewN ?_ _ | refine blk_drew ?_ | refine blk_alloc ?_ _)); refine blk_put (cs := #[.int .i64 aa, .int .i64 af, .int .i64 0, .int .i64 0, .int .i64 0, .int .i64 0, .int .i64 0, .int .i64 0]) ?_ 2 _ rfl; (with_reducible repeat (first | refine blk_drewN ?_ _ | refine blk_drew ?_ | refine blk_alloc ?_ _)); refine blk_put (cs := #[.int .i64 aa, .int .i64 0, .int .i64 0, .int .i64 0, .int .i64 0, .int .i64 0, .int .i64 0, .int .i64 0]) ?_ 1 _ rfl; (with_reducible repeat (first | refine blk_drewN ?_ _ | refine blk_drew ?_ | refine blk_alloc ?_ _)); refine blk_put (cs := #[.int .i64 0, .int .i64 0, .int .i64 0, .int .i64 0, .int .i64 0, .int .i64 0, .int .i64 0, .int .i64 0]) ?_ 0 _ rfl; exact bf z.out⟩
     have bt : Aside0 (Below w.heap.size w ((((((((aX.setCell ⟨y, 0, none⟩ (.int .i64 aa)).setCell ⟨y, 1, none⟩ (.int .i64 af)).setCell ⟨y, 2, none⟩ (.int .i64 ai)).setCell ⟨y, 3, none⟩ (.int .i64 al)).setCell ⟨y, 4, none⟩ (.int .i64 an)).setCell ⟨y, 5, none⟩ (.int .i64 ap)).setCell ⟨y, 6, none⟩ (.int .i64 ay)).setCell ⟨y, 7, none⟩ (.int .i64 aA))) := ⟨bs HB.out⟩
     (try clear M)
     (try clear O)
     (try clear T)
     (try clear X)
     (try clear ad)
     (try clear ae)
     (try clear J)
     (try clear L)
     (try clear G)
     (try clear z)
     (try clear HB)
     generalize ((((((((aX.setCell ⟨y, 0, none⟩ (.int .i64 aa)).setCell ⟨y, 1, none⟩ (.int .i64 af)).setCell ⟨y, 2, none⟩ (.int .i64 ai)).setCell ⟨y, 3, none⟩ (.int .i64 al)).setCell ⟨y, 4, none⟩ (.int .i64 an)).setCell ⟨y, 5, none⟩ (.int .i64 ap)).setCell ⟨y, 6, none⟩ (.int .i64 ay)).setCell ⟨y, 7, none⟩ (.int .i64 aA)) = fl at bg bh bi bj bk bl bm bn bo br bt ⊢
     have M := bg
     have O := bh
     have T := bi
     have X := bj
     have ad := bk
     have ae := bl
     have J := bm
     have L := bn
     have G := bo
     have z := br
     have HB := bt
     clear bg bh bi bj bk bl bm bn bo br bt
     replace M := rd_ M
     replace O := rd_ O
     replace T := qd T
     replace X := rd_ X
     replace ad := qd ad
     replace ae := rd_ ae
     replace J := bd J
     replace L := bd L
     replace G := bd G
     replace z := bd z
     replace HB := hd HB
     refine sta 41 (fun w' => w'.cell? ⟨a1, 0, none⟩ = some (.slice ar Y.length au) ∧ w'.cell? ⟨a1, 1, none⟩ = some (.slice aC aj.length aD) ∧ w'.cell? ⟨a2, 0, none⟩ = some (.slice av Z.length aw) ∧ w'.cell? ⟨a2, 1, none⟩ = some (.slice aE ak.length aG)) [] ⟨cx J 0, cx J 1, cx L 0, cx L 1⟩ (fun hHeld => ?_); refine with_tabW laws_FnGraphBent.tab6 laws_FnGraphBent.bits6 (fun HT_ HW_ => ?_)
     generalize fl.drew = gY at M O T X ad ae J L G z HB hHeld ⊢
     refine tk 0 22 ?_
     refine tk 1 23 ?_
     refine tk 3 25 ?_
     refine tk 4 26 ?_
     refine on 2 24 (fun K hK => ?_)
     refine gs Try.func41 #[.agg #[.slice ar Y.length au, .slice aC aj.length aD], .agg #[.slice av Z.length aw, .slice aE ak.length aG]] ?_
     with_reducible refine (impl_GraphSame.calls k _ _ Y _ _ aj _ _ Z _ _ ak bV _ ?aK ?aM ?aU ?aV ?a4 ?a5 ?a6 ?a7 b7.out).mono ?_
     (case aK => exact cr M)
     (case aM => exact cc M)
     (case aU => exact cr O)
     (case aV => exact cc O)
     (case a4 => exact cq T)
     (case a5 => exact cd T)
     (case a6 => exact cr X)
     (case a7 => exact cc X)
     rintro e gZ ⟨rfl, hb⟩
     refine ⟨_, rfl, ?_⟩
     replace M := rb M hb
     replace O := rb O hb
     replace T := qb T hb
     replace X := rb X hb
     replace ad := qb ad hb
     replace ae := rb ae hb
     replace J := bb J hb rfl
     replace L := bb L hb rfl
     replace G := bb G hb rfl
     replace z := bb z hb rfl
     replace HB := hs HB hb
     (try clear hb)
     (try clear hb2)
     (try clear hk)
     (try clear hi)
     refine hK.out _ _ ⟨cx J 0, cx J 1, cx L 0, cx L 1⟩ (fun hHeld => ?_)
     clear hK K
     refine nrm 24 ?_
     refine on 5 27 (fun K hK => ?_)
     refine gs Try.func42 #[.agg #[.slice ar Y.length au, .slice aC aj.length aD], .agg #[.slice av Z.length aw, .slice aE ak.length aG]] ?_
     with_reducible refine (spec_GraphSame.calls k _ _ Y _ _ aj _ _ Z _ _ ak bW _ ?aK ?aM ?aU ?aV ?a4 ?a5 ?a6 ?a7 ct.out).mono ?_
     (case aK => exact cr M)
     (case aM => exact cc M)
     (case aU => exact cr O)
     (case aV => exact cc O)
     (case a4 => exact cq T)
     (case a5 => exact cd T)
     (case a6 => exact cr X)
     (case a7 => exact cc X)
     rintro e g0 ⟨rfl, hb⟩
     refine ⟨_, rfl, ?_⟩
     replace M := rb M hb
     replace O := rb O hb
     replace T := qb T hb
     replace X := rb X hb
     replace ad := qb ad hb
     replace ae := rb ae hb
     replace J := bb J hb rfl
     replace L := bb L hb rfl
     replace G := bb G hb rfl
     replace z := bb z hb rfl
     replace HB := hs HB hb
     (try clear hb)
     (try clear hb2)
     (try clear hk)
     (try clear hi)
     refine hK.out _ _ ⟨cx J 0, cx J 1, cx L 0, cx L 1⟩ (fun hHeld => ?_)
     clear hK K
     refine nrm 27 ?_
     refine pu 6 28 ?_
     refine pu 7 29 ?_
     refine tk 8 30 ?_
     refine tk 9 31 ?_
     refine tk 11 33 ?_
     refine tk 12 34 ?_
     refine on 10 32 (fun K hK => ?_)
     refine gs Try.func41 #[.agg #[.slice ar Y.length au, .slice aC aj.length aD], .agg #[.slice av Z.length aw, .slice aE ak.length aG]] ?_
     with_reducible refine (impl_GraphSame.calls k _ _ Y _ _ aj _ _ Z _ _ ak bZ _ ?aK ?aM ?aU ?aV ?a4 ?a5 ?a6 ?a7 cA.out).mono ?_
     (case aK => exact cr M)
     (case aM => exact cc M)
     (case aU => exact cr O)
     (case aV => exact cc O)
     (case a4 => exact cq T)
     (case a5 => exact cd T)
     (case a6 => exact cr X)
     (case a7 => exact cc X)
     rintro e g1 ⟨rfl, hb⟩
     refine ⟨_, rfl, ?_⟩
     replace M := rb M hb
     replace O := rb O hb
     replace T := qb T hb
     replace X := rb X hb
     replace ad := qb ad hb
     replace ae := rb ae hb
     replace J := bb J hb rfl
     replace L := bb L hb rfl
     replace G := bb G hb rfl
     replace z := bb z hb rfl
     replace HB := hs HB hb
     (try clear hb)
     (try clear hb2)
     (try clear hk)
     (try clear hi)
     refine hK.out _ _ ⟨cx J 0, cx J 1, cx L 0, cx L 1⟩ (fun hHeld => ?_)
     clear hK K
     refine nrm 32 ?_
     refine on 13 35 (fun K hK => ?_)
     refine gs Try.func41 #[.agg #[.slice av Z.length aw, .slice aE ak.length aG], .agg #[.slice ar Y.length au, .slice aC aj.length aD]] ?_
     with_reducible refine (impl_GraphSame.calls k _ _ Z _ _ ak _ _ Y _ _ aj b0 _ ?aK ?aM ?aU ?aV ?a4 ?a5 ?a6 ?a7 cB.out).mono ?_
     (case aK => exact cq T)
     (case aM => exact cd T)
     (case aU => exact cr X)
     (case aV => exact cc X)
     (case a4 => exact cr M)
     (case a5 => exact cc M)
     (case a6 => exact cr O)
     (case a7 => exact cc O)
     rintro e g2 ⟨rfl, hb⟩
     refine ⟨_, rfl, ?_⟩
     replace M := rb M hb
     replace O := rb O hb
     replace T := qb T hb
     replace X := rb X hb
     replace ad := qb ad hb
     replace ae := rb ae hb
     replace J := bb J hb rfl
     replace L := bb L hb rfl
     replace G := bb G hb rfl
     replace z := bb z hb rfl
     replace HB := hs HB hb
     (try clear hb)
     (try clear hb2)
     (try clear hk)
     (try clear hi)
     refine hK.out _ _ ⟨cx J 0, cx J 1, cx L 0, cx L 1⟩ (fun hHeld => ?_)
     clear hK K
     refine nrm 35 ?_
     refine pu 14 36 ?_
     refine pu 15 37 ?_
     refine pu 16 38 ?_
     refine ud 17 39 ?_
     refine ud 18 40 ?_
     refine ud 19 41 ?_
     refine ud 20 42 ?_
     refine pu 21 43 ?_
     refine pu 22 44 ?_
     refine ud 23 45 ?_
     refine ud 24 46 ?_
     refine ud 25 47 ?_
     refine ud 26 48 ?_
     refine ud 27 49 ?_
     refine pu 28 50 ?_
     refine pu 29 51 ?_
     refine ud 30 52 ?_
     refine ud 31 53 ?_
     refine ud 32 54 ?_
     refine ud 33 55 ?_
     refine ud 34 56 ?_
     refine pu 35 57 ?_
     refine pu 36 58 ?_
     refine ud 37 59 ?_
     refine ud 38 60 ?_
     refine ud 39 61 ?_
     refine pu 40 62 ?_
     refine dn ?_
     try go_wp2
     go_meet
     case rel => exact ⟨_, (true), eqs, H', ⟨by first | omega | exact Nat.le_refl _⟩, ⟨rl M.out⟩, ⟨rl O.out⟩, ⟨qf T.out⟩, ⟨rl X.out⟩, ⟨qf ad.out⟩, ⟨rl ae.out⟩, ⟨bf J.out⟩, ⟨bf L.out⟩, ⟨bf G.out⟩, ⟨bf z.out⟩, ⟨bs HB.out⟩⟩
    ·rw [if_neg b5] at H
     have fi : (bZ != b0) = false := by simpa using b5
     (try (have fj : decide (bZ = b0) = true := by simpa using b5))
     (try (have fk : (bZ == b0) = true := by simpa using b5))
     clear b5
     replace H := Option.bind_eq_some_iff.mp H
     obtain ⟨fm, eh, H⟩ := H
     try dsimp -simprocs only at H
     have cT := am eh
     clear eh
     by_cases cU : fm = true
     ·subst cU
      replace H : ((impl_GraphOk.f k D I).bind fun b1 => ((spec_GraphOk.f k D I).bind fun b2 => (if (b1 != b2) = true then (laws_FnGraphBent.j0 k true D I) else ((impl_OpLabel.f k aa af ai al an ap ay aA).bind fun b8 => ((spec_OpLabel.f k aa af ai al an ap ay aA).bind fun b9 => (if b8 = b9 then ((impl_GraphOk.f k ([] : List (S36)) ([] : List (S56))).bind fun cV => (laws_FnGraphBent.j0 k (!cV) D I)) else (laws_FnGraphBent.j0 k true D I))))))) = some r := by rw [if_pos rfl] at H; exact H
      replace H := Option.bind_eq_some_iff.mp H
      obtain ⟨b1, ei, H⟩ := H
      try dsimp -simprocs only at H
      have dk := am ei
      clear ei
      replace H := Option.bind_eq_some_iff.mp H
      obtain ⟨b2, ej, H⟩ := H
      try dsimp -simprocs only at H
      have dl := am ej
      clear ej
      by_cases b6 : (b1 != b2) = true
      ·rw [if_pos b6] at H
       have fo : (b1 != b2) = true := b6
       (try (have fp : decide (b1 = b2) = false := by simpa using b6))
       (try (have fq : (b1 == b2) = false := by simpa using b6))
       (try (have g3 : ¬ (b1 = b2) := by simpa using b6))
       clear b6
       have H' := am H
       clear H
       try go_wp2
       have bg : Aside0 (Kd.R k36 36 ((((((((aX.setCell ⟨y, 0, none⟩ (.int .i64 aa)).setCell ⟨y, 1, none⟩ (.int .i64 af)).setCell ⟨y, 2, none⟩ (.int .i64 ai)).setCell ⟨y, 3, none⟩ (.int .i64 al)).setCell ⟨y, 4, none⟩ (.int .i64 an)).setCell ⟨y, 5, none⟩ (.int .i64 ap)).setCell ⟨y, 6, none⟩ (.int .i64 ay)).setCell ⟨y, 7, none⟩ (.int .i64 aA)) w.heap.size (fun k_ => some k_ ≠ (.slice av Z.length aw : Value).ownBlock ∧ some k_ ≠ (.slice ac D.length ab : Value).ownBlock) (.slice ar Y.length au) Y) := ⟨Kd.R_mono (rt M.out z.out (by decide)) (fun _ hk => ⟨hk.1, hk.2⟩)⟩
       have bh : Aside0 (Kd.R k56 56 ((((((((aX.setCell ⟨y, 0, none⟩ (.int .i64 aa)).setCell ⟨y, 1, none⟩ (.int .i64 af)).setCell ⟨y, 2, none⟩ (.int .i64 ai)).setCell ⟨y, 3, none⟩ (.int .i64 al)).setCell ⟨y, 4, none⟩ (.int .i64 an)).setCell ⟨y, 5, none⟩ (.int .i64 ap)).setCell ⟨y, 6, none⟩ (.int .i64 ay)).setCell ⟨y, 7, none⟩ (.int .i64 aA)) w.heap.size (fun k_ => some k_ ≠ (.slice aE ak.length aG : Value).ownBlock ∧ some k_ ≠ (.slice ah I.length ag : Value).ownBlock) (.slice aC aj.length aD) aj) := ⟨Kd.R_mono (rt O.out z.out (by decide)) (fun _ hk => ⟨hk.1, hk.2⟩)⟩
       have bi : Aside0 (Kd.Q k36 36 ((((((((aX.setCell ⟨y, 0, none⟩ (.int .i64 aa)).setCell ⟨y, 1, none⟩ (.int .i64 af)).setCell ⟨y, 2, none⟩ (.int .i64 ai)).setCell ⟨y, 3, none⟩ (.int .i64 al)).setCell ⟨y, 4, none⟩ (.int .i64 an)).setCell ⟨y, 5, none⟩ (.int .i64 ap)).setCell ⟨y, 6, none⟩ (.int .i64 ay)).setCell ⟨y, 7, none⟩ (.int .i64 aA)) w.heap.size (fun k_ => some k_ ≠ (.slice ar Y.length au : Value).ownBlock ∧ some k_ ≠ (.slice ac D.length ab : Value).ownBlock) (.slice av Z.length aw) Z) := ⟨Kd.Q_mono (qt T.out z.out (by decide)) (fun _ hk => ⟨hk.1, hk.2⟩)⟩
       have bj : Aside0 (Kd.R k56 56 ((((((((aX.setCell ⟨y, 0, none⟩ (.int .i64 aa)).setCell ⟨y, 1, none⟩ (.int .i64 af)).setCell ⟨y, 2, none⟩ (.int .i64 ai)).setCell ⟨y, 3, none⟩ (.int .i64 al)).setCell ⟨y, 4, none⟩ (.int .i64 an)).setCell ⟨y, 5, none⟩ (.int .i64 ap)).setCell ⟨y, 6, none⟩ (.int .i64 ay)).setCell ⟨y, 7, none⟩ (.int .i64 aA)) w.heap.size (fun k_ => some k_ ≠ (.slice aC aj.length aD : Value).ownBlock ∧ some k_ ≠ (.slice ah I.length ag : Value).ownBlock) (.slice aE ak.length aG) ak) := ⟨Kd.R_mono (rt X.out z.out (by decide)) (fun _ hk => ⟨hk.1, hk.2⟩)⟩
       have bk : Aside0 (Kd.Q k36 36 ((((((((aX.setCell ⟨y, 0, none⟩ (.int .i64 aa)).setCell ⟨y, 1, none⟩ (.int .i64 af)).setCell ⟨y, 2, none⟩ (.int .i64 ai)).setCell ⟨y, 3, none⟩ (.int .i64 al)).setCell ⟨y, 4, none⟩ (.int .i64 an)).setCell ⟨y, 5, none⟩ (.int .i64 ap)).setCell ⟨y, 6, none⟩ (.int .i64 ay)).setCell ⟨y, 7, none⟩ (.int .i64 aA)) w.heap.size (fun k_ => some k_ ≠ (.slice ar Y.length au : Value).ownBlock ∧ some k_ ≠ (.slice av Z.length aw : Value).ownBlock) (.slice ac D.length ab) D) := ⟨Kd.Q_mono (qt ad.out z.out (by decide)) (fun _ hk => ⟨hk.1.2, hk.2⟩)⟩
       have bl : Aside0 (Kd.R k56 56 ((((((((aX.setCell ⟨y, 0, none⟩ (.int .i64 aa)).setCell ⟨y, 1, none⟩ (.int .i64 af)).setCell ⟨y, 2, none⟩ (.int .i64 ai)).setCell ⟨y, 3, none⟩ (.int .i64 al)).setCell ⟨y, 4, none⟩ (.int .i64 an)).setCell ⟨y, 5, none⟩ (.int .i64 ap)).setCell ⟨y, 6, none⟩ (.int .i64 ay)).setCell ⟨y, 7, none⟩ (.int .i64 aA)) w.heap.size (fun k_ => some k_ ≠ (.slice aC aj.length aD : Value).ownBlock ∧ some k_ ≠ (.slice aE ak.length aG : Value).ownBlock) (.slice ah I.length ag) I) := ⟨Kd.R_mono (rt ae.out z.out (by decide)) (fun _ hk => ⟨hk.1.2, hk.2⟩)⟩
       have bm : Aside0 (((((((((aX.setCell ⟨y, 0, none⟩ (.int .i64 aa)).setCell ⟨y, 1, none⟩ (.int .i64 af)).setCell ⟨y, 2, none⟩ (.int .i64 ai)).setCell ⟨y, 3, none⟩ (.int .i64 al)).setCell ⟨y, 4, none⟩ (.int .i64 an)).setCell ⟨y, 5, none⟩ (.int .i64 ap)).setCell ⟨y, 6, none⟩ (.int .i64 ay)).setCell ⟨y, 7, none⟩ (.int .i64 aA)).heap[a1]? = some (.cells #[.slice ar Y.length au, .slice aC aj.length aD] 34 (0, 0))) := ⟨bf J.out⟩
       have bn : Aside0 (((((((((aX.setCell ⟨y, 0, none⟩ (.int .i64 aa)).setCell ⟨y, 1, none⟩ (.int .i64 af)).setCell ⟨y, 2, none⟩ (.int .i64 ai)).setCell ⟨y, 3, none⟩ (.int .i64 al)).setCell ⟨y, 4, none⟩ (.int .i64 an)).setCell ⟨y, 5, none⟩ (.int .i64 ap)).setCell ⟨y, 6, none⟩ (.int .i64 ay)).setCell ⟨y, 7, none⟩ (.int .i64 aA)).heap[a2]? = some (.cells #[.slice av Z.length aw, .slice aE ak.length aG] 34 (0, 0))) := ⟨bf L.out⟩
       have bo : Aside0 (((((((((aX.setCell ⟨y, 0, none⟩ (.int .i64 aa)).setCell ⟨y, 1, none⟩ (.int .i64 af)).setCell ⟨y, 2, none⟩ (.int .i64 ai)).setCell ⟨y, 3, none⟩ (.int .i64 al)).setCell ⟨y, 4, none⟩ (.int .i64 an)).setCell ⟨y, 5, none⟩ (.int .i64 ap)).setCell ⟨y, 6, none⟩ (.int .i64 ay)).setCell ⟨y, 7, none⟩ (.int .i64 aA)).heap[a8]? = some (.cells #[.slice ac D.length ab, .slice ah I.length ag] 34 (0, 0))) := ⟨bf G.out⟩
       have br : Aside0 (((((((((aX.setCell ⟨y, 0, none⟩ (.int .i64 aa)).setCell ⟨y, 1, none⟩ (.int .i64 af)).setCell ⟨y, 2, none⟩ (.int .i64 ai)).setCell ⟨y, 3, none⟩ (.int .i64 al)).setCell ⟨y, 4, none⟩ (.int .i64 an)).setCell ⟨y, 5, none⟩ (.int .i64 ap)).setCell ⟨y, 6, none⟩ (.int .i64 ay)).setCell ⟨y, 7, none⟩ (.int .i64 aA)).heap[y]? = some (.cells #[.int .i64 aa, .int .i64 af, .int .i64 ai, .int .i64 al, .int .i64 an, .int .i64 ap, .int .i64 ay, .int .i64 aA] 58 (0, 0))) := ⟨by (with_reducible repeat (first | refine blk_drewN ?_ _ | refine blk_drew ?_ | refine blk_alloc ?_ _)); refine blk_put (cs := #[.int .i64 aa, .int .i64 af, .int .i64 ai, .int .i64 al, .int .i64 an, .int .i64 ap, .int .i64 ay, .int .i64 0]) ?_ 7 _ rfl; (with_reducible repeat (first | refine blk_drewN ?_ _ | refine blk_drew ?_ | refine blk_alloc ?_ _)); refine blk_put (cs := #[.int .i64 aa, .int .i64 af, .int .i64 ai, .int .i64 al, .int .i64 an, .int .i64 ap, .int .i64 0, .int .i64 0]) ?_ 6 _ rfl; (with_reducible repeat (first | refine blk_drewN ?_ _ | refine blk_drew ?_ | refine blk_alloc ?_ _)); refine blk_put (cs := #[.int .i64 aa, .int .i64 af, .int .i64 ai, .int .i64 al, .int .i64 an, .int .i64 0, .int .i64 0, .int .i64 0]) ?_ 5 _ rfl; (with_reducible repeat (first | refine blk_drewN ?_ _ | refine blk_drew ?_ | refine blk_alloc ?_ _)); refine blk_put (cs := #[.int .i64 aa, .int .i64 af, .int .i64 ai, .int .i64 al, .int .i64 0, .int .i64 0, .int .i64 0, .int .i64 0]) ?_ 4 _ rfl; (with_reducible repeat (first | refine blk_drewN ?_ _ | refine blk_drew ?_ | refine blk_alloc ?_ _)); refine blk_put (cs := #[.int .i64 aa, .int .i64 af, .int .i64 ai, .int .i64 0, .int .i64 0, .int .i64 0, .int .i64 0, .int .i64 0]) ?_ 3 _ rfl; (with_reducible repeat (first | refine blk_drewN ?_ _ | refine blk_drew ?_ | refine blk_alloc ?_ _)); refine blk_put (cs := #[.int .i64 aa, .int .i64 af, .int .i64 0, .int .i64 0, .int .i64 0, .int .i64 0, .int .i64 0, .int .i64 0]) ?_ 2 _ rfl; (with_reducible repeat (first | refine blk_drewN ?_ _ | refine blk_drew ?_ | refine blk_alloc ?_ _)); refine blk_put (cs := #[.int .i64 aa, .int .i64 0, .int .i64 0, .int .i64 0, .int .i64 0, .int .i64 0, .int .i64 0, .int .i64 0]) ?_ 1 _ rfl; (with_reducible repeat (first | refine blk_drewN ?_ _ | refine blk_drew ?_ | refine blk_alloc ?_ _)); refine blk_put (cs := #[.int .i64 0, .int .i64 0, .int .i64 0, .int .i64 0, .int .i64 0, .int .i64 0, .int .i64 0, .int .i64 0]) ?_ 0 _ rfl; exact bf z.out⟩
       have bt : Aside0 (Below w.heap.size w ((((((((aX.setCell ⟨y, 0, none⟩ (.int .i64 aa)).setCell ⟨y, 1, none⟩ (.int .i64 af)).setCell ⟨y, 2, none⟩ (.int .i64 ai)).setCell ⟨y, 3, none⟩ (.int .i64 al)).setCell ⟨y, 4, none⟩ (.int .i64 an)).setCell ⟨y, 5, none⟩ (.int .i64 ap)).setCell ⟨y, 6, none⟩ (.int .i64 ay)).setCell ⟨y, 7, none⟩ (.int .i64 aA))) := ⟨bs HB.out⟩
       (try clear M)
       (try clear O)
       (try clear T)
       (try clear X)
       (try clear ad)
       (try clear ae)
       (try clear J)
       (try clear L)
       (try clear G)
       (try clear z)
       (try clear HB)
       generalize ((((((((aX.setCell ⟨y, 0, none⟩ (.int .i64 aa)).setCell ⟨y, 1, none⟩ (.int .i64 af)).setCell ⟨y, 2, none⟩ (.int .i64 ai)).setCell ⟨y, 3, none⟩ (.int .i64 al)).setCell ⟨y, 4, none⟩ (.int .i64 an)).setCell ⟨y, 5, none⟩ (.int .i64 ap)).setCell ⟨y, 6, none⟩ (.int .i64 ay)).setCell ⟨y, 7, none⟩ (.int .i64 aA)) = fr at bg bh bi bj bk bl bm bn bo br bt ⊢
       have M := bg
       have O := bh
       have T := bi
       have X := bj
       have ad := bk
       have ae := bl
       have J := bm
       have L := bn
       have G := bo
       have z := br
       have HB := bt
       clear bg bh bi bj bk bl bm bn bo br bt
       replace M := rd_ M
       replace O := rd_ O
       replace T := qd T
       replace X := rd_ X
       replace ad := qd ad
       replace ae := rd_ ae
       replace J := bd J
       replace L := bd L
       replace G := bd G
       replace z := bd z
       replace HB := hd HB
       refine sta 41 (fun w' => w'.cell? ⟨a1, 0, none⟩ = some (.slice ar Y.length au) ∧ w'.cell? ⟨a1, 1, none⟩ = some (.slice aC aj.length aD) ∧ w'.cell? ⟨a2, 0, none⟩ = some (.slice av Z.length aw) ∧ w'.cell? ⟨a2, 1, none⟩ = some (.slice aE ak.length aG) ∧ w'.cell? ⟨a8, 0, none⟩ = some (.slice ac D.length ab) ∧ w'.cell? ⟨a8, 1, none⟩ = some (.slice ah I.length ag)) [] ⟨cx J 0, cx J 1, cx L 0, cx L 1, cx G 0, cx G 1⟩ (fun hHeld => ?_); refine with_tabW laws_FnGraphBent.tab6 laws_FnGraphBent.bits6 (fun HT_ HW_ => ?_)
       generalize fr.drew = g4 at M O T X ad ae J L G z HB hHeld ⊢
       refine tk 0 22 ?_
       refine tk 1 23 ?_
       refine tk 3 25 ?_
       refine tk 4 26 ?_
       refine on 2 24 (fun K hK => ?_)
       refine gs Try.func41 #[.agg #[.slice ar Y.length au, .slice aC aj.length aD], .agg #[.slice av Z.length aw, .slice aE ak.length aG]] ?_
       with_reducible refine (impl_GraphSame.calls k _ _ Y _ _ aj _ _ Z _ _ ak bV _ ?aK ?aM ?aU ?aV ?a4 ?a5 ?a6 ?a7 b7.out).mono ?_
       (case aK => exact cr M)
       (case aM => exact cc M)
       (case aU => exact cr O)
       (case aV => exact cc O)
       (case a4 => exact cq T)
       (case a5 => exact cd T)
       (case a6 => exact cr X)
       (case a7 => exact cc X)
       rintro e g5 ⟨rfl, hb⟩
       refine ⟨_, rfl, ?_⟩
       replace M := rb M hb
       replace O := rb O hb
       replace T := qb T hb
       replace X := rb X hb
       replace ad := qb ad hb
       replace ae := rb ae hb
       replace J := bb J hb rfl
       replace L := bb L hb rfl
       replace G := bb G hb rfl
       replace z := bb z hb rfl
       replace HB := hs HB hb
       (try clear hb)
       (try clear hb2)
       (try clear hk)
       (try clear hi)
       refine hK.out _ _ ⟨cx J 0, cx J 1, cx L 0, cx L 1, cx G 0, cx G 1⟩ (fun hHeld => ?_)
       clear hK K
       refine nrm 24 ?_
       refine on 5 27 (fun K hK => ?_)
       refine gs Try.func42 #[.agg #[.slice ar Y.length au, .slice aC aj.length aD], .agg #[.slice av Z.length aw, .slice aE ak.length aG]] ?_
       with_reducible refine (spec_GraphSame.calls k _ _ Y _ _ aj _ _ Z _ _ ak bW _ ?aK ?aM ?aU ?aV ?a4 ?a5 ?a6 ?a7 ct.out).mono ?_
       (case aK => exact cr M)
       (case aM => exact cc M)
       (case aU => exact cr O)
       (case aV => exact cc O)
       (case a4 => exact cq T)
       (case a5 => exact cd T)
       (case a6 => exact cr X)
       (case a7 => exact cc X)
       rintro e g6 ⟨rfl, hb⟩
       refine ⟨_, rfl, ?_⟩
       replace M := rb M hb
       replace O := rb O hb
       replace T := qb T hb
       replace X := rb X hb
       replace ad := qb ad hb
       replace ae := rb ae hb
       replace J := bb J hb rfl
       replace L := bb L hb rfl
       replace G := bb G hb rfl
       replace z := bb z hb rfl
       replace HB := hs HB hb
       (try clear hb)
       (try clear hb2)
       (try clear hk)
       (try clear hi)
       refine hK.out _ _ ⟨cx J 0, cx J 1, cx L 0, cx L 1, cx G 0, cx G 1⟩ (fun hHeld => ?_)
       clear hK K
       refine nrm 27 ?_
       refine pu 6 28 ?_
       refine pu 7 29 ?_
       refine tk 8 30 ?_
       refine tk 9 31 ?_
       refine tk 11 33 ?_
       refine tk 12 34 ?_
       refine on 10 32 (fun K hK => ?_)
       refine gs Try.func41 #[.agg #[.slice ar Y.length au, .slice aC aj.length aD], .agg #[.slice av Z.length aw, .slice aE ak.length aG]] ?_
       with_reducible refine (impl_GraphSame.calls k _ _ Y _ _ aj _ _ Z _ _ ak bZ _ ?aK ?aM ?aU ?aV ?a4 ?a5 ?a6 ?a7 cA.out).mono ?_
       (case aK => exact cr M)
       (case aM => exact cc M)
       (case aU => exact cr O)
       (case aV => exact cc O)
       (case a4 => exact cq T)
       (case a5 => exact cd T)
       (case a6 => exact cr X)
       (case a7 => exact cc X)
       rintro e g7 ⟨rfl, hb⟩
       refine ⟨_, rfl, ?_⟩
       replace M := rb M hb
       replace O := rb O hb
       replace T := qb T hb
       replace X := rb X hb
       replace ad := qb ad hb
       replace ae := rb ae hb
       replace J := bb J hb rfl
       replace L := bb L hb rfl
       replace G := bb G hb rfl
       replace z := bb z hb rfl
       replace HB := hs HB hb
       (try clear hb)
       (try clear hb2)
       (try clear hk)
       (try clear hi)
       refine hK.out _ _ ⟨cx J 0, cx J 1, cx L 0, cx L 1, cx G 0, cx G 1⟩ (fun hHeld => ?_)
       clear hK K
       refine nrm 32 ?_
       refine on 13 35 (fun K hK => ?_)
       refine gs Try.func41 #[.agg #[.slice av Z.length aw, .slice aE ak.length aG], .agg #[.slice ar Y.length au, .slice aC aj.length aD]] ?_
       with_reducible refine (impl_GraphSame.calls k _ _ Z _ _ ak _ _ Y _ _ aj b0 _ ?aK ?aM ?aU ?aV ?a4 ?a5 ?a6 ?a7 cB.out).mono ?_
       (case aK => exact cq T)
       (case aM => exact cd T)
       (case aU => exact cr X)
       (case aV => exact cc X)
       (case a4 => exact cr M)
       (case a5 => exact cc M)
       (case a6 => exact cr O)
       (case a7 => exact cc O)
       rintro e g8 ⟨rfl, hb⟩
       refine ⟨_, rfl, ?_⟩
       replace M := rb M hb
       replace O := rb O hb
       replace T := qb T hb
       replace X := rb X hb
       replace ad := qb ad hb
       replace ae := rb ae hb
       replace J := bb J hb rfl
       replace L := bb L hb rfl
       replace G := bb G hb rfl
       replace z := bb z hb rfl
       replace HB := hs HB hb
       (try clear hb)
       (try clear hb2)
       (try clear hk)
       (try clear hi)
       refine hK.out _ _ ⟨cx J 0, cx J 1, cx L 0, cx L 1, cx G 0, cx G 1⟩ (fun hHeld => ?_)
       clear hK K
       refine nrm 35 ?_
       refine pu 14 36 ?_
       refine pu 15 37 ?_
       refine pu 16 38 ?_
       refine tk 17 39 ?_
       refine tk 18 40 ?_
       refine on 19 41 (fun K hK => ?_)
       refine gs Try.func41 #[.agg #[.slice ac D.length ab, .slice ah I.length ag], .agg #[.slice ac D.length ab, .slice ah I.length ag]] ?_
       with_reducible refine (impl_GraphSame.calls k _ _ D _ _ I _ _ D _ _ I true _ ?aK ?aM ?aU ?aV ?a4 ?a5 ?a6 ?a7 cT.out).mono ?_
       (case aK => exact cq ad)
       (case aM => exact cd ad)
       (case aU => exact cr ae)
       (case aV => exact cc ae)
       (case a4 => exact cq ad)
       (case a5 => exact cd ad)
       (case a6 => exact cr ae)
       (case a7 => exact cc ae)
       rintro e g9 ⟨rfl, hb⟩
       refine ⟨_, rfl, ?_⟩
       replace M := rb M hb
       replace O := rb O hb
       replace T := qb T hb
       replace X := rb X hb
       replace ad := qb ad hb
       replace ae := rb ae hb
       replace J := bb J hb rfl
       replace L := bb L hb rfl
       replace G := bb G hb rfl
       replace z := bb z hb rfl
       replace HB := hs HB hb
       (try clear hb)
       (try clear hb2)
       (try clear hk)
       (try clear hi)
       refine hK.out _ _ ⟨cx J 0, cx J 1, cx L 0, cx L 1, cx G 0, cx G 1⟩ (fun hHeld => ?_)
       clear hK K
       refine nrm 41 ?_
       refine pu 20 42 ?_
       refine pu 21 43 ?_
       refine pu 22 44 ?_
       refine tk 23 45 ?_
       refine tk 25 47 ?_
       refine on 24 46 (fun K hK => ?_)
       refine gs Try.func34 #[.agg #[.slice ac D.length ab, .slice ah I.length ag]] ?_
       with_reducible refine (impl_GraphOk.calls k _ _ D _ _ I b1 _ ?aK ?aM ?aU ?aV dk.out).mono ?_
       (case aK => exact cq ad)
       (case aM => exact cd ad)
       (case aU => exact cr ae)
       (case aV => exact cc ae)
       rintro e hh ⟨rfl, hb⟩
       refine ⟨_, rfl, ?_⟩
       replace M := rb M hb
       replace O := rb O hb
       replace T := qb T hb
       replace X := rb X hb
       replace ad := qb ad hb
       replace ae := rb ae hb
       replace J := bb J hb rfl
       replace L := bb L hb rfl
       replace G := bb G hb rfl
       replace z := bb z hb rfl
       replace HB := hs HB hb
       (try clear hb)
       (try clear hb2)
       (try clear hk)
       (try clear hi)
       refine hK.out _ _ ⟨cx J 0, cx J 1, cx L 0, cx L 1, cx G 0, cx G 1⟩ (fun hHeld => ?_)
       clear hK K
       refine nrm 46 ?_
       refine on 26 48 (fun K hK => ?_)
       refine gs Try.func33 #[.agg #[.slice ac D.length ab, .slice ah I.length ag]] ?_
       with_reducible refine (spec_GraphOk.calls k _ _ D _ _ I b2 _ ?aK ?aM ?aU ?aV dl.out).mono ?_
       (case aK => exact cq ad)
       (case aM => exact cd ad)
       (case aU => exact cr ae)
       (case aV => exact cc ae)
       rintro e hj ⟨rfl, hb⟩
       refine ⟨_, rfl, ?_⟩
       replace M := rb M hb
       replace O := rb O hb
       replace T := qb T hb
       replace X := rb X hb
       replace ad := qb ad hb
       replace ae := rb ae hb
       replace J := bb J hb rfl
       replace L := bb L hb rfl
       replace G := bb G hb rfl
       replace z := bb z hb rfl
       replace HB := hs HB hb
       (try clear hb)
       (try clear hb2)
       (try clear hk)
       (try clear hi)
       refine hK.out _ _ ⟨cx J 0, cx J 1, cx L 0, cx L 1, cx G 0, cx G 1⟩ (fun hHeld => ?_)
       clear hK K
       refine nrm 48 ?_
       refine pu 27 49 ?_
       refine pu 28 50 ?_
       refine pu 29 51 ?_
       refine ud 30 52 ?_
       refine ud 31 53 ?_
       refine ud 32 54 ?_
       refine ud 33 55 ?_
       refine ud 34 56 ?_
       refine pu 35 57 ?_
       refine pu 36 58 ?_
       refine ud 37 59 ?_
       refine ud 38 60 ?_
       refine ud 39 61 ?_
       refine pu 40 62 ?_
       refine dn ?_
       try go_wp2
       go_meet
       case rel => exact ⟨_, (true), eqs, H', ⟨by first | omega | exact Nat.le_refl _⟩, ⟨rl M.out⟩, ⟨rl O.out⟩, ⟨qf T.out⟩, ⟨rl X.out⟩, ⟨qf ad.out⟩, ⟨rl ae.out⟩, ⟨bf J.out⟩, ⟨bf L.out⟩, ⟨bf G.out⟩, ⟨bf z.out⟩, ⟨bs HB.out⟩⟩
      ·rw [if_neg b6] at H
       have fo : (b1 != b2) = false := by simpa using b6
       (try (have fp : decide (b1 = b2) = true := by simpa using b6))
       (try (have fq : (b1 == b2) = true := by simpa using b6))
       clear b6
       replace H := Option.bind_eq_some_iff.mp H
       obtain ⟨b8, ek, H⟩ := H
       try dsimp -simprocs only at H
       have el := am ek
       clear ek
       replace H := Option.bind_eq_some_iff.mp H
       obtain ⟨b9, em, H⟩ := H
       try dsimp -simprocs only at H
       have en := am em
       clear em
       by_cases co : b8 = b9
       ·rw [if_pos co] at H
        have fs : (b8 == b9) = true := beq_iff_eq.mpr co
        have ft : (b8 != b9) = false := bne_eq_false_iff_eq.mpr co
        clear co
        replace H := Option.bind_eq_some_iff.mp H
        obtain ⟨cV, eo, H⟩ := H
        try dsimp -simprocs only at H
        have fu := am eo
        clear eo
        have H' := am H
        clear H
        try go_wp2
        have bg : Aside0 (Kd.R k36 36 ((((((((aX.setCell ⟨y, 0, none⟩ (.int .i64 aa)).setCell ⟨y, 1, none⟩ (.int .i64 af)).setCell ⟨y, 2, none⟩ (.int .i64 ai)).setCell ⟨y, 3, none⟩ (.int .i64 al)).setCell ⟨y, 4, none⟩ (.int .i64 an)).setCell ⟨y, 5, none⟩ (.int .i64 ap)).setCell ⟨y, 6, none⟩ (.int .i64 ay)).setCell ⟨y, 7, none⟩ (.int .i64 aA)) w.heap.size (fun k_ => some k_ ≠ (.slice av Z.length aw : Value).ownBlock ∧ some k_ ≠ (.slice ac D.length ab : Value).ownBlock) (.slice ar Y.length au) Y) := ⟨Kd.R_mono (rt M.out z.out (by decide)) (fun _ hk => ⟨hk.1, hk.2⟩)⟩
        have bh : Aside0 (Kd.R k56 56 ((((((((aX.setCell ⟨y, 0, none⟩ (.int .i64 aa)).setCell ⟨y, 1, none⟩ (.int .i64 af)).setCell ⟨y, 2, none⟩ (.int .i64 ai)).setCell ⟨y, 3, none⟩ (.int .i64 al)).setCell ⟨y, 4, none⟩ (.int .i64 an)).setCell ⟨y, 5, none⟩ (.int .i64 ap)).setCell ⟨y, 6, none⟩ (.int .i64 ay)).setCell ⟨y, 7, none⟩ (.int .i64 aA)) w.heap.size (fun k_ => some k_ ≠ (.slice aE ak.length aG : Value).ownBlock ∧ some k_ ≠ (.slice ah I.length ag : Value).ownBlock) (.slice aC aj.length aD) aj) := ⟨Kd.R_mono (rt O.out z.out (by decide)) (fun _ hk => ⟨hk.1, hk.2⟩)⟩
        have bi : Aside0 (Kd.Q k36 36 ((((((((aX.setCell ⟨y, 0, none⟩ (.int .i64 aa)).setCell ⟨y, 1, none⟩ (.int .i64 af)).setCell ⟨y, 2, none⟩ (.int .i64 ai)).setCell ⟨y, 3, none⟩ (.int .i64 al)).setCell ⟨y, 4, none⟩ (.int .i64 an)).setCell ⟨y, 5, none⟩ (.int .i64 ap)).setCell ⟨y, 6, none⟩ (.int .i64 ay)).setCell ⟨y, 7, none⟩ (.int .i64 aA)) w.heap.size (fun k_ => some k_ ≠ (.slice ar Y.length au : Value).ownBlock ∧ some k_ ≠ (.slice ac D.length ab : Value).ownBlock) (.slice av Z.length aw) Z) := ⟨Kd.Q_mono (qt T.out z.out (by decide)) (fun _ hk => ⟨hk.1, hk.2⟩)⟩
        have bj : Aside0 (Kd.R k56 56 ((((((((aX.setCell ⟨y, 0, none⟩ (.int .i64 aa)).setCell ⟨y, 1, none⟩ (.int .i64 af)).setCell ⟨y, 2, none⟩ (.int .i64 ai)).setCell ⟨y, 3, none⟩ (.int .i64 al)).setCell ⟨y, 4, none⟩ (.int .i64 an)).setCell ⟨y, 5, none⟩ (.int .i64 ap)).setCell ⟨y, 6, none⟩ (.int .i64 ay)).setCell ⟨y, 7, none⟩ (.int .i64 aA)) w.heap.size (fun k_ => some k_ ≠ (.slice aC aj.length aD : Value).ownBlock ∧ some k_ ≠ (.slice ah I.length ag : Value).ownBlock) (.slice aE ak.length aG) ak) := ⟨Kd.R_mono (rt X.out z.out (by decide)) (fun _ hk => ⟨hk.1, hk.2⟩)⟩
        have bk : Aside0 (Kd.Q k36 36 ((((((((aX.setCell ⟨y, 0, none⟩ (.int .i64 aa)).setCell ⟨y, 1, none⟩ (.int .i64 af)).setCell ⟨y, 2, none⟩ (.int .i64 ai)).setCell ⟨y, 3, none⟩ (.int .i64 al)).setCell ⟨y, 4, none⟩ (.int .i64 an)).setCell ⟨y, 5, none⟩ (.int .i64 ap)).setCell ⟨y, 6, none⟩ (.int .i64 ay)).setCell ⟨y, 7, none⟩ (.int .i64 aA)) w.heap.size (fun k_ => some k_ ≠ (.slice ar Y.length au : Value).ownBlock ∧ some k_ ≠ (.slice av Z.length aw : Value).ownBlock) (.slice ac D.length ab) D) := ⟨Kd.Q_mono (qt ad.out z.out (by decide)) (fun _ hk => ⟨hk.1.2, hk.2⟩)⟩
        have bl : Aside0 (Kd.R k56 56 ((((((((aX.setCell ⟨y, 0, none⟩ (.int .i64 aa)).setCell ⟨y, 1, none⟩ (.int .i64 af)).setCell ⟨y, 2, none⟩ (.int .i64 ai)).setCell ⟨y, 3, none⟩ (.int .i64 al)).setCell ⟨y, 4, none⟩ (.int .i64 an)).setCell ⟨y, 5, none⟩ (.int .i64 ap)).setCell ⟨y, 6, none⟩ (.int .i64 ay)).setCell ⟨y, 7, none⟩ (.int .i64 aA)) w.heap.size (fun k_ => some k_ ≠ (.slice aC aj.length aD : Value).ownBlock ∧ some k_ ≠ (.slice aE ak.length aG : Value).ownBlock) (.slice ah I.length ag) I) := ⟨Kd.R_mono (rt ae.out z.out (by decide)) (fun _ hk => ⟨hk.1.2, hk.2⟩)⟩
        have bm : Aside0 (((((((((aX.setCell ⟨y, 0, none⟩ (.int .i64 aa)).setCell ⟨y, 1, none⟩ (.int .i64 af)).setCell ⟨y, 2, none⟩ (.int .i64 ai)).setCell ⟨y, 3, none⟩ (.int .i64 al)).setCell ⟨y, 4, none⟩ (.int .i64 an)).setCell ⟨y, 5, none⟩ (.int .i64 ap)).setCell ⟨y, 6, none⟩ (.int .i64 ay)).setCell ⟨y, 7, none⟩ (.int .i64 aA)).heap[a1]? = some (.cells #[.slice ar Y.length au, .slice aC aj.length aD] 34 (0, 0))) := ⟨bf J.out⟩
        have bn : Aside0 (((((((((aX.setCell ⟨y, 0, none⟩ (.int .i64 aa)).setCell ⟨y, 1, none⟩ (.int .i64 af)).setCell ⟨y, 2, none⟩ (.int .i64 ai)).setCell ⟨y, 3, none⟩ (.int .i64 al)).setCell ⟨y, 4, none⟩ (.int .i64 an)).setCell ⟨y, 5, none⟩ (.int .i64 ap)).setCell ⟨y, 6, none⟩ (.int .i64 ay)).setCell ⟨y, 7, none⟩ (.int .i64 aA)).heap[a2]? = some (.cells #[.slice av Z.length aw, .slice aE ak.length aG] 34 (0, 0))) := ⟨bf L.out⟩
        have bo : Aside0 (((((((((aX.setCell ⟨y, 0, none⟩ (.int .i64 aa)).setCell ⟨y, 1, none⟩ (.int .i64 af)).setCell ⟨y, 2, none⟩ (.int .i64 ai)).setCell ⟨y, 3, none⟩ (.int .i64 al)).setCell ⟨y, 4, none⟩ (.int .i64 an)).setCell ⟨y, 5, none⟩ (.int .i64 ap)).setCell ⟨y, 6, none⟩ (.int .i64 ay)).setCell ⟨y, 7, none⟩ (.int .i64 aA)).heap[a8]? = some (.cells #[.slice ac D.length ab, .slice ah I.length ag] 34 (0, 0))) := ⟨bf G.out⟩
        have br : Aside0 (((((((((aX.setCell ⟨y, 0, none⟩ (.int .i64 aa)).setCell ⟨y, 1, none⟩ (.int .i64 af)).setCell ⟨y, 2, none⟩ (.int .i64 ai)).setCell ⟨y, 3, none⟩ (.int .i64 al)).setCell ⟨y, 4, none⟩ (.int .i64 an)).setCell ⟨y, 5, none⟩ (.int .i64 ap)).setCell ⟨y, 6, none⟩ (.int .i64 ay)).setCell ⟨y, 7, none⟩ (.int .i64 aA)).heap[y]? = some (.cells #[.int .i64 aa, .int .i64 af, .int .i64 ai, .int .i64 al, .int .i64 an, .int .i64 ap, .int .i64 ay, .int .i64 aA] 58 (0, 0))) := ⟨by (with_reducible repeat (first | refine blk_drewN ?_ _ | refine blk_drew ?_ | refine blk_alloc ?_ _)); refine blk_put (cs := #[.int .i64 aa, .int .i64 af, .int .i64 ai, .int .i64 al, .int .i64 an, .int .i64 ap, .int .i64 ay, .int .i64 0]) ?_ 7 _ rfl; (with_reducible repeat (first | refine blk_drewN ?_ _ | refine blk_drew ?_ | refine blk_alloc ?_ _)); refine blk_put (cs := #[.int .i64 aa, .int .i64 af, .int .i64 ai, .int .i64 al, .int .i64 an, .int .i64 ap, .int .i64 0, .int .i64 0]) ?_ 6 _ rfl; (with_reducible repeat (first | refine blk_drewN ?_ _ | refine blk_drew ?_ | refine blk_alloc ?_ _)); refine blk_put (cs := #[.int .i64 aa, .int .i64 af, .int .i64 ai, .int .i64 al, .int .i64 an, .int .i64 0, .int .i64 0, .int .i64 0]) ?_ 5 _ rfl; (with_reducible repeat (first | refine blk_drewN ?_ _ | refine blk_drew ?_ | refine blk_alloc ?_ _)); refine blk_put (cs := #[.int .i64 aa, .int .i64 af, .int .i64 ai, .int .i64 al, .int .i64 0, .int .i64 0, .int .i64 0, .int .i64 0]) ?_ 4 _ rfl; (with_reducible repeat (first | refine blk_drewN ?_ _ | refine blk_drew ?_ | refine blk_alloc ?_ _)); refine blk_put (cs := #[.int .i64 aa, .int .i64 af, .int .i64 ai, .int .i64 0, .int .i64 0, .int .i64 0, .int .i64 0, .int .i64 0]) ?_ 3 _ rfl; (with_reducible repeat (first | refine blk_drewN ?_ _ | refine blk_drew ?_ | refine blk_alloc ?_ _)); refine blk_put (cs := #[.int .i64 aa, .int .i64 af, .int .i64 0, .int .i64 0, .int .i64 0, .int .i64 0, .int .i64 0, .int .i64 0]) ?_ 2 _ rfl; (with_reducible repeat (first | refine blk_drewN ?_ _ | refine blk_drew ?_ | refine blk_alloc ?_ _)); refine blk_put (cs := #[.int .i64 aa, .int .i64 0, .int .i64 0, .int .i64 0, .int .i64 0, .int .i64 0, .int .i64 0, .int .i64 0]) ?_ 1 _ rfl; (with_reducible repeat (first | refine blk_drewN ?_ _ | refine blk_drew ?_ | refine blk_alloc ?_ _)); refine blk_put (cs := #[.int .i64 0, .int .i64 0, .int .i64 0, .int .i64 0, .int .i64 0, .int .i64 0, .int .i64 0, .int .i64 0]) ?_ 0 _ rfl; exact bf z.out⟩
        have bt : Aside0 (Below w.heap.size w ((((((((aX.setCell ⟨y, 0, none⟩ (.int .i64 aa)).setCell ⟨y, 1, none⟩ (.int .i64 af)).setCell ⟨y, 2, none⟩ (.int .i64 ai)).setCell ⟨y, 3, none⟩ (.int .i64 al)).setCell ⟨y, 4, none⟩ (.int .i64 an)).setCell ⟨y, 5, none⟩ (.int .i64 ap)).setCell ⟨y, 6, none⟩ (.int .i64 ay)).setCell ⟨y, 7, none⟩ (.int .i64 aA))) := ⟨bs HB.out⟩
        (try clear M)
        (try clear O)
        (try clear T)
        (try clear X)
        (try clear ad)
        (try clear ae)
        (try clear J)
        (try clear L)
        (try clear G)
        (try clear z)
        (try clear HB)
        generalize ((((((((aX.setCell ⟨y, 0, none⟩ (.int .i64 aa)).setCell ⟨y, 1, none⟩ (.int .i64 af)).setCell ⟨y, 2, none⟩ (.int .i64 ai)).setCell ⟨y, 3, none⟩ (.int .i64 al)).setCell ⟨y, 4, none⟩ (.int .i64 an)).setCell ⟨y, 5, none⟩ (.int .i64 ap)).setCell ⟨y, 6, none⟩ (.int .i64 ay)).setCell ⟨y, 7, none⟩ (.int .i64 aA)) = w64 at bg bh bi bj bk bl bm bn bo br bt ⊢
        have M := bg
        have O := bh
        have T := bi
        have X := bj
        have ad := bk
        have ae := bl
        have J := bm
        have L := bn
        have G := bo
        have z := br
        have HB := bt
        clear bg bh bi bj bk bl bm bn bo br bt
        replace M := rd_ M
        replace O := rd_ O
        replace T := qd T
        replace X := rd_ X
        replace ad := qd ad
        replace ae := rd_ ae
        replace J := bd J
        replace L := bd L
        replace G := bd G
        replace z := bd z
        replace HB := hd HB
        refine sta 41 (fun w' => w'.cell? ⟨a1, 0, none⟩ = some (.slice ar Y.length au) ∧ w'.cell? ⟨a1, 1, none⟩ = some (.slice aC aj.length aD) ∧ w'.cell? ⟨a2, 0, none⟩ = some (.slice av Z.length aw) ∧ w'.cell? ⟨a2, 1, none⟩ = some (.slice aE ak.length aG) ∧ w'.cell? ⟨a8, 0, none⟩ = some (.slice ac D.length ab) ∧ w'.cell? ⟨a8, 1, none⟩ = some (.slice ah I.length ag) ∧ w'.cell? ⟨y, 0, none⟩ = some (.int .i64 aa) ∧ w'.cell? ⟨y, 1, none⟩ = some (.int .i64 af) ∧ w'.cell? ⟨y, 2, none⟩ = some (.int .i64 ai) ∧ w'.cell? ⟨y, 3, none⟩ = some (.int .i64 al) ∧ w'.cell? ⟨y, 4, none⟩ = some (.int .i64 an) ∧ w'.cell? ⟨y, 5, none⟩ = some (.int .i64 ap) ∧ w'.cell? ⟨y, 6, none⟩ = some (.int .i64 ay) ∧ w'.cell? ⟨y, 7, none⟩ = some (.int .i64 aA)) [] ⟨cx J 0, cx J 1, cx L 0, cx L 1, cx G 0, cx G 1, cx z 0, cx z 1, cx z 2, cx z 3, cx z 4, cx z 5, cx z 6, cx z 7⟩ (fun hHeld => ?_); refine with_tabW laws_FnGraphBent.tab6 laws_FnGraphBent.bits6 (fun HT_ HW_ => ?_)
        generalize w64.drew = hu at M O T X ad ae J L G z HB hHeld ⊢
        refine tk 0 22 ?_
        refine tk 1 23 ?_
        refine tk 3 25 ?_
        refine tk 4 26 ?_
        refine on 2 24 (fun K hK => ?_)
        refine gs Try.func41 #[.agg #[.slice ar Y.length au, .slice aC aj.length aD], .agg #[.slice av Z.length aw, .slice aE ak.length aG]] ?_
        with_reducible refine (impl_GraphSame.calls k _ _ Y _ _ aj _ _ Z _ _ ak bV _ ?aK ?aM ?aU ?aV ?a4 ?a5 ?a6 ?a7 b7.out).mono ?_
        (case aK => exact cr M)
        (case aM => exact cc M)
        (case aU => exact cr O)
        (case aV => exact cc O)
        (case a4 => exact cq T)
        (case a5 => exact cd T)
        (case a6 => exact cr X)
        (case a7 => exact cc X)
        rintro e hv ⟨rfl, hb⟩
        refine ⟨_, rfl, ?_⟩
        replace M := rb M hb
        replace O := rb O hb
        replace T := qb T hb
        replace X := rb X hb
        replace ad := qb ad hb
        replace ae := rb ae hb
        replace J := bb J hb rfl
        replace L := bb L hb rfl
        replace G := bb G hb rfl
        replace z := bb z hb rfl
        replace HB := hs HB hb
        (try clear hb)
        (try clear hb2)
        (try clear hk)
        (try clear hi)
        refine hK.out _ _ ⟨cx J 0, cx J 1, cx L 0, cx L 1, cx G 0, cx G 1, cx z 0, cx z 1, cx z 2, cx z 3, cx z 4, cx z 5, cx z 6, cx z 7⟩ (fun hHeld => ?_)
        clear hK K
        refine nrm 24 ?_
        refine on 5 27 (fun K hK => ?_)
        refine gs Try.func42 #[.agg #[.slice ar Y.length au, .slice aC aj.length aD], .agg #[.slice av Z.length aw, .slice aE ak.length aG]] ?_
        with_reducible refine (spec_GraphSame.calls k _ _ Y _ _ aj _ _ Z _ _ ak bW _ ?aK ?aM ?aU ?aV ?a4 ?a5 ?a6 ?a7 ct.out).mono ?_
        (case aK => exact cr M)
        (case aM => exact cc M)
        (case aU => exact cr O)
        (case aV => exact cc O)
        (case a4 => exact cq T)
        (case a5 => exact cd T)
        (case a6 => exact cr X)
        (case a7 => exact cc X)
        rintro e hx ⟨rfl, hb⟩
        refine ⟨_, rfl, ?_⟩
        replace M := rb M hb
        replace O := rb O hb
        replace T := qb T hb
        replace X := rb X hb
        replace ad := qb ad hb
        replace ae := rb ae hb
        replace J := bb J hb rfl
        replace L := bb L hb rfl
        replace G := bb G hb rfl
        replace z := bb z hb rfl
        replace HB := hs HB hb
        (try clear hb)
        (try clear hb2)
        (try clear hk)
        (try clear hi)
        refine hK.out _ _ ⟨cx J 0, cx J 1, cx L 0, cx L 1, cx G 0, cx G 1, cx z 0, cx z 1, cx z 2, cx z 3, cx z 4, cx z 5, cx z 6, cx z 7⟩ (fun hHeld => ?_)
        clear hK K
        refine nrm 27 ?_
        refine pu 6 28 ?_
        refine pu 7 29 ?_
        refine tk 8 30 ?_
        refine tk 9 31 ?_
        refine tk 11 33 ?_
        refine tk 12 34 ?_
        refine on 10 32 (fun K hK => ?_)
        refine gs Try.func41 #[.agg #[.slice ar Y.length au, .slice aC aj.length aD], .agg #[.slice av Z.length aw, .slice aE ak.length aG]] ?_
        with_reducible refine (impl_GraphSame.calls k _ _ Y _ _ aj _ _ Z _ _ ak bZ _ ?aK ?aM ?aU ?aV ?a4 ?a5 ?a6 ?a7 cA.out).mono ?_
        (case aK => exact cr M)
        (case aM => exact cc M)
        (case aU => exact cr O)
        (case aV => exact cc O)
        (case a4 => exact cq T)
        (case a5 => exact cd T)
        (case a6 => exact cr X)
        (case a7 => exact cc X)
        rintro e hy ⟨rfl, hb⟩
        refine ⟨_, rfl, ?_⟩
        replace M := rb M hb
        replace O := rb O hb
        replace T := qb T hb
        replace X := rb X hb
        replace ad := qb ad hb
        replace ae := rb ae hb
        replace J := bb J hb rfl
        replace L := bb L hb rfl
        replace G := bb G hb rfl
        replace z := bb z hb rfl
        replace HB := hs HB hb
        (try clear hb)
        (try clear hb2)
        (try clear hk)
        (try clear hi)
        refine hK.out _ _ ⟨cx J 0, cx J 1, cx L 0, cx L 1, cx G 0, cx G 1, cx z 0, cx z 1, cx z 2, cx z 3, cx z 4, cx z 5, cx z 6, cx z 7⟩ (fun hHeld => ?_)
        clear hK K
        refine nrm 32 ?_
        refine on 13 35 (fun K hK => ?_)
        refine gs Try.func41 #[.agg #[.slice av Z.length aw, .slice aE ak.length aG], .agg #[.slice ar Y.length au, .slice aC aj.length aD]] ?_
        with_reducible refine (impl_GraphSame.calls k _ _ Z _ _ ak _ _ Y _ _ aj b0 _ ?aK ?aM ?aU ?aV ?a4 ?a5 ?a6 ?a7 cB.out).mono ?_
        (case aK => exact cq T)
        (case aM => exact cd T)
        (case aU => exact cr X)
        (case aV => exact cc X)
        (case a4 => exact cr M)
        (case a5 => exact cc M)
        (case a6 => exact cr O)
        (case a7 => exact cc O)
        rintro e hz ⟨rfl, hb⟩
        refine ⟨_, rfl, ?_⟩
        replace M := rb M hb
        replace O := rb O hb
        replace T := qb T hb
        replace X := rb X hb
        replace ad := qb ad hb
        replace ae := rb ae hb
        replace J := bb J hb rfl
        replace L := bb L hb rfl
        replace G := bb G hb rfl
        replace z := bb z hb rfl
        replace HB := hs HB hb
        (try clear hb)
        (try clear hb2)
        (try clear hk)
        (try clear hi)
        refine hK.out _ _ ⟨cx J 0, cx J 1, cx L 0, cx L 1, cx G 0, cx G 1, cx z 0, cx z 1, cx z 2, cx z 3, cx z 4, cx z 5, cx z 6, cx z 7⟩ (fun hHeld => ?_)
        clear hK K
        refine nrm 35 ?_
        refine pu 14 36 ?_
        refine pu 15 37 ?_
        refine pu 16 38 ?_
        refine tk 17 39 ?_
        refine tk 18 40 ?_
        refine on 19 41 (fun K hK => ?_)
        refine gs Try.func41 #[.agg #[.slice ac D.length ab, .slice ah I.length ag], .agg #[.slice ac D.length ab, .slice ah I.length ag]] ?_
        with_reducible refine (impl_GraphSame.calls k _ _ D _ _ I _ _ D _ _ I true _ ?aK ?aM ?aU ?aV ?a4 ?a5 ?a6 ?a7 cT.out).mono ?_
        (case aK => exact cq ad)
        (case aM => exact cd ad)
        (case aU => exact cr ae)
        (case aV => exact cc ae)
        (case a4 => exact cq ad)
        (case a5 => exact cd ad)
        (case a6 => exact cr ae)
        (case a7 => exact cc ae)
        rintro e hA ⟨rfl, hb⟩
        refine ⟨_, rfl, ?_⟩
        replace M := rb M hb
        replace O := rb O hb
        replace T := qb T hb
        replace X := rb X hb
        replace ad := qb ad hb
        replace ae := rb ae hb
        replace J := bb J hb rfl
        replace L := bb L hb rfl
        replace G := bb G hb rfl
        replace z := bb z hb rfl
        replace HB := hs HB hb
        (try clear hb)
        (try clear hb2)
        (try clear hk)
        (try clear hi)
        refine hK.out _ _ ⟨cx J 0, cx J 1, cx L 0, cx L 1, cx G 0, cx G 1, cx z 0, cx z 1, cx z 2, cx z 3, cx z 4, cx z 5, cx z 6, cx z 7⟩ (fun hHeld => ?_)
        clear hK K
        refine nrm 41 ?_
        refine pu 20 42 ?_
        refine pu 21 43 ?_
        refine pu 22 44 ?_
        refine tk 23 45 ?_
        refine tk 25 47 ?_
        refine on 24 46 (fun K hK => ?_)
        refine gs Try.func34 #[.agg #[.slice ac D.length ab, .slice ah I.length ag]] ?_
        with_reducible refine (impl_GraphOk.calls k _ _ D _ _ I b1 _ ?aK ?aM ?aU ?aV dk.out).mono ?_
        (case aK => exact cq ad)
        (case aM => exact cd ad)
        (case aU => exact cr ae)
        (case aV => exact cc ae)
        rintro e hC ⟨rfl, hb⟩
        refine ⟨_, rfl, ?_⟩
        replace M := rb M hb
        replace O := rb O hb
        replace T := qb T hb
        replace X := rb X hb
        replace ad := qb ad hb
        replace ae := rb ae hb
        replace J := bb J hb rfl
        replace L := bb L hb rfl
        replace G := bb G hb rfl
        replace z := bb z hb rfl
        replace HB := hs HB hb
        (try clear hb)
        (try clear hb2)
        (try clear hk)
        (try clear hi)
        refine hK.out _ _ ⟨cx J 0, cx J 1, cx L 0, cx L 1, cx G 0, cx G 1, cx z 0, cx z 1, cx z 2, cx z 3, cx z 4, cx z 5, cx z 6, cx z 7⟩ (fun hHeld => ?_)
        clear hK K
        refine nrm 46 ?_
        refine on 26 48 (fun K hK => ?_)
        refine gs Try.func33 #[.agg #[.slice ac D.length ab, .slice ah I.length ag]] ?_
        with_reducible refine (spec_GraphOk.calls k _ _ D _ _ I b2 _ ?aK ?aM ?aU ?aV dl.out).mono ?_
        (case aK => exact cq ad)
        (case aM => exact cd ad)
        (case aU => exact cr ae)
        (case aV => exact cc ae)
        rintro e hD ⟨rfl, hb⟩
        refine ⟨_, rfl, ?_⟩
        replace M := rb M hb
        replace O := rb O hb
        replace T := qb T hb
        replace X := rb X hb
        replace ad := qb ad hb
        replace ae := rb ae hb
        replace J := bb J hb rfl
        replace L := bb L hb rfl
        replace G := bb G hb rfl
        replace z := bb z hb rfl
        replace HB := hs HB hb
        (try clear hb)
        (try clear hb2)
        (try clear hk)
        (try clear hi)
        refine hK.out _ _ ⟨cx J 0, cx J 1, cx L 0, cx L 1, cx G 0, cx G 1, cx z 0, cx z 1, cx z 2, cx z 3, cx z 4, cx z 5, cx z 6, cx z 7⟩ (fun hHeld => ?_)
        clear hK K
        refine nrm 48 ?_
        refine pu 27 49 ?_
        refine pu 28 50 ?_
        refine pu 29 51 ?_
        refine tk 30 52 ?_
        refine tk 32 54 ?_
        refine on 31 53 (fun K hK => ?_)
        refine gs Try.func43 #[.agg #[.int .i64 aa, .int .i64 af, .int .i64 ai, .int .i64 al, .int .i64 an, .int .i64 ap, .int .i64 ay, .int .i64 aA]] ?_
        with_reducible refine (impl_OpLabel.calls k aa af ai al an ap ay aA b8 _ el.out).mono ?_
        rintro e hE ⟨rfl, hb⟩
        refine ⟨_, rfl, ?_⟩
        replace M := rb M hb
        replace O := rb O hb
        replace T := qb T hb
        replace X := rb X hb
        replace ad := qb ad hb
        replace ae := rb ae hb
        replace J := bb J hb rfl
        replace L := bb L hb rfl
        replace G := bb G hb rfl
        replace z := bb z hb rfl
        replace HB := hs HB hb
        (try clear hb)
        (try clear hb2)
        (try clear hk)
        (try clear hi)
        refine hK.out _ _ ⟨cx J 0, cx J 1, cx L 0, cx L 1, cx G 0, cx G 1, cx z 0, cx z 1, cx z 2, cx z 3, cx z 4, cx z 5, cx z 6, cx z 7⟩ (fun hHeld => ?_)
        clear hK K
        refine nrm 53 ?_
        refine on 33 55 (fun K hK => ?_)
        refine gs Try.func44 #[.agg #[.int .i64 aa, .int .i64 af, .int .i64 ai, .int .i64 al, .int .i64 an, .int .i64 ap, .int .i64 ay, .int .i64 aA]] ?_
        with_reducible refine (spec_OpLabel.calls k aa af ai al an ap ay aA b9 _ en.out).mono ?_
        rintro e hF ⟨rfl, hb⟩
        refine ⟨_, rfl, ?_⟩
        replace M := rb M hb
        replace O := rb O hb
        replace T := qb T hb
        replace X := rb X hb
        replace ad := qb ad hb
        replace ae := rb ae hb
        replace J := bb J hb rfl
        replace L := bb L hb rfl
        replace G := bb G hb rfl
        replace z := bb z hb rfl
        replace HB := hs HB hb
        (try clear hb)
        (try clear hb2)
        (try clear hk)
        (try clear hi)
        refine hK.out _ _ ⟨cx J 0, cx J 1, cx L 0, cx L 1, cx G 0, cx G 1, cx z 0, cx z 1, cx z 2, cx z 3, cx z 4, cx z 5, cx z 6, cx z 7⟩ (fun hHeld => ?_)
        clear hK K
        refine nrm 55 ?_
        refine pu 34 56 ?_
        refine pu 35 57 ?_
        refine pu 36 58 ?_
        refine pu 37 59 ?_
        refine on 38 60 (fun K hK => ?_)
        refine gs Try.func34 #[.agg #[.slice none 0 0, .slice none 0 0]] ?_
        refine (impl_GraphOk.calls k _ _ ([] : List (S36)) _ _ ([] : List (S56)) cV _ ?aK ?aM ?aU ?aV fu.out).mono ?_
        (case aK => exact Kd.C_nil _ _)
        (case aM => exact Nat.le_refl _)
        (case aU => exact Kd.C_nil _ _)
        (case aV => exact Nat.le_refl _)
        rintro e hG ⟨rfl, hb⟩
        refine ⟨_, rfl, ?_⟩
        replace M := rb M hb
        replace O := rb O hb
        replace T := qb T hb
        replace X := rb X hb
        replace ad := qb ad hb
        replace ae := rb ae hb
        replace J := bb J hb rfl
        replace L := bb L hb rfl
        replace G := bb G hb rfl
        replace z := bb z hb rfl
        replace HB := hs HB hb
        (try clear hb)
        (try clear hb2)
        (try clear hk)
        (try clear hi)
        refine hK.out _ _ ⟨cx J 0, cx J 1, cx L 0, cx L 1, cx G 0, cx G 1, cx z 0, cx z 1, cx z 2, cx z 3, cx z 4, cx z 5, cx z 6, cx z 7⟩ (fun hHeld => ?_)
        clear hK K
        refine nrm 60 ?_
        refine pu 39 61 ?_
        refine pu 40 62 ?_
        refine dn ?_
        try go_wp2
        go_meet
        case rel => exact ⟨_, (!cV), eqs, H', ⟨by first | omega | exact Nat.le_refl _⟩, ⟨rl M.out⟩, ⟨rl O.out⟩, ⟨qf T.out⟩, ⟨rl X.out⟩, ⟨qf ad.out⟩, ⟨rl ae.out⟩, ⟨bf J.out⟩, ⟨bf L.out⟩, ⟨bf G.out⟩, ⟨bf z.out⟩, ⟨bs HB.out⟩⟩
       ·rw [if_neg co] at H
        have fs : (b8 == b9) = false := beq_eq_false_iff_ne.mpr co
        have ft : (b8 != b9) = true := bne_iff_ne.mpr co
        have H' := am H
        clear H
        try go_wp2
        have bg : Aside0 (Kd.R k36 36 ((((((((aX.setCell ⟨y, 0, none⟩ (.int .i64 aa)).setCell ⟨y, 1, none⟩ (.int .i64 af)).setCell ⟨y, 2, none⟩ (.int .i64 ai)).setCell ⟨y, 3, none⟩ (.int .i64 al)).setCell ⟨y, 4, none⟩ (.int .i64 an)).setCell ⟨y, 5, none⟩ (.int .i64 ap)).setCell ⟨y, 6, none⟩ (.int .i64 ay)).setCell ⟨y, 7, none⟩ (.int .i64 aA)) w.heap.size (fun k_ => some k_ ≠ (.slice av Z.length aw : Value).ownBlock ∧ some k_ ≠ (.slice ac D.length ab : Value).ownBlock) (.slice ar Y.length au) Y) := ⟨Kd.R_mono (rt M.out z.out (by decide)) (fun _ hk => ⟨hk.1, hk.2⟩)⟩
        have bh : Aside0 (Kd.R k56 56 ((((((((aX.setCell ⟨y, 0, none⟩ (.int .i64 aa)).setCell ⟨y, 1, none⟩ (.int .i64 af)).setCell ⟨y, 2, none⟩ (.int .i64 ai)).setCell ⟨y, 3, none⟩ (.int .i64 al)).setCell ⟨y, 4, none⟩ (.int .i64 an)).setCell ⟨y, 5, none⟩ (.int .i64 ap)).setCell ⟨y, 6, none⟩ (.int .i64 ay)).setCell ⟨y, 7, none⟩ (.int .i64 aA)) w.heap.size (fun k_ => some k_ ≠ (.slice aE ak.length aG : Value).ownBlock ∧ some k_ ≠ (.slice ah I.length ag : Value).ownBlock) (.slice aC aj.length aD) aj) := ⟨Kd.R_mono (rt O.out z.out (by decide)) (fun _ hk => ⟨hk.1, hk.2⟩)⟩
        have bi : Aside0 (Kd.Q k36 36 ((((((((aX.setCell ⟨y, 0, none⟩ (.int .i64 aa)).setCell ⟨y, 1, none⟩ (.int .i64 af)).setCell ⟨y, 2, none⟩ (.int .i64 ai)).setCell ⟨y, 3, none⟩ (.int .i64 al)).setCell ⟨y, 4, none⟩ (.int .i64 an)).setCell ⟨y, 5, none⟩ (.int .i64 ap)).setCell ⟨y, 6, none⟩ (.int .i64 ay)).setCell ⟨y, 7, none⟩ (.int .i64 aA)) w.heap.size (fun k_ => some k_ ≠ (.slice ar Y.length au : Value).ownBlock ∧ some k_ ≠ (.slice ac D.length ab : Value).ownBlock) (.slice av Z.length aw) Z) := ⟨Kd.Q_mono (qt T.out z.out (by decide)) (fun _ hk => ⟨hk.1, hk.2⟩)⟩
        have bj : Aside0 (Kd.R k56 56 ((((((((aX.setCell ⟨y, 0, none⟩ (.int .i64 aa)).setCell ⟨y, 1, none⟩ (.int .i64 af)).setCell ⟨y, 2, none⟩ (.int .i64 ai)).setCell ⟨y, 3, none⟩ (.int .i64 al)).setCell ⟨y, 4, none⟩ (.int .i64 an)).setCell ⟨y, 5, none⟩ (.int .i64 ap)).setCell ⟨y, 6, none⟩ (.int .i64 ay)).setCell ⟨y, 7, none⟩ (.int .i64 aA)) w.heap.size (fun k_ => some k_ ≠ (.slice aC aj.length aD : Value).ownBlock ∧ some k_ ≠ (.slice ah I.length ag : Value).ownBlock) (.slice aE ak.length aG) ak) := ⟨Kd.R_mono (rt X.out z.out (by decide)) (fun _ hk => ⟨hk.1, hk.2⟩)⟩
        have bk : Aside0 (Kd.Q k36 36 ((((((((aX.setCell ⟨y, 0, none⟩ (.int .i64 aa)).setCell ⟨y, 1, none⟩ (.int .i64 af)).setCell ⟨y, 2, none⟩ (.int .i64 ai)).setCell ⟨y, 3, none⟩ (.int .i64 al)).setCell ⟨y, 4, none⟩ (.int .i64 an)).setCell ⟨y, 5, none⟩ (.int .i64 ap)).setCell ⟨y, 6, none⟩ (.int .i64 ay)).setCell ⟨y, 7, none⟩ (.int .i64 aA)) w.heap.size (fun k_ => some k_ ≠ (.slice ar Y.length au : Value).ownBlock ∧ some k_ ≠ (.slice av Z.length aw : Value).ownBlock) (.slice ac D.length ab) D) := ⟨Kd.Q_mono (qt ad.out z.out (by decide)) (fun _ hk => ⟨hk.1.2, hk.2⟩)⟩
        have bl : Aside0 (Kd.R k56 56 ((((((((aX.setCell ⟨y, 0, none⟩ (.int .i64 aa)).setCell ⟨y, 1, none⟩ (.int .i64 af)).setCell ⟨y, 2, none⟩ (.int .i64 ai)).setCell ⟨y, 3, none⟩ (.int .i64 al)).setCell ⟨y, 4, none⟩ (.int .i64 an)).setCell ⟨y, 5, none⟩ (.int .i64 ap)).setCell ⟨y, 6, none⟩ (.int .i64 ay)).setCell ⟨y, 7, none⟩ (.int .i64 aA)) w.heap.size (fun k_ => some k_ ≠ (.slice aC aj.length aD : Value).ownBlock ∧ some k_ ≠ (.slice aE ak.length aG : Value).ownBlock) (.slice ah I.length ag) I) := ⟨Kd.R_mono (rt ae.out z.out (by decide)) (fun _ hk => ⟨hk.1.2, hk.2⟩)⟩
        have bm : Aside0 (((((((((aX.setCell ⟨y, 0, none⟩ (.int .i64 aa)).setCell ⟨y, 1, none⟩ (.int .i64 af)).setCell ⟨y, 2, none⟩ (.int .i64 ai)).setCell ⟨y, 3, none⟩ (.int .i64 al)).setCell ⟨y, 4, none⟩ (.int .i64 an)).setCell ⟨y, 5, none⟩ (.int .i64 ap)).setCell ⟨y, 6, none⟩ (.int .i64 ay)).setCell ⟨y, 7, none⟩ (.int .i64 aA)).heap[a1]? = some (.cells #[.slice ar Y.length au, .slice aC aj.length aD] 34 (0, 0))) := ⟨bf J.out⟩
        have bn : Aside0 (((((((((aX.setCell ⟨y, 0, none⟩ (.int .i64 aa)).setCell ⟨y, 1, none⟩ (.int .i64 af)).setCell ⟨y, 2, none⟩ (.int .i64 ai)).setCell ⟨y, 3, none⟩ (.int .i64 al)).setCell ⟨y, 4, none⟩ (.int .i64 an)).setCell ⟨y, 5, none⟩ (.int .i64 ap)).setCell ⟨y, 6, none⟩ (.int .i64 ay)).setCell ⟨y, 7, none⟩ (.int .i64 aA)).heap[a2]? = some (.cells #[.slice av Z.length aw, .slice aE ak.length aG] 34 (0, 0))) := ⟨bf L.out⟩
        have bo : Aside0 (((((((((aX.setCell ⟨y, 0, none⟩ (.int .i64 aa)).setCell ⟨y, 1, none⟩ (.int .i64 af)).setCell ⟨y, 2, none⟩ (.int .i64 ai)).setCell ⟨y, 3, none⟩ (.int .i64 al)).setCell ⟨y, 4, none⟩ (.int .i64 an)).setCell ⟨y, 5, none⟩ (.int .i64 ap)).setCell ⟨y, 6, none⟩ (.int .i64 ay)).setCell ⟨y, 7, none⟩ (.int .i64 aA)).heap[a8]? = some (.cells #[.slice ac D.length ab, .slice ah I.length ag] 34 (0, 0))) := ⟨bf G.out⟩
        have br : Aside0 (((((((((aX.setCell ⟨y, 0, none⟩ (.int .i64 aa)).setCell ⟨y, 1, none⟩ (.int .i64 af)).setCell ⟨y, 2, none⟩ (.int .i64 ai)).setCell ⟨y, 3, none⟩ (.int .i64 al)).setCell ⟨y, 4, none⟩ (.int .i64 an)).setCell ⟨y, 5, none⟩ (.int .i64 ap)).setCell ⟨y, 6, none⟩ (.int .i64 ay)).setCell ⟨y, 7, none⟩ (.int .i64 aA)).heap[y]? = some (.cells #[.int .i64 aa, .int .i64 af, .int .i64 ai, .int .i64 al, .int .i64 an, .int .i64 ap, .int .i64 ay, .int .i64 aA] 58 (0, 0))) := ⟨by (with_reducible repeat (first | refine blk_drewN ?_ _ | refine blk_drew ?_ | refine blk_alloc ?_ _)); refine blk_put (cs := #[.int .i64 aa, .int .i64 af, .int .i64 ai, .int .i64 al, .int .i64 an, .int .i64 ap, .int .i64 ay, .int .i64 0]) ?_ 7 _ rfl; (with_reducible repeat (first | refine blk_drewN ?_ _ | refine blk_drew ?_ | refine blk_alloc ?_ _)); refine blk_put (cs := #[.int .i64 aa, .int .i64 af, .int .i64 ai, .int .i64 al, .int .i64 an, .int .i64 ap, .int .i64 0, .int .i64 0]) ?_ 6 _ rfl; (with_reducible repeat (first | refine blk_drewN ?_ _ | refine blk_drew ?_ | refine blk_alloc ?_ _)); refine blk_put (cs := #[.int .i64 aa, .int .i64 af, .int .i64 ai, .int .i64 al, .int .i64 an, .int .i64 0, .int .i64 0, .int .i64 0]) ?_ 5 _ rfl; (with_reducible repeat (first | refine blk_drewN ?_ _ | refine blk_drew ?_ | refine blk_alloc ?_ _)); refine blk_put (cs := #[.int .i64 aa, .int .i64 af, .int .i64 ai, .int .i64 al, .int .i64 0, .int .i64 0, .int .i64 0, .int .i64 0]) ?_ 4 _ rfl; (with_reducible repeat (first | refine blk_drewN ?_ _ | refine blk_drew ?_ | refine blk_alloc ?_ _)); refine blk_put (cs := #[.int .i64 aa, .int .i64 af, .int .i64 ai, .int .i64 0, .int .i64 0, .int .i64 0, .int .i64 0, .int .i64 0]) ?_ 3 _ rfl; (with_reducible repeat (first | refine blk_drewN ?_ _ | refine blk_drew ?_ | refine blk_alloc ?_ _)); refine blk_put (cs := #[.int .i64 aa, .int .i64 af, .int .i64 0, .int .i64 0, .int .i64 0, .int .i64 0, .int .i64 0, .int .i64 0]) ?_ 2 _ rfl; (with_reducible repeat (first | refine blk_drewN ?_ _ | refine blk_drew ?_ | refine blk_alloc ?_ _)); refine blk_put (cs := #[.int .i64 aa, .int .i64 0, .int .i64 0, .int .i64 0, .int .i64 0, .int .i64 0, .int .i64 0, .int .i64 0]) ?_ 1 _ rfl; (with_reducible repeat (first | refine blk_drewN ?_ _ | refine blk_drew ?_ | refine blk_alloc ?_ _)); refine blk_put (cs := #[.int .i64 0, .int .i64 0, .int .i64 0, .int .i64 0, .int .i64 0, .int .i64 0, .int .i64 0, .int .i64 0]) ?_ 0 _ rfl; exact bf z.out⟩
        have bt : Aside0 (Below w.heap.size w ((((((((aX.setCell ⟨y, 0, none⟩ (.int .i64 aa)).setCell ⟨y, 1, none⟩ (.int .i64 af)).setCell ⟨y, 2, none⟩ (.int .i64 ai)).setCell ⟨y, 3, none⟩ (.int .i64 al)).setCell ⟨y, 4, none⟩ (.int .i64 an)).setCell ⟨y, 5, none⟩ (.int .i64 ap)).setCell ⟨y, 6, none⟩ (.int .i64 ay)).setCell ⟨y, 7, none⟩ (.int .i64 aA))) := ⟨bs HB.out⟩
        (try clear M)
        (try clear O)
        (try clear T)
        (try clear X)
        (try clear ad)
        (try clear ae)
        (try clear J)
        (try clear L)
        (try clear G)
        (try clear z)
        (try clear HB)
        generalize ((((((((aX.setCell ⟨y, 0, none⟩ (.int .i64 aa)).setCell ⟨y, 1, none⟩ (.int .i64 af)).setCell ⟨y, 2, none⟩ (.int .i64 ai)).setCell ⟨y, 3, none⟩ (.int .i64 al)).setCell ⟨y, 4, none⟩ (.int .i64 an)).setCell ⟨y, 5, none⟩ (.int .i64 ap)).setCell ⟨y, 6, none⟩ (.int .i64 ay)).setCell ⟨y, 7, none⟩ (.int .i64 aA)) = fv at bg bh bi bj bk bl bm bn bo br bt ⊢
        have M := bg
        have O := bh
        have T := bi
        have X := bj
        have ad := bk
        have ae := bl
        have J := bm
        have L := bn
        have G := bo
        have z := br
        have HB := bt
        clear bg bh bi bj bk bl bm bn bo br bt
        replace M := rd_ M
        replace O := rd_ O
        replace T := qd T
        replace X := rd_ X
        replace ad := qd ad
        replace ae := rd_ ae
        replace J := bd J
        replace L := bd L
        replace G := bd G
        replace z := bd z
        replace HB := hd HB
        refine sta 41 (fun w' => w'.cell? ⟨a1, 0, none⟩ = some (.slice ar Y.length au) ∧ w'.cell? ⟨a1, 1, none⟩ = some (.slice aC aj.length aD) ∧ w'.cell? ⟨a2, 0, none⟩ = some (.slice av Z.length aw) ∧ w'.cell? ⟨a2, 1, none⟩ = some (.slice aE ak.length aG) ∧ w'.cell? ⟨a8, 0, none⟩ = some (.slice ac D.length ab) ∧ w'.cell? ⟨a8, 1, none⟩ = some (.slice ah I.length ag) ∧ w'.cell? ⟨y, 0, none⟩ = some (.int .i64 aa) ∧ w'.cell? ⟨y, 1, none⟩ = some (.int .i64 af) ∧ w'.cell? ⟨y, 2, none⟩ = some (.int .i64 ai) ∧ w'.cell? ⟨y, 3, none⟩ = some (.int .i64 al) ∧ w'.cell? ⟨y, 4, none⟩ = some (.int .i64 an) ∧ w'.cell? ⟨y, 5, none⟩ = some (.int .i64 ap) ∧ w'.cell? ⟨y, 6, none⟩ = some (.int .i64 ay) ∧ w'.cell? ⟨y, 7, none⟩ = some (.int .i64 aA)) [] ⟨cx J 0, cx J 1, cx L 0, cx L 1, cx G 0, cx G 1, cx z 0, cx z 1, cx z 2, cx z 3, cx z 4, cx z 5, cx z 6, cx z 7⟩ (fun hHeld => ?_); refine with_tabW laws_FnGraphBent.tab6 laws_FnGraphBent.bits6 (fun HT_ HW_ => ?_)
        generalize fv.drew = hH at M O T X ad ae J L G z HB hHeld ⊢
        refine tk 0 22 ?_
        refine tk 1 23 ?_
        refine tk 3 25 ?_
        refine tk 4 26 ?_
        refine on 2 24 (fun K hK => ?_)
        refine gs Try.func41 #[.agg #[.slice ar Y.length au, .slice aC aj.length aD], .agg #[.slice av Z.length aw, .slice aE ak.length aG]] ?_
        with_reducible refine (impl_GraphSame.calls k _ _ Y _ _ aj _ _ Z _ _ ak bV _ ?aK ?aM ?aU ?aV ?a4 ?a5 ?a6 ?a7 b7.out).mono ?_
        (case aK => exact cr M)
        (case aM => exact cc M)
        (case aU => exact cr O)
        (case aV => exact cc O)
        (case a4 => exact cq T)
        (case a5 => exact cd T)
        (case a6 => exact cr X)
        (case a7 => exact cc X)
        rintro e hI ⟨rfl, hb⟩
        refine ⟨_, rfl, ?_⟩
        replace M := rb M hb
        replace O := rb O hb
        replace T := qb T hb
        replace X := rb X hb
        replace ad := qb ad hb
        replace ae := rb ae hb
        replace J := bb J hb rfl
        replace L := bb L hb rfl
        replace G := bb G hb rfl
        replace z := bb z hb rfl
        replace HB := hs HB hb
        (try clear hb)
        (try clear hb2)
        (try clear hk)
        (try clear hi)
        refine hK.out _ _ ⟨cx J 0, cx J 1, cx L 0, cx L 1, cx G 0, cx G 1, cx z 0, cx z 1, cx z 2, cx z 3, cx z 4, cx z 5, cx z 6, cx z 7⟩ (fun hHeld => ?_)
        clear hK K
        refine nrm 24 ?_
        refine on 5 27 (fun K hK => ?_)
        refine gs Try.func42 #[.agg #[.slice ar Y.length au, .slice aC aj.length aD], .agg #[.slice av Z.length aw, .slice aE ak.length aG]] ?_
        with_reducible refine (spec_GraphSame.calls k _ _ Y _ _ aj _ _ Z _ _ ak bW _ ?aK ?aM ?aU ?aV ?a4 ?a5 ?a6 ?a7 ct.out).mono ?_
        (case aK => exact cr M)
        (case aM => exact cc M)
        (case aU => exact cr O)
        (case aV => exact cc O)
        (case a4 => exact cq T)
        (case a5 => exact cd T)
        (case a6 => exact cr X)
        (case a7 => exact cc X)
        rintro e hJ ⟨rfl, hb⟩
        refine ⟨_, rfl, ?_⟩
        replace M := rb M hb
        replace O := rb O hb
        replace T := qb T hb
        replace X := rb X hb
        replace ad := qb ad hb
        replace ae := rb ae hb
        replace J := bb J hb rfl
        replace L := bb L hb rfl
        replace G := bb G hb rfl
        replace z := bb z hb rfl
        replace HB := hs HB hb
        (try clear hb)
        (try clear hb2)
        (try clear hk)
        (try clear hi)
        refine hK.out _ _ ⟨cx J 0, cx J 1, cx L 0, cx L 1, cx G 0, cx G 1, cx z 0, cx z 1, cx z 2, cx z 3, cx z 4, cx z 5, cx z 6, cx z 7⟩ (fun hHeld => ?_)
        clear hK K
        refine nrm 27 ?_
        refine pu 6 28 ?_
        refine pu 7 29 ?_
        refine tk 8 30 ?_
        refine tk 9 31 ?_
        refine tk 11 33 ?_
        refine tk 12 34 ?_
        refine on 10 32 (fun K hK => ?_)
        refine gs Try.func41 #[.agg #[.slice ar Y.length au, .slice aC aj.length aD], .agg #[.slice av Z.length aw, .slice aE ak.length aG]] ?_
        with_reducible refine (impl_GraphSame.calls k _ _ Y _ _ aj _ _ Z _ _ ak bZ _ ?aK ?aM ?aU ?aV ?a4 ?a5 ?a6 ?a7 cA.out).mono ?_
        (case aK => exact cr M)
        (case aM => exact cc M)
        (case aU => exact cr O)
        (case aV => exact cc O)
        (case a4 => exact cq T)
        (case a5 => exact cd T)
        (case a6 => exact cr X)
        (case a7 => exact cc X)
        rintro e hL ⟨rfl, hb⟩
        refine ⟨_, rfl, ?_⟩
        replace M := rb M hb
        replace O := rb O hb
        replace T := qb T hb
        replace X := rb X hb
        replace ad := qb ad hb
        replace ae := rb ae hb
        replace J := bb J hb rfl
        replace L := bb L hb rfl
        replace G := bb G hb rfl
        replace z := bb z hb rfl
        replace HB := hs HB hb
        (try clear hb)
        (try clear hb2)
        (try clear hk)
        (try clear hi)
        refine hK.out _ _ ⟨cx J 0, cx J 1, cx L 0, cx L 1, cx G 0, cx G 1, cx z 0, cx z 1, cx z 2, cx z 3, cx z 4, cx z 5, cx z 6, cx z 7⟩ (fun hHeld => ?_)
        clear hK K
        refine nrm 32 ?_
        refine on 13 35 (fun K hK => ?_)
        refine gs Try.func41 #[.agg #[.slice av Z.length aw, .slice aE ak.length aG], .agg #[.slice ar Y.length au, .slice aC aj.length aD]] ?_
        with_reducible refine (impl_GraphSame.calls k _ _ Z _ _ ak _ _ Y _ _ aj b0 _ ?aK ?aM ?aU ?aV ?a4 ?a5 ?a6 ?a7 cB.out).mono ?_
        (case aK => exact cq T)
        (case aM => exact cd T)
        (case aU => exact cr X)
        (case aV => exact cc X)
        (case a4 => exact cr M)
        (case a5 => exact cc M)
        (case a6 => exact cr O)
        (case a7 => exact cc O)
        rintro e hM ⟨rfl, hb⟩
        refine ⟨_, rfl, ?_⟩
        replace M := rb M hb
        replace O := rb O hb
        replace T := qb T hb
        replace X := rb X hb
        replace ad := qb ad hb
        replace ae := rb ae hb
        replace J := bb J hb rfl
        replace L := bb L hb rfl
        replace G := bb G hb rfl
        replace z := bb z hb rfl
        replace HB := hs HB hb
        (try clear hb)
        (try clear hb2)
        (try clear hk)
        (try clear hi)
        refine hK.out _ _ ⟨cx J 0, cx J 1, cx L 0, cx L 1, cx G 0, cx G 1, cx z 0, cx z 1, cx z 2, cx z 3, cx z 4, cx z 5, cx z 6, cx z 7⟩ (fun hHeld => ?_)
        clear hK K
        refine nrm 35 ?_
        refine pu 14 36 ?_
        refine pu 15 37 ?_
        refine pu 16 38 ?_
        refine tk 17 39 ?_
        refine tk 18 40 ?_
        refine on 19 41 (fun K hK => ?_)
        refine gs Try.func41 #[.agg #[.slice ac D.length ab, .slice ah I.length ag], .agg #[.slice ac D.length ab, .slice ah I.length ag]] ?_
        with_reducible refine (impl_GraphSame.calls k _ _ D _ _ I _ _ D _ _ I true _ ?aK ?aM ?aU ?aV ?a4 ?a5 ?a6 ?a7 cT.out).mono ?_
        (case aK => exact cq ad)
        (case aM => exact cd ad)
        (case aU => exact cr ae)
        (case aV => exact cc ae)
        (case a4 => exact cq ad)
        (case a5 => exact cd ad)
        (case a6 => exact cr ae)
        (case a7 => exact cc ae)
        rintro e hO ⟨rfl, hb⟩
        refine ⟨_, rfl, ?_⟩
        replace M := rb M hb
        replace O := rb O hb
        replace T := qb T hb
        replace X := rb X hb
        replace ad := qb ad hb
        replace ae := rb ae hb
        replace J := bb J hb rfl
        replace L := bb L hb rfl
        replace G := bb G hb rfl
        replace z := bb z hb rfl
        replace HB := hs HB hb
        (try clear hb)
        (try clear hb2)
        (try clear hk)
        (try clear hi)
        refine hK.out _ _ ⟨cx J 0, cx J 1, cx L 0, cx L 1, cx G 0, cx G 1, cx z 0, cx z 1, cx z 2, cx z 3, cx z 4, cx z 5, cx z 6, cx z 7⟩ (fun hHeld => ?_)
        clear hK K
        refine nrm 41 ?_
        refine pu 20 42 ?_
        refine pu 21 43 ?_
        refine pu 22 44 ?_
        refine tk 23 45 ?_
        refine tk 25 47 ?_
        refine on 24 46 (fun K hK => ?_)
        refine gs Try.func34 #[.agg #[.slice ac D.length ab, .slice ah I.length ag]] ?_
        with_reducible refine (impl_GraphOk.calls k _ _ D _ _ I b1 _ ?aK ?aM ?aU ?aV dk.out).mono ?_
        (case aK => exact cq ad)
        (case aM => exact cd ad)
        (case aU => exact cr ae)
        (case aV => exact cc ae)
        rintro e hP ⟨rfl, hb⟩
        refine ⟨_, rfl, ?_⟩
        replace M := rb M hb
        replace O := rb O hb
        replace T := qb T hb
        replace X := rb X hb
        replace ad := qb ad hb
        replace ae := rb ae hb
        replace J := bb J hb rfl
        replace L := bb L hb rfl
        replace G := bb G hb rfl
        replace z := bb z hb rfl
        replace HB := hs HB hb
        (try clear hb)
        (try clear hb2)
        (try clear hk)
        (try clear hi)
        refine hK.out _ _ ⟨cx J 0, cx J 1, cx L 0, cx L 1, cx G 0, cx G 1, cx z 0, cx z 1, cx z 2, cx z 3, cx z 4, cx z 5, cx z 6, cx z 7⟩ (fun hHeld => ?_)
        clear hK K
        refine nrm 46 ?_
        refine on 26 48 (fun K hK => ?_)
        refine gs Try.func33 #[.agg #[.slice ac D.length ab, .slice ah I.length ag]] ?_
        with_reducible refine (spec_GraphOk.calls k _ _ D _ _ I b2 _ ?aK ?aM ?aU ?aV dl.out).mono ?_
        (case aK => exact cq ad)
        (case aM => exact cd ad)
        (case aU => exact cr ae)
        (case aV => exact cc ae)
        rintro e hR ⟨rfl, hb⟩
        refine ⟨_, rfl, ?_⟩
        replace M := rb M hb
        replace O := rb O hb
        replace T := qb T hb
        replace X := rb X hb
        replace ad := qb ad hb
        replace ae := rb ae hb
        replace J := bb J hb rfl
        replace L := bb L hb rfl
        replace G := bb G hb rfl
        replace z := bb z hb rfl
        replace HB := hs HB hb
        (try clear hb)
        (try clear hb2)
        (try clear hk)
        (try clear hi)
        refine hK.out _ _ ⟨cx J 0, cx J 1, cx L 0, cx L 1, cx G 0, cx G 1, cx z 0, cx z 1, cx z 2, cx z 3, cx z 4, cx z 5, cx z 6, cx z 7⟩ (fun hHeld => ?_)
        clear hK K
        refine nrm 48 ?_
        refine pu 27 49 ?_
        refine pu 28 50 ?_
        refine pu 29 51 ?_
        refine tk 30 52 ?_
        refine tk 32 54 ?_
        refine on 31 53 (fun K hK => ?_)
        refine gs Try.func43 #[.agg #[.int .i64 aa, .int .i64 af, .int .i64 ai, .int .i64 al, .int .i64 an, .int .i64 ap, .int .i64 ay, .int .i64 aA]] ?_
        with_reducible refine (impl_OpLabel.calls k aa af ai al an ap ay aA b8 _ el.out).mono ?_
        rintro e hU ⟨rfl, hb⟩
        refine ⟨_, rfl, ?_⟩
        replace M := rb M hb
        replace O := rb O hb
        replace T := qb T hb
        replace X := rb X hb
        replace ad := qb ad hb
        replace ae := rb ae hb
        replace J := bb J hb rfl
        replace L := bb L hb rfl
        replace G := bb G hb rfl
        replace z := bb z hb rfl
        replace HB := hs HB hb
        (try clear hb)
        (try clear hb2)
        (try clear hk)
        (try clear hi)
        refine hK.out _ _ ⟨cx J 0, cx J 1, cx L 0, cx L 1, cx G 0, cx G 1, cx z 0, cx z 1, cx z 2, cx z 3, cx z 4, cx z 5, cx z 6, cx z 7⟩ (fun hHeld => ?_)
        clear hK K
        refine nrm 53 ?_
        refine on 33 55 (fun K hK => ?_)
        refine gs Try.func44 #[.agg #[.int .i64 aa, .int .i64 af, .int .i64 ai, .int .i64 al, .int .i64 an, .int .i64 ap, .int .i64 ay, .int .i64 aA]] ?_
        with_reducible refine (spec_OpLabel.calls k aa af ai al an ap ay aA b9 _ en.out).mono ?_
        rintro e hV ⟨rfl, hb⟩
        refine ⟨_, rfl, ?_⟩
        replace M := rb M hb
        replace O := rb O hb
        replace T := qb T hb
        replace X := rb X hb
        replace ad := qb ad hb
        replace ae := rb ae hb
        replace J := bb J hb rfl
        replace L := bb L hb rfl
        replace G := bb G hb rfl
        replace z := bb z hb rfl
        replace HB := hs HB hb
        (try clear hb)
        (try clear hb2)
        (try clear hk)
        (try clear hi)
        refine hK.out _ _ ⟨cx J 0, cx J 1, cx L 0, cx L 1, cx G 0, cx G 1, cx z 0, cx z 1, cx z 2, cx z 3, cx z 4, cx z 5, cx z 6, cx z 7⟩ (fun hHeld => ?_)
        clear hK K
        refine nrm 55 ?_
        refine pu 34 56 ?_
        refine pu 35 57 ?_
        refine pu 36 58 ?_
        refine ud 37 59 ?_
        refine ud 38 60 ?_
        refine ud 39 61 ?_
        refine pu 40 62 ?_
        refine dn ?_
        try go_wp2
        go_meet
        case rel => exact ⟨_, (true), eqs, H', ⟨by first | omega | exact Nat.le_refl _⟩, ⟨rl M.out⟩, ⟨rl O.out⟩, ⟨qf T.out⟩, ⟨rl X.out⟩, ⟨qf ad.out⟩, ⟨rl ae.out⟩, ⟨bf J.out⟩, ⟨bf L.out⟩, ⟨bf G.out⟩, ⟨bf z.out⟩, ⟨bs HB.out⟩⟩
     ·replace cU := Bool.eq_false_iff.mpr cU
      subst cU
      have H1 : (laws_FnGraphBent.j0 k true D I) = some r := by rw [if_neg (show ¬ (false = true) by decide)] at H; exact H
      clear H
      have H := H1
      clear H1
      have H' := am H
      clear H
      try go_wp2
      have bg : Aside0 (Kd.R k36 36 ((((((((aX.setCell ⟨y, 0, none⟩ (.int .i64 aa)).setCell ⟨y, 1, none⟩ (.int .i64 af)).setCell ⟨y, 2, none⟩ (.int .i64 ai)).setCell ⟨y, 3, none⟩ (.int .i64 al)).setCell ⟨y, 4, none⟩ (.int .i64 an)).setCell ⟨y, 5, none⟩ (.int .i64 ap)).setCell ⟨y, 6, none⟩ (.int .i64 ay)).setCell ⟨y, 7, none⟩ (.int .i64 aA)) w.heap.size (fun k_ => some k_ ≠ (.slice av Z.length aw : Value).ownBlock ∧ some k_ ≠ (.slice ac D.length ab : Value).ownBlock) (.slice ar Y.length au) Y) := ⟨Kd.R_mono (rt M.out z.out (by decide)) (fun _ hk => ⟨hk.1, hk.2⟩)⟩
      have bh : Aside0 (Kd.R k56 56 ((((((((aX.setCell ⟨y, 0, none⟩ (.int .i64 aa)).setCell ⟨y, 1, none⟩ (.int .i64 af)).setCell ⟨y, 2, none⟩ (.int .i64 ai)).setCell ⟨y, 3, none⟩ (.int .i64 al)).setCell ⟨y, 4, none⟩ (.int .i64 an)).setCell ⟨y, 5, none⟩ (.int .i64 ap)).setCell ⟨y, 6, none⟩ (.int .i64 ay)).setCell ⟨y, 7, none⟩ (.int .i64 aA)) w.heap.size (fun k_ => some k_ ≠ (.slice aE ak.length aG : Value).ownBlock ∧ some k_ ≠ (.slice ah I.length ag : Value).ownBlock) (.slice aC aj.length aD) aj) := ⟨Kd.R_mono (rt O.out z.out (by decide)) (fun _ hk => ⟨hk.1, hk.2⟩)⟩
      have bi : Aside0 (Kd.Q k36 36 ((((((((aX.setCell ⟨y, 0, none⟩ (.int .i64 aa)).setCell ⟨y, 1, none⟩ (.int .i64 af)).setCell ⟨y, 2, none⟩ (.int .i64 ai)).setCell ⟨y, 3, none⟩ (.int .i64 al)).setCell ⟨y, 4, none⟩ (.int .i64 an)).setCell ⟨y, 5, none⟩ (.int .i64 ap)).setCell ⟨y, 6, none⟩ (.int .i64 ay)).setCell ⟨y, 7, none⟩ (.int .i64 aA)) w.heap.size (fun k_ => some k_ ≠ (.slice ar Y.length au : Value).ownBlock ∧ some k_ ≠ (.slice ac D.length ab : Value).ownBlock) (.slice av Z.length aw) Z) := ⟨Kd.Q_mono (qt T.out z.out (by decide)) (fun _ hk => ⟨hk.1, hk.2⟩)⟩
      have bj : Aside0 (Kd.R k56 56 ((((((((aX.setCell ⟨y, 0, none⟩ (.int .i64 aa)).setCell ⟨y, 1, none⟩ (.int .i64 af)).setCell ⟨y, 2, none⟩ (.int .i64 ai)).setCell ⟨y, 3, none⟩ (.int .i64 al)).setCell ⟨y, 4, none⟩ (.int .i64 an)).setCell ⟨y, 5, none⟩ (.int .i64 ap)).setCell ⟨y, 6, none⟩ (.int .i64 ay)).setCell ⟨y, 7, none⟩ (.int .i64 aA)) w.heap.size (fun k_ => some k_ ≠ (.slice aC aj.length aD : Value).ownBlock ∧ some k_ ≠ (.slice ah I.length ag : Value).ownBlock) (.slice aE ak.length aG) ak) := ⟨Kd.R_mono (rt X.out z.out (by decide)) (fun _ hk => ⟨hk.1, hk.2⟩)⟩
      have bk : Aside0 (Kd.Q k36 36 ((((((((aX.setCell ⟨y, 0, none⟩ (.int .i64 aa)).setCell ⟨y, 1, none⟩ (.int .i64 af)).setCell ⟨y, 2, none⟩ (.int .i64 ai)).setCell ⟨y, 3, none⟩ (.int .i64 al)).setCell ⟨y, 4, none⟩ (.int .i64 an)).setCell ⟨y, 5, none⟩ (.int .i64 ap)).setCell ⟨y, 6, none⟩ (.int .i64 ay)).setCell ⟨y, 7, none⟩ (.int .i64 aA)) w.heap.size (fun k_ => some k_ ≠ (.slice ar Y.length au : Value).ownBlock ∧ some k_ ≠ (.slice av Z.length aw : Value).ownBlock) (.slice ac D.length ab) D) := ⟨Kd.Q_mono (qt ad.out z.out (by decide)) (fun _ hk => ⟨hk.1.2, hk.2⟩)⟩
      have bl : Aside0 (Kd.R k56 56 ((((((((aX.setCell ⟨y, 0, none⟩ (.int .i64 aa)).setCell ⟨y, 1, none⟩ (.int .i64 af)).setCell ⟨y, 2, none⟩ (.int .i64 ai)).setCell ⟨y, 3, none⟩ (.int .i64 al)).setCell ⟨y, 4, none⟩ (.int .i64 an)).setCell ⟨y, 5, none⟩ (.int .i64 ap)).setCell ⟨y, 6, none⟩ (.int .i64 ay)).setCell ⟨y, 7, none⟩ (.int .i64 aA)) w.heap.size (fun k_ => some k_ ≠ (.slice aC aj.length aD : Value).ownBlock ∧ some k_ ≠ (.slice aE ak.length aG : Value).ownBlock) (.slice ah I.length ag) I) := ⟨Kd.R_mono (rt ae.out z.out (by decide)) (fun _ hk => ⟨hk.1.2, hk.2⟩)⟩
      have bm : Aside0 (((((((((aX.setCell ⟨y, 0, none⟩ (.int .i64 aa)).setCell ⟨y, 1, none⟩ (.int .i64 af)).setCell ⟨y, 2, none⟩ (.int .i64 ai)).setCell ⟨y, 3, none⟩ (.int .i64 al)).setCell ⟨y, 4, none⟩ (.int .i64 an)).setCell ⟨y, 5, none⟩ (.int .i64 ap)).setCell ⟨y, 6, none⟩ (.int .i64 ay)).setCell ⟨y, 7, none⟩ (.int .i64 aA)).heap[a1]? = some (.cells #[.slice ar Y.length au, .slice aC aj.length aD] 34 (0, 0))) := ⟨bf J.out⟩
      have bn : Aside0 (((((((((aX.setCell ⟨y, 0, none⟩ (.int .i64 aa)).setCell ⟨y, 1, none⟩ (.int .i64 af)).setCell ⟨y, 2, none⟩ (.int .i64 ai)).setCell ⟨y, 3, none⟩ (.int .i64 al)).setCell ⟨y, 4, none⟩ (.int .i64 an)).setCell ⟨y, 5, none⟩ (.int .i64 ap)).setCell ⟨y, 6, none⟩ (.int .i64 ay)).setCell ⟨y, 7, none⟩ (.int .i64 aA)).heap[a2]? = some (.cells #[.slice av Z.length aw, .slice aE ak.length aG] 34 (0, 0))) := ⟨bf L.out⟩
      have bo : Aside0 (((((((((aX.setCell ⟨y, 0, none⟩ (.int .i64 aa)).setCell ⟨y, 1, none⟩ (.int .i64 af)).setCell ⟨y, 2, none⟩ (.int .i64 ai)).setCell ⟨y, 3, none⟩ (.int .i64 al)).setCell ⟨y, 4, none⟩ (.int .i64 an)).setCell ⟨y, 5, none⟩ (.int .i64 ap)).setCell ⟨y, 6, none⟩ (.int .i64 ay)).setCell ⟨y, 7, none⟩ (.int .i64 aA)).heap[a8]? = some (.cells #[.slice ac D.length ab, .slice ah I.length ag] 34 (0, 0))) := ⟨bf G.out⟩
      have br : Aside0 (((((((((aX.setCell ⟨y, 0, none⟩ (.int .i64 aa)).setCell ⟨y, 1, none⟩ (.int .i64 af)).setCell ⟨y, 2, none⟩ (.int .i64 ai)).setCell ⟨y, 3, none⟩ (.int .i64 al)).setCell ⟨y, 4, none⟩ (.int .i64 an)).setCell ⟨y, 5, none⟩ (.int .i64 ap)).setCell ⟨y, 6, none⟩ (.int .i64 ay)).setCell ⟨y, 7, none⟩ (.int .i64 aA)).heap[y]? = some (.cells #[.int .i64 aa, .int .i64 af, .int .i64 ai, .int .i64 al, .int .i64 an, .int .i64 ap, .int .i64 ay, .int .i64 aA] 58 (0, 0))) := ⟨by (with_reducible repeat (first | refine blk_drewN ?_ _ | refine blk_drew ?_ | refine blk_alloc ?_ _)); refine blk_put (cs := #[.int .i64 aa, .int .i64 af, .int .i64 ai, .int .i64 al, .int .i64 an, .int .i64 ap, .int .i64 ay, .int .i64 0]) ?_ 7 _ rfl; (with_reducible repeat (first | refine blk_drewN ?_ _ | refine blk_drew ?_ | refine blk_alloc ?_ _)); refine blk_put (cs := #[.int .i64 aa, .int .i64 af, .int .i64 ai, .int .i64 al, .int .i64 an, .int .i64 ap, .int .i64 0, .int .i64 0]) ?_ 6 _ rfl; (with_reducible repeat (first | refine blk_drewN ?_ _ | refine blk_drew ?_ | refine blk_alloc ?_ _)); refine blk_put (cs := #[.int .i64 aa, .int .i64 af, .int .i64 ai, .int .i64 al, .int .i64 an, .int .i64 0, .int .i64 0, .int .i64 0]) ?_ 5 _ rfl; (with_reducible repeat (first | refine blk_drewN ?_ _ | refine blk_drew ?_ | refine blk_alloc ?_ _)); refine blk_put (cs := #[.int .i64 aa, .int .i64 af, .int .i64 ai, .int .i64 al, .int .i64 0, .int .i64 0, .int .i64 0, .int .i64 0]) ?_ 4 _ rfl; (with_reducible repeat (first | refine blk_drewN ?_ _ | refine blk_drew ?_ | refine blk_alloc ?_ _)); refine blk_put (cs := #[.int .i64 aa, .int .i64 af, .int .i64 ai, .int .i64 0, .int .i64 0, .int .i64 0, .int .i64 0, .int .i64 0]) ?_ 3 _ rfl; (with_reducible repeat (first | refine blk_drewN ?_ _ | refine blk_drew ?_ | refine blk_alloc ?_ _)); refine blk_put (cs := #[.int .i64 aa, .int .i64 af, .int .i64 0, .int .i64 0, .int .i64 0, .int .i64 0, .int .i64 0, .int .i64 0]) ?_ 2 _ rfl; (with_reducible repeat (first | refine blk_drewN ?_ _ | refine blk_drew ?_ | refine blk_alloc ?_ _)); refine blk_put (cs := #[.int .i64 aa, .int .i64 0, .int .i64 0, .int .i64 0, .int .i64 0, .int .i64 0, .int .i64 0, .int .i64 0]) ?_ 1 _ rfl; (with_reducible repeat (first | refine blk_drewN ?_ _ | refine blk_drew ?_ | refine blk_alloc ?_ _)); refine blk_put (cs := #[.int .i64 0, .int .i64 0, .int .i64 0, .int .i64 0, .int .i64 0, .int .i64 0, .int .i64 0, .int .i64 0]) ?_ 0 _ rfl; exact bf z.out⟩
      have bt : Aside0 (Below w.heap.size w ((((((((aX.setCell ⟨y, 0, none⟩ (.int .i64 aa)).setCell ⟨y, 1, none⟩ (.int .i64 af)).setCell ⟨y, 2, none⟩ (.int .i64 ai)).setCell ⟨y, 3, none⟩ (.int .i64 al)).setCell ⟨y, 4, none⟩ (.int .i64 an)).setCell ⟨y, 5, none⟩ (.int .i64 ap)).setCell ⟨y, 6, none⟩ (.int .i64 ay)).setCell ⟨y, 7, none⟩ (.int .i64 aA))) := ⟨bs HB.out⟩
      (try clear M)
      (try clear O)
      (try clear T)
      (try clear X)
      (try clear ad)
      (try clear ae)
      (try clear J)
      (try clear L)
      (try clear G)
      (try clear z)
      (try clear HB)
      generalize ((((((((aX.setCell ⟨y, 0, none⟩ (.int .i64 aa)).setCell ⟨y, 1, none⟩ (.int .i64 af)).setCell ⟨y, 2, none⟩ (.int .i64 ai)).setCell ⟨y, 3, none⟩ (.int .i64 al)).setCell ⟨y, 4, none⟩ (.int .i64 an)).setCell ⟨y, 5, none⟩ (.int .i64 ap)).setCell ⟨y, 6, none⟩ (.int .i64 ay)).setCell ⟨y, 7, none⟩ (.int .i64 aA)) = fw at bg bh bi bj bk bl bm bn bo br bt ⊢
      have M := bg
      have O := bh
      have T := bi
      have X := bj
      have ad := bk
      have ae := bl
      have J := bm
      have L := bn
      have G := bo
      have z := br
      have HB := bt
      clear bg bh bi bj bk bl bm bn bo br bt
      replace M := rd_ M
      replace O := rd_ O
      replace T := qd T
      replace X := rd_ X
      replace ad := qd ad
      replace ae := rd_ ae
      replace J := bd J
      replace L := bd L
      replace G := bd G
      replace z := bd z
      replace HB := hd HB
      refine sta 41 (fun w' => w'.cell? ⟨a1, 0, none⟩ = some (.slice ar Y.length au) ∧ w'.cell? ⟨a1, 1, none⟩ = some (.slice aC aj.length aD) ∧ w'.cell? ⟨a2, 0, none⟩ = some (.slice av Z.length aw) ∧ w'.cell? ⟨a2, 1, none⟩ = some (.slice aE ak.length aG) ∧ w'.cell? ⟨a8, 0, none⟩ = some (.slice ac D.length ab) ∧ w'.cell? ⟨a8, 1, none⟩ = some (.slice ah I.length ag)) [] ⟨cx J 0, cx J 1, cx L 0, cx L 1, cx G 0, cx G 1⟩ (fun hHeld => ?_); refine with_tabW laws_FnGraphBent.tab6 laws_FnGraphBent.bits6 (fun HT_ HW_ => ?_)
      generalize fw.drew = hW at M O T X ad ae J L G z HB hHeld ⊢
      refine tk 0 22 ?_
      refine tk 1 23 ?_
      refine tk 3 25 ?_
      refine tk 4 26 ?_
      refine on 2 24 (fun K hK => ?_)
      refine gs Try.func41 #[.agg #[.slice ar Y.length au, .slice aC aj.length aD], .agg #[.slice av Z.length aw, .slice aE ak.length aG]] ?_
      with_reducible refine (impl_GraphSame.calls k _ _ Y _ _ aj _ _ Z _ _ ak bV _ ?aK ?aM ?aU ?aV ?a4 ?a5 ?a6 ?a7 b7.out).mono ?_
      (case aK => exact cr M)
      (case aM => exact cc M)
      (case aU => exact cr O)
      (case aV => exact cc O)
      (case a4 => exact cq T)
      (case a5 => exact cd T)
      (case a6 => exact cr X)
      (case a7 => exact cc X)
      rintro e hX ⟨rfl, hb⟩
      refine ⟨_, rfl, ?_⟩
      replace M := rb M hb
      replace O := rb O hb
      replace T := qb T hb
      replace X := rb X hb
      replace ad := qb ad hb
      replace ae := rb ae hb
      replace J := bb J hb rfl
      replace L := bb L hb rfl
      replace G := bb G hb rfl
      replace z := bb z hb rfl
      replace HB := hs HB hb
      (try clear hb)
      (try clear hb2)
      (try clear hk)
      (try clear hi)
      refine hK.out _ _ ⟨cx J 0, cx J 1, cx L 0, cx L 1, cx G 0, cx G 1⟩ (fun hHeld => ?_)
      clear hK K
      refine nrm 24 ?_
      refine on 5 27 (fun K hK => ?_)
      refine gs Try.func42 #[.agg #[.slice ar Y.length au, .slice aC aj.length aD], .agg #[.slice av Z.length aw, .slice aE ak.length aG]] ?_
      with_reducible refine (spec_GraphSame.calls k _ _ Y _ _ aj _ _ Z _ _ ak bW _ ?aK ?aM ?aU ?aV ?a4 ?a5 ?a6 ?a7 ct.out).mono ?_
      (case aK => exact cr M)
      (case aM => exact cc M)
      (case aU => exact cr O)
      (case aV => exact cc O)
      (case a4 => exact cq T)
      (case a5 => exact cd T)
      (case a6 => exact cr X)
      (case a7 => exact cc X)
      rintro e hY ⟨rfl, hb⟩
      refine ⟨_, rfl, ?_⟩
      replace M := rb M hb
      replace O := rb O hb
      replace T := qb T hb
      replace X := rb X hb
      replace ad := qb ad hb
      replace ae := rb ae hb
      replace J := bb J hb rfl
      replace L := bb L hb rfl
      replace G := bb G hb rfl
      replace z := bb z hb rfl
      replace HB := hs HB hb
      (try clear hb)
      (try clear hb2)
      (try clear hk)
      (try clear hi)
      refine hK.out _ _ ⟨cx J 0, cx J 1, cx L 0, cx L 1, cx G 0, cx G 1⟩ (fun hHeld => ?_)
      clear hK K
      refine nrm 27 ?_
      refine pu 6 28 ?_
      refine pu 7 29 ?_
      refine tk 8 30 ?_
      refine tk 9 31 ?_
      refine tk 11 33 ?_
      refine tk 12 34 ?_
      refine on 10 32 (fun K hK => ?_)
      refine gs Try.func41 #[.agg #[.slice ar Y.length au, .slice aC aj.length aD], .agg #[.slice av Z.length aw, .slice aE ak.length aG]] ?_
      with_reducible refine (impl_GraphSame.calls k _ _ Y _ _ aj _ _ Z _ _ ak bZ _ ?aK ?aM ?aU ?aV ?a4 ?a5 ?a6 ?a7 cA.out).mono ?_
      (case aK => exact cr M)
      (case aM => exact cc M)
      (case aU => exact cr O)
      (case aV => exact cc O)
      (case a4 => exact cq T)
      (case a5 => exact cd T)
      (case a6 => exact cr X)
      (case a7 => exact cc X)
      rintro e hZ ⟨rfl, hb⟩
      refine ⟨_, rfl, ?_⟩
      replace M := rb M hb
      replace O := rb O hb
      replace T := qb T hb
      replace X := rb X hb
      replace ad := qb ad hb
      replace ae := rb ae hb
      replace J := bb J hb rfl
      replace L := bb L hb rfl
      replace G := bb G hb rfl
      replace z := bb z hb rfl
      replace HB := hs HB hb
      (try clear hb)
      (try clear hb2)
      (try clear hk)
      (try clear hi)
      refine hK.out _ _ ⟨cx J 0, cx J 1, cx L 0, cx L 1, cx G 0, cx G 1⟩ (fun hHeld => ?_)
      clear hK K
      refine nrm 32 ?_
      refine on 13 35 (fun K hK => ?_)
      refine gs Try.func41 #[.agg #[.slice av Z.length aw, .slice aE ak.length aG], .agg #[.slice ar Y.length au, .slice aC aj.length aD]] ?_
      with_reducible refine (impl_GraphSame.calls k _ _ Z _ _ ak _ _ Y _ _ aj b0 _ ?aK ?aM ?aU ?aV ?a4 ?a5 ?a6 ?a7 cB.out).mono ?_
      (case aK => exact cq T)
      (case aM => exact cd T)
      (case aU => exact cr X)
      (case aV => exact cc X)
      (case a4 => exact cr M)
      (case a5 => exact cc M)
      (case a6 => exact cr O)
      (case a7 => exact cc O)
      rintro e h0 ⟨rfl, hb⟩
      refine ⟨_, rfl, ?_⟩
      replace M := rb M hb
      replace O := rb O hb
      replace T := qb T hb
      replace X := rb X hb
      replace ad := qb ad hb
      replace ae := rb ae hb
      replace J := bb J hb rfl
      replace L := bb L hb rfl
      replace G := bb G hb rfl
      replace z := bb z hb rfl
      replace HB := hs HB hb
      (try clear hb)
      (try clear hb2)
      (try clear hk)
      (try clear hi)
      refine hK.out _ _ ⟨cx J 0, cx J 1, cx L 0, cx L 1, cx G 0, cx G 1⟩ (fun hHeld => ?_)
      clear hK K
      refine nrm 35 ?_
      refine pu 14 36 ?_
      refine pu 15 37 ?_
      refine pu 16 38 ?_
      refine tk 17 39 ?_
      refine tk 18 40 ?_
      refine on 19 41 (fun K hK => ?_)
      refine gs Try.func41 #[.agg #[.slice ac D.length ab, .slice ah I.length ag], .agg #[.slice ac D.length ab, .slice ah I.length ag]] ?_
      with_reducible refine (impl_GraphSame.calls k _ _ D _ _ I _ _ D _ _ I false _ ?aK ?aM ?aU ?aV ?a4 ?a5 ?a6 ?a7 cT.out).mono ?_
      (case aK => exact cq ad)
      (case aM => exact cd ad)
      (case aU => exact cr ae)
      (case aV => exact cc ae)
      (case a4 => exact cq ad)
      (case a5 => exact cd ad)
      (case a6 => exact cr ae)
      (case a7 => exact cc ae)
      rintro e h1 ⟨rfl, hb⟩
      refine ⟨_, rfl, ?_⟩
      replace M := rb M hb
      replace O := rb O hb
      replace T := qb T hb
      replace X := rb X hb
      replace ad := qb ad hb
      replace ae := rb ae hb
      replace J := bb J hb rfl
      replace L := bb L hb rfl
      replace G := bb G hb rfl
      replace z := bb z hb rfl
      replace HB := hs HB hb
      (try clear hb)
      (try clear hb2)
      (try clear hk)
      (try clear hi)
      refine hK.out _ _ ⟨cx J 0, cx J 1, cx L 0, cx L 1, cx G 0, cx G 1⟩ (fun hHeld => ?_)
      clear hK K
      refine nrm 41 ?_
      refine pu 20 42 ?_
      refine pu 21 43 ?_
      refine pu 22 44 ?_
      refine ud 23 45 ?_
      refine ud 24 46 ?_
      refine ud 25 47 ?_
      refine ud 26 48 ?_
      refine ud 27 49 ?_
      refine pu 28 50 ?_
      refine pu 29 51 ?_
      refine ud 30 52 ?_
      refine ud 31 53 ?_
      refine ud 32 54 ?_
      refine ud 33 55 ?_
      refine ud 34 56 ?_
      refine pu 35 57 ?_
      refine pu 36 58 ?_
      refine ud 37 59 ?_
      refine ud 38 60 ?_
      refine ud 39 61 ?_
      refine pu 40 62 ?_
      refine dn ?_
      try go_wp2
      go_meet
      case rel => exact ⟨_, (true), eqs, H', ⟨by first | omega | exact Nat.le_refl _⟩, ⟨rl M.out⟩, ⟨rl O.out⟩, ⟨qf T.out⟩, ⟨rl X.out⟩, ⟨qf ad.out⟩, ⟨rl ae.out⟩, ⟨bf J.out⟩, ⟨bf L.out⟩, ⟨bf G.out⟩, ⟨bf z.out⟩, ⟨bs HB.out⟩⟩
  case rest =>
   clear dj
   try clear p2
   try clear c4
   try clear h2
   try clear h3
   obtain ⟨kq, cS, rfl, HA, h4, aI, aQ, aJ, aT, aq, az, J, L, G, z, HB⟩ := hcut
   cases kq with
   | zero => exact absurd HA.out (by simp [laws_FnGraphBent.j0])
   | succ ao =>
    have H := HA.out
    clear HA
    simp only [laws_FnGraphBent.j0] at H
    by_cases cW : cS = true
    ·subst cW
     replace H : (some false) = some r := by rw [if_pos rfl] at H; exact H
     exact absurd (Option.some.inj H) (by rw [hT.out]; decide)
    ·replace cW := Bool.eq_false_iff.mpr cW
     subst cW
     have H1 : ((spec_GraphOk.f ao D I).bind fun dm => (if dm = true then ((some (([] : List (S36)) : List (S36))).bind fun b3 => (if b3.length + D.length < 8796093022208 then ((some (b3 ++ D : List (S36))).bind fun bU => (if bU.length + D.length < 8796093022208 then ((some (([] : List (S56)) : List (S56))).bind fun bN => (if bN.length + I.length < 3518437208883 then ((some (bN ++ I : List (S56))).bind fun bK => (if bK.length < 3518437208883 then ((some (bK ++ [(⟨7, (⟨7, 38⟩ : S36), (⟨7, 39⟩ : S36)⟩ : S56)] : List (S56))).bind fun aY => ((some (([] : List (S36)) : List (S36))).bind fun bv => (if bv.length + D.length < 8796093022208 then ((some (bv ++ D : List (S36))).bind fun bc => (if bc.length < 8796093022208 then ((some (bc ++ [(⟨8, 0⟩ : S36)] : List (S36))).bind fun aZ => (if (D.length : Int) = 0 then ((impl_GraphOk.f ao D aY).bind fun bL => (if bL = true then (some false) else ((impl_GraphOk.f ao aZ I).bind fun bF => (if bF = true then (some false) else ((impl_GraphSame.f ao D I D aY).bind fun bB => (if bB = true then (some false) else ((impl_GraphSame.f ao D I aZ I).bind fun bw => (some (!bw))))))))) else ((impl_GraphOk.f ao (bU ++ D) I).bind fun bM => (if bM = true then (some false) else ((impl_GraphOk.f ao D aY).bind fun bG => (if bG = true then (some false) else ((impl_GraphOk.f ao aZ I).bind fun bC => (if bC = true then (some false) else ((impl_GraphSame.f ao D I D aY).bind fun bz => (if bz = true then (some false) else ((impl_GraphSame.f ao D I aZ I).bind fun bu => (some (!bu))))))))))))) else (none))) else (none)))) else (none))) else (none))) else (none))) else (none))) else (some true))) = some r := by rw [if_neg (show ¬ (false = true) by decide)] at H; exact H
     clear H
     have H := H1
     clear H1
     replace H := Option.bind_eq_some_iff.mp H
     obtain ⟨dm, ep, H⟩ := H
     try dsimp -simprocs only at H
     have dp := am ep
     clear ep
     by_cases cX : dm = true
     ·subst cX
      replace H : ((some (([] : List (S36)) : List (S36))).bind fun b3 => (if b3.length + D.length < 8796093022208 then ((some (b3 ++ D : List (S36))).bind fun bU => (if bU.length + D.length < 8796093022208 then ((some (([] : List (S56)) : List (S56))).bind fun bN => (if bN.length + I.length < 3518437208883 then ((some (bN ++ I : List (S56))).bind fun bK => (if bK.length < 3518437208883 then ((some (bK ++ [(⟨7, (⟨7, 38⟩ : S36), (⟨7, 39⟩ : S36)⟩ : S56)] : List (S56))).bind fun aY => ((some (([] : List (S36)) : List (S36))).bind fun bv => (if bv.length + D.length < 8796093022208 then ((some (bv ++ D : List (S36))).bind fun bc => (if bc.length < 8796093022208 then ((some (bc ++ [(⟨8, 0⟩ : S36)] : List (S36))).bind fun aZ => (if (D.length : Int) = 0 then ((impl_GraphOk.f ao D aY).bind fun bL => (if bL = true then (some false) else ((impl_GraphOk.f ao aZ I).bind fun bF => (if bF = true then (some false) else ((impl_GraphSame.f ao D I D aY).bind fun bB => (if bB = true then (some false) else ((impl_GraphSame.f ao D I aZ I).bind fun bw => (some (!bw))))))))) else ((impl_GraphOk.f ao (bU ++ D) I).bind fun bM => (if bM = true then (some false) else ((impl_GraphOk.f ao D aY).bind fun bG => (if bG = true then (some false) else ((impl_GraphOk.f ao aZ I).bind fun bC => (if bC = true then (some false) else ((impl_GraphSame.f ao D I D aY).bind fun bz => (if bz = true then (some false) else ((impl_GraphSame.f ao D I aZ I).bind fun bu => (some (!bu))))))))))))) else (none))) else (none)))) else (none))) else (none))) else (none))) else (none))) = some r := by rw [if_pos rfl] at H; exact H
      obtain ⟨b3, dq⟩ : ∃ y_ : List (S36), y_ = (([] : List (S36))) := ⟨_, rfl⟩
      replace H : (if b3.length + D.length < 8796093022208 then ((some (b3 ++ D : List (S36))).bind fun bU => (if bU.length + D.length < 8796093022208 then ((some (([] : List (S56)) : List (S56))).bind fun bN => (if bN.length + I.length < 3518437208883 then ((some (bN ++ I : List (S56))).bind fun bK => (if bK.length < 3518437208883 then ((some (bK ++ [(⟨7, (⟨7, 38⟩ : S36), (⟨7, 39⟩ : S36)⟩ : S56)] : List (S56))).bind fun aY => ((some (([] : List (S36)) : List (S36))).bind fun bv => (if bv.length + D.length < 8796093022208 then ((some (bv ++ D : List (S36))).bind fun bc => (if bc.length < 8796093022208 then ((some (bc ++ [(⟨8, 0⟩ : S36)] : List (S36))).bind fun aZ => (if (D.length : Int) = 0 then ((impl_GraphOk.f ao D aY).bind fun bL => (if bL = true then (some false) else ((impl_GraphOk.f ao aZ I).bind fun bF => (if bF = true then (some false) else ((impl_GraphSame.f ao D I D aY).bind fun bB => (if bB = true then (some false) else ((impl_GraphSame.f ao D I aZ I).bind fun bw => (some (!bw))))))))) else ((impl_GraphOk.f ao (bU ++ D) I).bind fun bM => (if bM = true then (some false) else ((impl_GraphOk.f ao D aY).bind fun bG => (if bG = true then (some false) else ((impl_GraphOk.f ao aZ I).bind fun bC => (if bC = true then (some false) else ((impl_GraphSame.f ao D I D aY).bind fun bz => (if bz = true then (some false) else ((impl_GraphSame.f ao D I aZ I).bind fun bu => (some (!bu))))))))))))) else (none))) else (none)))) else (none))) else (none))) else (none))) else (none)) = some r := by first | (rw [dq]; exact H) | exact H
      have cY := am dq
      clear dq
      by_cases cZ : b3.length + D.length < 8796093022208
      ·rw [if_pos cZ] at H
       have eq := am cZ
       clear cZ
       obtain ⟨bU, dr⟩ : ∃ y_ : List (S36), y_ = (b3 ++ D) := ⟨_, rfl⟩
       replace H : (if bU.length + D.length < 8796093022208 then ((some (([] : List (S56)) : List (S56))).bind fun bN => (if bN.length + I.length < 3518437208883 then ((some (bN ++ I : List (S56))).bind fun bK => (if bK.length < 3518437208883 then ((some (bK ++ [(⟨7, (⟨7, 38⟩ : S36), (⟨7, 39⟩ : S36)⟩ : S56)] : List (S56))).bind fun aY => ((some (([] : List (S36)) : List (S36))).bind fun bv => (if bv.length + D.length < 8796093022208 then ((some (bv ++ D : List (S36))).bind fun bc => (if bc.length < 8796093022208 then ((some (bc ++ [(⟨8, 0⟩ : S36)] : List (S36))).bind fun aZ => (if (D.length : Int) = 0 then ((impl_GraphOk.f ao D aY).bind fun bL => (if bL = true then (some false) else ((impl_GraphOk.f ao aZ I).bind fun bF => (if bF = true then (some false) else ((impl_GraphSame.f ao D I D aY).bind fun bB => (if bB = true then (some false) else ((impl_GraphSame.f ao D I aZ I).bind fun bw => (some (!bw))))))))) else ((impl_GraphOk.f ao (bU ++ D) I).bind fun bM => (if bM = true then (some false) else ((impl_GraphOk.f ao D aY).bind fun bG => (if bG = true then (some false) else ((impl_GraphOk.f ao aZ I).bind fun bC => (if bC = true then (some false) else ((impl_GraphSame.f ao D I D aY).bind fun bz => (if bz = true then (some false) else ((impl_GraphSame.f ao D I aZ I).bind fun bu => (some (!bu))))))))))))) else (none))) else (none)))) else (none))) else (none))) else (none)) = some r := by first | (rw [dr]; exact H) | exact H
       have er := am dr
       clear dr
       by_cases c1 : bU.length + D.length < 8796093022208
       ·rw [if_pos c1] at H
        have es := am c1
        clear c1
        obtain ⟨ba, dt⟩ : ∃ y_ : List (S36), y_ = (bU ++ D) := ⟨_, rfl⟩
        replace H : ((some (([] : List (S56)) : List (S56))).bind fun bN => (if bN.length + I.length < 3518437208883 then ((some (bN ++ I : List (S56))).bind fun bK => (if bK.length < 3518437208883 then ((some (bK ++ [(⟨7, (⟨7, 38⟩ : S36), (⟨7, 39⟩ : S36)⟩ : S56)] : List (S56))).bind fun aY => ((some (([] : List (S36)) : List (S36))).bind fun bv => (if bv.length + D.length < 8796093022208 then ((some (bv ++ D : List (S36))).bind fun bc => (if bc.length < 8796093022208 then ((some (bc ++ [(⟨8, 0⟩ : S36)] : List (S36))).bind fun aZ => (if (D.length : Int) = 0 then ((impl_GraphOk.f ao D aY).bind fun bL => (if bL = true then (some false) else ((impl_GraphOk.f ao aZ I).bind fun bF => (if bF = true then (some false) else ((impl_GraphSame.f ao D I D aY).bind fun bB => (if bB = true then (some false) else ((impl_GraphSame.f ao D I aZ I).bind fun bw => (some (!bw))))))))) else ((impl_GraphOk.f ao ba I).bind fun bM => (if bM = true then (some false) else ((impl_GraphOk.f ao D aY).bind fun bG => (if bG = true then (some false) else ((impl_GraphOk.f ao aZ I).bind fun bC => (if bC = true then (some false) else ((impl_GraphSame.f ao D I D aY).bind fun bz => (if bz = true then (some false) else ((impl_GraphSame.f ao D I aZ I).bind fun bu => (some (!bu))))))))))))) else (none))) else (none)))) else (none))) else (none))) = some r := by first | (rw [dt]; exact H) | exact H
        have et := am dt
        clear dt
        obtain ⟨bN, du⟩ : ∃ y_ : List (S56), y_ = (([] : List (S56))) := ⟨_, rfl⟩
        replace H : (if bN.length + I.length < 3518437208883 then ((some (bN ++ I : List (S56))).bind fun bK => (if bK.length < 3518437208883 then ((some (bK ++ [(⟨7, (⟨7, 38⟩ : S36), (⟨7, 39⟩ : S36)⟩ : S56)] : List (S56))).bind fun aY => ((some (([] : List (S36)) : List (S36))).bind fun bv => (if bv.length + D.length < 8796093022208 then ((some (bv ++ D : List (S36))).bind fun bc => (if bc.length < 8796093022208 then ((some (bc ++ [(⟨8, 0⟩ : S36)] : List (S36))).bind fun aZ => (if (D.length : Int) = 0 then ((impl_GraphOk.f ao D aY).bind fun bL => (if bL = true then (some false) else ((impl_GraphOk.f ao aZ I).bind fun bF => (if bF = true then (some false) else ((impl_GraphSame.f ao D I D aY).bind fun bB => (if bB = true then (some false) else ((impl_GraphSame.f ao D I aZ I).bind fun bw => (some (!bw))))))))) else ((impl_GraphOk.f ao ba I).bind fun bM => (if bM = true then (some false) else ((impl_GraphOk.f ao D aY).bind fun bG => (if bG = true then (some false) else ((impl_GraphOk.f ao aZ I).bind fun bC => (if bC = true then (some false) else ((impl_GraphSame.f ao D I D aY).bind fun bz => (if bz = true then (some false) else ((impl_GraphSame.f ao D I aZ I).bind fun bu => (some (!bu))))))))))))) else (none))) else (none)))) else (none))) else (none)) = some r := by first | (rw [du]; exact H) | exact H
        have c3 := am du
        clear du
        by_cases c5 : bN.length + I.length < 3518437208883
        ·rw [if_pos c5] at H
         have eu := am c5
         clear c5
         obtain ⟨bK, dv⟩ : ∃ y_ : List (S56), y_ = (bN ++ I) := ⟨_, rfl⟩
         replace H : (if bK.length < 3518437208883 then ((some (bK ++ [(⟨7, (⟨7, 38⟩ : S36), (⟨7, 39⟩ : S36)⟩ : S56)] : List (S56))).bind fun aY => ((some (([] : List (S36)) : List (S36))).bind fun bv => (if bv.length + D.length < 8796093022208 then ((some (bv ++ D : List (S36))).bind fun bc => (if bc.length < 8796093022208 then ((some (bc ++ [(⟨8, 0⟩ : S36)] : List (S36))).bind fun aZ => (if (D.length : Int) = 0 then ((impl_GraphOk.f ao D aY).bind fun bL => (if bL = true then (some false) else ((impl_GraphOk.f ao aZ I).bind fun bF => (if bF = true then (some false) else ((impl_GraphSame.f ao D I D aY).bind fun bB => (if bB = true then (some false) else ((impl_GraphSame.f ao D I aZ I).bind fun bw => (some (!bw))))))))) else ((impl_GraphOk.f ao ba I).bind fun bM => (if bM = true then (some false) else ((impl_GraphOk.f ao D aY).bind fun bG => (if bG = true then (some false) else ((impl_GraphOk.f ao aZ I).bind fun bC => (if bC = true then (some false) else ((impl_GraphSame.f ao D I D aY).bind fun bz => (if bz = true then (some false) else ((impl_GraphSame.f ao D I aZ I).bind fun bu => (some (!bu))))))))))))) else (none))) else (none)))) else (none)) = some r := by first | (rw [dv]; exact H) | exact H
         have ev := am dv
         clear dv
         by_cases c6 : bK.length < 3518437208883
         ·rw [if_pos c6] at H
          have ew := am c6
          clear c6
          obtain ⟨aY, dw⟩ : ∃ y_ : List (S56), y_ = (bK ++ [(⟨7, (⟨7, 38⟩ : S36), (⟨7, 39⟩ : S36)⟩ : S56)]) := ⟨_, rfl⟩
          replace H : ((some (([] : List (S36)) : List (S36))).bind fun bv => (if bv.length + D.length < 8796093022208 then ((some (bv ++ D : List (S36))).bind fun bc => (if bc.length < 8796093022208 then ((some (bc ++ [(⟨8, 0⟩ : S36)] : List (S36))).bind fun aZ => (if (D.length : Int) = 0 then ((impl_GraphOk.f ao D aY).bind fun bL => (if bL = true then (some false) else ((impl_GraphOk.f ao aZ I).bind fun bF => (if bF = true then (some false) else ((impl_GraphSame.f ao D I D aY).bind fun bB => (if bB = true then (some false) else ((impl_GraphSame.f ao D I aZ I).bind fun bw => (some (!bw))))))))) else ((impl_GraphOk.f ao ba I).bind fun bM => (if bM = true then (some false) else ((impl_GraphOk.f ao D aY).bind fun bG => (if bG = true then (some false) else ((impl_GraphOk.f ao aZ I).bind fun bC => (if bC = true then (some false) else ((impl_GraphSame.f ao D I D aY).bind fun bz => (if bz = true then (some false) else ((impl_GraphSame.f ao D I aZ I).bind fun bu => (some (!bu))))))))))))) else (none))) else (none))) = some r := by first | (rw [dw]; exact H) | exact H
          have ex := am dw
          clear dw
          obtain ⟨bv, dx⟩ : ∃ y_ : List (S36), y_ = (([] : List (S36))) := ⟨_, rfl⟩
          replace H : (if bv.length + D.length < 8796093022208 then ((some (bv ++ D : List (S36))).bind fun bc => (if bc.length < 8796093022208 then ((some (bc ++ [(⟨8, 0⟩ : S36)] : List (S36))).bind fun aZ => (if (D.length : Int) = 0 then ((impl_GraphOk.f ao D aY).bind fun bL => (if bL = true then (some false) else ((impl_GraphOk.f ao aZ I).bind fun bF => (if bF = true then (some false) else ((impl_GraphSame.f ao D I D aY).bind fun bB => (if bB = true then (some false) else ((impl_GraphSame.f ao D I aZ I).bind fun bw => (some (!bw))))))))) else ((impl_GraphOk.f ao ba I).bind fun bM => (if bM = true then (some false) else ((impl_GraphOk.f ao D aY).bind fun bG => (if bG = true then (some false) else ((impl_GraphOk.f ao aZ I).bind fun bC => (if bC = true then (some false) else ((impl_GraphSame.f ao D I D aY).bind fun bz => (if bz = true then (some false) else ((impl_GraphSame.f ao D I aZ I).bind fun bu => (some (!bu))))))))))))) else (none))) else (none)) = some r := by first | (rw [dx]; exact H) | exact H
          have c7 := am dx
          clear dx
          by_cases c8 : bv.length + D.length < 8796093022208
          ·rw [if_pos c8] at H
           have ey := am c8
           clear c8
           obtain ⟨bc, dy⟩ : ∃ y_ : List (S36), y_ = (bv ++ D) := ⟨_, rfl⟩
           replace H : (if bc.length < 8796093022208 then ((some (bc ++ [(⟨8, 0⟩ : S36)] : List (S36))).bind fun aZ => (if (D.length : Int) = 0 then ((impl_GraphOk.f ao D aY).bind fun bL => (if bL = true then (some false) else ((impl_GraphOk.f ao aZ I).bind fun bF => (if bF = true then (some false) else ((impl_GraphSame.f ao D I D aY).bind fun bB => (if bB = true then (some false) else ((impl_GraphSame.f ao D I aZ I).bind fun bw => (some (!bw))))))))) else ((impl_GraphOk.f ao ba I).bind fun bM => (if bM = true then (some false) else ((impl_GraphOk.f ao D aY).bind fun bG => (if bG = true then (some false) else ((impl_GraphOk.f ao aZ I).bind fun bC => (if bC = true then (some false) else ((impl_GraphSame.f ao D I D aY).bind fun bz => (if bz = true then (some false) else ((impl_GraphSame.f ao D I aZ I).bind fun bu => (some (!bu))))))))))))) else (none)) = some r := by first | (rw [dy]; exact H) | exact H
           have ez := am dy
           clear dy
           by_cases c9 : bc.length < 8796093022208
           ·rw [if_pos c9] at H
            have eA := am c9
            clear c9
            obtain ⟨aZ, dz⟩ : ∃ y_ : List (S36), y_ = (bc ++ [(⟨8, 0⟩ : S36)]) := ⟨_, rfl⟩
            replace H : (if (D.length : Int) = 0 then ((impl_GraphOk.f ao D aY).bind fun bL => (if bL = true then (some false) else ((impl_GraphOk.f ao aZ I).bind fun bF => (if bF = true then (some false) else ((impl_GraphSame.f ao D I D aY).bind fun bB => (if bB = true then (some false) else ((impl_GraphSame.f ao D I aZ I).bind fun bw => (some (!bw))))))))) else ((impl_GraphOk.f ao ba I).bind fun bM => (if bM = true then (some false) else ((impl_GraphOk.f ao D aY).bind fun bG => (if bG = true then (some false) else ((impl_GraphOk.f ao aZ I).bind fun bC => (if bC = true then (some false) else ((impl_GraphSame.f ao D I D aY).bind fun bz => (if bz = true then (some false) else ((impl_GraphSame.f ao D I aZ I).bind fun bu => (some (!bu)))))))))))) = some r := by first | (rw [dz]; exact H) | exact H
            have eB := am dz
            clear dz
            by_cases ch : (D.length : Int) = 0
            ·rw [if_pos ch] at H
             have fx : ((D.length : Int) == 0) = true := beq_iff_eq.mpr ch
             have fy : ((D.length : Int) != 0) = false := bne_eq_false_iff_eq.mpr ch
             clear ch
             replace H := Option.bind_eq_some_iff.mp H
             obtain ⟨bL, eC, H⟩ := H
             try dsimp -simprocs only at H
             have fz := am eC
             clear eC
             by_cases da : bL = true
             ·subst da
              replace H : (some false) = some r := by rw [if_pos rfl] at H; exact H
              exact absurd (Option.some.inj H) (by rw [hT.out]; decide)
             ·replace da := Bool.eq_false_iff.mpr da
              subst da
              have H1 : ((impl_GraphOk.f ao aZ I).bind fun bF => (if bF = true then (some false) else ((impl_GraphSame.f ao D I D aY).bind fun bB => (if bB = true then (some false) else ((impl_GraphSame.f ao D I aZ I).bind fun bw => (some (!bw))))))) = some r := by rw [if_neg (show ¬ (false = true) by decide)] at H; exact H
              clear H
              have H := H1
              clear H1
              replace H := Option.bind_eq_some_iff.mp H
              obtain ⟨bF, eD, H⟩ := H
              try dsimp -simprocs only at H
              have fA := am eD
              clear eD
              by_cases db : bF = true
              ·subst db
               replace H : (some false) = some r := by rw [if_pos rfl] at H; exact H
               exact absurd (Option.some.inj H) (by rw [hT.out]; decide)
              ·replace db := Bool.eq_false_iff.mpr db
               subst db
               have H1 : ((impl_GraphSame.f ao D I D aY).bind fun bB => (if bB = true then (some false) else ((impl_GraphSame.f ao D I aZ I).bind fun bw => (some (!bw))))) = some r := by rw [if_neg (show ¬ (false = true) by decide)] at H; exact H
               clear H
               have H := H1
               clear H1
               replace H := Option.bind_eq_some_iff.mp H
               obtain ⟨bB, eE, H⟩ := H
               try dsimp -simprocs only at H
               have fB := am eE
               clear eE
               by_cases dc : bB = true
               ·subst dc
                replace H : (some false) = some r := by rw [if_pos rfl] at H; exact H
                exact absurd (Option.some.inj H) (by rw [hT.out]; decide)
               ·replace dc := Bool.eq_false_iff.mpr dc
                subst dc
                have H1 : ((impl_GraphSame.f ao D I aZ I).bind fun bw => (some (!bw))) = some r := by rw [if_neg (show ¬ (false = true) by decide)] at H; exact H
                clear H
                have H := H1
                clear H1
                replace H := Option.bind_eq_some_iff.mp H
                obtain ⟨bw, eF, H⟩ := H
                try dsimp -simprocs only at H
                have fC := am eF
                clear eF
                obtain rfl := Option.some.inj H
                have h5 := cN.out
                have h6 := cM.out
                have h7 := cP.out
                have h8 := cO.out
                have h9 := cQ.out
                have ia := cR.out
                obtain ⟨ib, ic⟩ := bc2 (w := wc) G.out
                have ie := blk_frozen G.out
                try go_wp2_with (first | ((with_reducible refine gc 33 rfl ?_); refine gl 64 Try.func33 #[.agg #[.slice ac D.length ab, .slice ah I.length ag]] ?_; (with_reducible refine (spec_GraphOk.calls ao _ _ D _ _ I true _ ?aK ?aM ?aU ?aV dp.out).mono ?_); (case aK => exact cq aq); (case aM => exact cd aq); (case aU => exact cr az); (case aV => exact cc az); rintro e fD ⟨rfl, hb⟩; refine ⟨_, rfl, ?_⟩; replace aI := rb aI hb; replace aQ := rb aQ hb; replace aJ := qb aJ hb; replace aT := rb aT hb; replace aq := qb aq hb; replace az := rb az hb; replace J := bb J hb rfl; replace L := bb L hb rfl; replace G := bb G hb rfl; replace z := bb z hb rfl; replace HB := hs HB hb; (try clear hb); (try clear hb2); (try clear hk); (try clear hi); obtain ⟨ig, ih⟩ := bc2 (w := fD) G.out; have ii := blk_frozen G.out) | ((with_reducible refine gd 7 rfl ?_); refine bx 7 (cs := #[.slice none 0 0, .slice none 0 0]) (t := 34) ?_; intro aW hg bX hbox hb; replace aI := rb aI hb; replace aQ := rb aQ hb; replace aJ := qb aJ hb; replace aT := rb aT hb; replace aq := qb aq hb; replace az := rb az hb; have ax := am hbox; have fE := gwb HB hg; replace HB := hs HB hb; have cC := nq J hg; have cD := nq' J hg; replace J := bb J hb rfl; have cE := nq L hg; have cF := nq' L hg; replace L := bb L hb rfl; have ce := nq G hg; have cG := nq' G hg; replace G := bb G hb rfl; have cH := nq z hg; have cI := nq' z hg; replace z := bb z hb rfl; clear hb hbox hg; have ij := cD.out; have ik := cC.out; have il := cF.out; have im := cE.out; have io := cG.out; have ip := ce.out; have iq := cI.out; have ir := cH.out; obtain ⟨it, iu⟩ := bc2 (w := bX) ax.out; have iv := blk_frozen ax.out))
                have bg : Aside0 (Kd.R k36 36 ((bX.setCell ⟨aW, 0, none⟩ (.slice ac D.length ab)).setCell ⟨aW, 1, none⟩ (.slice ah I.length ag)) w.heap.size (fun k_ => some k_ ≠ (.slice av Z.length aw : Value).ownBlock ∧ some k_ ≠ (.slice ac D.length ab : Value).ownBlock) (.slice ar Y.length au) Y) := ⟨Kd.R_mono (rt aI.out ax.out (by decide)) (fun _ hk => ⟨hk.1, hk.2⟩)⟩
                have bh : Aside0 (Kd.R k56 56 ((bX.setCell ⟨aW, 0, none⟩ (.slice ac D.length ab)).setCell ⟨aW, 1, none⟩ (.slice ah I.length ag)) w.heap.size (fun k_ => some k_ ≠ (.slice aE ak.length aG : Value).ownBlock ∧ some k_ ≠ (.slice ah I.length ag : Value).ownBlock) (.slice aC aj.length aD) aj) := ⟨Kd.R_mono (rt aQ.out ax.out (by decide)) (fun _ hk => ⟨hk.1, hk.2⟩)⟩
                have bi : Aside0 (Kd.Q k36 36 ((bX.setCell ⟨aW, 0, none⟩ (.slice ac D.length ab)).setCell ⟨aW, 1, none⟩ (.slice ah I.length ag)) w.heap.size (fun k_ => some k_ ≠ (.slice ar Y.length au : Value).ownBlock ∧ some k_ ≠ (.slice ac D.length ab : Value).ownBlock) (.slice av Z.length aw) Z) := ⟨Kd.Q_mono (qt aJ.out ax.out (by decide)) (fun _ hk => ⟨hk.1, hk.2⟩)⟩
                have bj : Aside0 (Kd.R k56 56 ((bX.setCell ⟨aW, 0, none⟩ (.slice ac D.length ab)).setCell ⟨aW, 1, none⟩ (.slice ah I.length ag)) w.heap.size (fun k_ => some k_ ≠ (.slice aC aj.length aD : Value).ownBlock ∧ some k_ ≠ (.slice ah I.length ag : Value).ownBlock) (.slice aE ak.length aG) ak) := ⟨Kd.R_mono (rt aT.out ax.out (by decide)) (fun _ hk => ⟨hk.1, hk.2⟩)⟩
                have bk : Aside0 (Kd.Q k36 36 ((bX.setCell ⟨aW, 0, none⟩ (.slice ac D.length ab)).setCell ⟨aW, 1, none⟩ (.slice ah I.length ag)) w.heap.size (fun k_ => some k_ ≠ (.slice ar Y.length au : Value).ownBlock ∧ some k_ ≠ (.slice av Z.length aw : Value).ownBlock) (.slice ac D.length ab) D) := ⟨Kd.Q_mono (qt aq.out ax.out (by decide)) (fun _ hk => ⟨hk.1, hk.2⟩)⟩
                have bl : Aside0 (Kd.R k56 56 ((bX.setCell ⟨aW, 0, none⟩ (.slice ac D.length ab)).setCell ⟨aW, 1, none⟩ (.slice ah I.length ag)) w.heap.size (fun k_ => some k_ ≠ (.slice aC aj.length aD : Value).ownBlock ∧ some k_ ≠ (.slice aE ak.length aG : Value).ownBlock) (.slice ah I.length ag) I) := ⟨Kd.R_mono (rt az.out ax.out (by decide)) (fun _ hk => ⟨hk.1, hk.2⟩)⟩
                have bm : Aside0 (((bX.setCell ⟨aW, 0, none⟩ (.slice ac D.length ab)).setCell ⟨aW, 1, none⟩ (.slice ah I.length ag)).heap[a1]? = some (.cells #[.slice ar Y.length au, .slice aC aj.length aD] 34 (0, 0))) := ⟨bf J.out⟩
                have bn : Aside0 (((bX.setCell ⟨aW, 0, none⟩ (.slice ac D.length ab)).setCell ⟨aW, 1, none⟩ (.slice ah I.length ag)).heap[a2]? = some (.cells #[.slice av Z.length aw, .slice aE ak.length aG] 34 (0, 0))) := ⟨bf L.out⟩
                have bo : Aside0 (((bX.setCell ⟨aW, 0, none⟩ (.slice ac D.length ab)).setCell ⟨aW, 1, none⟩ (.slice ah I.length ag)).heap[a8]? = some (.cells #[.slice ac D.length ab, .slice ah I.length ag] 34 (0, 0))) := ⟨bf G.out⟩
                have br : Aside0 (((bX.setCell ⟨aW, 0, none⟩ (.slice ac D.length ab)).setCell ⟨aW, 1, none⟩ (.slice ah I.length ag)).heap[y]? = some (.cells #[.int .i64 aa, .int .i64 af, .int .i64 ai, .int .i64 al, .int .i64 an, .int .i64 ap, .int .i64 ay, .int .i64 aA] 58 (0, 0))) := ⟨bf z.out⟩
                have bt : Aside0 (((bX.setCell ⟨aW, 0, none⟩ (.slice ac D.length ab)).setCell ⟨aW, 1, none⟩ (.slice ah I.length ag)).heap[aW]? = some (.cells #[.slice ac D.length ab, .slice ah I.length ag] 34 (0, 0))) := ⟨by (with_reducible repeat (first | refine blk_drewN ?_ _ | refine blk_drew ?_ | refine blk_alloc ?_ _)); refine blk_put (cs := #[.slice ac D.length ab, .slice none 0 0]) ?_ 1 _ rfl; (with_reducible repeat (first | refine blk_drewN ?_ _ | refine blk_drew ?_ | refine blk_alloc ?_ _)); refine blk_put (cs := #[.slice none 0 0, .slice none 0 0]) ?_ 0 _ rfl; exact bf ax.out⟩
                have cp : Aside0 (Below w.heap.size w ((bX.setCell ⟨aW, 0, none⟩ (.slice ac D.length ab)).setCell ⟨aW, 1, none⟩ (.slice ah I.length ag))) := ⟨bs HB.out⟩
                (try clear aI)
                (try clear aQ)
                (try clear aJ)
                (try clear aT)
                (try clear aq)
                (try clear az)
                (try clear J)
                (try clear L)
                (try clear G)
                (try clear z)
                (try clear ax)
                (try clear HB)
                generalize ((bX.setCell ⟨aW, 0, none⟩ (.slice ac D.length ab)).setCell ⟨aW, 1, none⟩ (.slice ah I.length ag)) = fF at bg bh bi bj bk bl bm bn bo br bt cp ⊢
                have aI := bg
                have aQ := bh
                have aJ := bi
                have aT := bj
                have aq := bk
                have az := bl
                have J := bm
                have L := bn
                have G := bo
                have z := br
                have ax := bt
                have HB := cp
                clear bg bh bi bj bk bl bm bn bo br bt cp
                replace aI := rd_ aI
                replace aQ := rd_ aQ
                replace aJ := qd aJ
                replace aT := rd_ aT
                replace aq := qd aq
                replace az := rd_ az
                replace J := bd J
                replace L := bd L
                replace G := bd G
                replace z := bd z
                replace ax := bd ax
                replace HB := hd HB
                refine sta 9 (fun w' => w'.cell? ⟨a8, 0, none⟩ = some (.slice ac D.length ab) ∧ w'.cell? ⟨a8, 1, none⟩ = some (.slice ah I.length ag)) [] ⟨cx G 0, cx G 1⟩ (fun hHeld => ?_); refine with_tabW laws_FnGraphBent.tab11 laws_FnGraphBent.bits11 (fun HT_ HW_ => ?_)
                generalize fF.drew = iw at aI aQ aJ aT aq az J L G z ax HB hHeld ⊢
                refine pu 1 68 ?_
                refine pu 4 71 ?_
                refine tk 2 69 ?_
                refine tk 5 72 ?_
                refine on 0 67 (fun K hK => ?_)
                refine Kd.R_lit_step k36 _ 36 ?hg (N := 67) ?hd (xs := ([] : List (S36))) (inner := []) (ok := fun _ => True) (okp := fun _ => True) ?hr ?hp (fun _ hk => hk) trivial (Below.refl _ _) (Nat.le_refl _) (by simp) ?_; (case hd => rfl); (case hg => rfl); (case hr => first | (go_simp; done) | (go_simp; rfl)); (case hp => exact (Reps.none _ _))
                intro dA ix ci hb hg_ hnew_
                clear hg_ hnew_
                (first | rw [← cY.out] at ci | (simp only [Int.reduceToNat] at ci; rw [← cY.out] at ci))
                replace aQ := rb aQ hb
                replace aT := rb aT hb
                replace az := rb az hb
                have bO := am (Kd.R_lower (Kd.R_new' (Kd.R_new' (Kd.R_new' ci (rk aI)) (ql aJ)) (ql aq)) (below_size (bs HB.out)))
                replace aI := re aI ci hb
                replace aJ := qe aJ ci hb
                replace aq := qe aq ci hb
                replace J := bb J hb rfl
                replace L := bb L hb rfl
                replace G := bb G hb rfl
                replace z := bb z hb rfl
                replace ax := bb ax hb rfl
                replace HB := hs HB hb
                clear hb ci
                refine hK.out _ _ ⟨cx G 0, cx G 1⟩ (fun hHeld => ?_)
                clear hK K
                refine nrm 67 ?_
                refine on 3 70 (fun K hK => ?_)
                refine Kd.R_append_rows_step k36 (w0 := w) w.heap.size (by rfl) (.tmp 67) (.tmp 69) 29 36 (.agg #[(.int .i64 0), (.int .i64 0)]) 16 rfl Try.underlying29 info36 rfl (by decide) (by omega) dA b3 D _ _ _ (fun k_ => some k_ ≠ (.slice ar Y.length au : Value).ownBlock ∧ some k_ ≠ (.slice av Z.length aw : Value).ownBlock ∧ some k_ ≠ (.slice ac D.length ab : Value).ownBlock) (fun _ => False) rfl rfl ?aO ?aR (fun _ _ h => h) (fun _ h => h.elim) ?aF ?aB ?aS ?aL ?_
                (case aR => exact cq aq)
                (case aB => exact (bs HB.out))
                (case aF => exact (fun k_ hk => ⟨Kd.fresh' (rk aI) k_ hk, Kd.fresh' (ql aJ) k_ hk, Kd.fresh' (ql aq) k_ hk⟩))
                (case aO => exact (by (with_reducible repeat (first | apply Kd.R_alloc | apply Kd.R_drewN | apply Kd.R_drew)); exact Kd.R_mono bO.out (fun _ hk => ⟨hk.1.1.2, ⟨hk.1.2, hk.2⟩⟩)))
                (case aS => exact (below_size (bs HB.out)))
                (case aL => have := eq.out; omega)
                intro dB iy ho hb hg hat
                rw [← er.out] at ho
                replace aI := am (Kd.R_after (ok := (fun k_ => some k_ ≠ (.slice av Z.length aw : Value).ownBlock ∧ some k_ ≠ (.slice ac D.length ab : Value).ownBlock)) (rl aI.out) hg hat)
                replace aQ := am (Kd.R_over' (rl aQ.out) (Kd.R_typed (rl bO.out)) (by decide) hg)
                replace aJ := am (Kd.Q_after (ok := (fun k_ => some k_ ≠ (.slice ar Y.length au : Value).ownBlock ∧ some k_ ≠ (.slice ac D.length ab : Value).ownBlock)) (qf aJ.out) hg hat)
                replace aT := am (Kd.R_over' (rl aT.out) (Kd.R_typed (rl bO.out)) (by decide) hg)
                replace aq := am (Kd.Q_after (ok := (fun k_ => some k_ ≠ (.slice ar Y.length au : Value).ownBlock ∧ some k_ ≠ (.slice av Z.length aw : Value).ownBlock)) (qf aq.out) hg hat)
                replace az := am (Kd.R_over' (rl az.out) (Kd.R_typed (rl bO.out)) (by decide) hg)
                replace J := gr J bO hg
                replace L := gr L bO hg
                replace G := gr G bO hg
                replace z := gr z bO hg
                replace ax := gr ax bO hg
                replace HB := am hb
                have bP := am ho
                clear bO
                clear ho hb hg hat
                refine hK.out _ _ ⟨cx G 0, cx G 1⟩ (fun hHeld => ?_)
                clear hK K
                refine nrm 70 ?_
                refine on 6 73 (fun K hK => ?_)
                refine Kd.R_append_rows_step k36 (w0 := w) w.heap.size (by rfl) (.tmp 70) (.tmp 72) 29 36 (.agg #[(.int .i64 0), (.int .i64 0)]) 16 rfl Try.underlying29 info36 rfl (by decide) (by omega) dB bU D _ _ _ (fun k_ => some k_ ≠ (.slice ar Y.length au : Value).ownBlock ∧ some k_ ≠ (.slice av Z.length aw : Value).ownBlock ∧ some k_ ≠ (.slice ac D.length ab : Value).ownBlock) (fun _ => False) rfl rfl ?aO ?aR (fun _ _ h => h) (fun _ h => h.elim) ?aF ?aB ?aS ?aL ?_
                (case aR => exact cq aq)
                (case aB => exact (bs HB.out))
                (case aF => exact (fun k_ hk => ⟨Kd.fresh' (rk aI) k_ hk, Kd.fresh' (ql aJ) k_ hk, Kd.fresh' (ql aq) k_ hk⟩))
                (case aO => exact (rl bP.out))
                (case aS => exact (below_size (bs HB.out)))
                (case aL => have := es.out; omega)
                intro fG eG ho hb hg hat
                rw [← et.out] at ho
                replace aI := am (Kd.R_after (ok := (fun k_ => some k_ ≠ (.slice av Z.length aw : Value).ownBlock ∧ some k_ ≠ (.slice ac D.length ab : Value).ownBlock)) (rl aI.out) hg hat)
                replace aQ := am (Kd.R_over' (rl aQ.out) (Kd.R_typed (rl bP.out)) (by decide) hg)
                replace aJ := am (Kd.Q_after (ok := (fun k_ => some k_ ≠ (.slice ar Y.length au : Value).ownBlock ∧ some k_ ≠ (.slice ac D.length ab : Value).ownBlock)) (qf aJ.out) hg hat)
                replace aT := am (Kd.R_over' (rl aT.out) (Kd.R_typed (rl bP.out)) (by decide) hg)
                replace aq := am (Kd.Q_after (ok := (fun k_ => some k_ ≠ (.slice ar Y.length au : Value).ownBlock ∧ some k_ ≠ (.slice av Z.length aw : Value).ownBlock)) (qf aq.out) hg hat)
                replace az := am (Kd.R_over' (rl az.out) (Kd.R_typed (rl bP.out)) (by decide) hg)
                replace J := gr J bP hg
                replace L := gr L bP hg
                replace G := gr G bP hg
                replace z := gr z bP hg
                replace ax := gr ax bP hg
                replace HB := am hb
                have a3 := am ho
                clear bP
                clear ho hb hg hat
                obtain ⟨bQ, bR, eH⟩ := Kd.R_slice a3.out
                (first | subst eH | (injection eH with cJ dC cK; have dD := cJ.symm; have dE := cK.symm; clear cJ dC cK; subst dD; subst dE))
                refine hK.out _ _ ⟨cx G 0, cx G 1⟩ (fun hHeld => ?_)
                clear hK K
                refine nrm 73 ?_
                refine pu 7 74 ?_
                refine on0 8 (fun K hK => ?_)
                have iz : eG.cell? ⟨aW, 0, none⟩ = some (.slice ac D.length ab) := cx ax 0
                have iA := blk_frozen ax.out 0
                have iB := cC.out
                have iC := cE.out
                have iD := ce.out
                have iE := cH.out
                have iF := cD.out
                have iG := cF.out
                have iH := cG.out
                have iI := cI.out
                refine sk ?_
                refine hK.out _ _ ⟨((cell_far (p := ⟨aW, _, none⟩) ce.out _).trans (hHeld.1)), ((cell_far (p := ⟨aW, _, none⟩) ce.out _).trans (hHeld.2))⟩ (fun hHeld => ?_)
                clear hK K
                refine dn ?_
                obtain ⟨iJ, iK⟩ := bc2 (w := eG) G.out
                have iL := blk_frozen G.out
                try go_wp2_with (first | ((with_reducible refine gd 8 rfl ?_); refine bx 8 (cs := #[.slice none 0 0, .slice none 0 0]) (t := 34) ?_; intro be hg fH hbox hb; replace aI := am (Kd.R_below (rt aI.out ax.out (by decide)) hb); replace aQ := am (Kd.R_below (rt aQ.out ax.out (by decide)) hb); replace aJ := am (Kd.Q_below (qt aJ.out ax.out (by decide)) hb); replace aT := am (Kd.R_below (rt aT.out ax.out (by decide)) hb); replace aq := am (Kd.Q_below (qt aq.out ax.out (by decide)) hb); replace az := am (Kd.R_below (rt az.out ax.out (by decide)) hb); replace a3 := am (Kd.R_below (rt a3.out ax.out (by decide)) hb); have aH := am hbox; have fI := gwb HB hg; replace HB := hs HB hb; have dF := Nq.mk ((by rw [hg]; exact Nat.ne_of_lt (blk_lt (g := a1) (o := .cells #[.slice ar Y.length au, .slice aC aj.length aD] 34 (0, 0)) (bf J.out)) : a1 ≠ be)); have dG := Nq.mk ((by rw [hg]; exact Nat.ne_of_gt (blk_lt (g := a1) (o := .cells #[.slice ar Y.length au, .slice aC aj.length aD] 34 (0, 0)) (bf J.out)) : be ≠ a1)); replace J := am (blk_below (g := a1) (o := .cells #[.slice ar Y.length au, .slice aC aj.length aD] 34 (0, 0)) (bf J.out) hb); have dH := Nq.mk ((by rw [hg]; exact Nat.ne_of_lt (blk_lt (g := a2) (o := .cells #[.slice av Z.length aw, .slice aE ak.length aG] 34 (0, 0)) (bf L.out)) : a2 ≠ be)); have dI := Nq.mk ((by rw [hg]; exact Nat.ne_of_gt (blk_lt (g := a2) (o := .cells #[.slice av Z.length aw, .slice aE ak.length aG] 34 (0, 0)) (bf L.out)) : be ≠ a2)); replace L := am (blk_below (g := a2) (o := .cells #[.slice av Z.length aw, .slice aE ak.length aG] 34 (0, 0)) (bf L.out) hb); have dJ := Nq.mk ((by rw [hg]; exact Nat.ne_of_lt (blk_lt (g := a8) (o := .cells #[.slice ac D.length ab, .slice ah I.length ag] 34 (0, 0)) (bf G.out)) : a8 ≠ be)); have dK := Nq.mk ((by rw [hg]; exact Nat.ne_of_gt (blk_lt (g := a8) (o := .cells #[.slice ac D.length ab, .slice ah I.length ag] 34 (0, 0)) (bf G.out)) : be ≠ a8)); replace G := am (blk_below (g := a8) (o := .cells #[.slice ac D.length ab, .slice ah I.length ag] 34 (0, 0)) (bf G.out) hb); have dL := Nq.mk ((by rw [hg]; exact Nat.ne_of_lt (blk_lt (g := y) (o := .cells #[.int .i64 aa, .int .i64 af, .int .i64 ai, .int .i64 al, .int .i64 an, .int .i64 ap, .int .i64 ay, .int .i64 aA] 58 (0, 0)) (bf z.out)) : y ≠ be)); have dM := Nq.mk ((by rw [hg]; exact Nat.ne_of_gt (blk_lt (g := y) (o := .cells #[.int .i64 aa, .int .i64 af, .int .i64 ai, .int .i64 al, .int .i64 an, .int .i64 ap, .int .i64 ay, .int .i64 aA] 58 (0, 0)) (bf z.out)) : be ≠ y)); replace z := am (blk_below (g := y) (o := .cells #[.int .i64 aa, .int .i64 af, .int .i64 ai, .int .i64 al, .int .i64 an, .int .i64 ap, .int .i64 ay, .int .i64 aA] 58 (0, 0)) (bf z.out) hb); have dN := Nq.mk ((by rw [hg]; exact Nat.ne_of_lt (blk_lt (g := aW) (o := .cells #[.slice bQ ba.length bR, .slice ah I.length ag] 34 (0, 0)) (bp ax.out rfl)) : aW ≠ be)); have dO := Nq.mk ((by rw [hg]; exact Nat.ne_of_gt (blk_lt (g := aW) (o := .cells #[.slice bQ ba.length bR, .slice ah I.length ag] 34 (0, 0)) (bp ax.out rfl)) : be ≠ aW)); replace ax := bq #[.slice bQ ba.length bR, .slice ah I.length ag] ax hb; clear hb hbox hg; have iM := dG.out; have iN := dF.out; have iO := dI.out; have iP := dH.out; have iQ := dK.out; have iR := dJ.out; have iS := dM.out; have iT := dL.out; have iU := dO.out; have iV := dN.out; obtain ⟨iW, iX⟩ := bc2 (w := fH) aH.out; have iY := blk_frozen aH.out) | ((with_reducible refine gd 76 rfl ?_); refine Kd.R_lit k56 _ 56 ?hg (N := 76) ?hd (xs := ([] : List (S56))) (inner := []) (ok := fun _ => True) (okp := fun _ => True) ?hr ?hp (fun _ hk => hk) trivial (Below.refl _ _) (Nat.le_refl _) (by simp) ?_; (case hd => rfl); (case hg => rfl); (case hr => first | (go_simp; done) | (go_simp; rfl)); (case hp => exact (Reps.none _ _)); intro dP fJ cj hb hg_ hnew_; clear hg_ hnew_; (first | rw [← c3.out] at cj | (simp only [Int.reduceToNat] at cj; rw [← c3.out] at cj)); replace aI := am (Kd.R_below (rt aI.out aH.out (by decide)) hb); replace aJ := am (Kd.Q_below (qt aJ.out aH.out (by decide)) hb); replace aq := am (Kd.Q_below (qt aq.out aH.out (by decide)) hb); replace a3 := am (Kd.R_below (rt a3.out aH.out (by decide)) hb); have bH := am (Kd.R_lower (Kd.R_new' (Kd.R_new' (Kd.R_new' cj (Kd.R_lt (rt aQ.out aH.out (by decide)))) (Kd.R_lt (rt aT.out aH.out (by decide)))) (Kd.R_lt (rt az.out aH.out (by decide)))) (below_size (bs HB.out))); replace aQ := am (Kd.R_elder' (rt aQ.out aH.out (by decide)) (Kd.R_base cj) hb); replace aT := am (Kd.R_elder' (rt aT.out aH.out (by decide)) (Kd.R_base cj) hb); replace az := am (Kd.R_elder' (rt az.out aH.out (by decide)) (Kd.R_base cj) hb); replace J := am (blk_below (g := a1) (o := .cells #[.slice ar Y.length au, .slice aC aj.length aD] 34 (0, 0)) (bf J.out) hb); replace L := am (blk_below (g := a2) (o := .cells #[.slice av Z.length aw, .slice aE ak.length aG] 34 (0, 0)) (bf L.out) hb); replace G := am (blk_below (g := a8) (o := .cells #[.slice ac D.length ab, .slice ah I.length ag] 34 (0, 0)) (bf G.out) hb); replace z := am (blk_below (g := y) (o := .cells #[.int .i64 aa, .int .i64 af, .int .i64 ai, .int .i64 al, .int .i64 an, .int .i64 ap, .int .i64 ay, .int .i64 aA] 58 (0, 0)) (bf z.out) hb); replace ax := am (blk_below (g := aW) (o := .cells #[.slice bQ ba.length bR, .slice ah I.length ag] 34 (0, 0)) (bf ax.out) hb); replace aH := bq #[.slice ac D.length ab, .slice ah I.length ag] aH hb; replace HB := hs HB hb; clear hb cj; obtain ⟨iZ, i0⟩ := bc2 (w := fJ) G.out; have i1 := blk_frozen G.out) | ((with_reducible refine gate_builtin (b := .append) (xs := #[.tmp 76, .tmp 78]) rfl ?_); at_builtin; refine Kd.R_append_rows k56 (w0 := w) w.heap.size rfl (.tmp 76) (.tmp 78) 32 56 (.agg #[(.int .i64 0), (.int .i64 0), (.int .i64 0), (.int .i64 0), (.int .i64 0)]) 40 rfl Try.underlying32 info56 rfl (by decide) (by omega) dP bN I _ _ _ (fun k_ => some k_ ≠ (.slice aC aj.length aD : Value).ownBlock ∧ some k_ ≠ (.slice aE ak.length aG : Value).ownBlock ∧ some k_ ≠ (.slice ah I.length ag : Value).ownBlock) (fun _ => False) rfl rfl ?aO ?aR (fun _ _ h => h) (fun _ h => h.elim) ?aF ?aB ?aS ?aL ?_; (case aR => exact cr az); (case aB => exact (bs HB.out)); (case aF => exact (fun k_ hk => ⟨Kd.fresh' (rk aQ) k_ hk, Kd.fresh' (rk aT) k_ hk, Kd.fresh' (rk az) k_ hk⟩)); (case aO => exact (by (with_reducible repeat (first | apply Kd.R_alloc | apply Kd.R_drewN | apply Kd.R_drew)); exact Kd.R_mono bH.out (fun _ hk => ⟨hk.1.1.2, ⟨hk.1.2, hk.2⟩⟩))); (case aS => exact (below_size (bs HB.out))); (case aL => have := eu.out; omega); intro dQ i2 ho hb hg hat; rw [← ev.out] at ho; replace aI := am (Kd.R_over' (rl aI.out) (Kd.R_typed (rl bH.out)) (by decide) hg); replace aQ := am (Kd.R_after (ok := (fun k_ => some k_ ≠ (.slice aE ak.length aG : Value).ownBlock ∧ some k_ ≠ (.slice ah I.length ag : Value).ownBlock)) (rl aQ.out) hg hat); replace aJ := am (Kd.Q_over' (qf aJ.out) (Kd.R_typed (rl bH.out)) (by decide) hg); replace aT := am (Kd.R_after (ok := (fun k_ => some k_ ≠ (.slice aC aj.length aD : Value).ownBlock ∧ some k_ ≠ (.slice ah I.length ag : Value).ownBlock)) (rl aT.out) hg hat); replace aq := am (Kd.Q_over' (qf aq.out) (Kd.R_typed (rl bH.out)) (by decide) hg); replace az := am (Kd.R_after (ok := (fun k_ => some k_ ≠ (.slice aC aj.length aD : Value).ownBlock ∧ some k_ ≠ (.slice aE ak.length aG : Value).ownBlock)) (rl az.out) hg hat); replace J := gr J bH hg; replace L := gr L bH hg; replace G := gr G bH hg; replace z := gr z bH hg; replace ax := gr ax bH hg; replace a3 := am (Kd.R_over' (rl a3.out) (Kd.R_typed (rl bH.out)) (by decide) hg); replace aH := gr aH bH hg; replace HB := am hb; have bI := am ho; clear bH; clear ho hb hg hat) | ((with_reducible refine gate_builtin (b := .append) (xs := #[.tmp 79, .tmp 83]) rfl ?_); at_builtin; refine Kd.R_append k56 (w0 := w) w.heap.size rfl (.tmp 79) (.tmp 83) 32 56 (.agg #[(.int .i64 0), (.int .i64 0), (.int .i64 0), (.int .i64 0), (.int .i64 0)]) 40 rfl Try.underlying32 info56 rfl (by decide) (by omega) dQ bK (⟨7, (⟨7, 38⟩ : S36), (⟨7, 39⟩ : S36)⟩ : S56) [.int .i64 7, .int .i64 7, .int .i64 38, .int .i64 7, .int .i64 39] (fun k_ => some k_ ≠ (.slice aC aj.length aD : Value).ownBlock ∧ some k_ ≠ (.slice aE ak.length aG : Value).ownBlock ∧ some k_ ≠ (.slice ah I.length ag : Value).ownBlock) (fun _ => False) rfl rfl ?aP (fun _ hk => hk.elim) ?aF ?aO ?aB ?aS ?aL ?_; (case aP => exact k56_mkM _ _ _ (⟨7, (⟨7, 38⟩ : S36), (⟨7, 39⟩ : S36)⟩ : S56)); (case aB => exact (bs HB.out)); (case aF => exact (fun k_ hk => ⟨Kd.fresh' (rk aQ) k_ hk, Kd.fresh' (rk aT) k_ hk, Kd.fresh' (rk az) k_ hk⟩)); (case aO => exact (rl bI.out)); (case aS => exact (below_size (bs HB.out))); (case aL => have := ew.out; omega); intro fK eI ho hb hg hat; rw [← ex.out] at ho; replace aI := am (Kd.R_over' (rl aI.out) (Kd.R_typed (rl bI.out)) (by decide) hg); replace aQ := am (Kd.R_after (ok := (fun k_ => some k_ ≠ (.slice aE ak.length aG : Value).ownBlock ∧ some k_ ≠ (.slice ah I.length ag : Value).ownBlock)) (rl aQ.out) hg hat); replace aJ := am (Kd.Q_over' (qf aJ.out) (Kd.R_typed (rl bI.out)) (by decide) hg); replace aT := am (Kd.R_after (ok := (fun k_ => some k_ ≠ (.slice aC aj.length aD : Value).ownBlock ∧ some k_ ≠ (.slice ah I.length ag : Value).ownBlock)) (rl aT.out) hg hat); replace aq := am (Kd.Q_over' (qf aq.out) (Kd.R_typed (rl bI.out)) (by decide) hg); replace az := am (Kd.R_after (ok := (fun k_ => some k_ ≠ (.slice aC aj.length aD : Value).ownBlock ∧ some k_ ≠ (.slice aE ak.length aG : Value).ownBlock)) (rl az.out) hg hat); replace J := gr J bI hg; replace L := gr L bI hg; replace G := gr G bI hg; replace z := gr z bI hg; replace ax := gr ax bI hg; replace a3 := am (Kd.R_over' (rl a3.out) (Kd.R_typed (rl bI.out)) (by decide) hg); replace aH := gr aH bI hg; replace HB := am hb; have a9 := am ho; clear bI; clear ho hb hg hat; obtain ⟨cL, cu, fL⟩ := Kd.R_slice a9.out; subst fL; obtain ⟨i3, i4⟩ := bc2 (w := eI) aH.out; have i5 := blk_frozen aH.out; obtain ⟨i6, i7⟩ := bc2 (w := eI) G.out; have i8 := blk_frozen G.out) | ((with_reducible refine gd 9 rfl ?_); refine bx 9 (cs := #[.slice none 0 0, .slice none 0 0]) (t := 34) ?_; intro bJ hg fM hbox hb; replace aI := am (Kd.R_below (rt aI.out aH.out (by decide)) hb); replace aQ := am (Kd.R_below (rt aQ.out aH.out (by decide)) hb); replace aJ := am (Kd.Q_below (qt aJ.out aH.out (by decide)) hb); replace aT := am (Kd.R_below (rt aT.out aH.out (by decide)) hb); replace aq := am (Kd.Q_below (qt aq.out aH.out (by decide)) hb); replace az := am (Kd.R_below (rt az.out aH.out (by decide)) hb); replace a3 := am (Kd.R_below (rt a3.out aH.out (by decide)) hb); replace a9 := am (Kd.R_below (rt a9.out aH.out (by decide)) hb); have aN := am hbox; have fN := gwb HB hg; replace HB := hs HB hb; have dR := Nq.mk ((by rw [hg]; exact Nat.ne_of_lt (blk_lt (g := a1) (o := .cells #[.slice ar Y.length au, .slice aC aj.length aD] 34 (0, 0)) (bf J.out)) : a1 ≠ bJ)); have dS := Nq.mk ((by rw [hg]; exact Nat.ne_of_gt (blk_lt (g := a1) (o := .cells #[.slice ar Y.length au, .slice aC aj.length aD] 34 (0, 0)) (bf J.out)) : bJ ≠ a1)); replace J := am (blk_below (g := a1) (o := .cells #[.slice ar Y.length au, .slice aC aj.length aD] 34 (0, 0)) (bf J.out) hb); have dT := Nq.mk ((by rw [hg]; exact Nat.ne_of_lt (blk_lt (g := a2) (o := .cells #[.slice av Z.length aw, .slice aE ak.length aG] 34 (0, 0)) (bf L.out)) : a2 ≠ bJ)); have dU := Nq.mk ((by rw [hg]; exact Nat.ne_of_gt (blk_lt (g := a2) (o := .cells #[.slice av Z.length aw, .slice aE ak.length aG] 34 (0, 0)) (bf L.out)) : bJ ≠ a2)); replace L := am (blk_below (g := a2) (o := .cells #[.slice av Z.length aw, .slice aE ak.length aG] 34 (0, 0)) (bf L.out) hb); have dV := Nq.mk ((by rw [hg]; exact Nat.ne_of_lt (blk_lt (g := a8) (o := .cells #[.slice ac D.length ab, .slice ah I.length ag] 34 (0, 0)) (bf G.out)) : a8 ≠ bJ)); have dW := Nq.mk ((by rw [hg]; exact Nat.ne_of_gt (blk_lt (g := a8) (o := .cells #[.slice ac D.length ab, .slice ah I.length ag] 34 (0, 0)) (bf G.out)) : bJ ≠ a8)); replace G := am (blk_below (g := a8) (o := .cells #[.slice ac D.length ab, .slice ah I.length ag] 34 (0, 0)) (bf G.out) hb); have dX := Nq.mk ((by rw [hg]; exact Nat.ne_of_lt (blk_lt (g := y) (o := .cells #[.int .i64 aa, .int .i64 af, .int .i64 ai, .int .i64 al, .int .i64 an, .int .i64 ap, .int .i64 ay, .int .i64 aA] 58 (0, 0)) (bf z.out)) : y ≠ bJ)); have dY := Nq.mk ((by rw [hg]; exact Nat.ne_of_gt (blk_lt (g := y) (o := .cells #[.int .i64 aa, .int .i64 af, .int .i64 ai, .int .i64 al, .int .i64 an, .int .i64 ap, .int .i64 ay, .int .i64 aA] 58 (0, 0)) (bf z.out)) : bJ ≠ y)); replace z := am (blk_below (g := y) (o := .cells #[.int .i64 aa, .int .i64 af, .int .i64 ai, .int .i64 al, .int .i64 an, .int .i64 ap, .int .i64 ay, .int .i64 aA] 58 (0, 0)) (bf z.out) hb); have dZ := Nq.mk ((by rw [hg]; exact Nat.ne_of_lt (blk_lt (g := aW) (o := .cells #[.slice bQ ba.length bR, .slice ah I.length ag] 34 (0, 0)) (bf ax.out)) : aW ≠ bJ)); have d0 := Nq.mk ((by rw [hg]; exact Nat.ne_of_gt (blk_lt (g := aW) (o := .cells #[.slice bQ ba.length bR, .slice ah I.length ag] 34 (0, 0)) (bf ax.out)) : bJ ≠ aW)); replace ax := am (blk_below (g := aW) (o := .cells #[.slice bQ ba.length bR, .slice ah I.length ag] 34 (0, 0)) (bf ax.out) hb); have d1 := Nq.mk ((by rw [hg]; exact Nat.ne_of_lt (blk_lt (g := be) (o := .cells #[.slice ac D.length ab, .slice cL aY.length cu] 34 (0, 0)) (bp aH.out rfl)) : be ≠ bJ)); have d2 := Nq.mk ((by rw [hg]; exact Nat.ne_of_gt (blk_lt (g := be) (o := .cells #[.slice ac D.length ab, .slice cL aY.length cu] 34 (0, 0)) (bp aH.out rfl)) : bJ ≠ be)); replace aH := bq #[.slice ac D.length ab, .slice cL aY.length cu] aH hb; clear hb hbox hg; have i9 := dS.out; have ja := dR.out; have jb := dU.out; have jc := dT.out; have jd := dW.out; have je := dV.out; have jf := dY.out; have jg := dX.out; have jh := d0.out; have ji := dZ.out; have jj := d2.out; have jk := d1.out; obtain ⟨jl, jm⟩ := bc2 (w := fM) aN.out; have jn := blk_frozen aN.out) | ((with_reducible refine gd 87 rfl ?_); refine Kd.R_lit k36 _ 36 ?hg (N := 87) ?hd (xs := ([] : List (S36))) (inner := []) (ok := fun _ => True) (okp := fun _ => True) ?hr ?hp (fun _ hk => hk) trivial (Below.refl _ _) (Nat.le_refl _) (by simp) ?_; (case hd => rfl); (case hg => rfl); (case hr => first | (go_simp; done) | (go_simp; rfl)); (case hp => exact (Reps.none _ _)); intro d3 fO cf hb hg_ hnew_; clear hg_ hnew_; (first | rw [← c7.out] at cf | (simp only [Int.reduceToNat] at cf; rw [← c7.out] at cf)); replace aQ := am (Kd.R_below (rt aQ.out aN.out (by decide)) hb); replace aT := am (Kd.R_below (rt aT.out aN.out (by decide)) hb); replace az := am (Kd.R_below (rt az.out aN.out (by decide)) hb); replace a9 := am (Kd.R_below (rt a9.out aN.out (by decide)) hb); have bD := am (Kd.R_lower (Kd.R_new' (Kd.R_new' (Kd.R_new' (Kd.R_new' cf (Kd.R_lt (rt aI.out aN.out (by decide)))) (Kd.Q_lt (qt aJ.out aN.out (by decide)))) (Kd.Q_lt (qt aq.out aN.out (by decide)))) (Kd.R_lt (rt a3.out aN.out (by decide)))) (below_size (bs HB.out))); replace aI := am (Kd.R_elder' (rt aI.out aN.out (by decide)) (Kd.R_base cf) hb); replace aJ := am (Kd.Q_elder' (qt aJ.out aN.out (by decide)) (Kd.R_base cf) hb); replace aq := am (Kd.Q_elder' (qt aq.out aN.out (by decide)) (Kd.R_base cf) hb); replace a3 := am (Kd.R_elder' (rt a3.out aN.out (by decide)) (Kd.R_base cf) hb); replace J := am (blk_below (g := a1) (o := .cells #[.slice ar Y.length au, .slice aC aj.length aD] 34 (0, 0)) (bf J.out) hb); replace L := am (blk_below (g := a2) (o := .cells #[.slice av Z.length aw, .slice aE ak.length aG] 34 (0, 0)) (bf L.out) hb); replace G := am (blk_below (g := a8) (o := .cells #[.slice ac D.length ab, .slice ah I.length ag] 34 (0, 0)) (bf G.out) hb); replace z := am (blk_below (g := y) (o := .cells #[.int .i64 aa, .int .i64 af, .int .i64 ai, .int .i64 al, .int .i64 an, .int .i64 ap, .int .i64 ay, .int .i64 aA] 58 (0, 0)) (bf z.out) hb); replace ax := am (blk_below (g := aW) (o := .cells #[.slice bQ ba.length bR, .slice ah I.length ag] 34 (0, 0)) (bf ax.out) hb); replace aH := am (blk_below (g := be) (o := .cells #[.slice ac D.length ab, .slice cL aY.length cu] 34 (0, 0)) (bf aH.out) hb); replace aN := bq #[.slice ac D.length ab, .slice ah I.length ag] aN hb; replace HB := hs HB hb; clear hb cf; obtain ⟨jo, jp⟩ := bc2 (w := fO) G.out; have jq := blk_frozen G.out) | ((with_reducible refine gate_builtin (b := .append) (xs := #[.tmp 87, .tmp 89]) rfl ?_); at_builtin; refine Kd.R_append_rows k36 (w0 := w) w.heap.size rfl (.tmp 87) (.tmp 89) 29 36 (.agg #[(.int .i64 0), (.int .i64 0)]) 16 rfl Try.underlying29 info36 rfl (by decide) (by omega) d3 bv D _ _ _ (fun k_ => some k_ ≠ (.slice ar Y.length au : Value).ownBlock ∧ some k_ ≠ (.slice av Z.length aw : Value).ownBlock ∧ some k_ ≠ (.slice ac D.length ab : Value).ownBlock ∧ some k_ ≠ (.slice bQ ba.length bR : Value).ownBlock) (fun _ => False) rfl rfl ?aO ?aR (fun _ _ h => h) (fun _ h => h.elim) ?aF ?aB ?aS ?aL ?_; (case aR => exact cq aq); (case aB => exact (bs HB.out)); (case aF => exact (fun k_ hk => ⟨Kd.fresh' (rk aI) k_ hk, Kd.fresh' (ql aJ) k_ hk, Kd.fresh' (ql aq) k_ hk, Kd.fresh' (rk a3) k_ hk⟩)); (case aO => exact (by (with_reducible repeat (first | apply Kd.R_alloc | apply Kd.R_drewN | apply Kd.R_drew)); exact Kd.R_mono bD.out (fun _ hk => ⟨hk.1.1.1.2, ⟨hk.1.1.2, ⟨hk.1.2, hk.2⟩⟩⟩))); (case aS => exact (below_size (bs HB.out))); (case aL => have := ey.out; omega); intro d4 jr ho hb hg hat; rw [← ez.out] at ho; replace aI := am (Kd.R_after (ok := (fun k_ => some k_ ≠ (.slice av Z.length aw : Value).ownBlock ∧ some k_ ≠ (.slice ac D.length ab : Value).ownBlock ∧ some k_ ≠ (.slice bQ ba.length bR : Value).ownBlock)) (by (with_reducible repeat (first | apply Kd.R_alloc | apply Kd.R_drewN | apply Kd.R_drew)); exact Kd.R_mono aI.out (fun _ hk => ⟨⟨hk.1.1.1, ⟨hk.1.1.2, hk.1.2⟩⟩, hk.2⟩)) hg hat); replace aQ := am (Kd.R_over' (rl aQ.out) (Kd.R_typed (rl bD.out)) (by decide) hg); replace aJ := am (Kd.Q_after (ok := (fun k_ => some k_ ≠ (.slice ar Y.length au : Value).ownBlock ∧ some k_ ≠ (.slice ac D.length ab : Value).ownBlock ∧ some k_ ≠ (.slice bQ ba.length bR : Value).ownBlock)) (by (with_reducible repeat (first | apply Kd.Q_alloc | apply Kd.Q_drewN | apply Kd.Q_drew)); exact Kd.Q_mono aJ.out (fun _ hk => ⟨⟨hk.1.1.1, ⟨hk.1.1.2, hk.1.2⟩⟩, hk.2⟩)) hg hat); replace aT := am (Kd.R_over' (rl aT.out) (Kd.R_typed (rl bD.out)) (by decide) hg); replace aq := am (Kd.Q_after (ok := (fun k_ => some k_ ≠ (.slice ar Y.length au : Value).ownBlock ∧ some k_ ≠ (.slice av Z.length aw : Value).ownBlock ∧ some k_ ≠ (.slice bQ ba.length bR : Value).ownBlock)) (by (with_reducible repeat (first | apply Kd.Q_alloc | apply Kd.Q_drewN | apply Kd.Q_drew)); exact Kd.Q_mono aq.out (fun _ hk => ⟨⟨hk.1.1.1, ⟨hk.1.1.2, hk.1.2⟩⟩, hk.2⟩)) hg hat); replace az := am (Kd.R_over' (rl az.out) (Kd.R_typed (rl bD.out)) (by decide) hg); replace J := gr J bD hg; replace L := gr L bD hg; replace G := gr G bD hg; replace z := gr z bD hg; replace ax := gr ax bD hg; replace a3 := am (Kd.R_after (ok := (fun k_ => some k_ ≠ (.slice ar Y.length au : Value).ownBlock ∧ some k_ ≠ (.slice av Z.length aw : Value).ownBlock ∧ some k_ ≠ (.slice ac D.length ab : Value).ownBlock)) (rl a3.out) hg hat); replace aH := gr aH bD hg; replace a9 := am (Kd.R_over' (rl a9.out) (Kd.R_typed (rl bD.out)) (by decide) hg); replace aN := gr aN bD hg; replace HB := am hb; have bE := am ho; clear bD; clear ho hb hg hat) | ((with_reducible refine gate_builtin (b := .append) (xs := #[.tmp 90, .tmp 92]) rfl ?_); at_builtin; refine Kd.R_append k36 (w0 := w) w.heap.size rfl (.tmp 90) (.tmp 92) 29 36 (.agg #[(.int .i64 0), (.int .i64 0)]) 16 rfl Try.underlying29 info36 rfl (by decide) (by omega) d4 bc (⟨8, 0⟩ : S36) [.int .i64 8, .int .i64 0] (fun k_ => some k_ ≠ (.slice ar Y.length au : Value).ownBlock ∧ some k_ ≠ (.slice av Z.length aw : Value).ownBlock ∧ some k_ ≠ (.slice ac D.length ab : Value).ownBlock ∧ some k_ ≠ (.slice bQ ba.length bR : Value).ownBlock) (fun _ => False) rfl rfl ?aP (fun _ hk => hk.elim) ?aF ?aO ?aB ?aS ?aL ?_; (case aP => exact k36_mkM _ _ _ (⟨8, 0⟩ : S36)); (case aB => exact (bs HB.out)); (case aF => exact (fun k_ hk => ⟨Kd.fresh' (rk aI) k_ hk, Kd.fresh' (ql aJ) k_ hk, Kd.fresh' (ql aq) k_ hk, Kd.fresh' (rk a3) k_ hk⟩)); (case aO => exact (rl bE.out)); (case aS => exact (below_size (bs HB.out))); (case aL => have := eA.out; omega); intro fP d5 ho hb hg hat; rw [← eB.out] at ho; replace aI := am (Kd.R_after (ok := (fun k_ => some k_ ≠ (.slice av Z.length aw : Value).ownBlock ∧ some k_ ≠ (.slice ac D.length ab : Value).ownBlock ∧ some k_ ≠ (.slice bQ ba.length bR : Value).ownBlock)) (rl aI.out) hg hat); replace aQ := am (Kd.R_over' (rl aQ.out) (Kd.R_typed (rl bE.out)) (by decide) hg); replace aJ := am (Kd.Q_after (ok := (fun k_ => some k_ ≠ (.slice ar Y.length au : Value).ownBlock ∧ some k_ ≠ (.slice ac D.length ab : Value).ownBlock ∧ some k_ ≠ (.slice bQ ba.length bR : Value).ownBlock)) (qf aJ.out) hg hat); replace aT := am (Kd.R_over' (rl aT.out) (Kd.R_typed (rl bE.out)) (by decide) hg); replace aq := am (Kd.Q_after (ok := (fun k_ => some k_ ≠ (.slice ar Y.length au : Value).ownBlock ∧ some k_ ≠ (.slice av Z.length aw : Value).ownBlock ∧ some k_ ≠ (.slice bQ ba.length bR : Value).ownBlock)) (qf aq.out) hg hat); replace az := am (Kd.R_over' (rl az.out) (Kd.R_typed (rl bE.out)) (by decide) hg); replace J := gr J bE hg; replace L := gr L bE hg; replace G := gr G bE hg; replace z := gr z bE hg; replace ax := gr ax bE hg; replace a3 := am (Kd.R_after (ok := (fun k_ => some k_ ≠ (.slice ar Y.length au : Value).ownBlock ∧ some k_ ≠ (.slice av Z.length aw : Value).ownBlock ∧ some k_ ≠ (.slice ac D.length ab : Value).ownBlock)) (rl a3.out) hg hat); replace aH := gr aH bE hg; replace a9 := am (Kd.R_over' (rl a9.out) (Kd.R_typed (rl bE.out)) (by decide) hg); replace aN := gr aN bE hg; replace HB := am hb; have bA := am ho; clear bE; clear ho hb hg hat; obtain ⟨eJ, eK, fQ⟩ := Kd.R_slice bA.out; subst fQ; obtain ⟨js, jt⟩ := bc2 (w := d5) aN.out; have ju := blk_frozen aN.out; obtain ⟨jv, jw⟩ := bc2 (w := d5) G.out; have jx := blk_frozen G.out; obtain ⟨jy, jz⟩ := bc2 (w := d5) aH.out; have jA := blk_frozen aH.out) | (go_at_call 34; (with_reducible refine (impl_GraphOk.calls ao _ _ D _ _ aY false _ ?aK ?aM ?aU ?aV fz.out).mono ?_); (case aK => refine (Kd.Q_reads' (e := 36) (base := w.heap.size) (ok := fun k_ => ((some k_ ≠ (.slice ar Y.length au : Value).ownBlock ∧ (some k_ ≠ (.slice av Z.length aw : Value).ownBlock ∧ some k_ ≠ (.slice bQ ba.length bR : Value).ownBlock)) ∧ some k_ ≠ (.slice eJ aZ.length eK : Value).ownBlock)) (n := D.length) (c := ab) ?_).2.2; exact (qt aq.out aN.out (by decide))); (case aM => exact cd aq); (case aU => refine (Kd.R_reads' (e := 56) (base := w.heap.size) (ok := fun k_ => (some k_ ≠ (.slice aC aj.length aD : Value).ownBlock ∧ (some k_ ≠ (.slice aE ak.length aG : Value).ownBlock ∧ some k_ ≠ (.slice ah I.length ag : Value).ownBlock))) (n := aY.length) (c := cu) ?_).2.2; exact (rt a9.out aN.out (by decide))); (case aV => exact cc a9); rintro e fR ⟨rfl, hb⟩; replace aI := am (Kd.R_below (rt aI.out aN.out (by decide)) hb); replace aQ := am (Kd.R_below (rt aQ.out aN.out (by decide)) hb); replace aJ := am (Kd.Q_below (qt aJ.out aN.out (by decide)) hb); replace aT := am (Kd.R_below (rt aT.out aN.out (by decide)) hb); replace aq := am (Kd.Q_below (qt aq.out aN.out (by decide)) hb); replace az := am (Kd.R_below (rt az.out aN.out (by decide)) hb); replace a3 := am (Kd.R_below (rt a3.out aN.out (by decide)) hb); replace a9 := am (Kd.R_below (rt a9.out aN.out (by decide)) hb); replace bA := am (Kd.R_below (rt bA.out aN.out (by decide)) hb); replace J := am (blk_below (g := a1) (o := .cells #[.slice ar Y.length au, .slice aC aj.length aD] 34 (0, 0)) (bf J.out) hb); replace L := am (blk_below (g := a2) (o := .cells #[.slice av Z.length aw, .slice aE ak.length aG] 34 (0, 0)) (bf L.out) hb); replace G := am (blk_below (g := a8) (o := .cells #[.slice ac D.length ab, .slice ah I.length ag] 34 (0, 0)) (bf G.out) hb); replace z := am (blk_below (g := y) (o := .cells #[.int .i64 aa, .int .i64 af, .int .i64 ai, .int .i64 al, .int .i64 an, .int .i64 ap, .int .i64 ay, .int .i64 aA] 58 (0, 0)) (bf z.out) hb); replace ax := am (blk_below (g := aW) (o := .cells #[.slice bQ ba.length bR, .slice ah I.length ag] 34 (0, 0)) (bf ax.out) hb); replace aH := am (blk_below (g := be) (o := .cells #[.slice ac D.length ab, .slice cL aY.length cu] 34 (0, 0)) (bf aH.out) hb); replace aN := bq #[.slice eJ aZ.length eK, .slice ah I.length ag] aN hb; replace HB := hs HB hb; (try clear hb); (try clear hb2); (try clear hk); (try clear hi); obtain ⟨jB, jC⟩ := bc2 (w := fR) aN.out; have jD := blk_frozen aN.out) | (go_at_call 34; (with_reducible refine (impl_GraphOk.calls ao _ _ aZ _ _ I false _ ?aK ?aM ?aU ?aV fA.out).mono ?_); (case aK => exact cr bA); (case aM => exact cc bA); (case aU => exact cr az); (case aV => exact cc az); rintro e eL ⟨rfl, hb⟩; replace aI := rb aI hb; replace aQ := rb aQ hb; replace aJ := qb aJ hb; replace aT := rb aT hb; replace aq := qb aq hb; replace az := rb az hb; replace a3 := rb a3 hb; replace a9 := rb a9 hb; replace bA := rb bA hb; replace J := bb J hb rfl; replace L := bb L hb rfl; replace G := bb G hb rfl; replace z := bb z hb rfl; replace ax := bb ax hb rfl; replace aH := bb aH hb rfl; replace aN := bb aN hb rfl; replace HB := hs HB hb; (try clear hb); (try clear hb2); (try clear hk); (try clear hi); obtain ⟨jE, jF⟩ := bc2 (w := eL) G.out; have jG := blk_frozen G.out; obtain ⟨jH, jI⟩ := bc2 (w := eL) aH.out; have jJ := blk_frozen aH.out) | (go_at_call 41; (with_reducible refine (impl_GraphSame.calls ao _ _ D _ _ I _ _ D _ _ aY false _ ?aK ?aM ?aU ?aV ?a4 ?a5 ?a6 ?a7 fB.out).mono ?_); (case aK => exact cq aq); (case aM => exact cd aq); (case aU => exact cr az); (case aV => exact cc az); (case a4 => exact cq aq); (case a5 => exact cd aq); (case a6 => exact cr a9); (case a7 => exact cc a9); rintro e eM ⟨rfl, hb⟩; replace aI := rb aI hb; replace aQ := rb aQ hb; replace aJ := qb aJ hb; replace aT := rb aT hb; replace aq := qb aq hb; replace az := rb az hb; replace a3 := rb a3 hb; replace a9 := rb a9 hb; replace bA := rb bA hb; replace J := bb J hb rfl; replace L := bb L hb rfl; replace G := bb G hb rfl; replace z := bb z hb rfl; replace ax := bb ax hb rfl; replace aH := bb aH hb rfl; replace aN := bb aN hb rfl; replace HB := hs HB hb; (try clear hb); (try clear hb2); (try clear hk); (try clear hi); obtain ⟨jK, jL⟩ := bc2 (w := eM) G.out; have jM := blk_frozen G.out; obtain ⟨jN, jO⟩ := bc2 (w := eM) aN.out; have jP := blk_frozen aN.out) | (go_at_call 41; (with_reducible refine (impl_GraphSame.calls ao _ _ D _ _ I _ _ aZ _ _ I bw _ ?aK ?aM ?aU ?aV ?a4 ?a5 ?a6 ?a7 fC.out).mono ?_); (case aK => exact cq aq); (case aM => exact cd aq); (case aU => exact cr az); (case aV => exact cc az); (case a4 => exact cr bA); (case a5 => exact cc bA); (case a6 => exact cr az); (case a7 => exact cc az); rintro e jQ ⟨rfl, hb⟩; replace aI := rb aI hb; replace aQ := rb aQ hb; replace aJ := qb aJ hb; replace aT := rb aT hb; replace aq := qb aq hb; replace az := rb az hb; replace a3 := rb a3 hb; replace a9 := rb a9 hb; replace bA := rb bA hb; replace J := bb J hb rfl; replace L := bb L hb rfl; replace G := bb G hb rfl; replace z := bb z hb rfl; replace ax := bb ax hb rfl; replace aH := bb aH hb rfl; replace aN := bb aN hb rfl; replace HB := hs HB hb; (try clear hb); (try clear hb2); (try clear hk); (try clear hi)))
                go_ret
                exact ⟨eqr, bs HB.out⟩
            ·rw [if_neg ch] at H
             have fx : ((D.length : Int) == 0) = false := beq_eq_false_iff_ne.mpr ch
             have fy : ((D.length : Int) != 0) = true := bne_iff_ne.mpr ch
             have jR : ¬ (D = []) := fun h_ => ch (by rw [h_]; rfl)
             replace H := Option.bind_eq_some_iff.mp H
             obtain ⟨bM, eN, H⟩ := H
             try dsimp -simprocs only at H
             have fS := am eN
             clear eN
             by_cases dd : bM = true
             ·subst dd
              replace H : (some false) = some r := by rw [if_pos rfl] at H; exact H
              exact absurd (Option.some.inj H) (by rw [hT.out]; decide)
             ·replace dd := Bool.eq_false_iff.mpr dd
              subst dd
              have H1 : ((impl_GraphOk.f ao D aY).bind fun bG => (if bG = true then (some false) else ((impl_GraphOk.f ao aZ I).bind fun bC => (if bC = true then (some false) else ((impl_GraphSame.f ao D I D aY).bind fun bz => (if bz = true then (some false) else ((impl_GraphSame.f ao D I aZ I).bind fun bu => (some (!bu))))))))) = some r := by rw [if_neg (show ¬ (false = true) by decide)] at H; exact H
              clear H
              have H := H1
              clear H1
              replace H := Option.bind_eq_some_iff.mp H
              obtain ⟨bG, eO, H⟩ := H
              try dsimp -simprocs only at H
              have fT := am eO
              clear eO
              by_cases de : bG = true
              ·subst de
               replace H : (some false) = some r := by rw [if_pos rfl] at H; exact H
               exact absurd (Option.some.inj H) (by rw [hT.out]; decide)
              ·replace de := Bool.eq_false_iff.mpr de
               subst de
               have H1 : ((impl_GraphOk.f ao aZ I).bind fun bC => (if bC = true then (some false) else ((impl_GraphSame.f ao D I D aY).bind fun bz => (if bz = true then (some false) else ((impl_GraphSame.f ao D I aZ I).bind fun bu => (some (!bu))))))) = some r := by rw [if_neg (show ¬ (false = true) by decide)] at H; exact H
               clear H
               have H := H1
               clear H1
               replace H := Option.bind_eq_some_iff.mp H
               obtain ⟨bC, eP, H⟩ := H
               try dsimp -simprocs only at H
               have fU := am eP
               clear eP
               by_cases df : bC = true
               ·subst df
                replace H : (some false) = some r := by rw [if_pos rfl] at H; exact H
                exact absurd (Option.some.inj H) (by rw [hT.out]; decide)
               ·replace df := Bool.eq_false_iff.mpr df
                subst df
                have H1 : ((impl_GraphSame.f ao D I D aY).bind fun bz => (if bz = true then (some false) else ((impl_GraphSame.f ao D I aZ I).bind fun bu => (some (!bu))))) = some r := by rw [if_neg (show ¬ (false = true) by decide)] at H; exact H
                clear H
                have H := H1
                clear H1
                replace H := Option.bind_eq_some_iff.mp H
                obtain ⟨bz, eQ, H⟩ := H
                try dsimp -simprocs only at H
                have fV := am eQ
                clear eQ
                by_cases dg : bz = true
                ·subst dg
                 replace H : (some false) = some r := by rw [if_pos rfl] at H; exact H
                 exact absurd (Option.some.inj H) (by rw [hT.out]; decide)
                ·replace dg := Bool.eq_false_iff.mpr dg
                 subst dg
                 have H1 : ((impl_GraphSame.f ao D I aZ I).bind fun bu => (some (!bu))) = some r := by rw [if_neg (show ¬ (false = true) by decide)] at H; exact H
                 clear H
                 have H := H1
                 clear H1
                 replace H := Option.bind_eq_some_iff.mp H
                 obtain ⟨bu, eR, H⟩ := H
                 try dsimp -simprocs only at H
                 have fW := am eR
                 clear eR
                 obtain rfl := Option.some.inj H
                 have jS := cN.out
                 have jT := cM.out
                 have jU := cP.out
                 have jV := cO.out
                 have jW := cQ.out
                 have jX := cR.out
                 obtain ⟨jY, jZ⟩ := bc2 (w := wc) G.out
                 have j1 := blk_frozen G.out
                 try go_wp2_with (first | ((with_reducible refine gc 33 rfl ?_); refine gl 64 Try.func33 #[.agg #[.slice ac D.length ab, .slice ah I.length ag]] ?_; (with_reducible refine (spec_GraphOk.calls ao _ _ D _ _ I true _ ?aK ?aM ?aU ?aV dp.out).mono ?_); (case aK => exact cq aq); (case aM => exact cd aq); (case aU => exact cr az); (case aV => exact cc az); rintro e fX ⟨rfl, hb⟩; refine ⟨_, rfl, ?_⟩; replace aI := rb aI hb; replace aQ := rb aQ hb; replace aJ := qb aJ hb; replace aT := rb aT hb; replace aq := qb aq hb; replace az := rb az hb; replace J := bb J hb rfl; replace L := bb L hb rfl; replace G := bb G hb rfl; replace z := bb z hb rfl; replace HB := hs HB hb; (try clear hb); (try clear hb2); (try clear hk); (try clear hi); obtain ⟨j2, j3⟩ := bc2 (w := fX) G.out; have j4 := blk_frozen G.out) | ((with_reducible refine gd 7 rfl ?_); refine bx 7 (cs := #[.slice none 0 0, .slice none 0 0]) (t := 34) ?_; intro aW hg bY hbox hb; replace aI := rb aI hb; replace aQ := rb aQ hb; replace aJ := qb aJ hb; replace aT := rb aT hb; replace aq := qb aq hb; replace az := rb az hb; have ax := am hbox; have fE := gwb HB hg; replace HB := hs HB hb; have cC := nq J hg; have cD := nq' J hg; replace J := bb J hb rfl; have cE := nq L hg; have cF := nq' L hg; replace L := bb L hb rfl; have ce := nq G hg; have cG := nq' G hg; replace G := bb G hb rfl; have cH := nq z hg; have cI := nq' z hg; replace z := bb z hb rfl; clear hb hbox hg; have j5 := cD.out; have j6 := cC.out; have j7 := cF.out; have j8 := cE.out; have j9 := cG.out; have ka := ce.out; have kc := cI.out; have kd := cH.out; obtain ⟨ke, kf⟩ := bc2 (w := bY) ax.out; have kg := blk_frozen ax.out))
                 have bg : Aside0 (Kd.R k36 36 ((bY.setCell ⟨aW, 0, none⟩ (.slice ac D.length ab)).setCell ⟨aW, 1, none⟩ (.slice ah I.length ag)) w.heap.size (fun k_ => some k_ ≠ (.slice av Z.length aw : Value).ownBlock ∧ some k_ ≠ (.slice ac D.length ab : Value).ownBlock) (.slice ar Y.length au) Y) := ⟨Kd.R_mono (rt aI.out ax.out (by decide)) (fun _ hk => ⟨hk.1, hk.2⟩)⟩
                 have bh : Aside0 (Kd.R k56 56 ((bY.setCell ⟨aW, 0, none⟩ (.slice ac D.length ab)).setCell ⟨aW, 1, none⟩ (.slice ah I.length ag)) w.heap.size (fun k_ => some k_ ≠ (.slice aE ak.length aG : Value).ownBlock ∧ some k_ ≠ (.slice ah I.length ag : Value).ownBlock) (.slice aC aj.length aD) aj) := ⟨Kd.R_mono (rt aQ.out ax.out (by decide)) (fun _ hk => ⟨hk.1, hk.2⟩)⟩
                 have bi : Aside0 (Kd.Q k36 36 ((bY.setCell ⟨aW, 0, none⟩ (.slice ac D.length ab)).setCell ⟨aW, 1, none⟩ (.slice ah I.length ag)) w.heap.size (fun k_ => some k_ ≠ (.slice ar Y.length au : Value).ownBlock ∧ some k_ ≠ (.slice ac D.length ab : Value).ownBlock) (.slice av Z.length aw) Z) := ⟨Kd.Q_mono (qt aJ.out ax.out (by decide)) (fun _ hk => ⟨hk.1, hk.2⟩)⟩
                 have bj : Aside0 (Kd.R k56 56 ((bY.setCell ⟨aW, 0, none⟩ (.slice ac D.length ab)).setCell ⟨aW, 1, none⟩ (.slice ah I.length ag)) w.heap.size (fun k_ => some k_ ≠ (.slice aC aj.length aD : Value).ownBlock ∧ some k_ ≠ (.slice ah I.length ag : Value).ownBlock) (.slice aE ak.length aG) ak) := ⟨Kd.R_mono (rt aT.out ax.out (by decide)) (fun _ hk => ⟨hk.1, hk.2⟩)⟩
                 have bk : Aside0 (Kd.Q k36 36 ((bY.setCell ⟨aW, 0, none⟩ (.slice ac D.length ab)).setCell ⟨aW, 1, none⟩ (.slice ah I.length ag)) w.heap.size (fun k_ => some k_ ≠ (.slice ar Y.length au : Value).ownBlock ∧ some k_ ≠ (.slice av Z.length aw : Value).ownBlock) (.slice ac D.length ab) D) := ⟨Kd.Q_mono (qt aq.out ax.out (by decide)) (fun _ hk => ⟨hk.1, hk.2⟩)⟩
                 have bl : Aside0 (Kd.R k56 56 ((bY.setCell ⟨aW, 0, none⟩ (.slice ac D.length ab)).setCell ⟨aW, 1, none⟩ (.slice ah I.length ag)) w.heap.size (fun k_ => some k_ ≠ (.slice aC aj.length aD : Value).ownBlock ∧ some k_ ≠ (.slice aE ak.length aG : Value).ownBlock) (.slice ah I.length ag) I) := ⟨Kd.R_mono (rt az.out ax.out (by decide)) (fun _ hk => ⟨hk.1, hk.2⟩)⟩
                 have bm : Aside0 (((bY.setCell ⟨aW, 0, none⟩ (.slice ac D.length ab)).setCell ⟨aW, 1, none⟩ (.slice ah I.length ag)).heap[a1]? = some (.cells #[.slice ar Y.length au, .slice aC aj.length aD] 34 (0, 0))) := ⟨bf J.out⟩
                 have bn : Aside0 (((bY.setCell ⟨aW, 0, none⟩ (.slice ac D.length ab)).setCell ⟨aW, 1, none⟩ (.slice ah I.length ag)).heap[a2]? = some (.cells #[.slice av Z.length aw, .slice aE ak.length aG] 34 (0, 0))) := ⟨bf L.out⟩
                 have bo : Aside0 (((bY.setCell ⟨aW, 0, none⟩ (.slice ac D.length ab)).setCell ⟨aW, 1, none⟩ (.slice ah I.length ag)).heap[a8]? = some (.cells #[.slice ac D.length ab, .slice ah I.length ag] 34 (0, 0))) := ⟨bf G.out⟩
                 have br : Aside0 (((bY.setCell ⟨aW, 0, none⟩ (.slice ac D.length ab)).setCell ⟨aW, 1, none⟩ (.slice ah I.length ag)).heap[y]? = some (.cells #[.int .i64 aa, .int .i64 af, .int .i64 ai, .int .i64 al, .int .i64 an, .int .i64 ap, .int .i64 ay, .int .i64 aA] 58 (0, 0))) := ⟨bf z.out⟩
                 have bt : Aside0 (((bY.setCell ⟨aW, 0, none⟩ (.slice ac D.length ab)).setCell ⟨aW, 1, none⟩ (.slice ah I.length ag)).heap[aW]? = some (.cells #[.slice ac D.length ab, .slice ah I.length ag] 34 (0, 0))) := ⟨by (with_reducible repeat (first | refine blk_drewN ?_ _ | refine blk_drew ?_ | refine blk_alloc ?_ _)); refine blk_put (cs := #[.slice ac D.length ab, .slice none 0 0]) ?_ 1 _ rfl; (with_reducible repeat (first | refine blk_drewN ?_ _ | refine blk_drew ?_ | refine blk_alloc ?_ _)); refine blk_put (cs := #[.slice none 0 0, .slice none 0 0]) ?_ 0 _ rfl; exact bf ax.out⟩
                 have cp : Aside0 (Below w.heap.size w ((bY.setCell ⟨aW, 0, none⟩ (.slice ac D.length ab)).setCell ⟨aW, 1, none⟩ (.slice ah I.length ag))) := ⟨bs HB.out⟩
                 (try clear aI)
                 (try clear aQ)
                 (try clear aJ)
                 (try clear aT)
                 (try clear aq)
                 (try clear az)
                 (try clear J)
                 (try clear L)
                 (try clear G)
                 (try clear z)
                 (try clear ax)
                 (try clear HB)
                 generalize ((bY.setCell ⟨aW, 0, none⟩ (.slice ac D.length ab)).setCell ⟨aW, 1, none⟩ (.slice ah I.length ag)) = fY at bg bh bi bj bk bl bm bn bo br bt cp ⊢
                 have aI := bg
                 have aQ := bh
                 have aJ := bi
                 have aT := bj
                 have aq := bk
                 have az := bl
                 have J := bm
                 have L := bn
                 have G := bo
                 have z := br
                 have ax := bt
                 have HB := cp
                 clear bg bh bi bj bk bl bm bn bo br bt cp
                 replace aI := rd_ aI
                 replace aQ := rd_ aQ
                 replace aJ := qd aJ
                 replace aT := rd_ aT
                 replace aq := qd aq
                 replace az := rd_ az
                 replace J := bd J
                 replace L := bd L
                 replace G := bd G
                 replace z := bd z
                 replace ax := bd ax
                 replace HB := hd HB
                 refine sta 9 (fun w' => w'.cell? ⟨a8, 0, none⟩ = some (.slice ac D.length ab) ∧ w'.cell? ⟨a8, 1, none⟩ = some (.slice ah I.length ag)) [] ⟨cx G 0, cx G 1⟩ (fun hHeld => ?_); refine with_tabW laws_FnGraphBent.tab11 laws_FnGraphBent.bits11 (fun HT_ HW_ => ?_)
                 generalize fY.drew = kh at aI aQ aJ aT aq az J L G z ax HB hHeld ⊢
                 refine pu 1 68 ?_
                 refine pu 4 71 ?_
                 refine tk 2 69 ?_
                 refine tk 5 72 ?_
                 refine on 0 67 (fun K hK => ?_)
                 refine Kd.R_lit_step k36 _ 36 ?hg (N := 67) ?hd (xs := ([] : List (S36))) (inner := []) (ok := fun _ => True) (okp := fun _ => True) ?hr ?hp (fun _ hk => hk) trivial (Below.refl _ _) (Nat.le_refl _) (by simp) ?_; (case hd => rfl); (case hg => rfl); (case hr => first | (go_simp; done) | (go_simp; rfl)); (case hp => exact (Reps.none _ _))
                 intro dA ki ck hb hg_ hnew_
                 clear hg_ hnew_
                 (first | rw [← cY.out] at ck | (simp only [Int.reduceToNat] at ck; rw [← cY.out] at ck))
                 replace aQ := rb aQ hb
                 replace aT := rb aT hb
                 replace az := rb az hb
                 have bO := am (Kd.R_lower (Kd.R_new' (Kd.R_new' (Kd.R_new' ck (rk aI)) (ql aJ)) (ql aq)) (below_size (bs HB.out)))
                 replace aI := re aI ck hb
                 replace aJ := qe aJ ck hb
                 replace aq := qe aq ck hb
                 replace J := bb J hb rfl
                 replace L := bb L hb rfl
                 replace G := bb G hb rfl
                 replace z := bb z hb rfl
                 replace ax := bb ax hb rfl
                 replace HB := hs HB hb
                 clear hb ck
                 refine hK.out _ _ ⟨cx G 0, cx G 1⟩ (fun hHeld => ?_)
                 clear hK K
                 refine nrm 67 ?_
                 refine on 3 70 (fun K hK => ?_)
                 refine Kd.R_append_rows_step k36 (w0 := w) w.heap.size (by rfl) (.tmp 67) (.tmp 69) 29 36 (.agg #[(.int .i64 0), (.int .i64 0)]) 16 rfl Try.underlying29 info36 rfl (by decide) (by omega) dA b3 D _ _ _ (fun k_ => some k_ ≠ (.slice ar Y.length au : Value).ownBlock ∧ some k_ ≠ (.slice av Z.length aw : Value).ownBlock ∧ some k_ ≠ (.slice ac D.length ab : Value).ownBlock) (fun _ => False) rfl rfl ?aO ?aR (fun _ _ h => h) (fun _ h => h.elim) ?aF ?aB ?aS ?aL ?_
                 (case aR => exact cq aq)
                 (case aB => exact (bs HB.out))
                 (case aF => exact (fun k_ hk => ⟨Kd.fresh' (rk aI) k_ hk, Kd.fresh' (ql aJ) k_ hk, Kd.fresh' (ql aq) k_ hk⟩))
                 (case aO => exact (by (with_reducible repeat (first | apply Kd.R_alloc | apply Kd.R_drewN | apply Kd.R_drew)); exact Kd.R_mono bO.out (fun _ hk => ⟨hk.1.1.2, ⟨hk.1.2, hk.2⟩⟩)))
                 (case aS => exact (below_size (bs HB.out)))
                 (case aL => have := eq.out; omega)
                 intro dB kj ho hb hg hat
                 rw [← er.out] at ho
                 replace aI := am (Kd.R_after (ok := (fun k_ => some k_ ≠ (.slice av Z.length aw : Value).ownBlock ∧ some k_ ≠ (.slice ac D.length ab : Value).ownBlock)) (rl aI.out) hg hat)
                 replace aQ := am (Kd.R_over' (rl aQ.out) (Kd.R_typed (rl bO.out)) (by decide) hg)
                 replace aJ := am (Kd.Q_after (ok := (fun k_ => some k_ ≠ (.slice ar Y.length au : Value).ownBlock ∧ some k_ ≠ (.slice ac D.length ab : Value).ownBlock)) (qf aJ.out) hg hat)
                 replace aT := am (Kd.R_over' (rl aT.out) (Kd.R_typed (rl bO.out)) (by decide) hg)
                 replace aq := am (Kd.Q_after (ok := (fun k_ => some k_ ≠ (.slice ar Y.length au : Value).ownBlock ∧ some k_ ≠ (.slice av Z.length aw : Value).ownBlock)) (qf aq.out) hg hat)
                 replace az := am (Kd.R_over' (rl az.out) (Kd.R_typed (rl bO.out)) (by decide) hg)
                 replace J := gr J bO hg
                 replace L := gr L bO hg
                 replace G := gr G bO hg
                 replace z := gr z bO hg
                 replace ax := gr ax bO hg
                 replace HB := am hb
                 have bP := am ho
                 clear bO
                 clear ho hb hg hat
                 refine hK.out _ _ ⟨cx G 0, cx G 1⟩ (fun hHeld => ?_)
                 clear hK K
                 refine nrm 70 ?_
                 refine on 6 73 (fun K hK => ?_)
                 refine Kd.R_append_rows_step k36 (w0 := w) w.heap.size (by rfl) (.tmp 70) (.tmp 72) 29 36 (.agg #[(.int .i64 0), (.int .i64 0)]) 16 rfl Try.underlying29 info36 rfl (by decide) (by omega) dB bU D _ _ _ (fun k_ => some k_ ≠ (.slice ar Y.length au : Value).ownBlock ∧ some k_ ≠ (.slice av Z.length aw : Value).ownBlock ∧ some k_ ≠ (.slice ac D.length ab : Value).ownBlock) (fun _ => False) rfl rfl ?aO ?aR (fun _ _ h => h) (fun _ h => h.elim) ?aF ?aB ?aS ?aL ?_
                 (case aR => exact cq aq)
                 (case aB => exact (bs HB.out))
                 (case aF => exact (fun k_ hk => ⟨Kd.fresh' (rk aI) k_ hk, Kd.fresh' (ql aJ) k_ hk, Kd.fresh' (ql aq) k_ hk⟩))
                 (case aO => exact (rl bP.out))
                 (case aS => exact (below_size (bs HB.out)))
                 (case aL => have := es.out; omega)
                 intro fG eS ho hb hg hat
                 rw [← et.out] at ho
                 replace aI := am (Kd.R_after (ok := (fun k_ => some k_ ≠ (.slice av Z.length aw : Value).ownBlock ∧ some k_ ≠ (.slice ac D.length ab : Value).ownBlock)) (rl aI.out) hg hat)
                 replace aQ := am (Kd.R_over' (rl aQ.out) (Kd.R_typed (rl bP.out)) (by decide) hg)
                 replace aJ := am (Kd.Q_after (ok := (fun k_ => some k_ ≠ (.slice ar Y.length au : Value).ownBlock ∧ some k_ ≠ (.slice ac D.length ab : Value).ownBlock)) (qf aJ.out) hg hat)
                 replace aT := am (Kd.R_over' (rl aT.out) (Kd.R_typed (rl bP.out)) (by decide) hg)
                 replace aq := am (Kd.Q_after (ok := (fun k_ => some k_ ≠ (.slice ar Y.length au : Value).ownBlock ∧ some k_ ≠ (.slice av Z.length aw : Value).ownBlock)) (qf aq.out) hg hat)
                 replace az := am (Kd.R_over' (rl az.out) (Kd.R_typed (rl bP.out)) (by decide) hg)
                 replace J := gr J bP hg
                 replace L := gr L bP hg
                 replace G := gr G bP hg
                 replace z := gr z bP hg
                 replace ax := gr ax bP hg
                 replace HB := am hb
                 have a3 := am ho
                 clear bP
                 clear ho hb hg hat
                 obtain ⟨bT, bS, eT⟩ := Kd.R_slice a3.out
                 (first | subst eT | (injection eT with cJ dC cK; have dD := cJ.symm; have dE := cK.symm; clear cJ dC cK; subst dD; subst dE))
                 refine hK.out _ _ ⟨cx G 0, cx G 1⟩ (fun hHeld => ?_)
                 clear hK K
                 refine nrm 73 ?_
                 refine pu 7 74 ?_
                 refine on0 8 (fun K hK => ?_)
                 have km : eS.cell? ⟨aW, 0, none⟩ = some (.slice ac D.length ab) := cx ax 0
                 have kn := blk_frozen ax.out 0
                 have ko := cC.out
                 have kr := cE.out
                 have ku := ce.out
                 have kv := cH.out
                 have kw := cD.out
                 have kx := cF.out
                 have ky := cG.out
                 have kz := cI.out
                 refine sk ?_
                 refine hK.out _ _ ⟨((cell_far (p := ⟨aW, _, none⟩) ce.out _).trans (hHeld.1)), ((cell_far (p := ⟨aW, _, none⟩) ce.out _).trans (hHeld.2))⟩ (fun hHeld => ?_)
                 clear hK K
                 refine dn ?_
                 obtain ⟨kA, kB⟩ := bc2 (w := eS) G.out
                 have kC := blk_frozen G.out
                 try go_wp2_with (first | ((with_reducible refine gd 8 rfl ?_); refine bx 8 (cs := #[.slice none 0 0, .slice none 0 0]) (t := 34) ?_; intro be hg fZ hbox hb; replace aI := am (Kd.R_below (rt aI.out ax.out (by decide)) hb); replace aQ := am (Kd.R_below (rt aQ.out ax.out (by decide)) hb); replace aJ := am (Kd.Q_below (qt aJ.out ax.out (by decide)) hb); replace aT := am (Kd.R_below (rt aT.out ax.out (by decide)) hb); replace aq := am (Kd.Q_below (qt aq.out ax.out (by decide)) hb); replace az := am (Kd.R_below (rt az.out ax.out (by decide)) hb); replace a3 := am (Kd.R_below (rt a3.out ax.out (by decide)) hb); have aH := am hbox; have fI := gwb HB hg; replace HB := hs HB hb; have dF := Nq.mk ((by rw [hg]; exact Nat.ne_of_lt (blk_lt (g := a1) (o := .cells #[.slice ar Y.length au, .slice aC aj.length aD] 34 (0, 0)) (bf J.out)) : a1 ≠ be)); have dG := Nq.mk ((by rw [hg]; exact Nat.ne_of_gt (blk_lt (g := a1) (o := .cells #[.slice ar Y.length au, .slice aC aj.length aD] 34 (0, 0)) (bf J.out)) : be ≠ a1)); replace J := am (blk_below (g := a1) (o := .cells #[.slice ar Y.length au, .slice aC aj.length aD] 34 (0, 0)) (bf J.out) hb); have dH := Nq.mk ((by rw [hg]; exact Nat.ne_of_lt (blk_lt (g := a2) (o := .cells #[.slice av Z.length aw, .slice aE ak.length aG] 34 (0, 0)) (bf L.out)) : a2 ≠ be)); have dI := Nq.mk ((by rw [hg]; exact Nat.ne_of_gt (blk_lt (g := a2) (o := .cells #[.slice av Z.length aw, .slice aE ak.length aG] 34 (0, 0)) (bf L.out)) : be ≠ a2)); replace L := am (blk_below (g := a2) (o := .cells #[.slice av Z.length aw, .slice aE ak.length aG] 34 (0, 0)) (bf L.out) hb); have dJ := Nq.mk ((by rw [hg]; exact Nat.ne_of_lt (blk_lt (g := a8) (o := .cells #[.slice ac D.length ab, .slice ah I.length ag] 34 (0, 0)) (bf G.out)) : a8 ≠ be)); have dK := Nq.mk ((by rw [hg]; exact Nat.ne_of_gt (blk_lt (g := a8) (o := .cells #[.slice ac D.length ab, .slice ah I.length ag] 34 (0, 0)) (bf G.out)) : be ≠ a8)); replace G := am (blk_below (g := a8) (o := .cells #[.slice ac D.length ab, .slice ah I.length ag] 34 (0, 0)) (bf G.out) hb); have dL := Nq.mk ((by rw [hg]; exact Nat.ne_of_lt (blk_lt (g := y) (o := .cells #[.int .i64 aa, .int .i64 af, .int .i64 ai, .int .i64 al, .int .i64 an, .int .i64 ap, .int .i64 ay, .int .i64 aA] 58 (0, 0)) (bf z.out)) : y ≠ be)); have dM := Nq.mk ((by rw [hg]; exact Nat.ne_of_gt (blk_lt (g := y) (o := .cells #[.int .i64 aa, .int .i64 af, .int .i64 ai, .int .i64 al, .int .i64 an, .int .i64 ap, .int .i64 ay, .int .i64 aA] 58 (0, 0)) (bf z.out)) : be ≠ y)); replace z := am (blk_below (g := y) (o := .cells #[.int .i64 aa, .int .i64 af, .int .i64 ai, .int .i64 al, .int .i64 an, .int .i64 ap, .int .i64 ay, .int .i64 aA] 58 (0, 0)) (bf z.out) hb); have dN := Nq.mk ((by rw [hg]; exact Nat.ne_of_lt (blk_lt (g := aW) (o := .cells #[.slice bT ba.length bS, .slice ah I.length ag] 34 (0, 0)) (bp ax.out rfl)) : aW ≠ be)); have dO := Nq.mk ((by rw [hg]; exact Nat.ne_of_gt (blk_lt (g := aW) (o := .cells #[.slice bT ba.length bS, .slice ah I.length ag] 34 (0, 0)) (bp ax.out rfl)) : be ≠ aW)); replace ax := bq #[.slice bT ba.length bS, .slice ah I.length ag] ax hb; clear hb hbox hg; have kD := dG.out; have kE := dF.out; have kF := dI.out; have kG := dH.out; have kH := dK.out; have kI := dJ.out; have kJ := dM.out; have kK := dL.out; have kL := dO.out; have kM := dN.out; obtain ⟨kN, kO⟩ := bc2 (w := fZ) aH.out; have kP := blk_frozen aH.out) | ((with_reducible refine gd 76 rfl ?_); refine Kd.R_lit k56 _ 56 ?hg (N := 76) ?hd (xs := ([] : List (S56))) (inner := []) (ok := fun _ => True) (okp := fun _ => True) ?hr ?hp (fun _ hk => hk) trivial (Below.refl _ _) (Nat.le_refl _) (by simp) ?_; (case hd => rfl); (case hg => rfl); (case hr => first | (go_simp; done) | (go_simp; rfl)); (case hp => exact (Reps.none _ _)); intro dP f0 cl hb hg_ hnew_; clear hg_ hnew_; (first | rw [← c3.out] at cl | (simp only [Int.reduceToNat] at cl; rw [← c3.out] at cl)); replace aI := am (Kd.R_below (rt aI.out aH.out (by decide)) hb); replace aJ := am (Kd.Q_below (qt aJ.out aH.out (by decide)) hb); replace aq := am (Kd.Q_below (qt aq.out aH.out (by decide)) hb); replace a3 := am (Kd.R_below (rt a3.out aH.out (by decide)) hb); have bH := am (Kd.R_lower (Kd.R_new' (Kd.R_new' (Kd.R_new' cl (Kd.R_lt (rt aQ.out aH.out (by decide)))) (Kd.R_lt (rt aT.out aH.out (by decide)))) (Kd.R_lt (rt az.out aH.out (by decide)))) (below_size (bs HB.out))); replace aQ := am (Kd.R_elder' (rt aQ.out aH.out (by decide)) (Kd.R_base cl) hb); replace aT := am (Kd.R_elder' (rt aT.out aH.out (by decide)) (Kd.R_base cl) hb); replace az := am (Kd.R_elder' (rt az.out aH.out (by decide)) (Kd.R_base cl) hb); replace J := am (blk_below (g := a1) (o := .cells #[.slice ar Y.length au, .slice aC aj.length aD] 34 (0, 0)) (bf J.out) hb); replace L := am (blk_below (g := a2) (o := .cells #[.slice av Z.length aw, .slice aE ak.length aG] 34 (0, 0)) (bf L.out) hb); replace G := am (blk_below (g := a8) (o := .cells #[.slice ac D.length ab, .slice ah I.length ag] 34 (0, 0)) (bf G.out) hb); replace z := am (blk_below (g := y) (o := .cells #[.int .i64 aa, .int .i64 af, .int .i64 ai, .int .i64 al, .int .i64 an, .int .i64 ap, .int .i64 ay, .int .i64 aA] 58 (0, 0)) (bf z.out) hb); replace ax := am (blk_below (g := aW) (o := .cells #[.slice bT ba.length bS, .slice ah I.length ag] 34 (0, 0)) (bf ax.out) hb); replace aH := bq #[.slice ac D.length ab, .slice ah I.length ag] aH hb; replace HB := hs HB hb; clear hb cl; obtain ⟨kQ, kR⟩ := bc2 (w := f0) G.out; have kS := blk_frozen G.out) | ((with_reducible refine gate_builtin (b := .append) (xs := #[.tmp 76, .tmp 78]) rfl ?_); at_builtin; refine Kd.R_append_rows k56 (w0 := w) w.heap.size rfl (.tmp 76) (.tmp 78) 32 56 (.agg #[(.int .i64 0), (.int .i64 0), (.int .i64 0), (.int .i64 0), (.int .i64 0)]) 40 rfl Try.underlying32 info56 rfl (by decide) (by omega) dP bN I _ _ _ (fun k_ => some k_ ≠ (.slice aC aj.length aD : Value).ownBlock ∧ some k_ ≠ (.slice aE ak.length aG : Value).ownBlock ∧ some k_ ≠ (.slice ah I.length ag : Value).ownBlock) (fun _ => False) rfl rfl ?aO ?aR (fun _ _ h => h) (fun _ h => h.elim) ?aF ?aB ?aS ?aL ?_; (case aR => exact cr az); (case aB => exact (bs HB.out)); (case aF => exact (fun k_ hk => ⟨Kd.fresh' (rk aQ) k_ hk, Kd.fresh' (rk aT) k_ hk, Kd.fresh' (rk az) k_ hk⟩)); (case aO => exact (by (with_reducible repeat (first | apply Kd.R_alloc | apply Kd.R_drewN | apply Kd.R_drew)); exact Kd.R_mono bH.out (fun _ hk => ⟨hk.1.1.2, ⟨hk.1.2, hk.2⟩⟩))); (case aS => exact (below_size (bs HB.out))); (case aL => have := eu.out; omega); intro dQ kT ho hb hg hat; rw [← ev.out] at ho; replace aI := am (Kd.R_over' (rl aI.out) (Kd.R_typed (rl bH.out)) (by decide) hg); replace aQ := am (Kd.R_after (ok := (fun k_ => some k_ ≠ (.slice aE ak.length aG : Value).ownBlock ∧ some k_ ≠ (.slice ah I.length ag : Value).ownBlock)) (rl aQ.out) hg hat); replace aJ := am (Kd.Q_over' (qf aJ.out) (Kd.R_typed (rl bH.out)) (by decide) hg); replace aT := am (Kd.R_after (ok := (fun k_ => some k_ ≠ (.slice aC aj.length aD : Value).ownBlock ∧ some k_ ≠ (.slice ah I.length ag : Value).ownBlock)) (rl aT.out) hg hat); replace aq := am (Kd.Q_over' (qf aq.out) (Kd.R_typed (rl bH.out)) (by decide) hg); replace az := am (Kd.R_after (ok := (fun k_ => some k_ ≠ (.slice aC aj.length aD : Value).ownBlock ∧ some k_ ≠ (.slice aE ak.length aG : Value).ownBlock)) (rl az.out) hg hat); replace J := gr J bH hg; replace L := gr L bH hg; replace G := gr G bH hg; replace z := gr z bH hg; replace ax := gr ax bH hg; replace a3 := am (Kd.R_over' (rl a3.out) (Kd.R_typed (rl bH.out)) (by decide) hg); replace aH := gr aH bH hg; replace HB := am hb; have bI := am ho; clear bH; clear ho hb hg hat) | ((with_reducible refine gate_builtin (b := .append) (xs := #[.tmp 79, .tmp 83]) rfl ?_); at_builtin; refine Kd.R_append k56 (w0 := w) w.heap.size rfl (.tmp 79) (.tmp 83) 32 56 (.agg #[(.int .i64 0), (.int .i64 0), (.int .i64 0), (.int .i64 0), (.int .i64 0)]) 40 rfl Try.underlying32 info56 rfl (by decide) (by omega) dQ bK (⟨7, (⟨7, 38⟩ : S36), (⟨7, 39⟩ : S36)⟩ : S56) [.int .i64 7, .int .i64 7, .int .i64 38, .int .i64 7, .int .i64 39] (fun k_ => some k_ ≠ (.slice aC aj.length aD : Value).ownBlock ∧ some k_ ≠ (.slice aE ak.length aG : Value).ownBlock ∧ some k_ ≠ (.slice ah I.length ag : Value).ownBlock) (fun _ => False) rfl rfl ?aP (fun _ hk => hk.elim) ?aF ?aO ?aB ?aS ?aL ?_; (case aP => exact k56_mkM _ _ _ (⟨7, (⟨7, 38⟩ : S36), (⟨7, 39⟩ : S36)⟩ : S56)); (case aB => exact (bs HB.out)); (case aF => exact (fun k_ hk => ⟨Kd.fresh' (rk aQ) k_ hk, Kd.fresh' (rk aT) k_ hk, Kd.fresh' (rk az) k_ hk⟩)); (case aO => exact (rl bI.out)); (case aS => exact (below_size (bs HB.out))); (case aL => have := ew.out; omega); intro fK eU ho hb hg hat; rw [← ex.out] at ho; replace aI := am (Kd.R_over' (rl aI.out) (Kd.R_typed (rl bI.out)) (by decide) hg); replace aQ := am (Kd.R_after (ok := (fun k_ => some k_ ≠ (.slice aE ak.length aG : Value).ownBlock ∧ some k_ ≠ (.slice ah I.length ag : Value).ownBlock)) (rl aQ.out) hg hat); replace aJ := am (Kd.Q_over' (qf aJ.out) (Kd.R_typed (rl bI.out)) (by decide) hg); replace aT := am (Kd.R_after (ok := (fun k_ => some k_ ≠ (.slice aC aj.length aD : Value).ownBlock ∧ some k_ ≠ (.slice ah I.length ag : Value).ownBlock)) (rl aT.out) hg hat); replace aq := am (Kd.Q_over' (qf aq.out) (Kd.R_typed (rl bI.out)) (by decide) hg); replace az := am (Kd.R_after (ok := (fun k_ => some k_ ≠ (.slice aC aj.length aD : Value).ownBlock ∧ some k_ ≠ (.slice aE ak.length aG : Value).ownBlock)) (rl az.out) hg hat); replace J := gr J bI hg; replace L := gr L bI hg; replace G := gr G bI hg; replace z := gr z bI hg; replace ax := gr ax bI hg; replace a3 := am (Kd.R_over' (rl a3.out) (Kd.R_typed (rl bI.out)) (by decide) hg); replace aH := gr aH bI hg; replace HB := am hb; have a9 := am ho; clear bI; clear ho hb hg hat; obtain ⟨cv, cy, f1⟩ := Kd.R_slice a9.out; subst f1; obtain ⟨kU, kV⟩ := bc2 (w := eU) aH.out; have kW := blk_frozen aH.out; obtain ⟨kX, kY⟩ := bc2 (w := eU) G.out; have kZ := blk_frozen G.out) | ((with_reducible refine gd 9 rfl ?_); refine bx 9 (cs := #[.slice none 0 0, .slice none 0 0]) (t := 34) ?_; intro bJ hg f2 hbox hb; replace aI := am (Kd.R_below (rt aI.out aH.out (by decide)) hb); replace aQ := am (Kd.R_below (rt aQ.out aH.out (by decide)) hb); replace aJ := am (Kd.Q_below (qt aJ.out aH.out (by decide)) hb); replace aT := am (Kd.R_below (rt aT.out aH.out (by decide)) hb); replace aq := am (Kd.Q_below (qt aq.out aH.out (by decide)) hb); replace az := am (Kd.R_below (rt az.out aH.out (by decide)) hb); replace a3 := am (Kd.R_below (rt a3.out aH.out (by decide)) hb); replace a9 := am (Kd.R_below (rt a9.out aH.out (by decide)) hb); have aN := am hbox; have fN := gwb HB hg; replace HB := hs HB hb; have dR := Nq.mk ((by rw [hg]; exact Nat.ne_of_lt (blk_lt (g := a1) (o := .cells #[.slice ar Y.length au, .slice aC aj.length aD] 34 (0, 0)) (bf J.out)) : a1 ≠ bJ)); have dS := Nq.mk ((by rw [hg]; exact Nat.ne_of_gt (blk_lt (g := a1) (o := .cells #[.slice ar Y.length au, .slice aC aj.length aD] 34 (0, 0)) (bf J.out)) : bJ ≠ a1)); replace J := am (blk_below (g := a1) (o := .cells #[.slice ar Y.length au, .slice aC aj.length aD] 34 (0, 0)) (bf J.out) hb); have dT := Nq.mk ((by rw [hg]; exact Nat.ne_of_lt (blk_lt (g := a2) (o := .cells #[.slice av Z.length aw, .slice aE ak.length aG] 34 (0, 0)) (bf L.out)) : a2 ≠ bJ)); have dU := Nq.mk ((by rw [hg]; exact Nat.ne_of_gt (blk_lt (g := a2) (o := .cells #[.slice av Z.length aw, .slice aE ak.length aG] 34 (0, 0)) (bf L.out)) : bJ ≠ a2)); replace L := am (blk_below (g := a2) (o := .cells #[.slice av Z.length aw, .slice aE ak.length aG] 34 (0, 0)) (bf L.out) hb); have dV := Nq.mk ((by rw [hg]; exact Nat.ne_of_lt (blk_lt (g := a8) (o := .cells #[.slice ac D.length ab, .slice ah I.length ag] 34 (0, 0)) (bf G.out)) : a8 ≠ bJ)); have dW := Nq.mk ((by rw [hg]; exact Nat.ne_of_gt (blk_lt (g := a8) (o := .cells #[.slice ac D.length ab, .slice ah I.length ag] 34 (0, 0)) (bf G.out)) : bJ ≠ a8)); replace G := am (blk_below (g := a8) (o := .cells #[.slice ac D.length ab, .slice ah I.length ag] 34 (0, 0)) (bf G.out) hb); have dX := Nq.mk ((by rw [hg]; exact Nat.ne_of_lt (blk_lt (g := y) (o := .cells #[.int .i64 aa, .int .i64 af, .int .i64 ai, .int .i64 al, .int .i64 an, .int .i64 ap, .int .i64 ay, .int .i64 aA] 58 (0, 0)) (bf z.out)) : y ≠ bJ)); have dY := Nq.mk ((by rw [hg]; exact Nat.ne_of_gt (blk_lt (g := y) (o := .cells #[.int .i64 aa, .int .i64 af, .int .i64 ai, .int .i64 al, .int .i64 an, .int .i64 ap, .int .i64 ay, .int .i64 aA] 58 (0, 0)) (bf z.out)) : bJ ≠ y)); replace z := am (blk_below (g := y) (o := .cells #[.int .i64 aa, .int .i64 af, .int .i64 ai, .int .i64 al, .int .i64 an, .int .i64 ap, .int .i64 ay, .int .i64 aA] 58 (0, 0)) (bf z.out) hb); have dZ := Nq.mk ((by rw [hg]; exact Nat.ne_of_lt (blk_lt (g := aW) (o := .cells #[.slice bT ba.length bS, .slice ah I.length ag] 34 (0, 0)) (bf ax.out)) : aW ≠ bJ)); have d0 := Nq.mk ((by rw [hg]; exact Nat.ne_of_gt (blk_lt (g := aW) (o := .cells #[.slice bT ba.length bS, .slice ah I.length ag] 34 (0, 0)) (bf ax.out)) : bJ ≠ aW)); replace ax := am (blk_below (g := aW) (o := .cells #[.slice bT ba.length bS, .slice ah I.length ag] 34 (0, 0)) (bf ax.out) hb); have d1 := Nq.mk ((by rw [hg]; exact Nat.ne_of_lt (blk_lt (g := be) (o := .cells #[.slice ac D.length ab, .slice cv aY.length cy] 34 (0, 0)) (bp aH.out rfl)) : be ≠ bJ)); have d2 := Nq.mk ((by rw [hg]; exact Nat.ne_of_gt (blk_lt (g := be) (o := .cells #[.slice ac D.length ab, .slice cv aY.length cy] 34 (0, 0)) (bp aH.out rfl)) : bJ ≠ be)); replace aH := bq #[.slice ac D.length ab, .slice cv aY.length cy] aH hb; clear hb hbox hg; have k0 := dS.out; have k1 := dR.out; have k2 := dU.out; have k3 := dT.out; have k4 := dW.out; have k5 := dV.out; have k6 := dY.out; have k7 := dX.out; have k8 := d0.out; have k9 := dZ.out; have lb := d2.out; have lc := d1.out; obtain ⟨ld, le⟩ := bc2 (w := f2) aN.out; have lf := blk_frozen aN.out) | ((with_reducible refine gd 87 rfl ?_); refine Kd.R_lit k36 _ 36 ?hg (N := 87) ?hd (xs := ([] : List (S36))) (inner := []) (ok := fun _ => True) (okp := fun _ => True) ?hr ?hp (fun _ hk => hk) trivial (Below.refl _ _) (Nat.le_refl _) (by simp) ?_; (case hd => rfl); (case hg => rfl); (case hr => first | (go_simp; done) | (go_simp; rfl)); (case hp => exact (Reps.none _ _)); intro d3 f3 cg hb hg_ hnew_; clear hg_ hnew_; (first | rw [← c7.out] at cg | (simp only [Int.reduceToNat] at cg; rw [← c7.out] at cg)); replace aQ := am (Kd.R_below (rt aQ.out aN.out (by decide)) hb); replace aT := am (Kd.R_below (rt aT.out aN.out (by decide)) hb); replace az := am (Kd.R_below (rt az.out aN.out (by decide)) hb); replace a9 := am (Kd.R_below (rt a9.out aN.out (by decide)) hb); have bD := am (Kd.R_lower (Kd.R_new' (Kd.R_new' (Kd.R_new' (Kd.R_new' cg (Kd.R_lt (rt aI.out aN.out (by decide)))) (Kd.Q_lt (qt aJ.out aN.out (by decide)))) (Kd.Q_lt (qt aq.out aN.out (by decide)))) (Kd.R_lt (rt a3.out aN.out (by decide)))) (below_size (bs HB.out))); replace aI := am (Kd.R_elder' (rt aI.out aN.out (by decide)) (Kd.R_base cg) hb); replace aJ := am (Kd.Q_elder' (qt aJ.out aN.out (by decide)) (Kd.R_base cg) hb); replace aq := am (Kd.Q_elder' (qt aq.out aN.out (by decide)) (Kd.R_base cg) hb); replace a3 := am (Kd.R_elder' (rt a3.out aN.out (by decide)) (Kd.R_base cg) hb); replace J := am (blk_below (g := a1) (o := .cells #[.slice ar Y.length au, .slice aC aj.length aD] 34 (0, 0)) (bf J.out) hb); replace L := am (blk_below (g := a2) (o := .cells #[.slice av Z.length aw, .slice aE ak.length aG] 34 (0, 0)) (bf L.out) hb); replace G := am (blk_below (g := a8) (o := .cells #[.slice ac D.length ab, .slice ah I.length ag] 34 (0, 0)) (bf G.out) hb); replace z := am (blk_below (g := y) (o := .cells #[.int .i64 aa, .int .i64 af, .int .i64 ai, .int .i64 al, .int .i64 an, .int .i64 ap, .int .i64 ay, .int .i64 aA] 58 (0, 0)) (bf z.out) hb); replace ax := am (blk_below (g := aW) (o := .cells #[.slice bT ba.length bS, .slice ah I.length ag] 34 (0, 0)) (bf ax.out) hb); replace aH := am (blk_below (g := be) (o := .cells #[.slice ac D.length ab, .slice cv aY.length cy] 34 (0, 0)) (bf aH.out) hb); replace aN := bq #[.slice ac D.length ab, .slice ah I.length ag] aN hb; replace HB := hs HB hb; clear hb cg; obtain ⟨lg, lh⟩ := bc2 (w := f3) G.out; have li := blk_frozen G.out) | ((with_reducible refine gate_builtin (b := .append) (xs := #[.tmp 87, .tmp 89]) rfl ?_); at_builtin; refine Kd.R_append_rows k36 (w0 := w) w.heap.size rfl (.tmp 87) (.tmp 89) 29 36 (.agg #[(.int .i64 0), (.int .i64 0)]) 16 rfl Try.underlying29 info36 rfl (by decide) (by omega) d3 bv D _ _ _ (fun k_ => some k_ ≠ (.slice ar Y.length au : Value).ownBlock ∧ some k_ ≠ (.slice av Z.length aw : Value).ownBlock ∧ some k_ ≠ (.slice ac D.length ab : Value).ownBlock ∧ some k_ ≠ (.slice bT ba.length bS : Value).ownBlock) (fun _ => False) rfl rfl ?aO ?aR (fun _ _ h => h) (fun _ h => h.elim) ?aF ?aB ?aS ?aL ?_; (case aR => exact cq aq); (case aB => exact (bs HB.out)); (case aF => exact (fun k_ hk => ⟨Kd.fresh' (rk aI) k_ hk, Kd.fresh' (ql aJ) k_ hk, Kd.fresh' (ql aq) k_ hk, Kd.fresh' (rk a3) k_ hk⟩)); (case aO => exact (by (with_reducible repeat (first | apply Kd.R_alloc | apply Kd.R_drewN | apply Kd.R_drew)); exact Kd.R_mono bD.out (fun _ hk => ⟨hk.1.1.1.2, ⟨hk.1.1.2, ⟨hk.1.2, hk.2⟩⟩⟩))); (case aS => exact (below_size (bs HB.out))); (case aL => have := ey.out; omega); intro d4 lj ho hb hg hat; rw [← ez.out] at ho; replace aI := am (Kd.R_after (ok := (fun k_ => some k_ ≠ (.slice av Z.length aw : Value).ownBlock ∧ some k_ ≠ (.slice ac D.length ab : Value).ownBlock ∧ some k_ ≠ (.slice bT ba.length bS : Value).ownBlock)) (by (with_reducible repeat (first | apply Kd.R_alloc | apply Kd.R_drewN | apply Kd.R_drew)); exact Kd.R_mono aI.out (fun _ hk => ⟨⟨hk.1.1.1, ⟨hk.1.1.2, hk.1.2⟩⟩, hk.2⟩)) hg hat); replace aQ := am (Kd.R_over' (rl aQ.out) (Kd.R_typed (rl bD.out)) (by decide) hg); replace aJ := am (Kd.Q_after (ok := (fun k_ => some k_ ≠ (.slice ar Y.length au : Value).ownBlock ∧ some k_ ≠ (.slice ac D.length ab : Value).ownBlock ∧ some k_ ≠ (.slice bT ba.length bS : Value).ownBlock)) (by (with_reducible repeat (first | apply Kd.Q_alloc | apply Kd.Q_drewN | apply Kd.Q_drew)); exact Kd.Q_mono aJ.out (fun _ hk => ⟨⟨hk.1.1.1, ⟨hk.1.1.2, hk.1.2⟩⟩, hk.2⟩)) hg hat); replace aT := am (Kd.R_over' (rl aT.out) (Kd.R_typed (rl bD.out)) (by decide) hg); replace aq := am (Kd.Q_after (ok := (fun k_ => some k_ ≠ (.slice ar Y.length au : Value).ownBlock ∧ some k_ ≠ (.slice av Z.length aw : Value).ownBlock ∧ some k_ ≠ (.slice bT ba.length bS : Value).ownBlock)) (by (with_reducible repeat (first | apply Kd.Q_alloc | apply Kd.Q_drewN | apply Kd.Q_drew)); exact Kd.Q_mono aq.out (fun _ hk => ⟨⟨hk.1.1.1, ⟨hk.1.1.2, hk.1.2⟩⟩, hk.2⟩)) hg hat); replace az := am (Kd.R_over' (rl az.out) (Kd.R_typed (rl bD.out)) (by decide) hg); replace J := gr J bD hg; replace L := gr L bD hg; replace G := gr G bD hg; replace z := gr z bD hg; replace ax := gr ax bD hg; replace a3 := am (Kd.R_after (ok := (fun k_ => some k_ ≠ (.slice ar Y.length au : Value).ownBlock ∧ some k_ ≠ (.slice av Z.length aw : Value).ownBlock ∧ some k_ ≠ (.slice ac D.length ab : Value).ownBlock)) (rl a3.out) hg hat); replace aH := gr aH bD hg; replace a9 := am (Kd.R_over' (rl a9.out) (Kd.R_typed (rl bD.out)) (by decide) hg); replace aN := gr aN bD hg; replace HB := am hb; have bE := am ho; clear bD; clear ho hb hg hat) | ((with_reducible refine gate_builtin (b := .append) (xs := #[.tmp 90, .tmp 92]) rfl ?_); at_builtin; refine Kd.R_append k36 (w0 := w) w.heap.size rfl (.tmp 90) (.tmp 92) 29 36 (.agg #[(.int .i64 0), (.int .i64 0)]) 16 rfl Try.underlying29 info36 rfl (by decide) (by omega) d4 bc (⟨8, 0⟩ : S36) [.int .i64 8, .int .i64 0] (fun k_ => some k_ ≠ (.slice ar Y.length au : Value).ownBlock ∧ some k_ ≠ (.slice av Z.length aw : Value).ownBlock ∧ some k_ ≠ (.slice ac D.length ab : Value).ownBlock ∧ some k_ ≠ (.slice bT ba.length bS : Value).ownBlock) (fun _ => False) rfl rfl ?aP (fun _ hk => hk.elim) ?aF ?aO ?aB ?aS ?aL ?_; (case aP => exact k36_mkM _ _ _ (⟨8, 0⟩ : S36)); (case aB => exact (bs HB.out)); (case aF => exact (fun k_ hk => ⟨Kd.fresh' (rk aI) k_ hk, Kd.fresh' (ql aJ) k_ hk, Kd.fresh' (ql aq) k_ hk, Kd.fresh' (rk a3) k_ hk⟩)); (case aO => exact (rl bE.out)); (case aS => exact (below_size (bs HB.out))); (case aL => have := eA.out; omega); intro fP d6 ho hb hg hat; rw [← eB.out] at ho; replace aI := am (Kd.R_after (ok := (fun k_ => some k_ ≠ (.slice av Z.length aw : Value).ownBlock ∧ some k_ ≠ (.slice ac D.length ab : Value).ownBlock ∧ some k_ ≠ (.slice bT ba.length bS : Value).ownBlock)) (rl aI.out) hg hat); replace aQ := am (Kd.R_over' (rl aQ.out) (Kd.R_typed (rl bE.out)) (by decide) hg); replace aJ := am (Kd.Q_after (ok := (fun k_ => some k_ ≠ (.slice ar Y.length au : Value).ownBlock ∧ some k_ ≠ (.slice ac D.length ab : Value).ownBlock ∧ some k_ ≠ (.slice bT ba.length bS : Value).ownBlock)) (qf aJ.out) hg hat); replace aT := am (Kd.R_over' (rl aT.out) (Kd.R_typed (rl bE.out)) (by decide) hg); replace aq := am (Kd.Q_after (ok := (fun k_ => some k_ ≠ (.slice ar Y.length au : Value).ownBlock ∧ some k_ ≠ (.slice av Z.length aw : Value).ownBlock ∧ some k_ ≠ (.slice bT ba.length bS : Value).ownBlock)) (qf aq.out) hg hat); replace az := am (Kd.R_over' (rl az.out) (Kd.R_typed (rl bE.out)) (by decide) hg); replace J := gr J bE hg; replace L := gr L bE hg; replace G := gr G bE hg; replace z := gr z bE hg; replace ax := gr ax bE hg; replace a3 := am (Kd.R_after (ok := (fun k_ => some k_ ≠ (.slice ar Y.length au : Value).ownBlock ∧ some k_ ≠ (.slice av Z.length aw : Value).ownBlock ∧ some k_ ≠ (.slice ac D.length ab : Value).ownBlock)) (rl a3.out) hg hat); replace aH := gr aH bE hg; replace a9 := am (Kd.R_over' (rl a9.out) (Kd.R_typed (rl bE.out)) (by decide) hg); replace aN := gr aN bE hg; replace HB := am hb; have bA := am ho; clear bE; clear ho hb hg hat; obtain ⟨eV, eW, f4⟩ := Kd.R_slice bA.out; subst f4; obtain ⟨lk, ll⟩ := bc2 (w := d6) aN.out; have lm := blk_frozen aN.out; obtain ⟨ln, lo⟩ := bc2 (w := d6) G.out; have lp := blk_frozen G.out; obtain ⟨lq, lr⟩ := bc2 (w := d6) ax.out; have ls := blk_frozen ax.out) | (go_at_call 34; (with_reducible refine (impl_GraphOk.calls ao _ _ ba _ _ I false _ ?aK ?aM ?aU ?aV fS.out).mono ?_); (case aK => refine (Kd.R_reads' (e := 36) (base := w.heap.size) (ok := fun k_ => ((some k_ ≠ (.slice ar Y.length au : Value).ownBlock ∧ (some k_ ≠ (.slice av Z.length aw : Value).ownBlock ∧ some k_ ≠ (.slice ac D.length ab : Value).ownBlock)) ∧ some k_ ≠ (.slice eV aZ.length eW : Value).ownBlock)) (n := ba.length) (c := bS) ?_).2.2; exact (rt a3.out aN.out (by decide))); (case aM => exact cc a3); (case aU => refine (Kd.R_reads' (e := 56) (base := w.heap.size) (ok := fun k_ => ((some k_ ≠ (.slice aC aj.length aD : Value).ownBlock ∧ some k_ ≠ (.slice aE ak.length aG : Value).ownBlock) ∧ some k_ ≠ (.slice cv aY.length cy : Value).ownBlock)) (n := I.length) (c := ag) ?_).2.2; exact (rt az.out aN.out (by decide))); (case aV => exact cc az); rintro e f5 ⟨rfl, hb⟩; replace aI := am (Kd.R_below (rt aI.out aN.out (by decide)) hb); replace aQ := am (Kd.R_below (rt aQ.out aN.out (by decide)) hb); replace aJ := am (Kd.Q_below (qt aJ.out aN.out (by decide)) hb); replace aT := am (Kd.R_below (rt aT.out aN.out (by decide)) hb); replace aq := am (Kd.Q_below (qt aq.out aN.out (by decide)) hb); replace az := am (Kd.R_below (rt az.out aN.out (by decide)) hb); replace a3 := am (Kd.R_below (rt a3.out aN.out (by decide)) hb); replace a9 := am (Kd.R_below (rt a9.out aN.out (by decide)) hb); replace bA := am (Kd.R_below (rt bA.out aN.out (by decide)) hb); replace J := am (blk_below (g := a1) (o := .cells #[.slice ar Y.length au, .slice aC aj.length aD] 34 (0, 0)) (bf J.out) hb); replace L := am (blk_below (g := a2) (o := .cells #[.slice av Z.length aw, .slice aE ak.length aG] 34 (0, 0)) (bf L.out) hb); replace G := am (blk_below (g := a8) (o := .cells #[.slice ac D.length ab, .slice ah I.length ag] 34 (0, 0)) (bf G.out) hb); replace z := am (blk_below (g := y) (o := .cells #[.int .i64 aa, .int .i64 af, .int .i64 ai, .int .i64 al, .int .i64 an, .int .i64 ap, .int .i64 ay, .int .i64 aA] 58 (0, 0)) (bf z.out) hb); replace ax := am (blk_below (g := aW) (o := .cells #[.slice bT ba.length bS, .slice ah I.length ag] 34 (0, 0)) (bf ax.out) hb); replace aH := am (blk_below (g := be) (o := .cells #[.slice ac D.length ab, .slice cv aY.length cy] 34 (0, 0)) (bf aH.out) hb); replace aN := bq #[.slice eV aZ.length eW, .slice ah I.length ag] aN hb; replace HB := hs HB hb; (try clear hb); (try clear hb2); (try clear hk); (try clear hi); obtain ⟨lt, lu⟩ := bc2 (w := f5) aH.out; have lv := blk_frozen aH.out) | (go_at_call 34; (with_reducible refine (impl_GraphOk.calls ao _ _ D _ _ aY false _ ?aK ?aM ?aU ?aV fT.out).mono ?_); (case aK => exact cq aq); (case aM => exact cd aq); (case aU => exact cr a9); (case aV => exact cc a9); rintro e f6 ⟨rfl, hb⟩; replace aI := rb aI hb; replace aQ := rb aQ hb; replace aJ := qb aJ hb; replace aT := rb aT hb; replace aq := qb aq hb; replace az := rb az hb; replace a3 := rb a3 hb; replace a9 := rb a9 hb; replace bA := rb bA hb; replace J := bb J hb rfl; replace L := bb L hb rfl; replace G := bb G hb rfl; replace z := bb z hb rfl; replace ax := bb ax hb rfl; replace aH := bb aH hb rfl; replace aN := bb aN hb rfl; replace HB := hs HB hb; (try clear hb); (try clear hb2); (try clear hk); (try clear hi); obtain ⟨lw, lx⟩ := bc2 (w := f6) aN.out; have ly := blk_frozen aN.out) | (go_at_call 34; (with_reducible refine (impl_GraphOk.calls ao _ _ aZ _ _ I false _ ?aK ?aM ?aU ?aV fU.out).mono ?_); (case aK => exact cr bA); (case aM => exact cc bA); (case aU => exact cr az); (case aV => exact cc az); rintro e eX ⟨rfl, hb⟩; replace aI := rb aI hb; replace aQ := rb aQ hb; replace aJ := qb aJ hb; replace aT := rb aT hb; replace aq := qb aq hb; replace az := rb az hb; replace a3 := rb a3 hb; replace a9 := rb a9 hb; replace bA := rb bA hb; replace J := bb J hb rfl; replace L := bb L hb rfl; replace G := bb G hb rfl; replace z := bb z hb rfl; replace ax := bb ax hb rfl; replace aH := bb aH hb rfl; replace aN := bb aN hb rfl; replace HB := hs HB hb; (try clear hb); (try clear hb2); (try clear hk); (try clear hi); obtain ⟨lz, lA⟩ := bc2 (w := eX) G.out; have lB := blk_frozen G.out; obtain ⟨lC, lD⟩ := bc2 (w := eX) aH.out; have lE := blk_frozen aH.out) | (go_at_call 41; (with_reducible refine (impl_GraphSame.calls ao _ _ D _ _ I _ _ D _ _ aY false _ ?aK ?aM ?aU ?aV ?a4 ?a5 ?a6 ?a7 fV.out).mono ?_); (case aK => exact cq aq); (case aM => exact cd aq); (case aU => exact cr az); (case aV => exact cc az); (case a4 => exact cq aq); (case a5 => exact cd aq); (case a6 => exact cr a9); (case a7 => exact cc a9); rintro e eY ⟨rfl, hb⟩; replace aI := rb aI hb; replace aQ := rb aQ hb; replace aJ := qb aJ hb; replace aT := rb aT hb; replace aq := qb aq hb; replace az := rb az hb; replace a3 := rb a3 hb; replace a9 := rb a9 hb; replace bA := rb bA hb; replace J := bb J hb rfl; replace L := bb L hb rfl; replace G := bb G hb rfl; replace z := bb z hb rfl; replace ax := bb ax hb rfl; replace aH := bb aH hb rfl; replace aN := bb aN hb rfl; replace HB := hs HB hb; (try clear hb); (try clear hb2); (try clear hk); (try clear hi); obtain ⟨lF, lG⟩ := bc2 (w := eY) G.out; have lH := blk_frozen G.out; obtain ⟨lI, lJ⟩ := bc2 (w := eY) aN.out; have lK := blk_frozen aN.out) | (go_at_call 41; (with_reducible refine (impl_GraphSame.calls ao _ _ D _ _ I _ _ aZ _ _ I bu _ ?aK ?aM ?aU ?aV ?a4 ?a5 ?a6 ?a7 fW.out).mono ?_); (case aK => exact cq aq); (case aM => exact cd aq); (case aU => exact cr az); (case aV => exact cc az); (case a4 => exact cr bA); (case a5 => exact cc bA); (case a6 => exact cr az); (case a7 => exact cc az); rintro e lL ⟨rfl, hb⟩; replace aI := rb aI hb; replace aQ := rb aQ hb; replace aJ := qb aJ hb; replace aT := rb aT hb; replace aq := qb aq hb; replace az := rb az hb; replace a3 := rb a3 hb; replace a9 := rb a9 hb; replace bA := rb bA hb; replace J := bb J hb rfl; replace L := bb L hb rfl; replace G := bb G hb rfl; replace z := bb z hb rfl; replace ax := bb ax hb rfl; replace aH := bb aH hb rfl; replace aN := bb aN hb rfl; replace HB := hs HB hb; (try clear hb); (try clear hb2); (try clear hk); (try clear hi)))
                 go_ret
                 exact ⟨eqr, bs HB.out⟩
           ·rw [if_neg c9] at H
            exact absurd H (by simp)
          ·rw [if_neg c8] at H
           exact absurd H (by simp)
         ·rw [if_neg c6] at H
          exact absurd H (by simp)
        ·rw [if_neg c5] at H
         exact absurd H (by simp)
       ·rw [if_neg c1] at H
        exact absurd H (by simp)
      ·rw [if_neg cZ] at H
       exact absurd H (by simp)
     ·replace cX := Bool.eq_false_iff.mpr cX
      subst cX
      have H1 : (some true) = some r := by rw [if_neg (show ¬ (false = true) by decide)] at H; exact H
      clear H
      have H := H1
      clear H1
      obtain rfl := Option.some.inj H
      have lM := cN.out
      have lN := cM.out
      have lO := cP.out
      have lP := cO.out
      have lQ := cQ.out
      have lR := cR.out
      obtain ⟨lS, lT⟩ := bc2 (w := wc) G.out
      have lU := blk_frozen G.out
      go_wp2_with (first | ((with_reducible refine gc 33 rfl ?_); refine gl 64 Try.func33 #[.agg #[.slice ac D.length ab, .slice ah I.length ag]] ?_; (with_reducible refine (spec_GraphOk.calls ao _ _ D _ _ I false _ ?aK ?aM ?aU ?aV dp.out).mono ?_); (case aK => exact cq aq); (case aM => exact cd aq); (case aU => exact cr az); (case aV => exact cc az); rintro e lV ⟨rfl, hb⟩; refine ⟨_, rfl, ?_⟩; replace aI := rb aI hb; replace aQ := rb aQ hb; replace aJ := qb aJ hb; replace aT := rb aT hb; replace aq := qb aq hb; replace az := rb az hb; replace J := bb J hb rfl; replace L := bb L hb rfl; replace G := bb G hb rfl; replace z := bb z hb rfl; replace HB := hs HB hb; (try clear hb); (try clear hb2); (try clear hk); (try clear hi)))
      go_ret
      exact ⟨eqr, bs HB.out⟩

end Go.Proofs.Ytohmemckdogljaa.QFnGraphBent
