/- Contracts of the Go functions that this law reaches: each does what its plain Lean function says. No condition. -/
import Derived.Test.YtohmemckdogljaaQFnGraphBentx0
import Derived.Test.YtohmemckdogljaaQFnGraphBentx3
import Derived.Test.YtohmemckdogljaaQFnGraphBentx6
namespace Go.Proofs.Ytohmemckdogljaa.QFnGraphBent
open Go.RowKit Go.Proofs.YtohmemckdogljaaW.PrintWords Go.Proofs.YtohmemckdogljaaW.PrintLast Go.Proofs.YtohmemckdogljaaW.PrintMore Go.Proofs.Ytohmemckdogljaa.Bl
attribute [local go_sem] max2_int min2_int max_two min_two max_three min_three max_four min_four   -- for this text's walks alone
set_option linter.unusedVariables false
set_option linter.unusedSimpArgs false
set_option maxHeartbeats 8000000
set_option maxRecDepth 100000

/-! ### spec_l9Rd_pick: function 120 -/
def spec_l9Rd_pick.j0 : Nat → Int → Bool → List Int → Int → Option (Int × Int)
 | 0, _, _, _, _ => none
 | k + 1, z, D, s, y => if D = true then (some (0, y)) else (if (wrap64 (y - 1)) < (s.length : Int) then (if 0 ≤ (wrap64 (y - 1)) then (if z = 0 then (none) else (some (Int.tmod (wrap64 (rd s (wrap64 (y - 1)))) z, y))) else (none)) else (if (s.length : Int) = 0 then (none) else (if 0 ≤ (Int.tmod (wrap64 (y - 1)) (s.length : Int)) then (if (Int.tmod (wrap64 (y - 1)) (s.length : Int)) < (s.length : Int) then (if 0 ≤ (Int.tmod (wrap64 ((wrap64 ((wrap64 (y - 1)) * 7)) + 3)) (s.length : Int)) then (if (Int.tmod (wrap64 ((wrap64 ((wrap64 (y - 1)) * 7)) + 3)) (s.length : Int)) < (s.length : Int) then (if z = 0 then (none) else (some (Int.tmod (Go.bits .xor .i64 (wrap64 ((wrap64 ((wrap64 ((wrap64 ((wrap64 (rd s (Int.tmod (wrap64 (y - 1)) (s.length : Int)))) * 131)) + (wrap64 ((wrap64 (rd s (Int.tmod (wrap64 ((wrap64 ((wrap64 (y - 1)) * 7)) + 3)) (s.length : Int)))) * 1117)))) + (wrap64 ((wrap64 (y - 1)) * 29)))) + (wrap64 ((wrap64 (Int.tdiv (wrap64 (y - 1)) (s.length : Int))) * 53)))) (wrap64 (Int.tdiv (wrap64 ((wrap64 ((wrap64 ((wrap64 ((wrap64 (rd s (Int.tmod (wrap64 (y - 1)) (s.length : Int)))) * 131)) + (wrap64 ((wrap64 (rd s (Int.tmod (wrap64 ((wrap64 ((wrap64 (y - 1)) * 7)) + 3)) (s.length : Int)))) * 1117)))) + (wrap64 ((wrap64 (y - 1)) * 29)))) + (wrap64 ((wrap64 (Int.tdiv (wrap64 (y - 1)) (s.length : Int))) * 53)))) 64))) z, y))) else (none)) else (none)) else (none)) else (none))))
def spec_l9Rd_pick.f (k : Nat) (s : List Int) (z : Int) (y : Int) : Option (Int × Int) := if y < 1 then (spec_l9Rd_pick.j0 k y true s (wrap64 (z + 1))) else (spec_l9Rd_pick.j0 k y ((s.length : Int) == 0) s (wrap64 (z + 1)))
theorem spec_l9Rd_pick.calls (k : Nat) (g : Nat) (s : List Int) (y : Int) (z : Int) (J : Int) (L : Int) (w0 w : World) (hI : IsS126 w0 w g s y) (hB : Below w0.heap.size w0 w) (h : spec_l9Rd_pick.f k s y z = some (J, L)) :
  Calls Try.prog 120 #[.pointer (some ⟨g, 0, none⟩), .int .i64 z] w fun e w' => e = .returned (.int .i64 J) ∧ IsS126 w0 w' g s L ∧ Below w0.heap.size w0 w' ∧ KeepBut w w' g none := by
 have G := am hI
 have GEg_ : Ge w0 g := ⟨IsS126.ge G.out⟩
 have HK := am (KeepBut.refl w g none)
 have HL := am hB.size
 clear hI
 have aW := am hB.size
 have HB := am hB
 clear hB
 have H := h; unfold spec_l9Rd_pick.f at H
 clear h
 have ap := am H
 clear H
 obtain ⟨aX, aY, ab, aF, aZ⟩ := G.out
 have aG := cellS126_0 ab
 have aH := cellS126_1 ab
 have aI := blk_frozen ab 1
 clear ab aF
 go_enter Try.func120, Try.ntmps120
 go_upto_region 2 with (fail)
 repeat (go_quiet (fail); go_upto_region 2 with (fail))
 go_cut [24] (fun aJ wc => ∃ (kq : Nat) (ac : Bool), aJ = .bool ac ∧ Aside0 (spec_l9Rd_pick.j0 kq z ac s (wrap64 (y + 1)) = some (J, L)) ∧ Aside0 (kq ≤ k) ∧ Aside0 (IsS126 w0 wc g s (wrap64 (y + 1))) ∧ Aside0 (KeepBut w wc g none) ∧ Aside0 (Below w0.heap.size w0 wc))
 case first =>
  have H := ap.out
  clear ap
  by_cases O : z < 1
  ·rw [if_pos O] at H
   have T : decide (z < 1) = true := decide_eq_true O
   clear O
   (first | rw [T] | (simp only [i64_w, i32_w]; rw [T]) | skip)
   have H' := am H
   clear H
   go_wp2
   repeat (go_quiet (fail); try go_wp2)
   go_meet
   case rel => exact ⟨_, (true), eqs, H', ⟨by first | omega | exact Nat.le_refl _⟩, ⟨iis G.out⟩, ⟨ks HK.out⟩, ⟨bs HB.out⟩⟩
  ·rw [if_neg O] at H
   have T : decide (z < 1) = false := decide_eq_false O
   clear O
   (first | rw [T] | (simp only [i64_w, i32_w]; rw [T]) | skip)
   have H' := am H
   clear H
   obtain ⟨a3, a4, ae, aK, a5⟩ := G.out
   have aL := cellS126_0 ae
   have aM := cellS126_1 ae
   have aN := blk_frozen ae 1
   clear ae aK
   go_wp2
   repeat (go_quiet (fail); try go_wp2)
   go_meet
   case rel => exact ⟨_, (((s.length : Int) == 0)), eqs, H', ⟨by first | omega | exact Nat.le_refl _⟩, ⟨iis G.out⟩, ⟨ks HK.out⟩, ⟨bs HB.out⟩⟩
 case rest =>
  clear ap
  try clear c1
  try clear p2
  try clear O
  try clear T
  try clear p6
  try clear aG aH
  try clear aL aM
  try clear aI
  try clear aN
  obtain ⟨kq, ac, rfl, HA, a6, G, HK, HB⟩ := hcut
  cases kq with
  | zero => exact absurd HA.out (by simp [spec_l9Rd_pick.j0])
  | succ a7 =>
   have H := HA.out
   clear HA
   simp only [spec_l9Rd_pick.j0] at H
   by_cases c7 : ac = true
   ·subst c7
    replace H : (some (0, (wrap64 (y + 1)))) = some (J, L) := by rw [if_pos rfl] at H; exact H
    simp only [Option.some.injEq, Prod.mk.injEq] at H
    obtain ⟨rfl, rfl⟩ := H
    go_wp2
    repeat (go_quiet (fail); try go_wp2)
    go_ret
    exact ⟨eqr, iis G.out, bs HB.out, ks HK.out⟩
   ·replace c7 := Bool.eq_false_iff.mpr c7
    subst c7
    have H1 : (if (wrap64 ((wrap64 (y + 1)) - 1)) < (s.length : Int) then (if 0 ≤ (wrap64 ((wrap64 (y + 1)) - 1)) then (if z = 0 then (none) else (some (Int.tmod (wrap64 (rd s (wrap64 ((wrap64 (y + 1)) - 1)))) z, (wrap64 (y + 1))))) else (none)) else (if (s.length : Int) = 0 then (none) else (if 0 ≤ (Int.tmod (wrap64 ((wrap64 (y + 1)) - 1)) (s.length : Int)) then (if (Int.tmod (wrap64 ((wrap64 (y + 1)) - 1)) (s.length : Int)) < (s.length : Int) then (if 0 ≤ (Int.tmod (wrap64 ((wrap64 ((wrap64 ((wrap64 (y + 1)) - 1)) * 7)) + 3)) (s.length : Int)) then (if (Int.tmod (wrap64 ((wrap64 ((wrap64 ((wrap64 (y + 1)) - 1)) * 7)) + 3)) (s.length : Int)) < (s.length : Int) then (if z = 0 then (none) else (some (Int.tmod (Go.bits .xor .i64 (wrap64 ((wrap64 ((wrap64 ((wrap64 ((wrap64 (rd s (Int.tmod (wrap64 ((wrap64 (y + 1)) - 1)) (s.length : Int)))) * 131)) + (wrap64 ((wrap64 (rd s (Int.tmod (wrap64 ((wrap64 ((wrap64 ((wrap64 (y + 1)) - 1)) * 7)) + 3)) (s.length : Int)))) * 1117)))) + (wrap64 ((wrap64 ((wrap64 (y + 1)) - 1)) * 29)))) + (wrap64 ((wrap64 (Int.tdiv (wrap64 ((wrap64 (y + 1)) - 1)) (s.length : Int))) * 53)))) (wrap64 (Int.tdiv (wrap64 ((wrap64 ((wrap64 ((wrap64 ((wrap64 (rd s (Int.tmod (wrap64 ((wrap64 (y + 1)) - 1)) (s.length : Int)))) * 131)) + (wrap64 ((wrap64 (rd s (Int.tmod (wrap64 ((wrap64 ((wrap64 ((wrap64 (y + 1)) - 1)) * 7)) + 3)) (s.length : Int)))) * 1117)))) + (wrap64 ((wrap64 ((wrap64 (y + 1)) - 1)) * 29)))) + (wrap64 ((wrap64 (Int.tdiv (wrap64 ((wrap64 (y + 1)) - 1)) (s.length : Int))) * 53)))) 64))) z, (wrap64 (y + 1))))) else (none)) else (none)) else (none)) else (none)))) = some (J, L) := by rw [if_neg (show ¬ (false = true) by decide)] at H; exact H
    clear H
    have H := H1
    clear H1
    by_cases X : (wrap64 ((wrap64 (y + 1)) - 1)) < (s.length : Int)
    ·rw [if_pos X] at H
     have aA : decide ((wrap64 ((wrap64 (y + 1)) - 1)) < (s.length : Int)) = true := decide_eq_true X
     clear X
     obtain ⟨M, Y⟩ : ∃ j_ : Int, (wrap64 ((wrap64 (y + 1)) - 1)) = j_ := ⟨_, rfl⟩
     replace H : (if 0 ≤ (M) then (if z = 0 then (none) else (some (Int.tmod (wrap64 (rd s (M))) z, (wrap64 (y + 1))))) else (none)) = some (J, L) := by first | (rw [Y] at H; exact H) | (simp only [Y] at H ⊢; exact H)
     (try rw [Y] at aA)
     have a8 : (IntKind.i64.wrap ((wrap64 (y + 1)) - 1)) = M := (i64_w _).trans Y
     by_cases af : 0 ≤ (M)
     ·rw [if_pos af] at H
      have a9 : decide (0 ≤ (M)) = true := decide_eq_true af
      clear af
      by_cases ag : z = 0
      ·rw [if_pos ag] at H
       exact absurd H (by simp)
      ·rw [if_neg ag] at H
       have ba : (z == 0) = false := beq_eq_false_iff_ne.mpr ag
       have bc : (z != 0) = true := bne_iff_ne.mpr ag
       simp only [Option.some.injEq, Prod.mk.injEq] at H
       obtain ⟨rfl, rfl⟩ := H
       obtain ⟨be, bg, ah, aO, aP⟩ := G.out
       have bh := cellS126_0 ah
       have bi := cellS126_1 ah
       have bj := blk_frozen ah 1
       clear ah aO
       have aq : 0 ≤ ((M) : Int) := oda
       have ar : (M) < (s.length : Int) := oda
       obtain ⟨bk, aQ, aB⟩ := Kd.at_int aP (M) aq ar
       cases aQ
       replace aB := pw_cell_below HB.out aB
       replace aq := eq_true aq
       replace ar := eq_true ar
       go_wp2
       repeat (go_quiet (fail); try go_wp2)
       go_ret
       exact ⟨by first | rfl | (simp [errW_none, errW_some] <;> rfl) | (simp only [← Y]; first | rfl | (simp [errW_none, errW_some] <;> rfl)) | (simp [*, errW_none, errW_some] <;> rfl), iis G.out, bs HB.out, ks HK.out⟩
     ·rw [if_neg af] at H
      exact absurd H (by simp)
    ·rw [if_neg X] at H
     have aA : decide ((wrap64 ((wrap64 (y + 1)) - 1)) < (s.length : Int)) = false := decide_eq_false X
     clear X
     by_cases Z : (s.length : Int) = 0
     ·rw [if_pos Z] at H
      exact absurd H (by simp)
     ·rw [if_neg Z] at H
      have bl : ((s.length : Int) == 0) = false := beq_eq_false_iff_ne.mpr Z
      have bm : ((s.length : Int) != 0) = true := bne_iff_ne.mpr Z
      have bn : ¬ (s = []) := fun h_ => Z (by rw [h_]; rfl)
      obtain ⟨D, au⟩ : ∃ j_ : Int, (Int.tmod (wrap64 ((wrap64 (y + 1)) - 1)) (s.length : Int)) = j_ := ⟨_, rfl⟩
      replace H : (if 0 ≤ (D) then (if (D) < (s.length : Int) then (if 0 ≤ (Int.tmod (wrap64 ((wrap64 ((wrap64 ((wrap64 (y + 1)) - 1)) * 7)) + 3)) (s.length : Int)) then (if (Int.tmod (wrap64 ((wrap64 ((wrap64 ((wrap64 (y + 1)) - 1)) * 7)) + 3)) (s.length : Int)) < (s.length : Int) then (if z = 0 then (none) else (some (Int.tmod (Go.bits .xor .i64 (wrap64 ((wrap64 ((wrap64 ((wrap64 ((wrap64 (rd s (D))) * 131)) + (wrap64 ((wrap64 (rd s (Int.tmod (wrap64 ((wrap64 ((wrap64 ((wrap64 (y + 1)) - 1)) * 7)) + 3)) (s.length : Int)))) * 1117)))) + (wrap64 ((wrap64 ((wrap64 (y + 1)) - 1)) * 29)))) + (wrap64 ((wrap64 (Int.tdiv (wrap64 ((wrap64 (y + 1)) - 1)) (s.length : Int))) * 53)))) (wrap64 (Int.tdiv (wrap64 ((wrap64 ((wrap64 ((wrap64 ((wrap64 (rd s (D))) * 131)) + (wrap64 ((wrap64 (rd s (Int.tmod (wrap64 ((wrap64 ((wrap64 ((wrap64 (y + 1)) - 1)) * 7)) + 3)) (s.length : Int)))) * 1117)))) + (wrap64 ((wrap64 ((wrap64 (y + 1)) - 1)) * 29)))) + (wrap64 ((wrap64 (Int.tdiv (wrap64 ((wrap64 (y + 1)) - 1)) (s.length : Int))) * 53)))) 64))) z, (wrap64 (y + 1))))) else (none)) else (none)) else (none)) else (none)) = some (J, L) := by first | (rw [au] at H; exact H) | (simp only [au] at H ⊢; exact H)
      by_cases ai : 0 ≤ (D)
      ·rw [if_pos ai] at H
       have bo : decide (0 ≤ (D)) = true := decide_eq_true ai
       clear ai
       by_cases aj : (D) < (s.length : Int)
       ·rw [if_pos aj] at H
        have br : decide ((D) < (s.length : Int)) = true := decide_eq_true aj
        clear aj
        obtain ⟨I, av⟩ : ∃ j_ : Int, (Int.tmod (wrap64 ((wrap64 ((wrap64 ((wrap64 (y + 1)) - 1)) * 7)) + 3)) (s.length : Int)) = j_ := ⟨_, rfl⟩
        replace H : (if 0 ≤ (I) then (if (I) < (s.length : Int) then (if z = 0 then (none) else (some (Int.tmod (Go.bits .xor .i64 (wrap64 ((wrap64 ((wrap64 ((wrap64 ((wrap64 (rd s (D))) * 131)) + (wrap64 ((wrap64 (rd s (I))) * 1117)))) + (wrap64 ((wrap64 ((wrap64 (y + 1)) - 1)) * 29)))) + (wrap64 ((wrap64 (Int.tdiv (wrap64 ((wrap64 (y + 1)) - 1)) (s.length : Int))) * 53)))) (wrap64 (Int.tdiv (wrap64 ((wrap64 ((wrap64 ((wrap64 ((wrap64 (rd s (D))) * 131)) + (wrap64 ((wrap64 (rd s (I))) * 1117)))) + (wrap64 ((wrap64 ((wrap64 (y + 1)) - 1)) * 29)))) + (wrap64 ((wrap64 (Int.tdiv (wrap64 ((wrap64 (y + 1)) - 1)) (s.length : Int))) * 53)))) 64))) z, (wrap64 (y + 1))))) else (none)) else (none)) = some (J, L) := by first | (rw [av] at H; exact H) | (simp only [av] at H ⊢; exact H)
        by_cases ak : 0 ≤ (I)
        ·rw [if_pos ak] at H
         have bt : decide (0 ≤ (I)) = true := decide_eq_true ak
         clear ak
         by_cases al : (I) < (s.length : Int)
         ·rw [if_pos al] at H
          have bu : decide ((I) < (s.length : Int)) = true := decide_eq_true al
          clear al
          by_cases an : z = 0
          ·rw [if_pos an] at H
           exact absurd H (by simp)
          ·rw [if_neg an] at H
           have bv : (z == 0) = false := beq_eq_false_iff_ne.mpr an
           have bw : (z != 0) = true := bne_iff_ne.mpr an
           simp only [Option.some.injEq, Prod.mk.injEq] at H
           obtain ⟨rfl, rfl⟩ := H
           obtain ⟨bz, bA, ao, aR, aC⟩ := G.out
           have bB := cellS126_0 ao
           have bC := cellS126_1 ao
           have bD := blk_frozen ao 1
           clear ao aR
           have aw : 0 ≤ ((D) : Int) := oda
           have ax : (D) < (s.length : Int) := oda
           obtain ⟨aS, aT, aD⟩ := Kd.at_int aC (D) aw ax
           cases aT
           replace aD := pw_cell_below HB.out aD
           replace aw := eq_true aw
           replace ax := eq_true ax
           have ay : 0 ≤ ((I) : Int) := oda
           have az : (I) < (s.length : Int) := oda
           obtain ⟨aU, aV, aE⟩ := Kd.at_int aC (I) ay az
           obtain rfl : aS = aU := (by injection aV)
           replace aE := pw_cell_below HB.out aE
           replace ay := eq_true ay
           replace az := eq_true az
           go_wp2
           repeat (go_quiet (fail); try go_wp2)
           go_ret
           exact ⟨by first | rfl | (simp [errW_none, errW_some] <;> rfl) | (simp only [← au, ← av]; first | rfl | (simp [errW_none, errW_some] <;> rfl)) | (simp [*, errW_none, errW_some] <;> rfl), iis G.out, bs HB.out, ks HK.out⟩
         ·rw [if_neg al] at H
          exact absurd H (by simp)
        ·rw [if_neg ak] at H
         exact absurd H (by simp)
       ·rw [if_neg aj] at H
        exact absurd H (by simp)
      ·rw [if_neg ai] at H
       exact absurd H (by simp)

/-! ### spec_l9Rd_num: function 119 -/
def spec_l9Rd_num.f (k : Nat) (y : List Int) (z : Int) (l1 : List Int) : Option (Int × Int) := (spec_l9Rd_pick.f k y z (l1.length : Int)).bind fun s => (if 0 ≤ s.1 then (if s.1 < (l1.length : Int) then (some (rd l1 s.1, s.2)) else (none)) else (none))
theorem spec_l9Rd_num.calls (k : Nat) (g : Nat) (y : List Int) (I : Int) (J : Option Addr) (T : Nat) (l1 : List Int) (X : Int) (Y : Int) (w0 w : World) (hI : IsS126 w0 w g y I) (hB : Below w0.heap.size w0 w) (Z : Kd.C (Kd.int .i64) w J l1.length l1) (ab : l1.length ≤ T) (L : ∀ ad, J = some ad → 0 < l1.length → ad.block ≠ g) (h : spec_l9Rd_num.f k y I l1 = some (X, Y)) :
  Calls Try.prog 119 #[.pointer (some ⟨g, 0, none⟩), .slice J l1.length T] w fun e w' => e = .returned (.int .i64 X) ∧ IsS126 w0 w' g y Y ∧ Below w0.heap.size w0 w' ∧ KeepBut w w' g none := by
 have af := am Z
 have al := am ab
 clear Z ab
 have z := am hI
 have GEg_ : Ge w0 g := ⟨IsS126.ge z.out⟩
 have HK := am (KeepBut.refl w g none)
 have HL := am hB.size
 clear hI
 have an := am hB.size
 have HB := am hB
 clear hB
 have H := h; unfold spec_l9Rd_num.f at H
 clear h
 replace H := Option.bind_eq_some_iff.mp H
 obtain ⟨⟨s, ag⟩, ac, H⟩ := H
 try dsimp -simprocs only at H
 have A3 := am ac
 clear ac
 by_cases D : 0 ≤ s
 ·rw [if_pos D] at H
  have ao : decide (0 ≤ s) = true := decide_eq_true D
  clear D
  by_cases G : s < (l1.length : Int)
  ·rw [if_pos G] at H
   have ap : decide (s < (l1.length : Int)) = true := decide_eq_true G
   clear G
   simp only [Option.some.injEq, Prod.mk.injEq] at H
   obtain ⟨rfl, rfl⟩ := H
   go_enter Try.func119, Try.ntmps119
   go_wp2_with (first | ((with_reducible refine gc 120 rfl ?_); refine gl 9 Try.func120 #[.pointer (some ⟨g, 0, none⟩), .int .i64 (l1.length : Int)] ?_; (with_reducible refine (spec_l9Rd_pick.calls k g y I (l1.length : Int) s ag w0 _ ?ah ?ai A3.out).mono ?_); (case ah => exact iis z.out); (case ai => exact bs HB.out); rintro e w6 ⟨rfl, hi, hb, hk⟩; refine ⟨_, rfl, ?_⟩; replace HK := kt HK hk; replace HB := am hb; replace z := am hi; (try clear hi hb hk); have M : 0 ≤ (s : Int) := oda; have O : s < (l1.length : Int) := oda; obtain ⟨aj, ak, ae⟩ := Kd.at_int af.out s M O; cases ak; replace ae := keep_cell HK.out ae (by first | (rw [add_block]; exact L _ rfl (by omega)) | exact L _ rfl (by omega) | exact L aj rfl (by omega)); replace M := eq_true M; replace O := eq_true O))
   go_ret
   exact ⟨eqr, iis z.out, bs HB.out, ks HK.out⟩
  ·rw [if_neg G] at H
   exact absurd H (by simp)
 ·rw [if_neg D] at H
  exact absurd H (by simp)

/-! ### spec_l2Node: function 121 -/
def spec_l2Node.f (k : Nat) (s : List Int) (D : Int) : Option (Int × Int × Int) := (spec_l9Rd_num.f k s D (([0, 1, 2, 3, 0, 1, 4, 7] : List Int))).bind fun y => ((spec_l9Rd_num.f k s y.2 (([0, 1, 2, 3, 40] : List Int))).bind fun z => (some (y.1, z.1, z.2)))
theorem spec_l2Node.calls (k : Nat) (g : Nat) (D : List Int) (O : Int) (T : Int) (X : Int) (Y : Int) (w0 w : World) (hI : IsS126 w0 w g D O) (hB : Below w0.heap.size w0 w) (h : spec_l2Node.f k D O = some (T, X, Y)) :
  Calls Try.prog 121 #[.pointer (some ⟨g, 0, none⟩)] w fun e w' => e = .returned (.agg #[.int .i64 T, .int .i64 X]) ∧ IsS126 w0 w' g D Y ∧ Below w0.heap.size w0 w' ∧ KeepBut w w' g none := by
 have hu36 := Try.underlying36
 have s := am hI
 have GEg_ : Ge w0 g := ⟨IsS126.ge s.out⟩
 have HK := am (KeepBut.refl w g none)
 have HL := am hB.size
 clear hI
 have av := am hB.size
 have HB := am hB
 clear hB
 have H := h; unfold spec_l2Node.f at H
 clear h
 obtain ⟨Z, aa⟩ : ∃ y_ : List Int, y_ = (([0, 1, 2, 3, 0, 1, 4, 7] : List Int)) := ⟨_, rfl⟩
 replace H : ((spec_l9Rd_num.f k D O Z).bind fun al => ((spec_l9Rd_num.f k D al.2 (([0, 1, 2, 3, 40] : List Int))).bind fun L => (some (al.1, L.1, L.2)))) = some (T, X, Y) := by first | (rw [aa]; exact H) | exact H
 have an := am aa
 clear aa
 replace H := Option.bind_eq_some_iff.mp H
 obtain ⟨⟨ab, ac⟩, ao, H⟩ := H
 try dsimp -simprocs only at H
 have A2 := am ao
 clear ao
 obtain ⟨ae, af⟩ : ∃ y_ : List Int, y_ = (([0, 1, 2, 3, 40] : List Int)) := ⟨_, rfl⟩
 replace H : ((spec_l9Rd_num.f k D ac ae).bind fun L => (some (ab, L.1, L.2))) = some (T, X, Y) := by first | (rw [af]; exact H) | exact H
 have ap := am af
 clear af
 replace H := Option.bind_eq_some_iff.mp H
 obtain ⟨⟨aq, aw⟩, ar, H⟩ := H
 try dsimp -simprocs only at H
 have A3 := am ar
 clear ar
 simp only [Option.some.injEq, Prod.mk.injEq] at H
 obtain ⟨rfl, rfl, rfl⟩ := H
 go_enter Try.func121, Try.ntmps121
 go_wp2_with (first | ((with_reducible refine gd 2 rfl ?_); refine bx 2 (cs := #[.int .i64 0, .int .i64 0]) (t := 36) ?_; intro ax hg w4 hbox hb; replace HB := hs HB hb; have y := am hbox; have ay := gwk HK hg; have aH := gew av ay; replace HK := kb HK hb; have au := nlt s hg; have az := nsy au; replace s := ib s hb; clear hb hbox hg) | ((with_reducible refine gd 4 rfl ?_); refine rli (k := .i64) 3 4 ([0, 1, 2, 3, 0, 1, 4, 7] : List Int) ?_; intro aI w5 M hb hg_ hnew_; clear hg_ hnew_; (first | rw [← an.out] at M | (simp only [Int.reduceToNat] at M; rw [← an.out] at M)); have z := am (Kd.R_lower M (keep_size (w := w) (g := g) (row := none) (ks HK.out))); replace s := ib s hb; replace y := bb y hb rfl; replace HK := kb HK hb; replace HB := hs HB hb; clear hb M; obtain ⟨aA, aB, aC⟩ := Kd.R_slice z.out; subst aC) | ((with_reducible refine gc 119 rfl ?_); refine gl 5 Try.func119 #[.pointer (some ⟨g, 0, none⟩), .slice aA Z.length aB] ?_; (with_reducible refine (spec_l9Rd_num.calls k g D O _ _ Z ab ac w0 _ ?ag ?ah ?ai ?aj ?ak A2.out).mono ?_); (case ag => exact iis s.out); (case ah => exact bs HB.out); (case ai => exact cr z); (case aj => exact cc z); (case ak => exact far_slice (IsS126.own_ne s.out z.out (by decide))); rintro e w8 ⟨rfl, hi, hb, hk⟩; refine ⟨_, rfl, ?_⟩; replace y := kk y hk; replace z := ro z s hk; replace HK := kt HK hk; replace HB := am hb; replace s := am hi; (try clear hi hb hk)) | ((with_reducible refine gd 7 rfl ?_); refine rli (k := .i64) 3 7 ([0, 1, 2, 3, 40] : List Int) ?_; intro aJ w9 I hb hg_ hnew_; clear hg_ hnew_; (first | rw [← ap.out] at I | (simp only [Int.reduceToNat] at I; rw [← ap.out] at I)); have J := am (Kd.R_lower (Kd.R_new' I (rk z)) (keep_size (w := w) (g := g) (row := none) (ks HK.out))); replace z := re z I hb; replace s := ib s hb; replace y := bb y hb rfl; replace HK := kb HK hb; replace HB := hs HB hb; clear hb I; obtain ⟨aD, aE, aF⟩ := Kd.R_slice J.out; subst aF) | ((with_reducible refine gc 119 rfl ?_); refine gl 8 Try.func119 #[.pointer (some ⟨g, 0, none⟩), .slice aD ae.length aE] ?_; (with_reducible refine (spec_l9Rd_num.calls k g D ac _ _ ae aq aw w0 _ ?ag ?ah ?ai ?aj ?ak A3.out).mono ?_); (case ag => exact iis s.out); (case ah => exact bs HB.out); (case ai => exact cr J); (case aj => exact cc J); (case ak => exact far_slice (IsS126.own_ne s.out J.out (by decide))); rintro e aG ⟨rfl, hi, hb, hk⟩; refine ⟨_, rfl, ?_⟩; replace y := kk y hk; replace z := ro z s hk; replace J := ro J s hk; replace HK := kt HK hk; replace HB := am hb; replace s := am hi; (try clear hi hb hk); have aK := az.out; have aL := au.out; obtain ⟨aM, aN⟩ := bc2 (w := aG) y.out; have aO := blk_frozen y.out))
 refine bodyPost_ret (results_cell_row rfl _ _ ax 36 #[.int .i64 ab, .int .i64 aq] (0, 0) _ rfl (bp y.out rfl) Try.underlying36 rfl (by kernel_rfl)) rfl ?_
 exact ⟨eqr, iis s.out, bs HB.out, ks HK.out⟩

/-! ### spec_l1Mix: function 143 -/
def spec_l1Mix.l0 : Nat → Int → Int → Bool → Int → Int → Option (Int)
 | 0, _, _, _, _, _ => none
 | k + 1, z, D, y, G, s => if s ≥ 0 then ((spec_l1Has.f k z s).bind fun J => ((spec_l1Has.f k D s).bind fun I => (if J = true then (if I = true then (spec_l1Mix.l0 k z D y (wrap64 ((wrap64 (G * 2)) + 1)) (wrap64 (s - 1))) else (if y = true then (spec_l1Mix.l0 k z D y (wrap64 (G * 2)) (wrap64 (s - 1))) else (spec_l1Mix.l0 k z D y (wrap64 ((wrap64 (G * 2)) + 1)) (wrap64 (s - 1))))) else (if y = true then (spec_l1Mix.l0 k z D y (wrap64 (G * 2)) (wrap64 (s - 1))) else (if I = true then (spec_l1Mix.l0 k z D y (wrap64 ((wrap64 (G * 2)) + 1)) (wrap64 (s - 1))) else (spec_l1Mix.l0 k z D y (wrap64 (G * 2)) (wrap64 (s - 1)))))))) else (some G)
def spec_l1Mix.f (k : Nat) (s : Int) (y : Int) (z : Bool) : Option (Int) := spec_l1Mix.l0 k s y z 0 2
theorem spec_l1Mix.calls (k : Nat) (y : Int) (z : Int) (I : Bool) (r : Int) (w : World) (h : spec_l1Mix.f k y z I = some r) :
  Calls Try.prog 143 #[.int .i64 y, .int .i64 z, .bool I] w fun e w' => e = .returned (.int .i64 r) ∧ Drawn0 w w' := by
 have H := h; unfold spec_l1Mix.f at H
 clear h
 have H' := am H
 clear H
 go_enter Try.func143, Try.ntmps143
 go_wp2
 go_loopg [7, 8] k (fun kq v7 v8 w' => ∃ (G : Int) (s : Int), v7 = .int .i64 G ∧ v8 = .int .i64 s ∧ Aside0 (spec_l1Mix.l0 kq y z I G s = some r) ∧ Aside0 (kq ≤ k) ∧ Drawn0 w w')
 case atStart => exact ⟨(0), (2), eqs, eqs, H', ⟨Nat.le_refl _⟩, drs⟩
 case round =>
  clear H'
  try clear c1
  try clear p2
  obtain ⟨G, s, rfl, rfl, HA, J, ⟨m1, rfl⟩⟩ := hrel
  cases gk with
  | zero => exact absurd HA.out (by simp [spec_l1Mix.l0])
  | succ k1 =>
   have H := HA.out
   clear HA
   simp only [spec_l1Mix.l0] at H
   by_cases L : s ≥ 0
   ·rw [if_pos L] at H
    have af : decide (0 ≤ s) = true := decide_eq_true L
    clear L
    replace H := Option.bind_eq_some_iff.mp H
    obtain ⟨ag, ac, H⟩ := H
    try dsimp -simprocs only at H
    have M := am ac
    clear ac
    replace H := Option.bind_eq_some_iff.mp H
    obtain ⟨O, ae, H⟩ := H
    try dsimp -simprocs only at H
    have T := am ae
    clear ae
    by_cases X : ag = true
    ·subst X
     replace H : (if O = true then (spec_l1Mix.l0 k1 y z I (wrap64 ((wrap64 (G * 2)) + 1)) (wrap64 (s - 1))) else (if I = true then (spec_l1Mix.l0 k1 y z I (wrap64 (G * 2)) (wrap64 (s - 1))) else (spec_l1Mix.l0 k1 y z I (wrap64 ((wrap64 (G * 2)) + 1)) (wrap64 (s - 1))))) = some r := by rw [if_pos rfl] at H; exact H
     by_cases Y : O = true
     ·subst Y
      replace H : (spec_l1Mix.l0 k1 y z I (wrap64 ((wrap64 (G * 2)) + 1)) (wrap64 (s - 1))) = some r := by rw [if_pos rfl] at H; exact H
      have H' := am H
      clear H
      go_wp2_with (first | ((with_reducible refine gc 141 rfl ?_); refine gl 19 Try.func141 #[.int .i64 y, .int .i64 s] ?_; (with_reducible refine (spec_l1Has.calls k1 y s true _ M.out).mono ?_); rintro e w' ⟨rfl, ⟨nd, rfl⟩⟩; refine ⟨_, rfl, ?_⟩) | ((with_reducible refine gc 141 rfl ?_); refine gl 22 Try.func141 #[.int .i64 z, .int .i64 s] ?_; (with_reducible refine (spec_l1Has.calls k1 z s true _ T.out).mono ?_); rintro e w' ⟨rfl, ⟨nd, rfl⟩⟩; refine ⟨_, rfl, ?_⟩))
      go_roundg k1
      case measure => have := J.out; omega
      case rel => exact ⟨(wrap64 ((wrap64 (G * 2)) + 1)), (wrap64 (s - 1)), eqs, eqs, H', ⟨by have := J.out; omega⟩, drs⟩
     ·replace Y := Bool.eq_false_iff.mpr Y
      subst Y
      have H1 : (if I = true then (spec_l1Mix.l0 k1 y z I (wrap64 (G * 2)) (wrap64 (s - 1))) else (spec_l1Mix.l0 k1 y z I (wrap64 ((wrap64 (G * 2)) + 1)) (wrap64 (s - 1)))) = some r := by rw [if_neg (show ¬ (false = true) by decide)] at H; exact H
      clear H
      have H := H1
      clear H1
      by_cases Z : I = true
      ·subst Z
       replace H : (spec_l1Mix.l0 k1 y z true (wrap64 (G * 2)) (wrap64 (s - 1))) = some r := by rw [if_pos rfl] at H; exact H
       have H' := am H
       clear H
       go_wp2_with (first | ((with_reducible refine gc 141 rfl ?_); refine gl 19 Try.func141 #[.int .i64 y, .int .i64 s] ?_; (with_reducible refine (spec_l1Has.calls k1 y s true _ M.out).mono ?_); rintro e w' ⟨rfl, ⟨nd, rfl⟩⟩; refine ⟨_, rfl, ?_⟩) | ((with_reducible refine gc 141 rfl ?_); refine gl 22 Try.func141 #[.int .i64 z, .int .i64 s] ?_; (with_reducible refine (spec_l1Has.calls k1 z s false _ T.out).mono ?_); rintro e w' ⟨rfl, ⟨nd, rfl⟩⟩; refine ⟨_, rfl, ?_⟩))
       go_roundg k1
       case measure => have := J.out; omega
       case rel => exact ⟨(wrap64 (G * 2)), (wrap64 (s - 1)), eqs, eqs, H', ⟨by have := J.out; omega⟩, drs⟩
      ·replace Z := Bool.eq_false_iff.mpr Z
       subst Z
       have H1 : (spec_l1Mix.l0 k1 y z false (wrap64 ((wrap64 (G * 2)) + 1)) (wrap64 (s - 1))) = some r := by rw [if_neg (show ¬ (false = true) by decide)] at H; exact H
       clear H
       have H := H1
       clear H1
       have H' := am H
       clear H
       go_wp2_with (first | ((with_reducible refine gc 141 rfl ?_); refine gl 19 Try.func141 #[.int .i64 y, .int .i64 s] ?_; (with_reducible refine (spec_l1Has.calls k1 y s true _ M.out).mono ?_); rintro e w' ⟨rfl, ⟨nd, rfl⟩⟩; refine ⟨_, rfl, ?_⟩) | ((with_reducible refine gc 141 rfl ?_); refine gl 22 Try.func141 #[.int .i64 z, .int .i64 s] ?_; (with_reducible refine (spec_l1Has.calls k1 z s false _ T.out).mono ?_); rintro e w' ⟨rfl, ⟨nd, rfl⟩⟩; refine ⟨_, rfl, ?_⟩))
       go_roundg k1
       case measure => have := J.out; omega
       case rel => exact ⟨(wrap64 ((wrap64 (G * 2)) + 1)), (wrap64 (s - 1)), eqs, eqs, H', ⟨by have := J.out; omega⟩, drs⟩
    ·replace X := Bool.eq_false_iff.mpr X
     subst X
     have H1 : (if I = true then (spec_l1Mix.l0 k1 y z I (wrap64 (G * 2)) (wrap64 (s - 1))) else (if O = true then (spec_l1Mix.l0 k1 y z I (wrap64 ((wrap64 (G * 2)) + 1)) (wrap64 (s - 1))) else (spec_l1Mix.l0 k1 y z I (wrap64 (G * 2)) (wrap64 (s - 1))))) = some r := by rw [if_neg (show ¬ (false = true) by decide)] at H; exact H
     clear H
     have H := H1
     clear H1
     by_cases aa : I = true
     ·subst aa
      replace H : (spec_l1Mix.l0 k1 y z true (wrap64 (G * 2)) (wrap64 (s - 1))) = some r := by rw [if_pos rfl] at H; exact H
      have H' := am H
      clear H
      go_wp2_with (first | ((with_reducible refine gc 141 rfl ?_); refine gl 19 Try.func141 #[.int .i64 y, .int .i64 s] ?_; (with_reducible refine (spec_l1Has.calls k1 y s false _ M.out).mono ?_); rintro e w' ⟨rfl, ⟨nd, rfl⟩⟩; refine ⟨_, rfl, ?_⟩) | ((with_reducible refine gc 141 rfl ?_); refine gl 22 Try.func141 #[.int .i64 z, .int .i64 s] ?_; (with_reducible refine (spec_l1Has.calls k1 z s O _ T.out).mono ?_); rintro e w' ⟨rfl, ⟨nd, rfl⟩⟩; refine ⟨_, rfl, ?_⟩))
      go_roundg k1
      case measure => have := J.out; omega
      case rel => exact ⟨(wrap64 (G * 2)), (wrap64 (s - 1)), eqs, eqs, H', ⟨by have := J.out; omega⟩, drs⟩
     ·replace aa := Bool.eq_false_iff.mpr aa
      subst aa
      have H1 : (if O = true then (spec_l1Mix.l0 k1 y z false (wrap64 ((wrap64 (G * 2)) + 1)) (wrap64 (s - 1))) else (spec_l1Mix.l0 k1 y z false (wrap64 (G * 2)) (wrap64 (s - 1)))) = some r := by rw [if_neg (show ¬ (false = true) by decide)] at H; exact H
      clear H
      have H := H1
      clear H1
      by_cases ab : O = true
      ·subst ab
       replace H : (spec_l1Mix.l0 k1 y z false (wrap64 ((wrap64 (G * 2)) + 1)) (wrap64 (s - 1))) = some r := by rw [if_pos rfl] at H; exact H
       have H' := am H
       clear H
       go_wp2_with (first | ((with_reducible refine gc 141 rfl ?_); refine gl 19 Try.func141 #[.int .i64 y, .int .i64 s] ?_; (with_reducible refine (spec_l1Has.calls k1 y s false _ M.out).mono ?_); rintro e w' ⟨rfl, ⟨nd, rfl⟩⟩; refine ⟨_, rfl, ?_⟩) | ((with_reducible refine gc 141 rfl ?_); refine gl 22 Try.func141 #[.int .i64 z, .int .i64 s] ?_; (with_reducible refine (spec_l1Has.calls k1 z s true _ T.out).mono ?_); rintro e w' ⟨rfl, ⟨nd, rfl⟩⟩; refine ⟨_, rfl, ?_⟩))
       go_roundg k1
       case measure => have := J.out; omega
       case rel => exact ⟨(wrap64 ((wrap64 (G * 2)) + 1)), (wrap64 (s - 1)), eqs, eqs, H', ⟨by have := J.out; omega⟩, drs⟩
      ·replace ab := Bool.eq_false_iff.mpr ab
       subst ab
       have H1 : (spec_l1Mix.l0 k1 y z false (wrap64 (G * 2)) (wrap64 (s - 1))) = some r := by rw [if_neg (show ¬ (false = true) by decide)] at H; exact H
       clear H
       have H := H1
       clear H1
       have H' := am H
       clear H
       go_wp2_with (first | ((with_reducible refine gc 141 rfl ?_); refine gl 19 Try.func141 #[.int .i64 y, .int .i64 s] ?_; (with_reducible refine (spec_l1Has.calls k1 y s false _ M.out).mono ?_); rintro e w' ⟨rfl, ⟨nd, rfl⟩⟩; refine ⟨_, rfl, ?_⟩) | ((with_reducible refine gc 141 rfl ?_); refine gl 22 Try.func141 #[.int .i64 z, .int .i64 s] ?_; (with_reducible refine (spec_l1Has.calls k1 z s false _ T.out).mono ?_); rintro e w' ⟨rfl, ⟨nd, rfl⟩⟩; refine ⟨_, rfl, ?_⟩))
       go_roundg k1
       case measure => have := J.out; omega
       case rel => exact ⟨(wrap64 (G * 2)), (wrap64 (s - 1)), eqs, eqs, H', ⟨by have := J.out; omega⟩, drs⟩
   ·rw [if_neg L] at H
    have af : decide (0 ≤ s) = false := decide_eq_false L
    clear L
    obtain rfl := Option.some.inj H
    go_wp2
    go_ret
    exact ⟨eqs, drs⟩

end Go.Proofs.Ytohmemckdogljaa.QFnGraphBent
