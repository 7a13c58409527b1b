/- Contracts of the Go functions that this law reaches: each does what its plain Lean function says. No condition. -/
import Derived.Test.YtohmemckdogljaaQFnExactWalkCorex0
import Derived.Test.YtohmemckdogljaaQFnExactWalkCorex5
import Derived.Test.YtohmemckdogljaaQFnExactWalkCorex7
namespace Go.Proofs.Ytohmemckdogljaa.QFnExactWalkCore
open Go.RowKit Go.Proofs.YtohmemckdogljaaW.PrintWords Go.Proofs.YtohmemckdogljaaW.PrintLast Go.Proofs.YtohmemckdogljaaW.PrintMore Go.Proofs.Ytohmemckdogljaa.Bl
attribute [local go_sem] max2_int min2_int max_two min_two max_three min_three max_four min_four   -- for this text's walks alone
set_option linter.unusedVariables false
set_option linter.unusedSimpArgs false
set_option maxHeartbeats 8000000
set_option maxRecDepth 100000

/-! ### spec_l3Peel: function 73 -/
mutual
def spec_l3Peel.l0 : Nat → List Bool → Int → Bool → List (S36) → List (S56) → Option (List Bool)
 | 0, _, _, _, _, _ => none
 | k + 1, s, y, z, D, G => if z = true then (spec_l3Peel.l1 k s y false 0 D G) else (some s)
def spec_l3Peel.l1 : Nat → List Bool → Int → Bool → Int → List (S36) → List (S56) → Option (List Bool)
 | 0, _, _, _, _, _, _ => none
 | k + 1, z, D, I, s, y, G => if s < (z.length : Int) then (if 0 ≤ s then (if rdOf false z s = true then (if s < (y.length : Int) then ((spec_l3Left.f k y G z ((rd_T36 y s).f0) ((rd_T36 y s).f1)).bind fun J => (if J < D then (spec_l3Peel.l1 k (z.set (s : Int).toNat false) D true (wrap64 (s + 1)) y G) else (spec_l3Peel.l1 k z D I (wrap64 (s + 1)) y G))) else (none)) else (spec_l3Peel.l1 k z D I (wrap64 (s + 1)) y G)) else (none)) else (spec_l3Peel.l0 k z D I y G)
end
def spec_l3Peel.f (k : Nat) (s : List (S36)) (y : List (S56)) (l1 : List Bool) (z : Int) : Option (List Bool) := spec_l3Peel.l0 k l1 z true s y
def spec_l3Peel.T7 : Bool × List (List Nat × List Nat) := (true, [([], []), ([], []), ([0, 1], [0, 1]), ([2], [2]), ([3], [3]), ([4], [4]), ([4], [4]), ([4], [4]), ([7, 4], [4, 7]), ([4], [4]), ([8, 9, 4], [4, 8, 9]), ([10, 4], [4, 10]), ([5, 6, 11, 4, 4], [4, 5, 6, 11]), ([4], [4]), ([12, 13, 4], [4, 12, 13]), ([4, 14], [4, 14])])
def spec_l3Peel.B7 : List Nat := [0, 0, 3, 7, 15, 31, 31, 31, 159, 31, 927, 1951, 4095, 31, 16383, 32767]
theorem spec_l3Peel.tab7 : rtab .any (opsOf Try.f73 7) = spec_l3Peel.T7 := by kernel_rfl
theorem spec_l3Peel.bits7 : waitsOk spec_l3Peel.T7.2 spec_l3Peel.B7 = true := by kernel_rfl
theorem spec_l3Peel.calls (k : Nat) (ao : Option Addr) (Y : Nat) (y : List (S36)) (Z : Option Addr) (aa : Nat) (I : List (S56)) (P1_ : Nat → Prop) (ap : Value) (l1 : List Bool) (J : Int) (r : List Bool) (w0 w : World) (hB : Below w0.heap.size w0 w) (aU : ∀ W_, Kept w W_ (fun k_ => P1_ k_) → Kd.C k36 W_ ao y.length y) (aV : y.length ≤ Y) (aW : ∀ W_, Kept w W_ (fun k_ => P1_ k_) → Kd.C k56 W_ Z I.length I) (aX : I.length ≤ aa) (bg : Kd.R Kd.bool 4 w w0.heap.size P1_ ap l1) (h : spec_l3Peel.f k y I l1 J = some r) :
  Calls Try.prog 73 #[.agg #[.slice ao y.length Y, .slice Z I.length aa], ap, .int .i64 J] w fun e w' => ∃ aY : Value, e = .returned (aY) ∧ Kd.R Kd.bool 4 w' w0.heap.size (fun k_ => (P1_ k_ ∨ w.heap.size ≤ k_)) aY r ∧ Below w0.heap.size w0 w' ∧ Kept w w' (fun k_ => P1_ k_) := by
 have hu34 := Try.underlying34
 have hu36 := Try.underlying36
 have au := am aU
 have aZ := am aV
 clear aU aV
 have a4 := am aW
 have a5 := am aX
 clear aW aX
 have ax := am (show Kd.R Kd.bool 4 w w0.heap.size (fun k_ => (P1_ k_ ∨ w.heap.size ≤ k_)) ap l1 from Kd.R_mono bg (fun k_ hk => (.inl hk)))
 have HK := am (Kept.refl w (fun k_ => P1_ k_))
 have bw := am hB.size
 have HB := am hB
 clear hB
 have H := h; unfold spec_l3Peel.f at H
 clear h
 have H' := am H
 clear H
 go_enter Try.func73, Try.ntmps73
 go_wp2_with (first | ((with_reducible refine gd 3 rfl ?_); refine bx 3 (cs := #[.slice ao y.length Y, .slice Z I.length aa]) (t := 34) ?_; intro af hg w4 hbox hb; replace ax := rb ax hb; have D := am hbox; have bz := Ge.mk ((by rw [hg]; exact (by first | exact HK.out.1 | exact (show Kept w _ (fun k_ => P1_ k_) from ts HK.out).1) : w.heap.size ≤ af)); replace HK := kl HK hb; have bA := gwb HB hg; replace HB := hs HB hb; clear hb hbox hg))
 go_loopg [7] k (fun kq v7 w' => ∃ (al : List Bool) (av : Bool), v7 = .bool av ∧ Aside0 (spec_l3Peel.l0 kq al J av y I = some r) ∧ Aside0 (kq ≤ k) ∧ Aside0 (Kd.R Kd.bool 4 w' w0.heap.size (fun k_ => (P1_ k_ ∨ w.heap.size ≤ k_)) ap al) ∧ Aside0 (w'.heap[af]? = some (.cells #[(.slice ao y.length Y), (.slice Z I.length aa)] 34 (0, 0))) ∧ Aside0 (Kept w w' (fun k_ => P1_ k_)) ∧ Aside0 (Below w0.heap.size w0 w'))
 case atStart => exact ⟨(l1), (true), eqs, H', ⟨Nat.le_refl _⟩, ⟨rl ax.out⟩, ⟨bf D.out⟩, ⟨ts HK.out⟩, ⟨bs HB.out⟩⟩
 case round =>
  clear H'
  try clear p2
  obtain ⟨al, av, rfl, HA, ad, z, D, HK, HB⟩ := hrel
  cases gk with
  | zero => exact absurd HA.out (by simp [spec_l3Peel.l0])
  | succ k1 =>
   have H := HA.out
   clear HA
   simp only [spec_l3Peel.l0] at H
   by_cases c5 : av = true
   ·subst c5
    replace H : (spec_l3Peel.l1 k1 al J false 0 y I) = some r := by rw [if_pos rfl] at H; exact H
    have H' := am H
    clear H
    go_wp2
    go_loopg [7, 8] k1 (fun kq v7 v8 w' => ∃ (G : List Bool) (X : Bool) (s : Int), v7 = .bool X ∧ v8 = .int .i64 s ∧ Aside0 (spec_l3Peel.l1 kq G J X s y I = some r) ∧ Aside0 (kq ≤ k1) ∧ Aside0 (Kd.R Kd.bool 4 w' w0.heap.size (fun k_ => (P1_ k_ ∨ w.heap.size ≤ k_)) ap G) ∧ Aside0 (w'.heap[af]? = some (.cells #[(.slice ao y.length Y), (.slice Z I.length aa)] 34 (0, 0))) ∧ Aside0 (Kept w w' (fun k_ => P1_ k_)) ∧ Aside0 (Below w0.heap.size w0 w'))
    case atStart => exact ⟨(al), (false), (0), eqs, eqs, H', ⟨Nat.le_refl _⟩, ⟨rl z.out⟩, ⟨bf D.out⟩, ⟨ts HK.out⟩, ⟨bs HB.out⟩⟩
    case round =>
     clear H'
     try clear p2
     try clear c5
     try clear p2
     obtain ⟨G, X, s, rfl, rfl, HA, ae, z, D, HK, HB⟩ := hrel
     cases gk with
     | zero => exact absurd HA.out (by simp [spec_l3Peel.l1])
     | succ k2 =>
      have H := HA.out
      clear HA
      simp only [spec_l3Peel.l1] at H
      by_cases c6 : s < (G.length : Int)
      ·rw [if_pos c6] at H
       have bh : decide (s < (G.length : Int)) = true := decide_eq_true c6
       clear c6
       by_cases c7 : 0 ≤ s
       ·rw [if_pos c7] at H
        have bB : decide (0 ≤ s) = true := decide_eq_true c7
        clear c7
        obtain ⟨bq8, hbq8⟩ : ∃ b_ : Bool, b_ = (rdOf false G s) := ⟨_, rfl⟩
        replace H : (if bq8 = true then (if s < (y.length : Int) then ((spec_l3Left.f k2 y I G ((rd_T36 y s).f0) ((rd_T36 y s).f1)).bind fun ac => (if ac < J then (spec_l3Peel.l1 k2 (G.set (s : Int).toNat false) J true (wrap64 (s + 1)) y I) else (spec_l3Peel.l1 k2 G J X (wrap64 (s + 1)) y I))) else (none)) else (spec_l3Peel.l1 k2 G J X (wrap64 (s + 1)) y I)) = some r := by rw [← hbq8] at H; exact H
        have Nbq8 := am hbq8
        clear hbq8
        by_cases c9 : bq8 = true
        ·subst c9
         replace H : (if s < (y.length : Int) then ((spec_l3Left.f k2 y I G ((rd_T36 y s).f0) ((rd_T36 y s).f1)).bind fun ac => (if ac < J then (spec_l3Peel.l1 k2 (G.set (s : Int).toNat false) J true (wrap64 (s + 1)) y I) else (spec_l3Peel.l1 k2 G J X (wrap64 (s + 1)) y I))) else (none)) = some r := by rw [if_pos rfl] at H; exact H
         by_cases aw : s < (y.length : Int)
         ·rw [if_pos aw] at H
          have bC : decide (s < (y.length : Int)) = true := decide_eq_true aw
          clear aw
          replace H := Option.bind_eq_some_iff.mp H
          obtain ⟨ac, a6, H⟩ := H
          try dsimp -simprocs only at H
          have a7 := am a6
          clear a6
          by_cases an : ac < J
          ·rw [if_pos an] at H
           have bi : decide (ac < J) = true := decide_eq_true an
           clear an
           obtain ⟨ay, az⟩ : ∃ y_ : List Bool, y_ = (G.set (s : Int).toNat false) := ⟨_, rfl⟩
           replace H : (spec_l3Peel.l1 k2 ay J true (wrap64 (s + 1)) y I) = some r := by first | (rw [az]; exact H) | exact H
           have bj := am az
           clear az
           have H' := am H
           clear H
           obtain ⟨bD, a8, bk⟩ := Kd.R_slice z.out
           subst bk
           try go_wp2
           replace z := rd_ z
           replace D := bd D
           replace HK := am (Kept.drew HK.out)
           replace HB := hd HB
           have M : 0 ≤ (s : Int) := oda
           have O : s < (G.length : Int) := oda
           obtain ⟨ag, aq, L⟩ := Kd.at_bool (Kd.R_reads' z.out).2.2 s M O
           (try rw [← Nbq8.out] at L)
           cases aq
           replace M := eq_true M
           replace O := eq_true O
           have ah : 0 ≤ (s : Int) := oda
           have ai : s < (y.length : Int) := oda
           obtain ⟨T, aA, aj, ak⟩ := at_T36 (Kd.C_kept_now au.out HK.out) s ah ai
           have bl := ak
           have bm := aj
           cases aA
           replace ah := eq_true ah
           replace ai := eq_true ai
           refine sta 16 (fun w' => w'.cell? ⟨af, 0, none⟩ = some (.slice (some T) y.length Y) ∧ w'.cell? ⟨af, 1, none⟩ = some (.slice Z I.length aa) ∧ w'.cell? (ag.add (s).toNat) = some (.bool true) ∧ w'.cell? (T.add ((s).toNat * 2)) = some (.int .i64 ((rd_T36 y s).f0)) ∧ w'.cell? ⟨(T.add ((s).toNat * 2)).block, (T.add ((s).toNat * 2)).off + 1, none⟩ = some (.int .i64 ((rd_T36 y s).f1))) [] ⟨cx D 0, cx D 1, L, aj, ak⟩ (fun hHeld => ?_); refine with_tabW spec_l3Peel.tab7 spec_l3Peel.bits7 (fun HT_ HW_ => ?_)
           generalize wr.drew = bE at z D HK HB L aj ak hHeld ⊢
           refine pu 0 16 ?_
           refine pu 1 17 ?_
           refine pu 2 18 ?_
           refine tk 3 19 ?_
           refine pu 4 20 ?_
           refine pu 6 22 ?_
           refine pu 7 23 ?_
           refine pu 9 25 ?_
           refine pu 13 29 ?_
           refine tk 5 21 ?_
           refine tk 8 24 ?_
           refine pu 10 26 ?_
           refine tk 11 27 ?_
           refine on 12 28 (fun K hK => ?_)
           refine gs Try.func112 #[.agg #[.slice (some T) y.length Y, .slice Z I.length aa], .slice (some ag) G.length a8, .agg #[.int .i64 ((rd_T36 y s).f0), .int .i64 ((rd_T36 y s).f1)]] ?_
           with_reducible refine (spec_l3Left.calls k2 _ _ y _ _ I _ _ G ((rd_T36 y s).f0) ((rd_T36 y s).f1) ac _ ?aC ?aD ?aE ?aG ?aH ?aI a7.out).mono ?_
           (case aC => exact Kd.C_kept_now au.out (ts HK.out))
           (case aD => exact aZ.out)
           (case aE => exact Kd.C_kept_now a4.out (ts HK.out))
           (case aG => exact a5.out)
           (case aH => exact cr z)
           (case aI => exact cc z)
           rintro e a9 ⟨rfl, hb⟩
           have aJ := cw hb hHeld.2.2.1
           have aK := cw hb hHeld.2.2.2.1
           have aM := cw hb hHeld.2.2.2.2
           refine ⟨_, rfl, ?_⟩
           replace z := rb z hb
           replace D := bb D hb rfl
           replace HK := kl HK hb
           replace HB := hs HB hb
           (try clear hb)
           (try clear hb2)
           (try clear hk)
           (try clear hi)
           refine hK.out _ _ ⟨cx D 0, cx D 1, aJ, aK, aM⟩ (fun hHeld => ?_)
           clear hK K
           refine nrm 28 ?_
           refine pu 14 30 ?_
           refine pu 15 31 ?_
           refine dn ?_
           have aN : 0 ≤ (s : Int) := oda
           have aQ : (s : Int) < ((G.length : Int) : Int) := oda
           obtain ⟨ar, bF, ba, bc, bn, bG, be⟩ := Kd.R_form z.out (by omega)
           (first | cases ba | (injection ba with ea_ en_ ec_; (first | subst ea_ | (injection ea_ with ea_; subst ea_)); subst ec_; clear en_))
           have bo := am bc
           have bH := am be
           clear bc bn be
           have HMgo13 := am (show (P1_ ar ∨ w.heap.size ≤ ar) from (z.out.1 _ rfl))
           (first | simp only [add_plain] at L | skip)
           obtain ⟨bI, bJ⟩ := Kd.R_celln false z.out (s : Int) aN aQ
           replace aN := eq_true aN
           replace aQ := eq_true aQ
           obtain ⟨hy17_, bK⟩ := Kd.R_celln false z.out (s : Int) (oda) (oda)
           have aR := Kd.R_putg z.out (s : Int) false
           try go_wp2_with (first | ((with_reducible refine gate_store (t := 4) (p := 34) rfl ?_); refine store_event (t := 4) (p := 34) (v := ?vo_w18) (w1 := (a9.setCell ⟨ar, (s : Int).toNat, none⟩ (.bool false))) ?hg ?ho ?hn ?hr ?_; (case ho => rfl); (case hg => rfl); (case hn => rfl); (case hr => first | (go_simp; done) | (go_simp; rfl)); intro aT hw; have hg : a9.grownBy aT (some ar) := (by rw [hw]; exact aR.2); have hp_ : Kd.R Kd.bool 4 aT w0.heap.size (fun k_ => (P1_ k_ ∨ w.heap.size ≤ k_)) (.slice (some ⟨ar, 0, none⟩) G.length a8) ay := (by rw [hw, bj.out]; exact aR.1); clear aR; replace D := gr D z hg; replace HB := am ((by rw [hw]; exact below_set (HB.out) bo.out : Below w0.heap.size w0 aT)); replace HK := am (Kept.of_grown (S := (fun k_ => P1_ k_)) hg (ts HK.out) (fun k_ e_ => (z.out.1 k_ e_))); replace z := am hp_; clear hg hw hp_))
           go_roundg k2
           case measure => have := ad.out; have := ae.out; omega
           case rel => exact ⟨(ay), (true), (wrap64 (s + 1)), eqs, eqs, H', ⟨by have := ad.out; have := ae.out; omega⟩, ⟨rl z.out⟩, ⟨bf D.out⟩, ⟨ts HK.out⟩, ⟨bs HB.out⟩⟩
          ·rw [if_neg an] at H
           have bi : decide (ac < J) = false := decide_eq_false an
           clear an
           have H' := am H
           clear H
           obtain ⟨bL, br, bt⟩ := Kd.R_slice z.out
           subst bt
           try go_wp2
           replace z := rd_ z
           replace D := bd D
           replace HK := am (Kept.drew HK.out)
           replace HB := hd HB
           have M : 0 ≤ (s : Int) := oda
           have O : s < (G.length : Int) := oda
           obtain ⟨ag, aq, L⟩ := Kd.at_bool (Kd.R_reads' z.out).2.2 s M O
           (try rw [← Nbq8.out] at L)
           cases aq
           replace M := eq_true M
           replace O := eq_true O
           have ah : 0 ≤ (s : Int) := oda
           have ai : s < (y.length : Int) := oda
           obtain ⟨T, aA, aj, ak⟩ := at_T36 (Kd.C_kept_now au.out HK.out) s ah ai
           have bl := ak
           have bm := aj
           cases aA
           replace ah := eq_true ah
           replace ai := eq_true ai
           refine sta 16 (fun w' => w'.cell? ⟨af, 0, none⟩ = some (.slice (some T) y.length Y) ∧ w'.cell? ⟨af, 1, none⟩ = some (.slice Z I.length aa) ∧ w'.cell? (ag.add (s).toNat) = some (.bool true) ∧ w'.cell? (T.add ((s).toNat * 2)) = some (.int .i64 ((rd_T36 y s).f0)) ∧ w'.cell? ⟨(T.add ((s).toNat * 2)).block, (T.add ((s).toNat * 2)).off + 1, none⟩ = some (.int .i64 ((rd_T36 y s).f1))) [] ⟨cx D 0, cx D 1, L, aj, ak⟩ (fun hHeld => ?_); refine with_tabW spec_l3Peel.tab7 spec_l3Peel.bits7 (fun HT_ HW_ => ?_)
           generalize wr.drew = bM at z D HK HB L aj ak hHeld ⊢
           refine pu 0 16 ?_
           refine pu 1 17 ?_
           refine pu 2 18 ?_
           refine tk 3 19 ?_
           refine pu 4 20 ?_
           refine pu 6 22 ?_
           refine pu 7 23 ?_
           refine pu 9 25 ?_
           refine pu 13 29 ?_
           refine tk 5 21 ?_
           refine tk 8 24 ?_
           refine pu 10 26 ?_
           refine tk 11 27 ?_
           refine on 12 28 (fun K hK => ?_)
           refine gs Try.func112 #[.agg #[.slice (some T) y.length Y, .slice Z I.length aa], .slice (some ag) G.length br, .agg #[.int .i64 ((rd_T36 y s).f0), .int .i64 ((rd_T36 y s).f1)]] ?_
           with_reducible refine (spec_l3Left.calls k2 _ _ y _ _ I _ _ G ((rd_T36 y s).f0) ((rd_T36 y s).f1) ac _ ?aC ?aD ?aE ?aG ?aH ?aI a7.out).mono ?_
           (case aC => exact Kd.C_kept_now au.out (ts HK.out))
           (case aD => exact aZ.out)
           (case aE => exact Kd.C_kept_now a4.out (ts HK.out))
           (case aG => exact a5.out)
           (case aH => exact cr z)
           (case aI => exact cc z)
           rintro e bN ⟨rfl, hb⟩
           have aJ := cw hb hHeld.2.2.1
           have aK := cw hb hHeld.2.2.2.1
           have aM := cw hb hHeld.2.2.2.2
           refine ⟨_, rfl, ?_⟩
           replace z := rb z hb
           replace D := bb D hb rfl
           replace HK := kl HK hb
           replace HB := hs HB hb
           (try clear hb)
           (try clear hb2)
           (try clear hk)
           (try clear hi)
           refine hK.out _ _ ⟨cx D 0, cx D 1, aJ, aK, aM⟩ (fun hHeld => ?_)
           clear hK K
           refine nrm 28 ?_
           refine pu 14 30 ?_
           refine pu 15 31 ?_
           refine dn ?_
           try go_wp2
           go_roundg k2
           case measure => have := ad.out; have := ae.out; omega
           case rel => exact ⟨(G), (X), (wrap64 (s + 1)), eqs, eqs, H', ⟨by have := ad.out; have := ae.out; omega⟩, ⟨rl z.out⟩, ⟨bf D.out⟩, ⟨ts HK.out⟩, ⟨bs HB.out⟩⟩
         ·rw [if_neg aw] at H
          exact absurd H (by simp)
        ·replace c9 := Bool.eq_false_iff.mpr c9
         subst c9
         have H1 : (spec_l3Peel.l1 k2 G J X (wrap64 (s + 1)) y I) = some r := by rw [if_neg (show ¬ (false = true) by decide)] at H; exact H
         clear H
         have H := H1
         clear H1
         have H' := am H
         clear H
         obtain ⟨bO, bP, bu⟩ := Kd.R_slice z.out
         subst bu
         try go_wp2
         replace z := rd_ z
         replace D := bd D
         replace HK := am (Kept.drew HK.out)
         replace HB := hd HB
         have M : 0 ≤ (s : Int) := oda
         have O : s < (G.length : Int) := oda
         obtain ⟨ag, aq, L⟩ := Kd.at_bool (Kd.R_reads' z.out).2.2 s M O
         (try rw [← Nbq8.out] at L)
         cases aq
         replace M := eq_true M
         replace O := eq_true O
         refine sta 16 (fun w' => w'.cell? (ag.add (s).toNat) = some (.bool false)) [] (L) (fun hHeld => ?_); refine with_tabW spec_l3Peel.tab7 spec_l3Peel.bits7 (fun HT_ HW_ => ?_)
         generalize wr.drew = bQ at z D HK HB L hHeld ⊢
         refine pu 0 16 ?_
         refine pu 1 17 ?_
         refine pu 2 18 ?_
         refine take_ (i := 3) (N := some 19) (v := ?_) (a' := ?_) #[true, true, true, true, false, false, false, false, false, false, false, false, false, false, false, false] rfl rfl (take_ofW HT_.out HW_.out (by kernel_rfl)) (fun _ _ _ h => h) (Or.inl ⟨by rfl, ?_⟩) hHeld ?_ ?_
         rotate_left
         ·intro w' s0
          go_simp
          with_reducible rfl
         rotate_left
         ·simp only [Act.put, List.setIfInBounds_toArray, List.set_cons_zero, List.set_cons_succ, i64_w, i32_w]
          rfl
         refine pu 4 20 ?_
         refine ud 5 21 ?_
         refine ud 6 22 ?_
         refine ud 7 23 ?_
         refine ud 8 24 ?_
         refine ud 9 25 ?_
         refine ud 10 26 ?_
         refine ud 11 27 ?_
         refine ud 12 28 ?_
         refine ud 13 29 ?_
         refine ud 14 30 ?_
         refine pu 15 31 ?_
         refine dn ?_
         try go_wp2
         go_roundg k2
         case measure => have := ad.out; have := ae.out; omega
         case rel => exact ⟨(G), (X), (wrap64 (s + 1)), eqs, eqs, H', ⟨by have := ad.out; have := ae.out; omega⟩, ⟨rl z.out⟩, ⟨bf D.out⟩, ⟨ts HK.out⟩, ⟨bs HB.out⟩⟩
       ·rw [if_neg c7] at H
        exact absurd H (by simp)
      ·rw [if_neg c6] at H
       have bh : decide (s < (G.length : Int)) = false := decide_eq_false c6
       clear c6
       have H' := am H
       clear H
       obtain ⟨bR, bS, bv⟩ := Kd.R_slice z.out
       subst bv
       go_wp2
       go_roundg k2
       case measure => have := ad.out; have := ae.out; omega
       case rel => exact ⟨(G), (X), eqs, H', ⟨by have := ad.out; have := ae.out; omega⟩, ⟨rl z.out⟩, ⟨bf D.out⟩, ⟨ts HK.out⟩, ⟨bs HB.out⟩⟩
   ·replace c5 := Bool.eq_false_iff.mpr c5
    subst c5
    have H1 : (some al) = some r := by rw [if_neg (show ¬ (false = true) by decide)] at H; exact H
    clear H
    have H := H1
    clear H1
    obtain rfl := Option.some.inj H
    go_wp2
    go_ret
    exact ⟨_, eqr, by (with_reducible repeat (first | apply Kd.R_alloc | apply Kd.R_drewN | apply Kd.R_drew)); exact z.out, bs HB.out, ts HK.out⟩

/-! ### spec_WalkCore: function 31 -/
mutual
def spec_WalkCore.l0 : Nat → List Int → List Bool → Int → List (S36) → List (S56) → Option (List Int)
 | 0, _, _, _, _, _ => none
 | k + 1, s, y, D, z, G => if D < (z.length : Int) then (if s.length < 17592186044416 then (if y.length < 140737488355328 then (spec_WalkCore.l0 k (s ++ [0]) (y ++ [true]) (wrap64 (D + 1)) z G) else (none)) else (none)) else (spec_WalkCore.l1 k s y 1 z G)
def spec_WalkCore.l1 : Nat → List Int → List Bool → Int → List (S36) → List (S56) → Option (List Int)
 | 0, _, _, _, _, _ => none
 | k + 1, z, G, s, y, D => if s < (y.length : Int) then ((spec_l3Peel.f k y D G s).bind fun I => (spec_WalkCore.l2 k z I s 0 y D)) else (some z)
def spec_WalkCore.l2 : Nat → List Int → List Bool → Int → Int → List (S36) → List (S56) → Option (List Int)
 | 0, _, _, _, _, _, _ => none
 | k + 1, z, y, D, s, G, I => if s < (y.length : Int) then (if 0 ≤ s then (if rdOf false y s = true then (if s < (z.length : Int) then (spec_WalkCore.l2 k (z.set (s : Int).toNat D) y D (wrap64 (s + 1)) G I) else (none)) else (spec_WalkCore.l2 k z y D (wrap64 (s + 1)) G I)) else (none)) else (spec_WalkCore.l1 k z y (wrap64 (D + 1)) G I)
end
def spec_WalkCore.f (k : Nat) (s : List (S36)) (y : List (S56)) : Option (List Int) := (some (([] : List Int) : List Int)).bind fun z => ((spec_GraphOk.f k s y).bind fun D => (if D = true then (spec_WalkCore.l0 k z (([] : List Bool)) 0 s y) else (some z)))
theorem spec_WalkCore.calls (k : Nat) (T : Option Addr) (X : Nat) (y : List (S36)) (Y : Option Addr) (Z : Nat) (D : List (S56)) (r : List Int) (w : World) (bj : Kd.C k36 w T y.length y) (bk : y.length ≤ X) (bl : Kd.C k56 w Y D.length D) (bm : D.length ≤ Z) (h : spec_WalkCore.f k y D = some r) :
  Calls Try.prog 31 #[.agg #[.slice T y.length X, .slice Y D.length Z]] w fun e w' => ∃ bn : Value, e = .returned (bn) ∧ Kd.R (Kd.int .i64) 3 w' w.heap.size (fun _ => True) bn r ∧ Below w.heap.size w w' := by
 have hu34 := Try.underlying34
 have aJ := am bj
 have aK := am bk
 clear bj bk
 have aM := am bl
 have aN := am bm
 clear bl bm
 have HB := am (Below.refl w.heap.size w)
 have H := h; unfold spec_WalkCore.f at H
 clear h
 obtain ⟨ak, aQ⟩ : ∃ y_ : List Int, y_ = (([] : List Int)) := ⟨_, rfl⟩
 replace H : ((spec_GraphOk.f k y D).bind fun aR => (if aR = true then (spec_WalkCore.l0 k ak (([] : List Bool)) 0 y D) else (some ak))) = some r := by first | (rw [aQ]; exact H) | exact H
 have aA := am aQ
 clear aQ
 replace H := Option.bind_eq_some_iff.mp H
 obtain ⟨aR, bo, H⟩ := H
 try dsimp -simprocs only at H
 have A2 := am bo
 clear bo
 by_cases c3 : aR = true
 ·subst c3
  replace H : (spec_WalkCore.l0 k ak (([] : List Bool)) 0 y D) = some r := by rw [if_pos rfl] at H; exact H
  obtain ⟨br, aT⟩ : ∃ y_ : List Bool, y_ = (([] : List Bool)) := ⟨_, rfl⟩
  replace H : (spec_WalkCore.l0 k ak br 0 y D) = some r := by first | (rw [aT]; exact H) | exact H
  have bt := am aT
  clear aT
  have H' := am H
  clear H
  go_enter Try.func31, Try.ntmps31
  go_wp2_with (first | ((with_reducible refine gd 1 rfl ?_); refine bx 1 (cs := #[.slice T y.length X, .slice Y D.length Z]) (t := 34) ?_; intro aC hg w4 hbox hb; have s := am hbox; have bK := gwb HB hg; replace HB := hs HB hb; clear hb hbox hg) | ((with_reducible refine gd 8 rfl ?_); refine Kd.R_lit (Kd.int .i64) _ 3 ?hg (N := 8) ?hd (xs := ([] : List Int)) (inner := []) (ok := fun _ => True) (okp := fun _ => True) ?hr ?hp (fun _ hk => hk) trivial (Below.refl _ _) (Nat.le_refl _) (by simp) ?_; (case hd => rfl); (case hg => rfl); (case hr => first | (go_simp; done) | (go_simp; rfl)); (case hp => exact (Reps.none _ _)); intro bL w5 ar hb hg_ hnew_; clear hg_ hnew_; (first | rw [← aA.out] at ar | (simp only [Int.reduceToNat] at ar; rw [← aA.out] at ar)); have aa := am (Kd.R_lower ar (below_size (bs HB.out))); replace s := bb s hb rfl; replace HB := hs HB hb; clear hb ar; obtain ⟨aU, aV⟩ := bc2 (w := w5) s.out; have aW := blk_frozen s.out) | ((with_reducible refine gc 33 rfl ?_); refine gl 10 Try.func33 #[.agg #[.slice T y.length X, .slice Y D.length Z]] ?_; (with_reducible refine (spec_GraphOk.calls k _ _ y _ _ D true _ ?au ?av ?aw ?ax A2.out).mono ?_); (case au => exact Kd.C_below aJ.out (bs HB.out)); (case av => exact aK.out); (case aw => exact Kd.C_below aM.out (bs HB.out)); (case ax => exact aN.out); rintro e w8 ⟨rfl, hb⟩; refine ⟨_, rfl, ?_⟩; replace aa := rb aa hb; replace s := bb s hb rfl; replace HB := hs HB hb; (try clear hb)) | ((with_reducible refine gd 13 rfl ?_); refine Kd.R_lit Kd.bool _ 4 ?hg (N := 13) ?hd (xs := ([] : List Bool)) (inner := []) (ok := fun _ => True) (okp := fun _ => True) ?hr ?hp (fun _ hk => hk) trivial (Below.refl _ _) (Nat.le_refl _) (by simp) ?_; (case hd => rfl); (case hg => rfl); (case hr => first | (go_simp; done) | (go_simp; rfl)); (case hp => exact (Reps.none _ _)); intro ce w9 ay hb hg_ hnew_; clear hg_ hnew_; (first | rw [← bt.out] at ay | (simp only [Int.reduceToNat] at ay; rw [← bt.out] at ay)); replace aa := rb aa hb; have bM := am (Kd.R_lower ay (below_size (bs HB.out))); replace s := bb s hb rfl; replace HB := hs HB hb; clear hb ay))
  go_loopg [3, 4, 5] k (fun kq v3 v4 v5 w' => ∃ (af : List Int) (ab : List Bool) (ac : Int), v5 = .int .i64 ac ∧ Aside0 (spec_WalkCore.l0 kq af ab ac y D = some r) ∧ Aside0 (kq ≤ k) ∧ Aside0 (Kd.R (Kd.int .i64) 3 w' w.heap.size (fun _ => True) v3 af) ∧ Aside0 (Kd.R Kd.bool 4 w' w.heap.size (fun _ => True) v4 ab) ∧ Aside0 (w'.heap[aC]? = some (.cells #[(.slice T y.length X), (.slice Y D.length Z)] 34 (0, 0))) ∧ Aside0 (Below w.heap.size w w'))
  case atStart => exact ⟨(ak), (br), (0), eqs, H', ⟨Nat.le_refl _⟩, ⟨rl aa.out⟩, ⟨rl bM.out⟩, ⟨bf s.out⟩, ⟨bs HB.out⟩⟩
  case round =>
   clear H'
   try clear p2
   try clear c3
   try clear aU aV
   try clear aW
   obtain ⟨af, ab, ac, rfl, HA, ad, I, G, s, HB⟩ := hrel
   cases gk with
   | zero => exact absurd HA.out (by simp [spec_WalkCore.l0])
   | succ k1 =>
    have H := HA.out
    clear HA
    simp only [spec_WalkCore.l0] at H
    by_cases ae : ac < (y.length : Int)
    ·rw [if_pos ae] at H
     have aX : decide (ac < (y.length : Int)) = true := decide_eq_true ae
     clear ae
     by_cases al : af.length < 17592186044416
     ·rw [if_pos al] at H
      have bN := am al
      clear al
      obtain ⟨aY, aZ⟩ : ∃ y_ : List Int, y_ = (af ++ [0]) := ⟨_, rfl⟩
      replace H : (if ab.length < 140737488355328 then (spec_WalkCore.l0 k1 aY (ab ++ [true]) (wrap64 (ac + 1)) y D) else (none)) = some r := by first | (rw [aZ]; exact H) | exact H
      have bO := am aZ
      clear aZ
      by_cases an : ab.length < 140737488355328
      ·rw [if_pos an] at H
       have bP := am an
       clear an
       obtain ⟨bu, a4⟩ : ∃ y_ : List Bool, y_ = (ab ++ [true]) := ⟨_, rfl⟩
       replace H : (spec_WalkCore.l0 k1 aY bu (wrap64 (ac + 1)) y D) = some r := by first | (rw [a4]; exact H) | exact H
       have bQ := am a4
       clear a4
       have H' := am H
       clear H
       obtain ⟨bv, bw⟩ := bc2 (w := wr) s.out
       have bz := blk_frozen s.out
       go_wp2_with (first | ((with_reducible refine gate_builtin (b := .append) (xs := #[.tmp 21, .tmp 22]) rfl ?_); at_builtin; refine Kd.R_append (Kd.int .i64) (w0 := w) w.heap.size rfl (.tmp 21) (.tmp 22) 43 3 (.int .i64 0) 8 rfl Try.underlying43 info3 rfl (by decide) (by omega) u3 af 0 [.int .i64 0] (fun _ => True) (fun _ => False) rfl rfl ?aP (fun _ hk => hk.elim) ?aF ?aO ?aB ?aS ?aL ?_; (case aP => exact rfl); (case aB => exact (bs HB.out)); (case aF => exact (fun _ _ => trivial)); (case aO => exact (rl I.out)); (case aS => exact (below_size (bs HB.out))); (case aL => have := bN.out; omega); intro cf cg ho hb hg hat; rw [← bO.out] at ho; replace G := am (Kd.R_over' (rl G.out) (Kd.R_typed (rl I.out)) (by decide) hg); replace s := gr s I hg; replace HB := am hb; have a5 := am ho; clear I; clear ho hb hg hat) | ((with_reducible refine gate_builtin (b := .append) (xs := #[.tmp 24, .tmp 25]) rfl ?_); at_builtin; refine Kd.R_append Kd.bool (w0 := w) w.heap.size rfl (.tmp 24) (.tmp 25) 91 4 (.bool false) 1 rfl Try.underlying91 info4 rfl (by decide) (by omega) u4 ab true [.bool true] (fun _ => True) (fun _ => False) rfl rfl ?aP (fun _ hk => hk.elim) ?aF ?aO ?aB ?aS ?aL ?_; (case aP => exact rfl); (case aB => exact (bs HB.out)); (case aF => exact (fun _ _ => trivial)); (case aO => exact (rl G.out)); (case aS => exact (below_size (bs HB.out))); (case aL => have := bP.out; omega); intro ch ci ho hb hg hat; rw [← bQ.out] at ho; replace s := gr s G hg; replace a5 := am (Kd.R_over' (rl a5.out) (Kd.R_typed (rl G.out)) (by decide) hg); replace HB := am hb; have bR := am ho; clear G; clear ho hb hg hat))
       go_roundg k1
       case measure => have := ad.out; omega
       case rel => exact ⟨(aY), (bu), (wrap64 (ac + 1)), eqs, H', ⟨by have := ad.out; omega⟩, ⟨rl a5.out⟩, ⟨rl bR.out⟩, ⟨bf s.out⟩, ⟨bs HB.out⟩⟩
      ·rw [if_neg an] at H
       exact absurd H (by simp)
     ·rw [if_neg al] at H
      exact absurd H (by simp)
    ·rw [if_neg ae] at H
     have aX : decide (ac < (y.length : Int)) = false := decide_eq_false ae
     clear ae
     have H' := am H
     clear H
     obtain ⟨bA, bB⟩ := bc2 (w := wr) s.out
     have bC := blk_frozen s.out
     go_wp2
     go_loopg [4, 6] k1 (fun kq v4 v6 w' => ∃ (aD : List Int) (ag : List Bool) (J : Int), v6 = .int .i64 J ∧ Aside0 (spec_WalkCore.l1 kq aD ag J y D = some r) ∧ Aside0 (kq ≤ k1) ∧ Aside0 (Kd.R (Kd.int .i64) 3 w' w.heap.size (fun _ => True) u3 aD) ∧ Aside0 (Kd.R Kd.bool 4 w' w.heap.size (fun _ => True) v4 ag) ∧ Aside0 (w'.heap[aC]? = some (.cells #[(.slice T y.length X), (.slice Y D.length Z)] 34 (0, 0))) ∧ Aside0 (Below w.heap.size w w'))
     case atStart => exact ⟨(af), (ab), (1), eqs, H', ⟨Nat.le_refl _⟩, ⟨rl I.out⟩, ⟨rl G.out⟩, ⟨bf s.out⟩, ⟨bs HB.out⟩⟩
     case round =>
      clear H'
      try clear c1
      try clear p2
      try clear c3
      try clear p6
      try clear ae
      try clear aX
      try clear al
      try clear an
      try clear bv bw
      try clear bA bB
      try clear aU aV
      try clear bz
      try clear bC
      try clear aW
      try clear p2
      obtain ⟨aD, ag, J, rfl, HA, ao, I, G, s, HB⟩ := hrel
      cases gk with
      | zero => exact absurd HA.out (by simp [spec_WalkCore.l1])
      | succ k2 =>
       have H := HA.out
       clear HA
       simp only [spec_WalkCore.l1] at H
       by_cases ah : J < (y.length : Int)
       ·rw [if_pos ah] at H
        have bD : decide (J < (y.length : Int)) = true := decide_eq_true ah
        clear ah
        replace H := Option.bind_eq_some_iff.mp H
        obtain ⟨M, bE, H⟩ := H
        try dsimp -simprocs only at H
        have bS := am bE
        clear bE
        have H' := am H
        clear H
        obtain ⟨bT, bU⟩ := bc2 (w := wr) s.out
        have bV := blk_frozen s.out
        obtain ⟨a6, a7, bW⟩ := Kd.R_slice G.out
        subst bW
        go_wp2_with (first | ((with_reducible refine gc 73 rfl ?_); refine gl 37 Try.func73 #[.agg #[.slice T y.length X, .slice Y D.length Z], .slice a6 ag.length a7, .int .i64 J] ?_; (with_reducible refine (spec_l3Peel.calls k2 _ _ y _ _ D (fun k_ => some k_ = (.slice a6 ag.length a7 : Value).ownBlock) (.slice a6 ag.length a7) ag J M w _ ?au ?av ?aw ?ax ?bX ?bY bS.out).mono ?_); (case au => exact bs HB.out); (case av => exact Kd.C_kept_came k36_heap aJ.out (bs HB.out) (fun k_ hs_ => (fun e_ => Kd.R_base G.out k_ e_.symm) hs_)); (case aw => exact aK.out); (case ax => exact Kd.C_kept_came k56_heap aM.out (bs HB.out) (fun k_ hs_ => (fun e_ => Kd.R_base G.out k_ e_.symm) hs_)); (case bX => exact aN.out); (case bY => exact Kd.R_tight rfl G.out); rintro e cj ⟨bZ, rfl, bF, hb, hkp⟩; refine ⟨_, rfl, ?_⟩; replace I := am (Kd.R_mono (ok' := fun k_ => True) (Kd.R_keptB ((Kd.R_apart' I.out (Kd.R_typed G.out) (by decide))) hkp (fun k_ hk_ hs_ => (hk_.2) hs_)) (fun k_ hk_ => trivial)); replace s := am (blk_kept (bf s.out) hkp (fun hs_ => (fun e_ => (Kd.R_ne G.out s.out (by decide)) e_) hs_)); have b0 := am (Kd.R_mono (ok' := fun k_ => True) bF (fun k_ hk_ => trivial)); replace HB := am hb; clear G; (try clear bF hb hkp)))
        go_loopg [7] k2 (fun kq v7 w' => ∃ (L : List Int) (z : Int), v7 = .int .i64 z ∧ Aside0 (spec_WalkCore.l2 kq L M J z y D = some r) ∧ Aside0 (kq ≤ k2) ∧ Aside0 (Kd.R (Kd.int .i64) 3 w' w.heap.size (fun _ => True) u3 L) ∧ Aside0 (Kd.R Kd.bool 4 w' w.heap.size (fun _ => True) bZ M) ∧ Aside0 (w'.heap[aC]? = some (.cells #[(.slice T y.length X), (.slice Y D.length Z)] 34 (0, 0))) ∧ Aside0 (Below w.heap.size w w'))
        case atStart => exact ⟨(aD), (0), eqs, H', ⟨Nat.le_refl _⟩, ⟨rl I.out⟩, ⟨rl b0.out⟩, ⟨bf s.out⟩, ⟨bs HB.out⟩⟩
        case round =>
         clear H'
         try clear c1
         try clear p2
         try clear c3
         try clear p6
         try clear c7
         try clear ae
         try clear aX
         try clear al
         try clear an
         try clear ah
         try clear bD
         try clear bv bw
         try clear bA bB
         try clear bT bU
         try clear aU aV
         try clear bz
         try clear bC
         try clear bV
         try clear aW
         try clear p2
         try clear p6
         obtain ⟨L, z, rfl, HA, ap, I, G, s, HB⟩ := hrel
         cases gk with
         | zero => exact absurd HA.out (by simp [spec_WalkCore.l2])
         | succ k3 =>
          have H := HA.out
          clear HA
          simp only [spec_WalkCore.l2] at H
          by_cases aq : z < (M.length : Int)
          ·rw [if_pos aq] at H
           have b1 : decide (z < (M.length : Int)) = true := decide_eq_true aq
           clear aq
           by_cases aE : 0 ≤ z
           ·rw [if_pos aE] at H
            have ck : decide (0 ≤ z) = true := decide_eq_true aE
            clear aE
            obtain ⟨bq25, hbq25⟩ : ∃ b_ : Bool, b_ = (rdOf false M z) := ⟨_, rfl⟩
            replace H : (if bq25 = true then (if z < (L.length : Int) then (spec_WalkCore.l2 k3 (L.set (z : Int).toNat J) M J (wrap64 (z + 1)) y D) else (none)) else (spec_WalkCore.l2 k3 L M J (wrap64 (z + 1)) y D)) = some r := by rw [← hbq25] at H; exact H
            have Nbq25 := am hbq25
            clear hbq25
            by_cases aG : bq25 = true
            ·subst aG
             replace H : (if z < (L.length : Int) then (spec_WalkCore.l2 k3 (L.set (z : Int).toNat J) M J (wrap64 (z + 1)) y D) else (none)) = some r := by rw [if_pos rfl] at H; exact H
             by_cases aH : z < (L.length : Int)
             ·rw [if_pos aH] at H
              have cl : decide (z < (L.length : Int)) = true := decide_eq_true aH
              clear aH
              obtain ⟨a8, a9⟩ : ∃ y_ : List Int, y_ = (L.set (z : Int).toNat J) := ⟨_, rfl⟩
              replace H : (spec_WalkCore.l2 k3 a8 M J (wrap64 (z + 1)) y D) = some r := by first | (rw [a9]; exact H) | exact H
              have b2 := am a9
              clear a9
              have H' := am H
              clear H
              obtain ⟨cm, cn, b3⟩ := Kd.R_slice G.out
              subst b3
              have ai : 0 ≤ (z : Int) := oda
              have aj : z < (M.length : Int) := oda
              obtain ⟨b4, ba, bc⟩ := Kd.at_bool (Kd.R_reads' G.out).2.2 z ai aj
              (try rw [← Nbq25.out] at bc)
              cases ba
              replace ai := eq_true ai
              replace aj := eq_true aj
              have be : 0 ≤ (z : Int) := oda
              have bg : (z : Int) < ((L.length : Int) : Int) := oda
              obtain ⟨aI, bG, bH, bI, b5, co, bJ⟩ := Kd.R_form I.out (by omega)
              (first | cases bH | (injection bH with ea_ en_ ec_; (first | subst ea_ | (injection ea_ with ea_; subst ea_)); subst ec_; clear en_))
              have b6 := am bI
              have cp := am bJ
              clear bI b5 bJ
              obtain ⟨ct, cu⟩ := Kd.R_celln 0 I.out (z : Int) be bg
              replace be := eq_true be
              replace bg := eq_true bg
              have bh := Kd.R_putg I.out (z : Int) J
              go_wp2_with (first | ((with_reducible refine gate_store (t := 3) (p := 51) rfl ?_); refine store_event (t := 3) (p := 51) (v := ?vo_w31) (w1 := (wr.setCell ⟨aI, (z : Int).toNat, none⟩ (.int .i64 J))) ?hg ?ho ?hn ?hr ?_; (case ho => rfl); (case hg => rfl); (case hn => rfl); (case hr => first | (go_simp; done) | (go_simp; rfl)); intro bi hw; have hg : wr.grownBy bi (some aI) := (by rw [hw]; exact bh.2); have hp_ : Kd.R (Kd.int .i64) 3 bi w.heap.size (fun _ => True) (.slice (some ⟨aI, 0, none⟩) L.length bG) a8 := (by rw [hw, b2.out]; exact bh.1); clear bh; replace G := am (Kd.R_over' (v := (.slice (some ⟨aI, 0, none⟩) L.length bG)) (rl G.out) (Kd.R_typed I.out) (by decide) hg); replace s := gr s I hg; replace I := am hp_; replace HB := am ((by rw [hw]; exact below_set (HB.out) b6.out : Below w.heap.size w bi)); clear hg hw hp_))
              go_roundg k3
              case measure => have := ad.out; have := ao.out; have := ap.out; omega
              case rel => exact ⟨(a8), (wrap64 (z + 1)), eqs, H', ⟨by have := ad.out; have := ao.out; have := ap.out; omega⟩, ⟨rl I.out⟩, ⟨rl G.out⟩, ⟨bf s.out⟩, ⟨bs HB.out⟩⟩
             ·rw [if_neg aH] at H
              exact absurd H (by simp)
            ·replace aG := Bool.eq_false_iff.mpr aG
             subst aG
             have H1 : (spec_WalkCore.l2 k3 L M J (wrap64 (z + 1)) y D) = some r := by rw [if_neg (show ¬ (false = true) by decide)] at H; exact H
             clear H
             have H := H1
             clear H1
             have H' := am H
             clear H
             obtain ⟨cv, cy, b7⟩ := Kd.R_slice G.out
             subst b7
             have ai : 0 ≤ (z : Int) := oda
             have aj : z < (M.length : Int) := oda
             obtain ⟨b4, ba, bc⟩ := Kd.at_bool (Kd.R_reads' G.out).2.2 z ai aj
             (try rw [← Nbq25.out] at bc)
             cases ba
             replace ai := eq_true ai
             replace aj := eq_true aj
             go_wp2
             go_roundg k3
             case measure => have := ad.out; have := ao.out; have := ap.out; omega
             case rel => exact ⟨(L), (wrap64 (z + 1)), eqs, H', ⟨by have := ad.out; have := ao.out; have := ap.out; omega⟩, ⟨rl I.out⟩, ⟨rl G.out⟩, ⟨bf s.out⟩, ⟨bs HB.out⟩⟩
           ·rw [if_neg aE] at H
            exact absurd H (by simp)
          ·rw [if_neg aq] at H
           have b1 : decide (z < (M.length : Int)) = false := decide_eq_false aq
           clear aq
           have H' := am H
           clear H
           obtain ⟨cz, cA, b8⟩ := Kd.R_slice G.out
           subst b8
           go_wp2
           go_roundg k3
           case measure => have := ad.out; have := ao.out; have := ap.out; omega
           case rel => exact ⟨(L), (M), (wrap64 (J + 1)), eqs, H', ⟨by have := ad.out; have := ao.out; have := ap.out; omega⟩, ⟨rl I.out⟩, ⟨rl G.out⟩, ⟨bf s.out⟩, ⟨bs HB.out⟩⟩
       ·rw [if_neg ah] at H
        have bD : decide (J < (y.length : Int)) = false := decide_eq_false ah
        clear ah
        obtain rfl := Option.some.inj H
        obtain ⟨cB, cC⟩ := bc2 (w := wr) s.out
        have cD := blk_frozen s.out
        go_wp2
        go_ret
        exact ⟨_, eqr, by (with_reducible repeat (first | apply Kd.R_alloc | apply Kd.R_drewN | apply Kd.R_drew)); exact I.out, bs HB.out⟩
 ·replace c3 := Bool.eq_false_iff.mpr c3
  subst c3
  have H1 : (some ak) = some r := by rw [if_neg (show ¬ (false = true) by decide)] at H; exact H
  clear H
  have H := H1
  clear H1
  obtain rfl := Option.some.inj H
  go_enter Try.func31, Try.ntmps31
  go_wp2_with (first | ((with_reducible refine gd 1 rfl ?_); refine bx 1 (cs := #[.slice T y.length X, .slice Y D.length Z]) (t := 34) ?_; intro aC hg cE hbox hb; have s := am hbox; have bK := gwb HB hg; replace HB := hs HB hb; clear hb hbox hg) | ((with_reducible refine gd 8 rfl ?_); refine Kd.R_lit (Kd.int .i64) _ 3 ?hg (N := 8) ?hd (xs := ([] : List Int)) (inner := []) (ok := fun _ => True) (okp := fun _ => True) ?hr ?hp (fun _ hk => hk) trivial (Below.refl _ _) (Nat.le_refl _) (by simp) ?_; (case hd => rfl); (case hg => rfl); (case hr => first | (go_simp; done) | (go_simp; rfl)); (case hp => exact (Reps.none _ _)); intro bL b9 az hb hg_ hnew_; clear hg_ hnew_; (first | rw [← aA.out] at az | (simp only [Int.reduceToNat] at az; rw [← aA.out] at az)); have aa := am (Kd.R_lower az (below_size (bs HB.out))); replace s := bb s hb rfl; replace HB := hs HB hb; clear hb az; obtain ⟨cF, cG⟩ := bc2 (w := b9) s.out; have cH := blk_frozen s.out) | ((with_reducible refine gc 33 rfl ?_); refine gl 10 Try.func33 #[.agg #[.slice T y.length X, .slice Y D.length Z]] ?_; (with_reducible refine (spec_GraphOk.calls k _ _ y _ _ D false _ ?au ?av ?aw ?ax A2.out).mono ?_); (case au => exact Kd.C_below aJ.out (bs HB.out)); (case av => exact aK.out); (case aw => exact Kd.C_below aM.out (bs HB.out)); (case ax => exact aN.out); rintro e cI ⟨rfl, hb⟩; refine ⟨_, rfl, ?_⟩; replace aa := rb aa hb; replace s := bb s hb rfl; replace HB := hs HB hb; (try clear hb)))
  go_ret
  exact ⟨_, eqr, by (with_reducible repeat (first | apply Kd.R_alloc | apply Kd.R_drewN | apply Kd.R_drew)); exact aa.out, bs HB.out⟩

/-! ### impl_LabelOk: function 46 -/
def impl_LabelOk.f (s : Int) : Option (Bool) := if 0 ≤ s then (some (decide (s ≤ 7))) else (some false)
theorem impl_LabelOk.calls (s : Int) (r : Bool) (w : World) (h : impl_LabelOk.f s = some r) :
  Calls Try.prog 46 #[.int .i64 s] w fun e w' => e = .returned (.bool r) ∧ Drawn0 w w' := by
 have H := h; unfold impl_LabelOk.f at H
 clear h
 by_cases c2 : 0 ≤ s
 ·rw [if_pos c2] at H
  have y : decide (0 ≤ s) = true := decide_eq_true c2
  clear c2
  obtain rfl := Option.some.inj H
  go_enter Try.func46, Try.ntmps46
  go_wp2
  go_ret
  exact ⟨eqs, drs⟩
 ·rw [if_neg c2] at H
  have y : decide (0 ≤ s) = false := decide_eq_false c2
  clear c2
  obtain rfl := Option.some.inj H
  go_enter Try.func46, Try.ntmps46
  go_wp2
  go_ret
  exact ⟨eqs, drs⟩

/-! ### impl_letters_under: function 95 -/
def impl_letters_under.f (s : Int) (y : Int) : Option (Bool) := some ((Go.bits .andNot .u8 s y) == 0)
theorem impl_letters_under.calls (s : Int) (y : Int) (r : Bool) (w : World) (h : impl_letters_under.f s y = some r) :
  Calls Try.prog 95 #[.int .u8 s, .int .u8 y] w fun e w' => e = .returned (.bool r) ∧ Drawn0 w w' := by
 have H := h; unfold impl_letters_under.f at H
 clear h
 obtain rfl := Option.some.inj H
 go_enter Try.func95, Try.ntmps95
 go_wp2
 go_ret
 exact ⟨eqs, drs⟩

/-! ### impl_LabelUnder: function 47 -/
def impl_LabelUnder.f (s : Int) (y : Int) : Option (Bool) := (impl_LabelOk.f s).bind fun z => (if z = true then ((impl_LabelOk.f y).bind fun D => (if D = true then ((impl_letters_under.f ((s) % 256) ((y) % 256)).bind fun G => (some G)) else (some false))) else (some false))
theorem impl_LabelUnder.calls (s : Int) (y : Int) (r : Bool) (w : World) (h : impl_LabelUnder.f s y = some r) :
  Calls Try.prog 47 #[.int .i64 s, .int .i64 y] w fun e w' => e = .returned (.bool r) ∧ Drawn0 w w' := by
 have H := h; unfold impl_LabelUnder.f at H
 clear h
 replace H := Option.bind_eq_some_iff.mp H
 obtain ⟨Y, M, H⟩ := H
 try dsimp -simprocs only at H
 have J := am M
 clear M
 by_cases G : Y = true
 ·subst G
  replace H : ((impl_LabelOk.f y).bind fun L => (if L = true then ((impl_letters_under.f ((s) % 256) ((y) % 256)).bind fun z => (some z)) else (some false))) = some r := by rw [if_pos rfl] at H; exact H
  replace H := Option.bind_eq_some_iff.mp H
  obtain ⟨L, O, H⟩ := H
  try dsimp -simprocs only at H
  have T := am O
  clear O
  by_cases I : L = true
  ·subst I
   replace H : ((impl_letters_under.f ((s) % 256) ((y) % 256)).bind fun z => (some z)) = some r := by rw [if_pos rfl] at H; exact H
   replace H := Option.bind_eq_some_iff.mp H
   obtain ⟨z, X, H⟩ := H
   try dsimp -simprocs only at H
   have Z := am X
   clear X
   obtain rfl := Option.some.inj H
   go_enter Try.func47, Try.ntmps47
   go_wp2_with (first | ((with_reducible refine gc 46 rfl ?_); refine gl 6 Try.func46 #[.int .i64 s] ?_; (with_reducible refine (impl_LabelOk.calls s true _ J.out).mono ?_); rintro e w' ⟨rfl, ⟨nd, rfl⟩⟩; refine ⟨_, rfl, ?_⟩) | (go_at_call 46; (with_reducible refine (impl_LabelOk.calls y true _ T.out).mono ?_); rintro e w' ⟨rfl, ⟨nd, rfl⟩⟩) | (go_at_call 95; (with_reducible refine (impl_letters_under.calls ((s) % 256) ((y) % 256) z _ Z.out).mono ?_); rintro e w' ⟨rfl, ⟨nd, rfl⟩⟩))
   go_ret
   exact ⟨eqs, drs⟩
  ·replace I := Bool.eq_false_iff.mpr I
   subst I
   have H1 : (some false) = some r := by rw [if_neg (show ¬ (false = true) by decide)] at H; exact H
   clear H
   have H := H1
   clear H1
   obtain rfl := Option.some.inj H
   go_enter Try.func47, Try.ntmps47
   go_wp2_with (first | ((with_reducible refine gc 46 rfl ?_); refine gl 6 Try.func46 #[.int .i64 s] ?_; (with_reducible refine (impl_LabelOk.calls s true _ J.out).mono ?_); rintro e w' ⟨rfl, ⟨nd, rfl⟩⟩; refine ⟨_, rfl, ?_⟩) | (go_at_call 46; (with_reducible refine (impl_LabelOk.calls y false _ T.out).mono ?_); rintro e w' ⟨rfl, ⟨nd, rfl⟩⟩))
   go_ret
   exact ⟨eqs, drs⟩
 ·replace G := Bool.eq_false_iff.mpr G
  subst G
  have H1 : (some false) = some r := by rw [if_neg (show ¬ (false = true) by decide)] at H; exact H
  clear H
  have H := H1
  clear H1
  obtain rfl := Option.some.inj H
  go_enter Try.func47, Try.ntmps47
  go_wp2_with (first | ((with_reducible refine gc 46 rfl ?_); refine gl 6 Try.func46 #[.int .i64 s] ?_; (with_reducible refine (impl_LabelOk.calls s false _ J.out).mono ?_); rintro e w' ⟨rfl, ⟨nd, rfl⟩⟩; refine ⟨_, rfl, ?_⟩))
  go_ret
  exact ⟨eqs, drs⟩

/-! ### impl_NodeOk: function 92 -/
def impl_NodeOk.f (y : Int) (s : Int) : Option (Bool) := (impl_LabelOk.f y).bind fun z => (if z = true then (if 0 ≤ s then (some (decide (s ≤ 40))) else (some false)) else (some false))
theorem impl_NodeOk.calls (s : Int) (y : Int) (r : Bool) (w : World) (h : impl_NodeOk.f s y = some r) :
  Calls Try.prog 92 #[.agg #[.int .i64 s, .int .i64 y]] w fun e w' => e = .returned (.bool r) ∧ Below w.heap.size w w' := by
 have hu36 := Try.underlying36
 have HB := am (Below.refl w.heap.size w)
 have H := h; unfold impl_NodeOk.f at H
 clear h
 replace H := Option.bind_eq_some_iff.mp H
 obtain ⟨T, L, H⟩ := H
 try dsimp -simprocs only at H
 have J := am L
 clear L
 by_cases I : T = true
 ·subst I
  replace H : (if 0 ≤ y then (some (decide (y ≤ 40))) else (some false)) = some r := by rw [if_pos rfl] at H; exact H
  by_cases G : 0 ≤ y
  ·rw [if_pos G] at H
   have X : decide (0 ≤ y) = true := decide_eq_true G
   clear G
   obtain rfl := Option.some.inj H
   go_enter Try.func92, Try.ntmps92
   go_wp2_with (first | ((with_reducible refine gd 1 rfl ?_); refine bx 1 (cs := #[.int .i64 s, .int .i64 y]) (t := 36) ?_; intro M hg Y hbox hb; have D := am hbox; have O := gwb HB hg; replace HB := hs HB hb; clear hb hbox hg; obtain ⟨aa, ab⟩ := bc2 (w := Y) D.out; have ac := blk_frozen D.out) | ((with_reducible refine gc 46 rfl ?_); refine gl 5 Try.func46 #[.int .i64 s] ?_; (with_reducible refine (impl_LabelOk.calls s true _ J.out).mono ?_); rintro e w' ⟨rfl, ⟨nd, rfl⟩⟩; refine ⟨_, rfl, ?_⟩))
   go_ret
   exact ⟨eqr, bs HB.out⟩
  ·rw [if_neg G] at H
   have X : decide (0 ≤ y) = false := decide_eq_false G
   clear G
   obtain rfl := Option.some.inj H
   go_enter Try.func92, Try.ntmps92
   go_wp2_with (first | ((with_reducible refine gd 1 rfl ?_); refine bx 1 (cs := #[.int .i64 s, .int .i64 y]) (t := 36) ?_; intro M hg Z hbox hb; have D := am hbox; have O := gwb HB hg; replace HB := hs HB hb; clear hb hbox hg; obtain ⟨ad, ae⟩ := bc2 (w := Z) D.out; have af := blk_frozen D.out) | ((with_reducible refine gc 46 rfl ?_); refine gl 5 Try.func46 #[.int .i64 s] ?_; (with_reducible refine (impl_LabelOk.calls s true _ J.out).mono ?_); rintro e w' ⟨rfl, ⟨nd, rfl⟩⟩; refine ⟨_, rfl, ?_⟩))
   go_ret
   exact ⟨eqr, bs HB.out⟩
 ·replace I := Bool.eq_false_iff.mpr I
  subst I
  have H1 : (some false) = some r := by rw [if_neg (show ¬ (false = true) by decide)] at H; exact H
  clear H
  have H := H1
  clear H1
  obtain rfl := Option.some.inj H
  go_enter Try.func92, Try.ntmps92
  go_wp2_with (first | ((with_reducible refine gd 1 rfl ?_); refine bx 1 (cs := #[.int .i64 s, .int .i64 y]) (t := 36) ?_; intro M hg w9 hbox hb; have D := am hbox; have O := gwb HB hg; replace HB := hs HB hb; clear hb hbox hg; obtain ⟨ag, ah⟩ := bc2 (w := w9) D.out; have ai := blk_frozen D.out) | ((with_reducible refine gc 46 rfl ?_); refine gl 5 Try.func46 #[.int .i64 s] ?_; (with_reducible refine (impl_LabelOk.calls s false _ J.out).mono ?_); rintro e w' ⟨rfl, ⟨nd, rfl⟩⟩; refine ⟨_, rfl, ?_⟩))
  go_ret
  exact ⟨eqr, bs HB.out⟩

/-! ### impl_NodeCode: function 116 -/
def impl_NodeCode.f (s : Int) (y : Int) : Option (Int) := (impl_NodeOk.f s y).bind fun z => (if z = true then (some (wrap64 ((wrap64 (64 * s)) + y))) else (some (-1)))
theorem impl_NodeCode.calls (z : Int) (D : Int) (r : Int) (w : World) (h : impl_NodeCode.f z D = some r) :
  Calls Try.prog 116 #[.agg #[.int .i64 z, .int .i64 D]] w fun e w' => e = .returned (.int .i64 r) ∧ Below w.heap.size w w' := by
 have hu36 := Try.underlying36
 have HB := am (Below.refl w.heap.size w)
 have H := h; unfold impl_NodeCode.f at H
 clear h
 replace H := Option.bind_eq_some_iff.mp H
 obtain ⟨L, I, H⟩ := H
 try dsimp -simprocs only at H
 have J := am I
 clear I
 by_cases G : L = true
 ·subst G
  replace H : (some (wrap64 ((wrap64 (64 * z)) + D))) = some r := by rw [if_pos rfl] at H; exact H
  obtain rfl := Option.some.inj H
  go_enter Try.func116, Try.ntmps116
  go_wp2_with (first | ((with_reducible refine gd 1 rfl ?_); refine bx 1 (cs := #[.int .i64 z, .int .i64 D]) (t := 36) ?_; intro M hg O hbox hb; have s := am hbox; have T := gwb HB hg; replace HB := hs HB hb; clear hb hbox hg; obtain ⟨Z, aa⟩ := bc2 (w := O) s.out; have ab := blk_frozen s.out) | ((with_reducible refine gc 92 rfl ?_); refine gl 4 Try.func92 #[.agg #[.int .i64 z, .int .i64 D]] ?_; (with_reducible refine (impl_NodeOk.calls z D true _ J.out).mono ?_); rintro e X ⟨rfl, hb⟩; refine ⟨_, rfl, ?_⟩; replace s := bb s hb rfl; replace HB := hs HB hb; (try clear hb); obtain ⟨ac, ad⟩ := bc2 (w := X) s.out; have ae := blk_frozen s.out))
  go_ret
  exact ⟨eqr, bs HB.out⟩
 ·replace G := Bool.eq_false_iff.mpr G
  subst G
  have H1 : (some (-1)) = some r := by rw [if_neg (show ¬ (false = true) by decide)] at H; exact H
  clear H
  have H := H1
  clear H1
  obtain rfl := Option.some.inj H
  go_enter Try.func116, Try.ntmps116
  go_wp2_with (first | ((with_reducible refine gd 1 rfl ?_); refine bx 1 (cs := #[.int .i64 z, .int .i64 D]) (t := 36) ?_; intro M hg Y hbox hb; have s := am hbox; have T := gwb HB hg; replace HB := hs HB hb; clear hb hbox hg; obtain ⟨af, ag⟩ := bc2 (w := Y) s.out; have ah := blk_frozen s.out) | ((with_reducible refine gc 92 rfl ?_); refine gl 4 Try.func92 #[.agg #[.int .i64 z, .int .i64 D]] ?_; (with_reducible refine (impl_NodeOk.calls z D false _ J.out).mono ?_); rintro e ai ⟨rfl, hb⟩; refine ⟨_, rfl, ?_⟩; replace s := bb s hb rfl; replace HB := hs HB hb; (try clear hb)))
  go_ret
  exact ⟨eqr, bs HB.out⟩

end Go.Proofs.Ytohmemckdogljaa.QFnExactWalkCore
