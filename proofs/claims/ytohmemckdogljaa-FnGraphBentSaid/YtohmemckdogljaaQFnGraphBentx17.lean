/- Contracts of the Go functions that this law reaches: each does what its plain Lean function says. No condition. -/
import Derived.Test.YtohmemckdogljaaQFnGraphBentx0
import Derived.Test.YtohmemckdogljaaQFnGraphBentx1
import Derived.Test.YtohmemckdogljaaQFnGraphBentx2
import Derived.Test.YtohmemckdogljaaQFnGraphBentx6
import Derived.Test.YtohmemckdogljaaQFnGraphBentx9
import Derived.Test.YtohmemckdogljaaQFnGraphBentx15
import Derived.Test.YtohmemckdogljaaQFnGraphBentx16
namespace Go.Proofs.Ytohmemckdogljaa.QFnGraphBent
open Go.RowKit Go.Proofs.YtohmemckdogljaaW.PrintWords Go.Proofs.YtohmemckdogljaaW.PrintLast Go.Proofs.YtohmemckdogljaaW.PrintMore Go.Proofs.Ytohmemckdogljaa.Bl
attribute [local go_sem] max2_int min2_int max_two min_two max_three min_three max_four min_four   -- for this text's walks alone
set_option linter.unusedVariables false
set_option linter.unusedSimpArgs false
set_option maxHeartbeats 8000000
set_option maxRecDepth 100000

attribute [local go_sem high] eqA36 eqA56
/-! ### spec_DrawGraphSame: function 38 -/
def spec_DrawGraphSame.f (k : Nat) (l0 : List Int) : Option ((List (S36)) × (List (S56)) × (List (S36)) × (List (S56))) := (spec_l9Open.f l0).bind fun s => ((spec_l2Graph.f k s.1 s.2).bind fun y => ((spec_l2Bent.f k s.1 y.2.2 y.1 y.2.1).bind fun z => ((spec_l2Bent.f k s.1 z.2.2 z.1 z.2.1).bind fun D => ((spec_l2Bent.f k s.1 D.2.2 D.1 D.2.1).bind fun G => ((spec_l2Bent.f k s.1 G.2.2 G.1 G.2.1).bind fun I => (some (y.1, y.2.1, I.1, I.2.1)))))))
def spec_DrawGraphSame.T3 : Bool × List (List Nat × List Nat) := (true, [([], []), ([], []), ([], []), ([], []), ([], []), ([], []), ([4, 5], [4, 5]), ([3, 6, 6], [3, 6]), ([2, 7, 7], [2, 7]), ([1, 8, 8], [1, 8]), ([0, 9, 0], [0]), ([9, 10, 0, 1, 2, 3, 4, 5, 6, 7, 8, 9, 10], [9])])
def spec_DrawGraphSame.B3 : List Nat := [0, 0, 0, 0, 0, 0, 48, 120, 252, 510, 1023, 2047]
theorem spec_DrawGraphSame.tab3 : rtab .any (opsOf Try.f38 3) = spec_DrawGraphSame.T3 := by kernel_rfl
theorem spec_DrawGraphSame.bits3 : waitsOk spec_DrawGraphSame.T3.2 spec_DrawGraphSame.B3 = true := by kernel_rfl
theorem spec_DrawGraphSame.calls (k : Nat) (A0 : Option Addr) (c0 : Nat) (l0 : List Int) (r1 : List (S36)) (r2 : List (S56)) (r3 : List (S36)) (r4 : List (S56)) (w : World) (be : Kd.C (Kd.int .u8) w A0 l0.length l0) (bg : l0.length ≤ c0) (h : spec_DrawGraphSame.f k l0 = some (r1, r2, r3, r4)) :
  Calls Try.prog 38 #[.slice A0 l0.length c0] w fun e w' => ∃ aP aQ aR aS : Value, e = .returned (.tuple #[.agg #[aP, aQ], .agg #[aR, aS]]) ∧ Kd.R k36 36 w' w.heap.size (fun k_ => some k_ ≠ (aR : Value).ownBlock) aP r1 ∧ Kd.R k56 56 w' w.heap.size (fun k_ => some k_ ≠ (aS : Value).ownBlock) aQ r2 ∧ Kd.Q k36 36 w' w.heap.size (fun k_ => some k_ ≠ (aP : Value).ownBlock) aR r3 ∧ Kd.R k56 56 w' w.heap.size (fun k_ => some k_ ≠ (aQ : Value).ownBlock) aS r4 ∧ Below w.heap.size w w' := by
 have hu34 := Try.underlying34
 have bD := am be
 have bE := am bg
 clear be bg
 have HB := am (Below.refl w.heap.size w)
 have H := h; unfold spec_DrawGraphSame.f at H
 clear h
 replace H := Option.bind_eq_some_iff.mp H
 obtain ⟨⟨z, bh⟩, bi, H⟩ := H
 try dsimp -simprocs only at H
 have A2 := am bi
 clear bi
 replace H := Option.bind_eq_some_iff.mp H
 obtain ⟨⟨Y, aa, ar⟩, bj, H⟩ := H
 try dsimp -simprocs only at H
 have A3 := am bj
 clear bj
 replace H := Option.bind_eq_some_iff.mp H
 obtain ⟨⟨aT, aU, ay⟩, bk, H⟩ := H
 try dsimp -simprocs only at H
 have A4 := am bk
 clear bk
 replace H := Option.bind_eq_some_iff.mp H
 obtain ⟨⟨aV, aW, aq⟩, bl, H⟩ := H
 try dsimp -simprocs only at H
 have A5 := am bl
 clear bl
 replace H := Option.bind_eq_some_iff.mp H
 obtain ⟨⟨aX, aY, ak⟩, bm, H⟩ := H
 try dsimp -simprocs only at H
 have A6 := am bm
 clear bm
 replace H := Option.bind_eq_some_iff.mp H
 obtain ⟨⟨aE, aF, bF⟩, bn, H⟩ := H
 try dsimp -simprocs only at H
 have A7 := am bn
 clear bn
 simp only [Option.some.injEq, Prod.mk.injEq] at H
 obtain ⟨rfl, rfl, rfl, rfl⟩ := H
 go_enter Try.func38, Try.ntmps38
 try go_wp2_with (first | ((with_reducible refine gd 2 rfl ?_); refine bx 2 (cs := #[.slice none 0 0, .slice none 0 0]) (t := 34) ?_; intro af hg w8 hbox hb; have D := am hbox; have bX := gwb HB hg; replace HB := hs HB hb; clear hb hbox hg) | ((with_reducible refine gd 3 rfl ?_); refine bx 3 (cs := #[.slice none 0 0, .slice none 0 0]) (t := 34) ?_; intro ag hg w9 hbox hb; have G := am hbox; have bY := gwb HB hg; replace HB := hs HB hb; have aM := nq D hg; have aN := nq' D hg; replace D := bb D hb rfl; clear hb hbox hg) | ((with_reducible refine gc 86 rfl ?_); refine gl 7 Try.func86 #[.slice A0 l0.length c0] ?_; (with_reducible refine (spec_l9Open.calls _ _ l0 z bh w _ ?ao ?ap ?au A2.out).mono ?_); (case ao => exact bs HB.out); (case ap => exact bD.out); (case au => exact bE.out); rintro e bZ ⟨y, rfl, hi, hb, hb2⟩; refine ⟨_, rfl, ?_⟩; replace HB := am hb; have s := am hi; have b0 := Nq.mk (IsS126.ne_blk hi (blk_belowD D.out hb2 rfl) (by decide)); have b1 := Nq.mk (Ne.symm (IsS126.ne_blk hi (blk_belowD D.out hb2 rfl) (by decide))); replace D := am (blk_belowD D.out hb2 rfl); have b2 := Nq.mk (IsS126.ne_blk hi (blk_belowD G.out hb2 rfl) (by decide)); have b3 := Nq.mk (Ne.symm (IsS126.ne_blk hi (blk_belowD G.out hb2 rfl) (by decide))); replace G := am (blk_belowD G.out hb2 rfl); (try clear hi hb hb2)) | ((with_reducible refine gc 87 rfl ?_); refine gl 9 Try.func87 #[.pointer (some ⟨y, 0, none⟩)] ?_; (with_reducible refine (spec_l2Graph.calls k y z bh Y aa ar w _ ?ao ?ap A3.out).mono ?_); (case ao => exact iis s.out); (case ap => exact bs HB.out); rintro e b4 ⟨b5, b6, rfl, J, L, hi, hb, hk⟩; refine ⟨_, rfl, ?_⟩; replace D := kk D hk; replace G := kk G hk; have M := am (Kd.R_lower J (below_size (bs HB.out))); have O := am (Kd.R_lower L (below_size (bs HB.out))); replace HB := am hb; replace s := am hi; (try clear J L hi hb hk)) | ((with_reducible refine gd 5 rfl ?_); refine bx 5 (cs := #[.slice none 0 0, .slice none 0 0]) (t := 34) ?_; intro Z hg av hbox hb; replace M := rb M hb; replace O := rb O hb; have I := am hbox; have b7 := gwb HB hg; replace HB := hs HB hb; have aZ := nq D hg; have az := nq' D hg; replace D := bb D hb rfl; have a4 := nq G hg; have aA := nq' G hg; replace G := bb G hb rfl; have bG := Nq.mk ((by rw [hg]; exact Nat.ne_of_lt (IsS126.lt (show IsS126 w _ y z ar from iis s.out)) : y ≠ Z)); have bH := Nq.mk ((by rw [hg]; exact Nat.ne_of_gt (IsS126.lt (show IsS126 w _ y z ar from iis s.out)) : Z ≠ y)); replace s := ib s hb; clear hb hbox hg; obtain ⟨ab, ac, bI⟩ := Kd.R_slice M.out; subst bI; have b8 := az.out; have b9 := aZ.out; have ce := aA.out; have cf := a4.out; have cg := bH.out; have ch := bG.out; obtain ⟨ci, cj⟩ := bc2 (w := av) I.out; have ck := blk_frozen I.out; obtain ⟨ad, ae, bJ⟩ := Kd.R_slice O.out; subst bJ))
 have a5 : Aside0 (Kd.R k36 36 ((av.setCell ⟨Z, 0, none⟩ (.slice ab Y.length ac)).setCell ⟨Z, 1, none⟩ (.slice ad aa.length ae)) w.heap.size (fun _ => True) (.slice ab Y.length ac) Y) := ⟨Kd.R_mono (rt M.out I.out (by decide)) (fun _ hk => trivial)⟩
 have a6 : Aside0 (Kd.R k56 56 ((av.setCell ⟨Z, 0, none⟩ (.slice ab Y.length ac)).setCell ⟨Z, 1, none⟩ (.slice ad aa.length ae)) w.heap.size (fun _ => True) (.slice ad aa.length ae) aa) := ⟨Kd.R_mono (rt O.out I.out (by decide)) (fun _ hk => trivial)⟩
 have a7 : Aside0 (((av.setCell ⟨Z, 0, none⟩ (.slice ab Y.length ac)).setCell ⟨Z, 1, none⟩ (.slice ad aa.length ae)).heap[af]? = some (.cells #[.slice none 0 0, .slice none 0 0] 34 (0, 0))) := ⟨bf D.out⟩
 have a8 : Aside0 (((av.setCell ⟨Z, 0, none⟩ (.slice ab Y.length ac)).setCell ⟨Z, 1, none⟩ (.slice ad aa.length ae)).heap[ag]? = some (.cells #[.slice none 0 0, .slice none 0 0] 34 (0, 0))) := ⟨bf G.out⟩
 have a9 : Aside0 (((av.setCell ⟨Z, 0, none⟩ (.slice ab Y.length ac)).setCell ⟨Z, 1, none⟩ (.slice ad aa.length ae)).heap[Z]? = some (.cells #[.slice ab Y.length ac, .slice ad aa.length ae] 34 (0, 0))) := ⟨by (with_reducible repeat (first | refine blk_drewN ?_ _ | refine blk_drew ?_ | refine blk_alloc ?_ _)); refine blk_put (cs := #[.slice ab Y.length ac, .slice none 0 0]) ?_ 1 _ rfl; (with_reducible repeat (first | refine blk_drewN ?_ _ | refine blk_drew ?_ | refine blk_alloc ?_ _)); refine blk_put (cs := #[.slice none 0 0, .slice none 0 0]) ?_ 0 _ rfl; exact bf I.out⟩
 have ba : Aside0 (IsS126 w ((av.setCell ⟨Z, 0, none⟩ (.slice ab Y.length ac)).setCell ⟨Z, 1, none⟩ (.slice ad aa.length ae)) y z ar) := ⟨iis s.out⟩
 have bc : Aside0 (Below w.heap.size w ((av.setCell ⟨Z, 0, none⟩ (.slice ab Y.length ac)).setCell ⟨Z, 1, none⟩ (.slice ad aa.length ae))) := ⟨bs HB.out⟩
 (try clear M)
 (try clear O)
 (try clear D)
 (try clear G)
 (try clear I)
 (try clear s)
 (try clear HB)
 generalize ((av.setCell ⟨Z, 0, none⟩ (.slice ab Y.length ac)).setCell ⟨Z, 1, none⟩ (.slice ad aa.length ae)) = bK at a5 a6 a7 a8 a9 ba bc ⊢
 have M := a5
 have O := a6
 have D := a7
 have G := a8
 have I := a9
 have s := ba
 have HB := bc
 clear a5 a6 a7 a8 a9 ba bc
 replace M := rd_ M
 replace O := rd_ O
 replace D := bd D
 replace G := bd G
 replace I := bd I
 replace s := am (IsS126.drew s.out)
 replace HB := hd HB
 refine sta 12 (fun w' => w'.cell? ⟨Z, 0, none⟩ = some (.slice ab Y.length ac) ∧ w'.cell? ⟨Z, 1, none⟩ = some (.slice ad aa.length ae)) [] ⟨cx I 0, cx I 1⟩ (fun hHeld => ?_); refine with_tabW spec_DrawGraphSame.tab3 spec_DrawGraphSame.bits3 (fun HT_ HW_ => ?_)
 generalize bK.drew = cl at M O D G I s HB hHeld ⊢
 refine pu 1 11 ?_
 refine pu 2 12 ?_
 refine pu 3 13 ?_
 refine pu 4 14 ?_
 refine tk 0 10 ?_
 refine tk 5 15 ?_
 refine on 6 16 (fun K hK => ?_)
 refine gs Try.func88 #[.pointer (some ⟨y, 0, none⟩), .agg #[.slice ab Y.length ac, .slice ad aa.length ae]] ?_
 with_reducible refine (spec_l2Bent.calls k y z ar _ _ Y _ _ aa aT aU ay w _ ?ao ?ap ?au ?aB ?aC ?aD A4.out).mono ?_
 (case ao => exact iis s.out)
 (case ap => exact bs HB.out)
 (case au => exact Kd.C_foot_own (IsS126.apart (show IsS126 w _ y z ar from iis s.out) (rl M.out) (by decide)) (fun _ h_ => h_.2))
 (case aB => exact cc M)
 (case aC => exact Kd.C_foot_own (IsS126.apart (show IsS126 w _ y z ar from iis s.out) (rl O.out) (by decide)) (fun _ h_ => h_.2))
 (case aD => exact cc O)
 rintro e cm ⟨cn, co, rfl, J, L, hi, hb, hk⟩
 refine ⟨_, rfl, ?_⟩
 replace D := kk D hk
 replace G := kk G hk
 replace I := kk I hk
 have al := am (Kd.Q_lower (Kd.Q_new' J (rk M)) (below_size (bs HB.out)))
 replace M := am (Kd.R_mono (Kd.R_told (Kd.R_oldK (IsS126.apart (show IsS126 w _ y z ar from iis s.out) (rl M.out) (by decide)) hk) (Kd.Q_base J)) (fun _ h_ => h_.1))
 have an := am (Kd.R_lower (Kd.R_new' L (rk O)) (below_size (bs HB.out)))
 replace O := am (Kd.R_mono (Kd.R_told (Kd.R_oldK (IsS126.apart (show IsS126 w _ y z ar from iis s.out) (rl O.out) (by decide)) hk) (Kd.R_base L)) (fun _ h_ => h_.1))
 replace HB := am hb
 replace s := am hi
 (try clear hb)
 (try clear hb2)
 (try clear hk)
 (try clear hi)
 (try clear J)
 (try clear L)
 obtain ⟨bL, bM, bo, _⟩ := Kd.Q_slice al.out
 (first | subst bo | (injection bo with T ah X; have ai := T.symm; have aj := X.symm; clear T ah X; subst ai; subst aj))
 obtain ⟨bN, bO, br⟩ := Kd.R_slice an.out
 (first | subst br | (injection br with T ah X; have ai := T.symm; have aj := X.symm; clear T ah X; subst ai; subst aj))
 refine hK.out _ _ ⟨cx I 0, cx I 1⟩ (fun hHeld => ?_)
 clear hK K
 refine nrm 16 ?_
 refine on 7 17 (fun K hK => ?_)
 refine gs Try.func88 #[.pointer (some ⟨y, 0, none⟩), .agg #[.slice bL aT.length bM, .slice bN aU.length bO]] ?_
 with_reducible refine (spec_l2Bent.calls k y z ay _ _ aT _ _ aU aV aW aq w _ ?ao ?ap ?au ?aB ?aC ?aD A5.out).mono ?_
 (case ao => exact iis s.out)
 (case ap => exact bs HB.out)
 (case au => exact Kd.C_foot_ownQ (IsS126.apartQ (show IsS126 w _ y z ay from iis s.out) (qf al.out) (by decide)) (fun _ h_ => h_.2))
 (case aB => exact cd al)
 (case aC => exact Kd.C_foot_own (IsS126.apart (show IsS126 w _ y z ay from iis s.out) (rl an.out) (by decide)) (fun _ h_ => h_.2))
 (case aD => exact cc an)
 rintro e cp ⟨ct, cu, rfl, J, L, hi, hb, hk⟩
 refine ⟨_, rfl, ?_⟩
 replace D := kk D hk
 replace G := kk G hk
 replace I := kk I hk
 have aw := am (Kd.Q_lower (Kd.Q_new' (Kd.Q_new' J (rk M)) (ql al)) (below_size (bs HB.out)))
 replace M := am (Kd.R_mono (Kd.R_told (Kd.R_oldK (IsS126.apart (show IsS126 w _ y z ay from iis s.out) (rl M.out) (by decide)) hk) (Kd.Q_base J)) (fun _ h_ => h_.1))
 replace al := am (Kd.Q_mono (Kd.Q_told (Kd.Q_oldK (IsS126.apartQ (show IsS126 w _ y z ay from iis s.out) (qf al.out) (by decide)) hk) (Kd.Q_base J)) (fun _ h_ => h_.1))
 have ax := am (Kd.R_lower (Kd.R_new' (Kd.R_new' L (rk O)) (rk an)) (below_size (bs HB.out)))
 replace O := am (Kd.R_mono (Kd.R_told (Kd.R_oldK (IsS126.apart (show IsS126 w _ y z ay from iis s.out) (rl O.out) (by decide)) hk) (Kd.R_base L)) (fun _ h_ => h_.1))
 replace an := am (Kd.R_mono (Kd.R_told (Kd.R_oldK (IsS126.apart (show IsS126 w _ y z ay from iis s.out) (rl an.out) (by decide)) hk) (Kd.R_base L)) (fun _ h_ => h_.1))
 replace HB := am hb
 replace s := am hi
 (try clear hb)
 (try clear hb2)
 (try clear hk)
 (try clear hi)
 (try clear J)
 (try clear L)
 obtain ⟨bP, bQ, bt, _⟩ := Kd.Q_slice aw.out
 (first | subst bt | (injection bt with T ah X; have ai := T.symm; have aj := X.symm; clear T ah X; subst ai; subst aj))
 obtain ⟨bR, bS, bu⟩ := Kd.R_slice ax.out
 (first | subst bu | (injection bu with T ah X; have ai := T.symm; have aj := X.symm; clear T ah X; subst ai; subst aj))
 refine hK.out _ _ ⟨cx I 0, cx I 1⟩ (fun hHeld => ?_)
 clear hK K
 refine nrm 17 ?_
 refine on 8 18 (fun K hK => ?_)
 refine gs Try.func88 #[.pointer (some ⟨y, 0, none⟩), .agg #[.slice bP aV.length bQ, .slice bR aW.length bS]] ?_
 with_reducible refine (spec_l2Bent.calls k y z aq _ _ aV _ _ aW aX aY ak w _ ?ao ?ap ?au ?aB ?aC ?aD A6.out).mono ?_
 (case ao => exact iis s.out)
 (case ap => exact bs HB.out)
 (case au => exact Kd.C_foot_ownQ (IsS126.apartQ (show IsS126 w _ y z aq from iis s.out) (qf aw.out) (by decide)) (fun _ h_ => h_.2))
 (case aB => exact cd aw)
 (case aC => exact Kd.C_foot_own (IsS126.apart (show IsS126 w _ y z aq from iis s.out) (rl ax.out) (by decide)) (fun _ h_ => h_.2))
 (case aD => exact cc ax)
 rintro e cv ⟨cy, cz, rfl, J, L, hi, hb, hk⟩
 refine ⟨_, rfl, ?_⟩
 replace D := kk D hk
 replace G := kk G hk
 replace I := kk I hk
 have aG := am (Kd.Q_lower (Kd.Q_new' (Kd.Q_new' (Kd.Q_new' J (rk M)) (ql al)) (ql aw)) (below_size (bs HB.out)))
 replace M := am (Kd.R_mono (Kd.R_told (Kd.R_oldK (IsS126.apart (show IsS126 w _ y z aq from iis s.out) (rl M.out) (by decide)) hk) (Kd.Q_base J)) (fun _ h_ => h_.1))
 replace al := am (Kd.Q_mono (Kd.Q_told (Kd.Q_oldK (IsS126.apartQ (show IsS126 w _ y z aq from iis s.out) (qf al.out) (by decide)) hk) (Kd.Q_base J)) (fun _ h_ => h_.1))
 replace aw := am (Kd.Q_mono (Kd.Q_told (Kd.Q_oldK (IsS126.apartQ (show IsS126 w _ y z aq from iis s.out) (qf aw.out) (by decide)) hk) (Kd.Q_base J)) (fun _ h_ => h_.1))
 have aH := am (Kd.R_lower (Kd.R_new' (Kd.R_new' (Kd.R_new' L (rk O)) (rk an)) (rk ax)) (below_size (bs HB.out)))
 replace O := am (Kd.R_mono (Kd.R_told (Kd.R_oldK (IsS126.apart (show IsS126 w _ y z aq from iis s.out) (rl O.out) (by decide)) hk) (Kd.R_base L)) (fun _ h_ => h_.1))
 replace an := am (Kd.R_mono (Kd.R_told (Kd.R_oldK (IsS126.apart (show IsS126 w _ y z aq from iis s.out) (rl an.out) (by decide)) hk) (Kd.R_base L)) (fun _ h_ => h_.1))
 replace ax := am (Kd.R_mono (Kd.R_told (Kd.R_oldK (IsS126.apart (show IsS126 w _ y z aq from iis s.out) (rl ax.out) (by decide)) hk) (Kd.R_base L)) (fun _ h_ => h_.1))
 replace HB := am hb
 replace s := am hi
 (try clear hb)
 (try clear hb2)
 (try clear hk)
 (try clear hi)
 (try clear J)
 (try clear L)
 obtain ⟨bT, bU, bv, _⟩ := Kd.Q_slice aG.out
 (first | subst bv | (injection bv with T ah X; have ai := T.symm; have aj := X.symm; clear T ah X; subst ai; subst aj))
 obtain ⟨bV, bW, bw⟩ := Kd.R_slice aH.out
 (first | subst bw | (injection bw with T ah X; have ai := T.symm; have aj := X.symm; clear T ah X; subst ai; subst aj))
 refine hK.out _ _ ⟨cx I 0, cx I 1⟩ (fun hHeld => ?_)
 clear hK K
 refine nrm 18 ?_
 refine on 9 19 (fun K hK => ?_)
 refine gs Try.func88 #[.pointer (some ⟨y, 0, none⟩), .agg #[.slice bT aX.length bU, .slice bV aY.length bW]] ?_
 with_reducible refine (spec_l2Bent.calls k y z ak _ _ aX _ _ aY aE aF bF w _ ?ao ?ap ?au ?aB ?aC ?aD A7.out).mono ?_
 (case ao => exact iis s.out)
 (case ap => exact bs HB.out)
 (case au => exact Kd.C_foot_ownQ (IsS126.apartQ (show IsS126 w _ y z ak from iis s.out) (qf aG.out) (by decide)) (fun _ h_ => h_.2))
 (case aB => exact cd aG)
 (case aC => exact Kd.C_foot_own (IsS126.apart (show IsS126 w _ y z ak from iis s.out) (rl aH.out) (by decide)) (fun _ h_ => h_.2))
 (case aD => exact cc aH)
 rintro e aO ⟨cA, cB, rfl, J, L, hi, hb, hk⟩
 refine ⟨_, rfl, ?_⟩
 replace D := kk D hk
 replace G := kk G hk
 replace I := kk I hk
 have bz := am (Kd.Q_lower (Kd.Q_new' (Kd.Q_new' (Kd.Q_new' (Kd.Q_new' J (rk M)) (ql al)) (ql aw)) (ql aG)) (below_size (bs HB.out)))
 replace M := am (Kd.R_mono (Kd.R_told (Kd.R_oldK (IsS126.apart (show IsS126 w _ y z ak from iis s.out) (rl M.out) (by decide)) hk) (Kd.Q_base J)) (fun _ h_ => h_.1))
 replace al := am (Kd.Q_mono (Kd.Q_told (Kd.Q_oldK (IsS126.apartQ (show IsS126 w _ y z ak from iis s.out) (qf al.out) (by decide)) hk) (Kd.Q_base J)) (fun _ h_ => h_.1))
 replace aw := am (Kd.Q_mono (Kd.Q_told (Kd.Q_oldK (IsS126.apartQ (show IsS126 w _ y z ak from iis s.out) (qf aw.out) (by decide)) hk) (Kd.Q_base J)) (fun _ h_ => h_.1))
 replace aG := am (Kd.Q_mono (Kd.Q_told (Kd.Q_oldK (IsS126.apartQ (show IsS126 w _ y z ak from iis s.out) (qf aG.out) (by decide)) hk) (Kd.Q_base J)) (fun _ h_ => h_.1))
 have bA := am (Kd.R_lower (Kd.R_new' (Kd.R_new' (Kd.R_new' (Kd.R_new' L (rk O)) (rk an)) (rk ax)) (rk aH)) (below_size (bs HB.out)))
 replace O := am (Kd.R_mono (Kd.R_told (Kd.R_oldK (IsS126.apart (show IsS126 w _ y z ak from iis s.out) (rl O.out) (by decide)) hk) (Kd.R_base L)) (fun _ h_ => h_.1))
 replace an := am (Kd.R_mono (Kd.R_told (Kd.R_oldK (IsS126.apart (show IsS126 w _ y z ak from iis s.out) (rl an.out) (by decide)) hk) (Kd.R_base L)) (fun _ h_ => h_.1))
 replace ax := am (Kd.R_mono (Kd.R_told (Kd.R_oldK (IsS126.apart (show IsS126 w _ y z ak from iis s.out) (rl ax.out) (by decide)) hk) (Kd.R_base L)) (fun _ h_ => h_.1))
 replace aH := am (Kd.R_mono (Kd.R_told (Kd.R_oldK (IsS126.apart (show IsS126 w _ y z ak from iis s.out) (rl aH.out) (by decide)) hk) (Kd.R_base L)) (fun _ h_ => h_.1))
 replace HB := am hb
 replace s := am hi
 (try clear hb)
 (try clear hb2)
 (try clear hk)
 (try clear hi)
 (try clear J)
 (try clear L)
 obtain ⟨aI, aJ, bB, _⟩ := Kd.Q_slice bz.out
 (first | subst bB | (injection bB with T ah X; have ai := T.symm; have aj := X.symm; clear T ah X; subst ai; subst aj))
 obtain ⟨aK, aL, bC⟩ := Kd.R_slice bA.out
 (first | subst bC | (injection bC with T ah X; have ai := T.symm; have aj := X.symm; clear T ah X; subst ai; subst aj))
 refine hK.out _ _ ⟨cx I 0, cx I 1⟩ (fun hHeld => ?_)
 clear hK K
 refine nrm 19 ?_
 refine on0 10 (fun K hK => ?_)
 have cC : aO.cell? ⟨af, 0, none⟩ = some (.slice none 0 0) := cx D 0
 have cD := blk_frozen D.out 0
 have cE := aN.out
 have cF := az.out
 have cG := aM.out
 have cH := aZ.out
 have cI : aO.cell? ⟨af, 1, none⟩ = some (.slice none 0 0) := cx D 1
 have cJ := blk_frozen D.out 1
 have cK := aN.out
 have cL := az.out
 have cM := aM.out
 have cN := aZ.out
 refine sk ?_
 refine hK.out _ _ ⟨((cell_far (p := ⟨af, _, none⟩) az.out _).trans (((cell_far (p := ⟨af, _, none⟩) az.out _).trans (hHeld.1)))), ((cell_far (p := ⟨af, _, none⟩) az.out _).trans (((cell_far (p := ⟨af, _, none⟩) az.out _).trans (hHeld.2))))⟩ (fun hHeld => ?_)
 clear hK K
 refine on0 11 (fun K hK => ?_)
 have cO : aO.cell? ⟨ag, 0, none⟩ = some (.slice none 0 0) := cx G 0
 have cP := blk_frozen G.out 0
 have cQ := aM.out
 have cR := aA.out
 have cS := aN.out
 have cT := a4.out
 have cU : aO.cell? ⟨ag, 1, none⟩ = some (.slice none 0 0) := cx G 1
 have cV := blk_frozen G.out 1
 have cW := aM.out
 have cX := aA.out
 have cY := aN.out
 have cZ := a4.out
 refine sk ?_
 refine hK.out _ _ ⟨((cell_far (p := ⟨ag, _, none⟩) aA.out _).trans (((cell_far (p := ⟨ag, _, none⟩) aA.out _).trans (hHeld.1)))), ((cell_far (p := ⟨ag, _, none⟩) aA.out _).trans (((cell_far (p := ⟨ag, _, none⟩) aA.out _).trans (hHeld.2))))⟩ (fun hHeld => ?_)
 clear hK K
 refine dn ?_
 try go_wp2
 refine bodyPost_ret (results_cc rfl _ _ af ag 34 34 #[.slice ab Y.length ac, .slice ad aa.length ae] #[.slice aI aE.length aJ, .slice aK aF.length aL] (0, 0) (0, 0) _ _ rfl (bp D.out rfl) Try.underlying34 rfl (by kernel_rfl) rfl (bp G.out rfl) Try.underlying34 rfl (by kernel_rfl)) rfl ?_
 exact ⟨_, _, _, _, eqr, by (with_reducible repeat (first | apply Kd.R_alloc | apply Kd.R_drewN | apply Kd.R_drew)); exact Kd.R_mono (Kd.R_far (p := ⟨ag, 1, none⟩) (Kd.R_far (p := ⟨ag, 0, none⟩) (Kd.R_far (p := ⟨af, 1, none⟩) (Kd.R_far (p := ⟨af, 0, none⟩) (Kd.R_types (Kd.R_types M.out D.out (by decide)) G.out (by decide)) (fun _ hk => hk.1.2) (.slice ab Y.length ac)) (fun _ hk => hk.1.2) (.slice ad aa.length ae)) (fun _ hk => hk.2) (.slice aI aE.length aJ)) (fun _ hk => hk.2) (.slice aK aF.length aL)) (fun _ hk => hk.1.1.2), by (with_reducible repeat (first | apply Kd.R_alloc | apply Kd.R_drewN | apply Kd.R_drew)); exact Kd.R_mono (Kd.R_far (p := ⟨ag, 1, none⟩) (Kd.R_far (p := ⟨ag, 0, none⟩) (Kd.R_far (p := ⟨af, 1, none⟩) (Kd.R_far (p := ⟨af, 0, none⟩) (Kd.R_types (Kd.R_types O.out D.out (by decide)) G.out (by decide)) (fun _ hk => hk.1.2) (.slice ab Y.length ac)) (fun _ hk => hk.1.2) (.slice ad aa.length ae)) (fun _ hk => hk.2) (.slice aI aE.length aJ)) (fun _ hk => hk.2) (.slice aK aF.length aL)) (fun _ hk => hk.1.1.2), by (with_reducible repeat (first | apply Kd.Q_alloc | apply Kd.Q_drewN | apply Kd.Q_drew)); exact Kd.Q_mono (Kd.Q_far (p := ⟨ag, 1, none⟩) (Kd.Q_far (p := ⟨ag, 0, none⟩) (Kd.Q_far (p := ⟨af, 1, none⟩) (Kd.Q_far (p := ⟨af, 0, none⟩) (Kd.Q_types (Kd.Q_types bz.out D.out (by decide)) G.out (by decide)) (fun _ hk => hk.1.2) (.slice ab Y.length ac)) (fun _ hk => hk.1.2) (.slice ad aa.length ae)) (fun _ hk => hk.2) (.slice aI aE.length aJ)) (fun _ hk => hk.2) (.slice aK aF.length aL)) (fun _ hk => hk.1.1.1.1.1.2), by (with_reducible repeat (first | apply Kd.R_alloc | apply Kd.R_drewN | apply Kd.R_drew)); exact Kd.R_mono (Kd.R_far (p := ⟨ag, 1, none⟩) (Kd.R_far (p := ⟨ag, 0, none⟩) (Kd.R_far (p := ⟨af, 1, none⟩) (Kd.R_far (p := ⟨af, 0, none⟩) (Kd.R_types (Kd.R_types bA.out D.out (by decide)) G.out (by decide)) (fun _ hk => hk.1.2) (.slice ab Y.length ac)) (fun _ hk => hk.1.2) (.slice ad aa.length ae)) (fun _ hk => hk.2) (.slice aI aE.length aJ)) (fun _ hk => hk.2) (.slice aK aF.length aL)) (fun _ hk => hk.1.1.1.1.1.2), bs HB.out⟩

/-! ### spec_DrawGraphOk: function 39 -/
def spec_DrawGraphOk.f (k : Nat) (l0 : List Int) : Option ((List (S36)) × (List (S56))) := (spec_l9Open.f l0).bind fun s => ((spec_l2Graph.f k s.1 s.2).bind fun y => ((spec_l2Bent.f k s.1 y.2.2 y.1 y.2.1).bind fun z => ((spec_l2Bent.f k s.1 z.2.2 z.1 z.2.1).bind fun D => (some (D.1, D.2.1)))))
theorem spec_DrawGraphOk.calls (k : Nat) (A0 : Option Addr) (c0 : Nat) (l0 : List Int) (r1 : List (S36)) (r2 : List (S56)) (w : World) (ai : Kd.C (Kd.int .u8) w A0 l0.length l0) (aj : l0.length ≤ c0) (h : spec_DrawGraphOk.f k l0 = some (r1, r2)) :
  Calls Try.prog 39 #[.slice A0 l0.length c0] w fun e w' => ∃ ak al : Value, e = .returned (.agg #[ak, al]) ∧ Kd.Q k36 36 w' w.heap.size (fun _ => True) ak r1 ∧ Kd.R k56 56 w' w.heap.size (fun _ => True) al r2 ∧ Below w.heap.size w w' := by
 have hu34 := Try.underlying34
 have ay := am ai
 have az := am aj
 clear ai aj
 have HB := am (Below.refl w.heap.size w)
 have H := h; unfold spec_DrawGraphOk.f at H
 clear h
 replace H := Option.bind_eq_some_iff.mp H
 obtain ⟨⟨D, an⟩, ao, H⟩ := H
 try dsimp -simprocs only at H
 have A2 := am ao
 clear ao
 replace H := Option.bind_eq_some_iff.mp H
 obtain ⟨⟨ab, ac, X⟩, ap, H⟩ := H
 try dsimp -simprocs only at H
 have A3 := am ap
 clear ap
 replace H := Option.bind_eq_some_iff.mp H
 obtain ⟨⟨ad, ae, M⟩, aq, H⟩ := H
 try dsimp -simprocs only at H
 have A4 := am aq
 clear aq
 replace H := Option.bind_eq_some_iff.mp H
 obtain ⟨⟨ar, au, aA⟩, av, H⟩ := H
 try dsimp -simprocs only at H
 have A5 := am av
 clear av
 simp only [Option.some.injEq, Prod.mk.injEq] at H
 obtain ⟨rfl, rfl⟩ := H
 go_enter Try.func39, Try.ntmps39
 go_wp2_with (first | ((with_reducible refine gd 2 rfl ?_); refine bx 2 (cs := #[.slice none 0 0, .slice none 0 0]) (t := 34) ?_; intro aB hg w6 hbox hb; have z := am hbox; have aX := gwb HB hg; replace HB := hs HB hb; clear hb hbox hg) | ((with_reducible refine gc 86 rfl ?_); refine gl 5 Try.func86 #[.slice A0 l0.length c0] ?_; (with_reducible refine (spec_l9Open.calls _ _ l0 D an w _ ?O ?T ?aa A2.out).mono ?_); (case O => exact bs HB.out); (case T => exact ay.out); (case aa => exact az.out); rintro e w7 ⟨s, rfl, hi, hb, hb2⟩; refine ⟨_, rfl, ?_⟩; replace HB := am hb; have y := am hi; have aC := Nq.mk (IsS126.ne_blk hi (blk_belowD z.out hb2 rfl) (by decide)); have aD := Nq.mk (Ne.symm (IsS126.ne_blk hi (blk_belowD z.out hb2 rfl) (by decide))); replace z := am (blk_belowD z.out hb2 rfl); (try clear hi hb hb2)) | ((with_reducible refine gc 87 rfl ?_); refine gl 9 Try.func87 #[.pointer (some ⟨s, 0, none⟩)] ?_; (with_reducible refine (spec_l2Graph.calls k s D an ab ac X w _ ?O ?T A3.out).mono ?_); (case O => exact iis y.out); (case T => exact bs HB.out); rintro e w8 ⟨aY, aZ, rfl, G, I, hi, hb, hk⟩; refine ⟨_, rfl, ?_⟩; replace z := kk z hk; have J := am (Kd.R_lower G (below_size (bs HB.out))); have L := am (Kd.R_lower I (below_size (bs HB.out))); replace HB := am hb; replace y := am hi; (try clear G I hi hb hk); obtain ⟨aE, aF, aG⟩ := Kd.R_slice J.out; subst aG; obtain ⟨aH, aI, aJ⟩ := Kd.R_slice L.out; subst aJ) | ((with_reducible refine gc 88 rfl ?_); refine gl 10 Try.func88 #[.pointer (some ⟨s, 0, none⟩), .agg #[.slice aE ab.length aF, .slice aH ac.length aI]] ?_; (with_reducible refine (spec_l2Bent.calls k s D X _ _ ab _ _ ac ad ae M w _ ?O ?T ?aa ?af ?ag ?ah A4.out).mono ?_); (case O => exact iis y.out); (case T => exact bs HB.out); (case aa => exact Kd.C_foot_own (IsS126.apart (show IsS126 w _ s D X from iis y.out) (rl J.out) (by decide)) (fun _ h_ => h_.2)); (case af => exact cc J); (case ag => exact Kd.C_foot_own (IsS126.apart (show IsS126 w _ s D X from iis y.out) (rl L.out) (by decide)) (fun _ h_ => h_.2)); (case ah => exact cc L); rintro e a4 ⟨a5, a6, rfl, G, I, hi, hb, hk⟩; refine ⟨_, rfl, ?_⟩; replace z := kk z hk; have Y := am (Kd.Q_lower (Kd.Q_new' G (rk J)) (below_size (bs HB.out))); replace J := am (Kd.R_mono (Kd.R_told (Kd.R_oldK (IsS126.apart (show IsS126 w _ s D X from iis y.out) (rl J.out) (by decide)) hk) (Kd.Q_base G)) (fun _ h_ => h_.1)); have Z := am (Kd.R_lower (Kd.R_new' I (rk L)) (below_size (bs HB.out))); replace L := am (Kd.R_mono (Kd.R_told (Kd.R_oldK (IsS126.apart (show IsS126 w _ s D X from iis y.out) (rl L.out) (by decide)) hk) (Kd.R_base I)) (fun _ h_ => h_.1)); replace HB := am hb; replace y := am hi; (try clear G I hi hb hk); obtain ⟨aK, aL, aM, _⟩ := Kd.Q_slice Y.out; subst aM; obtain ⟨aN, aO, aP⟩ := Kd.R_slice Z.out; subst aP) | ((with_reducible refine gc 88 rfl ?_); refine gl 11 Try.func88 #[.pointer (some ⟨s, 0, none⟩), .agg #[.slice aK ad.length aL, .slice aN ae.length aO]] ?_; (with_reducible refine (spec_l2Bent.calls k s D M _ _ ad _ _ ae ar au aA w _ ?O ?T ?aa ?af ?ag ?ah A5.out).mono ?_); (case O => exact iis y.out); (case T => exact bs HB.out); (case aa => exact Kd.C_foot_ownQ (IsS126.apartQ (show IsS126 w _ s D M from iis y.out) (qf Y.out) (by decide)) (fun _ h_ => h_.2)); (case af => exact cd Y); (case ag => exact Kd.C_foot_own (IsS126.apart (show IsS126 w _ s D M from iis y.out) (rl Z.out) (by decide)) (fun _ h_ => h_.2)); (case ah => exact cc Z); rintro e aQ ⟨a7, a8, rfl, G, I, hi, hb, hk⟩; refine ⟨_, rfl, ?_⟩; replace z := kk z hk; have aw := am (Kd.Q_lower (Kd.Q_new' (Kd.Q_new' G (rk J)) (ql Y)) (below_size (bs HB.out))); replace J := am (Kd.R_mono (Kd.R_told (Kd.R_oldK (IsS126.apart (show IsS126 w _ s D M from iis y.out) (rl J.out) (by decide)) hk) (Kd.Q_base G)) (fun _ h_ => h_.1)); replace Y := am (Kd.Q_mono (Kd.Q_told (Kd.Q_oldK (IsS126.apartQ (show IsS126 w _ s D M from iis y.out) (qf Y.out) (by decide)) hk) (Kd.Q_base G)) (fun _ h_ => h_.1)); have ax := am (Kd.R_lower (Kd.R_new' (Kd.R_new' I (rk L)) (rk Z)) (below_size (bs HB.out))); replace L := am (Kd.R_mono (Kd.R_told (Kd.R_oldK (IsS126.apart (show IsS126 w _ s D M from iis y.out) (rl L.out) (by decide)) hk) (Kd.R_base I)) (fun _ h_ => h_.1)); replace Z := am (Kd.R_mono (Kd.R_told (Kd.R_oldK (IsS126.apart (show IsS126 w _ s D M from iis y.out) (rl Z.out) (by decide)) hk) (Kd.R_base I)) (fun _ h_ => h_.1)); replace HB := am hb; replace y := am hi; (try clear hb); (try clear hb2); (try clear hk); (try clear hi); (try clear G); (try clear I); obtain ⟨aR, aS, aT, _⟩ := Kd.Q_slice aw.out; subst aT; have a9 := aD.out; have ba := aC.out; obtain ⟨bc, be⟩ := bc2 (w := aQ) z.out; have bg := blk_frozen z.out; obtain ⟨aU, aV, aW⟩ := Kd.R_slice ax.out; subst aW))
 refine bodyPost_ret (results_cell_row rfl _ _ aB 34 #[.slice aR ar.length aS, .slice aU au.length aV] (0, 0) _ rfl (bp z.out rfl) Try.underlying34 rfl (by kernel_rfl)) rfl ?_
 exact ⟨_, _, eqr, Kd.Q_mono (qt aw.out z.out (by decide)) (fun _ hk => trivial), Kd.R_mono (rt ax.out z.out (by decide)) (fun _ hk => trivial), bs HB.out⟩

/-! ### spec_DrawOpLabel: function 40 -/
def spec_DrawOpLabel.f (k : Nat) (l0 : List Int) : Option (Int × Int × Int × Int × Int × Int × Int × Int) := (spec_l9Open.f l0).bind fun y => ((spec_l2Op.f k y.1 y.2 ([] : List (S36)) ([] : List (S56))).bind fun s => (some (s.1, s.2.1, s.2.2.1, s.2.2.2.1, s.2.2.2.2.1, s.2.2.2.2.2.1, s.2.2.2.2.2.2.1, s.2.2.2.2.2.2.2.1)))
theorem spec_DrawOpLabel.calls (k : Nat) (z : Option Addr) (D : Nat) (l0 : List Int) (L : Int) (M : Int) (O : Int) (T : Int) (X : Int) (Y : Int) (Z : Int) (r8 : Int) (w : World) (aa : Kd.C (Kd.int .u8) w z l0.length l0) (ab : l0.length ≤ D) (h : spec_DrawOpLabel.f k l0 = some (L, M, O, T, X, Y, Z, r8)) :
  Calls Try.prog 40 #[.slice z l0.length D] w fun e w' => e = .returned (.agg #[.int .i64 L, .int .i64 M, .int .i64 O, .int .i64 T, .int .i64 X, .int .i64 Y, .int .i64 Z, .int .i64 r8]) ∧ Below w.heap.size w w' := by
 have hu58 := Try.underlying58
 have hu34 := Try.underlying34
 have ar := am aa
 have au := am ab
 clear aa ab
 have HB := am (Below.refl w.heap.size w)
 have H := h; unfold spec_DrawOpLabel.f at H
 clear h
 replace H := Option.bind_eq_some_iff.mp H
 obtain ⟨⟨ac, ad⟩, ae, H⟩ := H
 try dsimp -simprocs only at H
 have A2 := am ae
 clear ae
 replace H := Option.bind_eq_some_iff.mp H
 obtain ⟨⟨af, ag, ah, ai, aj, ak, al, an, av⟩, ao, H⟩ := H
 try dsimp -simprocs only at H
 have A3 := am ao
 clear ao
 simp only [Option.some.injEq, Prod.mk.injEq] at H
 obtain ⟨rfl, rfl, rfl, rfl, rfl, rfl, rfl, rfl⟩ := H
 go_enter Try.func40, Try.ntmps40
 go_wp2_with (first | ((with_reducible refine gd 2 rfl ?_); refine bx 2 (cs := #[.int .i64 0, .int .i64 0, .int .i64 0, .int .i64 0, .int .i64 0, .int .i64 0, .int .i64 0, .int .i64 0]) (t := 58) ?_; intro aw hg w4 hbox hb; have y := am hbox; have aC := gwb HB hg; replace HB := hs HB hb; clear hb hbox hg) | ((with_reducible refine gc 86 rfl ?_); refine gl 5 Try.func86 #[.slice z l0.length D] ?_; (with_reducible refine (spec_l9Open.calls _ _ l0 ac ad w _ ?G ?I ?J A2.out).mono ?_); (case G => exact bs HB.out); (case I => exact ar.out); (case J => exact au.out); rintro e w5 ⟨ap, rfl, hi, hb, hb2⟩; refine ⟨_, rfl, ?_⟩; replace HB := am hb; have aq := am hi; have ax := Nq.mk (IsS126.ne_blk hi (blk_belowD y.out hb2 rfl) (by decide)); have ay := Nq.mk (Ne.symm (IsS126.ne_blk hi (blk_belowD y.out hb2 rfl) (by decide))); replace y := am (blk_belowD y.out hb2 rfl); (try clear hi hb hb2)) | ((with_reducible refine gc 89 rfl ?_); refine gl 8 Try.func89 #[.pointer (some ⟨ap, 0, none⟩), .agg #[.slice none 0 0, .slice none 0 0]] ?_; (refine (spec_l2Op.calls k ap ac ad _ _ ([] : List (S36)) _ _ ([] : List (S56)) af ag ah ai aj ak al an av w _ ?G ?I ?J ?az ?aA ?aB A3.out).mono ?_); (case G => exact iis aq.out); (case I => exact bs HB.out); (case J => exact Kd.C_foot_nil); (case az => exact Nat.le_refl _); (case aA => exact Kd.C_foot_nil); (case aB => exact Nat.le_refl _); rintro e w6 ⟨rfl, hi, hb, hk⟩; refine ⟨_, rfl, ?_⟩; replace y := kk y hk; replace HB := am hb; replace aq := am hi; (try clear hi hb hk); have aD := ay.out; have aE := ax.out; obtain ⟨aF, aG, aH, aI, aJ, aK, aL, aM⟩ := bc8 (w := w6) y.out; have aN := blk_frozen y.out))
 refine bodyPost_ret (results_cell_row rfl _ _ aw 58 #[.int .i64 af, .int .i64 ag, .int .i64 ah, .int .i64 ai, .int .i64 aj, .int .i64 ak, .int .i64 al, .int .i64 an] (0, 0) _ rfl (bp y.out rfl) Try.underlying58 rfl (by kernel_rfl)) rfl ?_
 exact ⟨eqr, bs HB.out⟩

/-! ### impl_Node_90: function 90 -/
def impl_Node_90.l0 : Nat → List (S36) → List (S36) → Int → Int → Option (Bool)
 | 0, _, _, _, _ => none
 | k + 1, y, z, D, s => if s < D then (if 0 ≤ s then (if s < (y.length : Int) then (if s < (z.length : Int) then (if (!(((rd_T36 y s).f0) == ((rd_T36 z s).f0)) || (!(((rd_T36 y s).f1) == ((rd_T36 z s).f1)))) = true then (some false) else (impl_Node_90.l0 k y z D (wrap64 (s + 1)))) else (none)) else (none)) else (none)) else (some true)
def impl_Node_90.f (k : Nat) (l0 : List (S36)) (l1 : List (S36)) : Option (Bool) := if (l0.length : Int) = (l1.length : Int) then (impl_Node_90.l0 k l0 l1 (l0.length : Int) 0) else (some false)
theorem impl_Node_90.calls (k : Nat) (A0 : Option Addr) (c0 : Nat) (l0 : List (S36)) (A1 : Option Addr) (X : Nat) (l1 : List (S36)) (r : Bool) (w : World) (aa : Kd.C k36 w A0 l0.length l0) (ab : l0.length ≤ c0) (ac : Kd.C k36 w A1 l1.length l1) (ad : l1.length ≤ X) (h : impl_Node_90.f k l0 l1 = some r) :
  Calls Try.prog 90 #[.slice A0 l0.length c0, .slice A1 l1.length X] w fun e w' => e = .returned (.bool r) ∧ Drawn0 w w' := by
 have hu36 := Try.underlying36
 have ae := am aa
 have aw := am ab
 clear aa ab
 have af := am ac
 have ax := am ad
 clear ac ad
 have H := h; unfold impl_Node_90.f at H
 clear h
 by_cases y : (l0.length : Int) = (l1.length : Int)
 ·rw [if_pos y] at H
  have ag : ((l0.length : Int) == (l1.length : Int)) = true := beq_iff_eq.mpr y
  have ah : ((l0.length : Int) != (l1.length : Int)) = false := bne_eq_false_iff_eq.mpr y
  have ai : (l0.length == l1.length) = true := by first | simpa using y | (simp at y ⊢; omega)
  clear y
  have H' := am H
  clear H
  go_enter Try.func90, Try.ntmps90
  go_wp2
  repeat (go_quiet (fail); try go_wp2)
  go_loopg [13] k (fun kq ak w' => ∃ (s : Int), ak = .int .i64 s ∧ Aside0 (impl_Node_90.l0 kq l0 l1 (l0.length : Int) s = some r) ∧ Aside0 (kq ≤ k) ∧ Drawn0 w w')
  case atStart => exact ⟨(0), eqs, H', ⟨Nat.le_refl _⟩, drs⟩
  case round =>
   clear H'
   try clear X
   try clear p2
   try clear y
   try clear ag
   try clear ah
   try clear ai
   obtain ⟨s, rfl, HA, aj, ⟨m1, rfl⟩⟩ := hrel
   cases gk with
   | zero => exact absurd HA.out (by simp [impl_Node_90.l0])
   | succ k1 =>
    have H := HA.out
    clear HA
    simp only [impl_Node_90.l0] at H
    by_cases J : s < (l0.length : Int)
    ·rw [if_pos J] at H
     have al : decide (s < (l0.length : Int)) = true := decide_eq_true J
     clear J
     by_cases M : 0 ≤ s
     ·rw [if_pos M] at H
      have az : decide (0 ≤ s) = true := decide_eq_true M
      clear M
      by_cases O : s < (l0.length : Int)
      ·rw [if_pos O] at H
       have aA : decide (s < (l0.length : Int)) = true := decide_eq_true O
       clear O
       by_cases T : s < (l1.length : Int)
       ·rw [if_pos T] at H
        have aB : decide (s < (l1.length : Int)) = true := decide_eq_true T
        clear T
        by_cases L : (!(((rd_T36 l0 s).f0) == ((rd_T36 l1 s).f0)) || (!(((rd_T36 l0 s).f1) == ((rd_T36 l1 s).f1)))) = true
        ·rw [if_pos L] at H
         have an : (!(((rd_T36 l0 s).f0) == ((rd_T36 l1 s).f0)) || (!(((rd_T36 l0 s).f1) == ((rd_T36 l1 s).f1)))) = true := L
         clear L
         obtain rfl := Option.some.inj H
         have z : 0 ≤ (s : Int) := oda
         have D : s < (l0.length : Int) := oda
         obtain ⟨ao, Y, ap, aq⟩ := at_T36 ae.out s z D
         cases Y
         replace z := eq_true z
         replace D := eq_true D
         have G : 0 ≤ (s : Int) := oda
         have I : s < (l1.length : Int) := oda
         obtain ⟨ar, Z, au, av⟩ := at_T36 af.out s G I
         cases Z
         replace G := eq_true G
         replace I := eq_true I
         go_wp2
         repeat (go_quiet (fail); try go_wp2)
         go_ret
         exact ⟨eqs, drs⟩
        ·rw [if_neg L] at H
         have an : (!(((rd_T36 l0 s).f0) == ((rd_T36 l1 s).f0)) || (!(((rd_T36 l0 s).f1) == ((rd_T36 l1 s).f1)))) = false := by simpa using L
         clear L
         have H' := am H
         clear H
         have z : 0 ≤ (s : Int) := oda
         have D : s < (l0.length : Int) := oda
         obtain ⟨ao, Y, ap, aq⟩ := at_T36 ae.out s z D
         cases Y
         replace z := eq_true z
         replace D := eq_true D
         have G : 0 ≤ (s : Int) := oda
         have I : s < (l1.length : Int) := oda
         obtain ⟨ar, Z, au, av⟩ := at_T36 af.out s G I
         cases Z
         replace G := eq_true G
         replace I := eq_true I
         go_wp2
         repeat (go_quiet (fail); try go_wp2)
         go_roundg k1
         case measure => have := aj.out; omega
         case rel => exact ⟨(wrap64 (s + 1)), eqs, H', ⟨by have := aj.out; omega⟩, drs⟩
       ·rw [if_neg T] at H
        exact absurd H (by simp)
      ·rw [if_neg O] at H
       exact absurd H (by simp)
     ·rw [if_neg M] at H
      exact absurd H (by simp)
    ·rw [if_neg J] at H
     have al : decide (s < (l0.length : Int)) = false := decide_eq_false J
     clear J
     obtain rfl := Option.some.inj H
     go_wp2
     repeat (go_quiet (fail); try go_wp2)
     go_ret
     exact ⟨eqs, drs⟩
 ·rw [if_neg y] at H
  have ag : ((l0.length : Int) == (l1.length : Int)) = false := beq_eq_false_iff_ne.mpr y
  have ah : ((l0.length : Int) != (l1.length : Int)) = true := bne_iff_ne.mpr y
  have ai : (l0.length == l1.length) = false := by first | simpa using y | (simp at y ⊢; omega)
  obtain rfl := Option.some.inj H
  go_enter Try.func90, Try.ntmps90
  go_wp2
  repeat (go_quiet (fail); try go_wp2)
  go_ret
  exact ⟨eqs, drs⟩

/-! ### impl_Edge: function 91 -/
def impl_Edge.l0 : Nat → List (S56) → List (S56) → Int → Int → Option (Bool)
 | 0, _, _, _, _ => none
 | k + 1, y, z, D, s => if s < D then (if 0 ≤ s then (if s < (y.length : Int) then (if s < (z.length : Int) then (if (!(((rd_T56 y s).f0) == ((rd_T56 z s).f0)) || ((!(((rd_T56 y s).f1.f0) == ((rd_T56 z s).f1.f0)) || (!(((rd_T56 y s).f1.f1) == ((rd_T56 z s).f1.f1)))) || ((!(((rd_T56 y s).f2.f0) == ((rd_T56 z s).f2.f0)) || (!(((rd_T56 y s).f2.f1) == ((rd_T56 z s).f2.f1))))))) = true then (some false) else (impl_Edge.l0 k y z D (wrap64 (s + 1)))) else (none)) else (none)) else (none)) else (some true)
def impl_Edge.f (k : Nat) (l0 : List (S56)) (l1 : List (S56)) : Option (Bool) := if (l0.length : Int) = (l1.length : Int) then (impl_Edge.l0 k l0 l1 (l0.length : Int) 0) else (some false)
theorem impl_Edge.calls (k : Nat) (A0 : Option Addr) (c0 : Nat) (l0 : List (S56)) (A1 : Option Addr) (X : Nat) (l1 : List (S56)) (r : Bool) (w : World) (aa : Kd.C k56 w A0 l0.length l0) (ab : l0.length ≤ c0) (ac : Kd.C k56 w A1 l1.length l1) (ad : l1.length ≤ X) (h : impl_Edge.f k l0 l1 = some r) :
  Calls Try.prog 91 #[.slice A0 l0.length c0, .slice A1 l1.length X] w fun e w' => e = .returned (.bool r) ∧ Drawn0 w w' := by
 have hu56 := Try.underlying56
 have ae := am aa
 have aC := am ab
 clear aa ab
 have af := am ac
 have aD := am ad
 clear ac ad
 have H := h; unfold impl_Edge.f at H
 clear h
 by_cases y : (l0.length : Int) = (l1.length : Int)
 ·rw [if_pos y] at H
  have ag : ((l0.length : Int) == (l1.length : Int)) = true := beq_iff_eq.mpr y
  have ah : ((l0.length : Int) != (l1.length : Int)) = false := bne_eq_false_iff_eq.mpr y
  have ai : (l0.length == l1.length) = true := by first | simpa using y | (simp at y ⊢; omega)
  clear y
  have H' := am H
  clear H
  go_enter Try.func91, Try.ntmps91
  go_wp2
  repeat (go_quiet (fail); try go_wp2)
  go_loopg [13] k (fun kq ak w' => ∃ (s : Int), ak = .int .i64 s ∧ Aside0 (impl_Edge.l0 kq l0 l1 (l0.length : Int) s = some r) ∧ Aside0 (kq ≤ k) ∧ Drawn0 w w')
  case atStart => exact ⟨(0), eqs, H', ⟨Nat.le_refl _⟩, drs⟩
  case round =>
   clear H'
   try clear X
   try clear p2
   try clear y
   try clear ag
   try clear ah
   try clear ai
   obtain ⟨s, rfl, HA, aj, ⟨m1, rfl⟩⟩ := hrel
   cases gk with
   | zero => exact absurd HA.out (by simp [impl_Edge.l0])
   | succ k1 =>
    have H := HA.out
    clear HA
    simp only [impl_Edge.l0] at H
    by_cases J : s < (l0.length : Int)
    ·rw [if_pos J] at H
     have al : decide (s < (l0.length : Int)) = true := decide_eq_true J
     clear J
     by_cases M : 0 ≤ s
     ·rw [if_pos M] at H
      have aF : decide (0 ≤ s) = true := decide_eq_true M
      clear M
      by_cases O : s < (l0.length : Int)
      ·rw [if_pos O] at H
       have aG : decide (s < (l0.length : Int)) = true := decide_eq_true O
       clear O
       by_cases T : s < (l1.length : Int)
       ·rw [if_pos T] at H
        have aH : decide (s < (l1.length : Int)) = true := decide_eq_true T
        clear T
        by_cases L : (!(((rd_T56 l0 s).f0) == ((rd_T56 l1 s).f0)) || ((!(((rd_T56 l0 s).f1.f0) == ((rd_T56 l1 s).f1.f0)) || (!(((rd_T56 l0 s).f1.f1) == ((rd_T56 l1 s).f1.f1)))) || ((!(((rd_T56 l0 s).f2.f0) == ((rd_T56 l1 s).f2.f0)) || (!(((rd_T56 l0 s).f2.f1) == ((rd_T56 l1 s).f2.f1))))))) = true
        ·rw [if_pos L] at H
         have an : (!(((rd_T56 l0 s).f0) == ((rd_T56 l1 s).f0)) || ((!(((rd_T56 l0 s).f1.f0) == ((rd_T56 l1 s).f1.f0)) || (!(((rd_T56 l0 s).f1.f1) == ((rd_T56 l1 s).f1.f1)))) || ((!(((rd_T56 l0 s).f2.f0) == ((rd_T56 l1 s).f2.f0)) || (!(((rd_T56 l0 s).f2.f1) == ((rd_T56 l1 s).f2.f1))))))) = true := L
         clear L
         obtain rfl := Option.some.inj H
         have z : 0 ≤ (s : Int) := oda
         have D : s < (l0.length : Int) := oda
         obtain ⟨ao, Y, ap, aq, ar, au, av⟩ := at_T56 ae.out s z D
         cases Y
         replace z := eq_true z
         replace D := eq_true D
         have G : 0 ≤ (s : Int) := oda
         have I : s < (l1.length : Int) := oda
         obtain ⟨aw, Z, ax, ay, az, aA, aB⟩ := at_T56 af.out s G I
         cases Z
         replace G := eq_true G
         replace I := eq_true I
         go_wp2
         repeat (go_quiet (fail); try go_wp2)
         go_ret
         exact ⟨eqs, drs⟩
        ·rw [if_neg L] at H
         have an : (!(((rd_T56 l0 s).f0) == ((rd_T56 l1 s).f0)) || ((!(((rd_T56 l0 s).f1.f0) == ((rd_T56 l1 s).f1.f0)) || (!(((rd_T56 l0 s).f1.f1) == ((rd_T56 l1 s).f1.f1)))) || ((!(((rd_T56 l0 s).f2.f0) == ((rd_T56 l1 s).f2.f0)) || (!(((rd_T56 l0 s).f2.f1) == ((rd_T56 l1 s).f2.f1))))))) = false := by simpa using L
         clear L
         have H' := am H
         clear H
         have z : 0 ≤ (s : Int) := oda
         have D : s < (l0.length : Int) := oda
         obtain ⟨ao, Y, ap, aq, ar, au, av⟩ := at_T56 ae.out s z D
         cases Y
         replace z := eq_true z
         replace D := eq_true D
         have G : 0 ≤ (s : Int) := oda
         have I : s < (l1.length : Int) := oda
         obtain ⟨aw, Z, ax, ay, az, aA, aB⟩ := at_T56 af.out s G I
         cases Z
         replace G := eq_true G
         replace I := eq_true I
         go_wp2
         repeat (go_quiet (fail); try go_wp2)
         go_roundg k1
         case measure => have := aj.out; omega
         case rel => exact ⟨(wrap64 (s + 1)), eqs, H', ⟨by have := aj.out; omega⟩, drs⟩
       ·rw [if_neg T] at H
        exact absurd H (by simp)
      ·rw [if_neg O] at H
       exact absurd H (by simp)
     ·rw [if_neg M] at H
      exact absurd H (by simp)
    ·rw [if_neg J] at H
     have al : decide (s < (l0.length : Int)) = false := decide_eq_false J
     clear J
     obtain rfl := Option.some.inj H
     go_wp2
     repeat (go_quiet (fail); try go_wp2)
     go_ret
     exact ⟨eqs, drs⟩
 ·rw [if_neg y] at H
  have ag : ((l0.length : Int) == (l1.length : Int)) = false := beq_eq_false_iff_ne.mpr y
  have ah : ((l0.length : Int) != (l1.length : Int)) = true := bne_iff_ne.mpr y
  have ai : (l0.length == l1.length) = false := by first | simpa using y | (simp at y ⊢; omega)
  obtain rfl := Option.some.inj H
  go_enter Try.func91, Try.ntmps91
  go_wp2
  repeat (go_quiet (fail); try go_wp2)
  go_ret
  exact ⟨eqs, drs⟩

/-! ### impl_GraphSame: function 41 -/
def impl_GraphSame.f (k : Nat) (s : List (S36)) (y : List (S56)) (z : List (S36)) (D : List (S56)) : Option (Bool) := (impl_Node_90.f k s z).bind fun G => (if G = true then ((impl_Edge.f k y D).bind fun I => (some I)) else (some false))
theorem impl_GraphSame.calls (k : Nat) (I : Option Addr) (J : Nat) (y : List (S36)) (aa : Option Addr) (ab : Nat) (D : List (S56)) (L : Option Addr) (M : Nat) (z : List (S36)) (ac : Option Addr) (ad : Nat) (G : List (S56)) (r : Bool) (w : World) (ah : Kd.C k36 w I y.length y) (ai : y.length ≤ J) (aj : Kd.C k56 w aa D.length D) (ak : D.length ≤ ab) (al : Kd.C k36 w L z.length z) (an : z.length ≤ M) (ao : Kd.C k56 w ac G.length G) (ap : G.length ≤ ad) (h : impl_GraphSame.f k y D z G = some r) :
  Calls Try.prog 41 #[.agg #[.slice I y.length J, .slice aa D.length ab], .agg #[.slice L z.length M, .slice ac G.length ad]] w fun e w' => e = .returned (.bool r) ∧ Below w.heap.size w w' := by
 have hu34 := Try.underlying34
 have aq := am ah
 have ar := am ai
 clear ah ai
 have az := am aj
 have aA := am ak
 clear aj ak
 have au := am al
 have av := am an
 clear al an
 have aB := am ao
 have aC := am ap
 clear ao ap
 have HB := am (Below.refl w.heap.size w)
 have H := h; unfold impl_GraphSame.f at H
 clear h
 replace H := Option.bind_eq_some_iff.mp H
 obtain ⟨aD, aw, H⟩ := H
 try dsimp -simprocs only at H
 have A3 := am aw
 clear aw
 by_cases c4 : aD = true
 ·subst c4
  replace H : ((impl_Edge.f k D G).bind fun ae => (some ae)) = some r := by rw [if_pos rfl] at H; exact H
  replace H := Option.bind_eq_some_iff.mp H
  obtain ⟨ae, ax, H⟩ := H
  try dsimp -simprocs only at H
  have A5 := am ax
  clear ax
  obtain rfl := Option.some.inj H
  go_enter Try.func41, Try.ntmps41
  go_wp2_with (first | ((with_reducible refine gd 2 rfl ?_); refine bx 2 (cs := #[.slice I y.length J, .slice aa D.length ab]) (t := 34) ?_; intro aE hg w6 hbox hb; have s := am hbox; have aF := gwb HB hg; replace HB := hs HB hb; clear hb hbox hg) | ((with_reducible refine gd 3 rfl ?_); refine bx 3 (cs := #[.slice L z.length M, .slice ac G.length ad]) (t := 34) ?_; intro aG hg w7 hbox hb; have O := am hbox; have aH := gwb HB hg; replace HB := hs HB hb; have af := nq s hg; have ag := nq' s hg; replace s := bb s hb rfl; clear hb hbox hg; have aI := af.out; have aJ := ag.out; obtain ⟨aK, aL⟩ := bc2 (w := w7) s.out; have aM := blk_frozen s.out; obtain ⟨aN, aO⟩ := bc2 (w := w7) O.out; have aP := blk_frozen O.out) | ((with_reducible refine gc 90 rfl ?_); refine gl 9 Try.func90 #[.slice I y.length J, .slice L z.length M] ?_; (with_reducible refine (impl_Node_90.calls k _ _ y _ _ z true _ ?T ?X ?Y ?Z A3.out).mono ?_); (case T => exact Kd.C_below aq.out (bs HB.out)); (case X => exact ar.out); (case Y => exact Kd.C_below au.out (bs HB.out)); (case Z => exact av.out); rintro e w' ⟨rfl, ⟨nd, rfl⟩⟩; refine ⟨_, rfl, ?_⟩) | (go_at_call 91; (with_reducible refine (impl_Edge.calls k _ _ D _ _ G ae _ ?T ?X ?Y ?Z A5.out).mono ?_); (case T => exact Kd.C_below az.out (bs HB.out)); (case X => exact aA.out); (case Y => exact Kd.C_below aB.out (bs HB.out)); (case Z => exact aC.out); rintro e w' ⟨rfl, ⟨nd, rfl⟩⟩))
  go_ret
  exact ⟨eqr, bs HB.out⟩
 ·replace c4 := Bool.eq_false_iff.mpr c4
  subst c4
  have H1 : (some false) = some r := by rw [if_neg (show ¬ (false = true) by decide)] at H; exact H
  clear H
  have H := H1
  clear H1
  obtain rfl := Option.some.inj H
  go_enter Try.func41, Try.ntmps41
  go_wp2_with (first | ((with_reducible refine gd 2 rfl ?_); refine bx 2 (cs := #[.slice I y.length J, .slice aa D.length ab]) (t := 34) ?_; intro aE hg aQ hbox hb; have s := am hbox; have aF := gwb HB hg; replace HB := hs HB hb; clear hb hbox hg) | ((with_reducible refine gd 3 rfl ?_); refine bx 3 (cs := #[.slice L z.length M, .slice ac G.length ad]) (t := 34) ?_; intro aG hg ay hbox hb; have O := am hbox; have aH := gwb HB hg; replace HB := hs HB hb; have af := nq s hg; have ag := nq' s hg; replace s := bb s hb rfl; clear hb hbox hg; have aR := af.out; have aS := ag.out; obtain ⟨aT, aU⟩ := bc2 (w := ay) s.out; have aV := blk_frozen s.out; obtain ⟨aW, aX⟩ := bc2 (w := ay) O.out; have aY := blk_frozen O.out) | ((with_reducible refine gc 90 rfl ?_); refine gl 9 Try.func90 #[.slice I y.length J, .slice L z.length M] ?_; (with_reducible refine (impl_Node_90.calls k _ _ y _ _ z false _ ?T ?X ?Y ?Z A3.out).mono ?_); (case T => exact Kd.C_below aq.out (bs HB.out)); (case X => exact ar.out); (case Y => exact Kd.C_below au.out (bs HB.out)); (case Z => exact av.out); rintro e w' ⟨rfl, ⟨nd, rfl⟩⟩; refine ⟨_, rfl, ?_⟩))
  go_ret
  exact ⟨eqr, bs HB.out⟩

end Go.Proofs.Ytohmemckdogljaa.QFnGraphBent
