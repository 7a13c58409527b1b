/- Contracts of the Go functions that this law reaches: each does what its plain Lean function says. No condition. -/
import Derived.Test.YtohmemckdogljaaQFnExactGraphDox0
import Derived.Test.YtohmemckdogljaaQFnExactGraphDox14
import Derived.Test.YtohmemckdogljaaQFnExactGraphDox15
import Derived.Test.YtohmemckdogljaaQFnExactGraphDox16
import Derived.Test.YtohmemckdogljaaQFnExactGraphDox17
import Derived.Test.YtohmemckdogljaaQFnExactGraphDox18
namespace Go.Proofs.Ytohmemckdogljaa.QFnExactGraphDo
open Go.RowKit Go.Proofs.YtohmemckdogljaaW.PrintWords Go.Proofs.YtohmemckdogljaaW.PrintLast Go.Proofs.YtohmemckdogljaaW.PrintMore Go.Proofs.Ytohmemckdogljaa.Bl
attribute [local go_sem] max2_int min2_int max_two min_two max_three min_three max_four min_four   -- for this text's walks alone
set_option linter.unusedVariables false
set_option linter.unusedSimpArgs false
set_option maxHeartbeats 8000000
set_option maxRecDepth 100000

/-! ### impl_GraphDo: function 53 -/
/-! what the four methods and GraphDo itself do -/
/-- How many nodes, edges there are of a label. -/
def cntN (a : Int) (l : List S36) : Nat := (l.filter fun x => x.f0 == a).length
def cntE (a : Int) (l : List S56) : Nat := (l.filter fun x => x.f0 == a).length
theorem cntN_le (a : Int) (l : List S36) : cntN a l ≤ l.length := List.length_filter_le _ _
theorem cntE_le (a : Int) (l : List S56) : cntE a l ≤ l.length := List.length_filter_le _ _
theorem cntN_one (a : Int) (l : List S36) (i : Nat) (h : i < l.length) : cntN a (l.take (i + 1)) = cntN a (l.take i) + if (rd_T36 l (i : Int)).f0 = a then 1 else 0 := by
  have e : rd_T36 l (i : Int) = l[i] := by unfold rd_T36; rw [Int.toNat_natCast, List.getD_eq_getElem?_getD, List.getElem?_eq_getElem h]; rfl
  rw [e]
  unfold cntN
  rw [List.take_succ_eq_append_getElem h, List.filter_append, List.length_append]
  by_cases c : l[i].f0 = a
  · rw [if_pos c, List.filter_cons_of_pos (by simp [c])]; rfl
  · rw [if_neg c, List.filter_cons_of_neg (by simp [c])]; rfl
theorem cntE_one (a : Int) (l : List S56) (i : Nat) (h : i < l.length) : cntE a (l.take (i + 1)) = cntE a (l.take i) + if (rd_T56 l (i : Int)).f0 = a then 1 else 0 := by
  have e : rd_T56 l (i : Int) = l[i] := by unfold rd_T56; rw [Int.toNat_natCast, List.getD_eq_getElem?_getD, List.getElem?_eq_getElem h]; rfl
  rw [e]
  unfold cntE
  rw [List.take_succ_eq_append_getElem h, List.filter_append, List.length_append]
  by_cases c : l[i].f0 = a
  · rw [if_pos c, List.filter_cons_of_pos (by simp [c])]; rfl
  · rw [if_neg c, List.filter_cons_of_neg (by simp [c])]; rfl
def gdPN (k : Nat) (ns : List S36) (a b : Int) : Option (List S36 × Int) :=
  (impl_bsf.f k ns a b).bind fun q => if q.2 = true then some (ns, 2) else if 5 ≤ cntN a ns then some (ns, 4) else (insfN ns q.1 [⟨a, b⟩]).bind fun r => some (r, 0)
def gdTN (k : Nat) (ns : List S36) (es : List S56) (a b : Int) : Option (List S36 × List S56 × Int) :=
  (impl_bsf.f k ns a b).bind fun q => if q.2 = true then (delfnN ns q.1 (q.1 + 1)).bind fun r => some (r, es.filter (fun e => !hasN a b e), 0) else some (ns, es, 3)
def gdPE (k : Nat) (ns : List S36) (es : List S56) (l a b c d : Int) : Option (List S56 × Int) :=
  (impl_bse.f k es l a b c d).bind fun q => if q.2 = true then some (es, 2) else (impl_nodeThere.f k ns a b).bind fun t => if t = true then ((impl_nodeThere.f k ns c d).bind fun s => if s = true then (if 7 ≤ cntE l es then some (es, 4) else (insfE es q.1 [⟨l, ⟨a, b⟩, ⟨c, d⟩⟩]).bind fun r => some (r, 0)) else some (es, 3)) else some (es, 3)
def gdTE (k : Nat) (es : List S56) (l a b c d : Int) : Option (List S56 × Int) :=
  (impl_bse.f k es l a b c d).bind fun q => if q.2 = true then (delfnE es q.1 (q.1 + 1)).bind fun r => some (r, 0) else some (es, 3)
/-! (*Graph).putNode -/
def gdPN.T13 : Bool × List (List Nat × List Nat) := (true, [([], []), ([], []), ([1], [1]), ([2], [2]), ([3], [3]), ([], []), ([], []), ([6], [6]), ([4, 5, 7], [4, 5, 7]), ([0, 0, 1, 2, 3, 4, 5, 6, 7, 8], [0]), ([9, 0, 1, 2, 3, 4, 5, 6, 7, 8], [9]), ([10, 8, 8, 0, 1, 2, 3, 4, 5, 6, 7, 8], [8, 10])])
def gdPN.B13 : List Nat := [0, 0, 2, 6, 14, 0, 0, 64, 254, 511, 1023, 2047]
theorem gdPN.tab13 : rtab .any (opsOf Try.f100 13) = gdPN.T13 := by kernel_rfl
theorem gdPN.bits13 : waitsOk gdPN.T13.2 gdPN.B13 = true := by kernel_rfl
set_option maxHeartbeats 8000000 in
set_option maxRecDepth 100000 in
theorem gd_putN (k b : Nat) (ns : List S36) (es : List S56) (J T : Option Addr) (X : Nat) (s I : Int) (r : List S36) (code : Int) (w0 w : World) (hB : Below w0.heap.size w0 w) (hb0 : w0.heap.size ≤ b) (Y : Nat) (cs4 : Array Value) (h4 : w.heap[Y]? = some (.cells cs4 34 (0, 0))) (h4b : Y ≠ b) (hm : ns.length ≤ 1000) (hA : ns.length = 0 → J = none)
    (hK : w.heap[b]? = some (.cells #[.slice J ns.length ns.length, .slice T es.length X] 34 (0, 0))) (hR0 : Kd.R k36 36 w w0.heap.size (fun _ => True) (.slice J ns.length ns.length) ns) (hR1 : Kd.R k56 56 w w0.heap.size (fun _ => True) (.slice T es.length X) es) (h : gdPN k ns s I = some (r, code)) :
    Calls Try.prog 100 #[.pointer (some ⟨b, 0, none⟩), .agg #[.int .i64 s, .int .i64 I]] w fun e w' => e = .returned (.int .i64 code) ∧ ∃ u0 u1, w'.heap[b]? = some (.cells #[u0, u1] 34 (0, 0)) ∧ Kd.R k36 36 w' w0.heap.size (fun _ => True) u0 r ∧ Kd.R k56 56 w' w0.heap.size (fun _ => True) u1 es ∧ Below w0.heap.size w0 w' ∧ w'.heap[Y]? = some (.cells cs4 34 (0, 0)) := by
  have hu34 := Try.underlying34
  have hu36 := Try.underlying36
  have D := am hR0
  have G := am hR1
  have BK := am hK
  have GEb : Ge w0 b := ⟨hb0⟩
  have B4 := am h4
  have N4b : Nq Y b := ⟨h4b⟩
  clear h4 h4b
  have HA := am hA
  have HM := am hm
  have HB := am hB
  clear hR0 hR1 hK hB hA hm hb0
  obtain ⟨⟨p, t⟩, hq, h⟩ := Option.bind_eq_some_iff.1 h
  have HQ := am hq
  have H := am h
  clear hq h
  go_enter Try.func100, Try.ntmps100
  go_wp2_with (first | ((with_reducible refine gd 3 rfl ?_); refine bx 3 (cs := #[.int .i64 s, .int .i64 I]) (t := 36) ?_; intro gn hg w2 hbox hb; replace D := rb D hb; replace G := rb G hb; have BN := am hbox; have GN := gwb HB hg; replace HB := hs HB hb; have N4n := nq B4 hg; have NB := nq BK hg; have NB' := nq' BK hg; replace BK := bb BK hb rfl; replace B4 := bb B4 hb rfl; clear hb hbox hg))
  replace D := rd_ D
  replace G := rd_ G
  replace BK := bd BK
  replace B4 := bd B4
  replace BN := bd BN
  replace HB := hd HB
  refine wp_region_bel (by kernel_rfl) (by kernel_rfl) ?_
  generalize w2.drew = w3 at D G BK B4 BN HB ⊢
  have ah : ∀ p_ : Bel w3, p_.v.cell? ⟨b, 0, none⟩ = some (.slice J ns.length ns.length) := fun p_ => cell_bel (cx BK 0) p_
  have ai : ∀ p_ : Bel w3, p_.v.cell? ⟨gn, 0, none⟩ = some (.int .i64 s) := fun p_ => cell_bel ((blk_cell BN.out 0).trans rfl) p_
  have aj : ∀ p_ : Bel w3, p_.v.cell? ⟨gn, 1, none⟩ = some (.int .i64 I) := fun p_ => cell_bel ((blk_cell BN.out 1).trans rfl) p_
  repeat (go_big_quiet_step (first
   | (with_reducible show Calls Try.prog 110 #[.slice J ns.length ns.length, .agg #[.int .i64 s, .int .i64 I], .func (.func 105) #[] #[]] _ _; with_reducible refine calls_bel (impl_bsf.calls k _ _ ns s I p t _ ?aa ?ab HQ.out); (case aa => exact cr D); (case ab => exact Nat.le_refl _))))
  refine wpQuiet_nil ?_
  intro w4 hw'
  obtain ⟨⟨wq_, hb⟩, hw''⟩ := hw'
  subst hw''
  clear ah ai aj
  replace D := rb D hb
  replace G := rb G hb
  replace BK := bb BK hb rfl
  replace B4 := bb B4 hb rfl
  replace BN := bb BN hb rfl
  replace HB := hs HB hb
  clear hb
  cases t with
  | true =>
    have h := H.out
    rw [if_pos rfl] at h
    simp only [Option.some.injEq, Prod.mk.injEq] at h
    obtain ⟨rfl, rfl⟩ := h
    go_wp2
    go_ret
    exact ⟨eqr, _, _, bf BK.out, rl D.out, rl G.out, bs HB.out, bf B4.out⟩
  | false =>
    have h := H.out
    rw [if_neg (by decide)] at h
    replace H := am h
    clear h
    have ak := NB.out
    have al := NB'.out
    obtain ⟨an, ao⟩ := bc2 (w := w4) BK.out
    have ap := blk_frozen BK.out
    go_wp2
    go_loopg [7, 25] ns.length (fun kq v7 aq w' => ∃ (i : Nat), v7 = .int .i64 ((cntN s (ns.take i) : Nat) : Int) ∧ aq = .int .i64 (i : Int) ∧ Aside0 (i + kq = ns.length) ∧ Aside0 (Kd.R k36 36 w' w0.heap.size (fun _ => True) (.slice J ns.length ns.length) ns) ∧ Aside0 (Kd.R k56 56 w' w0.heap.size (fun _ => True) (.slice T es.length X) es) ∧ Aside0 (w'.heap[b]? = some (.cells #[.slice J ns.length ns.length, .slice T es.length X] 34 (0, 0))) ∧ Aside0 (w'.heap[Y]? = some (.cells cs4 34 (0, 0))) ∧ Aside0 (w'.heap[gn]? = some (.cells #[.int .i64 s, .int .i64 I] 36 (0, 0))) ∧ Aside0 (Below w0.heap.size w0 w'))
    case atStart => exact ⟨0, (by first | rfl | (simp [cntN]; done)), (by first | rfl | (simp; done)), ⟨by omega⟩, ⟨rl D.out⟩, ⟨rl G.out⟩, ⟨bf BK.out⟩, ⟨bf B4.out⟩, ⟨bf BN.out⟩, ⟨bs HB.out⟩⟩
    case round =>
      clear ak al an ao ap D G BK B4 BN HB
      obtain ⟨i, rfl, rfl, L, D, G, BK, B4, BN, HB⟩ := hrel
      cases gk with
      | zero =>
        have e := L.out
        have ar : decide ((i : Int) < (ns.length : Int)) = false := decide_eq_false (by omega)
        have aL : ¬ ((i : Int) < (ns.length : Int)) := by omega
        have aM : ¬ (i < ns.length) := by omega
        have e2 : ns.take i = ns := List.take_of_length_le (by omega)
        rw [e2]
        clear e e2 L
        by_cases c5 : 5 ≤ cntN s ns
        · have h := H.out
          rw [if_pos c5] at h
          simp only [Option.some.injEq, Prod.mk.injEq] at h
          obtain ⟨rfl, rfl⟩ := h
          have au : decide ((5 : Int) ≤ ((cntN s ns : Nat) : Int)) = true := decide_eq_true (by omega)
          have av : (5 : Int) ≤ ((cntN s ns : Nat) : Int) := by omega
          go_wp2
          go_ret
          exact ⟨eqr, _, _, bf BK.out, rl D.out, rl G.out, bs HB.out, bf B4.out⟩
        · have h := H.out
          rw [if_neg c5] at h
          obtain ⟨x, hx, h⟩ := Option.bind_eq_some_iff.1 h
          have HX := am hx
          clear hx H
          simp only [Option.some.injEq, Prod.mk.injEq] at h
          obtain ⟨rfl, rfl⟩ := h
          have au : decide ((5 : Int) ≤ ((cntN s ns : Nat) : Int)) = false := decide_eq_false (by omega)
          have av : ¬ (5 : Int) ≤ ((cntN s ns : Nat) : Int) := by omega
          go_wp2
          replace D := rd_ D
          replace G := rd_ G
          replace BK := bd BK
          replace B4 := bd B4
          replace BN := bd BN
          replace HB := hd HB
          refine sta 12 (fun w' => w'.cell? ⟨b, 0, none⟩ = some (.slice J ns.length ns.length) ∧ w'.cell? ⟨b, 1, none⟩ = some (.slice T es.length X) ∧ w'.cell? ⟨gn, 0, none⟩ = some (.int .i64 s) ∧ w'.cell? ⟨gn, 1, none⟩ = some (.int .i64 I)) [11] ⟨cx BK 0, cx BK 1, (blk_cell BN.out 0).trans rfl, (blk_cell BN.out 1).trans rfl⟩ (fun hHeld => ?_); refine with_tabW gdPN.tab13 gdPN.bits13 (fun HT_ HW_ => ?_)
          generalize wr.drew = w5 at D G BK B4 BN HB hHeld ⊢
          refine pu 0 39 ?_
          refine pu 1 40 ?_
          refine pu 2 41 ?_
          refine pu 3 42 ?_
          refine pu 5 44 ?_
          refine tk 4 43 ?_
          refine tk 6 45 ?_
          refine on 7 46 (fun K hK => ?_)
          refine Kd.R_lit_step k36 _ 36 ?hg (N := 46) ?hd (xs := ([(⟨s, I⟩ : S36)] : List (S36))) (inner := [.int .i64 s, .int .i64 I]) (ok := fun _ => True) (okp := fun _ => True) ?hr ?hp (fun _ hk => hk) trivial (Below.refl _ _) (Nat.le_refl _) (by simp) ?_; (case hd => rfl); (case hg => rfl); (case hr => first | (go_simp; done) | (go_simp; rfl)); (case hp => exact (Reps.c2 (show Kd.M k36 _ _ _ (⟨s, I⟩ : S36) [.int .i64 s, .int .i64 I] from (k36_mkM _ _ _ (⟨s, I⟩ : S36) )) (Reps.none _ _)))
          intro aN w6 ac hb hg_ hnew_
          clear hg_ hnew_
          have HOX := am ac
          replace D := rb D hb
          replace G := rb G hb
          replace BK := bb BK hb rfl
          replace B4 := bb B4 hb rfl
          replace BN := bb BN hb rfl
          replace HB := hs HB hb
          clear hb ac
          obtain ⟨Ax, cx_, ex⟩ := Kd.R_slice HOX.out
          subst ex
          refine hK.out _ _ ⟨cx BK 0, cx BK 1, (blk_cell BN.out 0).trans rfl, (blk_cell BN.out 1).trans rfl⟩ (fun hHeld => ?_)
          clear hK K
          refine nrm 46 ?_
          refine on 8 47 (fun K hK => ?_)
          refine gs Try.func129 #[.slice J ns.length ns.length, .int .i64 p, .slice Ax ([(⟨s, I⟩ : S36)] : List (S36)).length cx_] ?_
          with_reducible refine (inscN J ns.length ns p Ax cx_ [(⟨s, I⟩ : S36)] x _ ?aa ?ab ?aw ?ax HX.out rfl HA.out ?ay).mono ?_
          (case aa => exact cr D)
          (case ab => exact Nat.le_refl _)
          (case aw => exact cr HOX)
          (case ax => exact cc HOX)
          (case ay => intro hp; obtain ⟨g, cap, rest, he, _⟩ := R_blk D.out hp; injection he with he _ _; exact ⟨g, he⟩)
          rintro e w7 ⟨aO, rfl, ae, hb⟩
          refine ⟨_, rfl, ?_⟩
          have HOY := am (Kd.R_lower ae (below_size (bs HB.out)))
          replace G := rb G hb
          replace BK := bb BK hb rfl
          replace B4 := bb B4 hb rfl
          replace BN := bb BN hb rfl
          replace HB := hs HB hb
          clear hb ae
          refine hK.out _ _ ⟨cx BK 0, cx BK 1, (blk_cell BN.out 0).trans rfl, (blk_cell BN.out 1).trans rfl⟩ (fun hHeld => ?_)
          clear hK K
          refine nrm 47 ?_
          refine pu 9 48 ?_
          refine pu 10 49 ?_
          refine la0 11 (fun K hK => ?_)
          have aP : w7.cell? ⟨b, 0, none⟩ = some (.slice J ns.length ns.length) := cx BK 0
          have aQ := blk_frozen BK.out 0
          obtain ⟨Ay, cy, ey⟩ := Kd.R_slice HOY.out
          subst ey
          refine skip_ (w1 := ?_) (by rfl) rfl ?_ ?_
          rotate_left
          · go_simp
            rfl
          refine hK.out _ _ ?_
          clear hK K
          refine dn ?_
          go_wp2
          go_ret
          exact ⟨eqr, _, _, bp BK.out rfl, Kd.R_mono (rt HOY.out BK.out (by decide)) (fun _ _ => trivial), Kd.R_mono (rt G.out BK.out (by decide)) (fun _ _ => trivial), bs HB.out, bf B4.out⟩
      | succ k1 =>
        have e := L.out
        have ar : decide ((i : Int) < (ns.length : Int)) = true := decide_eq_true (by omega)
        have hl := cntN_one s ns i (by omega)
        have hc := cntN_le s (ns.take i)
        rw [List.length_take] at hc
        have p0 : (0 : Int) ≤ (i : Int) := by omega
        have q0 : (i : Int) < (ns.length : Int) := by omega
        obtain ⟨ad, ea, af, ag⟩ := at_T36 (Kd.R_reads' D.out).2.2 (i : Int) p0 q0
        cases ea
        simp only [Int.toNat_natCast] at af ag
        obtain ⟨cn, hcn⟩ : ∃ n, n = cntN s (ns.take i) := ⟨_, rfl⟩
        rw [← hcn] at hl hc ⊢
        have hc' : cn ≤ 1000 := by have := HM.out; omega
        have HC := am hc'
        have HL := am hl
        replace p0 := eq_true p0
        replace q0 := eq_true q0
        clear hcn hl hc hc' e
        generalize (rd_T36 ns (i : Int)) = y at HL af ag
        obtain ⟨O, y1⟩ := y
        by_cases c2 : O = s
        · have hl := HL.out
          rw [if_pos c2] at hl
          have HL := am hl
          have az : (O == s) = true := beq_iff_eq.mpr c2
          have aA : (O != s) = false := bne_eq_false_iff_eq.mpr c2
          clear c2 hl
          go_wp2_with (first | ((with_reducible refine gd 9 rfl ?_); refine bx 9 (cs := #[.int .i64 0, .int .i64 0]) (t := 36) ?_; intro gx hg Z hbox hb; replace D := am (Kd.R_below (Kd.R_elderB (rl D.out) gx (Nat.le_of_eq hg.symm)) hb); replace G := rb G hb; have BX := am hbox; have GX := gwb HB hg; replace HB := hs HB hb; have NX4 := nq B4 hg; have NX := nq BK hg; have NX' := nq' BK hg; replace BK := bb BK hb rfl; replace B4 := bb B4 hb rfl; have NY := nq BN hg; have NY' := nq' BN hg; replace BN := bb BN hb rfl; clear hb hbox hg; have aB := NX.out; have aC := NX'.out; have aD := NY.out; have aE := NY'.out; obtain ⟨aF, aG⟩ := bc2 (w := Z) BX.out; have aH := blk_frozen BX.out; obtain ⟨aI, aJ⟩ := bc2 (w := Z) BN.out; have aK := blk_frozen BN.out))
          go_roundg k1
          case measure => have := L.out; omega
          case rel => exact ⟨i + 1, (by rw [HL.out]; simp; unfold wrap64; have := HC.out; omega), (by first | rfl | (simp; done) | (simp; unfold wrap64; have := L.out; have := HM.out; omega)), ⟨by have := L.out; omega⟩, ⟨Kd.R_mono (Kd.R_far (p := ⟨gx, 1, none⟩) (Kd.R_far (p := ⟨gx, 0, none⟩) (Kd.R_mono D.out (fun k_ hk => (⟨hk, hk.2⟩ : _ ∧ k_ ≠ gx))) (fun _ hk => hk.2) (.int .i64 O)) (fun _ hk => hk.2) (.int .i64 y1)) (fun _ _ => trivial)⟩, ⟨Kd.R_mono (rt G.out BX.out (by decide)) (fun _ _ => trivial)⟩, ⟨bf BK.out⟩, ⟨bf B4.out⟩, ⟨bf BN.out⟩, ⟨bs HB.out⟩⟩
        · have hl := HL.out
          rw [if_neg c2] at hl
          have HL := am hl
          have az : (O == s) = false := beq_eq_false_iff_ne.mpr c2
          have aA : (O != s) = true := bne_iff_ne.mpr c2
          clear c2 hl
          go_wp2_with (first | ((with_reducible refine gd 9 rfl ?_); refine bx 9 (cs := #[.int .i64 0, .int .i64 0]) (t := 36) ?_; intro gx hg Z hbox hb; replace D := am (Kd.R_below (Kd.R_elderB (rl D.out) gx (Nat.le_of_eq hg.symm)) hb); replace G := rb G hb; have BX := am hbox; have GX := gwb HB hg; replace HB := hs HB hb; have NX4 := nq B4 hg; have NX := nq BK hg; have NX' := nq' BK hg; replace BK := bb BK hb rfl; replace B4 := bb B4 hb rfl; have NY := nq BN hg; have NY' := nq' BN hg; replace BN := bb BN hb rfl; clear hb hbox hg; have aB := NX.out; have aC := NX'.out; have aD := NY.out; have aE := NY'.out; obtain ⟨aF, aG⟩ := bc2 (w := Z) BX.out; have aH := blk_frozen BX.out; obtain ⟨aI, aJ⟩ := bc2 (w := Z) BN.out; have aK := blk_frozen BN.out))
          go_roundg k1
          case measure => have := L.out; omega
          case rel => exact ⟨i + 1, (by rw [HL.out]; simp), (by first | rfl | (simp; done) | (simp; unfold wrap64; have := L.out; have := HM.out; omega)), ⟨by have := L.out; omega⟩, ⟨Kd.R_mono (Kd.R_far (p := ⟨gx, 1, none⟩) (Kd.R_far (p := ⟨gx, 0, none⟩) (Kd.R_mono D.out (fun k_ hk => (⟨hk, hk.2⟩ : _ ∧ k_ ≠ gx))) (fun _ hk => hk.2) (.int .i64 O)) (fun _ hk => hk.2) (.int .i64 y1)) (fun _ _ => trivial)⟩, ⟨Kd.R_mono (rt G.out BX.out (by decide)) (fun _ _ => trivial)⟩, ⟨bf BK.out⟩, ⟨bf B4.out⟩, ⟨bf BN.out⟩, ⟨bs HB.out⟩⟩
/-! (*Graph).takeNode -/
section
variable {α β : Type} {d : Kd α} {d' : Kd β} {e e' base base' : Nat} {ok ok' : Nat → Prop} {w0 w w' : World} {v v' : Value} {xs : List α} {ys : List β}
/-- A row, behind stores into a row of another type. -/
theorem R_gr2 (h : d.R e w base ok v xs) (r : d'.R e' w base' ok' v' ys) (hg : w.grownBy w' v'.ownBlock) (ht : ∀ q, q ∈ e :: d.E → q ≠ e') : d.R e w' base ok v xs := by
  obtain ⟨hok, inner, ⟨hl, ho⟩, hr⟩ := r
  rcases ho with ⟨hv, h0⟩ | ⟨g, cap, cur, rfl, hb, hh, _⟩
  · subst hv; exact Kd.R_step h (fun q hq hl => hg.block q hl (fun e => by cases e))
  · exact Kd.R_mono (Kd.R_step (Kd.R_types h hh ht) (fun q hq hl => hg.block q hl (fun e => hq.2 (Option.some.inj e)))) (fun _ hq => hq.1)
theorem below_gr2 (hB : Below w0.heap.size w0 w) (r : d'.R e' w w0.heap.size ok' v' ys) (hg : w.grownBy w' v'.ownBlock) : Below w0.heap.size w0 w' := by
  obtain ⟨hok, inner, ⟨hl, ho⟩, hr⟩ := r
  refine hB.trans ⟨hg.os, hg.tape, hg.output, hg.size, fun k hk => hg.block k (Nat.lt_of_lt_of_le hk hB.size) (fun e => ?_)⟩
  rcases ho with ⟨hv, h0⟩ | ⟨g, cap, cur, rfl, hb, hh, _⟩
  · subst hv; cases e
  · injection e with e; subst e; exact Nat.lt_irrefl _ (Nat.lt_of_lt_of_le hk hb)
end
set_option maxHeartbeats 8000000 in
set_option maxRecDepth 100000 in
theorem gd_takeN (k b : Nat) (ns : List S36) (es : List S56) (X O : Option Addr) (D T : Nat) (J L : Int) (r : List S36) (r' : List S56) (code : Int) (w0 w : World) (hB : Below w0.heap.size w0 w) (hb0 : w0.heap.size ≤ b) (Y : Nat) (cs4 : Array Value) (h4 : w.heap[Y]? = some (.cells cs4 34 (0, 0))) (h4b : Y ≠ b) (hm : ns.length ≤ 1000 ∧ es.length ≤ 1000)
    (hK : w.heap[b]? = some (.cells #[.slice X ns.length D, .slice O es.length T] 34 (0, 0))) (hR0 : Kd.R k36 36 w w0.heap.size (fun _ => True) (.slice X ns.length D) ns) (hR1 : Kd.R k56 56 w w0.heap.size (fun _ => True) (.slice O es.length T) es) (h : gdTN k ns es J L = some (r, r', code)) :
    Calls Try.prog 101 #[.pointer (some ⟨b, 0, none⟩), .agg #[.int .i64 J, .int .i64 L]] w fun e w' => e = .returned (.int .i64 code) ∧ ∃ u0 u1, w'.heap[b]? = some (.cells #[u0, u1] 34 (0, 0)) ∧ Kd.R k36 36 w' w0.heap.size (fun _ => True) u0 r ∧ Kd.R k56 56 w' w0.heap.size (fun _ => True) u1 r' ∧ Below w0.heap.size w0 w' ∧ w'.heap[Y]? = some (.cells cs4 34 (0, 0)) := by
  have hu34 := Try.underlying34
  have hu36 := Try.underlying36
  have s := am hR0
  have z := am hR1
  have BK := am hK
  have GEb : Ge w0 b := ⟨hb0⟩
  have B4 := am h4
  have N4b : Nq Y b := ⟨h4b⟩
  clear h4 h4b
  have HM := am hm
  have HB := am hB
  clear hR0 hR1 hK hB hm hb0
  obtain ⟨⟨p, t⟩, hq, h⟩ := Option.bind_eq_some_iff.1 h
  have HQ := am hq
  have H := am h
  clear hq h
  go_enter Try.func101, Try.ntmps101
  go_wp2_with (first | ((with_reducible refine gd 3 rfl ?_); refine bx 3 (cs := #[.int .i64 J, .int .i64 L]) (t := 36) ?_; intro gn hg w2 hbox hb; replace s := am (Kd.R_below (Kd.R_elderB (rl s.out) gn (Nat.le_of_eq hg.symm)) hb); replace z := am (Kd.R_below (Kd.R_elderB (rl z.out) gn (Nat.le_of_eq hg.symm)) hb); have BN := am hbox; have GN := gwb HB hg; replace HB := hs HB hb; have N4n := nq B4 hg; have NB := nq BK hg; have NB' := nq' BK hg; replace BK := bb BK hb rfl; replace B4 := bb B4 hb rfl; clear hb hbox hg))
  replace s := rd_ s
  replace z := rd_ z
  replace BK := bd BK
  replace B4 := bd B4
  replace BN := bd BN
  replace HB := hd HB
  refine wp_region_bel (by kernel_rfl) (by kernel_rfl) ?_
  generalize w2.drew = w3 at s z BK B4 BN HB ⊢
  have ab : ∀ p_ : Bel w3, p_.v.cell? ⟨b, 0, none⟩ = some (.slice X ns.length D) := fun p_ => cell_bel (cx BK 0) p_
  have ac : ∀ p_ : Bel w3, p_.v.cell? ⟨gn, 0, none⟩ = some (.int .i64 J) := fun p_ => cell_bel ((blk_cell BN.out 0).trans rfl) p_
  have ae : ∀ p_ : Bel w3, p_.v.cell? ⟨gn, 1, none⟩ = some (.int .i64 L) := fun p_ => cell_bel ((blk_cell BN.out 1).trans rfl) p_
  repeat (go_big_quiet_step (first
   | (with_reducible show Calls Try.prog 110 #[.slice X ns.length D, .agg #[.int .i64 J, .int .i64 L], .func (.func 105) #[] #[]] _ _; with_reducible refine calls_bel (impl_bsf.calls k _ _ ns J L p t _ ?af ?ag HQ.out); (case af => exact cr s); (case ag => exact cc s))))
  refine wpQuiet_nil ?_
  intro w4 hw'
  obtain ⟨⟨wq_, hb⟩, hw''⟩ := hw'
  subst hw''
  clear ab ac ae
  replace s := rb s hb
  replace z := rb z hb
  replace BK := bb BK hb rfl
  replace B4 := bb B4 hb rfl
  replace BN := bb BN hb rfl
  replace HB := hs HB hb
  clear hb
  cases t with
  | false =>
    have h := H.out
    rw [if_neg (by decide)] at h
    simp only [Option.some.injEq, Prod.mk.injEq] at h
    obtain ⟨rfl, rfl, rfl⟩ := h
    go_wp2
    go_ret
    exact ⟨eqr, _, _, bf BK.out, Kd.R_mono (rl s.out) (fun _ _ => trivial), Kd.R_mono (rl z.out) (fun _ _ => trivial), bs HB.out, bf B4.out⟩
  | true =>
    have h := H.out
    rw [if_pos rfl] at h
    obtain ⟨x, hx, h⟩ := Option.bind_eq_some_iff.1 h
    simp only [Option.some.injEq, Prod.mk.injEq] at h
    obtain ⟨rfl, rfl, rfl⟩ := h
    unfold delfnN at hx
    by_cases hm : 0 ≤ p ∧ p < (ns.length : Int) ∧ p + 1 = p + 1 ∧ ns.length ≤ 1000
    · rw [if_pos hm] at hx
      obtain ⟨h0, h1, _, h3⟩ := hm
      obtain ⟨i, rfl⟩ := Int.eq_ofNat_of_zero_le h0
      rw [Int.toNat_natCast] at hx
      obtain rfl := Option.some.inj hx
      obtain ⟨g, cap, rest, he, o1, o2, o3, o4, o5, hcm⟩ := R_blk s.out (by omega)
      injection he with he1 _ he2
      subst he1
      subst he2
      have HI := am h1
      have HCM := am hcm
      have q2 : IntKind.i64.wrap ((i : Int) + 1) = (i : Int) + 1 := by rw [IntKind.wrap_i64]; omega
      have q3 : wrap64 ((i : Int) + 1) = (i : Int) + 1 := by unfold wrap64; omega
      have Z : w4.cell? ⟨b, 0, none⟩ = some (.slice (some ⟨g, 0, none⟩) ns.length D) := cx BK 0
      clear h0 h1 h3 hcm H o1 o2 o3 o4 o5 rest
      go_wp2_with fail
      refine (deleN g D ns i w0.heap.size (fun k_ => True ∧ k_ ≠ gn) _ (rl s.out) (by have := HI.out; omega) HM.out.1 HCM.out).mono ?_
      rintro e G ⟨rfl, hR5, hg5⟩
      have n1 := am (R_gr2 (rl z.out) (rl s.out) hg5 (by decide))
      have n2 := gr BK s hg5
      have m2 := gr B4 s hg5
      have n3 := am (blk_grown BN.out hg5 (fun e => (s.out.1 gn e.symm).2 rfl))
      have n4 := am (below_gr2 (bs HB.out) (rl s.out) hg5)
      have n5 := am hR5
      clear s z BK B4 BN HB hg5 hR5 Z
      have Z : G.cell? ⟨b, 0, none⟩ = some (.slice (some ⟨g, 0, none⟩) ns.length D) := (blk_cell n2.out 0).trans rfl
      have aa : G.cell? ⟨b, 1, none⟩ = some (.slice O es.length T) := (blk_cell n2.out 1).trans rfl
      have hfs := blk_frozen n2.out
      go_wp2_with fail
      have BK := am (bp (cs' := #[.slice (some ⟨g, 0, none⟩) (ns.length - 1) D, .slice O es.length T]) (W' := G.setCell ⟨b, 0, none⟩ (.slice (some ⟨g, 0, none⟩) (ns.length - 1) D)) n2.out rfl)
      have s := am (rt (W' := G.setCell ⟨b, 0, none⟩ (.slice (some ⟨g, 0, none⟩) (ns.length - 1) D)) n5.out n2.out (by decide))
      have z := am (rt (W' := G.setCell ⟨b, 0, none⟩ (.slice (some ⟨g, 0, none⟩) (ns.length - 1) D)) n1.out n2.out (by decide))
      have BN := am (bf (W' := G.setCell ⟨b, 0, none⟩ (.slice (some ⟨g, 0, none⟩) (ns.length - 1) D)) n3.out)
      have B4 := am (bf (W' := G.setCell ⟨b, 0, none⟩ (.slice (some ⟨g, 0, none⟩) (ns.length - 1) D)) m2.out)
      have HB := am (bs (W' := G.setCell ⟨b, 0, none⟩ (.slice (some ⟨g, 0, none⟩) (ns.length - 1) D)) n4.out)
      clear n1 n2 m2 n3 n4 n5 Z aa hfs
      generalize G.setCell ⟨b, 0, none⟩ (.slice (some ⟨g, 0, none⟩) (ns.length - 1) D) = w6 at BK B4 s z BN HB ⊢
      refine (delfE J L gn _ es w0.heap.size (fun k_ => True ∧ k_ ≠ gn) _ z.out (fun h => h.2 rfl) HM.out.2 BN.out).mono ?_
      rintro e w7 ⟨v7, rfl, hR7, hg7⟩
      have n1 := am (R_gr2 s.out z.out hg7 (by decide))
      have n2 := gr BK z hg7
      have m2 := gr B4 z hg7
      have n4 := am (below_gr2 HB.out z.out hg7)
      have n5 := am hR7
      clear s z BK B4 BN HB hg7 hR7
      obtain ⟨Ay, cy, ey⟩ := Kd.R_slice n5.out
      subst ey
      have Z : w7.cell? ⟨b, 0, none⟩ = some (.slice (some ⟨g, 0, none⟩) (ns.length - 1) D) := (blk_cell n2.out 0).trans rfl
      have aa : w7.cell? ⟨b, 1, none⟩ = some (.slice O es.length T) := (blk_cell n2.out 1).trans rfl
      have hfs := blk_frozen n2.out
      go_wp2
      go_ret
      exact ⟨eqr, _, _, bp n2.out rfl, Kd.R_mono (rt n1.out n2.out (by decide)) (fun _ _ => trivial), Kd.R_mono (rt n5.out n2.out (by decide)) (fun _ _ => trivial), bs n4.out, bf m2.out⟩
    · rw [if_neg hm] at hx; cases hx
/-! (*Graph).putEdge -/
def gdPE.T15 : Bool × List (List Nat × List Nat) := (true, [([], []), ([], []), ([1], [1]), ([2], [2]), ([3], [3]), ([], []), ([], []), ([6], [6]), ([4, 5, 7], [4, 5, 7]), ([0, 0, 1, 2, 3, 4, 5, 6, 7, 8], [0]), ([9, 0, 1, 2, 3, 4, 5, 6, 7, 8], [9]), ([10, 8, 8, 0, 1, 2, 3, 4, 5, 6, 7, 8], [8, 10])])
def gdPE.B15 : List Nat := [0, 0, 2, 6, 14, 0, 0, 64, 254, 511, 1023, 2047]
theorem gdPE.tab15 : rtab .any (opsOf Try.f102 15) = gdPE.T15 := by kernel_rfl
theorem gdPE.bits15 : waitsOk gdPE.T15.2 gdPE.B15 = true := by kernel_rfl
set_option maxHeartbeats 8000000 in
set_option maxRecDepth 100000 in
theorem gd_putE (k b : Nat) (ns : List S36) (es : List S56) (Y X : Option Addr) (Z : Nat) (G I J L O : Int) (r' : List S56) (code : Int) (w0 w : World) (hB : Below w0.heap.size w0 w) (hb0 : w0.heap.size ≤ b) (g4 : Nat) (cs4 : Array Value) (h4 : w.heap[g4]? = some (.cells cs4 34 (0, 0))) (h4b : g4 ≠ b) (hm : es.length ≤ 1000) (hA : es.length = 0 → X = none)
    (hK : w.heap[b]? = some (.cells #[.slice Y ns.length Z, .slice X es.length es.length] 34 (0, 0))) (hR0 : Kd.R k36 36 w w0.heap.size (fun _ => True) (.slice Y ns.length Z) ns) (hR1 : Kd.R k56 56 w w0.heap.size (fun _ => True) (.slice X es.length es.length) es) (h : gdPE k ns es G I J L O = some (r', code)) :
    Calls Try.prog 102 #[.pointer (some ⟨b, 0, none⟩), .agg #[.int .i64 G, .int .i64 I, .int .i64 J, .int .i64 L, .int .i64 O]] w fun e w' => e = .returned (.int .i64 code) ∧ ∃ u0 u1, w'.heap[b]? = some (.cells #[u0, u1] 34 (0, 0)) ∧ Kd.R k36 36 w' w0.heap.size (fun _ => True) u0 ns ∧ Kd.R k56 56 w' w0.heap.size (fun _ => True) u1 r' ∧ Below w0.heap.size w0 w' ∧ w'.heap[g4]? = some (.cells cs4 34 (0, 0)) := by
  have hu34 := Try.underlying34
  have hu56 := Try.underlying56
  have z := am hR0
  have D := am hR1
  have BK := am hK
  have GEb : Ge w0 b := ⟨hb0⟩
  have B4 := am h4
  have N4b : Nq g4 b := ⟨h4b⟩
  clear h4 h4b
  have hu36 := Try.underlying36
  have HM := am hm
  have HA := am hA
  have HB := am hB
  clear hR0 hR1 hK hB hm hb0 hA
  obtain ⟨⟨p, t⟩, hq, h⟩ := Option.bind_eq_some_iff.1 h
  have HQ := am hq
  have H := am h
  clear hq h
  go_enter Try.func102, Try.ntmps102
  go_wp2_with (first | ((with_reducible refine gd 3 rfl ?_); refine bx 3 (cs := #[.int .i64 G, .int .i64 I, .int .i64 J, .int .i64 L, .int .i64 O]) (t := 56) ?_; intro gn hg w2 hbox hb; replace z := am (Kd.R_below (Kd.R_elderB (rl z.out) gn (Nat.le_of_eq hg.symm)) hb); replace D := am (Kd.R_below (Kd.R_elderB (rl D.out) gn (Nat.le_of_eq hg.symm)) hb); have BN := am hbox; have GN := gwb HB hg; replace HB := hs HB hb; have N4n := nq B4 hg; have NB := nq BK hg; have NB' := nq' BK hg; replace BK := bb BK hb rfl; replace B4 := bb B4 hb rfl; clear hb hbox hg))
  replace z := rd_ z
  replace D := rd_ D
  replace BK := bd BK
  replace B4 := bd B4
  replace BN := bd BN
  replace HB := hd HB
  refine wp_region_bel (by kernel_rfl) (by kernel_rfl) ?_
  generalize w2.drew = w3 at z D BK B4 BN HB ⊢
  have ae : ∀ p_ : Bel w3, p_.v.cell? ⟨b, 1, none⟩ = some (.slice X es.length es.length) := fun p_ => cell_bel (cx BK 1) p_
  have af : ∀ p_ : Bel w3, p_.v.cell? ⟨gn, 0, none⟩ = some (.int .i64 G) := fun p_ => cell_bel ((blk_cell BN.out 0).trans rfl) p_
  have ag : ∀ p_ : Bel w3, p_.v.cell? ⟨gn, 1, none⟩ = some (.int .i64 I) := fun p_ => cell_bel ((blk_cell BN.out 1).trans rfl) p_
  have ah : ∀ p_ : Bel w3, p_.v.cell? ⟨gn, 2, none⟩ = some (.int .i64 J) := fun p_ => cell_bel ((blk_cell BN.out 2).trans rfl) p_
  have ai : ∀ p_ : Bel w3, p_.v.cell? ⟨gn, 3, none⟩ = some (.int .i64 L) := fun p_ => cell_bel ((blk_cell BN.out 3).trans rfl) p_
  have aj : ∀ p_ : Bel w3, p_.v.cell? ⟨gn, 4, none⟩ = some (.int .i64 O) := fun p_ => cell_bel ((blk_cell BN.out 4).trans rfl) p_
  repeat (go_big_quiet_step (first
   | (with_reducible show Calls Try.prog 133 #[.slice X es.length es.length, .agg #[.int .i64 G, .int .i64 I, .int .i64 J, .int .i64 L, .int .i64 O], .func (.func 117) #[] #[]] _ _; with_reducible refine calls_bel (impl_bse.calls k _ _ es G I J L O p t _ ?aa ?ab HQ.out); (case aa => exact cr D); (case ab => exact cc D))))
  refine wpQuiet_nil ?_
  intro w4 hw'
  obtain ⟨⟨wq_, hb⟩, hw''⟩ := hw'
  subst hw''
  clear ae af ag ah ai aj
  replace z := rb z hb
  replace D := rb D hb
  replace BK := bb BK hb rfl
  replace B4 := bb B4 hb rfl
  replace BN := bb BN hb rfl
  replace HB := hs HB hb
  clear hb
  cases t with
  | true =>
    have h := H.out
    rw [if_pos rfl] at h
    simp only [Option.some.injEq, Prod.mk.injEq] at h
    obtain ⟨rfl, rfl⟩ := h
    go_wp2
    go_ret
    exact ⟨eqr, _, _, bf BK.out, Kd.R_mono (rl z.out) (fun _ _ => trivial), Kd.R_mono (rl D.out) (fun _ _ => trivial), bs HB.out, bf B4.out⟩
  | false =>
    have h := H.out
    rw [if_neg (by decide)] at h
    obtain ⟨ta, hta, h⟩ := Option.bind_eq_some_iff.1 h
    have HTA := am hta
    clear hta H
    go_wp2
    replace z := rd_ z
    replace D := rd_ D
    replace BK := bd BK
    replace B4 := bd B4
    replace BN := bd BN
    replace HB := hd HB
    cases ta with
    | false =>
      rw [if_neg (by decide)] at h
      simp only [Option.some.injEq, Prod.mk.injEq] at h
      obtain ⟨rfl, rfl⟩ := h
      refine wp_region_bel (by kernel_rfl) (by kernel_rfl) ?_
      generalize w4.drew = T at z D BK B4 BN HB ⊢
      have ae : ∀ p_ : Bel T, p_.v.cell? ⟨b, 0, none⟩ = some (.slice Y ns.length Z) := fun p_ => cell_bel (cx BK 0) p_
      have af : ∀ p_ : Bel T, p_.v.cell? ⟨gn, 0, none⟩ = some (.int .i64 G) := fun p_ => cell_bel ((blk_cell BN.out 0).trans rfl) p_
      have ag : ∀ p_ : Bel T, p_.v.cell? ⟨gn, 1, none⟩ = some (.int .i64 I) := fun p_ => cell_bel ((blk_cell BN.out 1).trans rfl) p_
      have ah : ∀ p_ : Bel T, p_.v.cell? ⟨gn, 2, none⟩ = some (.int .i64 J) := fun p_ => cell_bel ((blk_cell BN.out 2).trans rfl) p_
      have ai : ∀ p_ : Bel T, p_.v.cell? ⟨gn, 3, none⟩ = some (.int .i64 L) := fun p_ => cell_bel ((blk_cell BN.out 3).trans rfl) p_
      have aj : ∀ p_ : Bel T, p_.v.cell? ⟨gn, 4, none⟩ = some (.int .i64 O) := fun p_ => cell_bel ((blk_cell BN.out 4).trans rfl) p_
      repeat (go_big_quiet_step (first
       | (with_reducible show Calls Try.prog 118 #[.slice Y ns.length Z, .agg #[.int .i64 I, .int .i64 J]] _ _; with_reducible refine calls_bel (impl_nodeThere.calls k _ _ ns I J false _ ?aa ?ab HTA.out); (case aa => exact cr z); (case ab => exact cc z))))
      refine wpQuiet_nil ?_
      intro ak hw'
      obtain ⟨⟨wq_, hb⟩, hw''⟩ := hw'
      subst hw''
      clear ae af ag ah ai aj
      replace z := rb z hb
      replace D := rb D hb
      replace BK := bb BK hb rfl
      replace B4 := bb B4 hb rfl
      replace BN := bb BN hb rfl
      replace HB := hs HB hb
      clear hb
      go_wp2
      go_ret
      exact ⟨eqr, _, _, bf BK.out, Kd.R_mono (rl z.out) (fun _ _ => trivial), Kd.R_mono (rl D.out) (fun _ _ => trivial), bs HB.out, bf B4.out⟩
    | true =>
      rw [if_pos rfl] at h
      obtain ⟨tb, htb, h⟩ := Option.bind_eq_some_iff.1 h
      have HTB := am htb
      have H := am h
      clear htb h
      refine wp_region_bel (by kernel_rfl) (by kernel_rfl) ?_
      generalize w4.drew = T at z D BK B4 BN HB ⊢
      have ae : ∀ p_ : Bel T, p_.v.cell? ⟨b, 0, none⟩ = some (.slice Y ns.length Z) := fun p_ => cell_bel (cx BK 0) p_
      have af : ∀ p_ : Bel T, p_.v.cell? ⟨gn, 0, none⟩ = some (.int .i64 G) := fun p_ => cell_bel ((blk_cell BN.out 0).trans rfl) p_
      have ag : ∀ p_ : Bel T, p_.v.cell? ⟨gn, 1, none⟩ = some (.int .i64 I) := fun p_ => cell_bel ((blk_cell BN.out 1).trans rfl) p_
      have ah : ∀ p_ : Bel T, p_.v.cell? ⟨gn, 2, none⟩ = some (.int .i64 J) := fun p_ => cell_bel ((blk_cell BN.out 2).trans rfl) p_
      have ai : ∀ p_ : Bel T, p_.v.cell? ⟨gn, 3, none⟩ = some (.int .i64 L) := fun p_ => cell_bel ((blk_cell BN.out 3).trans rfl) p_
      have aj : ∀ p_ : Bel T, p_.v.cell? ⟨gn, 4, none⟩ = some (.int .i64 O) := fun p_ => cell_bel ((blk_cell BN.out 4).trans rfl) p_
      repeat (go_big_quiet_step (first
       | (with_reducible show Calls Try.prog 118 #[.slice Y ns.length Z, .agg #[.int .i64 I, .int .i64 J]] _ _; with_reducible refine calls_bel (impl_nodeThere.calls k _ _ ns I J true _ ?aa ?ab HTA.out); (case aa => exact cr z); (case ab => exact cc z))
       | (with_reducible show Calls Try.prog 118 #[.slice Y ns.length Z, .agg #[.int .i64 L, .int .i64 O]] _ _; with_reducible refine calls_bel (impl_nodeThere.calls k _ _ ns L O tb _ ?aa ?ab HTB.out); (case aa => exact cr z); (case ab => exact cc z))))
      refine wpQuiet_nil ?_
      intro ak hw'
      obtain ⟨⟨wq_, hb⟩, hw''⟩ := hw'
      subst hw''
      clear ae af ag ah ai aj
      replace z := rb z hb
      replace D := rb D hb
      replace BK := bb BK hb rfl
      replace B4 := bb B4 hb rfl
      replace BN := bb BN hb rfl
      replace HB := hs HB hb
      clear hb
      cases tb with
      | false =>
        have h := H.out
        rw [if_neg (by decide)] at h
        simp only [Option.some.injEq, Prod.mk.injEq] at h
        obtain ⟨rfl, rfl⟩ := h
        go_wp2
        go_ret
        exact ⟨eqr, _, _, bf BK.out, Kd.R_mono (rl z.out) (fun _ _ => trivial), Kd.R_mono (rl D.out) (fun _ _ => trivial), bs HB.out, bf B4.out⟩
      | true =>
        have h := H.out
        rw [if_pos rfl] at h
        replace H := am h
        clear h HTA HTB
        have av := NB.out
        have aw := NB'.out
        obtain ⟨ax, ay⟩ := bc2 (w := ak) BK.out
        have az := blk_frozen BK.out
        go_wp2
        go_loopg [7, 43] es.length (fun kq v7 aA w' => ∃ (i : Nat), v7 = .int .i64 ((cntE G (es.take i) : Nat) : Int) ∧ aA = .int .i64 (i : Int) ∧ Aside0 (i + kq = es.length) ∧ Aside0 (Kd.R k36 36 w' w0.heap.size (fun _ => True) (.slice Y ns.length Z) ns) ∧ Aside0 (Kd.R k56 56 w' w0.heap.size (fun _ => True) (.slice X es.length es.length) es) ∧ Aside0 (w'.heap[b]? = some (.cells #[.slice Y ns.length Z, .slice X es.length es.length] 34 (0, 0))) ∧ Aside0 (w'.heap[g4]? = some (.cells cs4 34 (0, 0))) ∧ Aside0 (w'.heap[gn]? = some (.cells #[.int .i64 G, .int .i64 I, .int .i64 J, .int .i64 L, .int .i64 O] 56 (0, 0))) ∧ Aside0 (Below w0.heap.size w0 w'))
        case atStart => exact ⟨0, (by first | rfl | (simp [cntE]; done)), (by first | rfl | (simp; done)), ⟨by omega⟩, ⟨Kd.R_mono (rl z.out) (fun _ _ => trivial)⟩, ⟨Kd.R_mono (rl D.out) (fun _ _ => trivial)⟩, ⟨bf BK.out⟩, ⟨bf B4.out⟩, ⟨bf BN.out⟩, ⟨bs HB.out⟩⟩
        case round =>
          clear av aw ax ay az z D BK B4 BN HB
          obtain ⟨i, rfl, rfl, ac, z, D, BK, B4, BN, HB⟩ := hrel
          cases gk with
          | zero =>
            have e := ac.out
            have aB : decide ((i : Int) < (es.length : Int)) = false := decide_eq_false (by omega)
            have aZ : ¬ ((i : Int) < (es.length : Int)) := by omega
            have a0 : ¬ (i < es.length) := by omega
            have e2 : es.take i = es := List.take_of_length_le (by omega)
            rw [e2]
            clear e e2 ac
            by_cases c5 : 7 ≤ cntE G es
            · have h := H.out
              rw [if_pos c5] at h
              simp only [Option.some.injEq, Prod.mk.injEq] at h
              obtain ⟨rfl, rfl⟩ := h
              have aC : decide ((7 : Int) ≤ ((cntE G es : Nat) : Int)) = true := decide_eq_true (by omega)
              have aD : (7 : Int) ≤ ((cntE G es : Nat) : Int) := by omega
              go_wp2
              go_ret
              exact ⟨eqr, _, _, bf BK.out, rl z.out, rl D.out, bs HB.out, bf B4.out⟩
            · have h := H.out
              rw [if_neg c5] at h
              obtain ⟨x, hx, h⟩ := Option.bind_eq_some_iff.1 h
              have HX := am hx
              clear hx H
              simp only [Option.some.injEq, Prod.mk.injEq] at h
              obtain ⟨rfl, rfl⟩ := h
              have aC : decide ((7 : Int) ≤ ((cntE G es : Nat) : Int)) = false := decide_eq_false (by omega)
              have aD : ¬ (7 : Int) ≤ ((cntE G es : Nat) : Int) := by omega
              go_wp2
              replace z := rd_ z
              replace D := rd_ D
              replace BK := bd BK
              replace B4 := bd B4
              replace BN := bd BN
              replace HB := hd HB
              refine sta 12 (fun w' => w'.cell? ⟨b, 0, none⟩ = some (.slice Y ns.length Z) ∧ w'.cell? ⟨b, 1, none⟩ = some (.slice X es.length es.length) ∧ w'.cell? ⟨gn, 0, none⟩ = some (.int .i64 G) ∧ w'.cell? ⟨gn, 1, none⟩ = some (.int .i64 I) ∧ w'.cell? ⟨gn, 2, none⟩ = some (.int .i64 J) ∧ w'.cell? ⟨gn, 3, none⟩ = some (.int .i64 L) ∧ w'.cell? ⟨gn, 4, none⟩ = some (.int .i64 O)) [11] ⟨cx BK 0, cx BK 1, (blk_cell BN.out 0).trans rfl, (blk_cell BN.out 1).trans rfl, (blk_cell BN.out 2).trans rfl, (blk_cell BN.out 3).trans rfl, (blk_cell BN.out 4).trans rfl⟩ (fun hHeld => ?_); refine with_tabW gdPE.tab15 gdPE.bits15 (fun HT_ HW_ => ?_)
              generalize wr.drew = w5 at z D BK B4 BN HB hHeld ⊢
              refine pu 0 57 ?_
              refine pu 1 58 ?_
              refine pu 2 59 ?_
              refine pu 3 60 ?_
              refine pu 5 62 ?_
              refine tk 4 61 ?_
              refine tk 6 63 ?_
              refine on 7 64 (fun K hK => ?_)
              refine Kd.R_lit_step k56 _ 56 ?hg (N := 64) ?hd (xs := ([(⟨G, ⟨I, J⟩, ⟨L, O⟩⟩ : S56)] : List (S56))) (inner := [.int .i64 G, .int .i64 I, .int .i64 J, .int .i64 L, .int .i64 O]) (ok := fun _ => True) (okp := fun _ => True) ?hr ?hp (fun _ hk => hk) trivial (Below.refl _ _) (Nat.le_refl _) (by simp) ?_; (case hd => rfl); (case hg => rfl); (case hr => first | (go_simp; done) | (go_simp; rfl)); (case hp => exact (Reps.c5 (show Kd.M k56 _ _ _ (⟨G, ⟨I, J⟩, ⟨L, O⟩⟩ : S56) [.int .i64 G, .int .i64 I, .int .i64 J, .int .i64 L, .int .i64 O] from (k56_mkM _ _ _ (⟨G, ⟨I, J⟩, ⟨L, O⟩⟩ : S56) )) (Reps.none _ _)))
              intro a1 w6 al hb hg_ hnew_
              clear hg_ hnew_
              have HOX := am al
              replace z := rb z hb
              replace D := rb D hb
              replace BK := bb BK hb rfl
              replace B4 := bb B4 hb rfl
              replace BN := bb BN hb rfl
              replace HB := hs HB hb
              clear hb al
              obtain ⟨Ax, cx_, ex⟩ := Kd.R_slice HOX.out
              subst ex
              refine hK.out _ _ ⟨cx BK 0, cx BK 1, (blk_cell BN.out 0).trans rfl, (blk_cell BN.out 1).trans rfl, (blk_cell BN.out 2).trans rfl, (blk_cell BN.out 3).trans rfl, (blk_cell BN.out 4).trans rfl⟩ (fun hHeld => ?_)
              clear hK K
              refine nrm 64 ?_
              refine on 8 65 (fun K hK => ?_)
              refine gs Try.func134 #[.slice X es.length es.length, .int .i64 p, .slice Ax ([(⟨G, ⟨I, J⟩, ⟨L, O⟩⟩ : S56)] : List (S56)).length cx_] ?_
              with_reducible refine (inscE X es.length es p Ax cx_ [(⟨G, ⟨I, J⟩, ⟨L, O⟩⟩ : S56)] x _ ?aa ?ab ?aE ?aF HX.out rfl HA.out ?aG).mono ?_
              (case aa => exact cr D)
              (case ab => exact Nat.le_refl _)
              (case aE => exact cr HOX)
              (case aF => exact cc HOX)
              (case aG => intro hp; obtain ⟨g, cap, rest, he, _⟩ := R_blkE D.out hp; injection he with he _ _; exact ⟨g, he⟩)
              rintro e w7 ⟨a2, rfl, an, hb⟩
              refine ⟨_, rfl, ?_⟩
              have HOY := am (Kd.R_lower an (below_size (bs HB.out)))
              replace z := rb z hb
              replace BK := bb BK hb rfl
              replace B4 := bb B4 hb rfl
              replace BN := bb BN hb rfl
              replace HB := hs HB hb
              clear hb an
              refine hK.out _ _ ⟨cx BK 0, cx BK 1, (blk_cell BN.out 0).trans rfl, (blk_cell BN.out 1).trans rfl, (blk_cell BN.out 2).trans rfl, (blk_cell BN.out 3).trans rfl, (blk_cell BN.out 4).trans rfl⟩ (fun hHeld => ?_)
              clear hK K
              refine nrm 65 ?_
              refine pu 9 66 ?_
              refine pu 10 67 ?_
              refine la0 11 (fun K hK => ?_)
              have a3 : w7.cell? ⟨b, 1, none⟩ = some (.slice X es.length es.length) := cx BK 1
              have a4 := blk_frozen BK.out 1
              obtain ⟨Ay, cy, ey⟩ := Kd.R_slice HOY.out
              subst ey
              refine skip_ (w1 := ?_) (by rfl) rfl ?_ ?_
              rotate_left
              · go_simp
                rfl
              refine hK.out _ _ ?_
              clear hK K
              refine dn ?_
              go_wp2
              go_ret
              exact ⟨eqr, _, _, bp BK.out rfl, Kd.R_mono (rt z.out BK.out (by decide)) (fun _ _ => trivial), Kd.R_mono (rt HOY.out BK.out (by decide)) (fun _ _ => trivial), bs HB.out, bf B4.out⟩
          | succ k1 =>
            have e := ac.out
            have aB : decide ((i : Int) < (es.length : Int)) = true := decide_eq_true (by omega)
            have hl := cntE_one G es i (by omega)
            have hc := cntE_le G (es.take i)
            rw [List.length_take] at hc
            have p0 : (0 : Int) ≤ (i : Int) := by omega
            have q0 : (i : Int) < (es.length : Int) := by omega
            obtain ⟨ad, ea, ao, ap, aq, ar, au⟩ := at_T56 (Kd.R_reads' D.out).2.2 (i : Int) p0 q0
            cases ea
            simp only [Int.toNat_natCast] at ao ap aq ar au
            obtain ⟨cn, hcn⟩ : ∃ n, n = cntE G (es.take i) := ⟨_, rfl⟩
            rw [← hcn] at hl hc ⊢
            have hc' : cn ≤ 1000 := by have := HM.out; omega
            have HC := am hc'
            have HL := am hl
            replace p0 := eq_true p0
            replace q0 := eq_true q0
            clear hcn hl hc hc' e
            generalize (rd_T56 es (i : Int)) = y at HL ao ap aq ar au
            obtain ⟨y0, ⟨y1, y2⟩, ⟨y3, y4⟩⟩ := y
            by_cases c2 : y0 = G
            · have hl := HL.out
              rw [if_pos c2] at hl
              have HL := am hl
              have aH : (y0 == G) = true := beq_iff_eq.mpr c2
              have aI : (y0 != G) = false := bne_eq_false_iff_eq.mpr c2
              clear c2 hl
              go_wp2_with (first | ((with_reducible refine gd 9 rfl ?_); refine bx 9 (cs := #[.int .i64 0, .int .i64 0, .int .i64 0, .int .i64 0, .int .i64 0]) (t := 56) ?_; intro gx hg w8 hbox hb; replace D := am (Kd.R_below (Kd.R_elderB (rl D.out) gx (Nat.le_of_eq hg.symm)) hb); replace z := rb z hb; have BX := am hbox; have GX := gwb HB hg; replace HB := hs HB hb; have NX4 := nq B4 hg; have NX := nq BK hg; have NX' := nq' BK hg; replace BK := bb BK hb rfl; replace B4 := bb B4 hb rfl; have NY := nq BN hg; have NY' := nq' BN hg; replace BN := bb BN hb rfl; clear hb hbox hg; have aJ := NX.out; have aK := NX'.out; have aL := NY.out; have aM := NY'.out; obtain ⟨aN, aO, aP, aQ, aR⟩ := bc5 (w := w8) BX.out; have aS := blk_frozen BX.out; obtain ⟨aT, aU, aV, aW, aX⟩ := bc5 (w := w8) BN.out; have aY := blk_frozen BN.out))
              go_roundg k1
              case measure => have := ac.out; omega
              case rel => exact ⟨i + 1, (by rw [HL.out]; simp; unfold wrap64; have := HC.out; omega), (by first | rfl | (simp; done) | (simp; unfold wrap64; have := ac.out; have := HM.out; omega)), ⟨by have := ac.out; omega⟩, ⟨Kd.R_mono (rt z.out BX.out (by decide)) (fun _ _ => trivial)⟩, ⟨Kd.R_mono (Kd.R_far (p := ⟨gx, 4, none⟩) (Kd.R_far (p := ⟨gx, 3, none⟩) (Kd.R_far (p := ⟨gx, 2, none⟩) (Kd.R_far (p := ⟨gx, 1, none⟩) (Kd.R_far (p := ⟨gx, 0, none⟩) (Kd.R_mono D.out (fun k_ hk => (⟨hk, hk.2⟩ : _ ∧ k_ ≠ gx))) (fun _ hk => hk.2) (.int .i64 y0)) (fun _ hk => hk.2) (.int .i64 y1)) (fun _ hk => hk.2) (.int .i64 y2)) (fun _ hk => hk.2) (.int .i64 y3)) (fun _ hk => hk.2) (.int .i64 y4)) (fun _ _ => trivial)⟩, ⟨bf BK.out⟩, ⟨bf B4.out⟩, ⟨bf BN.out⟩, ⟨bs HB.out⟩⟩
            · have hl := HL.out
              rw [if_neg c2] at hl
              have HL := am hl
              have aH : (y0 == G) = false := beq_eq_false_iff_ne.mpr c2
              have aI : (y0 != G) = true := bne_iff_ne.mpr c2
              clear c2 hl
              go_wp2_with (first | ((with_reducible refine gd 9 rfl ?_); refine bx 9 (cs := #[.int .i64 0, .int .i64 0, .int .i64 0, .int .i64 0, .int .i64 0]) (t := 56) ?_; intro gx hg w8 hbox hb; replace D := am (Kd.R_below (Kd.R_elderB (rl D.out) gx (Nat.le_of_eq hg.symm)) hb); replace z := rb z hb; have BX := am hbox; have GX := gwb HB hg; replace HB := hs HB hb; have NX4 := nq B4 hg; have NX := nq BK hg; have NX' := nq' BK hg; replace BK := bb BK hb rfl; replace B4 := bb B4 hb rfl; have NY := nq BN hg; have NY' := nq' BN hg; replace BN := bb BN hb rfl; clear hb hbox hg; have aJ := NX.out; have aK := NX'.out; have aL := NY.out; have aM := NY'.out; obtain ⟨aN, aO, aP, aQ, aR⟩ := bc5 (w := w8) BX.out; have aS := blk_frozen BX.out; obtain ⟨aT, aU, aV, aW, aX⟩ := bc5 (w := w8) BN.out; have aY := blk_frozen BN.out))
              go_roundg k1
              case measure => have := ac.out; omega
              case rel => exact ⟨i + 1, (by rw [HL.out]; simp), (by first | rfl | (simp; done) | (simp; unfold wrap64; have := ac.out; have := HM.out; omega)), ⟨by have := ac.out; omega⟩, ⟨Kd.R_mono (rt z.out BX.out (by decide)) (fun _ _ => trivial)⟩, ⟨Kd.R_mono (Kd.R_far (p := ⟨gx, 4, none⟩) (Kd.R_far (p := ⟨gx, 3, none⟩) (Kd.R_far (p := ⟨gx, 2, none⟩) (Kd.R_far (p := ⟨gx, 1, none⟩) (Kd.R_far (p := ⟨gx, 0, none⟩) (Kd.R_mono D.out (fun k_ hk => (⟨hk, hk.2⟩ : _ ∧ k_ ≠ gx))) (fun _ hk => hk.2) (.int .i64 y0)) (fun _ hk => hk.2) (.int .i64 y1)) (fun _ hk => hk.2) (.int .i64 y2)) (fun _ hk => hk.2) (.int .i64 y3)) (fun _ hk => hk.2) (.int .i64 y4)) (fun _ _ => trivial)⟩, ⟨bf BK.out⟩, ⟨bf B4.out⟩, ⟨bf BN.out⟩, ⟨bs HB.out⟩⟩
/-! (*Graph).takeEdge -/
set_option maxHeartbeats 8000000 in
set_option maxRecDepth 100000 in
theorem gd_takeE (k b : Nat) (ns : List S36) (es : List S56) (A0 Y : Option Addr) (c0 G : Nat) (I J L O T : Int) (r' : List S56) (code : Int) (w0 w : World) (hB : Below w0.heap.size w0 w) (hb0 : w0.heap.size ≤ b) (Z : Nat) (cs4 : Array Value) (h4 : w.heap[Z]? = some (.cells cs4 34 (0, 0))) (h4b : Z ≠ b) (hm : es.length ≤ 1000)
    (hK : w.heap[b]? = some (.cells #[.slice A0 ns.length c0, .slice Y es.length G] 34 (0, 0))) (hR0 : Kd.R k36 36 w w0.heap.size (fun _ => True) (.slice A0 ns.length c0) ns) (hR1 : Kd.R k56 56 w w0.heap.size (fun _ => True) (.slice Y es.length G) es) (h : gdTE k es I J L O T = some (r', code)) :
    Calls Try.prog 103 #[.pointer (some ⟨b, 0, none⟩), .agg #[.int .i64 I, .int .i64 J, .int .i64 L, .int .i64 O, .int .i64 T]] w fun e w' => e = .returned (.int .i64 code) ∧ ∃ u0 u1, w'.heap[b]? = some (.cells #[u0, u1] 34 (0, 0)) ∧ Kd.R k36 36 w' w0.heap.size (fun _ => True) u0 ns ∧ Kd.R k56 56 w' w0.heap.size (fun _ => True) u1 r' ∧ Below w0.heap.size w0 w' ∧ w'.heap[Z]? = some (.cells cs4 34 (0, 0)) := by
  have hu34 := Try.underlying34
  have hu56 := Try.underlying56
  have D := am hR0
  have z := am hR1
  have BK := am hK
  have GEb : Ge w0 b := ⟨hb0⟩
  have B4 := am h4
  have N4b : Nq Z b := ⟨h4b⟩
  clear h4 h4b
  have HM := am hm
  have HB := am hB
  clear hR0 hR1 hK hB hm hb0
  obtain ⟨⟨p, t⟩, hq, h⟩ := Option.bind_eq_some_iff.1 h
  have HQ := am hq
  have H := am h
  clear hq h
  go_enter Try.func103, Try.ntmps103
  go_wp2_with (first | ((with_reducible refine gd 3 rfl ?_); refine bx 3 (cs := #[.int .i64 I, .int .i64 J, .int .i64 L, .int .i64 O, .int .i64 T]) (t := 56) ?_; intro gn hg w2 hbox hb; replace D := am (Kd.R_below (Kd.R_elderB (rl D.out) gn (Nat.le_of_eq hg.symm)) hb); replace z := am (Kd.R_below (Kd.R_elderB (rl z.out) gn (Nat.le_of_eq hg.symm)) hb); have BN := am hbox; have GN := gwb HB hg; replace HB := hs HB hb; have N4n := nq B4 hg; have NB := nq BK hg; have NB' := nq' BK hg; replace BK := bb BK hb rfl; replace B4 := bb B4 hb rfl; clear hb hbox hg))
  replace D := rd_ D
  replace z := rd_ z
  replace BK := bd BK
  replace B4 := bd B4
  replace BN := bd BN
  replace HB := hd HB
  refine wp_region_bel (by kernel_rfl) (by kernel_rfl) ?_
  generalize w2.drew = X at D z BK B4 BN HB ⊢
  have ab : ∀ p_ : Bel X, p_.v.cell? ⟨b, 1, none⟩ = some (.slice Y es.length G) := fun p_ => cell_bel (cx BK 1) p_
  have ac : ∀ p_ : Bel X, p_.v.cell? ⟨gn, 0, none⟩ = some (.int .i64 I) := fun p_ => cell_bel ((blk_cell BN.out 0).trans rfl) p_
  have ae : ∀ p_ : Bel X, p_.v.cell? ⟨gn, 1, none⟩ = some (.int .i64 J) := fun p_ => cell_bel ((blk_cell BN.out 1).trans rfl) p_
  have af : ∀ p_ : Bel X, p_.v.cell? ⟨gn, 2, none⟩ = some (.int .i64 L) := fun p_ => cell_bel ((blk_cell BN.out 2).trans rfl) p_
  have ag : ∀ p_ : Bel X, p_.v.cell? ⟨gn, 3, none⟩ = some (.int .i64 O) := fun p_ => cell_bel ((blk_cell BN.out 3).trans rfl) p_
  have ah : ∀ p_ : Bel X, p_.v.cell? ⟨gn, 4, none⟩ = some (.int .i64 T) := fun p_ => cell_bel ((blk_cell BN.out 4).trans rfl) p_
  repeat (go_big_quiet_step (first
   | (with_reducible show Calls Try.prog 133 #[.slice Y es.length G, .agg #[.int .i64 I, .int .i64 J, .int .i64 L, .int .i64 O, .int .i64 T], .func (.func 117) #[] #[]] _ _; with_reducible refine calls_bel (impl_bse.calls k _ _ es I J L O T p t _ ?ai ?aj HQ.out); (case ai => exact cr z); (case aj => exact cc z))))
  refine wpQuiet_nil ?_
  intro w4 hw'
  obtain ⟨⟨wq_, hb⟩, hw''⟩ := hw'
  subst hw''
  clear ab ac ae af ag ah
  replace D := rb D hb
  replace z := rb z hb
  replace BK := bb BK hb rfl
  replace B4 := bb B4 hb rfl
  replace BN := bb BN hb rfl
  replace HB := hs HB hb
  clear hb
  cases t with
  | false =>
    have h := H.out
    rw [if_neg (by decide)] at h
    simp only [Option.some.injEq, Prod.mk.injEq] at h
    obtain ⟨rfl, rfl⟩ := h
    go_wp2
    go_ret
    exact ⟨eqr, _, _, bf BK.out, Kd.R_mono (rl D.out) (fun _ _ => trivial), Kd.R_mono (rl z.out) (fun _ _ => trivial), bs HB.out, bf B4.out⟩
  | true =>
    have h := H.out
    rw [if_pos rfl] at h
    obtain ⟨x, hx, h⟩ := Option.bind_eq_some_iff.1 h
    simp only [Option.some.injEq, Prod.mk.injEq] at h
    obtain ⟨rfl, rfl⟩ := h
    unfold delfnE at hx
    by_cases hm : 0 ≤ p ∧ p < (es.length : Int) ∧ p + 1 = p + 1 ∧ es.length ≤ 1000
    · rw [if_pos hm] at hx
      obtain ⟨h0, h1, _, h3⟩ := hm
      obtain ⟨i, rfl⟩ := Int.eq_ofNat_of_zero_le h0
      rw [Int.toNat_natCast] at hx
      obtain rfl := Option.some.inj hx
      obtain ⟨g, cap, rest, he, o1, o2, o3, o4, o5, hcm⟩ := R_blkE z.out (by omega)
      injection he with he1 _ he2
      subst he1
      subst he2
      have HI := am h1
      have HCM := am hcm
      have q2 : IntKind.i64.wrap ((i : Int) + 1) = (i : Int) + 1 := by rw [IntKind.wrap_i64]; omega
      have q3 : wrap64 ((i : Int) + 1) = (i : Int) + 1 := by unfold wrap64; omega
      have aa : w4.cell? ⟨b, 1, none⟩ = some (.slice (some ⟨g, 0, none⟩) es.length G) := cx BK 1
      clear h0 h1 h3 hcm H o1 o2 o3 o4 o5 rest
      go_wp2_with fail
      refine (deleE g G es i w0.heap.size (fun k_ => True ∧ k_ ≠ gn) _ (rl z.out) (by have := HI.out; omega) HM.out HCM.out).mono ?_
      rintro e w5 ⟨rfl, hR5, hg5⟩
      have n1 := am (R_gr2 (rl D.out) (rl z.out) hg5 (by decide))
      have n2 := gr BK z hg5
      have m2 := gr B4 z hg5
      have n4 := am (below_gr2 (bs HB.out) (rl z.out) hg5)
      have n5 := am hR5
      clear D z BK B4 BN HB hg5 hR5 aa
      have aa : w5.cell? ⟨b, 0, none⟩ = some (.slice A0 ns.length c0) := (blk_cell n2.out 0).trans rfl
      have ak : w5.cell? ⟨b, 1, none⟩ = some (.slice (some ⟨g, 0, none⟩) es.length G) := (blk_cell n2.out 1).trans rfl
      have hfs := blk_frozen n2.out
      go_wp2
      go_ret
      exact ⟨eqr, _, _, bp n2.out rfl, Kd.R_mono (rt n1.out n2.out (by decide)) (fun _ _ => trivial), Kd.R_mono (rt n5.out n2.out (by decide)) (fun _ _ => trivial), bs n4.out, bf m2.out⟩
    · rw [if_neg hm] at hx; cases hx
/-! graphCopy -/
def gdCp.T1 : Bool × List (List Nat × List Nat) := (true, [([], []), ([0], [0]), ([1], [1]), ([], []), ([3], [3]), ([4, 2], [4]), ([2, 5], [2, 5]), ([6, 5, 0, 1, 2, 3, 4, 5, 6], [6])])
def gdCp.B1 : List Nat := [0, 1, 3, 0, 8, 31, 63, 127]
theorem gdCp.tab1 : rtab .any (opsOf Try.f99 1) = gdCp.T1 := by kernel_rfl
theorem gdCp.bits1 : waitsOk gdCp.T1.2 gdCp.B1 = true := by kernel_rfl
set_option maxHeartbeats 8000000 in
set_option maxRecDepth 100000 in
theorem gd_copy (G : Option Addr) (O : Nat) (ns : List S36) (I : Option Addr) (T : Nat) (es : List S56) (w : World) (Z : Kd.C k36 w G ns.length ns) (aa : Kd.C k56 w I es.length es) (hm : ns.length ≤ 1000 ∧ es.length ≤ 1000) :
  Calls Try.prog 99 #[.agg #[.slice G ns.length O, .slice I es.length T]] w fun e w' => ∃ A A' : Option Addr, e = .returned (.agg #[.slice A ns.length ns.length, .slice A' es.length es.length]) ∧ Kd.R k36 36 w' w.heap.size (fun _ => True) (.slice A ns.length ns.length) ns ∧ Kd.R k56 56 w' w.heap.size (fun _ => True) (.slice A' es.length es.length) es ∧ (ns.length = 0 → A = none) ∧ (es.length = 0 → A' = none) ∧ Below w.heap.size w w' := by
 have hu34 := Try.underlying34
 have af := am Z
 have ag := am aa
 have HM := am hm
 clear Z aa hm
 have HB := am (Below.refl w.heap.size w)
 go_enter Try.func99, Try.ntmps99
 try go_wp2_with (first | ((with_reducible refine gd 1 rfl ?_); refine bx 1 (cs := #[.slice G ns.length O, .slice I es.length T]) (t := 34) ?_; intro ab hg w4 hbox hb; have s := am hbox; have ak := gwb HB hg; replace HB := hs HB hb; clear hb hbox hg) | ((with_reducible refine gd 2 rfl ?_); refine bx 2 (cs := #[.slice none 0 0, .slice none 0 0]) (t := 34) ?_; intro D hg w5 hbox hb; have z := am hbox; have al := gwb HB hg; replace HB := hs HB hb; have J := nq s hg; have ah := nq' s hg; replace s := bb s hb rfl; clear hb hbox hg))
 replace s := bd s
 replace z := bd z
 replace HB := hd HB
 refine sta 8 (fun w' => w'.cell? ⟨ab, 0, none⟩ = some (.slice G ns.length O) ∧ w'.cell? ⟨ab, 1, none⟩ = some (.slice I es.length T)) [] ⟨cx s 0, cx s 1⟩ (fun hHeld => ?_); refine with_tabW gdCp.tab1 gdCp.bits1 (fun HT_ HW_ => ?_)
 generalize w5.drew = w6 at s z HB hHeld ⊢
 refine pu 0 3 ?_
 refine pu 3 6 ?_
 refine tk 1 4 ?_
 refine tk 4 7 ?_
 refine on 2 5 (fun K hK => ?_)
 refine gs Try.func127 #[.slice G ns.length O] ?_
 with_reducible refine (cplN _ _ ns _ ?X HM.out.1).mono ?_
 (case X => exact Kd.C_below af.out (bs HB.out))
 rintro e w7 ⟨ai, rfl, L, hb, ac⟩
 refine ⟨_, rfl, ?_⟩
 have Y := am (Kd.R_lower L (below_size (bs HB.out)))
 have HZ0 := am ac
 replace s := bb s hb rfl
 replace z := bb z hb rfl
 replace HB := hs HB hb
 clear hb L ac
 refine hK.out _ _ ⟨cx s 0, cx s 1⟩ (fun hHeld => ?_)
 clear hK K
 refine nrm 5 ?_
 refine on 5 8 (fun K hK => ?_)
 refine gs Try.func128 #[.slice I es.length T] ?_
 with_reducible refine (cplE _ _ es _ ?X HM.out.2).mono ?_
 (case X => exact Kd.C_below ag.out (bs HB.out))
 rintro e w8 ⟨A9, rfl, L, hb, ae⟩
 refine ⟨_, rfl, ?_⟩
 replace Y := rb Y hb
 have aj := am (Kd.R_lower L (below_size (bs HB.out)))
 have HZ1 := am ae
 replace s := bb s hb rfl
 replace z := bb z hb rfl
 replace HB := hs HB hb
 clear hb L ae
 refine hK.out _ _ ⟨cx s 0, cx s 1⟩ (fun hHeld => ?_)
 clear hK K
 refine nrm 8 ?_
 refine pu 6 9 ?_
 refine on0 7 (fun K hK => ?_)
 have an : w8.cell? ⟨D, 0, none⟩ = some (.slice none 0 0) := cx z 0
 have ao := blk_frozen z.out 0
 have ap := J.out
 have aq := ah.out
 have ar : w8.cell? ⟨D, 1, none⟩ = some (.slice none 0 0) := cx z 1
 have au := blk_frozen z.out 1
 refine skip_ (w1 := ?_) (by rfl) rfl ?_ ?_
 rotate_left
 · go_simp
   rfl
 refine hK.out _ _ ⟨((cell_far (p := ⟨D, _, none⟩) J.out _).trans (((cell_far (p := ⟨D, _, none⟩) J.out _).trans (hHeld.1)))), ((cell_far (p := ⟨D, _, none⟩) J.out _).trans (((cell_far (p := ⟨D, _, none⟩) J.out _).trans (hHeld.2))))⟩ (fun hHeld => ?_)
 clear hK K
 refine dn ?_
 try go_wp2
 refine bodyPost_ret (results_cell_row rfl _ _ D 34 #[.slice ai ns.length ns.length, .slice A9 es.length es.length] (0, 0) _ rfl (bp z.out rfl) Try.underlying34 rfl (by kernel_rfl)) rfl ?_
 exact ⟨_, _, eqr, Kd.R_mono (rt Y.out z.out (by decide)) (fun _ hk => trivial), Kd.R_mono (rt aj.out z.out (by decide)) (fun _ hk => trivial), HZ0.out, HZ1.out, bs HB.out⟩
/-! GraphDo -/
def impl_GraphDo.f (k : Nat) (ns : List S36) (es : List S56) (t n0 n1 s z D G I : Int) : Option (List S36 × List S56 × Int) :=
  (impl_GraphOk.f k ns es).bind fun g => if g = true then (if ns.length ≤ 1000 ∧ es.length ≤ 1000 then ((impl_OpLabel.f k t n0 n1 s z D G I).bind fun o => if o < 0 then some (ns, es, 1) else if t = 1 then (gdPN k ns n0 n1).bind (fun r => some (r.1, es, r.2)) else if t = 4 then gdTN k ns es n0 n1 else if t = 2 then (gdPE k ns es s z D G I).bind (fun r => some (ns, r.1, r.2)) else if t = 3 then (gdTE k es s z D G I).bind (fun r => some (ns, r.1, r.2)) else some (ns, es, 0)) else none) else some ([], [], 1)
set_option maxHeartbeats 8000000 in
set_option maxRecDepth 100000 in
theorem impl_GraphDo.calls (k : Nat) (A0 : Option Addr) (c0 : Nat) (ns : List S36) (A1 : Option Addr) (J : Nat) (es : List S56) (t n0 n1 O T X Y Z : Int) (r1 : List S36) (r2 : List S56) (r3 : Int) (w : World) (ao : Kd.C k36 w A0 ns.length ns) (ap : ns.length ≤ c0) (aq : Kd.C k56 w A1 es.length es) (ar : es.length ≤ J) (h : impl_GraphDo.f k ns es t n0 n1 O T X Y Z = some (r1, r2, r3)) :
    Calls Try.prog 53 #[.agg #[.slice A0 ns.length c0, .slice A1 es.length J], .agg #[.int .i64 t, .int .i64 n0, .int .i64 n1, .int .i64 O, .int .i64 T, .int .i64 X, .int .i64 Y, .int .i64 Z]] w fun e w' => ∃ v0 v1 : Value, e = .returned (.tuple #[.agg #[v0, v1], .int .i64 r3]) ∧ Kd.R k36 36 w' w.heap.size (fun _ => True) v0 r1 ∧ Kd.R k56 56 w' w.heap.size (fun _ => True) v1 r2 ∧ Below w.heap.size w w' := by
  have hu34 := Try.underlying34
  have hu58 := Try.underlying58
  have al := am ao
  have au := am ap
  have an := am aq
  have av := am ar
  have HB := am (Below.refl w.heap.size w)
  clear ao ap aq ar
  obtain ⟨g, hg, h⟩ := Option.bind_eq_some_iff.1 h
  have HG := am hg
  have H := am h
  clear hg h
  go_enter Try.func53, Try.ntmps53
  go_wp2_with (first
    | ((with_reducible refine gd 2 rfl ?_); refine bx 2 (cs := #[.slice A0 ns.length c0, .slice A1 es.length J]) (t := 34) ?_; intro g2 hg w2 hbox hb; have B2 := am hbox; have G2 := gwb HB hg; replace HB := hs HB hb; clear hb hbox hg)
    | ((with_reducible refine gd 3 rfl ?_); refine bx 3 (cs := #[.int .i64 t, .int .i64 n0, .int .i64 n1, .int .i64 O, .int .i64 T, .int .i64 X, .int .i64 Y, .int .i64 Z]) (t := 58) ?_; intro g3 hg w3 hbox hb; have B3 := am hbox; have G3 := gwb HB hg; replace HB := hs HB hb; replace B2 := bb B2 hb rfl; clear hb hbox hg)
    | ((with_reducible refine gd 4 rfl ?_); refine bx 4 (cs := #[.slice none 0 0, .slice none 0 0]) (t := 34) ?_; intro I hg w4 hbox hb; have B4 := am hbox; have G4 := gwb HB hg; replace HB := hs HB hb; have N24 := nq B2 hg; have N42 := nq' B2 hg; have N34 := nq B3 hg; have N43 := nq' B3 hg; replace B2 := bb B2 hb rfl; replace B3 := bb B3 hb rfl; clear hb hbox hg; obtain ⟨D, G⟩ := bc2 (w := w4) B2.out))
  refine (impl_GraphOk.calls k _ _ ns _ _ es g _ ?s1 au.out ?s2 av.out HG.out).mono ?_
  case s1 => exact Kd.C_below al.out (bs HB.out)
  case s2 => exact Kd.C_below an.out (bs HB.out)
  rintro e w5 ⟨rfl, hb⟩
  replace B2 := bb B2 hb rfl
  replace B3 := bb B3 hb rfl
  replace B4 := bb B4 hb rfl
  replace HB := hs HB hb
  clear hb D G
  have nb42 := N42.out
  have nb24 := N24.out
  cases g with
  | false =>
    have h := H.out
    rw [if_neg (by decide)] at h
    simp only [Option.some.injEq, Prod.mk.injEq] at h
    obtain ⟨rfl, rfl, rfl⟩ := h
    obtain ⟨D, G⟩ := bc2 (w := w5) B4.out
    have hfz := blk_frozen B4.out
    go_wp2
    refine bodyPost_ret (results_ct rfl _ _ I 34 #[.slice none 0 0, .slice none 0 0] (0, 0) _ rfl (bp B4.out rfl) Try.underlying34 rfl (by kernel_rfl)) rfl ?_
    exact ⟨_, _, eqr, Kd.R_nil _ _ _ _ _, Kd.R_nil _ _ _ _ _, bs HB.out⟩
  | true =>
    have h := H.out
    rw [if_pos rfl] at h
    by_cases hm : ns.length ≤ 1000 ∧ es.length ≤ 1000
    · rw [if_pos hm] at h
      have HM := am hm
      obtain ⟨o, ho, h⟩ := Option.bind_eq_some_iff.1 h
      have HO := am ho
      replace H := am h
      clear hm ho h
      obtain ⟨D, G⟩ := bc2 (w := w5) B2.out
      go_wp2_with fail
      refine (gd_copy _ _ ns _ _ es _ ?s1 ?s2 HM.out).mono ?_
      case s1 => exact Kd.C_below al.out (bs HB.out)
      case s2 => exact Kd.C_below an.out (bs HB.out)
      rintro e w6 ⟨A, A', rfl, h0, h1, z0, z1, hb⟩
      have R0 := am (Kd.R_lower h0 (below_size (bs HB.out)))
      have R1 := am (Kd.R_lower h1 (below_size (bs HB.out)))
      have Z0 := am z0
      have Z1 := am z1
      replace B3 := bb B3 hb rfl
      replace B4 := bb B4 hb rfl
      replace HB := hs HB hb
      clear hb D G h0 h1 z0 z1 nb24 nb42 B2 al an au av
      go_wp2_with (first
        | ((with_reducible refine gd 6 rfl ?_); refine bx 6 (cs := #[.slice none 0 0, .slice none 0 0]) (t := 34) ?_; intro s hg L hbox hb; have B6 := am hbox; have G6 := gwb HB hg; replace HB := hs HB hb; have N46 := nq B4 hg; have N64 := nq' B4 hg; have N36 := nq B3 hg; have N63 := nq' B3 hg; replace B3 := bb B3 hb rfl; replace B4 := bb B4 hb rfl; replace R0 := rb R0 hb; replace R1 := rb R1 hb; clear hb hbox hg; obtain ⟨D, G⟩ := bc2 (w := L) B6.out; have hfz := blk_frozen B6.out; have n36 := N36.out; have n63 := N63.out; obtain ⟨aa, ab, ac, ae, af, ag, ah, ai⟩ := bc8 (w := L) B3.out))
      have m3 := am (bf (W' := ((L.setCell ⟨s, 0, none⟩ (.slice A ns.length ns.length)).setCell ⟨s, 1, none⟩ (.slice A' es.length es.length))) B3.out)
      have m4 := am (bf (W' := ((L.setCell ⟨s, 0, none⟩ (.slice A ns.length ns.length)).setCell ⟨s, 1, none⟩ (.slice A' es.length es.length))) B4.out)
      have m6 := am (bp (cs' := #[.slice A ns.length ns.length, .slice A' es.length es.length]) (W' := ((L.setCell ⟨s, 0, none⟩ (.slice A ns.length ns.length)).setCell ⟨s, 1, none⟩ (.slice A' es.length es.length))) B6.out rfl)
      have mr0 := am (Kd.R_mono (rt (W' := ((L.setCell ⟨s, 0, none⟩ (.slice A ns.length ns.length)).setCell ⟨s, 1, none⟩ (.slice A' es.length es.length))) R0.out B6.out (by decide)) (fun _ _ => trivial : ∀ q, _ → True))
      have mr1 := am (Kd.R_mono (rt (W' := ((L.setCell ⟨s, 0, none⟩ (.slice A ns.length ns.length)).setCell ⟨s, 1, none⟩ (.slice A' es.length es.length))) R1.out B6.out (by decide)) (fun _ _ => trivial : ∀ q, _ → True))
      have mb := am (bs (W' := ((L.setCell ⟨s, 0, none⟩ (.slice A ns.length ns.length)).setCell ⟨s, 1, none⟩ (.slice A' es.length es.length))) HB.out)
      clear B3 B4 B6 R0 R1 HB D G hfz n36 n63 aa ab ac ae af ag ah ai
      generalize ((L.setCell ⟨s, 0, none⟩ (.slice A ns.length ns.length)).setCell ⟨s, 1, none⟩ (.slice A' es.length es.length)) = w8 at m3 m4 m6 mr0 mr1 mb ⊢
      refine (impl_OpLabel.calls k t n0 n1 O T X Y Z o _ HO.out).mono ?_
      rintro e w9 ⟨rfl, hb⟩
      have B3 := bb m3 hb rfl
      have B4 := bb m4 hb rfl
      have B6 := bb m6 hb rfl
      have R0 := rb mr0 hb
      have R1 := rb mr1 hb
      have HB := hs mb hb
      clear m3 m4 m6 mr0 mr1 mb hb
      have n46 := N46.out
      have n64 := N64.out
      obtain ⟨D, G⟩ := bc2 (w := w9) B6.out
      by_cases c : o < 0
      · have h := H.out
        rw [if_pos c] at h
        simp only [Option.some.injEq, Prod.mk.injEq] at h
        obtain ⟨rfl, rfl, rfl⟩ := h
        have cb := decide_eq_true c
        obtain ⟨aj, ak⟩ := bc2 (w := w9) B4.out
        have hfx := blk_frozen B4.out
        go_wp2
        refine bodyPost_ret (results_ct rfl _ _ I 34 #[.slice A ns.length ns.length, .slice A' es.length es.length] (0, 0) _ rfl (bp B4.out rfl) Try.underlying34 rfl (by kernel_rfl)) rfl ?_
        exact ⟨_, _, eqr, Kd.R_mono (rt R0.out B4.out (by decide)) (fun _ _ => trivial), Kd.R_mono (rt R1.out B4.out (by decide)) (fun _ _ => trivial), bs HB.out⟩
      · have h := H.out
        rw [if_neg c] at h
        replace H := am h
        have cb := decide_eq_false c
        clear h
        obtain ⟨aa, ab, ac, ae, af, ag, ah, ai⟩ := bc8 (w := w9) B3.out
        by_cases J : t = 1
        · have h := H.out
          rw [if_pos J] at h
          obtain ⟨⟨x, y⟩, hx, h⟩ := Option.bind_eq_some_iff.1 h
          simp only [Option.some.injEq, Prod.mk.injEq] at h
          obtain ⟨rfl, rfl, rfl⟩ := h
          have HX := am hx
          have d1 : (t == 1) = true := beq_iff_eq.mpr J
          clear hx J H
          go_wp2_with fail
          refine (gd_putN k s ns es A A' es.length n0 n1 x y w _ HB.out G6.out I _ B4.out N46.out HM.out.1 Z0.out B6.out R0.out R1.out HX.out).mono ?_
          rintro e wx ⟨rfl, u0, u1, h6, h0, h1, hb, h4⟩
          clear D G aa ab ac ae af ag ah ai B3 B4 B6 R0 R1 HB
          have B4 := am h4
          have B6 := am h6
          have R0 := am h0
          have R1 := am h1
          have HB := am hb
          clear h4 h6 h0 h1 hb
          obtain ⟨Au, cu, eu⟩ := Kd.R_slice R0.out
          subst eu
          obtain ⟨Av, cv, ev⟩ := Kd.R_slice R1.out
          subst ev
          obtain ⟨aj, ak⟩ := bc2 (w := wx) B4.out
          obtain ⟨D, G⟩ := bc2 (w := wx) B6.out
          have hfx := blk_frozen B4.out
          go_wp2
          refine bodyPost_ret (results_ct rfl _ _ I 34 #[.slice Au _ cu, .slice Av _ cv] (0, 0) _ rfl (bp B4.out rfl) Try.underlying34 rfl (by kernel_rfl)) rfl ?_
          exact ⟨_, _, eqr, Kd.R_mono (rt R0.out B4.out (by decide)) (fun _ _ => trivial), Kd.R_mono (rt R1.out B4.out (by decide)) (fun _ _ => trivial), bs HB.out⟩
        · have h := H.out
          rw [if_neg J] at h
          replace H := am h
          have d1 : (t == 1) = false := beq_eq_false_iff_ne.mpr J
          clear h J
          by_cases c4 : t = 4
          · have h := H.out
            rw [if_pos c4] at h
            have HX := am h
            have d4 : (t == 4) = true := beq_iff_eq.mpr c4
            clear h c4 H
            go_wp2_with fail
            refine (gd_takeN k s ns es A A' ns.length es.length n0 n1 r1 r2 r3 w _ HB.out G6.out I _ B4.out N46.out HM.out B6.out R0.out R1.out HX.out).mono ?_
            rintro e wx ⟨rfl, u0, u1, h6, h0, h1, hb, h4⟩
            clear D G aa ab ac ae af ag ah ai B3 B4 B6 R0 R1 HB
            have B4 := am h4
            have B6 := am h6
            have R0 := am h0
            have R1 := am h1
            have HB := am hb
            clear h4 h6 h0 h1 hb
            obtain ⟨Au, cu, eu⟩ := Kd.R_slice R0.out
            subst eu
            obtain ⟨Av, cv, ev⟩ := Kd.R_slice R1.out
            subst ev
            obtain ⟨aj, ak⟩ := bc2 (w := wx) B4.out
            obtain ⟨D, G⟩ := bc2 (w := wx) B6.out
            have hfx := blk_frozen B4.out
            go_wp2
            refine bodyPost_ret (results_ct rfl _ _ I 34 #[.slice Au _ cu, .slice Av _ cv] (0, 0) _ rfl (bp B4.out rfl) Try.underlying34 rfl (by kernel_rfl)) rfl ?_
            exact ⟨_, _, eqr, Kd.R_mono (rt R0.out B4.out (by decide)) (fun _ _ => trivial), Kd.R_mono (rt R1.out B4.out (by decide)) (fun _ _ => trivial), bs HB.out⟩
          · have h := H.out
            rw [if_neg c4] at h
            replace H := am h
            have d4 : (t == 4) = false := beq_eq_false_iff_ne.mpr c4
            clear h c4
            by_cases c2 : t = 2
            · have h := H.out
              rw [if_pos c2] at h
              obtain ⟨⟨x, y⟩, hx, h⟩ := Option.bind_eq_some_iff.1 h
              simp only [Option.some.injEq, Prod.mk.injEq] at h
              obtain ⟨rfl, rfl, rfl⟩ := h
              have HX := am hx
              have d2 : (t == 2) = true := beq_iff_eq.mpr c2
              clear hx c2 H
              go_wp2_with fail
              refine (gd_putE k s ns es A A' ns.length O T X Y Z x y w _ HB.out G6.out I _ B4.out N46.out HM.out.2 Z1.out B6.out R0.out R1.out HX.out).mono ?_
              rintro e wx ⟨rfl, u0, u1, h6, h0, h1, hb, h4⟩
              clear D G aa ab ac ae af ag ah ai B3 B4 B6 R0 R1 HB
              have B4 := am h4
              have B6 := am h6
              have R0 := am h0
              have R1 := am h1
              have HB := am hb
              clear h4 h6 h0 h1 hb
              obtain ⟨Au, cu, eu⟩ := Kd.R_slice R0.out
              subst eu
              obtain ⟨Av, cv, ev⟩ := Kd.R_slice R1.out
              subst ev
              obtain ⟨aj, ak⟩ := bc2 (w := wx) B4.out
              obtain ⟨D, G⟩ := bc2 (w := wx) B6.out
              have hfx := blk_frozen B4.out
              go_wp2
              refine bodyPost_ret (results_ct rfl _ _ I 34 #[.slice Au _ cu, .slice Av _ cv] (0, 0) _ rfl (bp B4.out rfl) Try.underlying34 rfl (by kernel_rfl)) rfl ?_
              exact ⟨_, _, eqr, Kd.R_mono (rt R0.out B4.out (by decide)) (fun _ _ => trivial), Kd.R_mono (rt R1.out B4.out (by decide)) (fun _ _ => trivial), bs HB.out⟩
            · have h := H.out
              rw [if_neg c2] at h
              replace H := am h
              have d2 : (t == 2) = false := beq_eq_false_iff_ne.mpr c2
              clear h c2
              by_cases c3 : t = 3
              · have h := H.out
                rw [if_pos c3] at h
                obtain ⟨⟨x, y⟩, hx, h⟩ := Option.bind_eq_some_iff.1 h
                simp only [Option.some.injEq, Prod.mk.injEq] at h
                obtain ⟨rfl, rfl, rfl⟩ := h
                have HX := am hx
                have d3 : (t == 3) = true := beq_iff_eq.mpr c3
                clear hx c3 H
                go_wp2_with fail
                refine (gd_takeE k s ns es A A' ns.length es.length O T X Y Z x y w _ HB.out G6.out I _ B4.out N46.out HM.out.2 B6.out R0.out R1.out HX.out).mono ?_
                rintro e wx ⟨rfl, u0, u1, h6, h0, h1, hb, h4⟩
                clear D G aa ab ac ae af ag ah ai B3 B4 B6 R0 R1 HB
                have B4 := am h4
                have B6 := am h6
                have R0 := am h0
                have R1 := am h1
                have HB := am hb
                clear h4 h6 h0 h1 hb
                obtain ⟨Au, cu, eu⟩ := Kd.R_slice R0.out
                subst eu
                obtain ⟨Av, cv, ev⟩ := Kd.R_slice R1.out
                subst ev
                obtain ⟨aj, ak⟩ := bc2 (w := wx) B4.out
                obtain ⟨D, G⟩ := bc2 (w := wx) B6.out
                have hfx := blk_frozen B4.out
                go_wp2
                refine bodyPost_ret (results_ct rfl _ _ I 34 #[.slice Au _ cu, .slice Av _ cv] (0, 0) _ rfl (bp B4.out rfl) Try.underlying34 rfl (by kernel_rfl)) rfl ?_
                exact ⟨_, _, eqr, Kd.R_mono (rt R0.out B4.out (by decide)) (fun _ _ => trivial), Kd.R_mono (rt R1.out B4.out (by decide)) (fun _ _ => trivial), bs HB.out⟩
              · have h := H.out
                rw [if_neg c3] at h
                simp only [Option.some.injEq, Prod.mk.injEq] at h
                obtain ⟨rfl, rfl, rfl⟩ := h
                have d3 : (t == 3) = false := beq_eq_false_iff_ne.mpr c3
                clear c3 H
                obtain ⟨aj, ak⟩ := bc2 (w := w9) B4.out
                have hfx := blk_frozen B4.out
                go_wp2
                refine bodyPost_ret (results_ct rfl _ _ I 34 #[.slice A ns.length ns.length, .slice A' es.length es.length] (0, 0) _ rfl (bp B4.out rfl) Try.underlying34 rfl (by kernel_rfl)) rfl ?_
                exact ⟨_, _, eqr, Kd.R_mono (rt R0.out B4.out (by decide)) (fun _ _ => trivial), Kd.R_mono (rt R1.out B4.out (by decide)) (fun _ _ => trivial), bs HB.out⟩
    · rw [if_neg hm] at h; cases h

end Go.Proofs.Ytohmemckdogljaa.QFnExactGraphDo
