/- Contracts of the Go functions that this law reaches: each does what its plain Lean function says. No condition. -/
import Derived.Test.YtohmemckdogljaaQFnExactGraphDox0
import Derived.Test.YtohmemckdogljaaQFnExactGraphDox1
import Derived.Test.YtohmemckdogljaaQFnExactGraphDox16
namespace Go.Proofs.Ytohmemckdogljaa.QFnExactGraphDo
open Go.RowKit Go.Proofs.YtohmemckdogljaaW.PrintWords Go.Proofs.YtohmemckdogljaaW.PrintLast Go.Proofs.YtohmemckdogljaaW.PrintMore Go.Proofs.Ytohmemckdogljaa.Bl
attribute [local go_sem] max2_int min2_int max_two min_two max_three min_three max_four min_four   -- for this text's walks alone
set_option linter.unusedVariables false
set_option linter.unusedSimpArgs false
set_option maxHeartbeats 8000000
set_option maxRecDepth 100000

/-! ### impl_Node_129: function 129 -/
/-! a made row of edges, told as its block -/
def enc56 (x : S56) : List Value := [.int .i64 x.f0, .int .i64 x.f1.f0, .int .i64 x.f1.f1, .int .i64 x.f2.f0, .int .i64 x.f2.f1]
def encE (xs : List S56) : List Value := xs.flatMap enc56
theorem encE_len (xs : List S56) : (encE xs).length = xs.length * 5 := by
  induction xs with
  | nil => rfl
  | cons x xs ih =>
    show (enc56 x ++ encE xs).length = _
    rw [List.length_append, ih, List.length_cons]; show 5 + _ = _; omega
theorem encE_cons (x : S56) (xs : List S56) : encE (x :: xs) = .int .i64 x.f0 :: .int .i64 x.f1.f0 :: .int .i64 x.f1.f1 :: .int .i64 x.f2.f0 :: .int .i64 x.f2.f1 :: encE xs := rfl
theorem encE_app (xs ys : List S56) : encE (xs ++ ys) = encE xs ++ encE ys := by simp [encE, List.flatMap_append]
theorem encE_get : ∀ (xs : List S56) (j : Nat) (p : S56), xs[j]? = some p → ((encE xs).drop (j * 5)).take 5 = enc56 p
  | [], j, p, h => by simp at h
  | x :: xs, 0, p, h => by obtain rfl := Option.some.inj h; rfl
  | x :: xs, j + 1, p, h => by
    rw [show (j + 1) * 5 = j * 5 + 5 by omega, encE_cons]
    exact encE_get xs j p (by simpa using h)
theorem encE_uniq : ∀ (xs : List S56) (cs : List Value), cs.length = xs.length * 5 → (∀ j p, xs[j]? = some p → (cs.drop (j * 5)).take 5 = enc56 p) → cs = encE xs
  | [], cs, hl, _ => by rw [List.length_eq_zero_iff.1 (show cs.length = 0 by simpa using hl)]; rfl
  | x :: xs, cs, hl, h => by
    have h0 := h 0 x rfl
    rw [show 0 * 5 = 0 from rfl, List.drop_zero] at h0
    have ih := encE_uniq xs (cs.drop 5) (by simp at hl ⊢; omega) (fun j p hj => by
      have := h (j + 1) p (by simpa using hj)
      rw [List.drop_drop]
      rwa [show (j + 1) * 5 = 5 + j * 5 by omega] at this)
    rw [← List.take_append_drop 5 cs, h0, ih]; rfl
theorem R_blkE {w : World} {base : Nat} {ok : Nat → Prop} {v : Value} {xs : List S56} (h : Kd.R k56 56 w base ok v xs) (hp : 0 < xs.length) :
    ∃ g cap rest, v = .slice (some ⟨g, 0, none⟩) xs.length cap ∧ ok g ∧ base ≤ g ∧ w.heap[g]? = some (.cells (encE xs ++ rest).toArray 56 (0, 0)) ∧ (encE xs ++ rest).length = cap * 5 ∧ xs.length ≤ cap ∧ cap ≤ maxLen := by
  obtain ⟨hok, inner, ⟨hl, ho⟩, hr⟩ := h
  rcases ho with ⟨_, h0⟩ | ⟨g, cap, cur, rfl, hb, hh, hnc, hcm, hcs, ht⟩
  · omega
  · have e : inner = encE xs := encE_uniq xs inner hl (fun j p hj => k56_openM (hr.2 j p hj))
    have z : cur.toList.take (xs.length * 5) = encE xs := ht.trans e
    have s : encE xs ++ cur.toList.drop (xs.length * 5) = cur.toList := by rw [← z, List.take_append_drop]
    refine ⟨g, cap, cur.toList.drop (xs.length * 5), rfl, hok g rfl, hb, ?_, ?_, hnc, hcm⟩
    · rw [s]; exact hh
    · rw [s]; exact hcs
theorem blk_RE {w : World} {base g cap : Nat} {ok : Nat → Prop} {xs : List S56} {rest : List Value} (hh : w.heap[g]? = some (.cells (encE xs ++ rest).toArray 56 (0, 0))) (hl : (encE xs ++ rest).length = cap * 5) (hnc : xs.length ≤ cap) (hcm : cap ≤ maxLen) (hok : ok g) (hb : base ≤ g) :
    Kd.R k56 56 w base ok (.slice (some ⟨g, 0, none⟩) xs.length cap) xs := by
  refine ⟨fun k hk => ?_, encE xs, ⟨encE_len xs, .inr ⟨g, cap, _, rfl, hb, hh, hnc, hcm, (show (encE xs ++ rest).toArray.size = cap * 5 by simpa using hl), ?_⟩⟩, encE_len xs, fun j p hj => ?_⟩
  · have : g = k := by simpa [Value.ownBlock] using hk
    exact this ▸ hok
  · show (encE xs ++ rest).take (xs.length * 5) = encE xs
    rw [← encE_len xs, List.take_left']
    rfl
  · show k56.M w base _ p (((encE xs).drop (j * 5)).take 5)
    rw [encE_get xs j p hj]
    exact k56_mkM _ _ _ p

/-! a made row of edges, told as its block -/
theorem CcellsE {w : World} {A : Option Addr} {n : Nat} {xs : List S56} (h : Kd.C k56 w A n xs) (hp : 0 < xs.length) : ∃ a, A = some a ∧ ∀ j v, (encE xs)[j]? = some v → w.cell? (a.add j) = some v := by
  have h1 := h.1
  obtain ⟨a, rfl, _⟩ := h.2.2 (by omega)
  obtain ⟨inner, hr, hc⟩ := ReadsRow.inner_ h
  have e : inner = encE xs := encE_uniq xs inner hr.1 (fun j p hj => k56_open (hr.2 j p hj))
  subst e
  exact ⟨a, rfl, hc⟩
theorem encE_one : ∀ (xs : List S56), ∀ v ∈ encE xs, v.oneCell' = true := by
  intro xs v hv
  obtain ⟨x, _, hx⟩ := List.mem_flatMap.1 hv
  simp [enc56] at hx
  rcases hx with rfl | rfl | rfl | rfl | rfl <;> rfl
/-- copy() at elements of more cells than one: into a block of the call's own. -/
theorem run_copyE (w : World) (ty : TypeId) (g o dLen dCap : Nat) (a : Addr) (sLen sCap : Nat) (cur : Array Value) (t : TypeId) (cs : List Value)
    (hg : w.heap[g]? = some (.cells cur t (0, 0))) (hn : cs.length = Nat.min sLen dLen * 5)
    (hsrc : ∀ j v, cs[j]? = some v → w.cell? (a.add j) = some v) (hfit : o + cs.length ≤ cur.size) (h1 : ∀ v ∈ cs, v.oneCell' = true) :
    (Builtin.copy_ #[32, 32] ty #[.slice (some ⟨g, o, none⟩) dLen dCap, .slice (some a) sLen sCap]).run Try.prog w =
      .ok (goInt (Nat.min sLen dLen)) (w.setRow g (cur.toList.take o ++ cs ++ cur.toList.drop (o + cs.length)).toArray) := by
  have hl := run_loadCells_list (P := Try.prog) w a cs hsrc
  have hst := run_storeCells_at Try.prog g o t cs 0 cur w hg (by simpa using hfit) h1
  obtain ⟨i, hi, hz⟩ := Option.map_eq_some_iff.1 info56
  simp only [Prod.mk.injEq] at hz
  have hs : i.size = 5 := hz.2.1
  simp [Builtin.copy_, run_underlying Try.underlying32, Builtin.lenOf, Builtin.firstCells, sizeOf, typeInfo, hi, hs, ← hn, hl, hst]

theorem zeros1E (n : Nat) : (Builtin.zeroCells (Value.agg #[(.int .i64 0), (.int .i64 0), (.int .i64 0), (.int .i64 0), (.int .i64 0)]).cells n).toList.length = n * 5 := by
  simp [Builtin.zeroCells, Value.cells]

/-! copyList at edges -/
set_option maxHeartbeats 8000000 in
set_option maxRecDepth 100000 in
theorem cplE (z : Option Addr) (H : Nat) (l0 : List S56) (w : World) (D : Kd.C k56 w z l0.length l0) (hm : l0.length ≤ 1000) :
    Calls Try.prog 128 #[.slice z l0.length H] w fun e w' => ∃ A, e = .returned (.slice A l0.length l0.length) ∧ Kd.R k56 56 w' w.heap.size (fun _ => True) (.slice A l0.length l0.length) l0 ∧ Below w.heap.size w w' ∧ (l0.length = 0 → A = none) := by
  have hu := Try.underlying32
  go_enter Try.func128, Try.ntmps128
  by_cases h0 : l0.length = 0
  · have hl : l0 = [] := List.eq_nil_of_length_eq_zero h0
    subst hl
    go_wp2
    go_ret
    exact ⟨none, eqr, Kd.R_nil _ _ _ _ _, by repeat (first | exact Below.refl _ _ | apply below_alloc | apply pw_below_drewN | apply below_drew1), fun _ => rfl⟩
  · have hb1 : ((l0.length : Int) == 0) = false := beq_eq_false_iff_ne.mpr (by omega)
    have hb2 : decide ((l0.length : Int) = 0) = false := decide_eq_false (by omega)
    obtain ⟨i, hi, hz⟩ := Option.map_eq_some_iff.1 info56
    simp only [Prod.mk.injEq] at hz
    obtain ⟨ad, rfl, hc⟩ := CcellsE D (by omega)
    obtain ⟨ROW, hROW⟩ : ∃ ROW : Array Value, ROW = madeCells (Value.agg #[(.int .i64 0), (.int .i64 0), (.int .i64 0), (.int .i64 0), (.int .i64 0)]).cells (l0.length * 5) := ⟨_, rfl⟩
    have hRs : ROW.size = l0.length * 5 := by rw [hROW]; simp [size_madeCells]
    have hmk : ∀ W : World, (Instr.makeSlice 32 (.int .i64 (l0.length : Int)) (.int .i64 (l0.length : Int))).run Try.prog W = .ok (.slice (some ⟨W.heap.size, 0, none⟩) l0.length l0.length) (W.alloc (.cells ROW 56)) := fun W => by
      have := run_make (P := Try.prog) W 32 56 i _ Try.underlying32 hi hz.1 .i64 .i64 (l0.length : Int) l0.length (by omega) (by omega) (by rw [hz.2.2]; omega) (by omega)
      rw [hz.2.1] at this; rw [hROW]; simpa using this
    have hlen := encE_len l0
    have hsp : ∀ j v, (encE l0)[j]? = some v → (w.alloc (.cells ROW 56)).cell? (ad.add j) = some v := fun j v hj =>
      (World.cell?_alloc_lt _ _ _ (World.block_lt_of_cell? _ _ (hc j v hj))).trans (hc j v hj)
    have hnew : (w.alloc (.cells ROW 56)).heap[w.heap.size]? = some (.cells ROW 56 (0, 0)) := blk_new w _
    have hcp : ∀ ty sc, (Builtin.copy_ #[32, 32] ty #[.slice (some ⟨w.heap.size, 0, none⟩) l0.length l0.length, .slice (some ad) l0.length sc]).run Try.prog (w.alloc (.cells ROW 56)) =
        .ok (goInt l0.length) ((w.alloc (.cells ROW 56)).setRow w.heap.size (encE l0).toArray) := fun ty sc => by
      have := run_copyE (w.alloc (.cells ROW 56)) ty w.heap.size 0 l0.length l0.length ad l0.length sc ROW 56 (encE l0) hnew (by rw [hlen]; simp) hsp (by rw [hRs, hlen]; omega) (encE_one l0)
      rw [this]
      simp only [Nat.min_self, List.take_zero, List.nil_append, Nat.zero_add]
      rw [List.drop_of_length_le (by rw [Array.length_toList, hRs, hlen]; omega), List.append_nil]
    clear hsp hc D hROW hi hz
    go_wp2_with (first | ((with_reducible refine gate_builtin (b := .copy) (xs := #[.tmp 10, .tmp 11]) rfl ?_); at_builtin; refine wpList_cpy _ rfl _ _ 32 32 rfl _ _ rfl rfl (hcp _ _) ?_))
    go_ret
    refine ⟨_, eqr, ?_, below_row (below_alloc (Below.refl _ _) _) (Nat.le_refl _), fun h => absurd h h0⟩
    exact blk_RE (rest := []) (by rw [List.append_nil]; exact setRow_heap _ _ _ _ _ _ hnew) (by rw [List.append_nil, hlen]) (Nat.le_refl _) (by unfold maxLen; omega) trivial (Nat.le_refl _)

/-! slices.Insert of one at edges, where the row has no room -/
set_option maxHeartbeats 8000000 in
set_option maxRecDepth 100000 in
theorem ins_endE (z : Option Addr) (l0 : List S56) (I : Option Addr) (c2 : Nat) (x : S56) (w : World) (J : Kd.C k56 w z l0.length l0) (L : l0.length = 0 → z = none) (O : Kd.C k56 w I 1 [x]) (hm : l0.length ≤ 1000) :
    Calls Try.prog 134 #[.slice z l0.length l0.length, .int .i64 (l0.length : Int), .slice I 1 c2] w fun e w' => ∃ T, e = .returned T ∧ Kd.R k56 56 w' w.heap.size (fun _ => True) T (l0 ++ [x]) ∧ Below w.heap.size w w' := by
  have hu := Try.underlying32
  obtain ⟨i, hi, hz⟩ := Option.map_eq_some_iff.1 info56
  simp only [Prod.mk.injEq] at hz
  obtain ⟨D, rfl, H⟩ := CcellsE O (by simp)
  obtain ⟨G, hG⟩ : ∃ G, G = grownCap w (l0.length + 1) l0.length 56 := ⟨_, rfl⟩
  obtain ⟨ZR, hZR⟩ : ∃ ZR, ZR = Builtin.zeroCells (Value.agg #[(.int .i64 0), (.int .i64 0), (.int .i64 0), (.int .i64 0), (.int .i64 0)]).cells (G - (l0.length + 1)) := ⟨_, rfl⟩
  have hap : ∀ ty, (Builtin.append_ #[32, 32] ty #[.slice z l0.length l0.length, .slice (some D) 1 c2]).run Try.prog w =
      .ok (.slice (some ⟨w.heap.size, 0, none⟩) (l0.length + 1) G) (w.drew.alloc (.cells ((encE (l0 ++ [x])) ++ ZR.toList).toArray 56)) := fun ty => by
    by_cases h0 : l0.length = 0
    · have hl : l0 = [] := List.eq_nil_of_length_eq_zero h0
      obtain rfl := L h0
      subst hl
      have := run_append_nil (P := Try.prog) w 32 ty 56 i _ Try.underlying32 hi hz.1 D 1 c2 (encE [x]) (by rw [encE_len, hz.2.1]; rfl) H (by omega) (by omega) (by rw [hz.2.2]; omega)
      rw [show (([] : List S56).length) = 0 from rfl, this]
      rw [show (([] : List S56).length) = 0 from rfl, Nat.zero_add] at hG
      rw [show (([] : List S56).length) = 0 from rfl, Nat.zero_add] at hZR
      rw [← hG, ← hZR, List.nil_append, Nat.zero_add]
      congr 3
      apply Array.ext'; simp
    · obtain ⟨Y, rfl, aa⟩ := CcellsE J (by omega)
      rw [run_append_grow (P := Try.prog) w 32 ty 56 i _ Try.underlying32 hi hz.1 Y l0.length l0.length (encE l0) (by rw [encE_len, hz.2.1]) aa D 1 c2 (encE [x]) (by rw [encE_len, hz.2.1]; rfl) H (by omega) (by omega) (growslice_fits (by omega) (by rw [hz.2.2]; omega)), ← hG, ← hZR, encE_app]
      congr 3
      apply Array.ext'; simp
  have hGn : l0.length + 1 ≤ G := by rw [hG]; exact grownCap_ge w _ _ _
  have hGm : G ≤ maxLen := by rw [hG]; exact grownCap_le_maxLen w _ _ _ (by unfold maxLen; omega)
  have hZl : ZR.toList.length = (G - (l0.length + 1)) * 5 := by rw [hZR]; exact zeros1E _
  have hin : (l0.length : Int) ≤ (l0.length : Int) := by omega
  have hw1 : IntKind.i64.wrap ((l0.length : Int) + 1) = (l0.length : Int) + 1 := by rw [IntKind.wrap_i64]; omega
  clear hG hZR J O H L hi hz
  go_enter Try.func134, Try.ntmps134
  go_wp2_with (first | (at_builtin; refine wpList_app _ rfl _ _ 32 32 rfl _ _ rfl rfl (hap _) ?_))
  go_ret
  refine ⟨_, eqr, ?_, below_alloc (below_drew1 (Below.refl _ _)) _⟩
  have e : (l0 ++ [x]).length = l0.length + 1 := by simp
  have e2 := encE_len (l0 ++ [x])
  rw [← e]
  exact blk_RE (rest := ZR.toList) (blk_new w.drew _) (by rw [List.length_append, e2, hZl, e]; omega) (by omega) hGm trivial (Nat.le_refl _)
set_option maxHeartbeats 8000000 in
set_option maxRecDepth 100000 in
theorem ins_midE (b : Nat) (l0 : List S56) (i : Nat) (I : Option Addr) (c2 : Nat) (x : S56) (w : World) (J : Kd.C k56 w (some ⟨b, 0, none⟩) l0.length l0) (L : Kd.C k56 w I 1 [x]) (hil : i < l0.length) (hm : l0.length ≤ 1000) :
    Calls Try.prog 134 #[.slice (some ⟨b, 0, none⟩) l0.length l0.length, .int .i64 (i : Int), .slice I 1 c2] w fun e w' => ∃ O, e = .returned O ∧ Kd.R k56 56 w' w.heap.size (fun _ => True) O (l0.take i ++ x :: l0.drop i) ∧ Below w.heap.size w w' := by
  have hu := Try.underlying32
  obtain ⟨ti, hi, hz⟩ := Option.map_eq_some_iff.1 info56
  simp only [Prod.mk.injEq] at hz
  obtain ⟨D, rfl, H⟩ := CcellsE L (by simp)
  obtain ⟨a0, T, z⟩ := CcellsE J (by omega)
  obtain rfl := Option.some.inj T
  clear T
  have hb : b < w.heap.size := World.block_lt_of_cell? _ _ (z 0 _ (List.getElem?_eq_getElem (by rw [encE_len]; omega)))
  have hb2 : D.block < w.heap.size := World.block_lt_of_cell? _ _ (H 0 _ (List.getElem?_eq_getElem (by rw [encE_len]; simp)))
  have hl0 := encE_len l0
  have hlx : (encE [x]).length = 5 := by rw [encE_len]; rfl
  obtain ⟨n, hn⟩ : ∃ n, n = l0.length := ⟨_, rfl⟩
  have htk : encE l0 = encE (l0.take i) ++ encE (l0.drop i) := by rw [← encE_app, List.take_append_drop]
  have hlt : (encE (l0.take i)).length = i * 5 := by rw [encE_len, List.length_take]; congr 1; omega
  have hld : (encE (l0.drop i)).length = (n - i) * 5 := by rw [encE_len, List.length_drop, hn]
  obtain ⟨G, hG⟩ : ∃ G, G = grownCap w (n + 1) n 56 := ⟨_, rfl⟩
  obtain ⟨Z1, hZ1⟩ : ∃ Z, Z = (Builtin.zeroCells (Value.agg #[(.int .i64 0), (.int .i64 0), (.int .i64 0), (.int .i64 0), (.int .i64 0)]).cells (n + 1 - i)).toList := ⟨_, rfl⟩
  obtain ⟨Z2, hZ2⟩ : ∃ Z, Z = (Builtin.zeroCells (Value.agg #[(.int .i64 0), (.int .i64 0), (.int .i64 0), (.int .i64 0), (.int .i64 0)]).cells (G - (n + 1))).toList := ⟨_, rfl⟩
  have hl1 : Z1.length = (n + 1 - i) * 5 := by rw [hZ1]; exact zeros1E _
  have hl2 : Z2.length = (G - (n + 1)) * 5 := by rw [hZ2]; exact zeros1E _
  have hGn : n + 1 ≤ G := by rw [hG]; exact grownCap_ge w _ _ _
  have hGm : G ≤ maxLen := by rw [hG]; exact grownCap_le_maxLen w _ _ _ (by unfold maxLen; omega)
  obtain ⟨W1, hW1⟩ : ∃ W1, W1 = w.drew.alloc (.cells (encE (l0.take i) ++ Z1 ++ Z2).toArray 56) := ⟨_, rfl⟩
  have hap : ∀ ty, (Builtin.append_ #[32, 3] ty #[.slice (some ⟨b, 0, none⟩) i n, .int .i64 ((n : Int) + 1 - (i : Int))]).run Try.prog w =
      .ok (.slice (some ⟨w.heap.size, 0, none⟩) (n + 1) G) W1 := fun ty => by
    have hold : (Builtin.firstCells ti.size i (.slice (some ⟨b, 0, none⟩) i n)).run Try.prog w.drew = .ok (encE (l0.take i)).toArray w.drew :=
      run_firstCells_some w.drew ti.size i ⟨b, 0, none⟩ i n (encE (l0.take i)) (by rw [hlt, hz.2.1]) (fun j v hj => by
        have : (encE l0)[j]? = some v := by rw [htk, List.getElem?_append_left (List.getElem?_eq_some_iff.1 hj).1]; exact hj
        exact z j v this)
    have h := Lib.run_append_grow_zeros (P := Try.prog) w 32 3 ty 56 ti _ .i64 .i64 Try.underlying32 Try.underlying3 hi hz.1 (some ⟨b, 0, none⟩) i n (encE (l0.take i)) hold (n + 1 - i) (by omega) (by rw [hz.2.1]; omega) (by omega) (by omega) (by rw [hz.2.2]; omega) (by rw [show i + (n + 1 - i) = n + 1 by omega]; exact growslice_fits (by omega) (by rw [hz.2.2]; omega))
    rw [show i + (n + 1 - i) = n + 1 by omega, ← hG] at h
    rw [show (n : Int) + 1 - (i : Int) = ((n + 1 - i : Nat) : Int) by omega, h, hW1, hZ1, hZ2]
    congr 3
    apply Array.ext'; simp
  obtain ⟨RA, hRA⟩ : ∃ R : Array Value, R = (encE (l0.take i) ++ Z1 ++ Z2).toArray := ⟨_, rfl⟩
  have hRs : RA.size = G * 5 := by rw [hRA]; simp only [List.size_toArray, List.length_append, hlt, hl1, hl2]; omega
  obtain ⟨RB, hRB⟩ : ∃ R : Array Value, R = (RA.toList.take (i * 5) ++ encE [x] ++ RA.toList.drop (i * 5 + (encE [x]).length)).toArray := ⟨_, rfl⟩
  have hRBs : RB.size = G * 5 := by
    rw [hRB]; simp only [List.size_toArray, List.length_append, List.length_take, List.length_drop, Array.length_toList, hRs, hlx]
    have : (i + 1) * 5 ≤ G * 5 := Nat.mul_le_mul_right _ (by omega)
    omega
  rw [← hRA] at hW1
  have hnew : W1.heap[w.heap.size]? = some (.cells RA 56 (0, 0)) := by rw [hW1]; exact blk_new w.drew _
  have hOb : ∀ (a : Addr) v, w.cell? a = some v → W1.cell? a = some v := fun a v h => by rw [hW1]; exact (World.cell?_alloc_lt _ _ _ (World.block_lt_of_cell? _ _ h)).trans h
  obtain ⟨W2, hW2⟩ : ∃ W2, W2 = W1.setRow w.heap.size RB := ⟨_, rfl⟩
  have hcpA : ∀ ty dc, (Builtin.copy_ #[32, 32] ty #[.slice (some ⟨w.heap.size, i * 5, none⟩) (n + 1 - i) dc, .slice (some D) 1 c2]).run Try.prog W1 = .ok (goInt 1) W2 := fun ty dc => by
    have := run_copyE W1 ty w.heap.size (i * 5) (n + 1 - i) dc D 1 c2 RA 56 (encE [x]) hnew (by rw [hlx, show Nat.min 1 (n + 1 - i) = 1 by simp only [Nat.min_def]; split <;> omega]) (fun j v hj => hOb _ v (H j v hj)) (by rw [hlx, hRs]; have : (i + 1) * 5 ≤ G * 5 := Nat.mul_le_mul_right _ (by omega); omega) (encE_one _)
    rw [this, show Nat.min 1 (n + 1 - i) = 1 by simp only [Nat.min_def]; split <;> omega, hW2, hRB]
    rfl
  obtain ⟨RC, hRC⟩ : ∃ R : Array Value, R = (RB.toList.take ((i + 1) * 5) ++ encE (l0.drop i) ++ RB.toList.drop ((i + 1) * 5 + (encE (l0.drop i)).length)).toArray := ⟨_, rfl⟩
  have hnew2 : W2.heap[w.heap.size]? = some (.cells RB 56 (0, 0)) := by rw [hW2]; exact setRow_heap _ _ _ _ _ _ hnew
  have hOb2 : ∀ j v, (encE (l0.drop i))[j]? = some v → W2.cell? ⟨b, i * 5 + j, none⟩ = some v := fun j v hj => by
    rw [hW2, cell_setRow_other _ _ _ _ (show b ≠ w.heap.size by omega)]
    have : (encE l0)[i * 5 + j]? = some v := by rw [htk, List.getElem?_append_right (by omega), hlt, Nat.add_sub_cancel_left]; exact hj
    have h2 := hOb _ v (z _ v this)
    rw [Addr.add_lit] at h2
    simpa using h2
  have hcpB : ∀ (W : World), W.heap[w.heap.size]? = W2.heap[w.heap.size]? → (∀ y, W.cell? y = W2.cell? y) → ∀ ty dc sc, (Builtin.copy_ #[32, 32] ty #[.slice (some ⟨w.heap.size, (i + 1) * 5, none⟩) (n - i) dc, .slice (some ⟨b, i * 5, none⟩) (n - i) sc]).run Try.prog W =
      .ok (goInt ((n - i : Nat) : Int)) (W.setRow w.heap.size RC) := fun W hWh hWc ty dc sc => by
    have hmn : Nat.min (n - i) (n - i) = n - i := Nat.min_self _
    have := run_copyE W ty w.heap.size ((i + 1) * 5) (n - i) dc ⟨b, i * 5, none⟩ (n - i) sc RB 56 (encE (l0.drop i)) (hWh.trans hnew2) (by rw [hld, hmn]) (fun j v hj => by rw [Addr.add_lit, hWc]; exact hOb2 j v hj) (by rw [hld, hRBs, ← Nat.add_mul]; exact Nat.mul_le_mul_right _ (by omega)) (encE_one _)
    rw [this, hmn, hRC]
  rw [← hn] at hil hm ⊢
  have q1 : ¬ ((i : Int) = (n : Int)) := by omega
  have q2 : (n : Int) < (n : Int) + 1 := by omega
  have q3 : IntKind.i64.wrap ((n : Int) + 1) = (n : Int) + 1 := by rw [IntKind.wrap_i64]; omega
  have q4 : IntKind.i64.wrap ((n : Int) + 1 - (i : Int)) = (n : Int) + 1 - (i : Int) := by rw [IntKind.wrap_i64]; omega
  have q5 : IntKind.i64.wrap ((i : Int) + 1) = (i : Int) + 1 := by rw [IntKind.wrap_i64]; omega
  have q6 : (i : Int) ≤ (n : Int) := by omega
  have q7 : (i : Int) ≤ (n : Int) + 1 := by omega
  have q8 : (i : Int) + 1 ≤ (n : Int) + 1 := by omega
  have q9 : ((i : Int) + 1).toNat = i + 1 := by omega
  have ab : (0 : Int) ≤ (i : Int) + 1 := by omega
  have ac : ¬ (G = i) := by omega
  have ae : ¬ (G = i + 1) := by omega
  have af : ¬ (n = i) := by omega
  have ag : i ≤ n := by omega
  have HN := am hn
  have Y := am hW1
  have aa := am hW2
  have HRA := am hRA
  have HRB := am hRB
  have HRC := am hRC
  have HL := am (And.intro hl1 (And.intro hl2 (And.intro hlt (And.intro hld hlx))))
  have HZ := am (And.intro hRs hRBs)
  have HG := am hGm
  have HH := am hnew2
  clear hn hW1 hW2 hRA hRB hRC hl1 hl2 hlt hld hlx hRs hRBs hGm hnew hnew2 hZ1 hZ2 hG htk hl0 J L z H hOb hOb2 hi hz
  go_enter Try.func134, Try.ntmps134
  go_wp2_with (first
    | (at_builtin; refine wpList_app _ rfl _ _ 32 3 rfl _ _ rfl rfl (hap _) ?_)
    | (at_builtin; refine wpList_cpy _ rfl _ _ 32 32 rfl _ _ rfl rfl (hcpA _ _) ?_))
  have mixed : Try.prog.follows .mixedOrders = true := by kernel_rfl
  go_region_law_o (refine step_cpy rfl _ _ 32 32 rfl (.slice (some ⟨w.heap.size, (i + 1) * 5, none⟩) (n - i) (G - (i + 1))) (.slice (some ⟨b, i * 5, none⟩) (n - i) (n - i)) ?h1 ?h2 (v' := goInt ((n - i : Nat) : Int)) (w' := W2.drew.setRow w.heap.size RC) ?h4 ?_; (case h1 => simp [Act.eval, Act.put]); (case h2 => simp [Act.eval, Act.put]); (case h4 => exact hcpB W2.drew rfl (fun _ => rfl) _ _ _))
  go_wp2
  go_ret
  obtain ⟨hl1, hl2, hlt, hld, hlx⟩ := HL.out
  have hB2 : Below w.heap.size w W2 := by rw [aa.out, Y.out]; exact below_row (below_alloc (below_drew1 (Below.refl _ _)) _) (Nat.le_refl _)
  refine ⟨_, eqr, ?_, below_row (below_drew1 hB2) (Nat.le_refl _)⟩
  have eC : RC = (encE (l0.take i ++ x :: l0.drop i) ++ Z2).toArray := by
    rw [HRC.out, HRB.out, HRA.out, hld, hlx, show (i + 1) * 5 = i * 5 + 5 by omega, encE_app, show x :: l0.drop i = [x] ++ l0.drop i from rfl, encE_app]
    have := splice3 (encE (l0.take i)) Z1 Z2 (encE [x]) (encE (l0.drop i)) (i * 5) 5 ((n - i) * 5) hlt hlx (by rw [hl1]; omega) hld
    simp only [List.toList_toArray]
    rw [this]; simp [List.append_assoc]
  have e : (l0.take i ++ x :: l0.drop i).length = n + 1 := by
    have := HN.out
    rw [List.length_append, List.length_take, List.length_cons, List.length_drop]; omega
  have e2 := encE_len (l0.take i ++ x :: l0.drop i)
  rw [← e]
  exact blk_RE (rest := Z2) (by rw [← eC]; exact setRow_heap _ _ _ _ _ _ HH.out) (by rw [List.length_append, e2, hl2, e]; omega) (by omega) HG.out trivial (Nat.le_refl _)

/-! slices.Insert at edges, as the print wants it; the last three are what the row is -/
def insfE (l0 : List S56) (s : Int) (l2 : List S56) : Option (List S56) := if 0 ≤ s ∧ s ≤ (l0.length : Int) ∧ l2.length = 1 ∧ l0.length ≤ 1000 then some (l0.take s.toNat ++ l2 ++ l0.drop s.toNat) else none
theorem inscE (s : Option Addr) (H : Nat) (l0 : List S56) (z : Int) (D : Option Addr) (c2 : Nat) (l2 r : List S56) (w : World) (I : Kd.C k56 w s l0.length l0) (T : l0.length ≤ H) (J : Kd.C k56 w D l2.length l2) (Y : l2.length ≤ c2) (h : insfE l0 z l2 = some r)
    (hcap : H = l0.length) (hA : l0.length = 0 → s = none) (O : 0 < l0.length → ∃ b, s = some ⟨b, 0, none⟩) :
    Calls Try.prog 134 #[.slice s l0.length H, .int .i64 z, .slice D l2.length c2] w fun e w' => ∃ L : Value, e = .returned L ∧ Kd.R k56 56 w' w.heap.size (fun _ => True) L r ∧ Below w.heap.size w w' := by
  unfold insfE at h
  by_cases hm : 0 ≤ z ∧ z ≤ (l0.length : Int) ∧ l2.length = 1 ∧ l0.length ≤ 1000
  · rw [if_pos hm] at h
    obtain rfl := Option.some.inj h
    obtain ⟨h0, h1, h2, h3⟩ := hm
    subst hcap
    obtain ⟨x, rfl⟩ := List.length_eq_one_iff.1 h2
    obtain ⟨i, rfl⟩ := Int.eq_ofNat_of_zero_le h0
    rw [Int.toNat_natCast]
    by_cases e : i = l0.length
    · subst e
      rw [List.take_length, List.drop_length, List.append_nil]
      exact ins_endE s l0 D c2 x w I hA J h3
    · obtain ⟨b, rfl⟩ := O (by omega)
      have := ins_midE b l0 i D c2 x w I J (by omega) h3
      rw [List.append_assoc]
      exact this
  · rw [if_neg hm] at h; cases h

/-! clear(s[m:]) of a made row of edges -/
theorem zeros2E (n : Nat) : ∀ v ∈ (Builtin.zeroCells (Value.agg #[(.int .i64 0), (.int .i64 0), (.int .i64 0), (.int .i64 0), (.int .i64 0)]).cells n).toList, v.oneCell' = true := by
  intro v hv
  simp [Builtin.zeroCells, Value.cells] at hv
  obtain ⟨i, _, rfl⟩ := hv
  have h : i % 5 < 5 := Nat.mod_lt _ (by decide)
  generalize i % 5 = j at h
  match j, h with
  | 0, _ => rfl
  | 1, _ => rfl
  | 2, _ => rfl
  | 3, _ => rfl
  | 4, _ => rfl
theorem zvE : ∀ w, (zeroValue 56).run Try.prog w = .ok (Value.agg #[(.int .i64 0), (.int .i64 0), (.int .i64 0), (.int .i64 0), (.int .i64 0)]) w := by
  intro w
  obtain ⟨i, hi, hz⟩ := Option.map_eq_some_iff.1 info56
  simp only [Prod.mk.injEq] at hz
  simp [zeroValue, typeInfo, hi, hz.1]
theorem clrE {w : World} {base g cap n n2 c2 m : Nat} {ok : Nat → Prop} {A : Option Addr} {xs : List S56} (h : Kd.R k56 56 w base ok (.slice (some ⟨g, 0, none⟩) n cap) xs) (hm : m ≤ xs.length)
    (hA : A = if cap = m then some ⟨g, 0, none⟩ else (some (⟨g, 0, none⟩ : Addr)).map (·.add (m * 5))) (hn : n2 = xs.length - m) :
    ∃ w', (∀ ty, (Builtin.clear_ #[32] ty #[.slice A n2 c2]).run Try.prog w = .ok (.tuple #[]) w') ∧ w.grownBy w' (some g) ∧ Kd.R k56 56 w' base ok (.slice (some ⟨g, 0, none⟩) m cap) (xs.take m) := by
  by_cases h0 : n2 = 0
  · subst h0
    refine ⟨w, fun ty => ?_, ⟨rfl, rfl, rfl, Nat.le_refl _, fun _ _ _ => rfl⟩, Kd.R_take h hm⟩
    cases A <;> simp [Builtin.clear_, run_underlying Try.underlying32]
  · have hp : 0 < xs.length := by omega
    obtain ⟨g', cap', rest, he, hok, hbg, hh, hcl, hnc, hcm⟩ := R_blkE h hp
    injection he with ha hb hc
    injection ha with ha
    injection ha with ha
    subst ha hb hc
    rw [if_neg (by omega)] at hA
    have D : A = some ⟨g, m * 5, none⟩ := by rw [hA]; simp [Addr.add]; omega
    clear hA
    subst D
    obtain ⟨zs, hzs⟩ : ∃ zs, zs = (Builtin.zeroCells (Value.agg #[(.int .i64 0), (.int .i64 0), (.int .i64 0), (.int .i64 0), (.int .i64 0)]).cells n2).toList := ⟨_, rfl⟩
    have hzl : zs.length = n2 * 5 := by rw [hzs]; exact zeros1E n2
    have H : ∀ v ∈ zs, v.oneCell' = true := by rw [hzs]; exact zeros2E n2
    have hen := encE_len xs
    have hfit : m * 5 + zs.length ≤ (encE xs ++ rest).toArray.size := by simp only [List.size_toArray, List.length_append]; omega
    have hst := run_storeCells_cells (P := Try.prog) g (m * 5) zs 0 w (fun j hj => by rw [cell_of_row w g _ _ 56 (0, 0) hh]; simp only [Nat.add_zero]; rw [Array.getElem?_eq_getElem (by omega)]; rfl) (fun j _ => blk_frozen hh _) H
    simp only [Nat.add_zero] at hst
    obtain ⟨cur', I, c2', J⟩ := setCells_row zs (m * 5) w _ hh hfit
    obtain ⟨s1, s2, s3, s4⟩ := setCells_same g zs (m * 5) w
    have L : (encE xs ++ rest).take (m * 5) = encE (xs.take m) := by
      have hl : (encE (xs.take m)).length = m * 5 := by rw [encE_len, List.length_take]; omega
      have h2 : encE xs = encE (xs.take m) ++ encE (xs.drop m) := by rw [← encE_app, List.take_append_drop]
      rw [h2, List.append_assoc]
      exact List.take_left' hl
    refine ⟨w.setCells g (m * 5) zs, fun ty => ?_, ⟨s1, s2, s3, Nat.le_of_eq s4.symm, fun k _ hk => setCells_far zs (m * 5) k (fun e => hk (by rw [e]))⟩, ?_⟩
    · obtain ⟨q, rfl⟩ : ∃ q, n2 = q + 1 := ⟨n2 - 1, by omega⟩
      simp [Builtin.clear_, run_underlying Try.underlying32, zvE, ← hzs, hst]
    · have hl : (xs.take m).length = m := by rw [List.length_take]; omega
      have z : cur'.toList = encE (xs.take m) ++ (zs ++ (encE xs ++ rest).drop (m * 5 + zs.length)) := by
        rw [J, ← L, List.append_assoc]
      have hh' : (w.setCells g (m * 5) zs).heap[g]? = some (.cells (encE (xs.take m) ++ (zs ++ (encE xs ++ rest).drop (m * 5 + zs.length))).toArray 56 (0, 0)) := by
        rw [← z]; exact I
      have := blk_RE (base := base) (ok := ok) (cap := cap) hh' (by rw [← z, Array.length_toList, c2']; simpa using hcl) (by omega) hcm hok hbg
      rw [hl] at this
      exact this

/-! slices.Delete of one at edges -/
set_option maxHeartbeats 8000000 in
set_option maxRecDepth 100000 in
theorem deleE (g cap : Nat) (l0 : List S56) (i : Nat) (base : Nat) (ok : Nat → Prop) (w : World) (hR : Kd.R k56 56 w base ok (.slice (some ⟨g, 0, none⟩) l0.length cap) l0) (hil : i < l0.length) (hm : l0.length ≤ 1000) (Y : cap ≤ maxLen) :
    Calls Try.prog 135 #[.slice (some ⟨g, 0, none⟩) l0.length cap, .int .i64 (i : Int), .int .i64 ((i : Int) + 1)] w fun e w' =>
      e = .returned (.slice (some ⟨g, 0, none⟩) (l0.length - 1) cap) ∧ Kd.R k56 56 w' base ok (.slice (some ⟨g, 0, none⟩) (l0.length - 1) cap) (l0.take i ++ l0.drop (i + 1)) ∧ w.grownBy w' (some g) := by
  have hu := Try.underlying32
  obtain ⟨ti, hi, hz⟩ := Option.map_eq_some_iff.1 info56
  simp only [Prod.mk.injEq] at hz
  obtain ⟨g', cap', rest, he, hok, hbg, hh, hcl, hnc, hcm⟩ := R_blkE hR (by omega)
  injection he with ha hb hc
  injection ha with ha
  injection ha with ha
  subst ha hc
  clear hb
  have hl0 := encE_len l0
  obtain ⟨n, hn⟩ : ∃ n, n = l0.length := ⟨_, rfl⟩
  have z : encE l0 = encE (l0.take i) ++ encE (l0.drop i) := by rw [← encE_app, List.take_append_drop]
  have D : l0.drop i = l0[i] :: l0.drop (i + 1) := List.drop_eq_getElem_cons hil
  have hlt : (encE (l0.take i)).length = i * 5 := by rw [encE_len, List.length_take]; congr 1; omega
  have hld : (encE (l0.drop (i + 1))).length = (n - (i + 1)) * 5 := by rw [encE_len, List.length_drop, hn]
  have hsrc : ∀ j v, (encE (l0.drop (i + 1)))[j]? = some v → w.cell? ⟨g, (i + 1) * 5 + j, none⟩ = some v := fun j v hj => by
    rw [cell_of_row w g _ _ 56 (0, 0) hh]
    have : (encE l0)[(i + 1) * 5 + j]? = some v := by
      rw [z, D, show l0[i] :: l0.drop (i + 1) = [l0[i]] ++ l0.drop (i + 1) from rfl, encE_app, ← List.append_assoc, List.getElem?_append_right (by simp [hlt, encE_len]; omega), List.length_append, hlt, encE_len]
      simpa [show (i + 1) * 5 + j - (i * 5 + 1 * 5) = j by omega] using hj
    simp only [List.getElem?_toArray]
    rw [List.getElem?_append_left (List.getElem?_eq_some_iff.1 this).1]
    exact this
  obtain ⟨cur, hcur⟩ : ∃ c : Array Value, c = (encE l0 ++ rest).toArray := ⟨_, rfl⟩
  rw [← hcur] at hh
  have hcs : cur.size = cap * 5 := by rw [hcur]; simpa using hcl
  have hm1 : (i + 1) * 5 ≤ n * 5 := Nat.mul_le_mul_right _ (by omega)
  have hm2 : n * 5 ≤ cap * 5 := Nat.mul_le_mul_right _ (by omega)
  have hm3 : (n - 1) * 5 + 5 = n * 5 := by omega
  have hm4 : i * 5 + (n - (i + 1)) * 5 = (n - 1) * 5 := by omega
  obtain ⟨R1, hR1⟩ : ∃ R : Array Value, R = (cur.toList.take (i * 5) ++ encE (l0.drop (i + 1)) ++ cur.toList.drop (i * 5 + (encE (l0.drop (i + 1))).length)).toArray := ⟨_, rfl⟩
  have hap : ∀ (W : World) (s : Addr), W.heap[g]? = some (.cells cur 56 (0, 0)) → (∀ j v, (encE (l0.drop (i + 1)))[j]? = some v → W.cell? (s.add j) = some v) → ∀ ty c2,
      (Builtin.append_ #[32, 32] ty #[.slice (some ⟨g, 0, none⟩) i cap, .slice (some s) (n - (i + 1)) c2]).run Try.prog W = .ok (.slice (some ⟨g, 0, none⟩) (n - 1) cap) (W.setRow g R1) := fun W s hW L ty c2 => by
    have := run_append_room (P := Try.prog) W 32 ty 56 ti Try.underlying32 hi g i cap cur hW s (n - (i + 1)) c2 (encE (l0.drop (i + 1))) (by rw [hld, hz.2.1]) L (encE_one _) (by omega) (by rw [hz.2.1, hld, hcs]; omega)
    rw [this, show i + (n - (i + 1)) = n - 1 by omega, hz.2.1, hR1]
  have eR : R1 = (encE (l0.take i ++ l0.drop (i + 1) ++ l0.drop (n - 1)) ++ rest).toArray := by
    have f1 : cur.toList.take (i * 5) = encE (l0.take i) := by
      rw [hcur, List.toList_toArray, z, List.append_assoc]; exact List.take_left' hlt
    have f2 : cur.toList.drop (i * 5 + (encE (l0.drop (i + 1))).length) = encE (l0.drop (n - 1)) ++ rest := by
      have O : encE l0 = encE (l0.take (n - 1)) ++ encE (l0.drop (n - 1)) := by rw [← encE_app, List.take_append_drop]
      rw [hcur, List.toList_toArray, hld, hm4, O, List.append_assoc]
      exact List.drop_left' (by rw [encE_len, List.length_take]; congr 1; omega)
    rw [hR1, f1, f2, encE_app, encE_app]; simp [List.append_assoc]
  obtain ⟨W1, hW1⟩ : ∃ W, W = w.drew.setRow g R1 := ⟨_, rfl⟩
  have hh1 : W1.heap[g]? = some (.cells R1 56 (0, 0)) := by rw [hW1]; exact setRow_heap _ _ _ _ _ _ hh
  have hlX : (l0.take i ++ l0.drop (i + 1) ++ l0.drop (n - 1)).length = n := by
    simp only [List.length_append, List.length_take, List.length_drop]; omega
  have hRX : Kd.R k56 56 W1 base ok (.slice (some ⟨g, 0, none⟩) n cap) (l0.take i ++ l0.drop (i + 1) ++ l0.drop (n - 1)) := by
    have := blk_RE (w := W1) (base := base) (g := g) (cap := cap) (ok := ok) (xs := l0.take i ++ l0.drop (i + 1) ++ l0.drop (n - 1)) (rest := rest) (by rw [← eR]; exact hh1) (by rw [List.length_append, encE_len, hlX]; rw [List.length_append, hl0] at hcl; omega) (by omega) hcm hok hbg
    rw [hlX] at this; exact this
  obtain ⟨T, hclr, hg9, hR9⟩ := clrE (c2 := cap - (n - 1)) (m := n - 1) (n2 := 1) (A := some ⟨g, (n - 1) * 5, none⟩) hRX (by rw [hlX]; omega) (by rw [if_neg (by omega)]; simp [Addr.add]) (by rw [hlX]; omega)
  have eT : (l0.take i ++ l0.drop (i + 1) ++ l0.drop (n - 1)).take (n - 1) = l0.take i ++ l0.drop (i + 1) := List.take_left' (by simp only [List.length_append, List.length_take, List.length_drop]; omega)
  rw [eT] at hR9
  have hgr : w.grownBy T (some g) := by
    have s1 : W1.heap.size = w.heap.size := by rw [hW1, setRow_size]; rfl
    refine ⟨hg9.os.trans (by rw [hW1]; rfl), hg9.tape.trans (by rw [hW1]; rfl), hg9.output.trans (by rw [hW1]; rfl), by rw [← s1]; exact hg9.size, fun k hk hne => (hg9.block k (by omega) hne).trans ?_⟩
    rw [hW1, setRow_other _ _ _ _ (fun e => hne (by rw [e]))]; rfl
  rw [← hn] at hil hm ⊢
  have hncn : n ≤ cap := by omega
  have q1 : ¬ ((i : Int) = (i : Int) + 1) := by omega
  have q3 : ((i : Int) + 1) ≤ (n : Int) := by omega
  have q4 : (i : Int) ≤ (i : Int) + 1 := by omega
  have q5 : (n : Int) ≤ (cap : Int) := by omega
  have q6 : ((i : Int) + 1).toNat = i + 1 := by omega
  have q7 : (0 : Int) ≤ (i : Int) + 1 := by omega
  have q8 : (i : Int) ≤ (n : Int) := by omega
  have q9 : ¬ (cap = n - 1) := by omega
  have aa : ((n - 1 : Nat) : Int) ≤ (n : Int) := by omega
  have ab : (i : Int) ≤ (cap : Int) := by omega
  have ac : n - (n - 1) = 1 := by omega
  have ae : i ≤ cap := by omega
  have af : i + 1 ≤ cap := by omega
  have ag : i + 1 ≤ n := by omega
  have H := am hW1
  have I := am hR9
  have HGR := am hgr
  have HH := am hh
  have HS := am hsrc
  have HD := am hld
  clear hW1 hR9 hgr hh hsrc hld hn hR1 eR hh1 hRX hg9 eT hlX hcur hcs hl0 z D hlt hcl hR hi hz
  go_enter Try.func135, Try.ntmps135
  by_cases hce : cap = i + 1
  · have HE := am hce
    replace hce := eq_true hce
    go_wp2
    have mixed : Try.prog.follows .mixedOrders = true := by kernel_rfl
    go_region_law_o (refine step_app rfl _ _ 32 32 rfl (.slice (some ⟨g, 0, none⟩) i cap) (.slice (some ⟨g, 0, none⟩) (n - (i + 1)) (cap - (i + 1))) ?h1 ?h2 (v' := .slice (some ⟨g, 0, none⟩) (n - 1) cap) (w' := W1) ?h4 ?_; (case h1 => simp [Act.eval, Act.put]); (case h2 => simp [Act.eval, Act.put, hce]); (case h4 => rw [H.out]; exact hap w.drew _ HH.out (fun j v hj => by have h1 := (List.getElem?_eq_some_iff.1 hj).1; have h2 := HD.out; have h3 := HE.out; rw [show n - (i + 1) = 0 by omega] at h2; omega) _ _))
    go_wp2_with (first | (at_builtin; refine wpList_clr _ rfl _ 32 rfl _ rfl (hclr _) ?_))
    go_ret
    exact ⟨eqr, I.out, HGR.out⟩
  · go_wp2
    have mixed : Try.prog.follows .mixedOrders = true := by kernel_rfl
    go_region_law_o (refine step_app rfl _ _ 32 32 rfl (.slice (some ⟨g, 0, none⟩) i cap) (.slice (some ⟨g, (i + 1) * 5, none⟩) (n - (i + 1)) (cap - (i + 1))) ?h1 ?h2 (v' := .slice (some ⟨g, 0, none⟩) (n - 1) cap) (w' := W1) ?h4 ?_; (case h1 => simp [Act.eval, Act.put]); (case h2 => simp [Act.eval, Act.put]); (case h4 => rw [H.out]; exact hap w.drew _ HH.out (fun j v hj => by rw [Addr.add_lit]; exact HS.out j v hj) _ _))
    go_wp2_with (first | (at_builtin; refine wpList_clr _ rfl _ 32 rfl _ rfl (hclr _) ?_))
    go_ret
    exact ⟨eqr, I.out, HGR.out⟩

/-! slices.Delete at edges, as the print wants it -/
def delfnE (l0 : List S56) (s z : Int) : Option (List S56) := if 0 ≤ s ∧ s < (l0.length : Int) ∧ z = s + 1 ∧ l0.length ≤ 1000 then some (l0.take s.toNat ++ l0.drop (s.toNat + 1)) else none
theorem delcE (P0_ : Nat → Prop) (H : Value) (l0 : List S56) (z D : Int) (r : List S56) (w0 w : World) (hB : Below w0.heap.size w0 w) (I : Kd.R k56 56 w w0.heap.size P0_ H l0) (h : delfnE l0 z D = some r) :
    Calls Try.prog 135 #[H, .int .i64 z, .int .i64 D] w fun e w' => ∃ J : Value, e = .returned J ∧ Kd.R k56 56 w' w0.heap.size (fun k_ => (P0_ k_ ∨ w.heap.size ≤ k_)) J r ∧ Below w0.heap.size w0 w' ∧ Kept w w' (fun k_ => P0_ k_) := by
  unfold delfnE at h
  by_cases hm : 0 ≤ z ∧ z < (l0.length : Int) ∧ D = z + 1 ∧ l0.length ≤ 1000
  · rw [if_pos hm] at h
    obtain rfl := Option.some.inj h
    obtain ⟨h0, h1, rfl, h3⟩ := hm
    obtain ⟨i, rfl⟩ := Int.eq_ofNat_of_zero_le h0
    obtain ⟨g, cap, rest, rfl, hok, hbg, hh, hcl, hnc, hcm⟩ := R_blkE I (by omega)
    refine (deleE g cap l0 i w0.heap.size (fun k_ => (P0_ k_ ∨ w.heap.size ≤ k_)) w (Kd.R_mono I (fun k_ hk => .inl hk)) (by omega) h3 hcm).mono ?_
    rintro e w' ⟨O, T, s⟩
    have Y : (l0.take i ++ l0.drop (i + 1)).length = l0.length - 1 := by simp only [List.length_append, List.length_take, List.length_drop]; omega
    refine ⟨_, O, T, hB.trans ⟨s.os, s.tape, s.output, s.size, fun k_ hk_ => s.block k_ (Nat.lt_of_lt_of_le hk_ hB.size) (fun e_ => by injection e_ with e_; omega)⟩, ?_⟩
    exact Kept.of_grown (S := fun k_ => P0_ k_) s (Kept.refl _ _) (fun k_ e_ => .inl (by injection e_ with e_; exact e_ ▸ hok))
  · rw [if_neg hm] at h; cases h

/-! ### impl_Node_130: function 130 -/
section
attribute [local go_sem high] eqA36
/-! takeNode's closure: whether an edge has the node -/
/-- An edge has a node. -/
def hasN (a b : Int) (e : S56) : Bool := (e.f1.f0 == a && (e.f1.f1 == b)) || (e.f2.f0 == a && (e.f2.f1 == b))
set_option maxHeartbeats 8000000 in
set_option maxRecDepth 100000 in
theorem clo (e : S56) (a b : Int) (nb : Nat) (w : World) (hn : w.heap[nb]? = some (.cells #[.int .i64 a, .int .i64 b] 36 (0, 0))) :
    Calls Try.prog 132 #[.agg #[.int .i64 e.f0, .int .i64 e.f1.f0, .int .i64 e.f1.f1, .int .i64 e.f2.f0, .int .i64 e.f2.f1], .pointer (some ⟨nb, 0, none⟩)] w fun r w' => r = .returned (.bool (hasN a b e)) ∧ Below w.heap.size w w' := by
  obtain ⟨f0, ⟨c, d⟩, ⟨x, y⟩⟩ := e
  have hu36 := Try.underlying36
  have hu56 := Try.underlying56
  have BN := am hn
  have HB := am (Below.refl w.heap.size w)
  clear hn
  unfold hasN
  dsimp only
  have F : ∀ (b1 b2 : Bool), (c == a && (d == b)) = b1 → (x == a && (y == b)) = b2 →
      Calls Try.prog 132 #[.agg #[.int .i64 f0, .int .i64 c, .int .i64 d, .int .i64 x, .int .i64 y], .pointer (some ⟨nb, 0, none⟩)] w fun r w' => r = .returned (.bool (b1 || b2)) ∧ Below w.heap.size w w' := by
    intro b1 b2 h1 h2
    go_enter Try.func132, Try.ntmps132
    go_wp2_with (first | ((with_reducible refine gate_dst (N := 2) rfl ?_); refine box_event ?hg (N := 2) ?hd (cs := #[.int .i64 f0, .int .i64 c, .int .i64 d, .int .i64 x, .int .i64 y]) (t := 56) ?hr ?_; (case hd => rfl); (case hg => rfl); (case hr => first | (go_simp; done) | (go_simp; rfl)); intro gb hg z hbox hb; have D := am (below_step HB.out hb); have H := am (blk_below BN.out hb); have I := am hbox; clear HB BN; have HB := D; have BN := H; have BE := I; clear D H I hg hb hbox; have k1 : z.cell? ⟨gb, 1, none⟩ = some (.int .i64 c) := (blk_cell BE.out 1).trans rfl; have k2 : z.cell? ⟨gb, 2, none⟩ = some (.int .i64 d) := (blk_cell BE.out 2).trans rfl; have k3 : z.cell? ⟨gb, 3, none⟩ = some (.int .i64 x) := (blk_cell BE.out 3).trans rfl; have k4 : z.cell? ⟨gb, 4, none⟩ = some (.int .i64 y) := (blk_cell BE.out 4).trans rfl; have k5 : z.cell? ⟨nb, 0, none⟩ = some (.int .i64 a) := (blk_cell BN.out 0).trans rfl; have k6 : z.cell? ⟨nb, 1, none⟩ = some (.int .i64 b) := (blk_cell BN.out 1).trans rfl))
    all_goals cases b1 <;> cases b2 <;> first | (go_ret; exact ⟨eqr, HB.out⟩) | (go_wp2; go_ret; exact ⟨eqr, HB.out⟩)
  exact F _ _ rfl rfl
/-! slices.IndexFunc with takeNode's closure -/
/-- Where the first edge is that has a node, from a place on. -/
def fiN (a b : Int) : Nat → List S56 → Nat → Int
  | 0, _, _ => -1
  | k + 1, l, i => if hasN a b (rd_T56 l (i : Int)) = true then (i : Int) else fiN a b k l (i + 1)
set_option maxHeartbeats 8000000 in
set_option maxRecDepth 100000 in
theorem idxE (a b : Int) (A0 : Option Addr) (c0 : Nat) (l0 : List S56) (nb : Nat) (w : World) (aa : Kd.C k56 w A0 l0.length l0) (hm : l0.length ≤ 1000) (hn : w.heap[nb]? = some (.cells #[.int .i64 a, .int .i64 b] 36 (0, 0))) :
    Calls Try.prog 147 #[.slice A0 l0.length c0, .func (.func 132) #[] #[.pointer (some ⟨nb, 0, none⟩)]] w fun r w' => r = .returned (.int .i64 (fiN a b l0.length l0 0)) ∧ Below w.heap.size w w' := by
  have hu56 := Try.underlying56
  have ac := am aa
  have BN := am hn
  have HM := am hm
  have HB := am (Below.refl w.heap.size w)
  obtain ⟨r, hr⟩ : ∃ r, r = fiN a b l0.length l0 0 := ⟨_, rfl⟩
  rw [← hr]
  have H' := am (show fiN a b l0.length l0 0 = r from hr.symm)
  clear aa hn hm hr
  go_enter Try.func147, Try.ntmps147
  go_wp2
  go_loopg [8] l0.length (fun kq v8 w' => ∃ (i : Nat), v8 = .int .i64 (i : Int) ∧ Aside0 (fiN a b kq l0 i = r) ∧ Aside0 (i + kq = l0.length) ∧ Aside0 (w'.heap[nb]? = some (.cells #[.int .i64 a, .int .i64 b] 36 (0, 0))) ∧ Aside0 (Below w.heap.size w w'))
  case atStart => exact ⟨0, (by first | rfl | (simp; done) | (simp [*]; done)), H', ⟨by omega⟩, BN, HB⟩
  case round =>
    clear H' BN HB
    obtain ⟨i, rfl, HA, z, BN, HB⟩ := hrel
    cases gk with
    | zero =>
      have e := z.out
      have ae : decide ((i : Int) < (l0.length : Int)) = false := decide_eq_false (by omega)
      have af : ¬ ((i : Int) < (l0.length : Int)) := by omega
      have ag : ¬ (i < l0.length) := by omega
      have hA : -1 = r := HA.out
      subst hA
      clear e
      go_wp2
      go_ret
      exact ⟨eqr, HB.out⟩
    | succ k1 =>
      have e := z.out
      have ae : decide ((i : Int) < (l0.length : Int)) = true := decide_eq_true (by omega)
      have hA := HA.out
      unfold fiN at hA
      have T : (0 : Int) ≤ (i : Int) := by omega
      have Y : (i : Int) < (l0.length : Int) := by omega
      obtain ⟨ad, ea, D, H, I, J, L⟩ := at_T56 ac.out (i : Int) T Y
      cases ea
      simp only [Int.toNat_natCast] at D H I J L
      replace D := (HB.out.cell (World.block_lt_of_cell? w _ D)).trans D
      replace H := (HB.out.cell (World.block_lt_of_cell? w _ H)).trans H
      replace I := (HB.out.cell (World.block_lt_of_cell? w _ I)).trans I
      replace J := (HB.out.cell (World.block_lt_of_cell? w _ J)).trans J
      replace L := (HB.out.cell (World.block_lt_of_cell? w _ L)).trans L
      replace T := eq_true T
      replace Y := eq_true Y
      have HAA := am hA
      clear hA e HA
      generalize rd_T56 l0 (i : Int) = x at HAA D H I J L
      by_cases c2 : hasN a b x = true
      · have hA := HAA.out
        rw [if_pos c2] at hA
        subst hA
        go_wp2_with fail
        refine (clo x a b nb _ BN.out).mono ?_
        rintro e2 w5 ⟨rfl, hb⟩
        have O := am (below_step HB.out hb)
        clear HB hb BN
        have HB := O
        clear O
        go_wp2
        go_ret
        exact ⟨eqr, HB.out⟩
      · have hA := HAA.out
        rw [if_neg c2] at hA
        replace c2 := Bool.eq_false_iff.mpr c2
        have H' := am hA
        clear hA HAA
        go_wp2_with fail
        refine (clo x a b nb _ BN.out).mono ?_
        rintro e2 w5 ⟨rfl, hb⟩
        have O := am (below_step HB.out hb)
        have ab := am (blk_below BN.out hb)
        clear HB hb BN
        have HB := O
        have BN := ab
        clear O ab
        go_wp2
        go_roundg k1
        case measure => have := z.out; omega
        case rel => exact ⟨i + 1, (by first | rfl | (simp; done) | (simp; unfold wrap64; have := z.out; have := HM.out; omega)), H', ⟨by have := z.out; omega⟩, BN, HB⟩
/-! slices.DeleteFunc with takeNode's closure -/
theorem fiN_ok (a b : Int) (l : List S56) : ∀ (k i : Nat), i + k = l.length → (∀ j (h : j < l.length), j < i → hasN a b l[j] = false) →
    (fiN a b k l i = -1 ∧ ∀ e ∈ l, hasN a b e = false) ∨ ∃ m, ∃ h : m < l.length, fiN a b k l i = (m : Int) ∧ hasN a b l[m] = true ∧ ∀ j (h : j < l.length), j < m → hasN a b l[j] = false
  | 0, i, hi, h => by
    refine .inl ⟨rfl, fun e he => ?_⟩
    obtain ⟨j, hj, rfl⟩ := List.getElem_of_mem he
    exact h j hj (by omega)
  | k + 1, i, hi, h => by
    have hil : i < l.length := by omega
    have er : rd_T56 l (i : Int) = l[i] := by unfold rd_T56; rw [Int.toNat_natCast, List.getD_eq_getElem?_getD, List.getElem?_eq_getElem hil]; rfl
    unfold fiN
    rw [er]
    by_cases c : hasN a b l[i] = true
    · rw [if_pos c]; exact .inr ⟨i, hil, rfl, c, h⟩
    · rw [if_neg c]
      refine fiN_ok a b l k (i + 1) (by omega) (fun j hj hji => ?_)
      by_cases e : j = i
      · subst e; exact Bool.eq_false_iff.mpr c
      · exact h j hj (by omega)
theorem grown_below {w w' : World} {row : Option Nat} (h : Below w.heap.size w w') : w.grownBy w' row := ⟨h.os, h.tape, h.output, h.size, fun k hk _ => h.block k hk⟩
theorem grown_trans {w w1 s : World} {row : Option Nat} (h : w.grownBy w1 row) (k : w1.grownBy s row) : w.grownBy s row :=
  ⟨k.os.trans h.os, k.tape.trans h.tape, k.output.trans h.output, Nat.le_trans h.size k.size, fun j hj hne => (k.block j (Nat.lt_of_lt_of_le hj h.size) hne).trans (h.block j hj hne)⟩
theorem filter_first {p : S56 → Bool} (l : List S56) (m : Nat) (hm : m < l.length) (h1 : p l[m] = false) (h2 : ∀ j (h : j < l.length), j < m → p l[j] = true) : (l.take (m + 1)).filter p = l.take m := by
  rw [List.take_succ_eq_append_getElem hm, List.filter_append, List.filter_cons_of_neg (by simp [h1]), List.filter_nil, List.append_nil]
  rw [List.filter_eq_self]
  intro x hx
  obtain ⟨j, hj, rfl⟩ := List.getElem_of_mem hx
  rw [List.length_take] at hj
  rw [List.getElem_take]
  exact h2 j (by omega) (by omega)
set_option maxHeartbeats 8000000 in
set_option maxRecDepth 100000 in
theorem delfE (a b : Int) (nb : Nat) (u : Value) (l0 : List S56) (base : Nat) (ok : Nat → Prop) (w : World) (hR : Kd.R k56 56 w base ok u l0) (hok : ¬ ok nb) (hm : l0.length ≤ 1000) (hn : w.heap[nb]? = some (.cells #[.int .i64 a, .int .i64 b] 36 (0, 0))) :
    Calls Try.prog 131 #[u, .func (.func 132) #[] #[.pointer (some ⟨nb, 0, none⟩)]] w fun r w' => ∃ v0, r = .returned v0 ∧ Kd.R k56 56 w' base ok v0 (l0.filter fun e => !hasN a b e) ∧ w.grownBy w' u.ownBlock := by
  have hu56 := Try.underlying56
  have BN := am hn
  have HM := am hm
  have HO := am hR
  obtain ⟨A, c, e⟩ := Kd.R_slice hR
  subst e
  rcases fiN_ok a b l0 l0.length 0 (by omega) (fun j _ h => by omega) with ⟨f1, f2⟩ | ⟨m, hml, f1, f2, f3⟩
  · have ef : (l0.filter fun e => !hasN a b e) = l0 := List.filter_eq_self.2 (fun x hx => by simp [f2 x hx])
    rw [ef]
    have F1 := am f1
    clear f1 f2 ef hR hn hm
    go_enter Try.func131, Try.ntmps131
    go_wp2_with fail
    refine (idxE a b A c l0 nb _ (Kd.R_reads' HO.out).2.2 HM.out BN.out).mono ?_
    rintro Y w5 ⟨rfl, hb⟩
    rw [F1.out]
    have HB := am hb
    clear hb
    go_wp2
    go_ret
    exact ⟨_, eqr, Kd.R_below HO.out HB.out, grown_below HB.out⟩
  · have hp : 0 < l0.length := by omega
    obtain ⟨g, cap, rest, he, hokg, hbg, hh, hcl, hnc, hcm⟩ := R_blkE hR hp
    injection he with ea _ ec
    subst ea ec
    have hgn : g ≠ nb := fun e => hok (e ▸ hokg)
    have F1 := am f1
    have F2 := am f2
    have F3 := am f3
    have GN := am hgn
    have HN := am hnc
    obtain ⟨n, hn'⟩ : ∃ n, n = l0.length := ⟨_, rfl⟩
    have EN := am hn'
    have HC := am (Kd.R_reads' hR).2.2
    clear f1 f2 f3 hR hn hm hh hcl rest hgn hbg hokg hnc hcm hp
    have z : ¬ ((m : Int) = -1) := by omega
    have D : IntKind.i64.wrap ((m : Int) + 1) = ((m + 1 : Nat) : Int) := by rw [IntKind.wrap_i64]; have := HM.out; omega
    go_enter Try.func131, Try.ntmps131
    go_wp2_with fail
    refine (idxE a b _ c l0 nb _ HC.out HM.out BN.out).mono ?_
    rintro Y w5 ⟨rfl, hb⟩
    rw [F1.out]
    have HB := am hb
    have HG := am (grown_below (row := some g) hb)
    replace BN := am (blk_below BN.out hb)
    replace HO := am (Kd.R_below HO.out hb)
    clear hb
    rw [← hn'] at HO ⊢
    clear hn'
    go_wp2
    go_loopg [5, 6] (n - (m + 1)) (fun kq v5 v6 w' => ∃ (i j : Nat) (X : List S56), v5 = .int .i64 (i : Int) ∧ v6 = .int .i64 (j : Int) ∧ Aside0 (i < j ∧ j + kq = n ∧ X.length = n) ∧ Aside0 (X.take i = (l0.take j).filter fun e => !hasN a b e) ∧ Aside0 (X.drop j = l0.drop j) ∧ Aside0 (Kd.R k56 56 w' base ok (.slice (some ⟨g, 0, none⟩) n c) X) ∧ Aside0 (w'.heap[nb]? = some (.cells #[.int .i64 a, .int .i64 b] 36 (0, 0))) ∧ Aside0 (w.grownBy w' (some g)))
    case atStart => exact ⟨m, m + 1, l0, (by first | rfl | (simp; done) | (simp [*]; done)), (by first | rfl | (simp; done) | (simp [*]; done)), ⟨by have := EN.out; omega⟩, ⟨(filter_first l0 m hml (by simp [F2.out]) (fun j h1 h2 => by simp [F3.out j h1 h2])).symm⟩, ⟨rfl⟩, HO, BN, HG⟩
    case round =>
      clear HO BN HG HB z D
      obtain ⟨i, j, X, rfl, rfl, HA, HT, HD, HO, BN, HG⟩ := hrel
      cases gk with
      | zero =>
        have hA := HA.out
        have hN := HN.out
        have hE := EN.out
        have aa : decide ((j : Int) < (n : Int)) = false := decide_eq_false (by omega)
        have aj : ¬ ((j : Int) < (n : Int)) := by omega
        have ak : ¬ (j < n) := by omega
        obtain ⟨w9, hclr, hg9, hR9⟩ := clrE (c2 := c - i) (m := i) (n2 := n - i) (A := some ⟨g, i * 5, none⟩) HO.out (by omega) (by rw [if_neg (by omega)]; simp [Addr.add]) (by omega)
        have eT : X.take i = l0.filter fun e => !hasN a b e := by rw [HT.out, List.take_of_length_le (by omega)]
        rw [eT] at hR9
        have ab := am hR9
        have ac := am (grown_trans HG.out hg9)
        have z : (i : Int) ≤ (n : Int) := by omega
        have D : i ≤ c := by omega
        have q3 : ¬ (c = i) := by omega
        have q4 : (i : Int) ≤ (c : Int) := by omega
        clear hA hN hE hR9 hg9 eT HO HT HD BN
        go_wp2_with (first | (at_builtin; refine wpList_clr _ rfl _ 32 rfl _ rfl (hclr _) ?_))
        go_ret
        exact ⟨_, eqr, ab.out, ac.out⟩
      | succ k1 =>
        have hA := HA.out
        have aa : decide ((j : Int) < (n : Int)) = true := decide_eq_true (by omega)
        have p0 : (0 : Int) ≤ (j : Int) := by omega
        have q0 : (j : Int) < (X.length : Int) := by omega
        obtain ⟨ad, ea, H, I, J, L, O⟩ := at_T56 (Kd.R_reads' HO.out).2.2 (j : Int) p0 q0
        injection ea with ea
        subst ea
        simp only [Int.toNat_natCast, Addr.add_lit, Nat.zero_add] at H I J L O
        have q0' : (j : Int) < (n : Int) := by omega
        clear hA q0
        replace q0' := eq_true q0'
        replace p0 := eq_true p0
        obtain ⟨x, hx⟩ : ∃ x, x = rd_T56 X (j : Int) := ⟨_, rfl⟩
        rw [← hx] at H I J L O
        have HX := am hx
        clear hx
        obtain ⟨gx, hgx⟩ : ∃ gx, gx = wr.heap.size := ⟨_, rfl⟩
        have GX := am hgx
        clear hgx
        go_wp2_with fail
        have BX := am (blk_new wr (.cells #[.int .i64 x.f0, .int .i64 x.f1.f0, .int .i64 x.f1.f1, .int .i64 x.f2.f0, .int .i64 x.f2.f1] 56))
        replace BN := am (blk_alloc BN.out (.cells #[.int .i64 x.f0, .int .i64 x.f1.f0, .int .i64 x.f1.f1, .int .i64 x.f2.f0, .int .i64 x.f2.f1] 56))
        replace HO := am (Kd.R_alloc HO.out (.cells #[.int .i64 x.f0, .int .i64 x.f1.f0, .int .i64 x.f1.f1, .int .i64 x.f2.f0, .int .i64 x.f2.f1] 56))
        replace HG := am (grown_trans HG.out (World.grownBy_alloc wr (.cells #[.int .i64 x.f0, .int .i64 x.f1.f0, .int .i64 x.f1.f1, .int .i64 x.f2.f0, .int .i64 x.f2.f1] 56) (some g)))
        clear H I J L O
        rw [← GX.out] at BX ⊢
        generalize wr.alloc (.cells #[.int .i64 x.f0, .int .i64 x.f1.f0, .int .i64 x.f1.f1, .int .i64 x.f2.f0, .int .i64 x.f2.f1] 56) = w6 at BX BN HO HG ⊢
        refine (clo x a b nb _ BN.out).mono ?_
        rintro Y T ⟨rfl, hb⟩
        replace BX := am (blk_below BX.out hb)
        replace BN := am (blk_below BN.out hb)
        replace HO := am (Kd.R_below HO.out hb)
        replace HG := am (grown_trans HG.out (grown_below hb))
        clear hb
        have ej : x = l0[j]'(by have := HA.out; have := EN.out; omega) := by
          have hA := HA.out
          have := congrArg (fun l => l[0]?) HD.out
          simp only [List.getElem?_drop, Nat.add_zero] at this
          rw [List.getElem?_eq_getElem (show j < X.length by omega), List.getElem?_eq_getElem (show j < l0.length by have := EN.out; omega)] at this
          have Y : rd_T56 X (j : Int) = X[j]'(by omega) := by unfold rd_T56; rw [Int.toNat_natCast, List.getD_eq_getElem?_getD, List.getElem?_eq_getElem (show j < X.length by omega)]; rfl
          rw [HX.out, Y]; exact Option.some.inj this
        have EJ := am ej
        clear ej
        by_cases c2 : hasN a b x = true
        · rw [c2]
          go_wp2
          go_roundg k1
          case measure => have := HA.out; omega
          case rel => exact ⟨i, j + 1, X, (by first | rfl | (simp; done)), (by first | rfl | (simp; done) | (simp; unfold wrap64; have := HA.out; have := HM.out; have := EN.out; omega)), ⟨by have := HA.out; omega⟩, ⟨by rw [HT.out, List.take_succ_eq_append_getElem (by have := HA.out; have := EN.out; omega), List.filter_append, ← EJ.out, List.filter_cons_of_neg (by simp [c2])]; simp⟩, ⟨by rw [← List.drop_drop, ← List.drop_drop, HD.out]⟩, HO, BN, HG⟩
        · replace c2 := Bool.eq_false_iff.mpr c2
          rw [c2]
          have hA := HA.out
          have z : (0 : Int) ≤ (i : Int) := by omega
          have D : (i : Int) < (n : Int) := by omega
          obtain ⟨ce, hcl, hM, hcc, hfr⟩ := Kd.R_elem HO.out z56 (i : Int) z D
          have HP := Kd.R_seg HO.out (i : Int) z D (seg := enc56 x) (j := 0) hcl hcc (Nat.le_refl 5) (x' := x) (by rw [List.take_zero, List.nil_append, Nat.zero_add, List.drop_of_length_le (by rw [hcl]; exact Nat.le_refl 5), List.append_nil]; exact k56_mkM _ _ _ x) (fun _ hk => hk)
          obtain rfl := k56_openM hM
          have H := hcc 0 _ rfl
          have I := hcc 1 _ rfl
          have J := hcc 2 _ rfl
          have L := hcc 3 _ rfl
          have O := hcc 4 _ rfl
          have ae := hfr 0
          have af := hfr 1
          have ag := hfr 2
          have ah := hfr 3
          have ai := hfr 4
          simp only [show (k56).sz = 5 from rfl, Nat.add_zero, Int.toNat_natCast] at H I J L O ae af ag ah ai HP
          have k0 : T.cell? ⟨gx, 0, none⟩ = some (.int .i64 x.f0) := (blk_cell BX.out 0).trans rfl
          have k1' : T.cell? ⟨gx, 1, none⟩ = some (.int .i64 x.f1.f0) := (blk_cell BX.out 1).trans rfl
          have k2 : T.cell? ⟨gx, 2, none⟩ = some (.int .i64 x.f1.f1) := (blk_cell BX.out 2).trans rfl
          have k3 : T.cell? ⟨gx, 3, none⟩ = some (.int .i64 x.f2.f0) := (blk_cell BX.out 3).trans rfl
          have k4 : T.cell? ⟨gx, 4, none⟩ = some (.int .i64 x.f2.f1) := (blk_cell BX.out 4).trans rfl
          have HP' := am HP
          clear HP hcl hcc hfr hM hA
          go_wp2
          go_roundg k1
          case measure => have := HA.out; omega
          case rel => exact ⟨i + 1, j + 1, X.set i x, (by first | rfl | (simp; done) | (simp; unfold wrap64; have := HA.out; have := HM.out; have := EN.out; omega)), (by first | rfl | (simp; done) | (simp; unfold wrap64; have := HA.out; have := HM.out; have := EN.out; omega)), ⟨by have := HA.out; rw [List.length_set]; omega⟩, ⟨by
            have hA := HA.out
            have hE := EN.out
            rw [List.take_succ_eq_append_getElem (by rw [List.length_set]; omega), List.take_set_of_le (Nat.le_refl _), List.getElem_set_self, HT.out, List.take_succ_eq_append_getElem (show j < l0.length by omega), List.filter_append, ← EJ.out, List.filter_cons_of_pos (by simp [c2])]; rfl⟩, ⟨by
            have hA := HA.out
            rw [List.drop_set_of_lt (by omega), ← List.drop_drop, ← List.drop_drop, HD.out]⟩, ⟨HP'.out.1⟩, ⟨(HP'.out.2.block nb (Array.getElem?_eq_some_iff.1 BN.out).1 (fun e => GN.out (Option.some.inj e).symm)).trans BN.out⟩, ⟨grown_trans HG.out HP'.out.2⟩⟩
end

end Go.Proofs.Ytohmemckdogljaa.QFnExactGraphDo
