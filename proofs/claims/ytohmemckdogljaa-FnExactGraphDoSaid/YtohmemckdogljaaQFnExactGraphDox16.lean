/- Contracts of the Go functions that this law reaches: each does what its plain Lean function says. No condition. -/
import Derived.Test.YtohmemckdogljaaQFnExactGraphDox0
namespace Go.Proofs.Ytohmemckdogljaa.QFnExactGraphDo
open Go.RowKit Go.Proofs.YtohmemckdogljaaW.PrintWords Go.Proofs.YtohmemckdogljaaW.PrintLast Go.Proofs.YtohmemckdogljaaW.PrintMore Go.Proofs.Ytohmemckdogljaa.Bl
attribute [local go_sem] max2_int min2_int max_two min_two max_three min_three max_four min_four   -- for this text's walks alone
set_option linter.unusedVariables false
set_option linter.unusedSimpArgs false
set_option maxHeartbeats 8000000
set_option maxRecDepth 100000

/-! ### impl_Node_127: function 127 -/
/-! copy(d, s) for the walk, where its run is known -/
theorem wp_cpy (w : World) {o : Oper} {a : Act} {K : Act → World → Prop} {Q : Exit → Act → World → Prop} (d s : Operand) (t t' : TypeId)
    (ho : o.op = .call { callee := .builtin .copy, args := #[d, s], argTypes := #[t, t'] }) (v u : Value) (hd : a.eval d = v) (hs : a.eval s = u) {v' : Value} {w' : World}
    (hr : (Builtin.copy_ #[t, t'] o.type #[v, u]).run Try.prog w = .ok v' w') (h : K (a.put o.dst v') w') : o.wp Try.prog a w K Q := by
  unfold Oper.wp execOp
  simp only [ho, resolve, invoke, builtin, Sem.run_bind, Sem.run_pure, Result.andThen_ok, List.map_toArray, List.map_cons, List.map_nil, hd, hs, hr]
  exact h
theorem wpList_cpy (w : World) {ops : Array Oper} {rest : List Oper} {o : Oper} {a : Act} {Q : Exit → Act → World → Prop} (hgd : o.guard = none) (d s : Operand) (t t' : TypeId)
    (ho : o.op = .call { callee := .builtin .copy, args := #[d, s], argTypes := #[t, t'] }) (v u : Value) (hd : a.eval d = v) (hs : a.eval s = u) {v' : Value} {w' : World}
    (hr : (Builtin.copy_ #[t, t'] o.type #[v, u]).run Try.prog w = .ok v' w') (h : wpList Try.prog ops Q rest (a.put o.dst v') w') : wpList Try.prog ops Q (o :: rest) a w :=
  wpList_plain hgd fun _ hK => wp_cpy w d s t t' ho v u hd hs hr (hK _ _ h)
theorem below_row {B : Nat} {u w : World} {g : Nat} {cs : Array Value} (h : Below B u w) (hg : B ≤ g) : Below B u (w.setRow g cs) :=
  ⟨h.os, h.tape, h.output, by rw [setRow_size]; exact h.size, fun k hk => (setRow_other w g k cs (by omega)).trans (h.block k hk)⟩
theorem step_cpy {ops : Array Oper} {o : Oper} {a : Act} {w : World} {K : Act → World → Prop} {Q : Exit → Act → World → Prop} {E : Prop}
    (hg : o.guard = none) (d x : Operand) (dT sT : TypeId) (hop : o.op = Op.call { callee := Callee.builtin Builtin.copy, args := #[d, x], argTypes := #[dT, sT] })
    (v u : Value) (hd : a.eval d = v) (hx : a.eval x = u) {v' : Value} {w' : World} (hr : (Builtin.copy_ #[dT, sT] o.type #[v, u]).run Try.prog w = .ok v' w') (hK : K (a.put o.dst v') w') :
    if Region.wanted o (yielded ops a.tmps) = true then Oper.wp Try.prog o a w K Q else E := by
  have hw : Region.wanted o (yielded ops a.tmps) = true := by simp [Region.wanted, hg]
  rw [if_pos hw]
  unfold Oper.wp
  simp [execOp, hop, resolve, invoke, builtin, hd, hx, hr, Result.andThen]
  exact hK
theorem wp_app (w : World) {o : Oper} {a : Act} {K : Act → World → Prop} {Q : Exit → Act → World → Prop} (d s : Operand) (t t' : TypeId)
    (ho : o.op = .call { callee := .builtin .append, args := #[d, s], argTypes := #[t, t'] }) (v u : Value) (hd : a.eval d = v) (hs : a.eval s = u) {v' : Value} {w' : World}
    (hr : (Builtin.append_ #[t, t'] o.type #[v, u]).run Try.prog w = .ok v' w') (h : K (a.put o.dst v') w') : o.wp Try.prog a w K Q := by
  unfold Oper.wp execOp
  simp only [ho, resolve, invoke, builtin, Sem.run_bind, Sem.run_pure, Result.andThen_ok, List.map_toArray, List.map_cons, List.map_nil, hd, hs, hr]
  exact h
theorem wpList_app (w : World) {ops : Array Oper} {rest : List Oper} {o : Oper} {a : Act} {Q : Exit → Act → World → Prop} (hgd : o.guard = none) (d s : Operand) (t t' : TypeId)
    (ho : o.op = .call { callee := .builtin .append, args := #[d, s], argTypes := #[t, t'] }) (v u : Value) (hd : a.eval d = v) (hs : a.eval s = u) {v' : Value} {w' : World}
    (hr : (Builtin.append_ #[t, t'] o.type #[v, u]).run Try.prog w = .ok v' w') (h : wpList Try.prog ops Q rest (a.put o.dst v') w') : wpList Try.prog ops Q (o :: rest) a w :=
  wpList_plain hgd fun _ hK => wp_app w d s t t' ho v u hd hs hr (hK _ _ h)
theorem splice3 (a z1 z2 ex ed : List Value) (p q r : Nat) (ha : a.length = p) (hx : ex.length = q) (hz : z1.length = q + r) (hd : ed.length = r) :
    (((a ++ z1 ++ z2).take p ++ ex ++ (a ++ z1 ++ z2).drop (p + q)).take (p + q) ++ ed ++ (((a ++ z1 ++ z2).take p ++ ex ++ (a ++ z1 ++ z2).drop (p + q))).drop (p + q + r)) = a ++ ex ++ ed ++ z2 := by
  have h1 : (a ++ z1 ++ z2).take p = a := by rw [List.append_assoc]; exact List.take_left' ha
  have h2 : (a ++ z1 ++ z2).drop (p + q) = z1.drop q ++ z2 := by
    rw [← List.drop_drop, List.append_assoc, List.drop_left' ha, List.drop_append_of_le_length (by omega)]
  rw [h1, h2]
  have h3 : (a ++ ex).length = p + q := by rw [List.length_append]; omega
  rw [List.take_left' h3, ← List.drop_drop, List.drop_left' h3, List.drop_left' (by rw [List.length_drop]; omega)]
theorem wp_clr (w : World) {o : Oper} {a : Act} {K : Act → World → Prop} {Q : Exit → Act → World → Prop} (s : Operand) (t : TypeId)
    (ho : o.op = .call { callee := .builtin .clear, args := #[s], argTypes := #[t] }) (u : Value) (hs : a.eval s = u) {v' : Value} {w' : World}
    (hr : (Builtin.clear_ #[t] o.type #[u]).run Try.prog w = .ok v' w') (h : K (a.put o.dst v') w') : o.wp Try.prog a w K Q := by
  unfold Oper.wp execOp
  simp only [ho, resolve, invoke, builtin, Sem.run_bind, Sem.run_pure, Result.andThen_ok, List.map_toArray, List.map_cons, List.map_nil, hs, hr]
  exact h
theorem wpList_clr (w : World) {ops : Array Oper} {rest : List Oper} {o : Oper} {a : Act} {Q : Exit → Act → World → Prop} (hgd : o.guard = none) (s : Operand) (t : TypeId)
    (ho : o.op = .call { callee := .builtin .clear, args := #[s], argTypes := #[t] }) (u : Value) (hs : a.eval s = u) {v' : Value} {w' : World}
    (hr : (Builtin.clear_ #[t] o.type #[u]).run Try.prog w = .ok v' w') (h : wpList Try.prog ops Q rest (a.put o.dst v') w') : wpList Try.prog ops Q (o :: rest) a w :=
  wpList_plain hgd fun _ hK => wp_clr w s t ho u hs hr (hK _ _ h)
theorem step_app {ops : Array Oper} {o : Oper} {a : Act} {w : World} {K : Act → World → Prop} {Q : Exit → Act → World → Prop} {E : Prop}
    (hg : o.guard = none) (d x : Operand) (dT sT : TypeId) (hop : o.op = Op.call { callee := Callee.builtin Builtin.append, args := #[d, x], argTypes := #[dT, sT] })
    (v u : Value) (hd : a.eval d = v) (hx : a.eval x = u) {v' : Value} {w' : World} (hr : (Builtin.append_ #[dT, sT] o.type #[v, u]).run Try.prog w = .ok v' w') (hK : K (a.put o.dst v') w') :
    if Region.wanted o (yielded ops a.tmps) = true then Oper.wp Try.prog o a w K Q else E := by
  have hw : Region.wanted o (yielded ops a.tmps) = true := by simp [Region.wanted, hg]
  rw [if_pos hw]
  unfold Oper.wp
  simp [execOp, hop, resolve, invoke, builtin, hd, hx, hr, Result.andThen]
  exact hK
/-! a made row of nodes, told as its block -/
def enc36 (x : S36) : List Value := [.int .i64 x.f0, .int .i64 x.f1]
def encN (xs : List S36) : List Value := xs.flatMap enc36
theorem encN_len (xs : List S36) : (encN xs).length = xs.length * 2 := by
  induction xs with
  | nil => rfl
  | cons x xs ih =>
    show (enc36 x ++ encN xs).length = _
    rw [List.length_append, ih, List.length_cons]; show 2 + _ = _; omega
theorem encN_cons (x : S36) (xs : List S36) : encN (x :: xs) = .int .i64 x.f0 :: .int .i64 x.f1 :: encN xs := rfl
theorem encN_app (xs ys : List S36) : encN (xs ++ ys) = encN xs ++ encN ys := by simp [encN, List.flatMap_append]
theorem encN_get : ∀ (xs : List S36) (j : Nat) (p : S36), xs[j]? = some p → ((encN xs).drop (j * 2)).take 2 = enc36 p
  | [], j, p, h => by simp at h
  | x :: xs, 0, p, h => by obtain rfl := Option.some.inj h; rfl
  | x :: xs, j + 1, p, h => by
    rw [show (j + 1) * 2 = j * 2 + 2 by omega, encN_cons]
    exact encN_get xs j p (by simpa using h)
theorem encN_uniq : ∀ (xs : List S36) (cs : List Value), cs.length = xs.length * 2 → (∀ j p, xs[j]? = some p → (cs.drop (j * 2)).take 2 = enc36 p) → cs = encN xs
  | [], cs, hl, _ => by rw [List.length_eq_zero_iff.1 (show cs.length = 0 by simpa using hl)]; rfl
  | x :: xs, cs, hl, h => by
    have h0 := h 0 x rfl
    match cs, hl with
    | a :: b :: cs, hl =>
      have e : [a, b] = enc36 x := by simpa using h0
      have ih := encN_uniq xs cs (by simp at hl ⊢; omega) (fun j p hj => by
        have := h (j + 1) p (by simpa using hj)
        rwa [show (j + 1) * 2 = j * 2 + 2 by omega] at this)
      rw [ih, encN_cons]
      simp only [enc36, List.cons.injEq, and_true] at e
      rw [e.1, e.2]
    | [], hl => simp at hl
    | [a], hl => simp at hl; omega
theorem R_blk {w : World} {base : Nat} {ok : Nat → Prop} {v : Value} {xs : List S36} (h : Kd.R k36 36 w base ok v xs) (hp : 0 < xs.length) :
    ∃ g cap rest, v = .slice (some ⟨g, 0, none⟩) xs.length cap ∧ ok g ∧ base ≤ g ∧ w.heap[g]? = some (.cells (encN xs ++ rest).toArray 36 (0, 0)) ∧ (encN xs ++ rest).length = cap * 2 ∧ xs.length ≤ cap ∧ cap ≤ maxLen := by
  obtain ⟨hok, inner, ⟨hl, ho⟩, hr⟩ := h
  rcases ho with ⟨_, h0⟩ | ⟨g, cap, cur, rfl, hb, hh, hnc, hcm, hcs, ht⟩
  · omega
  · have e : inner = encN xs := encN_uniq xs inner hl (fun j p hj => k36_openM (hr.2 j p hj))
    have D : cur.toList.take (xs.length * 2) = encN xs := ht.trans e
    have z : encN xs ++ cur.toList.drop (xs.length * 2) = cur.toList := by rw [← D, List.take_append_drop]
    refine ⟨g, cap, cur.toList.drop (xs.length * 2), rfl, hok g rfl, hb, ?_, ?_, hnc, hcm⟩
    · rw [z]; exact hh
    · rw [z]; exact hcs
theorem blk_R {w : World} {base g cap : Nat} {ok : Nat → Prop} {xs : List S36} {rest : List Value} (hh : w.heap[g]? = some (.cells (encN xs ++ rest).toArray 36 (0, 0))) (hl : (encN xs ++ rest).length = cap * 2) (hnc : xs.length ≤ cap) (hcm : cap ≤ maxLen) (hok : ok g) (hb : base ≤ g) :
    Kd.R k36 36 w base ok (.slice (some ⟨g, 0, none⟩) xs.length cap) xs := by
  refine ⟨fun k hk => ?_, encN xs, ⟨encN_len xs, .inr ⟨g, cap, _, rfl, hb, hh, hnc, hcm, (show (encN xs ++ rest).toArray.size = cap * 2 by simpa using hl), ?_⟩⟩, encN_len xs, fun j p hj => ?_⟩
  · have : g = k := by simpa [Value.ownBlock] using hk
    exact this ▸ hok
  · show (encN xs ++ rest).take (xs.length * 2) = encN xs
    rw [← encN_len xs, List.take_left']
    rfl
  · show k36.M w base _ p (((encN xs).drop (j * 2)).take 2)
    rw [encN_get xs j p hj]
    exact k36_mkM _ _ _ p

/-! a made row of nodes, told as its block -/
theorem CcellsN {w : World} {A : Option Addr} {n : Nat} {xs : List S36} (h : Kd.C k36 w A n xs) (hp : 0 < xs.length) : ∃ a, A = some a ∧ ∀ j v, (encN xs)[j]? = some v → w.cell? (a.add j) = some v := by
  have h1 := h.1
  obtain ⟨a, rfl, _⟩ := h.2.2 (by omega)
  obtain ⟨inner, hr, hc⟩ := ReadsRow.inner_ h
  have e : inner = encN xs := encN_uniq xs inner hr.1 (fun j p hj => k36_open (hr.2 j p hj))
  subst e
  exact ⟨a, rfl, hc⟩
theorem encN_one : ∀ (xs : List S36), ∀ v ∈ encN xs, v.oneCell' = true := by
  intro xs v hv
  obtain ⟨x, _, hx⟩ := List.mem_flatMap.1 hv
  simp [enc36] at hx
  rcases hx with rfl | rfl <;> rfl
/-- copy() at elements of more cells than one: into a block of the call's own. -/
theorem run_copyN (w : World) (ty : TypeId) (g o dLen dCap : Nat) (a : Addr) (sLen sCap : Nat) (cur : Array Value) (t : TypeId) (cs : List Value)
    (hg : w.heap[g]? = some (.cells cur t (0, 0))) (hn : cs.length = Nat.min sLen dLen * 2)
    (hsrc : ∀ j v, cs[j]? = some v → w.cell? (a.add j) = some v) (hfit : o + cs.length ≤ cur.size) (h1 : ∀ v ∈ cs, v.oneCell' = true) :
    (Builtin.copy_ #[29, 29] ty #[.slice (some ⟨g, o, none⟩) dLen dCap, .slice (some a) sLen sCap]).run Try.prog w =
      .ok (goInt (Nat.min sLen dLen)) (w.setRow g (cur.toList.take o ++ cs ++ cur.toList.drop (o + cs.length)).toArray) := by
  have hl := run_loadCells_list (P := Try.prog) w a cs hsrc
  have hst := run_storeCells_at Try.prog g o t cs 0 cur w hg (by simpa using hfit) h1
  obtain ⟨i, hi, hz⟩ := Option.map_eq_some_iff.1 info36
  simp only [Prod.mk.injEq] at hz
  have hs : i.size = 2 := hz.2.1
  simp [Builtin.copy_, run_underlying Try.underlying29, Builtin.lenOf, Builtin.firstCells, sizeOf, typeInfo, hi, hs, ← hn, hl, hst]

theorem zeros1N (n : Nat) : (Builtin.zeroCells (Value.agg #[(.int .i64 0), (.int .i64 0)]).cells n).toList.length = n * 2 := by
  simp [Builtin.zeroCells, Value.cells]

/-! copyList at nodes -/
set_option maxHeartbeats 8000000 in
set_option maxRecDepth 100000 in
theorem cplN (D : Option Addr) (I : Nat) (l0 : List S36) (w : World) (H : Kd.C k36 w D l0.length l0) (hm : l0.length ≤ 1000) :
    Calls Try.prog 127 #[.slice D l0.length I] w fun e w' => ∃ A, e = .returned (.slice A l0.length l0.length) ∧ Kd.R k36 36 w' w.heap.size (fun _ => True) (.slice A l0.length l0.length) l0 ∧ Below w.heap.size w w' ∧ (l0.length = 0 → A = none) := by
  have hu := Try.underlying29
  go_enter Try.func127, Try.ntmps127
  by_cases h0 : l0.length = 0
  · have hl : l0 = [] := List.eq_nil_of_length_eq_zero h0
    subst hl
    go_wp2
    go_ret
    exact ⟨none, eqr, Kd.R_nil _ _ _ _ _, by repeat (first | exact Below.refl _ _ | apply below_alloc | apply pw_below_drewN | apply below_drew1), fun _ => rfl⟩
  · have hb1 : ((l0.length : Int) == 0) = false := beq_eq_false_iff_ne.mpr (by omega)
    have hb2 : decide ((l0.length : Int) = 0) = false := decide_eq_false (by omega)
    obtain ⟨i, hi, hz⟩ := Option.map_eq_some_iff.1 info36
    simp only [Prod.mk.injEq] at hz
    obtain ⟨ad, rfl, hc⟩ := CcellsN H (by omega)
    obtain ⟨ROW, hROW⟩ : ∃ ROW : Array Value, ROW = madeCells (Value.agg #[(.int .i64 0), (.int .i64 0)]).cells (l0.length * 2) := ⟨_, rfl⟩
    have hRs : ROW.size = l0.length * 2 := by rw [hROW]; simp [size_madeCells]
    have hmk : ∀ W : World, (Instr.makeSlice 29 (.int .i64 (l0.length : Int)) (.int .i64 (l0.length : Int))).run Try.prog W = .ok (.slice (some ⟨W.heap.size, 0, none⟩) l0.length l0.length) (W.alloc (.cells ROW 36)) := fun W => by
      have := run_make (P := Try.prog) W 29 36 i _ Try.underlying29 hi hz.1 .i64 .i64 (l0.length : Int) l0.length (by omega) (by omega) (by rw [hz.2.2]; omega) (by omega)
      rw [hz.2.1] at this; rw [hROW]; simpa using this
    have hlen := encN_len l0
    have hsp : ∀ j v, (encN l0)[j]? = some v → (w.alloc (.cells ROW 36)).cell? (ad.add j) = some v := fun j v hj =>
      (World.cell?_alloc_lt _ _ _ (World.block_lt_of_cell? _ _ (hc j v hj))).trans (hc j v hj)
    have hnew : (w.alloc (.cells ROW 36)).heap[w.heap.size]? = some (.cells ROW 36 (0, 0)) := blk_new w _
    have hcp : ∀ ty sc, (Builtin.copy_ #[29, 29] ty #[.slice (some ⟨w.heap.size, 0, none⟩) l0.length l0.length, .slice (some ad) l0.length sc]).run Try.prog (w.alloc (.cells ROW 36)) =
        .ok (goInt l0.length) ((w.alloc (.cells ROW 36)).setRow w.heap.size (encN l0).toArray) := fun ty sc => by
      have := run_copyN (w.alloc (.cells ROW 36)) ty w.heap.size 0 l0.length l0.length ad l0.length sc ROW 36 (encN l0) hnew (by rw [hlen]; simp) hsp (by rw [hRs, hlen]; omega) (encN_one l0)
      rw [this]
      simp only [Nat.min_self, List.take_zero, List.nil_append, Nat.zero_add]
      rw [List.drop_of_length_le (by rw [Array.length_toList, hRs, hlen]; omega), List.append_nil]
    clear hsp hc H hROW hi hz
    go_wp2_with (first | ((with_reducible refine gate_builtin (b := .copy) (xs := #[.tmp 10, .tmp 11]) rfl ?_); at_builtin; refine wpList_cpy _ rfl _ _ 29 29 rfl _ _ rfl rfl (hcp _ _) ?_))
    go_ret
    refine ⟨_, eqr, ?_, below_row (below_alloc (Below.refl _ _) _) (Nat.le_refl _), fun h => absurd h h0⟩
    exact blk_R (rest := []) (by rw [List.append_nil]; exact setRow_heap _ _ _ _ _ _ hnew) (by rw [List.append_nil, hlen]) (Nat.le_refl _) (by unfold maxLen; omega) trivial (Nat.le_refl _)

/-! slices.Insert of one at nodes, where the row has no room -/
set_option maxHeartbeats 8000000 in
set_option maxRecDepth 100000 in
theorem ins_endN (z : Option Addr) (l0 : List S36) (I : Option Addr) (c2 : Nat) (x : S36) (w : World) (J : Kd.C k36 w z l0.length l0) (L : l0.length = 0 → z = none) (O : Kd.C k36 w I 1 [x]) (hm : l0.length ≤ 1000) :
    Calls Try.prog 129 #[.slice z l0.length l0.length, .int .i64 (l0.length : Int), .slice I 1 c2] w fun e w' => ∃ X, e = .returned X ∧ Kd.R k36 36 w' w.heap.size (fun _ => True) X (l0 ++ [x]) ∧ Below w.heap.size w w' := by
  have hu := Try.underlying29
  obtain ⟨i, hi, hz⟩ := Option.map_eq_some_iff.1 info36
  simp only [Prod.mk.injEq] at hz
  obtain ⟨D, rfl, H⟩ := CcellsN O (by simp)
  obtain ⟨G, hG⟩ : ∃ G, G = grownCap w (l0.length + 1) l0.length 36 := ⟨_, rfl⟩
  obtain ⟨ZR, hZR⟩ : ∃ ZR, ZR = Builtin.zeroCells (Value.agg #[(.int .i64 0), (.int .i64 0)]).cells (G - (l0.length + 1)) := ⟨_, rfl⟩
  have hap : ∀ ty, (Builtin.append_ #[29, 29] ty #[.slice z l0.length l0.length, .slice (some D) 1 c2]).run Try.prog w =
      .ok (.slice (some ⟨w.heap.size, 0, none⟩) (l0.length + 1) G) (w.drew.alloc (.cells ((encN (l0 ++ [x])) ++ ZR.toList).toArray 36)) := fun ty => by
    by_cases h0 : l0.length = 0
    · have hl : l0 = [] := List.eq_nil_of_length_eq_zero h0
      obtain rfl := L h0
      subst hl
      have := run_append_nil (P := Try.prog) w 29 ty 36 i _ Try.underlying29 hi hz.1 D 1 c2 (encN [x]) (by rw [encN_len, hz.2.1]; rfl) H (by omega) (by omega) (by rw [hz.2.2]; omega)
      rw [show (([] : List S36).length) = 0 from rfl, this]
      rw [show (([] : List S36).length) = 0 from rfl, Nat.zero_add] at hG
      rw [show (([] : List S36).length) = 0 from rfl, Nat.zero_add] at hZR
      rw [← hG, ← hZR, List.nil_append, Nat.zero_add]
      congr 3
      apply Array.ext'; simp
    · obtain ⟨Y, rfl, aa⟩ := CcellsN J (by omega)
      rw [run_append_grow (P := Try.prog) w 29 ty 36 i _ Try.underlying29 hi hz.1 Y l0.length l0.length (encN l0) (by rw [encN_len, hz.2.1]) aa D 1 c2 (encN [x]) (by rw [encN_len, hz.2.1]; rfl) H (by omega) (by omega) (growslice_fits (by omega) (by rw [hz.2.2]; omega)), ← hG, ← hZR, encN_app]
      congr 3
      apply Array.ext'; simp
  have hGn : l0.length + 1 ≤ G := by rw [hG]; exact grownCap_ge w _ _ _
  have hGm : G ≤ maxLen := by rw [hG]; exact grownCap_le_maxLen w _ _ _ (by unfold maxLen; omega)
  have hZl : ZR.toList.length = (G - (l0.length + 1)) * 2 := by rw [hZR]; exact zeros1N _
  have hin : (l0.length : Int) ≤ (l0.length : Int) := by omega
  have hw1 : IntKind.i64.wrap ((l0.length : Int) + 1) = (l0.length : Int) + 1 := by rw [IntKind.wrap_i64]; omega
  clear hG hZR J O H L hi hz
  go_enter Try.func129, Try.ntmps129
  go_wp2_with (first | (at_builtin; refine wpList_app _ rfl _ _ 29 29 rfl _ _ rfl rfl (hap _) ?_))
  go_ret
  refine ⟨_, eqr, ?_, below_alloc (below_drew1 (Below.refl _ _)) _⟩
  have e : (l0 ++ [x]).length = l0.length + 1 := by simp
  have e2 := encN_len (l0 ++ [x])
  rw [← e]
  exact blk_R (rest := ZR.toList) (blk_new w.drew _) (by rw [List.length_append, e2, hZl, e]; omega) (by omega) hGm trivial (Nat.le_refl _)
set_option maxHeartbeats 8000000 in
set_option maxRecDepth 100000 in
theorem ins_midN (b : Nat) (l0 : List S36) (i : Nat) (J : Option Addr) (c2 : Nat) (x : S36) (w : World) (L : Kd.C k36 w (some ⟨b, 0, none⟩) l0.length l0) (O : Kd.C k36 w J 1 [x]) (hil : i < l0.length) (hm : l0.length ≤ 1000) :
    Calls Try.prog 129 #[.slice (some ⟨b, 0, none⟩) l0.length l0.length, .int .i64 (i : Int), .slice J 1 c2] w fun e w' => ∃ T, e = .returned T ∧ Kd.R k36 36 w' w.heap.size (fun _ => True) T (l0.take i ++ x :: l0.drop i) ∧ Below w.heap.size w w' := by
  have hu := Try.underlying29
  obtain ⟨ti, hi, hz⟩ := Option.map_eq_some_iff.1 info36
  simp only [Prod.mk.injEq] at hz
  obtain ⟨H, rfl, I⟩ := CcellsN O (by simp)
  obtain ⟨a0, X, D⟩ := CcellsN L (by omega)
  obtain rfl := Option.some.inj X
  clear X
  have hb : b < w.heap.size := World.block_lt_of_cell? _ _ (D 0 _ (List.getElem?_eq_getElem (by rw [encN_len]; omega)))
  have hb2 : H.block < w.heap.size := World.block_lt_of_cell? _ _ (I 0 _ (List.getElem?_eq_getElem (by rw [encN_len]; simp)))
  have hl0 := encN_len l0
  have hlx : (encN [x]).length = 2 := by rw [encN_len]; rfl
  obtain ⟨n, hn⟩ : ∃ n, n = l0.length := ⟨_, rfl⟩
  have htk : encN l0 = encN (l0.take i) ++ encN (l0.drop i) := by rw [← encN_app, List.take_append_drop]
  have hlt : (encN (l0.take i)).length = i * 2 := by rw [encN_len, List.length_take]; congr 1; omega
  have hld : (encN (l0.drop i)).length = (n - i) * 2 := by rw [encN_len, List.length_drop, hn]
  obtain ⟨G, hG⟩ : ∃ G, G = grownCap w (n + 1) n 36 := ⟨_, rfl⟩
  obtain ⟨Z1, hZ1⟩ : ∃ Z, Z = (Builtin.zeroCells (Value.agg #[(.int .i64 0), (.int .i64 0)]).cells (n + 1 - i)).toList := ⟨_, rfl⟩
  obtain ⟨Z2, hZ2⟩ : ∃ Z, Z = (Builtin.zeroCells (Value.agg #[(.int .i64 0), (.int .i64 0)]).cells (G - (n + 1))).toList := ⟨_, rfl⟩
  have hl1 : Z1.length = (n + 1 - i) * 2 := by rw [hZ1]; exact zeros1N _
  have hl2 : Z2.length = (G - (n + 1)) * 2 := by rw [hZ2]; exact zeros1N _
  have hGn : n + 1 ≤ G := by rw [hG]; exact grownCap_ge w _ _ _
  have hGm : G ≤ maxLen := by rw [hG]; exact grownCap_le_maxLen w _ _ _ (by unfold maxLen; omega)
  obtain ⟨W1, hW1⟩ : ∃ W1, W1 = w.drew.alloc (.cells (encN (l0.take i) ++ Z1 ++ Z2).toArray 36) := ⟨_, rfl⟩
  have hap : ∀ ty, (Builtin.append_ #[29, 3] ty #[.slice (some ⟨b, 0, none⟩) i n, .int .i64 ((n : Int) + 1 - (i : Int))]).run Try.prog w =
      .ok (.slice (some ⟨w.heap.size, 0, none⟩) (n + 1) G) W1 := fun ty => by
    have hold : (Builtin.firstCells ti.size i (.slice (some ⟨b, 0, none⟩) i n)).run Try.prog w.drew = .ok (encN (l0.take i)).toArray w.drew :=
      run_firstCells_some w.drew ti.size i ⟨b, 0, none⟩ i n (encN (l0.take i)) (by rw [hlt, hz.2.1]) (fun j v hj => by
        have : (encN l0)[j]? = some v := by rw [htk, List.getElem?_append_left (List.getElem?_eq_some_iff.1 hj).1]; exact hj
        exact D j v this)
    have h := Lib.run_append_grow_zeros (P := Try.prog) w 29 3 ty 36 ti _ .i64 .i64 Try.underlying29 Try.underlying3 hi hz.1 (some ⟨b, 0, none⟩) i n (encN (l0.take i)) hold (n + 1 - i) (by omega) (by rw [hz.2.1]; omega) (by omega) (by omega) (by rw [hz.2.2]; omega) (by rw [show i + (n + 1 - i) = n + 1 by omega]; exact growslice_fits (by omega) (by rw [hz.2.2]; omega))
    rw [show i + (n + 1 - i) = n + 1 by omega, ← hG] at h
    rw [show (n : Int) + 1 - (i : Int) = ((n + 1 - i : Nat) : Int) by omega, h, hW1, hZ1, hZ2]
    congr 3
    apply Array.ext'; simp
  obtain ⟨RA, hRA⟩ : ∃ R : Array Value, R = (encN (l0.take i) ++ Z1 ++ Z2).toArray := ⟨_, rfl⟩
  have hRs : RA.size = G * 2 := by rw [hRA]; simp only [List.size_toArray, List.length_append, hlt, hl1, hl2]; omega
  obtain ⟨RB, hRB⟩ : ∃ R : Array Value, R = (RA.toList.take (i * 2) ++ encN [x] ++ RA.toList.drop (i * 2 + (encN [x]).length)).toArray := ⟨_, rfl⟩
  have hRBs : RB.size = G * 2 := by
    rw [hRB]; simp only [List.size_toArray, List.length_append, List.length_take, List.length_drop, Array.length_toList, hRs, hlx]
    have : (i + 1) * 2 ≤ G * 2 := Nat.mul_le_mul_right _ (by omega)
    omega
  rw [← hRA] at hW1
  have hnew : W1.heap[w.heap.size]? = some (.cells RA 36 (0, 0)) := by rw [hW1]; exact blk_new w.drew _
  have hOb : ∀ (a : Addr) v, w.cell? a = some v → W1.cell? a = some v := fun a v h => by rw [hW1]; exact (World.cell?_alloc_lt _ _ _ (World.block_lt_of_cell? _ _ h)).trans h
  obtain ⟨W2, hW2⟩ : ∃ W2, W2 = W1.setRow w.heap.size RB := ⟨_, rfl⟩
  have hcpA : ∀ ty dc, (Builtin.copy_ #[29, 29] ty #[.slice (some ⟨w.heap.size, i * 2, none⟩) (n + 1 - i) dc, .slice (some H) 1 c2]).run Try.prog W1 = .ok (goInt 1) W2 := fun ty dc => by
    have := run_copyN W1 ty w.heap.size (i * 2) (n + 1 - i) dc H 1 c2 RA 36 (encN [x]) hnew (by rw [hlx, show Nat.min 1 (n + 1 - i) = 1 by simp only [Nat.min_def]; split <;> omega]) (fun j v hj => hOb _ v (I j v hj)) (by rw [hlx, hRs]; have : (i + 1) * 2 ≤ G * 2 := Nat.mul_le_mul_right _ (by omega); omega) (encN_one _)
    rw [this, show Nat.min 1 (n + 1 - i) = 1 by simp only [Nat.min_def]; split <;> omega, hW2, hRB]
    rfl
  obtain ⟨RC, hRC⟩ : ∃ R : Array Value, R = (RB.toList.take ((i + 1) * 2) ++ encN (l0.drop i) ++ RB.toList.drop ((i + 1) * 2 + (encN (l0.drop i)).length)).toArray := ⟨_, rfl⟩
  have hnew2 : W2.heap[w.heap.size]? = some (.cells RB 36 (0, 0)) := by rw [hW2]; exact setRow_heap _ _ _ _ _ _ hnew
  have hOb2 : ∀ j v, (encN (l0.drop i))[j]? = some v → W2.cell? ⟨b, i * 2 + j, none⟩ = some v := fun j v hj => by
    rw [hW2, cell_setRow_other _ _ _ _ (show b ≠ w.heap.size by omega)]
    have : (encN l0)[i * 2 + j]? = some v := by rw [htk, List.getElem?_append_right (by omega), hlt, Nat.add_sub_cancel_left]; exact hj
    have h2 := hOb _ v (D _ v this)
    rw [Addr.add_lit] at h2
    simpa using h2
  have hcpB : ∀ (W : World), W.heap[w.heap.size]? = W2.heap[w.heap.size]? → (∀ y, W.cell? y = W2.cell? y) → ∀ ty dc sc, (Builtin.copy_ #[29, 29] ty #[.slice (some ⟨w.heap.size, (i + 1) * 2, none⟩) (n - i) dc, .slice (some ⟨b, i * 2, none⟩) (n - i) sc]).run Try.prog W =
      .ok (goInt ((n - i : Nat) : Int)) (W.setRow w.heap.size RC) := fun W hWh hWc ty dc sc => by
    have hmn : Nat.min (n - i) (n - i) = n - i := Nat.min_self _
    have := run_copyN W ty w.heap.size ((i + 1) * 2) (n - i) dc ⟨b, i * 2, none⟩ (n - i) sc RB 36 (encN (l0.drop i)) (hWh.trans hnew2) (by rw [hld, hmn]) (fun j v hj => by rw [Addr.add_lit, hWc]; exact hOb2 j v hj) (by rw [hld, hRBs, ← Nat.add_mul]; exact Nat.mul_le_mul_right _ (by omega)) (encN_one _)
    rw [this, hmn, hRC]
  rw [← hn] at hil hm ⊢
  have q1 : ¬ ((i : Int) = (n : Int)) := by omega
  have q2 : (n : Int) < (n : Int) + 1 := by omega
  have q3 : IntKind.i64.wrap ((n : Int) + 1) = (n : Int) + 1 := by rw [IntKind.wrap_i64]; omega
  have q4 : IntKind.i64.wrap ((n : Int) + 1 - (i : Int)) = (n : Int) + 1 - (i : Int) := by rw [IntKind.wrap_i64]; omega
  have q5 : IntKind.i64.wrap ((i : Int) + 1) = (i : Int) + 1 := by rw [IntKind.wrap_i64]; omega
  have q6 : (i : Int) ≤ (n : Int) := by omega
  have q7 : (i : Int) ≤ (n : Int) + 1 := by omega
  have q8 : (i : Int) + 1 ≤ (n : Int) + 1 := by omega
  have q9 : ((i : Int) + 1).toNat = i + 1 := by omega
  have ab : (0 : Int) ≤ (i : Int) + 1 := by omega
  have ac : ¬ (G = i) := by omega
  have ae : ¬ (G = i + 1) := by omega
  have af : ¬ (n = i) := by omega
  have ag : i ≤ n := by omega
  have HN := am hn
  have Y := am hW1
  have aa := am hW2
  have HRA := am hRA
  have HRB := am hRB
  have HRC := am hRC
  have HL := am (And.intro hl1 (And.intro hl2 (And.intro hlt (And.intro hld hlx))))
  have HZ := am (And.intro hRs hRBs)
  have HG := am hGm
  have HH := am hnew2
  clear hn hW1 hW2 hRA hRB hRC hl1 hl2 hlt hld hlx hRs hRBs hGm hnew hnew2 hZ1 hZ2 hG htk hl0 L O D I hOb hOb2 hi hz
  go_enter Try.func129, Try.ntmps129
  go_wp2_with (first
    | (at_builtin; refine wpList_app _ rfl _ _ 29 3 rfl _ _ rfl rfl (hap _) ?_)
    | (at_builtin; refine wpList_cpy _ rfl _ _ 29 29 rfl _ _ rfl rfl (hcpA _ _) ?_))
  have mixed : Try.prog.follows .mixedOrders = true := by kernel_rfl
  go_region_law_o (refine step_cpy rfl _ _ 29 29 rfl (.slice (some ⟨w.heap.size, (i + 1) * 2, none⟩) (n - i) (G - (i + 1))) (.slice (some ⟨b, i * 2, none⟩) (n - i) (n - i)) ?h1 ?h2 (v' := goInt ((n - i : Nat) : Int)) (w' := W2.drew.setRow w.heap.size RC) ?h4 ?_; (case h1 => simp [Act.eval, Act.put]); (case h2 => simp [Act.eval, Act.put]); (case h4 => exact hcpB W2.drew rfl (fun _ => rfl) _ _ _))
  go_wp2
  go_ret
  obtain ⟨hl1, hl2, hlt, hld, hlx⟩ := HL.out
  have hB2 : Below w.heap.size w W2 := by rw [aa.out, Y.out]; exact below_row (below_alloc (below_drew1 (Below.refl _ _)) _) (Nat.le_refl _)
  refine ⟨_, eqr, ?_, below_row (below_drew1 hB2) (Nat.le_refl _)⟩
  have eC : RC = (encN (l0.take i ++ x :: l0.drop i) ++ Z2).toArray := by
    rw [HRC.out, HRB.out, HRA.out, hld, hlx, show (i + 1) * 2 = i * 2 + 2 by omega, encN_app, show x :: l0.drop i = [x] ++ l0.drop i from rfl, encN_app]
    have := splice3 (encN (l0.take i)) Z1 Z2 (encN [x]) (encN (l0.drop i)) (i * 2) 2 ((n - i) * 2) hlt hlx (by rw [hl1]; omega) hld
    simp only [List.toList_toArray]
    rw [this]; simp [List.append_assoc]
  have e : (l0.take i ++ x :: l0.drop i).length = n + 1 := by
    have := HN.out
    rw [List.length_append, List.length_take, List.length_cons, List.length_drop]; omega
  have e2 := encN_len (l0.take i ++ x :: l0.drop i)
  rw [← e]
  exact blk_R (rest := Z2) (by rw [← eC]; exact setRow_heap _ _ _ _ _ _ HH.out) (by rw [List.length_append, e2, hl2, e]; omega) (by omega) HG.out trivial (Nat.le_refl _)

/-! slices.Insert at nodes, as the print wants it; the last three are what the row is -/
def insfN (l0 : List S36) (z : Int) (l2 : List S36) : Option (List S36) := if 0 ≤ z ∧ z ≤ (l0.length : Int) ∧ l2.length = 1 ∧ l0.length ≤ 1000 then some (l0.take z.toNat ++ l2 ++ l0.drop z.toNat) else none
theorem inscN (z : Option Addr) (I : Nat) (l0 : List S36) (D : Int) (H : Option Addr) (c2 : Nat) (l2 r : List S36) (w : World) (J : Kd.C k36 w z l0.length l0) (X : l0.length ≤ I) (L : Kd.C k36 w H l2.length l2) (Y : l2.length ≤ c2) (h : insfN l0 D l2 = some r)
    (hcap : I = l0.length) (hA : l0.length = 0 → z = none) (T : 0 < l0.length → ∃ b, z = some ⟨b, 0, none⟩) :
    Calls Try.prog 129 #[.slice z l0.length I, .int .i64 D, .slice H l2.length c2] w fun e w' => ∃ O : Value, e = .returned O ∧ Kd.R k36 36 w' w.heap.size (fun _ => True) O r ∧ Below w.heap.size w w' := by
  unfold insfN at h
  by_cases hm : 0 ≤ D ∧ D ≤ (l0.length : Int) ∧ l2.length = 1 ∧ l0.length ≤ 1000
  · rw [if_pos hm] at h
    obtain rfl := Option.some.inj h
    obtain ⟨h0, h1, h2, h3⟩ := hm
    subst hcap
    obtain ⟨x, rfl⟩ := List.length_eq_one_iff.1 h2
    obtain ⟨i, rfl⟩ := Int.eq_ofNat_of_zero_le h0
    rw [Int.toNat_natCast]
    by_cases e : i = l0.length
    · subst e
      rw [List.take_length, List.drop_length, List.append_nil]
      exact ins_endN z l0 H c2 x w J hA L h3
    · obtain ⟨b, rfl⟩ := T (by omega)
      have := ins_midN b l0 i H c2 x w J L (by omega) h3
      rw [List.append_assoc]
      exact this
  · rw [if_neg hm] at h; cases h

/-! clear(s[m:]) of a made row of nodes -/
theorem zeros2N (n : Nat) : ∀ v ∈ (Builtin.zeroCells (Value.agg #[(.int .i64 0), (.int .i64 0)]).cells n).toList, v.oneCell' = true := by
  intro v hv
  simp [Builtin.zeroCells, Value.cells] at hv
  obtain ⟨i, _, rfl⟩ := hv
  have h : i % 2 < 2 := Nat.mod_lt _ (by decide)
  generalize i % 2 = j at h
  match j, h with
  | 0, _ => rfl
  | 1, _ => rfl
theorem zvN : ∀ w, (zeroValue 36).run Try.prog w = .ok (Value.agg #[(.int .i64 0), (.int .i64 0)]) w := by
  intro w
  obtain ⟨i, hi, hz⟩ := Option.map_eq_some_iff.1 info36
  simp only [Prod.mk.injEq] at hz
  simp [zeroValue, typeInfo, hi, hz.1]
theorem clrN {w : World} {base g cap n n2 c2 m : Nat} {ok : Nat → Prop} {A : Option Addr} {xs : List S36} (h : Kd.R k36 36 w base ok (.slice (some ⟨g, 0, none⟩) n cap) xs) (hm : m ≤ xs.length)
    (hA : A = if cap = m then some ⟨g, 0, none⟩ else (some (⟨g, 0, none⟩ : Addr)).map (·.add (m * 2))) (hn : n2 = xs.length - m) :
    ∃ w', (∀ ty, (Builtin.clear_ #[29] ty #[.slice A n2 c2]).run Try.prog w = .ok (.tuple #[]) w') ∧ w.grownBy w' (some g) ∧ Kd.R k36 36 w' base ok (.slice (some ⟨g, 0, none⟩) m cap) (xs.take m) := by
  by_cases h0 : n2 = 0
  · subst h0
    refine ⟨w, fun ty => ?_, ⟨rfl, rfl, rfl, Nat.le_refl _, fun _ _ _ => rfl⟩, Kd.R_take h hm⟩
    cases A <;> simp [Builtin.clear_, run_underlying Try.underlying29]
  · have hp : 0 < xs.length := by omega
    obtain ⟨g', cap', rest, he, hok, hbg, hh, hcl, hnc, hcm⟩ := R_blk h hp
    injection he with ha hb hc
    injection ha with ha
    injection ha with ha
    subst ha hb hc
    rw [if_neg (by omega)] at hA
    have D : A = some ⟨g, m * 2, none⟩ := by rw [hA]; simp [Addr.add]; omega
    clear hA
    subst D
    obtain ⟨zs, hzs⟩ : ∃ zs, zs = (Builtin.zeroCells (Value.agg #[(.int .i64 0), (.int .i64 0)]).cells n2).toList := ⟨_, rfl⟩
    have hzl : zs.length = n2 * 2 := by rw [hzs]; exact zeros1N n2
    have I : ∀ v ∈ zs, v.oneCell' = true := by rw [hzs]; exact zeros2N n2
    have hen := encN_len xs
    have hfit : m * 2 + zs.length ≤ (encN xs ++ rest).toArray.size := by simp only [List.size_toArray, List.length_append]; omega
    have hst := run_storeCells_cells (P := Try.prog) g (m * 2) zs 0 w (fun j hj => by rw [cell_of_row w g _ _ 36 (0, 0) hh]; simp only [Nat.add_zero]; rw [Array.getElem?_eq_getElem (by omega)]; rfl) (fun j _ => blk_frozen hh _) I
    simp only [Nat.add_zero] at hst
    obtain ⟨cur', J, c2', L⟩ := setCells_row zs (m * 2) w _ hh hfit
    obtain ⟨s1, s2, s3, s4⟩ := setCells_same g zs (m * 2) w
    have O : (encN xs ++ rest).take (m * 2) = encN (xs.take m) := by
      have hl : (encN (xs.take m)).length = m * 2 := by rw [encN_len, List.length_take]; omega
      have h2 : encN xs = encN (xs.take m) ++ encN (xs.drop m) := by rw [← encN_app, List.take_append_drop]
      rw [h2, List.append_assoc]
      exact List.take_left' hl
    refine ⟨w.setCells g (m * 2) zs, fun ty => ?_, ⟨s1, s2, s3, Nat.le_of_eq s4.symm, fun k _ hk => setCells_far zs (m * 2) k (fun e => hk (by rw [e]))⟩, ?_⟩
    · obtain ⟨q, rfl⟩ : ∃ q, n2 = q + 1 := ⟨n2 - 1, by omega⟩
      simp [Builtin.clear_, run_underlying Try.underlying29, zvN, ← hzs, hst]
    · have hl : (xs.take m).length = m := by rw [List.length_take]; omega
      have z : cur'.toList = encN (xs.take m) ++ (zs ++ (encN xs ++ rest).drop (m * 2 + zs.length)) := by
        rw [L, ← O, List.append_assoc]
      have hh' : (w.setCells g (m * 2) zs).heap[g]? = some (.cells (encN (xs.take m) ++ (zs ++ (encN xs ++ rest).drop (m * 2 + zs.length))).toArray 36 (0, 0)) := by
        rw [← z]; exact J
      have := blk_R (base := base) (ok := ok) (cap := cap) hh' (by rw [← z, Array.length_toList, c2']; simpa using hcl) (by omega) hcm hok hbg
      rw [hl] at this
      exact this

/-! slices.Delete of one at nodes -/
set_option maxHeartbeats 8000000 in
set_option maxRecDepth 100000 in
theorem deleN (g cap : Nat) (l0 : List S36) (i : Nat) (base : Nat) (ok : Nat → Prop) (w : World) (hR : Kd.R k36 36 w base ok (.slice (some ⟨g, 0, none⟩) l0.length cap) l0) (hil : i < l0.length) (hm : l0.length ≤ 1000) (Y : cap ≤ maxLen) :
    Calls Try.prog 130 #[.slice (some ⟨g, 0, none⟩) l0.length cap, .int .i64 (i : Int), .int .i64 ((i : Int) + 1)] w fun e w' =>
      e = .returned (.slice (some ⟨g, 0, none⟩) (l0.length - 1) cap) ∧ Kd.R k36 36 w' base ok (.slice (some ⟨g, 0, none⟩) (l0.length - 1) cap) (l0.take i ++ l0.drop (i + 1)) ∧ w.grownBy w' (some g) := by
  have hu := Try.underlying29
  obtain ⟨ti, hi, hz⟩ := Option.map_eq_some_iff.1 info36
  simp only [Prod.mk.injEq] at hz
  obtain ⟨g', cap', rest, he, hok, hbg, hh, hcl, hnc, hcm⟩ := R_blk hR (by omega)
  injection he with ha hb hc
  injection ha with ha
  injection ha with ha
  subst ha hc
  clear hb
  have hl0 := encN_len l0
  obtain ⟨n, hn⟩ : ∃ n, n = l0.length := ⟨_, rfl⟩
  have D : encN l0 = encN (l0.take i) ++ encN (l0.drop i) := by rw [← encN_app, List.take_append_drop]
  have H : l0.drop i = l0[i] :: l0.drop (i + 1) := List.drop_eq_getElem_cons hil
  have hlt : (encN (l0.take i)).length = i * 2 := by rw [encN_len, List.length_take]; congr 1; omega
  have hld : (encN (l0.drop (i + 1))).length = (n - (i + 1)) * 2 := by rw [encN_len, List.length_drop, hn]
  have hsrc : ∀ j v, (encN (l0.drop (i + 1)))[j]? = some v → w.cell? ⟨g, (i + 1) * 2 + j, none⟩ = some v := fun j v hj => by
    rw [cell_of_row w g _ _ 36 (0, 0) hh]
    have : (encN l0)[(i + 1) * 2 + j]? = some v := by
      rw [D, H, show l0[i] :: l0.drop (i + 1) = [l0[i]] ++ l0.drop (i + 1) from rfl, encN_app, ← List.append_assoc, List.getElem?_append_right (by simp [hlt, encN_len]; omega), List.length_append, hlt, encN_len]
      simpa [show (i + 1) * 2 + j - (i * 2 + 1 * 2) = j by omega] using hj
    simp only [List.getElem?_toArray]
    rw [List.getElem?_append_left (List.getElem?_eq_some_iff.1 this).1]
    exact this
  obtain ⟨cur, hcur⟩ : ∃ c : Array Value, c = (encN l0 ++ rest).toArray := ⟨_, rfl⟩
  rw [← hcur] at hh
  have hcs : cur.size = cap * 2 := by rw [hcur]; simpa using hcl
  have hm1 : (i + 1) * 2 ≤ n * 2 := Nat.mul_le_mul_right _ (by omega)
  have hm2 : n * 2 ≤ cap * 2 := Nat.mul_le_mul_right _ (by omega)
  have hm3 : (n - 1) * 2 + 2 = n * 2 := by omega
  have hm4 : i * 2 + (n - (i + 1)) * 2 = (n - 1) * 2 := by omega
  obtain ⟨R1, hR1⟩ : ∃ R : Array Value, R = (cur.toList.take (i * 2) ++ encN (l0.drop (i + 1)) ++ cur.toList.drop (i * 2 + (encN (l0.drop (i + 1))).length)).toArray := ⟨_, rfl⟩
  have hap : ∀ (W : World) (z : Addr), W.heap[g]? = some (.cells cur 36 (0, 0)) → (∀ j v, (encN (l0.drop (i + 1)))[j]? = some v → W.cell? (z.add j) = some v) → ∀ ty c2,
      (Builtin.append_ #[29, 29] ty #[.slice (some ⟨g, 0, none⟩) i cap, .slice (some z) (n - (i + 1)) c2]).run Try.prog W = .ok (.slice (some ⟨g, 0, none⟩) (n - 1) cap) (W.setRow g R1) := fun W z hW O ty c2 => by
    have := run_append_room (P := Try.prog) W 29 ty 36 ti Try.underlying29 hi g i cap cur hW z (n - (i + 1)) c2 (encN (l0.drop (i + 1))) (by rw [hld, hz.2.1]) O (encN_one _) (by omega) (by rw [hz.2.1, hld, hcs]; omega)
    rw [this, show i + (n - (i + 1)) = n - 1 by omega, hz.2.1, hR1]
  have eR : R1 = (encN (l0.take i ++ l0.drop (i + 1) ++ l0.drop (n - 1)) ++ rest).toArray := by
    have f1 : cur.toList.take (i * 2) = encN (l0.take i) := by
      rw [hcur, List.toList_toArray, D, List.append_assoc]; exact List.take_left' hlt
    have f2 : cur.toList.drop (i * 2 + (encN (l0.drop (i + 1))).length) = encN (l0.drop (n - 1)) ++ rest := by
      have T : encN l0 = encN (l0.take (n - 1)) ++ encN (l0.drop (n - 1)) := by rw [← encN_app, List.take_append_drop]
      rw [hcur, List.toList_toArray, hld, hm4, T, List.append_assoc]
      exact List.drop_left' (by rw [encN_len, List.length_take]; congr 1; omega)
    rw [hR1, f1, f2, encN_app, encN_app]; simp [List.append_assoc]
  obtain ⟨W1, hW1⟩ : ∃ W, W = w.drew.setRow g R1 := ⟨_, rfl⟩
  have hh1 : W1.heap[g]? = some (.cells R1 36 (0, 0)) := by rw [hW1]; exact setRow_heap _ _ _ _ _ _ hh
  have hlX : (l0.take i ++ l0.drop (i + 1) ++ l0.drop (n - 1)).length = n := by
    simp only [List.length_append, List.length_take, List.length_drop]; omega
  have hRX : Kd.R k36 36 W1 base ok (.slice (some ⟨g, 0, none⟩) n cap) (l0.take i ++ l0.drop (i + 1) ++ l0.drop (n - 1)) := by
    have := blk_R (w := W1) (base := base) (g := g) (cap := cap) (ok := ok) (xs := l0.take i ++ l0.drop (i + 1) ++ l0.drop (n - 1)) (rest := rest) (by rw [← eR]; exact hh1) (by rw [List.length_append, encN_len, hlX]; rw [List.length_append, hl0] at hcl; omega) (by omega) hcm hok hbg
    rw [hlX] at this; exact this
  obtain ⟨X, hclr, hg9, hR9⟩ := clrN (c2 := cap - (n - 1)) (m := n - 1) (n2 := 1) (A := some ⟨g, (n - 1) * 2, none⟩) hRX (by rw [hlX]; omega) (by rw [if_neg (by omega)]; simp [Addr.add]) (by rw [hlX]; omega)
  have eT : (l0.take i ++ l0.drop (i + 1) ++ l0.drop (n - 1)).take (n - 1) = l0.take i ++ l0.drop (i + 1) := List.take_left' (by simp only [List.length_append, List.length_take, List.length_drop]; omega)
  rw [eT] at hR9
  have hgr : w.grownBy X (some g) := by
    have s1 : W1.heap.size = w.heap.size := by rw [hW1, setRow_size]; rfl
    refine ⟨hg9.os.trans (by rw [hW1]; rfl), hg9.tape.trans (by rw [hW1]; rfl), hg9.output.trans (by rw [hW1]; rfl), by rw [← s1]; exact hg9.size, fun k hk hne => (hg9.block k (by omega) hne).trans ?_⟩
    rw [hW1, setRow_other _ _ _ _ (fun e => hne (by rw [e]))]; rfl
  rw [← hn] at hil hm ⊢
  have hncn : n ≤ cap := by omega
  have q1 : ¬ ((i : Int) = (i : Int) + 1) := by omega
  have q3 : ((i : Int) + 1) ≤ (n : Int) := by omega
  have q4 : (i : Int) ≤ (i : Int) + 1 := by omega
  have q5 : (n : Int) ≤ (cap : Int) := by omega
  have q6 : ((i : Int) + 1).toNat = i + 1 := by omega
  have q7 : (0 : Int) ≤ (i : Int) + 1 := by omega
  have q8 : (i : Int) ≤ (n : Int) := by omega
  have q9 : ¬ (cap = n - 1) := by omega
  have aa : ((n - 1 : Nat) : Int) ≤ (n : Int) := by omega
  have ab : (i : Int) ≤ (cap : Int) := by omega
  have ac : n - (n - 1) = 1 := by omega
  have ae : i ≤ cap := by omega
  have af : i + 1 ≤ cap := by omega
  have ag : i + 1 ≤ n := by omega
  have I := am hW1
  have J := am hR9
  have HGR := am hgr
  have HH := am hh
  have HS := am hsrc
  have HD := am hld
  clear hW1 hR9 hgr hh hsrc hld hn hR1 eR hh1 hRX hg9 eT hlX hcur hcs hl0 D H hlt hcl hR hi hz
  go_enter Try.func130, Try.ntmps130
  by_cases hce : cap = i + 1
  · have HE := am hce
    replace hce := eq_true hce
    go_wp2
    have mixed : Try.prog.follows .mixedOrders = true := by kernel_rfl
    go_region_law_o (refine step_app rfl _ _ 29 29 rfl (.slice (some ⟨g, 0, none⟩) i cap) (.slice (some ⟨g, 0, none⟩) (n - (i + 1)) (cap - (i + 1))) ?h1 ?h2 (v' := .slice (some ⟨g, 0, none⟩) (n - 1) cap) (w' := W1) ?h4 ?_; (case h1 => simp [Act.eval, Act.put]); (case h2 => simp [Act.eval, Act.put, hce]); (case h4 => rw [I.out]; exact hap w.drew _ HH.out (fun j v hj => by have h1 := (List.getElem?_eq_some_iff.1 hj).1; have h2 := HD.out; have h3 := HE.out; rw [show n - (i + 1) = 0 by omega] at h2; omega) _ _))
    go_wp2_with (first | (at_builtin; refine wpList_clr _ rfl _ 29 rfl _ rfl (hclr _) ?_))
    go_ret
    exact ⟨eqr, J.out, HGR.out⟩
  · go_wp2
    have mixed : Try.prog.follows .mixedOrders = true := by kernel_rfl
    go_region_law_o (refine step_app rfl _ _ 29 29 rfl (.slice (some ⟨g, 0, none⟩) i cap) (.slice (some ⟨g, (i + 1) * 2, none⟩) (n - (i + 1)) (cap - (i + 1))) ?h1 ?h2 (v' := .slice (some ⟨g, 0, none⟩) (n - 1) cap) (w' := W1) ?h4 ?_; (case h1 => simp [Act.eval, Act.put]); (case h2 => simp [Act.eval, Act.put]); (case h4 => rw [I.out]; exact hap w.drew _ HH.out (fun j v hj => by rw [Addr.add_lit]; exact HS.out j v hj) _ _))
    go_wp2_with (first | (at_builtin; refine wpList_clr _ rfl _ 29 rfl _ rfl (hclr _) ?_))
    go_ret
    exact ⟨eqr, J.out, HGR.out⟩

/-! slices.Delete at nodes, as the print wants it -/
def delfnN (l0 : List S36) (z D : Int) : Option (List S36) := if 0 ≤ z ∧ z < (l0.length : Int) ∧ D = z + 1 ∧ l0.length ≤ 1000 then some (l0.take z.toNat ++ l0.drop (z.toNat + 1)) else none
theorem delcN (P0_ : Nat → Prop) (I : Value) (l0 : List S36) (D H : Int) (r : List S36) (w0 w : World) (hB : Below w0.heap.size w0 w) (J : Kd.R k36 36 w w0.heap.size P0_ I l0) (h : delfnN l0 D H = some r) :
    Calls Try.prog 130 #[I, .int .i64 D, .int .i64 H] w fun e w' => ∃ L : Value, e = .returned L ∧ Kd.R k36 36 w' w0.heap.size (fun k_ => (P0_ k_ ∨ w.heap.size ≤ k_)) L r ∧ Below w0.heap.size w0 w' ∧ Kept w w' (fun k_ => P0_ k_) := by
  unfold delfnN at h
  by_cases hm : 0 ≤ D ∧ D < (l0.length : Int) ∧ H = D + 1 ∧ l0.length ≤ 1000
  · rw [if_pos hm] at h
    obtain rfl := Option.some.inj h
    obtain ⟨h0, h1, rfl, h3⟩ := hm
    obtain ⟨i, rfl⟩ := Int.eq_ofNat_of_zero_le h0
    obtain ⟨g, cap, rest, rfl, hok, hbg, hh, hcl, hnc, hcm⟩ := R_blk J (by omega)
    refine (deleN g cap l0 i w0.heap.size (fun k_ => (P0_ k_ ∨ w.heap.size ≤ k_)) w (Kd.R_mono J (fun k_ hk => .inl hk)) (by omega) h3 hcm).mono ?_
    rintro e w' ⟨T, X, z⟩
    have Y : (l0.take i ++ l0.drop (i + 1)).length = l0.length - 1 := by simp only [List.length_append, List.length_take, List.length_drop]; omega
    refine ⟨_, T, X, hB.trans ⟨z.os, z.tape, z.output, z.size, fun k_ hk_ => z.block k_ (Nat.lt_of_lt_of_le hk_ hB.size) (fun e_ => by injection e_ with e_; omega)⟩, ?_⟩
    exact Kept.of_grown (S := fun k_ => P0_ k_) z (Kept.refl _ _) (fun k_ e_ => .inl (by injection e_ with e_; exact e_ ▸ hok))
  · rw [if_neg hm] at h; cases h

end Go.Proofs.Ytohmemckdogljaa.QFnExactGraphDo
