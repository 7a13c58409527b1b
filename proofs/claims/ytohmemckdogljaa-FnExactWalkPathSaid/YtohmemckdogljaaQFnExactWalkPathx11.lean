/- Contracts of the Go functions that this law reaches: each does what its plain Lean function says. No condition. -/
import Derived.Test.YtohmemckdogljaaQFnExactWalkPathx0
import Derived.Test.YtohmemckdogljaaQFnExactWalkPathx1
import Derived.Test.YtohmemckdogljaaQFnExactWalkPathx9
import Derived.Test.YtohmemckdogljaaQFnExactWalkPathx10
namespace Go.Proofs.Ytohmemckdogljaa.QFnExactWalkPath
open Go.RowKit Go.Proofs.YtohmemckdogljaaW.PrintWords Go.Proofs.YtohmemckdogljaaW.PrintLast Go.Proofs.YtohmemckdogljaaW.PrintMore Go.Proofs.Ytohmemckdogljaa.Bl
attribute [local go_sem] max2_int min2_int max_two min_two max_three min_three max_four min_four   -- for this text's walks alone
set_option linter.unusedVariables false
set_option linter.unusedSimpArgs false
set_option maxHeartbeats 8000000
set_option maxRecDepth 100000

attribute [local go_sem high] eqA36
/-! ### impl_Node_104: function 104 -/
/-! where the sort's functions and types stand in this program -/
def sortN_ren : Go.Shelf.Ren := ⟨fun | 6 => 104 | 15 => 137 | 14 => 136 | 28 => 158 | 29 => 159 | 20 => 150 | 21 => 151 | 22 => 152 | 23 => 153 | 24 => 154 | 25 => 155 | 26 => 156 | 27 => 157 | 46 => 164 | 47 => 165 | 48 => 166 | 49 => 167 | 50 => 168 | 57 => 171 | n => n, fun | 22 => 29 | 24 => 36 | 25 => 112 | 3 => 3 | 39 => 143 | 0 => 0 | 53 => 159 | 55 => 161 | 4 => 4 | 46 => 153 | 45 => 152 | 50 => 117 | 5 => 5 | 9 => 9 | 66 => 162 | 70 => 166 | 76 => 170 | 77 => 171 | n => n, fun | n => n⟩
theorem sortN_lay : Go.Proofs.SlLaysF0.n6 Try.prog sortN_ren := ⟨
  by kernel_rfl,
  ⟨ "slices.SortFunc[[]loop.example/hagioscope/impl.Node,loop.example/hagioscope/impl.Node]", by decide, Try.func104.trans (congrArg some (by kernel_rfl))⟩,
  ⟨ "slices.pdqsortCmpFunc[loop.example/hagioscope/impl.Node]", by decide, Try.func136.trans (congrArg some (by kernel_rfl))⟩,
  Try.func137.trans (congrArg some (by kernel_rfl)),
  ⟨ "slices.insertionSortCmpFunc[loop.example/hagioscope/impl.Node]", by decide, Try.func150.trans (congrArg some (by kernel_rfl))⟩,
  ⟨ "slices.heapSortCmpFunc[loop.example/hagioscope/impl.Node]", by decide, Try.func151.trans (congrArg some (by kernel_rfl))⟩,
  ⟨ "slices.breakPatternsCmpFunc[loop.example/hagioscope/impl.Node]", by decide, Try.func152.trans (congrArg some (by kernel_rfl))⟩,
  ⟨ "slices.choosePivotCmpFunc[loop.example/hagioscope/impl.Node]", by decide, Try.func153.trans (congrArg some (by kernel_rfl))⟩,
  ⟨ "slices.reverseRangeCmpFunc[loop.example/hagioscope/impl.Node]", by decide, Try.func154.trans (congrArg some (by kernel_rfl))⟩,
  ⟨ "slices.partialInsertionSortCmpFunc[loop.example/hagioscope/impl.Node]", by decide, Try.func155.trans (congrArg some (by kernel_rfl))⟩,
  ⟨ "slices.partitionEqualCmpFunc[loop.example/hagioscope/impl.Node]", by decide, Try.func156.trans (congrArg some (by kernel_rfl))⟩,
  ⟨ "slices.partitionCmpFunc[loop.example/hagioscope/impl.Node]", by decide, Try.func157.trans (congrArg some (by kernel_rfl))⟩,
  Try.func158.trans (congrArg some (by kernel_rfl)),
  Try.func159.trans (congrArg some (by kernel_rfl)),
  ⟨ "slices.siftDownCmpFunc[loop.example/hagioscope/impl.Node]", by decide, Try.func164.trans (congrArg some (by kernel_rfl))⟩,
  Try.func165.trans (congrArg some (by kernel_rfl)),
  Try.func166.trans (congrArg some (by kernel_rfl)),
  ⟨ "slices.medianAdjacentCmpFunc[loop.example/hagioscope/impl.Node]", by decide, Try.func167.trans (congrArg some (by kernel_rfl))⟩,
  ⟨ "slices.medianCmpFunc[loop.example/hagioscope/impl.Node]", by decide, Try.func168.trans (congrArg some (by kernel_rfl))⟩,
  ⟨ "slices.order2CmpFunc[loop.example/hagioscope/impl.Node]", by decide, Try.func171.trans (congrArg some (by kernel_rfl))⟩,
  Try.underlying0,
  Try.isAgg0,
  Try.sizeOf0,
  Try.zeroValue0,
  Try.underlying3,
  Try.isAgg3,
  Try.sizeOf3,
  Try.zeroValue3,
  Try.underlying4,
  Try.isAgg4,
  Try.sizeOf4,
  Try.zeroValue4,
  Try.underlying5,
  Try.isAgg5,
  Try.sizeOf5,
  Try.zeroValue5,
  Try.underlying9,
  Try.isAgg9,
  Try.sizeOf9,
  Try.zeroValue9,
  Try.underlying29,
  Try.isAgg29,
  Try.sizeOf29,
  Try.zeroValue29,
  Try.underlying112,
  Try.isAgg112,
  Try.sizeOf112,
  Try.zeroValue112,
  Try.underlying143,
  Try.isAgg143,
  Try.sizeOf143,
  Try.zeroValue143,
  Try.underlying152,
  Try.isAgg152,
  Try.sizeOf152,
  Try.zeroValue152,
  Try.underlying153,
  Try.isAgg153,
  Try.sizeOf153,
  Try.zeroValue153,
  Try.underlying117,
  Try.isAgg117,
  Try.sizeOf117,
  Try.zeroValue117,
  Try.underlying159,
  Try.isAgg159,
  Try.sizeOf159,
  Try.zeroValue159,
  Try.underlying161,
  Try.isAgg161,
  Try.sizeOf161,
  Try.zeroValue161,
  Try.underlying162,
  Try.isAgg162,
  Try.sizeOf162,
  Try.zeroValue162,
  Try.underlying166,
  Try.isAgg166,
  Try.sizeOf166,
  Try.zeroValue166,
  Try.underlying170,
  Try.isAgg170,
  Try.sizeOf170,
  Try.zeroValue170,
  Try.underlying171,
  Try.isAgg171,
  Try.sizeOf171,
  Try.zeroValue171⟩
/-! a made row of nodes, told as its block -/
def enc36 (x : S36) : List Value := [.int .i64 x.f0, .int .i64 x.f1]
def encN (xs : List S36) : List Value := xs.flatMap enc36
theorem encN_len (xs : List S36) : (encN xs).length = xs.length * 2 := by
  induction xs with
  | nil => rfl
  | cons x xs ih =>
    show (enc36 x ++ encN xs).length = _
    rw [List.length_append, ih, List.length_cons]; show 2 + _ = _; omega
theorem encN_cons (x : S36) (xs : List S36) : encN (x :: xs) = .int .i64 x.f0 :: .int .i64 x.f1 :: encN xs := rfl
theorem encN_app (xs ys : List S36) : encN (xs ++ ys) = encN xs ++ encN ys := by simp [encN, List.flatMap_append]
theorem encN_get : ∀ (xs : List S36) (j : Nat) (p : S36), xs[j]? = some p → ((encN xs).drop (j * 2)).take 2 = enc36 p
  | [], j, p, h => by simp at h
  | x :: xs, 0, p, h => by obtain rfl := Option.some.inj h; rfl
  | x :: xs, j + 1, p, h => by
    rw [show (j + 1) * 2 = j * 2 + 2 by omega, encN_cons]
    exact encN_get xs j p (by simpa using h)
theorem encN_uniq : ∀ (xs : List S36) (cs : List Value), cs.length = xs.length * 2 → (∀ j p, xs[j]? = some p → (cs.drop (j * 2)).take 2 = enc36 p) → cs = encN xs
  | [], cs, hl, _ => by rw [List.length_eq_zero_iff.1 (show cs.length = 0 by simpa using hl)]; rfl
  | x :: xs, cs, hl, h => by
    have h0 := h 0 x rfl
    match cs, hl with
    | a :: b :: cs, hl =>
      have e : [a, b] = enc36 x := by simpa using h0
      have ih := encN_uniq xs cs (by simp at hl ⊢; omega) (fun j p hj => by
        have := h (j + 1) p (by simpa using hj)
        rwa [show (j + 1) * 2 = j * 2 + 2 by omega] at this)
      rw [ih, encN_cons]
      simp only [enc36, List.cons.injEq, and_true] at e
      rw [e.1, e.2]
    | [], hl => simp at hl
    | [a], hl => simp at hl; omega
theorem R_blk {w : World} {base : Nat} {ok : Nat → Prop} {v : Value} {xs : List S36} (h : Kd.R k36 36 w base ok v xs) (hp : 0 < xs.length) :
    ∃ g cap rest, v = .slice (some ⟨g, 0, none⟩) xs.length cap ∧ ok g ∧ base ≤ g ∧ w.heap[g]? = some (.cells (encN xs ++ rest).toArray 36 (0, 0)) ∧ (encN xs ++ rest).length = cap * 2 ∧ xs.length ≤ cap ∧ cap ≤ maxLen := by
  obtain ⟨hok, inner, ⟨hl, ho⟩, hr⟩ := h
  rcases ho with ⟨_, h0⟩ | ⟨g, cap, cur, rfl, hb, hh, hnc, hcm, hcs, ht⟩
  · omega
  · have e : inner = encN xs := encN_uniq xs inner hl (fun j p hj => k36_openM (hr.2 j p hj))
    have D : cur.toList.take (xs.length * 2) = encN xs := ht.trans e
    have s : encN xs ++ cur.toList.drop (xs.length * 2) = cur.toList := by rw [← D, List.take_append_drop]
    refine ⟨g, cap, cur.toList.drop (xs.length * 2), rfl, hok g rfl, hb, ?_, ?_, hnc, hcm⟩
    · rw [s]; exact hh
    · rw [s]; exact hcs
theorem blk_R {w : World} {base g cap : Nat} {ok : Nat → Prop} {xs : List S36} {rest : List Value} (hh : w.heap[g]? = some (.cells (encN xs ++ rest).toArray 36 (0, 0))) (hl : (encN xs ++ rest).length = cap * 2) (hnc : xs.length ≤ cap) (hcm : cap ≤ maxLen) (hok : ok g) (hb : base ≤ g) :
    Kd.R k36 36 w base ok (.slice (some ⟨g, 0, none⟩) xs.length cap) xs := by
  refine ⟨fun k hk => ?_, encN xs, ⟨encN_len xs, .inr ⟨g, cap, _, rfl, hb, hh, hnc, hcm, (show (encN xs ++ rest).toArray.size = cap * 2 by simpa using hl), ?_⟩⟩, encN_len xs, fun j p hj => ?_⟩
  · have : g = k := by simpa [Value.ownBlock] using hk
    exact this ▸ hok
  · show (encN xs ++ rest).take (xs.length * 2) = encN xs
    rw [← encN_len xs, List.take_left']
    rfl
  · show k36.M w base _ p (((encN xs).drop (j * 2)).take 2)
    rw [encN_get xs j p hj]
    exact k36_mkM _ _ _ p
/-! nodes in a made row: the row's block; the comparison lays blocks and draws, nothing else -/
theorem grow_g2 {W : World} {o1 o2 : Obj} : ∃ q os', (W.alloc o1).alloc o2 = Go.Sort.grow (W.drewN q) os' := ⟨0, #[o1] ++ #[o2], by rw [Go.Sort.alloc_eq_grow, Go.Sort.alloc_eq_grow, Go.Sort.grow_grow]; rfl⟩
set_option maxHeartbeats 2000000 in
set_option maxRecDepth 100000 in
theorem nodeCode_g (a b : Int) (W : World) : Calls Try.prog 116 #[.agg #[.int .i64 a, .int .i64 b]] W fun e w' => e = .returned (.int .i64 (Cd a b)) ∧ ∃ q os', w' = Go.Sort.grow (W.drewN q) os' := by
  by_cases h1 : 0 ≤ a
  · by_cases h2 : a ≤ 7
    · by_cases h3 : 0 ≤ b
      · by_cases h4 : b ≤ 40
        · have e : Cd a b = 64 * a + b := by unfold Cd; rw [if_pos (by rw [nOk_iff]; omega)]
          rw [e]
          go_enter Try.func116, Try.ntmps116
          go_wp2
          go_ret
          exact ⟨rfl, grow_g2⟩
        · have e : Cd a b = -1 := by unfold Cd; rw [if_neg (by rw [nOk_iff]; omega)]
          rw [e]
          go_enter Try.func116, Try.ntmps116
          go_wp2
          go_ret
          exact ⟨rfl, grow_g2⟩
      · have e : Cd a b = -1 := by unfold Cd; rw [if_neg (by rw [nOk_iff]; omega)]
        rw [e]
        go_enter Try.func116, Try.ntmps116
        go_wp2
        go_ret
        exact ⟨rfl, grow_g2⟩
    · have e : Cd a b = -1 := by unfold Cd; rw [if_neg (by rw [nOk_iff]; omega)]
      rw [e]
      go_enter Try.func116, Try.ntmps116
      go_wp2
      go_ret
      exact ⟨rfl, grow_g2⟩
  · have e : Cd a b = -1 := by unfold Cd; rw [if_neg (by rw [nOk_iff]; omega)]
    rw [e]
    go_enter Try.func116, Try.ntmps116
    go_wp2
    go_ret
    exact ⟨rfl, grow_g2⟩
theorem grow_of {w : World} {n : Nat} {os : Array Obj} {f : FuncId} {args : Array Value} {v : Value} (h : Calls Try.prog f args (Go.Sort.grow (w.drewN n) os) fun e w' => e = .returned v ∧ Drawn0 (Go.Sort.grow (w.drewN n) os) w') :
    Calls Try.prog f args (Go.Sort.grow (w.drewN n) os) fun e w'' => e = .returned v ∧ ∃ p : GrownBy, w'' = Go.Sort.grow (w.drewN p.n) p.os :=
  Calls.grown_of (h.mono fun _ _ ⟨he, hq⟩ => ⟨he, hq.out.choose, #[], by rw [Go.Sort.grow_empty]; exact hq.out.choose_spec⟩)
theorem grow_g {W w' : World} {o1 o2 : Obj} {q : Nat} {os : Array Obj} (h : w' = Go.Sort.grow (((W.alloc o1).alloc o2).drewN q) os) : ∃ q os', w' = Go.Sort.grow (W.drewN q) os' :=
  ⟨q, #[o1] ++ (#[o2] ++ os), by
    rw [h, show (((W.alloc o1).alloc o2).drewN q) = (((W.drewN q).alloc o1).alloc o2) from rfl, Go.Sort.alloc_eq_grow, Go.Sort.alloc_eq_grow, Go.Sort.grow_grow, Go.Sort.grow_grow]⟩
set_option maxHeartbeats 4000000 in
set_option maxRecDepth 100000 in
theorem nodeOrder_g (a b c d : Int) (W : World) : Calls Try.prog 105 #[.agg #[.int .i64 a, .int .i64 b], .agg #[.int .i64 c, .int .i64 d]] W fun e w' => e = .returned (.int .i64 (oN a b c d)) ∧ ∃ q os', w' = Go.Sort.grow (W.drewN q) os' := by
  have hco : ∀ w, Calls Try.prog 138 #[.int .i64 (Cd a b), .int .i64 (Cd c d)] w fun e w' => e = .returned (.int .i64 (oN a b c d)) ∧ Drawn0 w w' := fun w => cmp_Compare_int.calls _ _ _ w (by
    have h := iO a b c d
    unfold impl_nodeOrder.f at h
    simpa only [iC, Option.bind_some, Option.bind_fun_some] using h)
  have hca := fun w => nodeCode_g a b w
  have hcb := fun w => nodeCode_g c d w
  generalize oN a b c d = r at hco ⊢
  generalize Cd a b = x at hca hco
  generalize Cd c d = y at hcb hco
  have mixed : Try.prog.follows .mixedOrders = true := by kernel_rfl
  go_enter Try.func105, Try.ntmps105
  go_wp2
  obtain ⟨D, hw3⟩ : ∃ D, D = ((W.alloc (.cells #[.int .i64 a, .int .i64 b] 36)).alloc (.cells #[.int .i64 c, .int .i64 d] 36)) := ⟨_, rfl⟩
  have G : D.cell? ⟨W.heap.size, 0, none⟩ = some (.int .i64 a) := by rw [hw3]; simp
  have I : D.cell? ⟨W.heap.size, 1, none⟩ = some (.int .i64 b) := by rw [hw3]; simp
  have c2 : D.cell? ⟨W.heap.size + 1, 0, none⟩ = some (.int .i64 c) := by rw [hw3]; simp
  have J : D.cell? ⟨W.heap.size + 1, 1, none⟩ = some (.int .i64 d) := by rw [hw3]; simp
  have hsz : W.heap.size + 1 < D.heap.size := by rw [hw3]; simp
  have L := cell_grown (by show W.heap.size < _; omega) G
  have O := cell_grown (by show W.heap.size < _; omega) I
  have T := cell_grown (by show W.heap.size + 1 < _; omega) c2
  have X := cell_grown (by show W.heap.size + 1 < _; omega) J
  rw [← hw3]
  have HW := am hw3
  clear hw3 G I c2 J hsz
  go_quiet_grown (first | (with_reducible show Calls Try.prog 116 #[.agg #[.int .i64 a, .int .i64 b]] _ _; with_reducible exact Calls.grown_of (hca _)) | (with_reducible show Calls Try.prog 116 #[.agg #[.int .i64 c, .int .i64 d]] _ _; with_reducible exact Calls.grown_of (hcb _)) | (with_reducible show Calls Try.prog 138 _ _ _; with_reducible exact grow_of (hco _)))
  go_wp2
  go_ret
  exact ⟨rfl, grow_g (by rw [HW.out])⟩
/-! slices.SortFunc at nodes -/
instance : Inhabited S36 := ⟨z36⟩
def cfN (x y : S36) : Int := oN x.f0 x.f1 y.f0 y.f1
theorem ltN (x y : S36) : ltOf cfN x y = decide (Cd x.f0 x.f1 < Cd y.f0 y.f1) := by
  unfold ltOf cfN oN
  by_cases h1 : Cd x.f0 x.f1 < Cd y.f0 y.f1
  · simp [h1]
  · by_cases h2 : Cd x.f0 x.f1 > Cd y.f0 y.f1
    · simp [h1, h2]
    · simp [h1, h2]
theorem swoN : Go.Sort.SWO (ltOf cfN) where
  irrefl x := by rw [ltN]; simp
  trans x y z h1 h2 := by rw [ltN] at *; simp at *; omega
  ntrans x y z h1 h2 := by rw [ltN] at *; simp at *; omega
/-- What the sort makes of a row of nodes. -/
def srtN (l : List S36) : List S36 := (Go.Sort.pdq (ltOf cfN) l.toArray 0 l.length (Go.Lib.bitLen l.length) true true).toList
theorem srtN_ok (l : List S36) : Go.Sort.PermIn 0 l.length l.toArray (Go.Sort.pdq (ltOf cfN) l.toArray 0 l.length (Go.Lib.bitLen l.length) true true) ∧ Go.Sort.SortedIn (ltOf cfN) 0 l.length (Go.Sort.pdq (ltOf cfN) l.toArray 0 l.length (Go.Lib.bitLen l.length) true true) :=
  Go.Sort.pdq_sorts (ltOf cfN) swoN l.toArray 0 l.length _ true true (Nat.zero_le _) (by simp) (.inl rfl)
theorem srtN_len (l : List S36) : (srtN l).length = l.length := by
  have := (srtN_ok l).1.1
  simpa [srtN] using this
theorem srtN_perm (l : List S36) : (srtN l).Perm l := by
  have h := (srtN_ok l).1.2.2
  have e : ∀ a : Array S36, a.size = l.length → a.extract 0 l.length = a := fun a ha => by rw [← ha]; exact Array.extract_size
  rw [e _ ((srtN_ok l).1.1.trans (by simp)), e _ (by simp)] at h
  exact h
theorem srtN_sorted (l : List S36) : (srtN l).Pairwise fun x y => Cd x.f0 x.f1 ≤ Cd y.f0 y.f1 := by
  have hl := srtN_len l
  rw [List.pairwise_iff_getElem]
  intro i j hi hj hij
  have h := (srtN_ok l).2 i j (Nat.zero_le _) hij (by omega)
  rw [ltN, decide_eq_false_iff_not] at h
  have g : ∀ q (hq : q < (srtN l).length), (Go.Sort.pdq (ltOf cfN) l.toArray 0 l.length (Go.Lib.bitLen l.length) true true)[q]! = (srtN l)[q] := fun q hq => by
    rw [getElem!_pos _ q (by simpa [srtN] using hq)]
    exact Array.getElem_toList _
  rw [g i hi, g j hj] at h
  omega
theorem flat_encN (d : Array S36) : (Go.Sort.flatK enc36 2 d).toList = encN d.toList := by
  have hs := Go.Sort.size_flatK enc36 2 d
  refine encN_uniq _ _ (by simp) fun j p hj => ?_
  obtain ⟨s, D⟩ := List.getElem?_eq_some_iff.1 hj
  have hj1' : j < d.size := by simpa using s
  have e : d[j]! = p := by rw [getElem!_pos d j hj1', ← D]; simp
  have g : ∀ t, t < 2 → (Go.Sort.flatK enc36 2 d).toList[j * 2 + t]? = some (enc36 p)[t]! := fun t ht => by
    have h := Go.Sort.get_flatK enc36 2 d (j * 2 + t) (by omega)
    rw [show (j * 2 + t) / 2 = j by omega, show (j * 2 + t) % 2 = t by omega, e, getElem!_pos _ _ (by omega)] at h
    rw [List.getElem?_eq_getElem (by simp [hs]; omega), ← h]
    simp
  apply List.ext_getElem?
  intro t
  rw [List.getElem?_take]
  split
  · rename_i ht
    rw [List.getElem?_drop, g t ht]
    match t, ht with
    | 0, _ => rfl
    | 1, _ => rfl
  · rw [List.getElem?_eq_none (by show 2 ≤ t; omega)]
theorem put_app (F : Array Value) (A R : List Value) (h : A.length = F.size) : Go.Sort.putCells id 0 F (A ++ R).toArray = (F.toList ++ R).toArray := by
  apply Array.ext
  · simp [Go.Sort.putCells, h]
  · intro i h1 h2
    simp only [Go.Sort.putCells, Array.getElem_mapIdx, Nat.zero_le, true_and, Nat.zero_add, Nat.sub_zero, id]
    by_cases hi : i < F.size
    · rw [if_pos hi, getElem!_pos F i hi]
      simp [List.getElem_append_left, hi]
    · rw [if_neg hi]
      simp only [List.getElem_toArray]
      rw [List.getElem_append_right (by omega), List.getElem_append_right (by simp; omega)]
      simp [h]
def impl_Node_104.f (l0 : List (S36)) : Option (List (S36)) := if l0.length < 4611686018427387904 then some (srtN l0) else none
set_option maxHeartbeats 2000000 in
set_option maxRecDepth 100000 in
theorem impl_Node_104.calls (P0_ : Nat → Prop) (s : Value) (l0 : List (S36)) (G : List (S36)) (w0 w : World) (hB : Below w0.heap.size w0 w) (D : Kd.R k36 36 w w0.heap.size P0_ s l0) (h : impl_Node_104.f l0 = some G) :
  Calls Try.prog 104 #[s, .func (.func 105) #[] #[]] w fun e w' => e = .returned (.tuple #[]) ∧ Kd.R k36 36 w' w0.heap.size (fun k_ => (P0_ k_ ∨ w.heap.size ≤ k_)) s G ∧ Below w0.heap.size w0 w' ∧ Kept w w' (fun k_ => P0_ k_) := by
  unfold impl_Node_104.f at h
  by_cases hb : l0.length < 4611686018427387904
  · rw [if_pos hb] at h
    obtain rfl := Option.some.inj h
    by_cases hp : 0 < l0.length
    · obtain ⟨g, cap, rest, rfl, hok, hbg, hh, hcl, hnc, hcm⟩ := R_blk D hp
      have eg : ∀ args w, (callFunc 105 args).run Try.prog w = .ok (.enter 105 args) w := enters_of Try.func105 (by kernel_rfl) rfl
      have hfl := flat_encN l0.toArray
      have hH : Go.Sort.HoldsK enc36 2 w g 0 l0.toArray := by
        intro j hj
        rw [Nat.zero_add]
        refine ⟨?_, blk_frozen hh j⟩
        have hj' : j < (Go.Sort.flatK enc36 2 l0.toArray).size := hj
        refine (blk_cell hh j).trans ?_
        rw [getElem!_pos _ j hj', ← Array.getElem_toList]
        have I : j < (encN l0).length := by rw [show l0 = l0.toArray.toList from rfl, ← hfl]; simpa using hj'
        simp only [hfl]
        rw [List.getElem?_toArray, List.getElem?_append_left I, List.getElem?_eq_getElem I]
        rfl
      have hcon := AnyQ.slices_SortFunc_eq sortN_lay 2 Try.isAgg36 Try.sizeOf36 enc36 (fun _ => rfl) (fun x v hv => by simp [enc36] at hv; rcases hv with rfl | rfl <;> rfl) cfN swoN 105 #[] g 0 cap l0.toArray w eg (fun _ _ _ _ x y => nodeOrder_g x.f0 x.f1 y.f0 y.f1 _) hH (blk_lt hh) (by simpa using hb)
      change Calls Try.prog 104 _ _ _ at hcon
      refine hcon.mono ?_
      rintro e w' ⟨rfl, n, os, hw⟩
      have hd : (Go.Sort.pdq (ltOf cfN) l0.toArray 0 l0.length (Go.Lib.bitLen l0.length) true true).toList = srtN l0 := rfl
      rw [show l0.toArray.size = l0.length from rfl] at hw
      generalize Go.Sort.pdq (ltOf cfN) l0.toArray 0 l0.length (Go.Lib.bitLen l0.length) true true = d at hw hd
      have hdl : d.toList.length = l0.length := by rw [hd]; exact srtN_len l0
      have hds : (Go.Sort.flatK enc36 2 d).size = (encN l0).length := by rw [Go.Sort.size_flatK, encN_len, ← hdl]; simp
      have hheap : w'.heap = (w.heap.modify g (Go.Sort.onCells (Go.Sort.putCells id 0 (Go.Sort.flatK enc36 2 d)))) ++ os := by rw [hw]; rfl
      have hsz : w.heap.size ≤ w'.heap.size := by rw [hheap]; simp
      have hg : w'.heap[g]? = some (.cells (encN d.toList ++ rest).toArray 36 (0, 0)) := by
        rw [hheap, Array.getElem?_append_left (by simpa using blk_lt hh), Array.getElem?_modify, if_pos rfl, hh]
        show some (Obj.cells (Go.Sort.putCells id 0 _ _) 36 (0, 0)) = _
        rw [put_app _ _ _ hds.symm, flat_encN]
      have hoth : ∀ k, k < w.heap.size → k ≠ g → w'.heap[k]? = w.heap[k]? := fun k hk hne => by
        rw [hheap, Array.getElem?_append_left (by simpa using hk), Array.getElem?_modify, if_neg (Ne.symm hne)]
      refine ⟨rfl, ?_, ?_, hsz, fun i hi hni => hoth i hi (fun e => hni (e ▸ hok))⟩
      · have := blk_R (base := w0.heap.size) (ok := fun k_ => (P0_ k_ ∨ w.heap.size ≤ k_)) (cap := cap) (g := g) hg (by
          rw [List.length_append] at hcl ⊢
          rw [encN_len, hdl, ← encN_len]; exact hcl) (by omega) hcm (.inl hok) hbg
        rw [hd] at this
        rw [srtN_len] at this
        exact this
      · have h2 : Below w0.heap.size w w' := ⟨by rw [hw]; rfl, by rw [hw]; rfl, by rw [hw]; rfl, hsz, fun k hk => hoth k (Nat.lt_of_lt_of_le hk hB.size) (by omega)⟩
        exact hB.trans h2
    · have J : l0 = [] := List.length_eq_zero_iff.1 (by omega)
      subst J
      obtain ⟨A, c, e⟩ := Kd.R_slice D
      have hs : srtN [] = [] := List.length_eq_zero_iff.1 (srtN_len [])
      rw [hs]
      subst e
      have hcon := AnyF.slices_SortFunc_none sortN_lay A c (.func (.func 105) #[] #[]) w
      change Calls Try.prog 104 _ _ _ at hcon
      refine hcon.mono ?_
      rintro e w' ⟨rfl, rfl⟩
      exact ⟨rfl, Kd.R_mono D (fun k hk => .inl hk), hB, Kept.refl _ _⟩
  · rw [if_neg hb] at h; cases h

/-! ### impl_Node_106: function 106 -/
/-! clear(s[m:]) of a made row of nodes -/
theorem zeros_len (n : Nat) : (Builtin.zeroCells (Value.agg #[.int .i64 0, .int .i64 0]).cells n).toList.length = n * 2 := by
  simp [Builtin.zeroCells, Value.cells]
theorem zeros_one (n : Nat) : ∀ v ∈ (Builtin.zeroCells (Value.agg #[.int .i64 0, .int .i64 0]).cells n).toList, v.oneCell' = true := by
  intro v hv
  simp [Builtin.zeroCells, Value.cells] at hv
  obtain ⟨i, _, rfl⟩ := hv
  rcases Nat.mod_two_eq_zero_or_one i with h | h <;> simp [h, Value.oneCell']
theorem clear_N {w : World} {base g cap n n2 c2 m : Nat} {ok : Nat → Prop} {A : Option Addr} {xs : List S36} (h : Kd.R k36 36 w base ok (.slice (some ⟨g, 0, none⟩) n cap) xs) (hm : m ≤ xs.length)
    (hA : A = if cap = m then some ⟨g, 0, none⟩ else (some (⟨g, 0, none⟩ : Addr)).map (·.add (m * 2))) (hn : n2 = xs.length - m) :
    ∃ w', (∀ ty, (Builtin.clear_ #[29] ty #[.slice A n2 c2]).run Try.prog w = .ok (.tuple #[]) w') ∧ w.grownBy w' (some g) ∧ Kd.R k36 36 w' base ok (.slice (some ⟨g, 0, none⟩) m cap) (xs.take m) := by
  by_cases h0 : n2 = 0
  · subst h0
    refine ⟨w, fun ty => ?_, ⟨rfl, rfl, rfl, Nat.le_refl _, fun _ _ _ => rfl⟩, Kd.R_take h hm⟩
    cases A <;> simp [Builtin.clear_, run_underlying Try.underlying29]
  · have hp : 0 < xs.length := by omega
    obtain ⟨g', cap', rest, he, hok, hbg, hh, hcl, hnc, hcm⟩ := R_blk h hp
    injection he with ha hb hc
    injection ha with ha
    injection ha with ha
    subst ha hb hc
    rw [if_neg (by omega)] at hA
    have D : A = some ⟨g, m * 2, none⟩ := by rw [hA]; simp [Addr.add]; omega
    clear hA
    subst D
    obtain ⟨zs, hzs⟩ : ∃ zs, zs = (Builtin.zeroCells (Value.agg #[.int .i64 0, .int .i64 0]).cells n2).toList := ⟨_, rfl⟩
    have hzl : zs.length = n2 * 2 := by rw [hzs]; exact zeros_len n2
    have I : ∀ v ∈ zs, v.oneCell' = true := by rw [hzs]; exact zeros_one n2
    have hen := encN_len xs
    have hfit : m * 2 + zs.length ≤ (encN xs ++ rest).toArray.size := by simp only [List.size_toArray, List.length_append]; omega
    have hst := run_storeCells_cells (P := Try.prog) g (m * 2) zs 0 w (fun j hj => by rw [cell_of_row w g _ _ 36 (0, 0) hh]; simp only [Nat.add_zero]; rw [Array.getElem?_eq_getElem (by omega)]; rfl) (fun j _ => blk_frozen hh _) I
    simp only [Nat.add_zero] at hst
    obtain ⟨cur', J, c2', L⟩ := setCells_row zs (m * 2) w _ hh hfit
    obtain ⟨s1, s2, s3, s4⟩ := setCells_same g zs (m * 2) w
    have O : (encN xs ++ rest).take (m * 2) = encN (xs.take m) := by
      have hl : (encN (xs.take m)).length = m * 2 := by rw [encN_len, List.length_take]; omega
      have h2 : encN xs = encN (xs.take m) ++ encN (xs.drop m) := by rw [← encN_app, List.take_append_drop]
      rw [h2, List.append_assoc]
      exact List.take_left' hl
    refine ⟨w.setCells g (m * 2) zs, fun ty => ?_, ⟨s1, s2, s3, Nat.le_of_eq s4.symm, fun k _ hk => setCells_far zs (m * 2) k (fun e => hk (by rw [e]))⟩, ?_⟩
    · obtain ⟨q, rfl⟩ : ∃ q, n2 = q + 1 := ⟨n2 - 1, by omega⟩
      simp [Builtin.clear_, run_underlying Try.underlying29, Try.zeroValue36, ← hzs, hst]
    · have hl : (xs.take m).length = m := by rw [List.length_take]; omega
      have s : cur'.toList = encN (xs.take m) ++ (zs ++ (encN xs ++ rest).drop (m * 2 + zs.length)) := by
        rw [L, ← O, List.append_assoc]
      have hh' : (w.setCells g (m * 2) zs).heap[g]? = some (.cells (encN (xs.take m) ++ (zs ++ (encN xs ++ rest).drop (m * 2 + zs.length))).toArray 36 (0, 0)) := by
        rw [← s]; exact J
      have := blk_R (base := base) (ok := ok) (cap := cap) hh' (by rw [← s, Array.length_toList, c2']; simpa using hcl) (by omega) hcm hok hbg
      rw [hl] at this
      exact this
theorem rAt {w w' : World} {m base : Nat} {ok : Nat → Prop} {v : Value} {xs : List S36} (hq : w.drewN m = w') (h : Kd.R k36 36 w base ok v xs) : Kd.R k36 36 w' base ok v xs := by subst hq; exact Kd.R_drewN h m
theorem kAt {u w w' : World} {m : Nat} {S : Nat → Prop} (hq : w.drewN m = w') (h : Kept u w S) : Kept u w' S := by subst hq; exact Kept.drewN h m
theorem bAt {u w w' : World} {m B : Nat} (hq : w.drewN m = w') (h : Below B u w) : Below B u w' := by subst hq; exact pw_below_drewN h m
mutual
def impl_Node_106.l0 : Nat → List (S36) → Int → Option ((List (S36)))
 | 0, _, _ => none
 | k + 1, D, s => if s < (D.length : Int) then (if 0 ≤ s then (if 0 ≤ (wrap64 (s - 1)) then (if (wrap64 (s - 1)) < (D.length : Int) then (if (((rd_T36 D s).f0) == ((rd_T36 D (wrap64 (s - 1))).f0) && (((rd_T36 D s).f1) == ((rd_T36 D (wrap64 (s - 1))).f1))) = true then (if s ≤ (D.length : Int) then (impl_Node_106.l1 k D s s 1) else (none)) else (impl_Node_106.l0 k D (wrap64 (s + 1)))) else (none)) else (none)) else (none)) else (some D)
def impl_Node_106.l1 : Nat → List (S36) → Int → Int → Int → Option ((List (S36)))
 | 0, _, _, _, _ => none
 | k + 1, s, G, m, D => if D < ((s.drop m.toNat).length : Int) then (if 0 ≤ D then (if 0 ≤ (wrap64 (D - 1)) then (if (wrap64 (D - 1)) < ((s.drop m.toNat).length : Int) then (if (!(((rd_T36 (s.drop m.toNat) D).f0) == ((rd_T36 (s.drop m.toNat) (wrap64 (D - 1))).f0)) || (!(((rd_T36 (s.drop m.toNat) D).f1) == ((rd_T36 (s.drop m.toNat) (wrap64 (D - 1))).f1)))) = true then (if 0 ≤ G then (if G < (s.length : Int) then (impl_Node_106.l1 k (s.set (G : Int).toNat (⟨(rd_T36 (s.drop m.toNat) D).f0, (rd_T36 (s.drop m.toNat) D).f1⟩ : S36)) (wrap64 (G + 1)) m (wrap64 (D + 1))) else (none)) else (none)) else (impl_Node_106.l1 k s G m (wrap64 (D + 1)))) else (none)) else (none)) else (none)) else (if 0 ≤ G then (if G ≤ (s.length : Int) then (some (s.take (G : Int).toNat)) else (none)) else (none))
end
def impl_Node_106.f (k : Nat) (l0 : List (S36)) : Option ((List (S36))) := if (l0.length : Int) < 2 then (some l0) else (impl_Node_106.l0 k l0 1)
theorem impl_Node_106.calls (k : Nat) (P0_ : Nat → Prop) (a7 : Value) (l0 : List (S36)) (r : List (S36)) (w0 w : World) (hB : Below w0.heap.size w0 w) (b5 : Kd.R k36 36 w w0.heap.size P0_ a7 l0) (h : impl_Node_106.f k l0 = some r) :
  Calls Try.prog 106 #[a7] w fun e w' => ∃ bG : Value, e = .returned (bG) ∧ Kd.R k36 36 w' w0.heap.size (fun k_ => (P0_ k_ ∨ w.heap.size ≤ k_)) bG r ∧ Below w0.heap.size w0 w' ∧ Kept w w' (fun k_ => P0_ k_) := by
 have hu36 := Try.underlying36
 have aT := am (show Kd.R k36 36 w w0.heap.size (fun k_ => (P0_ k_ ∨ w.heap.size ≤ k_)) a7 l0 from Kd.R_mono b5 (fun k_ hk => (.inl hk)))
 have HK := am (Kept.refl w (fun k_ => P0_ k_))
 have cN := am hB.size
 have HB := am hB
 clear hB
 have H := h; unfold impl_Node_106.f at H
 clear h
 by_cases c2 : (l0.length : Int) < 2
 ·rw [if_pos c2] at H
  have a8 : decide ((l0.length : Int) < 2) = true := decide_eq_true c2
  have aU : decide (l0.length < 2) = true := decide_eq_true (by omega)
  clear c2
  obtain rfl := Option.some.inj H
  obtain ⟨cO, cP, b6⟩ := Kd.R_slice aT.out
  subst b6
  go_enter Try.func106, Try.ntmps106
  go_wp2
  repeat (go_quiet (fail); try go_wp2)
  go_ret
  exact ⟨_, eqr, by (with_reducible repeat (first | apply Kd.R_alloc | apply Kd.R_drewN | apply Kd.R_drew)); exact aT.out, bs HB.out, ts HK.out⟩
 ·rw [if_neg c2] at H
  have a8 : decide ((l0.length : Int) < 2) = false := decide_eq_false c2
  have aU : decide (l0.length < 2) = false := decide_eq_false (by omega)
  clear c2
  have H' := am H
  clear H
  have HLP := am (show 2 ≤ l0.length from by simp at aU; omega)
  obtain ⟨T, Y, b7, bH, b8, cQ, b9⟩ := Kd.R_form aT.out (by have := HLP.out; omega)
  subst b7
  have bI := am bH
  clear bH b8 b9
  go_enter Try.func106, Try.ntmps106
  go_wp2
  repeat (go_quiet (fail); try go_wp2)
  go_loopg [3] k (fun kq v3 w' => ∃ (D : List (S36)) (I : Int), v3 = .int .i64 I ∧ Aside0 (impl_Node_106.l0 kq D I = some r) ∧ Aside0 (kq ≤ k) ∧ Aside0 (Kd.R k36 36 w' w0.heap.size (fun k_ => (P0_ k_ ∨ w.heap.size ≤ k_)) (.slice (some ⟨T, 0, none⟩) l0.length Y) D) ∧ Aside0 (Kept w w' (fun k_ => P0_ k_)) ∧ Aside0 (Below w0.heap.size w0 w'))
  case atStart => exact ⟨(l0), (1), eqs, H', ⟨Nat.le_refl _⟩, ⟨rl aT.out⟩, ⟨ts HK.out⟩, ⟨bs HB.out⟩⟩
  case round =>
   clear H'
   try clear c1
   try clear c2
   try clear a8
   try clear aU
   try clear p2
   obtain ⟨D, I, rfl, HA, aB, J, HK, HB⟩ := hrel
   have hl0_1 := (Kd.R_reads' J.out).1
   rw [hl0_1] at J
   (try simp only [hl0_1])
   cases gk with
   | zero => exact absurd HA.out (by simp [impl_Node_106.l0])
   | succ k1 =>
    have H := HA.out
    clear HA
    simp only [impl_Node_106.l0] at H
    by_cases c5 : I < (D.length : Int)
    ·rw [if_pos c5] at H
     have bJ : decide (I < (D.length : Int)) = true := decide_eq_true c5
     clear c5
     by_cases c6 : 0 ≤ I
     ·rw [if_pos c6] at H
      have ce : decide (0 ≤ I) = true := decide_eq_true c6
      clear c6
      obtain ⟨X, a9⟩ : ∃ j_ : Int, (wrap64 (I - 1)) = j_ := ⟨_, rfl⟩
      replace H : (if 0 ≤ (X) then (if (X) < (D.length : Int) then (if (((rd_T36 D I).f0) == ((rd_T36 D (X)).f0) && (((rd_T36 D I).f1) == ((rd_T36 D (X)).f1))) = true then (if I ≤ (D.length : Int) then (impl_Node_106.l1 k1 D I I 1) else (none)) else (impl_Node_106.l0 k1 D (wrap64 (I + 1)))) else (none)) else (none)) = some r := by first | (rw [a9] at H; exact H) | (simp only [a9] at H ⊢; exact H)
      have cR : (IntKind.i64.wrap (I - 1)) = X := (i64_w _).trans a9
      by_cases c8 : 0 ≤ (X)
      ·rw [if_pos c8] at H
       have cf : decide (0 ≤ (X)) = true := decide_eq_true c8
       clear c8
       by_cases c9 : (X) < (D.length : Int)
       ·rw [if_pos c9] at H
        have cg : decide ((X) < (D.length : Int)) = true := decide_eq_true c9
        clear c9
        by_cases ae : (((rd_T36 D I).f0) == ((rd_T36 D (X)).f0) && (((rd_T36 D I).f1) == ((rd_T36 D (X)).f1))) = true
        ·rw [if_pos ae] at H
         have bK : (((rd_T36 D I).f0) == ((rd_T36 D (X)).f0) && (((rd_T36 D I).f1) == ((rd_T36 D (X)).f1))) = true := ae
         (try (have bL : decide (((rd_T36 D I).f0) = ((rd_T36 D (X)).f0) && (((rd_T36 D I).f1) == ((rd_T36 D (X)).f1))) = true := by simpa using ae))
         (try (have bM : (((rd_T36 D I).f0) == ((rd_T36 D (X)).f0) && (((rd_T36 D I).f1) == ((rd_T36 D (X)).f1))) = true := by simpa using ae))
         clear ae
         have ch := eq_true (oda : 0 ≤ I)
         by_cases aC : I ≤ (D.length : Int)
         ·rw [if_pos aC] at H
          have ci := eq_true aC
          have cj : decide (I ≤ (D.length : Int)) = true := decide_eq_true aC
          clear aC
          obtain ⟨ac, ba⟩ : ∃ y_ : List (S36), y_ = (D.drop (I : Int).toNat) := ⟨_, rfl⟩
          replace H : (impl_Node_106.l1 k1 D I I 1) = some r := by first | (rw [ba]; exact H) | exact H
          have bN := am ba
          clear ba
          have H' := am H
          clear H
          have aj : 0 ≤ (I : Int) := oda
          have ak : I < (D.length : Int) := oda
          obtain ⟨ck, bc, aG, aH⟩ := at_T36 (Kd.R_reads' J.out).2.2 I aj ak
          cases bc
          simp only [add_plain] at aG aH
          replace aj := eq_true aj
          replace ak := eq_true ak
          have al : 0 ≤ ((X) : Int) := oda
          have an : (X) < (D.length : Int) := oda
          obtain ⟨cl, be, aI, aJ⟩ := at_T36 (Kd.R_reads' J.out).2.2 (X) al an
          cases be
          simp only [add_plain] at aI aJ
          replace al := eq_true al
          replace an := eq_true an
          have aK : (I : Int) ≤ ((D.length : Int) : Int) := oda
          obtain ⟨cS, bO, _, bP, _⟩ := info_parts info36
          have bg : D.length ≤ Y := (Kd.R_reads' J.out).2.1
          have bQ : Kd.C k36 _ (some ⟨T, 0, none⟩) D.length D := (Kd.R_reads' J.out).2.2
          have bR : (0 : Int) ≤ (I : Int) := oda
          have cm := cut_from (P := Try.prog) 29 36 .i64 Try.underlying29 bO 2 bP (some ⟨T, 0, none⟩) D.length Y I bR aK
          have aL := Kd.C_drop (m := (I : Int).toNat) (c := Y) bQ (by omega) bg
          obtain ⟨bS, aV⟩ : ∃ A1, A1 = (if Y = (I : Int).toNat then (some ⟨T, 0, none⟩) else ((some ⟨T, 0, none⟩) : Option Addr).map (·.add ((I : Int).toNat * 2))) := ⟨_, rfl⟩
          obtain ⟨bT, bh⟩ : ∃ c1, c1 = Y - (I : Int).toNat := ⟨_, rfl⟩
          have aW : ac.length = D.length - (I : Int).toNat := (by rw [bN.out, List.length_drop] <;> omega)
          rw [show (D).drop (I : Int).toNat = ac from bN.out.symm] at aL
          replace aL : Kd.C k36 _ bS ac.length ac := (by rw [aV]; exact aL)
          rw [← aW, ← aV, ← bh] at cm
          have cT := am aL
          have cU := am (show ac.length ≤ bT from by rw [aW, bh]; exact Nat.sub_le_sub_right bg _)
          clear aL bQ bg bO bP bh
          have cn := am aW
          have co := am aV
          clear aW aV
          have cp := am (show (I : Int).toNat ≤ D.length from by omega)
          replace aK := eq_true aK
          go_wp2
          repeat (go_quiet (fail); try go_wp2)
          go_loopg [3, 5] k1 (fun kq v3 v5 w' => ∃ (O : List (S36)) (s : Int) (G : Int), v3 = .int .i64 s ∧ v5 = .int .i64 G ∧ Aside0 (impl_Node_106.l1 kq O s I G = some r) ∧ Aside0 (kq ≤ k1) ∧ Aside0 (Kd.R k36 36 w' w0.heap.size (fun k_ => (P0_ k_ ∨ w.heap.size ≤ k_)) (.slice (some ⟨T, 0, none⟩) D.length Y) O) ∧ Aside0 (Kept w w' (fun k_ => P0_ k_)) ∧ Aside0 (Below w0.heap.size w0 w'))
          case atStart => exact ⟨(D), (I), (1), eqs, eqs, H', ⟨Nat.le_refl _⟩, ⟨by (try simp only [hl0_1]); (with_reducible repeat (first | apply Kd.R_alloc | apply Kd.R_drewN | apply Kd.R_drew)); exact J.out⟩, ⟨ts HK.out⟩, ⟨bs HB.out⟩⟩
          case round =>
           clear H'
           try clear c1
           try clear q1
           try clear c2
           try clear a8
           try clear aU
           try clear p2
           try clear q2
           try clear cV
           try clear c5
           try clear bJ
           try clear c6
           try clear ce
           try clear p6
           try clear c8
           try clear cf
           try clear c9
           try clear cg
           try clear ae
           try clear bK
           try clear bL
           try clear bM
           try clear cW
           try clear ch
           try clear aC
           try clear ci
           try clear cj
           try clear bT
           try clear aK
           try clear aG
           try clear aH
           try clear aI
           try clear aJ
           try clear p2
           try clear aj
           try clear al
           try clear bR
           try clear aK
           try clear ak
           try clear an
           obtain ⟨O, s, G, rfl, rfl, HA, aX, J, HK, HB⟩ := hrel
           have hl0_2 := (Kd.R_reads' J.out).1
           rw [hl0_2] at J
           (try simp only [hl0_2])
           cases gk with
           | zero => exact absurd HA.out (by simp [impl_Node_106.l1])
           | succ k2 =>
            have H := HA.out
            clear HA
            simp only [impl_Node_106.l1] at H
            have hm1_ : (I : Int).toNat ≤ O.length := by have := cp.out; omega
            obtain ⟨L, aM⟩ : ∃ y_ : List (S36), y_ = (O.drop (I : Int).toNat) := ⟨_, rfl⟩
            have hyl : L.length = ac.length := by rw [cn.out, aM, List.length_drop, hl0_2]
            rw [← aM, hyl] at H
            have hrd := Kd.C_drop (m := (I : Int).toNat) (c := Y) (Kd.R_reads' J.out).2.2 hm1_ (Kd.R_reads' J.out).2.1
            rw [← aM, hyl] at hrd
            have aN := am (show Kd.C k36 wr bS ac.length L from by rw [co.out]; exact hrd)
            clear hrd hm1_ hyl
            have cX := am aM
            clear aM
            by_cases aD : G < (ac.length : Int)
            ·rw [if_pos aD] at H
             have ct : decide (G < (ac.length : Int)) = true := decide_eq_true aD
             clear aD
             by_cases aY : 0 ≤ G
             ·rw [if_pos aY] at H
              have cY : decide (0 ≤ G) = true := decide_eq_true aY
              clear aY
              obtain ⟨aa, bi⟩ : ∃ j_ : Int, (wrap64 (G - 1)) = j_ := ⟨_, rfl⟩
              replace H : (if 0 ≤ (aa) then (if (aa) < (ac.length : Int) then (if (!(((rd_T36 L G).f0) == ((rd_T36 L (aa)).f0)) || (!(((rd_T36 L G).f1) == ((rd_T36 L (aa)).f1)))) = true then (if 0 ≤ s then (if s < (O.length : Int) then (impl_Node_106.l1 k2 (O.set (s : Int).toNat (⟨(rd_T36 L G).f0, (rd_T36 L G).f1⟩ : S36)) (wrap64 (s + 1)) I (wrap64 (G + 1))) else (none)) else (none)) else (impl_Node_106.l1 k2 O s I (wrap64 (G + 1)))) else (none)) else (none)) = some r := by first | (rw [bi] at H; exact H) | (simp only [bi] at H ⊢; exact H)
              have cZ : (IntKind.i64.wrap (G - 1)) = aa := (i64_w _).trans bi
              by_cases aZ : 0 ≤ (aa)
              ·rw [if_pos aZ] at H
               have c7 : decide (0 ≤ (aa)) = true := decide_eq_true aZ
               clear aZ
               by_cases a1 : (aa) < (ac.length : Int)
               ·rw [if_pos a1] at H
                have da : decide ((aa) < (ac.length : Int)) = true := decide_eq_true a1
                clear a1
                by_cases aE : (!(((rd_T36 L G).f0) == ((rd_T36 L (aa)).f0)) || (!(((rd_T36 L G).f1) == ((rd_T36 L (aa)).f1)))) = true
                ·rw [if_pos aE] at H
                 have cu : (!(((rd_T36 L G).f0) == ((rd_T36 L (aa)).f0)) || (!(((rd_T36 L G).f1) == ((rd_T36 L (aa)).f1)))) = true := aE
                 clear aE
                 by_cases a2 : 0 ≤ s
                 ·rw [if_pos a2] at H
                  have db : decide (0 ≤ s) = true := decide_eq_true a2
                  clear a2
                  by_cases a3 : s < (O.length : Int)
                  ·rw [if_pos a3] at H
                   have dc : decide (s < (O.length : Int)) = true := decide_eq_true a3
                   clear a3
                   obtain ⟨aO, bj⟩ : ∃ y_ : List (S36), y_ = (O.set (s : Int).toNat (⟨(rd_T36 L G).f0, (rd_T36 L G).f1⟩ : S36)) := ⟨_, rfl⟩
                   replace H : (impl_Node_106.l1 k2 aO (wrap64 (s + 1)) I (wrap64 (G + 1))) = some r := by first | (rw [bj]; exact H) | exact H
                   have bk := am bj
                   clear bj
                   have H' := am H
                   clear H
                   have ar : 0 ≤ (G : Int) := oda
                   have au : G < (ac.length : Int) := oda
                   obtain ⟨a4, bl, cv, cy⟩ := at_T36 aN.out G ar au
                   cases bl
                   replace ar := eq_true ar
                   replace au := eq_true au
                   have av : 0 ≤ ((aa) : Int) := oda
                   have aw : (aa) < (ac.length : Int) := oda
                   obtain ⟨bm, bn, cz, cA⟩ := at_T36 aN.out (aa) av aw
                   obtain rfl : a4 = bm := (by injection bn)
                   replace av := eq_true av
                   replace aw := eq_true aw
                   have bo : 0 ≤ (G : Int) := oda
                   have br : G < (ac.length : Int) := oda
                   obtain ⟨cB, cC, dd, de⟩ := at_T36 aN.out G bo br
                   obtain rfl : a4 = cB := (by injection cC)
                   replace bo := eq_true bo
                   replace br := eq_true br
                   have bt : 0 ≤ (s : Int) := oda
                   have bu : (s : Int) < ((O.length : Int) : Int) := oda
                   have aF := bI
                   have HMgo22 := am (show (P0_ T ∨ w.heap.size ≤ T) from (J.out.1 _ rfl))
                   (first | simp only [add_plain] at aG | skip)
                   (first | simp only [add_plain] at aH | skip)
                   (first | simp only [add_plain] at aI | skip)
                   (first | simp only [add_plain] at aJ | skip)
                   obtain ⟨df, cD, bU, bv, bw⟩ := Kd.R_elem J.out z36 (s : Int) bt bu
                   obtain rfl := k36_openM bU
                   have dg : wr.cell? ⟨T, (s : Int).toNat * 2, none⟩ = some (.int .i64 ((rd_T36 O s).f0)) := bv 0 _ rfl
                   have dh : wr.cell? ⟨T, (s : Int).toNat * 2 + 1, none⟩ = some (.int .i64 ((rd_T36 O s).f1)) := bv 1 _ rfl
                   have di : wr.frozen? ⟨T, (s : Int).toNat * 2, none⟩ = false := bw 0
                   have dj : wr.frozen? ⟨T, (s : Int).toNat * 2 + 1, none⟩ = false := bw 1
                   clear cD bv bw bU
                   replace bt := eq_true bt
                   replace bu := eq_true bu
                   have HX23 := am (show Kd.R k36 36 wr w0.heap.size (fun k_ => (P0_ k_ ∨ w.heap.size ≤ k_)) (.slice (some ⟨T, 0, none⟩) O.length Y) O from (rl J.out))
                   obtain ⟨bz, ag, ah, ab, ad⟩ := Kd.R_elem HX23.out z36 (s : Int) (oda) (by have h_ : (s : Int) < ((O.length : Int) : Int) := oda; first | exact h_ | (have e_ := (Kd.R_reads' J.out).1; omega) | simpa using h_)
                   obtain rfl := k36_openM ah
                   have af := Kd.R_seg HX23.out (s : Int) (oda) (by have h_ : (s : Int) < ((O.length : Int) : Int) := oda; first | exact h_ | (have e_ := (Kd.R_reads' J.out).1; omega) | simpa using h_) (seg := [.int .i64 ((rd_T36 L G).f0), .int .i64 ((rd_T36 L G).f1)]) (j := 0) ag ab (show 2 ≤ 2 from by decide) (x' := (⟨(rd_T36 L G).f0, (rd_T36 L G).f1⟩ : S36)) (k36_mkM _ _ _ (⟨(rd_T36 L G).f0, (rd_T36 L G).f1⟩ : S36) ) (fun _ hk => hk)
                   have ax := ab 0 _ rfl
                   (try simp only [show (k36).sz = 2 from rfl, Nat.mul_one, Nat.add_zero] at ax)
                   have ay := ad 0
                   (try simp only [show (k36).sz = 2 from rfl, Nat.mul_one, Nat.add_zero] at ay)
                   have az := ab 1 _ rfl
                   (try simp only [show (k36).sz = 2 from rfl, Nat.mul_one, Nat.add_zero] at az)
                   have aA := ad 1
                   (try simp only [show (k36).sz = 2 from rfl, Nat.mul_one, Nat.add_zero] at aA)
                   clear ag ab ad ah
                   go_wp2_with (first | ((with_reducible refine gate_store (t := 36) (p := 51) rfl ?_); (try (rw [drewN_self wr]; generalize hq_ : World.drewN wr _ = wr; have ao := am (rAt hq_ J.out); have ap := am (kAt hq_ HK.out); have aq := am (bAt hq_ HB.out); clear hq_ J HK HB; have J := ao; have HK := ap; have HB := aq; clear ao ap aq; (try (have HX23 := am (show Kd.R k36 36 wr w0.heap.size (fun k_ => (P0_ k_ ∨ w.heap.size ≤ k_)) (.slice (some ⟨T, 0, none⟩) O.length Y) O from (rl J.out)))); (try (obtain ⟨bz, ag, ah, ab, ad⟩ := Kd.R_elem HX23.out z36 (s : Int) (oda) (by have h_ : (s : Int) < ((O.length : Int) : Int) := oda; first | exact h_ | (have e_ := (Kd.R_reads' J.out).1; omega) | simpa using h_))); (try (obtain rfl := k36_openM ah)); (try (have af := Kd.R_seg HX23.out (s : Int) (oda) (by have h_ : (s : Int) < ((O.length : Int) : Int) := oda; first | exact h_ | (have e_ := (Kd.R_reads' J.out).1; omega) | simpa using h_) (seg := [.int .i64 ((rd_T36 L G).f0), .int .i64 ((rd_T36 L G).f1)]) (j := 0) ag ab (show 2 ≤ 2 from by decide) (x' := (⟨(rd_T36 L G).f0, (rd_T36 L G).f1⟩ : S36)) (k36_mkM _ _ _ (⟨(rd_T36 L G).f0, (rd_T36 L G).f1⟩ : S36) ) (fun _ hk => hk))); (try (have ax := ab 0 _ rfl)); (try (try simp only [show (k36).sz = 2 from rfl, Nat.mul_one, Nat.add_zero] at ax)); (try (have ay := ad 0)); (try (try simp only [show (k36).sz = 2 from rfl, Nat.mul_one, Nat.add_zero] at ay)); (try (have az := ab 1 _ rfl)); (try (try simp only [show (k36).sz = 2 from rfl, Nat.mul_one, Nat.add_zero] at az)); (try (have aA := ad 1)); (try (try simp only [show (k36).sz = 2 from rfl, Nat.mul_one, Nat.add_zero] at aA)); (try (clear ag ab ad ah)))); refine store_event (t := 36) (p := 51) (v := ?vo_w24) (w1 := ((wr.setCell ⟨T, (s : Int).toNat * 2, none⟩ (.int .i64 ((rd_T36 L G).f0))).setCell ⟨T, (s : Int).toNat * 2 + 1, none⟩ (.int .i64 ((rd_T36 L G).f1)))) ?hg ?ho ?hn ?hr ?_; (case ho => rfl); (case hg => rfl); (case hn => rfl); (case hr => first | (go_simp; done) | (go_simp; rfl)); intro ai hw; have hg : wr.grownBy ai (some T) := (by rw [hw]; exact af.2); have hp_ : Kd.R k36 36 ai w0.heap.size (fun k_ => (P0_ k_ ∨ w.heap.size ≤ k_)) (.slice (some ⟨T, 0, none⟩) O.length Y) aO := (by rw [hw, bk.out]; exact af.1); clear af; replace HB := am ((by rw [hw]; exact below_set (below_set (HB.out) aF.out) aF.out : Below w0.heap.size w0 ai)); replace HK := am (Kept.of_grown (S := (fun k_ => P0_ k_)) hg (ts HK.out) (fun k_ e_ => (J.out.1 k_ e_))); replace J := am hp_; clear hg hw hp_))
                   repeat (go_quiet (first | ((with_reducible refine gate_store (t := 36) (p := 51) rfl ?_); (try (rw [drewN_self wr]; generalize hq_ : World.drewN wr _ = wr; have ao := am (rAt hq_ J.out); have ap := am (kAt hq_ HK.out); have aq := am (bAt hq_ HB.out); clear hq_ J HK HB; have J := ao; have HK := ap; have HB := aq; clear ao ap aq; (try (have HX23 := am (show Kd.R k36 36 wr w0.heap.size (fun k_ => (P0_ k_ ∨ w.heap.size ≤ k_)) (.slice (some ⟨T, 0, none⟩) O.length Y) O from (rl J.out)))); (try (obtain ⟨bz, ag, ah, ab, ad⟩ := Kd.R_elem HX23.out z36 (s : Int) (oda) (by have h_ : (s : Int) < ((O.length : Int) : Int) := oda; first | exact h_ | (have e_ := (Kd.R_reads' J.out).1; omega) | simpa using h_))); (try (obtain rfl := k36_openM ah)); (try (have af := Kd.R_seg HX23.out (s : Int) (oda) (by have h_ : (s : Int) < ((O.length : Int) : Int) := oda; first | exact h_ | (have e_ := (Kd.R_reads' J.out).1; omega) | simpa using h_) (seg := [.int .i64 ((rd_T36 L G).f0), .int .i64 ((rd_T36 L G).f1)]) (j := 0) ag ab (show 2 ≤ 2 from by decide) (x' := (⟨(rd_T36 L G).f0, (rd_T36 L G).f1⟩ : S36)) (k36_mkM _ _ _ (⟨(rd_T36 L G).f0, (rd_T36 L G).f1⟩ : S36) ) (fun _ hk => hk))); (try (have ax := ab 0 _ rfl)); (try (try simp only [show (k36).sz = 2 from rfl, Nat.mul_one, Nat.add_zero] at ax)); (try (have ay := ad 0)); (try (try simp only [show (k36).sz = 2 from rfl, Nat.mul_one, Nat.add_zero] at ay)); (try (have az := ab 1 _ rfl)); (try (try simp only [show (k36).sz = 2 from rfl, Nat.mul_one, Nat.add_zero] at az)); (try (have aA := ad 1)); (try (try simp only [show (k36).sz = 2 from rfl, Nat.mul_one, Nat.add_zero] at aA)); (try (clear ag ab ad ah)))); refine store_event (t := 36) (p := 51) (v := ?vo_w24) (w1 := ((wr.setCell ⟨T, (s : Int).toNat * 2, none⟩ (.int .i64 ((rd_T36 L G).f0))).setCell ⟨T, (s : Int).toNat * 2 + 1, none⟩ (.int .i64 ((rd_T36 L G).f1)))) ?hg ?ho ?hn ?hr ?_; (case ho => rfl); (case hg => rfl); (case hn => rfl); (case hr => first | (go_simp; done) | (go_simp; rfl)); intro ai hw; have hg : wr.grownBy ai (some T) := (by rw [hw]; exact af.2); have hp_ : Kd.R k36 36 ai w0.heap.size (fun k_ => (P0_ k_ ∨ w.heap.size ≤ k_)) (.slice (some ⟨T, 0, none⟩) O.length Y) aO := (by rw [hw, bk.out]; exact af.1); clear af; replace HB := am ((by rw [hw]; exact below_set (below_set (HB.out) aF.out) aF.out : Below w0.heap.size w0 ai)); replace HK := am (Kept.of_grown (S := (fun k_ => P0_ k_)) hg (ts HK.out) (fun k_ e_ => (J.out.1 k_ e_))); replace J := am hp_; clear hg hw hp_)); try go_wp2_with (first | ((with_reducible refine gate_store (t := 36) (p := 51) rfl ?_); (try (rw [drewN_self wr]; generalize hq_ : World.drewN wr _ = wr; have ao := am (rAt hq_ J.out); have ap := am (kAt hq_ HK.out); have aq := am (bAt hq_ HB.out); clear hq_ J HK HB; have J := ao; have HK := ap; have HB := aq; clear ao ap aq; (try (have HX23 := am (show Kd.R k36 36 wr w0.heap.size (fun k_ => (P0_ k_ ∨ w.heap.size ≤ k_)) (.slice (some ⟨T, 0, none⟩) O.length Y) O from (rl J.out)))); (try (obtain ⟨bz, ag, ah, ab, ad⟩ := Kd.R_elem HX23.out z36 (s : Int) (oda) (by have h_ : (s : Int) < ((O.length : Int) : Int) := oda; first | exact h_ | (have e_ := (Kd.R_reads' J.out).1; omega) | simpa using h_))); (try (obtain rfl := k36_openM ah)); (try (have af := Kd.R_seg HX23.out (s : Int) (oda) (by have h_ : (s : Int) < ((O.length : Int) : Int) := oda; first | exact h_ | (have e_ := (Kd.R_reads' J.out).1; omega) | simpa using h_) (seg := [.int .i64 ((rd_T36 L G).f0), .int .i64 ((rd_T36 L G).f1)]) (j := 0) ag ab (show 2 ≤ 2 from by decide) (x' := (⟨(rd_T36 L G).f0, (rd_T36 L G).f1⟩ : S36)) (k36_mkM _ _ _ (⟨(rd_T36 L G).f0, (rd_T36 L G).f1⟩ : S36) ) (fun _ hk => hk))); (try (have ax := ab 0 _ rfl)); (try (try simp only [show (k36).sz = 2 from rfl, Nat.mul_one, Nat.add_zero] at ax)); (try (have ay := ad 0)); (try (try simp only [show (k36).sz = 2 from rfl, Nat.mul_one, Nat.add_zero] at ay)); (try (have az := ab 1 _ rfl)); (try (try simp only [show (k36).sz = 2 from rfl, Nat.mul_one, Nat.add_zero] at az)); (try (have aA := ad 1)); (try (try simp only [show (k36).sz = 2 from rfl, Nat.mul_one, Nat.add_zero] at aA)); (try (clear ag ab ad ah)))); refine store_event (t := 36) (p := 51) (v := ?vo_w24) (w1 := ((wr.setCell ⟨T, (s : Int).toNat * 2, none⟩ (.int .i64 ((rd_T36 L G).f0))).setCell ⟨T, (s : Int).toNat * 2 + 1, none⟩ (.int .i64 ((rd_T36 L G).f1)))) ?hg ?ho ?hn ?hr ?_; (case ho => rfl); (case hg => rfl); (case hn => rfl); (case hr => first | (go_simp; done) | (go_simp; rfl)); intro ai hw; have hg : wr.grownBy ai (some T) := (by rw [hw]; exact af.2); have hp_ : Kd.R k36 36 ai w0.heap.size (fun k_ => (P0_ k_ ∨ w.heap.size ≤ k_)) (.slice (some ⟨T, 0, none⟩) O.length Y) aO := (by rw [hw, bk.out]; exact af.1); clear af; replace HB := am ((by rw [hw]; exact below_set (below_set (HB.out) aF.out) aF.out : Below w0.heap.size w0 ai)); replace HK := am (Kept.of_grown (S := (fun k_ => P0_ k_)) hg (ts HK.out) (fun k_ e_ => (J.out.1 k_ e_))); replace J := am hp_; clear hg hw hp_)))
                   (try simp only [← hl0_2])
                   go_roundg k2
                   case measure => have := aB.out; have := aX.out; omega
                   case rel => exact ⟨(aO), (wrap64 (s + 1)), (wrap64 (G + 1)), eqs, eqs, H', ⟨by have := aB.out; have := aX.out; omega⟩, ⟨by (try simp only [hl0_1]); (try simp only [hl0_2]); (with_reducible repeat (first | apply Kd.R_alloc | apply Kd.R_drewN | apply Kd.R_drew)); exact J.out⟩, ⟨ts HK.out⟩, ⟨bs HB.out⟩⟩
                  ·rw [if_neg a3] at H
                   exact absurd H (by simp)
                 ·rw [if_neg a2] at H
                  exact absurd H (by simp)
                ·rw [if_neg aE] at H
                 have cu : (!(((rd_T36 L G).f0) == ((rd_T36 L (aa)).f0)) || (!(((rd_T36 L G).f1) == ((rd_T36 L (aa)).f1)))) = false := by simpa using aE
                 clear aE
                 have H' := am H
                 clear H
                 have ar : 0 ≤ (G : Int) := oda
                 have au : G < (ac.length : Int) := oda
                 obtain ⟨a4, bl, cv, cy⟩ := at_T36 aN.out G ar au
                 cases bl
                 replace ar := eq_true ar
                 replace au := eq_true au
                 have av : 0 ≤ ((aa) : Int) := oda
                 have aw : (aa) < (ac.length : Int) := oda
                 obtain ⟨bm, bn, cz, cA⟩ := at_T36 aN.out (aa) av aw
                 obtain rfl : a4 = bm := (by injection bn)
                 replace av := eq_true av
                 replace aw := eq_true aw
                 go_wp2
                 repeat (go_quiet (fail); try go_wp2)
                 (try simp only [← hl0_2])
                 go_roundg k2
                 case measure => have := aB.out; have := aX.out; omega
                 case rel => exact ⟨(O), (s), (wrap64 (G + 1)), eqs, eqs, H', ⟨by have := aB.out; have := aX.out; omega⟩, ⟨by (try simp only [hl0_1]); (try simp only [hl0_2]); (with_reducible repeat (first | apply Kd.R_alloc | apply Kd.R_drewN | apply Kd.R_drew)); exact J.out⟩, ⟨ts HK.out⟩, ⟨bs HB.out⟩⟩
               ·rw [if_neg a1] at H
                exact absurd H (by simp)
              ·rw [if_neg aZ] at H
               exact absurd H (by simp)
             ·rw [if_neg aY] at H
              exact absurd H (by simp)
            ·rw [if_neg aD] at H
             have ct : decide (G < (ac.length : Int)) = false := decide_eq_false aD
             clear aD
             by_cases aP : 0 ≤ s
             ·rw [if_pos aP] at H
              have dk := eq_true aP
              have dl : decide (0 ≤ s) = true := decide_eq_true aP
              clear aP
              by_cases aQ : s ≤ (O.length : Int)
              ·rw [if_pos aQ] at H
               have dm := eq_true aQ
               have dp : decide (s ≤ (O.length : Int)) = true := decide_eq_true aQ
               clear aQ
               obtain ⟨aR, bA⟩ : ∃ y_ : List (S36), y_ = (O.drop (s : Int).toNat) := ⟨_, rfl⟩
               replace H : (some (O.take (s : Int).toNat)) = some r := by first | (rw [bA]; exact H) | exact H
               have bV := am bA
               clear bA
               have dq := eq_true (oda : s ≤ (O.length : Int))
               obtain ⟨bW, bB⟩ : ∃ y_ : List (S36), y_ = (O.take (s : Int).toNat) := ⟨_, rfl⟩
               replace H : (some bW) = some r := by first | (rw [bB]; exact H) | exact H
               have bX := am bB
               clear bB
               obtain rfl := Option.some.inj H
               have bC : (s : Int) ≤ ((O.length : Int) : Int) := oda
               obtain ⟨dr, bY, _, bZ, _⟩ := info_parts info36
               have bD : O.length ≤ Y := (Kd.R_reads' J.out).2.1
               have b0 : Kd.C k36 _ (some ⟨T, 0, none⟩) O.length O := (Kd.R_reads' J.out).2.2
               have cE : (0 : Int) ≤ (s : Int) := oda
               have cF := cut_from (P := Try.prog) 29 36 .i64 Try.underlying29 bY 2 bZ (some ⟨T, 0, none⟩) O.length Y s cE bC
               have aS := Kd.C_drop (m := (s : Int).toNat) (c := Y) b0 (by omega) bD
               obtain ⟨cG, a5⟩ : ∃ A1, A1 = (if Y = (s : Int).toNat then (some ⟨T, 0, none⟩) else ((some ⟨T, 0, none⟩) : Option Addr).map (·.add ((s : Int).toNat * 2))) := ⟨_, rfl⟩
               obtain ⟨b1, bE⟩ : ∃ c1, c1 = Y - (s : Int).toNat := ⟨_, rfl⟩
               have a6 : aR.length = O.length - (s : Int).toNat := (by rw [bV.out, List.length_drop] <;> omega)
               rw [show (O).drop (s : Int).toNat = aR from bV.out.symm] at aS
               replace aS : Kd.C k36 _ cG aR.length aR := (by rw [a5]; exact aS)
               rw [← a6, ← a5, ← bE] at cF
               have dt := am aS
               have du := am (show aR.length ≤ b1 from by rw [a6, bE]; exact Nat.sub_le_sub_right bD _)
               clear aS b0 bD bY bZ bE
               have cH := am a6
               have cI := am a5
               clear a6 a5
               have b2 := am (show (s : Int).toNat ≤ O.length from by omega)
               replace bC := eq_true bC
               have bF : (s : Int) ≤ ((O.length : Int) : Int) := oda
               obtain ⟨w9, hclr, hg9, hR9⟩ := clear_N (c2 := b1) J.out b2.out cI.out cH.out
               have HB9 := am (show Below w0.heap.size w0 w9 from HB.out.trans ⟨hg9.os, hg9.tape, hg9.output, hg9.size, fun k_ hk_ => hg9.block k_ (Nat.lt_of_lt_of_le hk_ HB.out.size) (fun e_ => by injection e_ with e_; have := bI.out; omega)⟩)
               have cJ := am (Kept.of_grown (S := (fun k_ => P0_ k_)) hg9 (ts HK.out) (fun k_ e_ => (J.out.1 k_ e_)))
               obtain ⟨dv, b3, _, cK, _⟩ := info_parts info36
               have cL := cut_to (P := Try.prog) 29 36 .i64 Try.underlying29 b3 (some ⟨T, 0, none⟩) O.length Y s (oda) bF (Kd.R_reads' J.out).2.1
               have b4 : bW.length = (s : Int).toNat := (by rw [bX.out, List.length_take]; have := b2.out; omega)
               rw [← bX.out] at hR9
               rw [← b4] at hR9 cL
               clear b4 b3 cK J hg9
               have cM := am hR9
               clear hR9
               replace bF := eq_true bF
               go_wp2
               repeat (go_quiet (fail); try go_wp2)
               go_ret
               exact ⟨_, eqr, cM.out, HB9.out, cJ.out⟩
              ·rw [if_neg aQ] at H
               exact absurd H (by simp)
             ·rw [if_neg aP] at H
              exact absurd H (by simp)
         ·rw [if_neg aC] at H
          exact absurd H (by simp)
        ·rw [if_neg ae] at H
         have bK : (((rd_T36 D I).f0) == ((rd_T36 D (X)).f0) && (((rd_T36 D I).f1) == ((rd_T36 D (X)).f1))) = false := by simpa using ae
         (try (have bL : decide (((rd_T36 D I).f0) = ((rd_T36 D (X)).f0) && (((rd_T36 D I).f1) == ((rd_T36 D (X)).f1))) = false := by simpa using ae))
         (try (have bM : (((rd_T36 D I).f0) == ((rd_T36 D (X)).f0) && (((rd_T36 D I).f1) == ((rd_T36 D (X)).f1))) = false := by simpa using ae))
         (try (have dw : ¬ (((rd_T36 D I).f0) = ((rd_T36 D (X)).f0) && (((rd_T36 D I).f1) == ((rd_T36 D (X)).f1))) := by simpa using ae))
         clear ae
         have H' := am H
         clear H
         have aj : 0 ≤ (I : Int) := oda
         have ak : I < (D.length : Int) := oda
         obtain ⟨ck, bc, aG, aH⟩ := at_T36 (Kd.R_reads' J.out).2.2 I aj ak
         cases bc
         simp only [add_plain] at aG aH
         replace aj := eq_true aj
         replace ak := eq_true ak
         have al : 0 ≤ ((X) : Int) := oda
         have an : (X) < (D.length : Int) := oda
         obtain ⟨cl, be, aI, aJ⟩ := at_T36 (Kd.R_reads' J.out).2.2 (X) al an
         cases be
         simp only [add_plain] at aI aJ
         replace al := eq_true al
         replace an := eq_true an
         go_wp2
         repeat (go_quiet (fail); try go_wp2)
         (try simp only [← hl0_1])
         go_roundg k1
         case measure => have := aB.out; omega
         case rel => exact ⟨(D), (wrap64 (I + 1)), eqs, H', ⟨by have := aB.out; omega⟩, ⟨by (try simp only [hl0_1]); (with_reducible repeat (first | apply Kd.R_alloc | apply Kd.R_drewN | apply Kd.R_drew)); exact J.out⟩, ⟨ts HK.out⟩, ⟨bs HB.out⟩⟩
       ·rw [if_neg c9] at H
        exact absurd H (by simp)
      ·rw [if_neg c8] at H
       exact absurd H (by simp)
     ·rw [if_neg c6] at H
      exact absurd H (by simp)
    ·rw [if_neg c5] at H
     have bJ : decide (I < (D.length : Int)) = false := decide_eq_false c5
     clear c5
     obtain rfl := Option.some.inj H
     go_wp2
     repeat (go_quiet (fail); try go_wp2)
     go_ret
     exact ⟨_, eqr, by (with_reducible repeat (first | apply Kd.R_alloc | apply Kd.R_drewN | apply Kd.R_drew)); exact J.out, bs HB.out, ts HK.out⟩


end Go.Proofs.Ytohmemckdogljaa.QFnExactWalkPath
