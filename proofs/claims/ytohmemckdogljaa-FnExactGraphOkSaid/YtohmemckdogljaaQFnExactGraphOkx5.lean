/- Contracts of the Go functions that this law reaches: each does what its plain Lean function says. No condition. -/
import Derived.Test.YtohmemckdogljaaQFnExactGraphOkx0
import Derived.Test.YtohmemckdogljaaQFnExactGraphOkx3
import Derived.Test.YtohmemckdogljaaQFnExactGraphOkx4
namespace Go.Proofs.Ytohmemckdogljaa.QFnExactGraphOk
open Go.RowKit Go.Proofs.YtohmemckdogljaaW.PrintWords Go.Proofs.YtohmemckdogljaaW.PrintLast Go.Proofs.YtohmemckdogljaaW.PrintMore Go.Proofs.Ytohmemckdogljaa.Bl
attribute [local go_sem] max2_int min2_int max_two min_two max_three min_three max_four min_four   -- for this text's walks alone
set_option linter.unusedVariables false
set_option linter.unusedSimpArgs false

/-! ### spec_GraphOk: function 33 -/
mutual
def spec_GraphOk.l0 : Nat → Int → List (S36) → List (S56) → Option (Bool)
  | 0, _, _, _ => none
  | k + 1, x3, x176000, x176001 => if x3 < (x176000.length : Int) then (if 0 ≤ x3 then ((spec_NodeOk.f ((rd_T36 x176000 x3).f0) ((rd_T36 x176000 x3).f1)).bind fun t177 => (if t177 = true then (if x3 > 0 then (if 0 ≤ (wrap64 (x3 - 1)) then (if (wrap64 (x3 - 1)) < (x176000.length : Int) then ((spec_l2Code.f ((rd_T36 x176000 (wrap64 (x3 - 1))).f0) ((rd_T36 x176000 (wrap64 (x3 - 1))).f1)).bind fun t179 => ((spec_l2Code.f ((rd_T36 x176000 x3).f0) ((rd_T36 x176000 x3).f1)).bind fun t181 => (if t179 ≥ t181 then (some false) else (if x3 ≥ 40 then (some false) else (spec_GraphOk.l0 k (wrap64 (x3 + 1)) x176000 x176001))))) else (none)) else (none)) else (if x3 ≥ 40 then (some false) else (spec_GraphOk.l0 k (wrap64 (x3 + 1)) x176000 x176001))) else (some false))) else (none)) else (spec_GraphOk.l1 k 0 x176000 x176001)
def spec_GraphOk.l1 : Nat → Int → List (S36) → List (S56) → Option (Bool)
  | 0, _, _, _ => none
  | k + 1, x4, x176000, x176001 => if x4 < (x176001.length : Int) then (if 0 ≤ x4 then ((spec_EdgeOk.f ((rd_T56 x176001 x4).f0) ((rd_T56 x176001 x4).f1.f0) ((rd_T56 x176001 x4).f1.f1) ((rd_T56 x176001 x4).f2.f0) ((rd_T56 x176001 x4).f2.f1)).bind fun t184 => (if t184 = true then (if x4 > 0 then (if 0 ≤ (wrap64 (x4 - 1)) then (if (wrap64 (x4 - 1)) < (x176001.length : Int) then ((spec_l2Less.f ((rd_T56 x176001 (wrap64 (x4 - 1))).f0) ((rd_T56 x176001 (wrap64 (x4 - 1))).f1.f0) ((rd_T56 x176001 (wrap64 (x4 - 1))).f1.f1) ((rd_T56 x176001 (wrap64 (x4 - 1))).f2.f0) ((rd_T56 x176001 (wrap64 (x4 - 1))).f2.f1) ((rd_T56 x176001 x4).f0) ((rd_T56 x176001 x4).f1.f0) ((rd_T56 x176001 x4).f1.f1) ((rd_T56 x176001 x4).f2.f0) ((rd_T56 x176001 x4).f2.f1)).bind fun t186 => (if t186 = true then ((spec_l2At.f k x176000 x176001 ((rd_T56 x176001 x4).f1.f0) ((rd_T56 x176001 x4).f1.f1)).bind fun t187 => (if t187 < 0 then (some false) else ((spec_l2At.f k x176000 x176001 ((rd_T56 x176001 x4).f2.f0) ((rd_T56 x176001 x4).f2.f1)).bind fun t188 => (if t188 < 0 then (some false) else (if x4 ≥ 56 then (some false) else (spec_GraphOk.l1 k (wrap64 (x4 + 1)) x176000 x176001)))))) else (some false))) else (none)) else (none)) else ((spec_l2At.f k x176000 x176001 ((rd_T56 x176001 x4).f1.f0) ((rd_T56 x176001 x4).f1.f1)).bind fun t189 => (if t189 < 0 then (some false) else ((spec_l2At.f k x176000 x176001 ((rd_T56 x176001 x4).f2.f0) ((rd_T56 x176001 x4).f2.f1)).bind fun t190 => (if t190 < 0 then (some false) else (if x4 ≥ 56 then (some false) else (spec_GraphOk.l1 k (wrap64 (x4 + 1)) x176000 x176001))))))) else (some false))) else (none)) else (spec_GraphOk.l2 k 0 x176000 x176001)
def spec_GraphOk.l2 : Nat → Int → List (S36) → List (S56) → Option (Bool)
  | 0, _, _, _ => none
  | k + 1, x6, x176000, x176001 => if x6 ≤ 7 then ((spec_l2Nodes.f k x176000 x176001 x6).bind fun t191 => (if t191 > 5 then (some false) else ((spec_l2Edges.f k x176000 x176001 x6).bind fun t192 => (if t192 > 7 then (some false) else (spec_GraphOk.l2 k (wrap64 (x6 + 1)) x176000 x176001))))) else (some true)
end
def spec_GraphOk.f (k : Nat) (l0_0 : List (S36)) (l0_1 : List (S56)) : Option (Bool) := spec_GraphOk.l0 k 0 l0_0 l0_1
theorem spec_GraphOk.mono_l : ∀ k, (∀ y0 y1 y2, LeO (spec_GraphOk.l0 k y0 y1 y2) (spec_GraphOk.l0 (k + 1) y0 y1 y2)) ∧ (∀ y0 y1 y2, LeO (spec_GraphOk.l1 k y0 y1 y2) (spec_GraphOk.l1 (k + 1) y0 y1 y2)) ∧ (∀ y0 y1 y2, LeO (spec_GraphOk.l2 k y0 y1 y2) (spec_GraphOk.l2 (k + 1) y0 y1 y2))
  | 0 => ⟨fun _ _ _ r h => by simp [spec_GraphOk.l0] at h, fun _ _ _ r h => by simp [spec_GraphOk.l1] at h, fun _ _ _ r h => by simp [spec_GraphOk.l2] at h⟩
  | k + 1 => by
    obtain ⟨ih0, ih1, ih2⟩ := spec_GraphOk.mono_l k
    refine ⟨?_, ?_, ?_⟩
    · intro y0 y1 y2
      unfold spec_GraphOk.l0
      repeat' first
      | (with_reducible exact ih0 _ _ _)
      | (with_reducible exact ih1 _ _ _)
      | (with_reducible exact ih2 _ _ _)
      | (with_reducible exact spec_l2At.mono _ _ _ _ _)
      | (with_reducible exact spec_l2Edges.mono _ _ _ _)
      | (with_reducible exact spec_l2Nodes.mono _ _ _ _)
      | (with_reducible exact LeO.refl _)
      | (with_reducible exact LeO.none _)
      | (with_reducible refine LeO.ite ?_ ?_)
      | (with_reducible refine LeO.bind ?_ (fun _ => ?_))
      | exact ih0 _ _ _
      | exact ih1 _ _ _
      | exact ih2 _ _ _
      | exact spec_l2At.mono _ _ _ _ _
      | exact spec_l2Edges.mono _ _ _ _
      | exact spec_l2Nodes.mono _ _ _ _
      | exact LeO.none _
      | refine LeO.ite ?_ ?_
      | refine LeO.bind ?_ (fun _ => ?_)
    · intro y0 y1 y2
      unfold spec_GraphOk.l1
      repeat' first
      | (with_reducible exact ih0 _ _ _)
      | (with_reducible exact ih1 _ _ _)
      | (with_reducible exact ih2 _ _ _)
      | (with_reducible exact spec_l2At.mono _ _ _ _ _)
      | (with_reducible exact spec_l2Edges.mono _ _ _ _)
      | (with_reducible exact spec_l2Nodes.mono _ _ _ _)
      | (with_reducible exact LeO.refl _)
      | (with_reducible exact LeO.none _)
      | (with_reducible refine LeO.ite ?_ ?_)
      | (with_reducible refine LeO.bind ?_ (fun _ => ?_))
      | exact ih0 _ _ _
      | exact ih1 _ _ _
      | exact ih2 _ _ _
      | exact spec_l2At.mono _ _ _ _ _
      | exact spec_l2Edges.mono _ _ _ _
      | exact spec_l2Nodes.mono _ _ _ _
      | exact LeO.none _
      | refine LeO.ite ?_ ?_
      | refine LeO.bind ?_ (fun _ => ?_)
    · intro y0 y1 y2
      unfold spec_GraphOk.l2
      repeat' first
      | (with_reducible exact ih0 _ _ _)
      | (with_reducible exact ih1 _ _ _)
      | (with_reducible exact ih2 _ _ _)
      | (with_reducible exact spec_l2At.mono _ _ _ _ _)
      | (with_reducible exact spec_l2Edges.mono _ _ _ _)
      | (with_reducible exact spec_l2Nodes.mono _ _ _ _)
      | (with_reducible exact LeO.refl _)
      | (with_reducible exact LeO.none _)
      | (with_reducible refine LeO.ite ?_ ?_)
      | (with_reducible refine LeO.bind ?_ (fun _ => ?_))
      | exact ih0 _ _ _
      | exact ih1 _ _ _
      | exact ih2 _ _ _
      | exact spec_l2At.mono _ _ _ _ _
      | exact spec_l2Edges.mono _ _ _ _
      | exact spec_l2Nodes.mono _ _ _ _
      | exact LeO.none _
      | refine LeO.ite ?_ ?_
      | refine LeO.bind ?_ (fun _ => ?_)
theorem spec_GraphOk.mono : ∀ a0 a1 k, LeO (spec_GraphOk.f k a0 a1) (spec_GraphOk.f (k + 1) a0 a1) := by
  intro a0 a1 k
  obtain ⟨ih0, ih1, ih2⟩ := spec_GraphOk.mono_l k
  unfold spec_GraphOk.f
  repeat' first
      | (with_reducible exact ih0 _ _ _)
      | (with_reducible exact ih1 _ _ _)
      | (with_reducible exact ih2 _ _ _)
      | (with_reducible exact spec_l2At.mono _ _ _ _ _)
      | (with_reducible exact spec_l2Edges.mono _ _ _ _)
      | (with_reducible exact spec_l2Nodes.mono _ _ _ _)
      | (with_reducible exact LeO.refl _)
      | (with_reducible exact LeO.none _)
      | (with_reducible refine LeO.ite ?_ ?_)
      | (with_reducible refine LeO.bind ?_ (fun _ => ?_))
      | exact ih0 _ _ _
      | exact ih1 _ _ _
      | exact ih2 _ _ _
      | exact spec_l2At.mono _ _ _ _ _
      | exact spec_l2Edges.mono _ _ _ _
      | exact spec_l2Nodes.mono _ _ _ _
      | exact LeO.none _
      | refine LeO.ite ?_ ?_
      | refine LeO.bind ?_ (fun _ => ?_)
def spec_GraphOk.T4 : Bool × List (List Nat × List Nat) := (true, [([], []), ([0], [0]), ([], []), ([1, 2], [1, 2]), ([3], [3]), ([4], [4]), ([5], [5]), ([6, 5], [6]), ([7], [7]), ([8, 7], [7, 8]), ([9, 7, 7], [7, 9]), ([10], [10]), ([11, 10], [10, 11]), ([10], [10]), ([13, 10], [10, 13]), ([12, 14, 10], [10, 12, 14]), ([15, 10], [10, 15]), ([16, 10, 10], [10, 16]), ([10], [10]), ([18, 10], [10, 18]), ([10], [10]), ([19, 20, 10], [10, 19, 20]), ([21, 10], [10, 21]), ([22, 17, 10], [10, 22]), ([17, 23, 10], [10, 17, 23]), ([10, 24, 7], [7, 10, 24]), ([7, 25], [7, 25]), ([26, 23], [26]), ([27], [27]), ([28, 27], [27, 28]), ([27, 29], [27, 29])])
def spec_GraphOk.B4 : List Nat := [0, 1, 0, 7, 15, 31, 63, 127, 255, 511, 1023, 2047, 4095, 2047, 10239, 32767, 65535, 131071, 2047, 264191, 2047, 1837055, 3934207, 8388607, 16777215, 33554431, 67108863, 134217727, 268435455, 536870911, 1073741823]
theorem spec_GraphOk.tab4 : rtab .any (opsOf Try.f33 4) = spec_GraphOk.T4 := by kernel_rfl
theorem spec_GraphOk.bits4 : waitsOk spec_GraphOk.T4.2 spec_GraphOk.B4 = true := by kernel_rfl
def spec_GraphOk.T10 : Bool × List (List Nat × List Nat) := (true, [([], []), ([0], [0]), ([1], [1]), ([2, 1], [2]), ([3], [3]), ([4, 3], [3, 4]), ([5, 3, 3], [3, 5]), ([6], [6]), ([7, 6], [6, 7]), ([6], [6]), ([9, 6], [6, 9]), ([8, 10, 6], [6, 8, 10]), ([11, 6], [6, 11]), ([6], [6]), ([12, 13, 6, 6], [6, 12, 13]), ([14, 6], [6, 14]), ([6, 15, 3], [3, 6, 15]), ([3, 16], [3, 16]), ([17, 14], [17]), ([18], [18]), ([18], [18]), ([20, 18], [18, 20]), ([19, 21, 18, 18], [18, 19, 21]), ([22, 18], [18, 22]), ([18, 23], [18, 23]), ([24, 22], [24]), ([25], [25]), ([25], [25]), ([27, 25], [25, 27]), ([26, 28, 25, 25], [25, 26, 28]), ([29, 25], [25, 29]), ([25, 30], [25, 30]), ([31, 29], [31]), ([32], [32]), ([33, 32], [32, 33]), ([32, 34], [32, 34])])
def spec_GraphOk.B10 : List Nat := [0, 1, 3, 7, 15, 31, 63, 127, 255, 127, 639, 2047, 4095, 127, 16383, 32767, 65535, 131071, 262143, 524287, 524287, 1572863, 4194303, 8388607, 16777215, 33554431, 67108863, 67108863, 201326591, 536870911, 1073741823, 2147483647, 4294967295, 8589934591, 17179869183, 34359738367]
theorem spec_GraphOk.tab10 : rtab .any (opsOf Try.f33 10) = spec_GraphOk.T10 := by kernel_rfl
theorem spec_GraphOk.bits10 : waitsOk spec_GraphOk.T10.2 spec_GraphOk.B10 = true := by kernel_rfl
set_option maxHeartbeats 8000000 in
set_option maxRecDepth 100000 in
theorem spec_GraphOk.calls (k : Nat) (A0_0 : Option Addr) (c0_0 : Nat) (l0_0 : List (S36)) (A0_1 : Option Addr) (c0_1 : Nat) (l0_1 : List (S56)) (r : Bool) (w : World) (hr0_0 : Kd.C k36 w A0_0 l0_0.length l0_0) (hc0_0 : l0_0.length ≤ c0_0) (hr0_1 : Kd.C k56 w A0_1 l0_1.length l0_1) (hc0_1 : l0_1.length ≤ c0_1) (h : spec_GraphOk.f k l0_0 l0_1 = some r) :
    Calls Try.prog 33 #[.agg #[.slice A0_0 l0_0.length c0_0, .slice A0_1 l0_1.length c0_1]] w fun e w' => e = .returned (.bool r) ∧ Below w.heap.size w w' := by
  have hu34 := Try.underlying34
  have hu36 := Try.underlying36
  have hu56 := Try.underlying56
  have HR0_0 := Aside0.mk hr0_0
  have HC0_0 := Aside0.mk hc0_0
  clear hr0_0 hc0_0
  have HR0_1 := Aside0.mk hr0_1
  have HC0_1 := Aside0.mk hc0_1
  clear hr0_1 hc0_1
  have HB := Aside0.mk (Below.refl w.heap.size w)
  have H : (spec_GraphOk.l0 k 0 l0_0 l0_1) = some r := h
  clear h
  have H' := Aside0.mk H
  clear H
  go_enter Try.func33, Try.ntmps33
  go_wp2_with (first | ((with_reducible refine gate_dst (N := 1) rfl ?_); refine box_event ?hg (N := 1) ?hd (cs := #[.slice A0_0 l0_0.length c0_0, .slice A0_1 l0_1.length c0_1]) (t := 34) ?hr ?_; (case hd => rfl); (case hg => rfl); (case hr => first | (go_simp; done) | (go_simp; rfl)); intro gb175 hg w2 hbox hb; have n0_ := Aside0.mk (below_step (by repeat (first | (with_reducible first | exact HB.out | apply below_alloc | apply pw_below_drewN | apply below_drew1) | exact HB.out)) hb); have n1_ := Aside0.mk (hbox); have n2_ := Aside0.mk ((by rw [hg]; exact (below_size (by repeat (first | (with_reducible first | exact HB.out | apply below_alloc | apply pw_below_drewN | apply below_drew1) | exact HB.out))) : w.heap.size ≤ gb175)); have n3_ := Aside0.mk ((by rw [hg]; exact (below_size (by repeat (first | (with_reducible first | exact HB.out | apply below_alloc | apply pw_below_drewN | apply below_drew1) | exact HB.out))) : w.heap.size ≤ gb175)); clear HB; have HB := n0_; have BK175 := n1_; have GW175 := n2_; have GE175 := n3_; clear n0_ n1_ n2_ n3_; clear hb hbox hg))
  go_loopg [3] k (fun kq v3 w' => ∃ (x3_1 : Int), v3 = .int .i64 x3_1 ∧ Aside0 (spec_GraphOk.l0 kq x3_1 l0_0 l0_1 = some r) ∧ Aside0 (kq ≤ k) ∧ Aside0 (w'.heap[gb175]? = some (.cells #[(.slice A0_0 l0_0.length c0_0), (.slice A0_1 l0_1.length c0_1)] 34 (0, 0))) ∧ Aside0 (Below w.heap.size w w'))
  case atStart => exact ⟨(0), (by first | rfl | (simp; done) | (simp [*]; done)), H', ⟨Nat.le_refl _⟩, ⟨by (with_reducible repeat (first | refine blk_drewN ?_ _ | refine blk_drew ?_ | refine blk_alloc ?_ _)); exact BK175.out⟩, ⟨by repeat (first | (with_reducible first | exact HB.out | apply below_alloc | apply pw_below_drewN | apply below_drew1 | refine below_set ?_ GE175.out) | exact HB.out)⟩⟩
  case round =>
    clear H'
    try clear p2
    obtain ⟨x3_1, rfl, HA, HK1, BK175, HB⟩ := hrel
    cases gk with
    | zero => exact absurd HA.out (by simp [spec_GraphOk.l0])
    | succ k1 =>
      have H := HA.out
      clear HA
      simp only [spec_GraphOk.l0] at H
      by_cases c3 : x3_1 < (l0_0.length : Int)
      · rw [if_pos c3] at H
        have c3b0 : decide (x3_1 < (l0_0.length : Int)) = true := decide_eq_true c3
        clear c3
        by_cases c4 : 0 ≤ x3_1
        · rw [if_pos c4] at H
          have c4b0 : decide (0 ≤ x3_1) = true := decide_eq_true c4
          clear c4
          replace H := Option.bind_eq_some_iff.mp H
          obtain ⟨t177, A50, H⟩ := H
          replace H : (if t177 = true then (if x3_1 > 0 then (if 0 ≤ (wrap64 (x3_1 - 1)) then (if (wrap64 (x3_1 - 1)) < (l0_0.length : Int) then ((spec_l2Code.f ((rd_T36 l0_0 (wrap64 (x3_1 - 1))).f0) ((rd_T36 l0_0 (wrap64 (x3_1 - 1))).f1)).bind fun t179 => ((spec_l2Code.f ((rd_T36 l0_0 x3_1).f0) ((rd_T36 l0_0 x3_1).f1)).bind fun t181 => (if t179 ≥ t181 then (some false) else (if x3_1 ≥ 40 then (some false) else (spec_GraphOk.l0 k1 (wrap64 (x3_1 + 1)) l0_0 l0_1))))) else (none)) else (none)) else (if x3_1 ≥ 40 then (some false) else (spec_GraphOk.l0 k1 (wrap64 (x3_1 + 1)) l0_0 l0_1))) else (some false)) = some r := H
          have A5 := Aside0.mk A50
          clear A50
          by_cases c6 : t177 = true
          · subst c6
            have H1 : (if x3_1 > 0 then (if 0 ≤ (wrap64 (x3_1 - 1)) then (if (wrap64 (x3_1 - 1)) < (l0_0.length : Int) then ((spec_l2Code.f ((rd_T36 l0_0 (wrap64 (x3_1 - 1))).f0) ((rd_T36 l0_0 (wrap64 (x3_1 - 1))).f1)).bind fun t179 => ((spec_l2Code.f ((rd_T36 l0_0 x3_1).f0) ((rd_T36 l0_0 x3_1).f1)).bind fun t181 => (if t179 ≥ t181 then (some false) else (if x3_1 ≥ 40 then (some false) else (spec_GraphOk.l0 k1 (wrap64 (x3_1 + 1)) l0_0 l0_1))))) else (none)) else (none)) else (if x3_1 ≥ 40 then (some false) else (spec_GraphOk.l0 k1 (wrap64 (x3_1 + 1)) l0_0 l0_1))) = some r := by rw [if_pos rfl] at H; exact H
            clear H
            have H := H1
            clear H1
            by_cases c7 : x3_1 > 0
            · rw [if_pos c7] at H
              have c7b0 : decide (0 < x3_1) = true := decide_eq_true c7
              clear c7
              obtain ⟨ji8, hji8⟩ : ∃ j_ : Int, (wrap64 (x3_1 - 1)) = j_ := ⟨_, rfl⟩
              replace H : (if 0 ≤ (ji8) then (if (ji8) < (l0_0.length : Int) then ((spec_l2Code.f ((rd_T36 l0_0 (ji8)).f0) ((rd_T36 l0_0 (ji8)).f1)).bind fun t179 => ((spec_l2Code.f ((rd_T36 l0_0 x3_1).f0) ((rd_T36 l0_0 x3_1).f1)).bind fun t181 => (if t179 ≥ t181 then (some false) else (if x3_1 ≥ 40 then (some false) else (spec_GraphOk.l0 k1 (wrap64 (x3_1 + 1)) l0_0 l0_1))))) else (none)) else (none)) = some r := by first | (rw [hji8] at H; exact H) | (simp only [hji8] at H ⊢; exact H)
              (try rw [hji8] at A5)
              have hji8w : (IntKind.i64.wrap (x3_1 - 1)) = ji8 := (i64_w _).trans hji8
              by_cases c9 : 0 ≤ (ji8)
              · rw [if_pos c9] at H
                have c9b0 : decide (0 ≤ (ji8)) = true := decide_eq_true c9
                clear c9
                by_cases c10 : (ji8) < (l0_0.length : Int)
                · rw [if_pos c10] at H
                  have c10b0 : decide ((ji8) < (l0_0.length : Int)) = true := decide_eq_true c10
                  clear c10
                  replace H := Option.bind_eq_some_iff.mp H
                  obtain ⟨t179, A110, H⟩ := H
                  replace H : ((spec_l2Code.f ((rd_T36 l0_0 x3_1).f0) ((rd_T36 l0_0 x3_1).f1)).bind fun t181 => (if t179 ≥ t181 then (some false) else (if x3_1 ≥ 40 then (some false) else (spec_GraphOk.l0 k1 (wrap64 (x3_1 + 1)) l0_0 l0_1)))) = some r := H
                  have A11 := Aside0.mk A110
                  clear A110
                  replace H := Option.bind_eq_some_iff.mp H
                  obtain ⟨t181, A120, H⟩ := H
                  replace H : (if t179 ≥ t181 then (some false) else (if x3_1 ≥ 40 then (some false) else (spec_GraphOk.l0 k1 (wrap64 (x3_1 + 1)) l0_0 l0_1))) = some r := H
                  have A12 := Aside0.mk A120
                  clear A120
                  by_cases c13 : t179 ≥ t181
                  · rw [if_pos c13] at H
                    have c13b0 : decide (t181 ≤ t179) = true := decide_eq_true c13
                    clear c13
                    obtain rfl := Option.some.inj H
                    have hcz14_0 : wr.cell? ⟨gb175, 0, none⟩ = some (.slice A0_0 l0_0.length c0_0) := (blk_cell BK175.out 0).trans rfl
                    have hcz14_1 : wr.cell? ⟨gb175, 1, none⟩ = some (.slice A0_1 l0_1.length c0_1) := (blk_cell BK175.out 1).trans rfl
                    have hfz14_0 := blk_frozen BK175.out 0
                    have hfz14_1 := blk_frozen BK175.out 1
                    try go_wp2
                    have n0_ := Aside0.mk (blk_drew BK175.out)
                    have n1_ := Aside0.mk (below_drew1 HB.out)
                    clear BK175
                    clear HB
                    have BK175 := n0_
                    have HB := n1_
                    clear n0_ n1_
                    have p176 : 0 ≤ (x3_1 : Int) := of_decide_eq_true (by first | (with_reducible assumption) | assumption)
                    have q176 : x3_1 < (l0_0.length : Int) := of_decide_eq_true (by first | (with_reducible assumption) | assumption)
                    obtain ⟨ad176, e176, hx176_0, hx176_1⟩ := at_T36 HR0_0.out x3_1 p176 q176
                    have hw176_1 := hx176_1
                    have hw176_0 := hx176_0
                    cases e176
                    replace hx176_0 := (HB.out.cell (World.block_lt_of_cell? w _ hx176_0)).trans hx176_0
                    replace hx176_1 := (HB.out.cell (World.block_lt_of_cell? w _ hx176_1)).trans hx176_1
                    replace p176 := eq_true p176
                    replace q176 := eq_true q176
                    have p178 : 0 ≤ ((ji8) : Int) := of_decide_eq_true (by first | (with_reducible assumption) | assumption)
                    have q178 : (ji8) < (l0_0.length : Int) := of_decide_eq_true (by first | (with_reducible assumption) | assumption)
                    obtain ⟨ad178, e178, hx178_0, hx178_1⟩ := at_T36 HR0_0.out (ji8) p178 q178
                    have hw178_1 := hx178_1
                    have hw178_0 := hx178_0
                    obtain rfl : ad176 = ad178 := (by injection e178)
                    replace hx178_0 := (HB.out.cell (World.block_lt_of_cell? w _ hx178_0)).trans hx178_0
                    replace hx178_1 := (HB.out.cell (World.block_lt_of_cell? w _ hx178_1)).trans hx178_1
                    replace p178 := eq_true p178
                    replace q178 := eq_true q178
                    have p180 : 0 ≤ (x3_1 : Int) := of_decide_eq_true (by first | (with_reducible assumption) | assumption)
                    have q180 : x3_1 < (l0_0.length : Int) := of_decide_eq_true (by first | (with_reducible assumption) | assumption)
                    obtain ⟨ad180, e180, hx180_0, hx180_1⟩ := at_T36 HR0_0.out x3_1 p180 q180
                    have hw180_1 := hx180_1
                    have hw180_0 := hx180_0
                    obtain rfl : ad176 = ad180 := (by injection e180)
                    replace hx180_0 := (HB.out.cell (World.block_lt_of_cell? w _ hx180_0)).trans hx180_0
                    replace hx180_1 := (HB.out.cell (World.block_lt_of_cell? w _ hx180_1)).trans hx180_1
                    replace p180 := eq_true p180
                    replace q180 := eq_true q180
                    refine wp_region_bel (by kernel_rfl) (by kernel_rfl) ?_
                    generalize wr.drew = w15 at BK175 HB hx176_0 hx176_1 hx178_0 hx178_1 hx180_0 hx180_1 ⊢
                    have hbp_ := fun (p_ : Bel w15) => below_step HB.out p_.h
                    have hz0_ : ∀ p_ : Bel w15, p_.v.cell? ⟨gb175, 0, none⟩ = some (.slice (some ad176) l0_0.length c0_0) := fun p_ => cell_bel ((blk_cell BK175.out 0).trans rfl) p_
                    have hz1_ : ∀ p_ : Bel w15, p_.v.cell? ⟨gb175, 1, none⟩ = some (.slice A0_1 l0_1.length c0_1) := fun p_ => cell_bel ((blk_cell BK175.out 1).trans rfl) p_
                    have hz2_ : ∀ p_ : Bel w15, p_.v.cell? (ad176.add ((x3_1).toNat * 2)) = some (.int .i64 ((rd_T36 l0_0 x3_1).f0)) := fun p_ => cell_bel (((HB.out.cell (World.block_lt_of_cell? w _ hw176_0)).trans hw176_0)) p_
                    have hz3_ : ∀ p_ : Bel w15, p_.v.cell? ⟨(ad176.add ((x3_1).toNat * 2)).block, (ad176.add ((x3_1).toNat * 2)).off + 1, none⟩ = some (.int .i64 ((rd_T36 l0_0 x3_1).f1)) := fun p_ => cell_bel (((HB.out.cell (World.block_lt_of_cell? w _ hw176_1)).trans hw176_1)) p_
                    have hz4_ : ∀ p_ : Bel w15, p_.v.cell? (ad176.add (((ji8)).toNat * 2)) = some (.int .i64 ((rd_T36 l0_0 (ji8)).f0)) := fun p_ => cell_bel (((HB.out.cell (World.block_lt_of_cell? w _ hw178_0)).trans hw178_0)) p_
                    have hz5_ : ∀ p_ : Bel w15, p_.v.cell? ⟨(ad176.add (((ji8)).toNat * 2)).block, (ad176.add (((ji8)).toNat * 2)).off + 1, none⟩ = some (.int .i64 ((rd_T36 l0_0 (ji8)).f1)) := fun p_ => cell_bel (((HB.out.cell (World.block_lt_of_cell? w _ hw178_1)).trans hw178_1)) p_
                    repeat (go_big_quiet_step (first
                      | (with_reducible show Calls Try.prog 75 #[.agg #[.int .i64 ((rd_T36 l0_0 x3_1).f0), .int .i64 ((rd_T36 l0_0 x3_1).f1)]] _ _; with_reducible exact calls_bel (spec_NodeOk.calls ((rd_T36 l0_0 x3_1).f0) ((rd_T36 l0_0 x3_1).f1) true _ A5.out))
                      | (with_reducible show Calls Try.prog 76 #[.agg #[.int .i64 ((rd_T36 l0_0 (ji8)).f0), .int .i64 ((rd_T36 l0_0 (ji8)).f1)]] _ _; with_reducible exact calls_bel (spec_l2Code.calls ((rd_T36 l0_0 (ji8)).f0) ((rd_T36 l0_0 (ji8)).f1) t179 _ A11.out))
                      | (with_reducible show Calls Try.prog 76 #[.agg #[.int .i64 ((rd_T36 l0_0 x3_1).f0), .int .i64 ((rd_T36 l0_0 x3_1).f1)]] _ _; with_reducible exact calls_bel (spec_l2Code.calls ((rd_T36 l0_0 x3_1).f0) ((rd_T36 l0_0 x3_1).f1) t181 _ A12.out))))
                    refine wpQuiet_nil ?_
                    intro w18 hw'
                    obtain ⟨⟨wq_, hb⟩, hw''⟩ := hw'
                    subst hw''
                    clear hbp_ hz0_ hz1_ hz2_ hz3_ hz4_ hz5_
                    have n0_ := Aside0.mk (blk_below (g := gb175) (o := .cells #[.slice (some ad176) l0_0.length c0_0, .slice A0_1 l0_1.length c0_1] 34 (0, 0)) (by (with_reducible repeat (first | refine blk_drewN ?_ _ | refine blk_drew ?_ | refine blk_alloc ?_ _)); exact BK175.out) hb)
                    have n1_ := Aside0.mk (below_step (by repeat (first | (with_reducible first | exact HB.out | apply below_alloc | apply pw_below_drewN | apply below_drew1 | refine below_set ?_ GE175.out) | exact HB.out)) hb)
                    clear BK175
                    clear HB
                    have BK175 := n0_
                    have HB := n1_
                    clear n0_ n1_
                    (try clear hb)
                    (try clear hb2)
                    (try clear hk)
                    (try clear hi)
                    try go_wp2
                    go_ret
                    exact ⟨by first | rfl | (simp [errW_none, errW_some] <;> rfl) | (simp only [← hji8]; first | rfl | (simp [errW_none, errW_some] <;> rfl)) | (simp [*, errW_none, errW_some] <;> rfl), by repeat (first | (with_reducible first | exact HB.out | apply below_alloc | apply pw_below_drewN | apply below_drew1 | refine below_set ?_ GE175.out) | exact HB.out)⟩
                  · rw [if_neg c13] at H
                    have c13b0 : decide (t181 ≤ t179) = false := decide_eq_false c13
                    clear c13
                    by_cases c19 : x3_1 ≥ 40
                    · rw [if_pos c19] at H
                      have c19b0 : decide (40 ≤ x3_1) = true := decide_eq_true c19
                      clear c19
                      obtain rfl := Option.some.inj H
                      have hcz20_0 : wr.cell? ⟨gb175, 0, none⟩ = some (.slice A0_0 l0_0.length c0_0) := (blk_cell BK175.out 0).trans rfl
                      have hcz20_1 : wr.cell? ⟨gb175, 1, none⟩ = some (.slice A0_1 l0_1.length c0_1) := (blk_cell BK175.out 1).trans rfl
                      have hfz20_0 := blk_frozen BK175.out 0
                      have hfz20_1 := blk_frozen BK175.out 1
                      try go_wp2
                      have n0_ := Aside0.mk (blk_drew BK175.out)
                      have n1_ := Aside0.mk (below_drew1 HB.out)
                      clear BK175
                      clear HB
                      have BK175 := n0_
                      have HB := n1_
                      clear n0_ n1_
                      have p176 : 0 ≤ (x3_1 : Int) := of_decide_eq_true (by first | (with_reducible assumption) | assumption)
                      have q176 : x3_1 < (l0_0.length : Int) := of_decide_eq_true (by first | (with_reducible assumption) | assumption)
                      obtain ⟨ad176, e176, hx176_0, hx176_1⟩ := at_T36 HR0_0.out x3_1 p176 q176
                      have hw176_1 := hx176_1
                      have hw176_0 := hx176_0
                      cases e176
                      replace hx176_0 := (HB.out.cell (World.block_lt_of_cell? w _ hx176_0)).trans hx176_0
                      replace hx176_1 := (HB.out.cell (World.block_lt_of_cell? w _ hx176_1)).trans hx176_1
                      replace p176 := eq_true p176
                      replace q176 := eq_true q176
                      have p178 : 0 ≤ ((ji8) : Int) := of_decide_eq_true (by first | (with_reducible assumption) | assumption)
                      have q178 : (ji8) < (l0_0.length : Int) := of_decide_eq_true (by first | (with_reducible assumption) | assumption)
                      obtain ⟨ad178, e178, hx178_0, hx178_1⟩ := at_T36 HR0_0.out (ji8) p178 q178
                      have hw178_1 := hx178_1
                      have hw178_0 := hx178_0
                      obtain rfl : ad176 = ad178 := (by injection e178)
                      replace hx178_0 := (HB.out.cell (World.block_lt_of_cell? w _ hx178_0)).trans hx178_0
                      replace hx178_1 := (HB.out.cell (World.block_lt_of_cell? w _ hx178_1)).trans hx178_1
                      replace p178 := eq_true p178
                      replace q178 := eq_true q178
                      have p180 : 0 ≤ (x3_1 : Int) := of_decide_eq_true (by first | (with_reducible assumption) | assumption)
                      have q180 : x3_1 < (l0_0.length : Int) := of_decide_eq_true (by first | (with_reducible assumption) | assumption)
                      obtain ⟨ad180, e180, hx180_0, hx180_1⟩ := at_T36 HR0_0.out x3_1 p180 q180
                      have hw180_1 := hx180_1
                      have hw180_0 := hx180_0
                      obtain rfl : ad176 = ad180 := (by injection e180)
                      replace hx180_0 := (HB.out.cell (World.block_lt_of_cell? w _ hx180_0)).trans hx180_0
                      replace hx180_1 := (HB.out.cell (World.block_lt_of_cell? w _ hx180_1)).trans hx180_1
                      replace p180 := eq_true p180
                      replace q180 := eq_true q180
                      refine wp_region_bel (by kernel_rfl) (by kernel_rfl) ?_
                      generalize wr.drew = w21 at BK175 HB hx176_0 hx176_1 hx178_0 hx178_1 hx180_0 hx180_1 ⊢
                      have hbp_ := fun (p_ : Bel w21) => below_step HB.out p_.h
                      have hz0_ : ∀ p_ : Bel w21, p_.v.cell? ⟨gb175, 0, none⟩ = some (.slice (some ad176) l0_0.length c0_0) := fun p_ => cell_bel ((blk_cell BK175.out 0).trans rfl) p_
                      have hz1_ : ∀ p_ : Bel w21, p_.v.cell? ⟨gb175, 1, none⟩ = some (.slice A0_1 l0_1.length c0_1) := fun p_ => cell_bel ((blk_cell BK175.out 1).trans rfl) p_
                      have hz2_ : ∀ p_ : Bel w21, p_.v.cell? (ad176.add ((x3_1).toNat * 2)) = some (.int .i64 ((rd_T36 l0_0 x3_1).f0)) := fun p_ => cell_bel (((HB.out.cell (World.block_lt_of_cell? w _ hw176_0)).trans hw176_0)) p_
                      have hz3_ : ∀ p_ : Bel w21, p_.v.cell? ⟨(ad176.add ((x3_1).toNat * 2)).block, (ad176.add ((x3_1).toNat * 2)).off + 1, none⟩ = some (.int .i64 ((rd_T36 l0_0 x3_1).f1)) := fun p_ => cell_bel (((HB.out.cell (World.block_lt_of_cell? w _ hw176_1)).trans hw176_1)) p_
                      have hz4_ : ∀ p_ : Bel w21, p_.v.cell? (ad176.add (((ji8)).toNat * 2)) = some (.int .i64 ((rd_T36 l0_0 (ji8)).f0)) := fun p_ => cell_bel (((HB.out.cell (World.block_lt_of_cell? w _ hw178_0)).trans hw178_0)) p_
                      have hz5_ : ∀ p_ : Bel w21, p_.v.cell? ⟨(ad176.add (((ji8)).toNat * 2)).block, (ad176.add (((ji8)).toNat * 2)).off + 1, none⟩ = some (.int .i64 ((rd_T36 l0_0 (ji8)).f1)) := fun p_ => cell_bel (((HB.out.cell (World.block_lt_of_cell? w _ hw178_1)).trans hw178_1)) p_
                      repeat (go_big_quiet_step (first
                        | (with_reducible show Calls Try.prog 75 #[.agg #[.int .i64 ((rd_T36 l0_0 x3_1).f0), .int .i64 ((rd_T36 l0_0 x3_1).f1)]] _ _; with_reducible exact calls_bel (spec_NodeOk.calls ((rd_T36 l0_0 x3_1).f0) ((rd_T36 l0_0 x3_1).f1) true _ A5.out))
                        | (with_reducible show Calls Try.prog 76 #[.agg #[.int .i64 ((rd_T36 l0_0 (ji8)).f0), .int .i64 ((rd_T36 l0_0 (ji8)).f1)]] _ _; with_reducible exact calls_bel (spec_l2Code.calls ((rd_T36 l0_0 (ji8)).f0) ((rd_T36 l0_0 (ji8)).f1) t179 _ A11.out))
                        | (with_reducible show Calls Try.prog 76 #[.agg #[.int .i64 ((rd_T36 l0_0 x3_1).f0), .int .i64 ((rd_T36 l0_0 x3_1).f1)]] _ _; with_reducible exact calls_bel (spec_l2Code.calls ((rd_T36 l0_0 x3_1).f0) ((rd_T36 l0_0 x3_1).f1) t181 _ A12.out))))
                      refine wpQuiet_nil ?_
                      intro w24 hw'
                      obtain ⟨⟨wq_, hb⟩, hw''⟩ := hw'
                      subst hw''
                      clear hbp_ hz0_ hz1_ hz2_ hz3_ hz4_ hz5_
                      have n0_ := Aside0.mk (blk_below (g := gb175) (o := .cells #[.slice (some ad176) l0_0.length c0_0, .slice A0_1 l0_1.length c0_1] 34 (0, 0)) (by (with_reducible repeat (first | refine blk_drewN ?_ _ | refine blk_drew ?_ | refine blk_alloc ?_ _)); exact BK175.out) hb)
                      have n1_ := Aside0.mk (below_step (by repeat (first | (with_reducible first | exact HB.out | apply below_alloc | apply pw_below_drewN | apply below_drew1 | refine below_set ?_ GE175.out) | exact HB.out)) hb)
                      clear BK175
                      clear HB
                      have BK175 := n0_
                      have HB := n1_
                      clear n0_ n1_
                      (try clear hb)
                      (try clear hb2)
                      (try clear hk)
                      (try clear hi)
                      try go_wp2
                      go_ret
                      exact ⟨by first | rfl | (simp [errW_none, errW_some] <;> rfl) | (simp only [← hji8]; first | rfl | (simp [errW_none, errW_some] <;> rfl)) | (simp [*, errW_none, errW_some] <;> rfl), by repeat (first | (with_reducible first | exact HB.out | apply below_alloc | apply pw_below_drewN | apply below_drew1 | refine below_set ?_ GE175.out) | exact HB.out)⟩
                    · rw [if_neg c19] at H
                      have c19b0 : decide (40 ≤ x3_1) = false := decide_eq_false c19
                      clear c19
                      have H' := Aside0.mk H
                      clear H
                      have hcz25_0 : wr.cell? ⟨gb175, 0, none⟩ = some (.slice A0_0 l0_0.length c0_0) := (blk_cell BK175.out 0).trans rfl
                      have hcz25_1 : wr.cell? ⟨gb175, 1, none⟩ = some (.slice A0_1 l0_1.length c0_1) := (blk_cell BK175.out 1).trans rfl
                      have hfz25_0 := blk_frozen BK175.out 0
                      have hfz25_1 := blk_frozen BK175.out 1
                      try go_wp2
                      have n0_ := Aside0.mk (blk_drew BK175.out)
                      have n1_ := Aside0.mk (below_drew1 HB.out)
                      clear BK175
                      clear HB
                      have BK175 := n0_
                      have HB := n1_
                      clear n0_ n1_
                      have p176 : 0 ≤ (x3_1 : Int) := of_decide_eq_true (by first | (with_reducible assumption) | assumption)
                      have q176 : x3_1 < (l0_0.length : Int) := of_decide_eq_true (by first | (with_reducible assumption) | assumption)
                      obtain ⟨ad176, e176, hx176_0, hx176_1⟩ := at_T36 HR0_0.out x3_1 p176 q176
                      have hw176_1 := hx176_1
                      have hw176_0 := hx176_0
                      cases e176
                      replace hx176_0 := (HB.out.cell (World.block_lt_of_cell? w _ hx176_0)).trans hx176_0
                      replace hx176_1 := (HB.out.cell (World.block_lt_of_cell? w _ hx176_1)).trans hx176_1
                      replace p176 := eq_true p176
                      replace q176 := eq_true q176
                      have p178 : 0 ≤ ((ji8) : Int) := of_decide_eq_true (by first | (with_reducible assumption) | assumption)
                      have q178 : (ji8) < (l0_0.length : Int) := of_decide_eq_true (by first | (with_reducible assumption) | assumption)
                      obtain ⟨ad178, e178, hx178_0, hx178_1⟩ := at_T36 HR0_0.out (ji8) p178 q178
                      have hw178_1 := hx178_1
                      have hw178_0 := hx178_0
                      obtain rfl : ad176 = ad178 := (by injection e178)
                      replace hx178_0 := (HB.out.cell (World.block_lt_of_cell? w _ hx178_0)).trans hx178_0
                      replace hx178_1 := (HB.out.cell (World.block_lt_of_cell? w _ hx178_1)).trans hx178_1
                      replace p178 := eq_true p178
                      replace q178 := eq_true q178
                      have p180 : 0 ≤ (x3_1 : Int) := of_decide_eq_true (by first | (with_reducible assumption) | assumption)
                      have q180 : x3_1 < (l0_0.length : Int) := of_decide_eq_true (by first | (with_reducible assumption) | assumption)
                      obtain ⟨ad180, e180, hx180_0, hx180_1⟩ := at_T36 HR0_0.out x3_1 p180 q180
                      have hw180_1 := hx180_1
                      have hw180_0 := hx180_0
                      obtain rfl : ad176 = ad180 := (by injection e180)
                      replace hx180_0 := (HB.out.cell (World.block_lt_of_cell? w _ hx180_0)).trans hx180_0
                      replace hx180_1 := (HB.out.cell (World.block_lt_of_cell? w _ hx180_1)).trans hx180_1
                      replace p180 := eq_true p180
                      replace q180 := eq_true q180
                      refine wp_region_bel (by kernel_rfl) (by kernel_rfl) ?_
                      generalize wr.drew = w26 at BK175 HB hx176_0 hx176_1 hx178_0 hx178_1 hx180_0 hx180_1 ⊢
                      have hbp_ := fun (p_ : Bel w26) => below_step HB.out p_.h
                      have hz0_ : ∀ p_ : Bel w26, p_.v.cell? ⟨gb175, 0, none⟩ = some (.slice (some ad176) l0_0.length c0_0) := fun p_ => cell_bel ((blk_cell BK175.out 0).trans rfl) p_
                      have hz1_ : ∀ p_ : Bel w26, p_.v.cell? ⟨gb175, 1, none⟩ = some (.slice A0_1 l0_1.length c0_1) := fun p_ => cell_bel ((blk_cell BK175.out 1).trans rfl) p_
                      have hz2_ : ∀ p_ : Bel w26, p_.v.cell? (ad176.add ((x3_1).toNat * 2)) = some (.int .i64 ((rd_T36 l0_0 x3_1).f0)) := fun p_ => cell_bel (((HB.out.cell (World.block_lt_of_cell? w _ hw176_0)).trans hw176_0)) p_
                      have hz3_ : ∀ p_ : Bel w26, p_.v.cell? ⟨(ad176.add ((x3_1).toNat * 2)).block, (ad176.add ((x3_1).toNat * 2)).off + 1, none⟩ = some (.int .i64 ((rd_T36 l0_0 x3_1).f1)) := fun p_ => cell_bel (((HB.out.cell (World.block_lt_of_cell? w _ hw176_1)).trans hw176_1)) p_
                      have hz4_ : ∀ p_ : Bel w26, p_.v.cell? (ad176.add (((ji8)).toNat * 2)) = some (.int .i64 ((rd_T36 l0_0 (ji8)).f0)) := fun p_ => cell_bel (((HB.out.cell (World.block_lt_of_cell? w _ hw178_0)).trans hw178_0)) p_
                      have hz5_ : ∀ p_ : Bel w26, p_.v.cell? ⟨(ad176.add (((ji8)).toNat * 2)).block, (ad176.add (((ji8)).toNat * 2)).off + 1, none⟩ = some (.int .i64 ((rd_T36 l0_0 (ji8)).f1)) := fun p_ => cell_bel (((HB.out.cell (World.block_lt_of_cell? w _ hw178_1)).trans hw178_1)) p_
                      repeat (go_big_quiet_step (first
                        | (with_reducible show Calls Try.prog 75 #[.agg #[.int .i64 ((rd_T36 l0_0 x3_1).f0), .int .i64 ((rd_T36 l0_0 x3_1).f1)]] _ _; with_reducible exact calls_bel (spec_NodeOk.calls ((rd_T36 l0_0 x3_1).f0) ((rd_T36 l0_0 x3_1).f1) true _ A5.out))
                        | (with_reducible show Calls Try.prog 76 #[.agg #[.int .i64 ((rd_T36 l0_0 (ji8)).f0), .int .i64 ((rd_T36 l0_0 (ji8)).f1)]] _ _; with_reducible exact calls_bel (spec_l2Code.calls ((rd_T36 l0_0 (ji8)).f0) ((rd_T36 l0_0 (ji8)).f1) t179 _ A11.out))
                        | (with_reducible show Calls Try.prog 76 #[.agg #[.int .i64 ((rd_T36 l0_0 x3_1).f0), .int .i64 ((rd_T36 l0_0 x3_1).f1)]] _ _; with_reducible exact calls_bel (spec_l2Code.calls ((rd_T36 l0_0 x3_1).f0) ((rd_T36 l0_0 x3_1).f1) t181 _ A12.out))))
                      refine wpQuiet_nil ?_
                      intro w29 hw'
                      obtain ⟨⟨wq_, hb⟩, hw''⟩ := hw'
                      subst hw''
                      clear hbp_ hz0_ hz1_ hz2_ hz3_ hz4_ hz5_
                      have n0_ := Aside0.mk (blk_below (g := gb175) (o := .cells #[.slice (some ad176) l0_0.length c0_0, .slice A0_1 l0_1.length c0_1] 34 (0, 0)) (by (with_reducible repeat (first | refine blk_drewN ?_ _ | refine blk_drew ?_ | refine blk_alloc ?_ _)); exact BK175.out) hb)
                      have n1_ := Aside0.mk (below_step (by repeat (first | (with_reducible first | exact HB.out | apply below_alloc | apply pw_below_drewN | apply below_drew1 | refine below_set ?_ GE175.out) | exact HB.out)) hb)
                      clear BK175
                      clear HB
                      have BK175 := n0_
                      have HB := n1_
                      clear n0_ n1_
                      (try clear hb)
                      (try clear hb2)
                      (try clear hk)
                      (try clear hi)
                      try go_wp2
                      go_roundg k1
                      case measure => have := HK1.out; omega
                      case rel => exact ⟨(wrap64 (x3_1 + 1)), (by first | rfl | (simp; done) | (simp [*]; done)), H', ⟨by have := HK1.out; omega⟩, ⟨by (with_reducible repeat (first | refine blk_drewN ?_ _ | refine blk_drew ?_ | refine blk_alloc ?_ _)); exact BK175.out⟩, ⟨by repeat (first | (with_reducible first | exact HB.out | apply below_alloc | apply pw_below_drewN | apply below_drew1 | refine below_set ?_ GE175.out) | exact HB.out)⟩⟩
                · rw [if_neg c10] at H
                  exact absurd H (by simp)
              · rw [if_neg c9] at H
                exact absurd H (by simp)
            · rw [if_neg c7] at H
              have c7b0 : decide (0 < x3_1) = false := decide_eq_false c7
              clear c7
              by_cases c30 : x3_1 ≥ 40
              · rw [if_pos c30] at H
                have c30b0 : decide (40 ≤ x3_1) = true := decide_eq_true c30
                clear c30
                obtain rfl := Option.some.inj H
                have hcz31_0 : wr.cell? ⟨gb175, 0, none⟩ = some (.slice A0_0 l0_0.length c0_0) := (blk_cell BK175.out 0).trans rfl
                have hcz31_1 : wr.cell? ⟨gb175, 1, none⟩ = some (.slice A0_1 l0_1.length c0_1) := (blk_cell BK175.out 1).trans rfl
                have hfz31_0 := blk_frozen BK175.out 0
                have hfz31_1 := blk_frozen BK175.out 1
                try go_wp2
                have n0_ := Aside0.mk (blk_drew BK175.out)
                have n1_ := Aside0.mk (below_drew1 HB.out)
                clear BK175
                clear HB
                have BK175 := n0_
                have HB := n1_
                clear n0_ n1_
                have p176 : 0 ≤ (x3_1 : Int) := of_decide_eq_true (by first | (with_reducible assumption) | assumption)
                have q176 : x3_1 < (l0_0.length : Int) := of_decide_eq_true (by first | (with_reducible assumption) | assumption)
                obtain ⟨ad176, e176, hx176_0, hx176_1⟩ := at_T36 HR0_0.out x3_1 p176 q176
                have hw176_1 := hx176_1
                have hw176_0 := hx176_0
                cases e176
                replace hx176_0 := (HB.out.cell (World.block_lt_of_cell? w _ hx176_0)).trans hx176_0
                replace hx176_1 := (HB.out.cell (World.block_lt_of_cell? w _ hx176_1)).trans hx176_1
                replace p176 := eq_true p176
                replace q176 := eq_true q176
                refine wp_region_bel (by kernel_rfl) (by kernel_rfl) ?_
                generalize wr.drew = w32 at BK175 HB hx176_0 hx176_1 ⊢
                have hbp_ := fun (p_ : Bel w32) => below_step HB.out p_.h
                have hz0_ : ∀ p_ : Bel w32, p_.v.cell? ⟨gb175, 0, none⟩ = some (.slice (some ad176) l0_0.length c0_0) := fun p_ => cell_bel ((blk_cell BK175.out 0).trans rfl) p_
                have hz1_ : ∀ p_ : Bel w32, p_.v.cell? ⟨gb175, 1, none⟩ = some (.slice A0_1 l0_1.length c0_1) := fun p_ => cell_bel ((blk_cell BK175.out 1).trans rfl) p_
                have hz2_ : ∀ p_ : Bel w32, p_.v.cell? (ad176.add ((x3_1).toNat * 2)) = some (.int .i64 ((rd_T36 l0_0 x3_1).f0)) := fun p_ => cell_bel (((HB.out.cell (World.block_lt_of_cell? w _ hw176_0)).trans hw176_0)) p_
                have hz3_ : ∀ p_ : Bel w32, p_.v.cell? ⟨(ad176.add ((x3_1).toNat * 2)).block, (ad176.add ((x3_1).toNat * 2)).off + 1, none⟩ = some (.int .i64 ((rd_T36 l0_0 x3_1).f1)) := fun p_ => cell_bel (((HB.out.cell (World.block_lt_of_cell? w _ hw176_1)).trans hw176_1)) p_
                repeat (go_big_quiet_step (first
                  | (with_reducible show Calls Try.prog 75 #[.agg #[.int .i64 ((rd_T36 l0_0 x3_1).f0), .int .i64 ((rd_T36 l0_0 x3_1).f1)]] _ _; with_reducible exact calls_bel (spec_NodeOk.calls ((rd_T36 l0_0 x3_1).f0) ((rd_T36 l0_0 x3_1).f1) true _ A5.out))))
                refine wpQuiet_nil ?_
                intro w33 hw'
                obtain ⟨⟨wq_, hb⟩, hw''⟩ := hw'
                subst hw''
                clear hbp_ hz0_ hz1_ hz2_ hz3_
                have n0_ := Aside0.mk (blk_below (g := gb175) (o := .cells #[.slice (some ad176) l0_0.length c0_0, .slice A0_1 l0_1.length c0_1] 34 (0, 0)) (by (with_reducible repeat (first | refine blk_drewN ?_ _ | refine blk_drew ?_ | refine blk_alloc ?_ _)); exact BK175.out) hb)
                have n1_ := Aside0.mk (below_step (by repeat (first | (with_reducible first | exact HB.out | apply below_alloc | apply pw_below_drewN | apply below_drew1 | refine below_set ?_ GE175.out) | exact HB.out)) hb)
                clear BK175
                clear HB
                have BK175 := n0_
                have HB := n1_
                clear n0_ n1_
                (try clear hb)
                (try clear hb2)
                (try clear hk)
                (try clear hi)
                try go_wp2
                go_ret
                exact ⟨by first | rfl | (simp [errW_none, errW_some] <;> rfl) | (simp [*, errW_none, errW_some] <;> rfl), by repeat (first | (with_reducible first | exact HB.out | apply below_alloc | apply pw_below_drewN | apply below_drew1 | refine below_set ?_ GE175.out) | exact HB.out)⟩
              · rw [if_neg c30] at H
                have c30b0 : decide (40 ≤ x3_1) = false := decide_eq_false c30
                clear c30
                have H' := Aside0.mk H
                clear H
                have hcz34_0 : wr.cell? ⟨gb175, 0, none⟩ = some (.slice A0_0 l0_0.length c0_0) := (blk_cell BK175.out 0).trans rfl
                have hcz34_1 : wr.cell? ⟨gb175, 1, none⟩ = some (.slice A0_1 l0_1.length c0_1) := (blk_cell BK175.out 1).trans rfl
                have hfz34_0 := blk_frozen BK175.out 0
                have hfz34_1 := blk_frozen BK175.out 1
                try go_wp2
                have n0_ := Aside0.mk (blk_drew BK175.out)
                have n1_ := Aside0.mk (below_drew1 HB.out)
                clear BK175
                clear HB
                have BK175 := n0_
                have HB := n1_
                clear n0_ n1_
                have p176 : 0 ≤ (x3_1 : Int) := of_decide_eq_true (by first | (with_reducible assumption) | assumption)
                have q176 : x3_1 < (l0_0.length : Int) := of_decide_eq_true (by first | (with_reducible assumption) | assumption)
                obtain ⟨ad176, e176, hx176_0, hx176_1⟩ := at_T36 HR0_0.out x3_1 p176 q176
                have hw176_1 := hx176_1
                have hw176_0 := hx176_0
                cases e176
                replace hx176_0 := (HB.out.cell (World.block_lt_of_cell? w _ hx176_0)).trans hx176_0
                replace hx176_1 := (HB.out.cell (World.block_lt_of_cell? w _ hx176_1)).trans hx176_1
                replace p176 := eq_true p176
                replace q176 := eq_true q176
                refine wp_region_bel (by kernel_rfl) (by kernel_rfl) ?_
                generalize wr.drew = w35 at BK175 HB hx176_0 hx176_1 ⊢
                have hbp_ := fun (p_ : Bel w35) => below_step HB.out p_.h
                have hz0_ : ∀ p_ : Bel w35, p_.v.cell? ⟨gb175, 0, none⟩ = some (.slice (some ad176) l0_0.length c0_0) := fun p_ => cell_bel ((blk_cell BK175.out 0).trans rfl) p_
                have hz1_ : ∀ p_ : Bel w35, p_.v.cell? ⟨gb175, 1, none⟩ = some (.slice A0_1 l0_1.length c0_1) := fun p_ => cell_bel ((blk_cell BK175.out 1).trans rfl) p_
                have hz2_ : ∀ p_ : Bel w35, p_.v.cell? (ad176.add ((x3_1).toNat * 2)) = some (.int .i64 ((rd_T36 l0_0 x3_1).f0)) := fun p_ => cell_bel (((HB.out.cell (World.block_lt_of_cell? w _ hw176_0)).trans hw176_0)) p_
                have hz3_ : ∀ p_ : Bel w35, p_.v.cell? ⟨(ad176.add ((x3_1).toNat * 2)).block, (ad176.add ((x3_1).toNat * 2)).off + 1, none⟩ = some (.int .i64 ((rd_T36 l0_0 x3_1).f1)) := fun p_ => cell_bel (((HB.out.cell (World.block_lt_of_cell? w _ hw176_1)).trans hw176_1)) p_
                repeat (go_big_quiet_step (first
                  | (with_reducible show Calls Try.prog 75 #[.agg #[.int .i64 ((rd_T36 l0_0 x3_1).f0), .int .i64 ((rd_T36 l0_0 x3_1).f1)]] _ _; with_reducible exact calls_bel (spec_NodeOk.calls ((rd_T36 l0_0 x3_1).f0) ((rd_T36 l0_0 x3_1).f1) true _ A5.out))))
                refine wpQuiet_nil ?_
                intro w36 hw'
                obtain ⟨⟨wq_, hb⟩, hw''⟩ := hw'
                subst hw''
                clear hbp_ hz0_ hz1_ hz2_ hz3_
                have n0_ := Aside0.mk (blk_below (g := gb175) (o := .cells #[.slice (some ad176) l0_0.length c0_0, .slice A0_1 l0_1.length c0_1] 34 (0, 0)) (by (with_reducible repeat (first | refine blk_drewN ?_ _ | refine blk_drew ?_ | refine blk_alloc ?_ _)); exact BK175.out) hb)
                have n1_ := Aside0.mk (below_step (by repeat (first | (with_reducible first | exact HB.out | apply below_alloc | apply pw_below_drewN | apply below_drew1 | refine below_set ?_ GE175.out) | exact HB.out)) hb)
                clear BK175
                clear HB
                have BK175 := n0_
                have HB := n1_
                clear n0_ n1_
                (try clear hb)
                (try clear hb2)
                (try clear hk)
                (try clear hi)
                try go_wp2
                go_roundg k1
                case measure => have := HK1.out; omega
                case rel => exact ⟨(wrap64 (x3_1 + 1)), (by first | rfl | (simp; done) | (simp [*]; done)), H', ⟨by have := HK1.out; omega⟩, ⟨by (with_reducible repeat (first | refine blk_drewN ?_ _ | refine blk_drew ?_ | refine blk_alloc ?_ _)); exact BK175.out⟩, ⟨by repeat (first | (with_reducible first | exact HB.out | apply below_alloc | apply pw_below_drewN | apply below_drew1 | refine below_set ?_ GE175.out) | exact HB.out)⟩⟩
          · replace c6 := Bool.eq_false_iff.mpr c6
            subst c6
            have H1 : (some false) = some r := by rw [if_neg (show ¬ (false = true) by decide)] at H; exact H
            clear H
            have H := H1
            clear H1
            obtain rfl := Option.some.inj H
            have hcz37_0 : wr.cell? ⟨gb175, 0, none⟩ = some (.slice A0_0 l0_0.length c0_0) := (blk_cell BK175.out 0).trans rfl
            have hcz37_1 : wr.cell? ⟨gb175, 1, none⟩ = some (.slice A0_1 l0_1.length c0_1) := (blk_cell BK175.out 1).trans rfl
            have hfz37_0 := blk_frozen BK175.out 0
            have hfz37_1 := blk_frozen BK175.out 1
            try go_wp2
            have n0_ := Aside0.mk (blk_drew BK175.out)
            have n1_ := Aside0.mk (below_drew1 HB.out)
            clear BK175
            clear HB
            have BK175 := n0_
            have HB := n1_
            clear n0_ n1_
            have p176 : 0 ≤ (x3_1 : Int) := of_decide_eq_true (by first | (with_reducible assumption) | assumption)
            have q176 : x3_1 < (l0_0.length : Int) := of_decide_eq_true (by first | (with_reducible assumption) | assumption)
            obtain ⟨ad176, e176, hx176_0, hx176_1⟩ := at_T36 HR0_0.out x3_1 p176 q176
            have hw176_1 := hx176_1
            have hw176_0 := hx176_0
            cases e176
            replace hx176_0 := (HB.out.cell (World.block_lt_of_cell? w _ hx176_0)).trans hx176_0
            replace hx176_1 := (HB.out.cell (World.block_lt_of_cell? w _ hx176_1)).trans hx176_1
            replace p176 := eq_true p176
            replace q176 := eq_true q176
            refine wp_region_bel (by kernel_rfl) (by kernel_rfl) ?_
            generalize wr.drew = w38 at BK175 HB hx176_0 hx176_1 ⊢
            have hbp_ := fun (p_ : Bel w38) => below_step HB.out p_.h
            have hz0_ : ∀ p_ : Bel w38, p_.v.cell? ⟨gb175, 0, none⟩ = some (.slice (some ad176) l0_0.length c0_0) := fun p_ => cell_bel ((blk_cell BK175.out 0).trans rfl) p_
            have hz1_ : ∀ p_ : Bel w38, p_.v.cell? ⟨gb175, 1, none⟩ = some (.slice A0_1 l0_1.length c0_1) := fun p_ => cell_bel ((blk_cell BK175.out 1).trans rfl) p_
            have hz2_ : ∀ p_ : Bel w38, p_.v.cell? (ad176.add ((x3_1).toNat * 2)) = some (.int .i64 ((rd_T36 l0_0 x3_1).f0)) := fun p_ => cell_bel (((HB.out.cell (World.block_lt_of_cell? w _ hw176_0)).trans hw176_0)) p_
            have hz3_ : ∀ p_ : Bel w38, p_.v.cell? ⟨(ad176.add ((x3_1).toNat * 2)).block, (ad176.add ((x3_1).toNat * 2)).off + 1, none⟩ = some (.int .i64 ((rd_T36 l0_0 x3_1).f1)) := fun p_ => cell_bel (((HB.out.cell (World.block_lt_of_cell? w _ hw176_1)).trans hw176_1)) p_
            repeat (go_big_quiet_step (first
              | (with_reducible show Calls Try.prog 75 #[.agg #[.int .i64 ((rd_T36 l0_0 x3_1).f0), .int .i64 ((rd_T36 l0_0 x3_1).f1)]] _ _; with_reducible exact calls_bel (spec_NodeOk.calls ((rd_T36 l0_0 x3_1).f0) ((rd_T36 l0_0 x3_1).f1) false _ A5.out))))
            refine wpQuiet_nil ?_
            intro w39 hw'
            obtain ⟨⟨wq_, hb⟩, hw''⟩ := hw'
            subst hw''
            clear hbp_ hz0_ hz1_ hz2_ hz3_
            have n0_ := Aside0.mk (blk_below (g := gb175) (o := .cells #[.slice (some ad176) l0_0.length c0_0, .slice A0_1 l0_1.length c0_1] 34 (0, 0)) (by (with_reducible repeat (first | refine blk_drewN ?_ _ | refine blk_drew ?_ | refine blk_alloc ?_ _)); exact BK175.out) hb)
            have n1_ := Aside0.mk (below_step (by repeat (first | (with_reducible first | exact HB.out | apply below_alloc | apply pw_below_drewN | apply below_drew1 | refine below_set ?_ GE175.out) | exact HB.out)) hb)
            clear BK175
            clear HB
            have BK175 := n0_
            have HB := n1_
            clear n0_ n1_
            (try clear hb)
            (try clear hb2)
            (try clear hk)
            (try clear hi)
            try go_wp2
            go_ret
            exact ⟨by first | rfl | (simp [errW_none, errW_some] <;> rfl) | (simp [*, errW_none, errW_some] <;> rfl), by repeat (first | (with_reducible first | exact HB.out | apply below_alloc | apply pw_below_drewN | apply below_drew1 | refine below_set ?_ GE175.out) | exact HB.out)⟩
        · rw [if_neg c4] at H
          exact absurd H (by simp)
      · rw [if_neg c3] at H
        have c3b0 : decide (x3_1 < (l0_0.length : Int)) = false := decide_eq_false c3
        clear c3
        have H' := Aside0.mk H
        clear H
        have hcz40_0 : wr.cell? ⟨gb175, 0, none⟩ = some (.slice A0_0 l0_0.length c0_0) := (blk_cell BK175.out 0).trans rfl
        have hcz40_1 : wr.cell? ⟨gb175, 1, none⟩ = some (.slice A0_1 l0_1.length c0_1) := (blk_cell BK175.out 1).trans rfl
        have hfz40_0 := blk_frozen BK175.out 0
        have hfz40_1 := blk_frozen BK175.out 1
        go_wp2
        go_loopg [4] k1 (fun kq v4 w' => ∃ (x4_2 : Int), v4 = .int .i64 x4_2 ∧ Aside0 (spec_GraphOk.l1 kq x4_2 l0_0 l0_1 = some r) ∧ Aside0 (kq ≤ k1) ∧ Aside0 (w'.heap[gb175]? = some (.cells #[(.slice A0_0 l0_0.length c0_0), (.slice A0_1 l0_1.length c0_1)] 34 (0, 0))) ∧ Aside0 (Below w.heap.size w w'))
        case atStart => exact ⟨(0), (by first | rfl | (simp; done) | (simp [*]; done)), H', ⟨Nat.le_refl _⟩, ⟨by (with_reducible repeat (first | refine blk_drewN ?_ _ | refine blk_drew ?_ | refine blk_alloc ?_ _)); exact BK175.out⟩, ⟨by repeat (first | (with_reducible first | exact HB.out | apply below_alloc | apply pw_below_drewN | apply below_drew1 | refine below_set ?_ GE175.out) | exact HB.out)⟩⟩
        case round =>
          clear H'
          try clear p1
          try clear q1
          try clear hx1
          try clear p2
          try clear c3
          try clear c3b0
          try clear c4
          try clear c6
          try clear p6
          try clear c7
          try clear p17
          try clear q17
          try clear hx17
          try clear c30
          try clear c30b0
          try clear hcz34_0
          try clear hcz34_1
          try clear hcz37_0
          try clear hcz37_1
          try clear hcz40_0
          try clear hcz40_1
          try clear hfz34_0
          try clear hfz34_1
          try clear hfz37_0
          try clear hfz37_1
          try clear hfz40_0
          try clear hfz40_1
          try clear hx176_0
          try clear hx176_1
          try clear p176
          try clear q176
          obtain ⟨x4_2, rfl, HA, HK2, BK175, HB⟩ := hrel
          cases gk with
          | zero => exact absurd HA.out (by simp [spec_GraphOk.l1])
          | succ k2 =>
            have H := HA.out
            clear HA
            simp only [spec_GraphOk.l1] at H
            by_cases c41 : x4_2 < (l0_1.length : Int)
            · rw [if_pos c41] at H
              have c41b0 : decide (x4_2 < (l0_1.length : Int)) = true := decide_eq_true c41
              clear c41
              by_cases c42 : 0 ≤ x4_2
              · rw [if_pos c42] at H
                have c42b0 : decide (0 ≤ x4_2) = true := decide_eq_true c42
                clear c42
                replace H := Option.bind_eq_some_iff.mp H
                obtain ⟨t184, A430, H⟩ := H
                replace H : (if t184 = true then (if x4_2 > 0 then (if 0 ≤ (wrap64 (x4_2 - 1)) then (if (wrap64 (x4_2 - 1)) < (l0_1.length : Int) then ((spec_l2Less.f ((rd_T56 l0_1 (wrap64 (x4_2 - 1))).f0) ((rd_T56 l0_1 (wrap64 (x4_2 - 1))).f1.f0) ((rd_T56 l0_1 (wrap64 (x4_2 - 1))).f1.f1) ((rd_T56 l0_1 (wrap64 (x4_2 - 1))).f2.f0) ((rd_T56 l0_1 (wrap64 (x4_2 - 1))).f2.f1) ((rd_T56 l0_1 x4_2).f0) ((rd_T56 l0_1 x4_2).f1.f0) ((rd_T56 l0_1 x4_2).f1.f1) ((rd_T56 l0_1 x4_2).f2.f0) ((rd_T56 l0_1 x4_2).f2.f1)).bind fun t186 => (if t186 = true then ((spec_l2At.f k2 l0_0 l0_1 ((rd_T56 l0_1 x4_2).f1.f0) ((rd_T56 l0_1 x4_2).f1.f1)).bind fun t187 => (if t187 < 0 then (some false) else ((spec_l2At.f k2 l0_0 l0_1 ((rd_T56 l0_1 x4_2).f2.f0) ((rd_T56 l0_1 x4_2).f2.f1)).bind fun t188 => (if t188 < 0 then (some false) else (if x4_2 ≥ 56 then (some false) else (spec_GraphOk.l1 k2 (wrap64 (x4_2 + 1)) l0_0 l0_1)))))) else (some false))) else (none)) else (none)) else ((spec_l2At.f k2 l0_0 l0_1 ((rd_T56 l0_1 x4_2).f1.f0) ((rd_T56 l0_1 x4_2).f1.f1)).bind fun t189 => (if t189 < 0 then (some false) else ((spec_l2At.f k2 l0_0 l0_1 ((rd_T56 l0_1 x4_2).f2.f0) ((rd_T56 l0_1 x4_2).f2.f1)).bind fun t190 => (if t190 < 0 then (some false) else (if x4_2 ≥ 56 then (some false) else (spec_GraphOk.l1 k2 (wrap64 (x4_2 + 1)) l0_0 l0_1))))))) else (some false)) = some r := H
                have A43 := Aside0.mk A430
                clear A430
                by_cases c44 : t184 = true
                · subst c44
                  have H1 : (if x4_2 > 0 then (if 0 ≤ (wrap64 (x4_2 - 1)) then (if (wrap64 (x4_2 - 1)) < (l0_1.length : Int) then ((spec_l2Less.f ((rd_T56 l0_1 (wrap64 (x4_2 - 1))).f0) ((rd_T56 l0_1 (wrap64 (x4_2 - 1))).f1.f0) ((rd_T56 l0_1 (wrap64 (x4_2 - 1))).f1.f1) ((rd_T56 l0_1 (wrap64 (x4_2 - 1))).f2.f0) ((rd_T56 l0_1 (wrap64 (x4_2 - 1))).f2.f1) ((rd_T56 l0_1 x4_2).f0) ((rd_T56 l0_1 x4_2).f1.f0) ((rd_T56 l0_1 x4_2).f1.f1) ((rd_T56 l0_1 x4_2).f2.f0) ((rd_T56 l0_1 x4_2).f2.f1)).bind fun t186 => (if t186 = true then ((spec_l2At.f k2 l0_0 l0_1 ((rd_T56 l0_1 x4_2).f1.f0) ((rd_T56 l0_1 x4_2).f1.f1)).bind fun t187 => (if t187 < 0 then (some false) else ((spec_l2At.f k2 l0_0 l0_1 ((rd_T56 l0_1 x4_2).f2.f0) ((rd_T56 l0_1 x4_2).f2.f1)).bind fun t188 => (if t188 < 0 then (some false) else (if x4_2 ≥ 56 then (some false) else (spec_GraphOk.l1 k2 (wrap64 (x4_2 + 1)) l0_0 l0_1)))))) else (some false))) else (none)) else (none)) else ((spec_l2At.f k2 l0_0 l0_1 ((rd_T56 l0_1 x4_2).f1.f0) ((rd_T56 l0_1 x4_2).f1.f1)).bind fun t189 => (if t189 < 0 then (some false) else ((spec_l2At.f k2 l0_0 l0_1 ((rd_T56 l0_1 x4_2).f2.f0) ((rd_T56 l0_1 x4_2).f2.f1)).bind fun t190 => (if t190 < 0 then (some false) else (if x4_2 ≥ 56 then (some false) else (spec_GraphOk.l1 k2 (wrap64 (x4_2 + 1)) l0_0 l0_1))))))) = some r := by rw [if_pos rfl] at H; exact H
                  clear H
                  have H := H1
                  clear H1
                  by_cases c45 : x4_2 > 0
                  · rw [if_pos c45] at H
                    have c45b0 : decide (0 < x4_2) = true := decide_eq_true c45
                    clear c45
                    obtain ⟨ji46, hji46⟩ : ∃ j_ : Int, (wrap64 (x4_2 - 1)) = j_ := ⟨_, rfl⟩
                    replace H : (if 0 ≤ (ji46) then (if (ji46) < (l0_1.length : Int) then ((spec_l2Less.f ((rd_T56 l0_1 (ji46)).f0) ((rd_T56 l0_1 (ji46)).f1.f0) ((rd_T56 l0_1 (ji46)).f1.f1) ((rd_T56 l0_1 (ji46)).f2.f0) ((rd_T56 l0_1 (ji46)).f2.f1) ((rd_T56 l0_1 x4_2).f0) ((rd_T56 l0_1 x4_2).f1.f0) ((rd_T56 l0_1 x4_2).f1.f1) ((rd_T56 l0_1 x4_2).f2.f0) ((rd_T56 l0_1 x4_2).f2.f1)).bind fun t186 => (if t186 = true then ((spec_l2At.f k2 l0_0 l0_1 ((rd_T56 l0_1 x4_2).f1.f0) ((rd_T56 l0_1 x4_2).f1.f1)).bind fun t187 => (if t187 < 0 then (some false) else ((spec_l2At.f k2 l0_0 l0_1 ((rd_T56 l0_1 x4_2).f2.f0) ((rd_T56 l0_1 x4_2).f2.f1)).bind fun t188 => (if t188 < 0 then (some false) else (if x4_2 ≥ 56 then (some false) else (spec_GraphOk.l1 k2 (wrap64 (x4_2 + 1)) l0_0 l0_1)))))) else (some false))) else (none)) else (none)) = some r := by first | (rw [hji46] at H; exact H) | (simp only [hji46] at H ⊢; exact H)
                    (try rw [hji46] at A43)
                    have hji46w : (IntKind.i64.wrap (x4_2 - 1)) = ji46 := (i64_w _).trans hji46
                    by_cases c47 : 0 ≤ (ji46)
                    · rw [if_pos c47] at H
                      have c47b0 : decide (0 ≤ (ji46)) = true := decide_eq_true c47
                      clear c47
                      by_cases c48 : (ji46) < (l0_1.length : Int)
                      · rw [if_pos c48] at H
                        have c48b0 : decide ((ji46) < (l0_1.length : Int)) = true := decide_eq_true c48
                        clear c48
                        replace H := Option.bind_eq_some_iff.mp H
                        obtain ⟨t186, A490, H⟩ := H
                        replace H : (if t186 = true then ((spec_l2At.f k2 l0_0 l0_1 ((rd_T56 l0_1 x4_2).f1.f0) ((rd_T56 l0_1 x4_2).f1.f1)).bind fun t187 => (if t187 < 0 then (some false) else ((spec_l2At.f k2 l0_0 l0_1 ((rd_T56 l0_1 x4_2).f2.f0) ((rd_T56 l0_1 x4_2).f2.f1)).bind fun t188 => (if t188 < 0 then (some false) else (if x4_2 ≥ 56 then (some false) else (spec_GraphOk.l1 k2 (wrap64 (x4_2 + 1)) l0_0 l0_1)))))) else (some false)) = some r := H
                        have A49 := Aside0.mk A490
                        clear A490
                        by_cases c50 : t186 = true
                        · subst c50
                          have H1 : ((spec_l2At.f k2 l0_0 l0_1 ((rd_T56 l0_1 x4_2).f1.f0) ((rd_T56 l0_1 x4_2).f1.f1)).bind fun t187 => (if t187 < 0 then (some false) else ((spec_l2At.f k2 l0_0 l0_1 ((rd_T56 l0_1 x4_2).f2.f0) ((rd_T56 l0_1 x4_2).f2.f1)).bind fun t188 => (if t188 < 0 then (some false) else (if x4_2 ≥ 56 then (some false) else (spec_GraphOk.l1 k2 (wrap64 (x4_2 + 1)) l0_0 l0_1)))))) = some r := by rw [if_pos rfl] at H; exact H
                          clear H
                          have H := H1
                          clear H1
                          replace H := Option.bind_eq_some_iff.mp H
                          obtain ⟨t187, A510, H⟩ := H
                          replace H : (if t187 < 0 then (some false) else ((spec_l2At.f k2 l0_0 l0_1 ((rd_T56 l0_1 x4_2).f2.f0) ((rd_T56 l0_1 x4_2).f2.f1)).bind fun t188 => (if t188 < 0 then (some false) else (if x4_2 ≥ 56 then (some false) else (spec_GraphOk.l1 k2 (wrap64 (x4_2 + 1)) l0_0 l0_1))))) = some r := H
                          have A51 := Aside0.mk A510
                          clear A510
                          by_cases c52 : t187 < 0
                          · rw [if_pos c52] at H
                            have c52b0 : decide (t187 < 0) = true := decide_eq_true c52
                            clear c52
                            obtain rfl := Option.some.inj H
                            have hcz53_0 : wr.cell? ⟨gb175, 0, none⟩ = some (.slice A0_0 l0_0.length c0_0) := (blk_cell BK175.out 0).trans rfl
                            have hcz53_1 : wr.cell? ⟨gb175, 1, none⟩ = some (.slice A0_1 l0_1.length c0_1) := (blk_cell BK175.out 1).trans rfl
                            have hfz53_0 := blk_frozen BK175.out 0
                            have hfz53_1 := blk_frozen BK175.out 1
                            have p182 : 0 ≤ (x4_2 : Int) := of_decide_eq_true (by first | (with_reducible assumption) | assumption)
                            have q182 : x4_2 < (l0_1.length : Int) := of_decide_eq_true (by first | (with_reducible assumption) | assumption)
                            obtain ⟨ad182, e182, hx182_0, hx182_1, hx182_2, hx182_3, hx182_4⟩ := at_T56 HR0_1.out x4_2 p182 q182
                            cases e182
                            replace hx182_0 := (HB.out.cell (World.block_lt_of_cell? w _ hx182_0)).trans hx182_0
                            replace hx182_1 := (HB.out.cell (World.block_lt_of_cell? w _ hx182_1)).trans hx182_1
                            replace hx182_2 := (HB.out.cell (World.block_lt_of_cell? w _ hx182_2)).trans hx182_2
                            replace hx182_3 := (HB.out.cell (World.block_lt_of_cell? w _ hx182_3)).trans hx182_3
                            replace hx182_4 := (HB.out.cell (World.block_lt_of_cell? w _ hx182_4)).trans hx182_4
                            replace p182 := eq_true p182
                            replace q182 := eq_true q182
                            try go_wp2_with (first | ((with_reducible refine gate_dst (N := 5) rfl ?_); refine box_event ?hg (N := 5) ?hd (cs := #[.int .i64 0, .int .i64 0, .int .i64 0, .int .i64 0, .int .i64 0]) (t := 56) ?hr ?_; (case hd => rfl); (case hg => rfl); (case hr => first | (go_simp; done) | (go_simp; rfl)); intro gb183 hg w54 hbox hb; have n0_ := Aside0.mk (blk_below (g := gb175) (o := .cells #[.slice A0_0 l0_0.length c0_0, .slice (some ad182) l0_1.length c0_1] 34 (0, 0)) (by (with_reducible repeat (first | refine blk_drewN ?_ _ | refine blk_drew ?_ | refine blk_alloc ?_ _)); exact BK175.out) hb); have n1_ := Aside0.mk (below_step (by repeat (first | (with_reducible first | exact HB.out | apply below_alloc | apply pw_below_drewN | apply below_drew1 | refine below_set ?_ GE175.out) | exact HB.out)) hb); have n2_ := Aside0.mk (hbox); have n3_ := Aside0.mk ((by rw [hg]; exact (below_size (by repeat (first | (with_reducible first | exact HB.out | apply below_alloc | apply pw_below_drewN | apply below_drew1 | refine below_set ?_ GE175.out) | exact HB.out))) : w.heap.size ≤ gb183)); have n4_ := Aside0.mk ((by rw [hg]; exact (below_size (by repeat (first | (with_reducible first | exact HB.out | apply below_alloc | apply pw_below_drewN | apply below_drew1 | refine below_set ?_ GE175.out) | exact HB.out))) : w.heap.size ≤ gb183)); have n5_ := Aside0.mk ((by rw [hg]; exact Nat.ne_of_lt (blk_lt (g := gb175) (o := .cells #[.slice A0_0 l0_0.length c0_0, .slice (some ad182) l0_1.length c0_1] 34 (0, 0)) (by (with_reducible repeat (first | refine blk_drewN ?_ _ | refine blk_drew ?_ | refine blk_alloc ?_ _)); exact BK175.out)) : gb175 ≠ gb183)); have n6_ := Aside0.mk ((by rw [hg]; exact Nat.ne_of_gt (blk_lt (g := gb175) (o := .cells #[.slice A0_0 l0_0.length c0_0, .slice (some ad182) l0_1.length c0_1] 34 (0, 0)) (by (with_reducible repeat (first | refine blk_drewN ?_ _ | refine blk_drew ?_ | refine blk_alloc ?_ _)); exact BK175.out)) : gb183 ≠ gb175)); clear BK175; clear HB; have BK175 := n0_; have HB := n1_; have BK183 := n2_; have GW183 := n3_; have GE183 := n4_; have NB175_183 := n5_; have NB183_175 := n6_; clear n0_ n1_ n2_ n3_ n4_ n5_ n6_; clear hb hbox hg; have hnb55 := NB183_175.out; have hnc55 := NB175_183.out; have hcz56_0 : w54.cell? ⟨gb183, 0, none⟩ = some (.int .i64 0) := (blk_cell BK183.out 0).trans rfl; have hcz56_1 : w54.cell? ⟨gb183, 1, none⟩ = some (.int .i64 0) := (blk_cell BK183.out 1).trans rfl; have hcz56_2 : w54.cell? ⟨gb183, 2, none⟩ = some (.int .i64 0) := (blk_cell BK183.out 2).trans rfl; have hcz56_3 : w54.cell? ⟨gb183, 3, none⟩ = some (.int .i64 0) := (blk_cell BK183.out 3).trans rfl; have hcz56_4 : w54.cell? ⟨gb183, 4, none⟩ = some (.int .i64 0) := (blk_cell BK183.out 4).trans rfl; have hfz56_0 := blk_frozen BK183.out 0; have hfz56_1 := blk_frozen BK183.out 1; have hfz56_2 := blk_frozen BK183.out 2; have hfz56_3 := blk_frozen BK183.out 3; have hfz56_4 := blk_frozen BK183.out 4))
                            have n0_ : Aside0 ((((((w54.setCell ⟨gb183, 0, none⟩ (.int .i64 ((rd_T56 l0_1 x4_2).f0))).setCell ⟨gb183, 1, none⟩ (.int .i64 ((rd_T56 l0_1 x4_2).f1.f0))).setCell ⟨gb183, 2, none⟩ (.int .i64 ((rd_T56 l0_1 x4_2).f1.f1))).setCell ⟨gb183, 3, none⟩ (.int .i64 ((rd_T56 l0_1 x4_2).f2.f0))).setCell ⟨gb183, 4, none⟩ (.int .i64 ((rd_T56 l0_1 x4_2).f2.f1))).heap[gb175]? = some (.cells #[.slice A0_0 l0_0.length c0_0, .slice (some ad182) l0_1.length c0_1] 34 (0, 0))) := ⟨by (with_reducible repeat (first | refine blk_drewN ?_ _ | refine blk_drew ?_ | refine blk_alloc ?_ _)); refine blk_far ?_ NB175_183.out _; (with_reducible repeat (first | refine blk_drewN ?_ _ | refine blk_drew ?_ | refine blk_alloc ?_ _)); refine blk_far ?_ NB175_183.out _; (with_reducible repeat (first | refine blk_drewN ?_ _ | refine blk_drew ?_ | refine blk_alloc ?_ _)); refine blk_far ?_ NB175_183.out _; (with_reducible repeat (first | refine blk_drewN ?_ _ | refine blk_drew ?_ | refine blk_alloc ?_ _)); refine blk_far ?_ NB175_183.out _; (with_reducible repeat (first | refine blk_drewN ?_ _ | refine blk_drew ?_ | refine blk_alloc ?_ _)); refine blk_far ?_ NB175_183.out _; (with_reducible repeat (first | refine blk_drewN ?_ _ | refine blk_drew ?_ | refine blk_alloc ?_ _)); exact BK175.out⟩
                            have n1_ : Aside0 ((((((w54.setCell ⟨gb183, 0, none⟩ (.int .i64 ((rd_T56 l0_1 x4_2).f0))).setCell ⟨gb183, 1, none⟩ (.int .i64 ((rd_T56 l0_1 x4_2).f1.f0))).setCell ⟨gb183, 2, none⟩ (.int .i64 ((rd_T56 l0_1 x4_2).f1.f1))).setCell ⟨gb183, 3, none⟩ (.int .i64 ((rd_T56 l0_1 x4_2).f2.f0))).setCell ⟨gb183, 4, none⟩ (.int .i64 ((rd_T56 l0_1 x4_2).f2.f1))).heap[gb183]? = some (.cells #[.int .i64 ((rd_T56 l0_1 x4_2).f0), .int .i64 ((rd_T56 l0_1 x4_2).f1.f0), .int .i64 ((rd_T56 l0_1 x4_2).f1.f1), .int .i64 ((rd_T56 l0_1 x4_2).f2.f0), .int .i64 ((rd_T56 l0_1 x4_2).f2.f1)] 56 (0, 0))) := ⟨by (with_reducible repeat (first | refine blk_drewN ?_ _ | refine blk_drew ?_ | refine blk_alloc ?_ _)); refine blk_put (cs := #[.int .i64 ((rd_T56 l0_1 x4_2).f0), .int .i64 ((rd_T56 l0_1 x4_2).f1.f0), .int .i64 ((rd_T56 l0_1 x4_2).f1.f1), .int .i64 ((rd_T56 l0_1 x4_2).f2.f0), .int .i64 0]) ?_ 4 _ rfl; (with_reducible repeat (first | refine blk_drewN ?_ _ | refine blk_drew ?_ | refine blk_alloc ?_ _)); refine blk_put (cs := #[.int .i64 ((rd_T56 l0_1 x4_2).f0), .int .i64 ((rd_T56 l0_1 x4_2).f1.f0), .int .i64 ((rd_T56 l0_1 x4_2).f1.f1), .int .i64 0, .int .i64 0]) ?_ 3 _ rfl; (with_reducible repeat (first | refine blk_drewN ?_ _ | refine blk_drew ?_ | refine blk_alloc ?_ _)); refine blk_put (cs := #[.int .i64 ((rd_T56 l0_1 x4_2).f0), .int .i64 ((rd_T56 l0_1 x4_2).f1.f0), .int .i64 0, .int .i64 0, .int .i64 0]) ?_ 2 _ rfl; (with_reducible repeat (first | refine blk_drewN ?_ _ | refine blk_drew ?_ | refine blk_alloc ?_ _)); refine blk_put (cs := #[.int .i64 ((rd_T56 l0_1 x4_2).f0), .int .i64 0, .int .i64 0, .int .i64 0, .int .i64 0]) ?_ 1 _ rfl; (with_reducible repeat (first | refine blk_drewN ?_ _ | refine blk_drew ?_ | refine blk_alloc ?_ _)); refine blk_put (cs := #[.int .i64 0, .int .i64 0, .int .i64 0, .int .i64 0, .int .i64 0]) ?_ 0 _ rfl; (with_reducible repeat (first | refine blk_drewN ?_ _ | refine blk_drew ?_ | refine blk_alloc ?_ _)); exact BK183.out⟩
                            have n2_ : Aside0 (Below w.heap.size w (((((w54.setCell ⟨gb183, 0, none⟩ (.int .i64 ((rd_T56 l0_1 x4_2).f0))).setCell ⟨gb183, 1, none⟩ (.int .i64 ((rd_T56 l0_1 x4_2).f1.f0))).setCell ⟨gb183, 2, none⟩ (.int .i64 ((rd_T56 l0_1 x4_2).f1.f1))).setCell ⟨gb183, 3, none⟩ (.int .i64 ((rd_T56 l0_1 x4_2).f2.f0))).setCell ⟨gb183, 4, none⟩ (.int .i64 ((rd_T56 l0_1 x4_2).f2.f1)))) := ⟨by repeat (first | (with_reducible first | exact HB.out | apply below_alloc | apply pw_below_drewN | apply below_drew1 | refine below_set ?_ GE175.out | refine below_set ?_ GE183.out) | exact HB.out)⟩
                            (try clear BK175)
                            (try clear BK183)
                            (try clear HB)
                            generalize (((((w54.setCell ⟨gb183, 0, none⟩ (.int .i64 ((rd_T56 l0_1 x4_2).f0))).setCell ⟨gb183, 1, none⟩ (.int .i64 ((rd_T56 l0_1 x4_2).f1.f0))).setCell ⟨gb183, 2, none⟩ (.int .i64 ((rd_T56 l0_1 x4_2).f1.f1))).setCell ⟨gb183, 3, none⟩ (.int .i64 ((rd_T56 l0_1 x4_2).f2.f0))).setCell ⟨gb183, 4, none⟩ (.int .i64 ((rd_T56 l0_1 x4_2).f2.f1))) = w57 at n0_ n1_ n2_ ⊢
                            have BK175 := n0_
                            have BK183 := n1_
                            have HB := n2_
                            clear n0_ n1_ n2_
                            have n0_ := Aside0.mk (blk_drew BK175.out)
                            have n1_ := Aside0.mk (blk_drew BK183.out)
                            have n2_ := Aside0.mk (below_drew1 HB.out)
                            clear BK175
                            clear BK183
                            clear HB
                            have BK175 := n0_
                            have BK183 := n1_
                            have HB := n2_
                            clear n0_ n1_ n2_
                            have p185 : 0 ≤ ((ji46) : Int) := of_decide_eq_true (by first | (with_reducible assumption) | assumption)
                            have q185 : (ji46) < (l0_1.length : Int) := of_decide_eq_true (by first | (with_reducible assumption) | assumption)
                            obtain ⟨ad185, e185, hx185_0, hx185_1, hx185_2, hx185_3, hx185_4⟩ := at_T56 HR0_1.out (ji46) p185 q185
                            have hw185_4 := hx185_4
                            have hw185_3 := hx185_3
                            have hw185_2 := hx185_2
                            have hw185_1 := hx185_1
                            have hw185_0 := hx185_0
                            obtain rfl : ad182 = ad185 := (by injection e185)
                            replace hx185_0 := (HB.out.cell (World.block_lt_of_cell? w _ hx185_0)).trans hx185_0
                            replace hx185_1 := (HB.out.cell (World.block_lt_of_cell? w _ hx185_1)).trans hx185_1
                            replace hx185_2 := (HB.out.cell (World.block_lt_of_cell? w _ hx185_2)).trans hx185_2
                            replace hx185_3 := (HB.out.cell (World.block_lt_of_cell? w _ hx185_3)).trans hx185_3
                            replace hx185_4 := (HB.out.cell (World.block_lt_of_cell? w _ hx185_4)).trans hx185_4
                            replace p185 := eq_true p185
                            replace q185 := eq_true q185
                            refine wp_region_bel (by kernel_rfl) (by kernel_rfl) ?_
                            generalize w57.drew = w58 at BK175 BK183 HB hx185_0 hx185_1 hx185_2 hx185_3 hx185_4 ⊢
                            have hbp_ := fun (p_ : Bel w58) => below_step HB.out p_.h
                            have hz0_ : ∀ p_ : Bel w58, p_.v.cell? ⟨gb183, 0, none⟩ = some (.int .i64 ((rd_T56 l0_1 x4_2).f0)) := fun p_ => cell_bel ((blk_cell BK183.out 0).trans rfl) p_
                            have hz1_ : ∀ p_ : Bel w58, p_.v.cell? ⟨gb183, 1, none⟩ = some (.int .i64 ((rd_T56 l0_1 x4_2).f1.f0)) := fun p_ => cell_bel ((blk_cell BK183.out 1).trans rfl) p_
                            have hz2_ : ∀ p_ : Bel w58, p_.v.cell? ⟨gb183, 2, none⟩ = some (.int .i64 ((rd_T56 l0_1 x4_2).f1.f1)) := fun p_ => cell_bel ((blk_cell BK183.out 2).trans rfl) p_
                            have hz3_ : ∀ p_ : Bel w58, p_.v.cell? ⟨gb183, 3, none⟩ = some (.int .i64 ((rd_T56 l0_1 x4_2).f2.f0)) := fun p_ => cell_bel ((blk_cell BK183.out 3).trans rfl) p_
                            have hz4_ : ∀ p_ : Bel w58, p_.v.cell? ⟨gb183, 4, none⟩ = some (.int .i64 ((rd_T56 l0_1 x4_2).f2.f1)) := fun p_ => cell_bel ((blk_cell BK183.out 4).trans rfl) p_
                            have hz5_ : ∀ p_ : Bel w58, p_.v.cell? ⟨gb175, 0, none⟩ = some (.slice A0_0 l0_0.length c0_0) := fun p_ => cell_bel ((blk_cell BK175.out 0).trans rfl) p_
                            have hz6_ : ∀ p_ : Bel w58, p_.v.cell? ⟨gb175, 1, none⟩ = some (.slice (some ad182) l0_1.length c0_1) := fun p_ => cell_bel ((blk_cell BK175.out 1).trans rfl) p_
                            have hz7_ : ∀ p_ : Bel w58, p_.v.cell? (ad182.add (((ji46)).toNat * 5)) = some (.int .i64 ((rd_T56 l0_1 (ji46)).f0)) := fun p_ => cell_bel (((HB.out.cell (World.block_lt_of_cell? w _ hw185_0)).trans hw185_0)) p_
                            have hz8_ : ∀ p_ : Bel w58, p_.v.cell? ⟨(ad182.add (((ji46)).toNat * 5)).block, (ad182.add (((ji46)).toNat * 5)).off + 1, none⟩ = some (.int .i64 ((rd_T56 l0_1 (ji46)).f1.f0)) := fun p_ => cell_bel (((HB.out.cell (World.block_lt_of_cell? w _ hw185_1)).trans hw185_1)) p_
                            have hz9_ : ∀ p_ : Bel w58, p_.v.cell? ⟨(ad182.add (((ji46)).toNat * 5)).block, (ad182.add (((ji46)).toNat * 5)).off + 2, none⟩ = some (.int .i64 ((rd_T56 l0_1 (ji46)).f1.f1)) := fun p_ => cell_bel (((HB.out.cell (World.block_lt_of_cell? w _ hw185_2)).trans hw185_2)) p_
                            have hz10_ : ∀ p_ : Bel w58, p_.v.cell? ⟨(ad182.add (((ji46)).toNat * 5)).block, (ad182.add (((ji46)).toNat * 5)).off + 3, none⟩ = some (.int .i64 ((rd_T56 l0_1 (ji46)).f2.f0)) := fun p_ => cell_bel (((HB.out.cell (World.block_lt_of_cell? w _ hw185_3)).trans hw185_3)) p_
                            have hz11_ : ∀ p_ : Bel w58, p_.v.cell? ⟨(ad182.add (((ji46)).toNat * 5)).block, (ad182.add (((ji46)).toNat * 5)).off + 4, none⟩ = some (.int .i64 ((rd_T56 l0_1 (ji46)).f2.f1)) := fun p_ => cell_bel (((HB.out.cell (World.block_lt_of_cell? w _ hw185_4)).trans hw185_4)) p_
                            repeat (go_big_quiet_step (first
                              | (with_reducible show Calls Try.prog 77 #[.agg #[.int .i64 ((rd_T56 l0_1 x4_2).f0), .int .i64 ((rd_T56 l0_1 x4_2).f1.f0), .int .i64 ((rd_T56 l0_1 x4_2).f1.f1), .int .i64 ((rd_T56 l0_1 x4_2).f2.f0), .int .i64 ((rd_T56 l0_1 x4_2).f2.f1)]] _ _; with_reducible exact calls_bel (spec_EdgeOk.calls ((rd_T56 l0_1 x4_2).f0) ((rd_T56 l0_1 x4_2).f1.f0) ((rd_T56 l0_1 x4_2).f1.f1) ((rd_T56 l0_1 x4_2).f2.f0) ((rd_T56 l0_1 x4_2).f2.f1) true _ A43.out))
                              | (with_reducible show Calls Try.prog 78 #[.agg #[.int .i64 ((rd_T56 l0_1 (ji46)).f0), .int .i64 ((rd_T56 l0_1 (ji46)).f1.f0), .int .i64 ((rd_T56 l0_1 (ji46)).f1.f1), .int .i64 ((rd_T56 l0_1 (ji46)).f2.f0), .int .i64 ((rd_T56 l0_1 (ji46)).f2.f1)], .agg #[.int .i64 ((rd_T56 l0_1 x4_2).f0), .int .i64 ((rd_T56 l0_1 x4_2).f1.f0), .int .i64 ((rd_T56 l0_1 x4_2).f1.f1), .int .i64 ((rd_T56 l0_1 x4_2).f2.f0), .int .i64 ((rd_T56 l0_1 x4_2).f2.f1)]] _ _; with_reducible exact calls_bel (spec_l2Less.calls ((rd_T56 l0_1 (ji46)).f0) ((rd_T56 l0_1 (ji46)).f1.f0) ((rd_T56 l0_1 (ji46)).f1.f1) ((rd_T56 l0_1 (ji46)).f2.f0) ((rd_T56 l0_1 (ji46)).f2.f1) ((rd_T56 l0_1 x4_2).f0) ((rd_T56 l0_1 x4_2).f1.f0) ((rd_T56 l0_1 x4_2).f1.f1) ((rd_T56 l0_1 x4_2).f2.f0) ((rd_T56 l0_1 x4_2).f2.f1) true _ A49.out))
                              | (with_reducible show Calls Try.prog 62 #[.agg #[.slice A0_0 l0_0.length c0_0, .slice (some ad182) l0_1.length c0_1], .agg #[.int .i64 ((rd_T56 l0_1 x4_2).f1.f0), .int .i64 ((rd_T56 l0_1 x4_2).f1.f1)]] _ _; with_reducible refine calls_bel (spec_l2At.calls k2 _ _ l0_0 _ _ l0_1 ((rd_T56 l0_1 x4_2).f1.f0) ((rd_T56 l0_1 x4_2).f1.f1) t187 _ ?side1 ?side2 ?side3 ?side4 A51.out); (case side1 => repeat (first | exact (Kd.C_below HR0_0.out (hbp_ _)) | (with_reducible refine Kd.C_alloc ?_ _) | (with_reducible refine Kd.C_drewN ?_ _) | (with_reducible refine Kd.C_drew ?_))); (case side2 => exact HC0_0.out); (case side3 => repeat (first | exact (Kd.C_below HR0_1.out (hbp_ _)) | (with_reducible refine Kd.C_alloc ?_ _) | (with_reducible refine Kd.C_drewN ?_ _) | (with_reducible refine Kd.C_drew ?_))); (case side4 => exact HC0_1.out))))
                            refine wpQuiet_nil ?_
                            intro w61 hw'
                            obtain ⟨⟨wq_, hb⟩, hw''⟩ := hw'
                            subst hw''
                            clear hbp_ hz0_ hz1_ hz2_ hz3_ hz4_ hz5_ hz6_ hz7_ hz8_ hz9_ hz10_ hz11_
                            have n0_ := Aside0.mk (blk_below (g := gb175) (o := .cells #[.slice A0_0 l0_0.length c0_0, .slice (some ad182) l0_1.length c0_1] 34 (0, 0)) (by (with_reducible repeat (first | refine blk_drewN ?_ _ | refine blk_drew ?_ | refine blk_alloc ?_ _)); exact BK175.out) hb)
                            have n1_ := Aside0.mk (blk_below (g := gb183) (o := .cells #[.int .i64 ((rd_T56 l0_1 x4_2).f0), .int .i64 ((rd_T56 l0_1 x4_2).f1.f0), .int .i64 ((rd_T56 l0_1 x4_2).f1.f1), .int .i64 ((rd_T56 l0_1 x4_2).f2.f0), .int .i64 ((rd_T56 l0_1 x4_2).f2.f1)] 56 (0, 0)) (by (with_reducible repeat (first | refine blk_drewN ?_ _ | refine blk_drew ?_ | refine blk_alloc ?_ _)); exact BK183.out) hb)
                            have n2_ := Aside0.mk (below_step (by repeat (first | (with_reducible first | exact HB.out | apply below_alloc | apply pw_below_drewN | apply below_drew1 | refine below_set ?_ GE175.out | refine below_set ?_ GE183.out) | exact HB.out)) hb)
                            clear BK175
                            clear BK183
                            clear HB
                            have BK175 := n0_
                            have BK183 := n1_
                            have HB := n2_
                            clear n0_ n1_ n2_
                            (try clear hb)
                            (try clear hb2)
                            (try clear hk)
                            (try clear hi)
                            try go_wp2
                            go_ret
                            exact ⟨by first | rfl | (simp [errW_none, errW_some] <;> rfl) | (simp only [← hji46]; first | rfl | (simp [errW_none, errW_some] <;> rfl)) | (simp [*, errW_none, errW_some] <;> rfl), by repeat (first | (with_reducible first | exact HB.out | apply below_alloc | apply pw_below_drewN | apply below_drew1 | refine below_set ?_ GE175.out | refine below_set ?_ GE183.out) | exact HB.out)⟩
                          · rw [if_neg c52] at H
                            have c52b0 : decide (t187 < 0) = false := decide_eq_false c52
                            clear c52
                            replace H := Option.bind_eq_some_iff.mp H
                            obtain ⟨t188, A620, H⟩ := H
                            replace H : (if t188 < 0 then (some false) else (if x4_2 ≥ 56 then (some false) else (spec_GraphOk.l1 k2 (wrap64 (x4_2 + 1)) l0_0 l0_1))) = some r := H
                            have A62 := Aside0.mk A620
                            clear A620
                            by_cases c63 : t188 < 0
                            · rw [if_pos c63] at H
                              have c63b0 : decide (t188 < 0) = true := decide_eq_true c63
                              clear c63
                              obtain rfl := Option.some.inj H
                              have hcz64_0 : wr.cell? ⟨gb175, 0, none⟩ = some (.slice A0_0 l0_0.length c0_0) := (blk_cell BK175.out 0).trans rfl
                              have hcz64_1 : wr.cell? ⟨gb175, 1, none⟩ = some (.slice A0_1 l0_1.length c0_1) := (blk_cell BK175.out 1).trans rfl
                              have hfz64_0 := blk_frozen BK175.out 0
                              have hfz64_1 := blk_frozen BK175.out 1
                              have p182 : 0 ≤ (x4_2 : Int) := of_decide_eq_true (by first | (with_reducible assumption) | assumption)
                              have q182 : x4_2 < (l0_1.length : Int) := of_decide_eq_true (by first | (with_reducible assumption) | assumption)
                              obtain ⟨ad182, e182, hx182_0, hx182_1, hx182_2, hx182_3, hx182_4⟩ := at_T56 HR0_1.out x4_2 p182 q182
                              cases e182
                              replace hx182_0 := (HB.out.cell (World.block_lt_of_cell? w _ hx182_0)).trans hx182_0
                              replace hx182_1 := (HB.out.cell (World.block_lt_of_cell? w _ hx182_1)).trans hx182_1
                              replace hx182_2 := (HB.out.cell (World.block_lt_of_cell? w _ hx182_2)).trans hx182_2
                              replace hx182_3 := (HB.out.cell (World.block_lt_of_cell? w _ hx182_3)).trans hx182_3
                              replace hx182_4 := (HB.out.cell (World.block_lt_of_cell? w _ hx182_4)).trans hx182_4
                              replace p182 := eq_true p182
                              replace q182 := eq_true q182
                              try go_wp2_with (first | ((with_reducible refine gate_dst (N := 5) rfl ?_); refine box_event ?hg (N := 5) ?hd (cs := #[.int .i64 0, .int .i64 0, .int .i64 0, .int .i64 0, .int .i64 0]) (t := 56) ?hr ?_; (case hd => rfl); (case hg => rfl); (case hr => first | (go_simp; done) | (go_simp; rfl)); intro gb183 hg w65 hbox hb; have n0_ := Aside0.mk (blk_below (g := gb175) (o := .cells #[.slice A0_0 l0_0.length c0_0, .slice (some ad182) l0_1.length c0_1] 34 (0, 0)) (by (with_reducible repeat (first | refine blk_drewN ?_ _ | refine blk_drew ?_ | refine blk_alloc ?_ _)); exact BK175.out) hb); have n1_ := Aside0.mk (below_step (by repeat (first | (with_reducible first | exact HB.out | apply below_alloc | apply pw_below_drewN | apply below_drew1 | refine below_set ?_ GE175.out) | exact HB.out)) hb); have n2_ := Aside0.mk (hbox); have n3_ := Aside0.mk ((by rw [hg]; exact (below_size (by repeat (first | (with_reducible first | exact HB.out | apply below_alloc | apply pw_below_drewN | apply below_drew1 | refine below_set ?_ GE175.out) | exact HB.out))) : w.heap.size ≤ gb183)); have n4_ := Aside0.mk ((by rw [hg]; exact (below_size (by repeat (first | (with_reducible first | exact HB.out | apply below_alloc | apply pw_below_drewN | apply below_drew1 | refine below_set ?_ GE175.out) | exact HB.out))) : w.heap.size ≤ gb183)); have n5_ := Aside0.mk ((by rw [hg]; exact Nat.ne_of_lt (blk_lt (g := gb175) (o := .cells #[.slice A0_0 l0_0.length c0_0, .slice (some ad182) l0_1.length c0_1] 34 (0, 0)) (by (with_reducible repeat (first | refine blk_drewN ?_ _ | refine blk_drew ?_ | refine blk_alloc ?_ _)); exact BK175.out)) : gb175 ≠ gb183)); have n6_ := Aside0.mk ((by rw [hg]; exact Nat.ne_of_gt (blk_lt (g := gb175) (o := .cells #[.slice A0_0 l0_0.length c0_0, .slice (some ad182) l0_1.length c0_1] 34 (0, 0)) (by (with_reducible repeat (first | refine blk_drewN ?_ _ | refine blk_drew ?_ | refine blk_alloc ?_ _)); exact BK175.out)) : gb183 ≠ gb175)); clear BK175; clear HB; have BK175 := n0_; have HB := n1_; have BK183 := n2_; have GW183 := n3_; have GE183 := n4_; have NB175_183 := n5_; have NB183_175 := n6_; clear n0_ n1_ n2_ n3_ n4_ n5_ n6_; clear hb hbox hg; have hnb66 := NB183_175.out; have hnc66 := NB175_183.out; have hcz67_0 : w65.cell? ⟨gb183, 0, none⟩ = some (.int .i64 0) := (blk_cell BK183.out 0).trans rfl; have hcz67_1 : w65.cell? ⟨gb183, 1, none⟩ = some (.int .i64 0) := (blk_cell BK183.out 1).trans rfl; have hcz67_2 : w65.cell? ⟨gb183, 2, none⟩ = some (.int .i64 0) := (blk_cell BK183.out 2).trans rfl; have hcz67_3 : w65.cell? ⟨gb183, 3, none⟩ = some (.int .i64 0) := (blk_cell BK183.out 3).trans rfl; have hcz67_4 : w65.cell? ⟨gb183, 4, none⟩ = some (.int .i64 0) := (blk_cell BK183.out 4).trans rfl; have hfz67_0 := blk_frozen BK183.out 0; have hfz67_1 := blk_frozen BK183.out 1; have hfz67_2 := blk_frozen BK183.out 2; have hfz67_3 := blk_frozen BK183.out 3; have hfz67_4 := blk_frozen BK183.out 4))
                              have n0_ : Aside0 ((((((w65.setCell ⟨gb183, 0, none⟩ (.int .i64 ((rd_T56 l0_1 x4_2).f0))).setCell ⟨gb183, 1, none⟩ (.int .i64 ((rd_T56 l0_1 x4_2).f1.f0))).setCell ⟨gb183, 2, none⟩ (.int .i64 ((rd_T56 l0_1 x4_2).f1.f1))).setCell ⟨gb183, 3, none⟩ (.int .i64 ((rd_T56 l0_1 x4_2).f2.f0))).setCell ⟨gb183, 4, none⟩ (.int .i64 ((rd_T56 l0_1 x4_2).f2.f1))).heap[gb175]? = some (.cells #[.slice A0_0 l0_0.length c0_0, .slice (some ad182) l0_1.length c0_1] 34 (0, 0))) := ⟨by (with_reducible repeat (first | refine blk_drewN ?_ _ | refine blk_drew ?_ | refine blk_alloc ?_ _)); refine blk_far ?_ NB175_183.out _; (with_reducible repeat (first | refine blk_drewN ?_ _ | refine blk_drew ?_ | refine blk_alloc ?_ _)); refine blk_far ?_ NB175_183.out _; (with_reducible repeat (first | refine blk_drewN ?_ _ | refine blk_drew ?_ | refine blk_alloc ?_ _)); refine blk_far ?_ NB175_183.out _; (with_reducible repeat (first | refine blk_drewN ?_ _ | refine blk_drew ?_ | refine blk_alloc ?_ _)); refine blk_far ?_ NB175_183.out _; (with_reducible repeat (first | refine blk_drewN ?_ _ | refine blk_drew ?_ | refine blk_alloc ?_ _)); refine blk_far ?_ NB175_183.out _; (with_reducible repeat (first | refine blk_drewN ?_ _ | refine blk_drew ?_ | refine blk_alloc ?_ _)); exact BK175.out⟩
                              have n1_ : Aside0 ((((((w65.setCell ⟨gb183, 0, none⟩ (.int .i64 ((rd_T56 l0_1 x4_2).f0))).setCell ⟨gb183, 1, none⟩ (.int .i64 ((rd_T56 l0_1 x4_2).f1.f0))).setCell ⟨gb183, 2, none⟩ (.int .i64 ((rd_T56 l0_1 x4_2).f1.f1))).setCell ⟨gb183, 3, none⟩ (.int .i64 ((rd_T56 l0_1 x4_2).f2.f0))).setCell ⟨gb183, 4, none⟩ (.int .i64 ((rd_T56 l0_1 x4_2).f2.f1))).heap[gb183]? = some (.cells #[.int .i64 ((rd_T56 l0_1 x4_2).f0), .int .i64 ((rd_T56 l0_1 x4_2).f1.f0), .int .i64 ((rd_T56 l0_1 x4_2).f1.f1), .int .i64 ((rd_T56 l0_1 x4_2).f2.f0), .int .i64 ((rd_T56 l0_1 x4_2).f2.f1)] 56 (0, 0))) := ⟨by (with_reducible repeat (first | refine blk_drewN ?_ _ | refine blk_drew ?_ | refine blk_alloc ?_ _)); refine blk_put (cs := #[.int .i64 ((rd_T56 l0_1 x4_2).f0), .int .i64 ((rd_T56 l0_1 x4_2).f1.f0), .int .i64 ((rd_T56 l0_1 x4_2).f1.f1), .int .i64 ((rd_T56 l0_1 x4_2).f2.f0), .int .i64 0]) ?_ 4 _ rfl; (with_reducible repeat (first | refine blk_drewN ?_ _ | refine blk_drew ?_ | refine blk_alloc ?_ _)); refine blk_put (cs := #[.int .i64 ((rd_T56 l0_1 x4_2).f0), .int .i64 ((rd_T56 l0_1 x4_2).f1.f0), .int .i64 ((rd_T56 l0_1 x4_2).f1.f1), .int .i64 0, .int .i64 0]) ?_ 3 _ rfl; (with_reducible repeat (first | refine blk_drewN ?_ _ | refine blk_drew ?_ | refine blk_alloc ?_ _)); refine blk_put (cs := #[.int .i64 ((rd_T56 l0_1 x4_2).f0), .int .i64 ((rd_T56 l0_1 x4_2).f1.f0), .int .i64 0, .int .i64 0, .int .i64 0]) ?_ 2 _ rfl; (with_reducible repeat (first | refine blk_drewN ?_ _ | refine blk_drew ?_ | refine blk_alloc ?_ _)); refine blk_put (cs := #[.int .i64 ((rd_T56 l0_1 x4_2).f0), .int .i64 0, .int .i64 0, .int .i64 0, .int .i64 0]) ?_ 1 _ rfl; (with_reducible repeat (first | refine blk_drewN ?_ _ | refine blk_drew ?_ | refine blk_alloc ?_ _)); refine blk_put (cs := #[.int .i64 0, .int .i64 0, .int .i64 0, .int .i64 0, .int .i64 0]) ?_ 0 _ rfl; (with_reducible repeat (first | refine blk_drewN ?_ _ | refine blk_drew ?_ | refine blk_alloc ?_ _)); exact BK183.out⟩
                              have n2_ : Aside0 (Below w.heap.size w (((((w65.setCell ⟨gb183, 0, none⟩ (.int .i64 ((rd_T56 l0_1 x4_2).f0))).setCell ⟨gb183, 1, none⟩ (.int .i64 ((rd_T56 l0_1 x4_2).f1.f0))).setCell ⟨gb183, 2, none⟩ (.int .i64 ((rd_T56 l0_1 x4_2).f1.f1))).setCell ⟨gb183, 3, none⟩ (.int .i64 ((rd_T56 l0_1 x4_2).f2.f0))).setCell ⟨gb183, 4, none⟩ (.int .i64 ((rd_T56 l0_1 x4_2).f2.f1)))) := ⟨by repeat (first | (with_reducible first | exact HB.out | apply below_alloc | apply pw_below_drewN | apply below_drew1 | refine below_set ?_ GE175.out | refine below_set ?_ GE183.out) | exact HB.out)⟩
                              (try clear BK175)
                              (try clear BK183)
                              (try clear HB)
                              generalize (((((w65.setCell ⟨gb183, 0, none⟩ (.int .i64 ((rd_T56 l0_1 x4_2).f0))).setCell ⟨gb183, 1, none⟩ (.int .i64 ((rd_T56 l0_1 x4_2).f1.f0))).setCell ⟨gb183, 2, none⟩ (.int .i64 ((rd_T56 l0_1 x4_2).f1.f1))).setCell ⟨gb183, 3, none⟩ (.int .i64 ((rd_T56 l0_1 x4_2).f2.f0))).setCell ⟨gb183, 4, none⟩ (.int .i64 ((rd_T56 l0_1 x4_2).f2.f1))) = w68 at n0_ n1_ n2_ ⊢
                              have BK175 := n0_
                              have BK183 := n1_
                              have HB := n2_
                              clear n0_ n1_ n2_
                              have n0_ := Aside0.mk (blk_drew BK175.out)
                              have n1_ := Aside0.mk (blk_drew BK183.out)
                              have n2_ := Aside0.mk (below_drew1 HB.out)
                              clear BK175
                              clear BK183
                              clear HB
                              have BK175 := n0_
                              have BK183 := n1_
                              have HB := n2_
                              clear n0_ n1_ n2_
                              have p185 : 0 ≤ ((ji46) : Int) := of_decide_eq_true (by first | (with_reducible assumption) | assumption)
                              have q185 : (ji46) < (l0_1.length : Int) := of_decide_eq_true (by first | (with_reducible assumption) | assumption)
                              obtain ⟨ad185, e185, hx185_0, hx185_1, hx185_2, hx185_3, hx185_4⟩ := at_T56 HR0_1.out (ji46) p185 q185
                              have hw185_4 := hx185_4
                              have hw185_3 := hx185_3
                              have hw185_2 := hx185_2
                              have hw185_1 := hx185_1
                              have hw185_0 := hx185_0
                              obtain rfl : ad182 = ad185 := (by injection e185)
                              replace hx185_0 := (HB.out.cell (World.block_lt_of_cell? w _ hx185_0)).trans hx185_0
                              replace hx185_1 := (HB.out.cell (World.block_lt_of_cell? w _ hx185_1)).trans hx185_1
                              replace hx185_2 := (HB.out.cell (World.block_lt_of_cell? w _ hx185_2)).trans hx185_2
                              replace hx185_3 := (HB.out.cell (World.block_lt_of_cell? w _ hx185_3)).trans hx185_3
                              replace hx185_4 := (HB.out.cell (World.block_lt_of_cell? w _ hx185_4)).trans hx185_4
                              replace p185 := eq_true p185
                              replace q185 := eq_true q185
                              refine wp_region_bel (by kernel_rfl) (by kernel_rfl) ?_
                              generalize w68.drew = w69 at BK175 BK183 HB hx185_0 hx185_1 hx185_2 hx185_3 hx185_4 ⊢
                              have hbp_ := fun (p_ : Bel w69) => below_step HB.out p_.h
                              have hz0_ : ∀ p_ : Bel w69, p_.v.cell? ⟨gb183, 0, none⟩ = some (.int .i64 ((rd_T56 l0_1 x4_2).f0)) := fun p_ => cell_bel ((blk_cell BK183.out 0).trans rfl) p_
                              have hz1_ : ∀ p_ : Bel w69, p_.v.cell? ⟨gb183, 1, none⟩ = some (.int .i64 ((rd_T56 l0_1 x4_2).f1.f0)) := fun p_ => cell_bel ((blk_cell BK183.out 1).trans rfl) p_
                              have hz2_ : ∀ p_ : Bel w69, p_.v.cell? ⟨gb183, 2, none⟩ = some (.int .i64 ((rd_T56 l0_1 x4_2).f1.f1)) := fun p_ => cell_bel ((blk_cell BK183.out 2).trans rfl) p_
                              have hz3_ : ∀ p_ : Bel w69, p_.v.cell? ⟨gb183, 3, none⟩ = some (.int .i64 ((rd_T56 l0_1 x4_2).f2.f0)) := fun p_ => cell_bel ((blk_cell BK183.out 3).trans rfl) p_
                              have hz4_ : ∀ p_ : Bel w69, p_.v.cell? ⟨gb183, 4, none⟩ = some (.int .i64 ((rd_T56 l0_1 x4_2).f2.f1)) := fun p_ => cell_bel ((blk_cell BK183.out 4).trans rfl) p_
                              have hz5_ : ∀ p_ : Bel w69, p_.v.cell? ⟨gb175, 0, none⟩ = some (.slice A0_0 l0_0.length c0_0) := fun p_ => cell_bel ((blk_cell BK175.out 0).trans rfl) p_
                              have hz6_ : ∀ p_ : Bel w69, p_.v.cell? ⟨gb175, 1, none⟩ = some (.slice (some ad182) l0_1.length c0_1) := fun p_ => cell_bel ((blk_cell BK175.out 1).trans rfl) p_
                              have hz7_ : ∀ p_ : Bel w69, p_.v.cell? (ad182.add (((ji46)).toNat * 5)) = some (.int .i64 ((rd_T56 l0_1 (ji46)).f0)) := fun p_ => cell_bel (((HB.out.cell (World.block_lt_of_cell? w _ hw185_0)).trans hw185_0)) p_
                              have hz8_ : ∀ p_ : Bel w69, p_.v.cell? ⟨(ad182.add (((ji46)).toNat * 5)).block, (ad182.add (((ji46)).toNat * 5)).off + 1, none⟩ = some (.int .i64 ((rd_T56 l0_1 (ji46)).f1.f0)) := fun p_ => cell_bel (((HB.out.cell (World.block_lt_of_cell? w _ hw185_1)).trans hw185_1)) p_
                              have hz9_ : ∀ p_ : Bel w69, p_.v.cell? ⟨(ad182.add (((ji46)).toNat * 5)).block, (ad182.add (((ji46)).toNat * 5)).off + 2, none⟩ = some (.int .i64 ((rd_T56 l0_1 (ji46)).f1.f1)) := fun p_ => cell_bel (((HB.out.cell (World.block_lt_of_cell? w _ hw185_2)).trans hw185_2)) p_
                              have hz10_ : ∀ p_ : Bel w69, p_.v.cell? ⟨(ad182.add (((ji46)).toNat * 5)).block, (ad182.add (((ji46)).toNat * 5)).off + 3, none⟩ = some (.int .i64 ((rd_T56 l0_1 (ji46)).f2.f0)) := fun p_ => cell_bel (((HB.out.cell (World.block_lt_of_cell? w _ hw185_3)).trans hw185_3)) p_
                              have hz11_ : ∀ p_ : Bel w69, p_.v.cell? ⟨(ad182.add (((ji46)).toNat * 5)).block, (ad182.add (((ji46)).toNat * 5)).off + 4, none⟩ = some (.int .i64 ((rd_T56 l0_1 (ji46)).f2.f1)) := fun p_ => cell_bel (((HB.out.cell (World.block_lt_of_cell? w _ hw185_4)).trans hw185_4)) p_
                              repeat (go_big_quiet_step (first
                                | (with_reducible show Calls Try.prog 77 #[.agg #[.int .i64 ((rd_T56 l0_1 x4_2).f0), .int .i64 ((rd_T56 l0_1 x4_2).f1.f0), .int .i64 ((rd_T56 l0_1 x4_2).f1.f1), .int .i64 ((rd_T56 l0_1 x4_2).f2.f0), .int .i64 ((rd_T56 l0_1 x4_2).f2.f1)]] _ _; with_reducible exact calls_bel (spec_EdgeOk.calls ((rd_T56 l0_1 x4_2).f0) ((rd_T56 l0_1 x4_2).f1.f0) ((rd_T56 l0_1 x4_2).f1.f1) ((rd_T56 l0_1 x4_2).f2.f0) ((rd_T56 l0_1 x4_2).f2.f1) true _ A43.out))
                                | (with_reducible show Calls Try.prog 78 #[.agg #[.int .i64 ((rd_T56 l0_1 (ji46)).f0), .int .i64 ((rd_T56 l0_1 (ji46)).f1.f0), .int .i64 ((rd_T56 l0_1 (ji46)).f1.f1), .int .i64 ((rd_T56 l0_1 (ji46)).f2.f0), .int .i64 ((rd_T56 l0_1 (ji46)).f2.f1)], .agg #[.int .i64 ((rd_T56 l0_1 x4_2).f0), .int .i64 ((rd_T56 l0_1 x4_2).f1.f0), .int .i64 ((rd_T56 l0_1 x4_2).f1.f1), .int .i64 ((rd_T56 l0_1 x4_2).f2.f0), .int .i64 ((rd_T56 l0_1 x4_2).f2.f1)]] _ _; with_reducible exact calls_bel (spec_l2Less.calls ((rd_T56 l0_1 (ji46)).f0) ((rd_T56 l0_1 (ji46)).f1.f0) ((rd_T56 l0_1 (ji46)).f1.f1) ((rd_T56 l0_1 (ji46)).f2.f0) ((rd_T56 l0_1 (ji46)).f2.f1) ((rd_T56 l0_1 x4_2).f0) ((rd_T56 l0_1 x4_2).f1.f0) ((rd_T56 l0_1 x4_2).f1.f1) ((rd_T56 l0_1 x4_2).f2.f0) ((rd_T56 l0_1 x4_2).f2.f1) true _ A49.out))
                                | (with_reducible show Calls Try.prog 62 #[.agg #[.slice A0_0 l0_0.length c0_0, .slice (some ad182) l0_1.length c0_1], .agg #[.int .i64 ((rd_T56 l0_1 x4_2).f1.f0), .int .i64 ((rd_T56 l0_1 x4_2).f1.f1)]] _ _; with_reducible refine calls_bel (spec_l2At.calls k2 _ _ l0_0 _ _ l0_1 ((rd_T56 l0_1 x4_2).f1.f0) ((rd_T56 l0_1 x4_2).f1.f1) t187 _ ?side1 ?side2 ?side3 ?side4 A51.out); (case side1 => repeat (first | exact (Kd.C_below HR0_0.out (hbp_ _)) | (with_reducible refine Kd.C_alloc ?_ _) | (with_reducible refine Kd.C_drewN ?_ _) | (with_reducible refine Kd.C_drew ?_))); (case side2 => exact HC0_0.out); (case side3 => repeat (first | exact (Kd.C_below HR0_1.out (hbp_ _)) | (with_reducible refine Kd.C_alloc ?_ _) | (with_reducible refine Kd.C_drewN ?_ _) | (with_reducible refine Kd.C_drew ?_))); (case side4 => exact HC0_1.out))
                                | (with_reducible show Calls Try.prog 62 #[.agg #[.slice A0_0 l0_0.length c0_0, .slice (some ad182) l0_1.length c0_1], .agg #[.int .i64 ((rd_T56 l0_1 x4_2).f2.f0), .int .i64 ((rd_T56 l0_1 x4_2).f2.f1)]] _ _; with_reducible refine calls_bel (spec_l2At.calls k2 _ _ l0_0 _ _ l0_1 ((rd_T56 l0_1 x4_2).f2.f0) ((rd_T56 l0_1 x4_2).f2.f1) t188 _ ?side1 ?side2 ?side3 ?side4 A62.out); (case side1 => repeat (first | exact (Kd.C_below HR0_0.out (hbp_ _)) | (with_reducible refine Kd.C_alloc ?_ _) | (with_reducible refine Kd.C_drewN ?_ _) | (with_reducible refine Kd.C_drew ?_))); (case side2 => exact HC0_0.out); (case side3 => repeat (first | exact (Kd.C_below HR0_1.out (hbp_ _)) | (with_reducible refine Kd.C_alloc ?_ _) | (with_reducible refine Kd.C_drewN ?_ _) | (with_reducible refine Kd.C_drew ?_))); (case side4 => exact HC0_1.out))))
                              refine wpQuiet_nil ?_
                              intro w73 hw'
                              obtain ⟨⟨wq_, hb⟩, hw''⟩ := hw'
                              subst hw''
                              clear hbp_ hz0_ hz1_ hz2_ hz3_ hz4_ hz5_ hz6_ hz7_ hz8_ hz9_ hz10_ hz11_
                              have n0_ := Aside0.mk (blk_below (g := gb175) (o := .cells #[.slice A0_0 l0_0.length c0_0, .slice (some ad182) l0_1.length c0_1] 34 (0, 0)) (by (with_reducible repeat (first | refine blk_drewN ?_ _ | refine blk_drew ?_ | refine blk_alloc ?_ _)); exact BK175.out) hb)
                              have n1_ := Aside0.mk (blk_below (g := gb183) (o := .cells #[.int .i64 ((rd_T56 l0_1 x4_2).f0), .int .i64 ((rd_T56 l0_1 x4_2).f1.f0), .int .i64 ((rd_T56 l0_1 x4_2).f1.f1), .int .i64 ((rd_T56 l0_1 x4_2).f2.f0), .int .i64 ((rd_T56 l0_1 x4_2).f2.f1)] 56 (0, 0)) (by (with_reducible repeat (first | refine blk_drewN ?_ _ | refine blk_drew ?_ | refine blk_alloc ?_ _)); exact BK183.out) hb)
                              have n2_ := Aside0.mk (below_step (by repeat (first | (with_reducible first | exact HB.out | apply below_alloc | apply pw_below_drewN | apply below_drew1 | refine below_set ?_ GE175.out | refine below_set ?_ GE183.out) | exact HB.out)) hb)
                              clear BK175
                              clear BK183
                              clear HB
                              have BK175 := n0_
                              have BK183 := n1_
                              have HB := n2_
                              clear n0_ n1_ n2_
                              (try clear hb)
                              (try clear hb2)
                              (try clear hk)
                              (try clear hi)
                              try go_wp2
                              go_ret
                              exact ⟨by first | rfl | (simp [errW_none, errW_some] <;> rfl) | (simp only [← hji46]; first | rfl | (simp [errW_none, errW_some] <;> rfl)) | (simp [*, errW_none, errW_some] <;> rfl), by repeat (first | (with_reducible first | exact HB.out | apply below_alloc | apply pw_below_drewN | apply below_drew1 | refine below_set ?_ GE175.out | refine below_set ?_ GE183.out) | exact HB.out)⟩
                            · rw [if_neg c63] at H
                              have c63b0 : decide (t188 < 0) = false := decide_eq_false c63
                              clear c63
                              by_cases c74 : x4_2 ≥ 56
                              · rw [if_pos c74] at H
                                have c74b0 : decide (56 ≤ x4_2) = true := decide_eq_true c74
                                clear c74
                                obtain rfl := Option.some.inj H
                                have hcz75_0 : wr.cell? ⟨gb175, 0, none⟩ = some (.slice A0_0 l0_0.length c0_0) := (blk_cell BK175.out 0).trans rfl
                                have hcz75_1 : wr.cell? ⟨gb175, 1, none⟩ = some (.slice A0_1 l0_1.length c0_1) := (blk_cell BK175.out 1).trans rfl
                                have hfz75_0 := blk_frozen BK175.out 0
                                have hfz75_1 := blk_frozen BK175.out 1
                                have p182 : 0 ≤ (x4_2 : Int) := of_decide_eq_true (by first | (with_reducible assumption) | assumption)
                                have q182 : x4_2 < (l0_1.length : Int) := of_decide_eq_true (by first | (with_reducible assumption) | assumption)
                                obtain ⟨ad182, e182, hx182_0, hx182_1, hx182_2, hx182_3, hx182_4⟩ := at_T56 HR0_1.out x4_2 p182 q182
                                cases e182
                                replace hx182_0 := (HB.out.cell (World.block_lt_of_cell? w _ hx182_0)).trans hx182_0
                                replace hx182_1 := (HB.out.cell (World.block_lt_of_cell? w _ hx182_1)).trans hx182_1
                                replace hx182_2 := (HB.out.cell (World.block_lt_of_cell? w _ hx182_2)).trans hx182_2
                                replace hx182_3 := (HB.out.cell (World.block_lt_of_cell? w _ hx182_3)).trans hx182_3
                                replace hx182_4 := (HB.out.cell (World.block_lt_of_cell? w _ hx182_4)).trans hx182_4
                                replace p182 := eq_true p182
                                replace q182 := eq_true q182
                                try go_wp2_with (first | ((with_reducible refine gate_dst (N := 5) rfl ?_); refine box_event ?hg (N := 5) ?hd (cs := #[.int .i64 0, .int .i64 0, .int .i64 0, .int .i64 0, .int .i64 0]) (t := 56) ?hr ?_; (case hd => rfl); (case hg => rfl); (case hr => first | (go_simp; done) | (go_simp; rfl)); intro gb183 hg w76 hbox hb; have n0_ := Aside0.mk (blk_below (g := gb175) (o := .cells #[.slice A0_0 l0_0.length c0_0, .slice (some ad182) l0_1.length c0_1] 34 (0, 0)) (by (with_reducible repeat (first | refine blk_drewN ?_ _ | refine blk_drew ?_ | refine blk_alloc ?_ _)); exact BK175.out) hb); have n1_ := Aside0.mk (below_step (by repeat (first | (with_reducible first | exact HB.out | apply below_alloc | apply pw_below_drewN | apply below_drew1 | refine below_set ?_ GE175.out) | exact HB.out)) hb); have n2_ := Aside0.mk (hbox); have n3_ := Aside0.mk ((by rw [hg]; exact (below_size (by repeat (first | (with_reducible first | exact HB.out | apply below_alloc | apply pw_below_drewN | apply below_drew1 | refine below_set ?_ GE175.out) | exact HB.out))) : w.heap.size ≤ gb183)); have n4_ := Aside0.mk ((by rw [hg]; exact (below_size (by repeat (first | (with_reducible first | exact HB.out | apply below_alloc | apply pw_below_drewN | apply below_drew1 | refine below_set ?_ GE175.out) | exact HB.out))) : w.heap.size ≤ gb183)); have n5_ := Aside0.mk ((by rw [hg]; exact Nat.ne_of_lt (blk_lt (g := gb175) (o := .cells #[.slice A0_0 l0_0.length c0_0, .slice (some ad182) l0_1.length c0_1] 34 (0, 0)) (by (with_reducible repeat (first | refine blk_drewN ?_ _ | refine blk_drew ?_ | refine blk_alloc ?_ _)); exact BK175.out)) : gb175 ≠ gb183)); have n6_ := Aside0.mk ((by rw [hg]; exact Nat.ne_of_gt (blk_lt (g := gb175) (o := .cells #[.slice A0_0 l0_0.length c0_0, .slice (some ad182) l0_1.length c0_1] 34 (0, 0)) (by (with_reducible repeat (first | refine blk_drewN ?_ _ | refine blk_drew ?_ | refine blk_alloc ?_ _)); exact BK175.out)) : gb183 ≠ gb175)); clear BK175; clear HB; have BK175 := n0_; have HB := n1_; have BK183 := n2_; have GW183 := n3_; have GE183 := n4_; have NB175_183 := n5_; have NB183_175 := n6_; clear n0_ n1_ n2_ n3_ n4_ n5_ n6_; clear hb hbox hg; have hnb77 := NB183_175.out; have hnc77 := NB175_183.out; have hcz78_0 : w76.cell? ⟨gb183, 0, none⟩ = some (.int .i64 0) := (blk_cell BK183.out 0).trans rfl; have hcz78_1 : w76.cell? ⟨gb183, 1, none⟩ = some (.int .i64 0) := (blk_cell BK183.out 1).trans rfl; have hcz78_2 : w76.cell? ⟨gb183, 2, none⟩ = some (.int .i64 0) := (blk_cell BK183.out 2).trans rfl; have hcz78_3 : w76.cell? ⟨gb183, 3, none⟩ = some (.int .i64 0) := (blk_cell BK183.out 3).trans rfl; have hcz78_4 : w76.cell? ⟨gb183, 4, none⟩ = some (.int .i64 0) := (blk_cell BK183.out 4).trans rfl; have hfz78_0 := blk_frozen BK183.out 0; have hfz78_1 := blk_frozen BK183.out 1; have hfz78_2 := blk_frozen BK183.out 2; have hfz78_3 := blk_frozen BK183.out 3; have hfz78_4 := blk_frozen BK183.out 4))
                                have n0_ : Aside0 ((((((w76.setCell ⟨gb183, 0, none⟩ (.int .i64 ((rd_T56 l0_1 x4_2).f0))).setCell ⟨gb183, 1, none⟩ (.int .i64 ((rd_T56 l0_1 x4_2).f1.f0))).setCell ⟨gb183, 2, none⟩ (.int .i64 ((rd_T56 l0_1 x4_2).f1.f1))).setCell ⟨gb183, 3, none⟩ (.int .i64 ((rd_T56 l0_1 x4_2).f2.f0))).setCell ⟨gb183, 4, none⟩ (.int .i64 ((rd_T56 l0_1 x4_2).f2.f1))).heap[gb175]? = some (.cells #[.slice A0_0 l0_0.length c0_0, .slice (some ad182) l0_1.length c0_1] 34 (0, 0))) := ⟨by (with_reducible repeat (first | refine blk_drewN ?_ _ | refine blk_drew ?_ | refine blk_alloc ?_ _)); refine blk_far ?_ NB175_183.out _; (with_reducible repeat (first | refine blk_drewN ?_ _ | refine blk_drew ?_ | refine blk_alloc ?_ _)); refine blk_far ?_ NB175_183.out _; (with_reducible repeat (first | refine blk_drewN ?_ _ | refine blk_drew ?_ | refine blk_alloc ?_ _)); refine blk_far ?_ NB175_183.out _; (with_reducible repeat (first | refine blk_drewN ?_ _ | refine blk_drew ?_ | refine blk_alloc ?_ _)); refine blk_far ?_ NB175_183.out _; (with_reducible repeat (first | refine blk_drewN ?_ _ | refine blk_drew ?_ | refine blk_alloc ?_ _)); refine blk_far ?_ NB175_183.out _; (with_reducible repeat (first | refine blk_drewN ?_ _ | refine blk_drew ?_ | refine blk_alloc ?_ _)); exact BK175.out⟩
                                have n1_ : Aside0 ((((((w76.setCell ⟨gb183, 0, none⟩ (.int .i64 ((rd_T56 l0_1 x4_2).f0))).setCell ⟨gb183, 1, none⟩ (.int .i64 ((rd_T56 l0_1 x4_2).f1.f0))).setCell ⟨gb183, 2, none⟩ (.int .i64 ((rd_T56 l0_1 x4_2).f1.f1))).setCell ⟨gb183, 3, none⟩ (.int .i64 ((rd_T56 l0_1 x4_2).f2.f0))).setCell ⟨gb183, 4, none⟩ (.int .i64 ((rd_T56 l0_1 x4_2).f2.f1))).heap[gb183]? = some (.cells #[.int .i64 ((rd_T56 l0_1 x4_2).f0), .int .i64 ((rd_T56 l0_1 x4_2).f1.f0), .int .i64 ((rd_T56 l0_1 x4_2).f1.f1), .int .i64 ((rd_T56 l0_1 x4_2).f2.f0), .int .i64 ((rd_T56 l0_1 x4_2).f2.f1)] 56 (0, 0))) := ⟨by (with_reducible repeat (first | refine blk_drewN ?_ _ | refine blk_drew ?_ | refine blk_alloc ?_ _)); refine blk_put (cs := #[.int .i64 ((rd_T56 l0_1 x4_2).f0), .int .i64 ((rd_T56 l0_1 x4_2).f1.f0), .int .i64 ((rd_T56 l0_1 x4_2).f1.f1), .int .i64 ((rd_T56 l0_1 x4_2).f2.f0), .int .i64 0]) ?_ 4 _ rfl; (with_reducible repeat (first | refine blk_drewN ?_ _ | refine blk_drew ?_ | refine blk_alloc ?_ _)); refine blk_put (cs := #[.int .i64 ((rd_T56 l0_1 x4_2).f0), .int .i64 ((rd_T56 l0_1 x4_2).f1.f0), .int .i64 ((rd_T56 l0_1 x4_2).f1.f1), .int .i64 0, .int .i64 0]) ?_ 3 _ rfl; (with_reducible repeat (first | refine blk_drewN ?_ _ | refine blk_drew ?_ | refine blk_alloc ?_ _)); refine blk_put (cs := #[.int .i64 ((rd_T56 l0_1 x4_2).f0), .int .i64 ((rd_T56 l0_1 x4_2).f1.f0), .int .i64 0, .int .i64 0, .int .i64 0]) ?_ 2 _ rfl; (with_reducible repeat (first | refine blk_drewN ?_ _ | refine blk_drew ?_ | refine blk_alloc ?_ _)); refine blk_put (cs := #[.int .i64 ((rd_T56 l0_1 x4_2).f0), .int .i64 0, .int .i64 0, .int .i64 0, .int .i64 0]) ?_ 1 _ rfl; (with_reducible repeat (first | refine blk_drewN ?_ _ | refine blk_drew ?_ | refine blk_alloc ?_ _)); refine blk_put (cs := #[.int .i64 0, .int .i64 0, .int .i64 0, .int .i64 0, .int .i64 0]) ?_ 0 _ rfl; (with_reducible repeat (first | refine blk_drewN ?_ _ | refine blk_drew ?_ | refine blk_alloc ?_ _)); exact BK183.out⟩
                                have n2_ : Aside0 (Below w.heap.size w (((((w76.setCell ⟨gb183, 0, none⟩ (.int .i64 ((rd_T56 l0_1 x4_2).f0))).setCell ⟨gb183, 1, none⟩ (.int .i64 ((rd_T56 l0_1 x4_2).f1.f0))).setCell ⟨gb183, 2, none⟩ (.int .i64 ((rd_T56 l0_1 x4_2).f1.f1))).setCell ⟨gb183, 3, none⟩ (.int .i64 ((rd_T56 l0_1 x4_2).f2.f0))).setCell ⟨gb183, 4, none⟩ (.int .i64 ((rd_T56 l0_1 x4_2).f2.f1)))) := ⟨by repeat (first | (with_reducible first | exact HB.out | apply below_alloc | apply pw_below_drewN | apply below_drew1 | refine below_set ?_ GE175.out | refine below_set ?_ GE183.out) | exact HB.out)⟩
                                (try clear BK175)
                                (try clear BK183)
                                (try clear HB)
                                generalize (((((w76.setCell ⟨gb183, 0, none⟩ (.int .i64 ((rd_T56 l0_1 x4_2).f0))).setCell ⟨gb183, 1, none⟩ (.int .i64 ((rd_T56 l0_1 x4_2).f1.f0))).setCell ⟨gb183, 2, none⟩ (.int .i64 ((rd_T56 l0_1 x4_2).f1.f1))).setCell ⟨gb183, 3, none⟩ (.int .i64 ((rd_T56 l0_1 x4_2).f2.f0))).setCell ⟨gb183, 4, none⟩ (.int .i64 ((rd_T56 l0_1 x4_2).f2.f1))) = w79 at n0_ n1_ n2_ ⊢
                                have BK175 := n0_
                                have BK183 := n1_
                                have HB := n2_
                                clear n0_ n1_ n2_
                                have n0_ := Aside0.mk (blk_drew BK175.out)
                                have n1_ := Aside0.mk (blk_drew BK183.out)
                                have n2_ := Aside0.mk (below_drew1 HB.out)
                                clear BK175
                                clear BK183
                                clear HB
                                have BK175 := n0_
                                have BK183 := n1_
                                have HB := n2_
                                clear n0_ n1_ n2_
                                have p185 : 0 ≤ ((ji46) : Int) := of_decide_eq_true (by first | (with_reducible assumption) | assumption)
                                have q185 : (ji46) < (l0_1.length : Int) := of_decide_eq_true (by first | (with_reducible assumption) | assumption)
                                obtain ⟨ad185, e185, hx185_0, hx185_1, hx185_2, hx185_3, hx185_4⟩ := at_T56 HR0_1.out (ji46) p185 q185
                                have hw185_4 := hx185_4
                                have hw185_3 := hx185_3
                                have hw185_2 := hx185_2
                                have hw185_1 := hx185_1
                                have hw185_0 := hx185_0
                                obtain rfl : ad182 = ad185 := (by injection e185)
                                replace hx185_0 := (HB.out.cell (World.block_lt_of_cell? w _ hx185_0)).trans hx185_0
                                replace hx185_1 := (HB.out.cell (World.block_lt_of_cell? w _ hx185_1)).trans hx185_1
                                replace hx185_2 := (HB.out.cell (World.block_lt_of_cell? w _ hx185_2)).trans hx185_2
                                replace hx185_3 := (HB.out.cell (World.block_lt_of_cell? w _ hx185_3)).trans hx185_3
                                replace hx185_4 := (HB.out.cell (World.block_lt_of_cell? w _ hx185_4)).trans hx185_4
                                replace p185 := eq_true p185
                                replace q185 := eq_true q185
                                refine wp_region_bel (by kernel_rfl) (by kernel_rfl) ?_
                                generalize w79.drew = w80 at BK175 BK183 HB hx185_0 hx185_1 hx185_2 hx185_3 hx185_4 ⊢
                                have hbp_ := fun (p_ : Bel w80) => below_step HB.out p_.h
                                have hz0_ : ∀ p_ : Bel w80, p_.v.cell? ⟨gb183, 0, none⟩ = some (.int .i64 ((rd_T56 l0_1 x4_2).f0)) := fun p_ => cell_bel ((blk_cell BK183.out 0).trans rfl) p_
                                have hz1_ : ∀ p_ : Bel w80, p_.v.cell? ⟨gb183, 1, none⟩ = some (.int .i64 ((rd_T56 l0_1 x4_2).f1.f0)) := fun p_ => cell_bel ((blk_cell BK183.out 1).trans rfl) p_
                                have hz2_ : ∀ p_ : Bel w80, p_.v.cell? ⟨gb183, 2, none⟩ = some (.int .i64 ((rd_T56 l0_1 x4_2).f1.f1)) := fun p_ => cell_bel ((blk_cell BK183.out 2).trans rfl) p_
                                have hz3_ : ∀ p_ : Bel w80, p_.v.cell? ⟨gb183, 3, none⟩ = some (.int .i64 ((rd_T56 l0_1 x4_2).f2.f0)) := fun p_ => cell_bel ((blk_cell BK183.out 3).trans rfl) p_
                                have hz4_ : ∀ p_ : Bel w80, p_.v.cell? ⟨gb183, 4, none⟩ = some (.int .i64 ((rd_T56 l0_1 x4_2).f2.f1)) := fun p_ => cell_bel ((blk_cell BK183.out 4).trans rfl) p_
                                have hz5_ : ∀ p_ : Bel w80, p_.v.cell? ⟨gb175, 0, none⟩ = some (.slice A0_0 l0_0.length c0_0) := fun p_ => cell_bel ((blk_cell BK175.out 0).trans rfl) p_
                                have hz6_ : ∀ p_ : Bel w80, p_.v.cell? ⟨gb175, 1, none⟩ = some (.slice (some ad182) l0_1.length c0_1) := fun p_ => cell_bel ((blk_cell BK175.out 1).trans rfl) p_
                                have hz7_ : ∀ p_ : Bel w80, p_.v.cell? (ad182.add (((ji46)).toNat * 5)) = some (.int .i64 ((rd_T56 l0_1 (ji46)).f0)) := fun p_ => cell_bel (((HB.out.cell (World.block_lt_of_cell? w _ hw185_0)).trans hw185_0)) p_
                                have hz8_ : ∀ p_ : Bel w80, p_.v.cell? ⟨(ad182.add (((ji46)).toNat * 5)).block, (ad182.add (((ji46)).toNat * 5)).off + 1, none⟩ = some (.int .i64 ((rd_T56 l0_1 (ji46)).f1.f0)) := fun p_ => cell_bel (((HB.out.cell (World.block_lt_of_cell? w _ hw185_1)).trans hw185_1)) p_
                                have hz9_ : ∀ p_ : Bel w80, p_.v.cell? ⟨(ad182.add (((ji46)).toNat * 5)).block, (ad182.add (((ji46)).toNat * 5)).off + 2, none⟩ = some (.int .i64 ((rd_T56 l0_1 (ji46)).f1.f1)) := fun p_ => cell_bel (((HB.out.cell (World.block_lt_of_cell? w _ hw185_2)).trans hw185_2)) p_
                                have hz10_ : ∀ p_ : Bel w80, p_.v.cell? ⟨(ad182.add (((ji46)).toNat * 5)).block, (ad182.add (((ji46)).toNat * 5)).off + 3, none⟩ = some (.int .i64 ((rd_T56 l0_1 (ji46)).f2.f0)) := fun p_ => cell_bel (((HB.out.cell (World.block_lt_of_cell? w _ hw185_3)).trans hw185_3)) p_
                                have hz11_ : ∀ p_ : Bel w80, p_.v.cell? ⟨(ad182.add (((ji46)).toNat * 5)).block, (ad182.add (((ji46)).toNat * 5)).off + 4, none⟩ = some (.int .i64 ((rd_T56 l0_1 (ji46)).f2.f1)) := fun p_ => cell_bel (((HB.out.cell (World.block_lt_of_cell? w _ hw185_4)).trans hw185_4)) p_
                                repeat (go_big_quiet_step (first
                                  | (with_reducible show Calls Try.prog 77 #[.agg #[.int .i64 ((rd_T56 l0_1 x4_2).f0), .int .i64 ((rd_T56 l0_1 x4_2).f1.f0), .int .i64 ((rd_T56 l0_1 x4_2).f1.f1), .int .i64 ((rd_T56 l0_1 x4_2).f2.f0), .int .i64 ((rd_T56 l0_1 x4_2).f2.f1)]] _ _; with_reducible exact calls_bel (spec_EdgeOk.calls ((rd_T56 l0_1 x4_2).f0) ((rd_T56 l0_1 x4_2).f1.f0) ((rd_T56 l0_1 x4_2).f1.f1) ((rd_T56 l0_1 x4_2).f2.f0) ((rd_T56 l0_1 x4_2).f2.f1) true _ A43.out))
                                  | (with_reducible show Calls Try.prog 78 #[.agg #[.int .i64 ((rd_T56 l0_1 (ji46)).f0), .int .i64 ((rd_T56 l0_1 (ji46)).f1.f0), .int .i64 ((rd_T56 l0_1 (ji46)).f1.f1), .int .i64 ((rd_T56 l0_1 (ji46)).f2.f0), .int .i64 ((rd_T56 l0_1 (ji46)).f2.f1)], .agg #[.int .i64 ((rd_T56 l0_1 x4_2).f0), .int .i64 ((rd_T56 l0_1 x4_2).f1.f0), .int .i64 ((rd_T56 l0_1 x4_2).f1.f1), .int .i64 ((rd_T56 l0_1 x4_2).f2.f0), .int .i64 ((rd_T56 l0_1 x4_2).f2.f1)]] _ _; with_reducible exact calls_bel (spec_l2Less.calls ((rd_T56 l0_1 (ji46)).f0) ((rd_T56 l0_1 (ji46)).f1.f0) ((rd_T56 l0_1 (ji46)).f1.f1) ((rd_T56 l0_1 (ji46)).f2.f0) ((rd_T56 l0_1 (ji46)).f2.f1) ((rd_T56 l0_1 x4_2).f0) ((rd_T56 l0_1 x4_2).f1.f0) ((rd_T56 l0_1 x4_2).f1.f1) ((rd_T56 l0_1 x4_2).f2.f0) ((rd_T56 l0_1 x4_2).f2.f1) true _ A49.out))
                                  | (with_reducible show Calls Try.prog 62 #[.agg #[.slice A0_0 l0_0.length c0_0, .slice (some ad182) l0_1.length c0_1], .agg #[.int .i64 ((rd_T56 l0_1 x4_2).f1.f0), .int .i64 ((rd_T56 l0_1 x4_2).f1.f1)]] _ _; with_reducible refine calls_bel (spec_l2At.calls k2 _ _ l0_0 _ _ l0_1 ((rd_T56 l0_1 x4_2).f1.f0) ((rd_T56 l0_1 x4_2).f1.f1) t187 _ ?side1 ?side2 ?side3 ?side4 A51.out); (case side1 => repeat (first | exact (Kd.C_below HR0_0.out (hbp_ _)) | (with_reducible refine Kd.C_alloc ?_ _) | (with_reducible refine Kd.C_drewN ?_ _) | (with_reducible refine Kd.C_drew ?_))); (case side2 => exact HC0_0.out); (case side3 => repeat (first | exact (Kd.C_below HR0_1.out (hbp_ _)) | (with_reducible refine Kd.C_alloc ?_ _) | (with_reducible refine Kd.C_drewN ?_ _) | (with_reducible refine Kd.C_drew ?_))); (case side4 => exact HC0_1.out))
                                  | (with_reducible show Calls Try.prog 62 #[.agg #[.slice A0_0 l0_0.length c0_0, .slice (some ad182) l0_1.length c0_1], .agg #[.int .i64 ((rd_T56 l0_1 x4_2).f2.f0), .int .i64 ((rd_T56 l0_1 x4_2).f2.f1)]] _ _; with_reducible refine calls_bel (spec_l2At.calls k2 _ _ l0_0 _ _ l0_1 ((rd_T56 l0_1 x4_2).f2.f0) ((rd_T56 l0_1 x4_2).f2.f1) t188 _ ?side1 ?side2 ?side3 ?side4 A62.out); (case side1 => repeat (first | exact (Kd.C_below HR0_0.out (hbp_ _)) | (with_reducible refine Kd.C_alloc ?_ _) | (with_reducible refine Kd.C_drewN ?_ _) | (with_reducible refine Kd.C_drew ?_))); (case side2 => exact HC0_0.out); (case side3 => repeat (first | exact (Kd.C_below HR0_1.out (hbp_ _)) | (with_reducible refine Kd.C_alloc ?_ _) | (with_reducible refine Kd.C_drewN ?_ _) | (with_reducible refine Kd.C_drew ?_))); (case side4 => exact HC0_1.out))))
                                refine wpQuiet_nil ?_
                                intro w84 hw'
                                obtain ⟨⟨wq_, hb⟩, hw''⟩ := hw'
                                subst hw''
                                clear hbp_ hz0_ hz1_ hz2_ hz3_ hz4_ hz5_ hz6_ hz7_ hz8_ hz9_ hz10_ hz11_
                                have n0_ := Aside0.mk (blk_below (g := gb175) (o := .cells #[.slice A0_0 l0_0.length c0_0, .slice (some ad182) l0_1.length c0_1] 34 (0, 0)) (by (with_reducible repeat (first | refine blk_drewN ?_ _ | refine blk_drew ?_ | refine blk_alloc ?_ _)); exact BK175.out) hb)
                                have n1_ := Aside0.mk (blk_below (g := gb183) (o := .cells #[.int .i64 ((rd_T56 l0_1 x4_2).f0), .int .i64 ((rd_T56 l0_1 x4_2).f1.f0), .int .i64 ((rd_T56 l0_1 x4_2).f1.f1), .int .i64 ((rd_T56 l0_1 x4_2).f2.f0), .int .i64 ((rd_T56 l0_1 x4_2).f2.f1)] 56 (0, 0)) (by (with_reducible repeat (first | refine blk_drewN ?_ _ | refine blk_drew ?_ | refine blk_alloc ?_ _)); exact BK183.out) hb)
                                have n2_ := Aside0.mk (below_step (by repeat (first | (with_reducible first | exact HB.out | apply below_alloc | apply pw_below_drewN | apply below_drew1 | refine below_set ?_ GE175.out | refine below_set ?_ GE183.out) | exact HB.out)) hb)
                                clear BK175
                                clear BK183
                                clear HB
                                have BK175 := n0_
                                have BK183 := n1_
                                have HB := n2_
                                clear n0_ n1_ n2_
                                (try clear hb)
                                (try clear hb2)
                                (try clear hk)
                                (try clear hi)
                                try go_wp2
                                go_ret
                                exact ⟨by first | rfl | (simp [errW_none, errW_some] <;> rfl) | (simp only [← hji46]; first | rfl | (simp [errW_none, errW_some] <;> rfl)) | (simp [*, errW_none, errW_some] <;> rfl), by repeat (first | (with_reducible first | exact HB.out | apply below_alloc | apply pw_below_drewN | apply below_drew1 | refine below_set ?_ GE175.out | refine below_set ?_ GE183.out) | exact HB.out)⟩
                              · rw [if_neg c74] at H
                                have c74b0 : decide (56 ≤ x4_2) = false := decide_eq_false c74
                                clear c74
                                have H' := Aside0.mk H
                                clear H
                                have hcz85_0 : wr.cell? ⟨gb175, 0, none⟩ = some (.slice A0_0 l0_0.length c0_0) := (blk_cell BK175.out 0).trans rfl
                                have hcz85_1 : wr.cell? ⟨gb175, 1, none⟩ = some (.slice A0_1 l0_1.length c0_1) := (blk_cell BK175.out 1).trans rfl
                                have hfz85_0 := blk_frozen BK175.out 0
                                have hfz85_1 := blk_frozen BK175.out 1
                                have p182 : 0 ≤ (x4_2 : Int) := of_decide_eq_true (by first | (with_reducible assumption) | assumption)
                                have q182 : x4_2 < (l0_1.length : Int) := of_decide_eq_true (by first | (with_reducible assumption) | assumption)
                                obtain ⟨ad182, e182, hx182_0, hx182_1, hx182_2, hx182_3, hx182_4⟩ := at_T56 HR0_1.out x4_2 p182 q182
                                cases e182
                                replace hx182_0 := (HB.out.cell (World.block_lt_of_cell? w _ hx182_0)).trans hx182_0
                                replace hx182_1 := (HB.out.cell (World.block_lt_of_cell? w _ hx182_1)).trans hx182_1
                                replace hx182_2 := (HB.out.cell (World.block_lt_of_cell? w _ hx182_2)).trans hx182_2
                                replace hx182_3 := (HB.out.cell (World.block_lt_of_cell? w _ hx182_3)).trans hx182_3
                                replace hx182_4 := (HB.out.cell (World.block_lt_of_cell? w _ hx182_4)).trans hx182_4
                                replace p182 := eq_true p182
                                replace q182 := eq_true q182
                                try go_wp2_with (first | ((with_reducible refine gate_dst (N := 5) rfl ?_); refine box_event ?hg (N := 5) ?hd (cs := #[.int .i64 0, .int .i64 0, .int .i64 0, .int .i64 0, .int .i64 0]) (t := 56) ?hr ?_; (case hd => rfl); (case hg => rfl); (case hr => first | (go_simp; done) | (go_simp; rfl)); intro gb183 hg w86 hbox hb; have n0_ := Aside0.mk (blk_below (g := gb175) (o := .cells #[.slice A0_0 l0_0.length c0_0, .slice (some ad182) l0_1.length c0_1] 34 (0, 0)) (by (with_reducible repeat (first | refine blk_drewN ?_ _ | refine blk_drew ?_ | refine blk_alloc ?_ _)); exact BK175.out) hb); have n1_ := Aside0.mk (below_step (by repeat (first | (with_reducible first | exact HB.out | apply below_alloc | apply pw_below_drewN | apply below_drew1 | refine below_set ?_ GE175.out) | exact HB.out)) hb); have n2_ := Aside0.mk (hbox); have n3_ := Aside0.mk ((by rw [hg]; exact (below_size (by repeat (first | (with_reducible first | exact HB.out | apply below_alloc | apply pw_below_drewN | apply below_drew1 | refine below_set ?_ GE175.out) | exact HB.out))) : w.heap.size ≤ gb183)); have n4_ := Aside0.mk ((by rw [hg]; exact (below_size (by repeat (first | (with_reducible first | exact HB.out | apply below_alloc | apply pw_below_drewN | apply below_drew1 | refine below_set ?_ GE175.out) | exact HB.out))) : w.heap.size ≤ gb183)); have n5_ := Aside0.mk ((by rw [hg]; exact Nat.ne_of_lt (blk_lt (g := gb175) (o := .cells #[.slice A0_0 l0_0.length c0_0, .slice (some ad182) l0_1.length c0_1] 34 (0, 0)) (by (with_reducible repeat (first | refine blk_drewN ?_ _ | refine blk_drew ?_ | refine blk_alloc ?_ _)); exact BK175.out)) : gb175 ≠ gb183)); have n6_ := Aside0.mk ((by rw [hg]; exact Nat.ne_of_gt (blk_lt (g := gb175) (o := .cells #[.slice A0_0 l0_0.length c0_0, .slice (some ad182) l0_1.length c0_1] 34 (0, 0)) (by (with_reducible repeat (first | refine blk_drewN ?_ _ | refine blk_drew ?_ | refine blk_alloc ?_ _)); exact BK175.out)) : gb183 ≠ gb175)); clear BK175; clear HB; have BK175 := n0_; have HB := n1_; have BK183 := n2_; have GW183 := n3_; have GE183 := n4_; have NB175_183 := n5_; have NB183_175 := n6_; clear n0_ n1_ n2_ n3_ n4_ n5_ n6_; clear hb hbox hg; have hnb87 := NB183_175.out; have hnc87 := NB175_183.out; have hcz88_0 : w86.cell? ⟨gb183, 0, none⟩ = some (.int .i64 0) := (blk_cell BK183.out 0).trans rfl; have hcz88_1 : w86.cell? ⟨gb183, 1, none⟩ = some (.int .i64 0) := (blk_cell BK183.out 1).trans rfl; have hcz88_2 : w86.cell? ⟨gb183, 2, none⟩ = some (.int .i64 0) := (blk_cell BK183.out 2).trans rfl; have hcz88_3 : w86.cell? ⟨gb183, 3, none⟩ = some (.int .i64 0) := (blk_cell BK183.out 3).trans rfl; have hcz88_4 : w86.cell? ⟨gb183, 4, none⟩ = some (.int .i64 0) := (blk_cell BK183.out 4).trans rfl; have hfz88_0 := blk_frozen BK183.out 0; have hfz88_1 := blk_frozen BK183.out 1; have hfz88_2 := blk_frozen BK183.out 2; have hfz88_3 := blk_frozen BK183.out 3; have hfz88_4 := blk_frozen BK183.out 4))
                                have n0_ : Aside0 ((((((w86.setCell ⟨gb183, 0, none⟩ (.int .i64 ((rd_T56 l0_1 x4_2).f0))).setCell ⟨gb183, 1, none⟩ (.int .i64 ((rd_T56 l0_1 x4_2).f1.f0))).setCell ⟨gb183, 2, none⟩ (.int .i64 ((rd_T56 l0_1 x4_2).f1.f1))).setCell ⟨gb183, 3, none⟩ (.int .i64 ((rd_T56 l0_1 x4_2).f2.f0))).setCell ⟨gb183, 4, none⟩ (.int .i64 ((rd_T56 l0_1 x4_2).f2.f1))).heap[gb175]? = some (.cells #[.slice A0_0 l0_0.length c0_0, .slice (some ad182) l0_1.length c0_1] 34 (0, 0))) := ⟨by (with_reducible repeat (first | refine blk_drewN ?_ _ | refine blk_drew ?_ | refine blk_alloc ?_ _)); refine blk_far ?_ NB175_183.out _; (with_reducible repeat (first | refine blk_drewN ?_ _ | refine blk_drew ?_ | refine blk_alloc ?_ _)); refine blk_far ?_ NB175_183.out _; (with_reducible repeat (first | refine blk_drewN ?_ _ | refine blk_drew ?_ | refine blk_alloc ?_ _)); refine blk_far ?_ NB175_183.out _; (with_reducible repeat (first | refine blk_drewN ?_ _ | refine blk_drew ?_ | refine blk_alloc ?_ _)); refine blk_far ?_ NB175_183.out _; (with_reducible repeat (first | refine blk_drewN ?_ _ | refine blk_drew ?_ | refine blk_alloc ?_ _)); refine blk_far ?_ NB175_183.out _; (with_reducible repeat (first | refine blk_drewN ?_ _ | refine blk_drew ?_ | refine blk_alloc ?_ _)); exact BK175.out⟩
                                have n1_ : Aside0 ((((((w86.setCell ⟨gb183, 0, none⟩ (.int .i64 ((rd_T56 l0_1 x4_2).f0))).setCell ⟨gb183, 1, none⟩ (.int .i64 ((rd_T56 l0_1 x4_2).f1.f0))).setCell ⟨gb183, 2, none⟩ (.int .i64 ((rd_T56 l0_1 x4_2).f1.f1))).setCell ⟨gb183, 3, none⟩ (.int .i64 ((rd_T56 l0_1 x4_2).f2.f0))).setCell ⟨gb183, 4, none⟩ (.int .i64 ((rd_T56 l0_1 x4_2).f2.f1))).heap[gb183]? = some (.cells #[.int .i64 ((rd_T56 l0_1 x4_2).f0), .int .i64 ((rd_T56 l0_1 x4_2).f1.f0), .int .i64 ((rd_T56 l0_1 x4_2).f1.f1), .int .i64 ((rd_T56 l0_1 x4_2).f2.f0), .int .i64 ((rd_T56 l0_1 x4_2).f2.f1)] 56 (0, 0))) := ⟨by (with_reducible repeat (first | refine blk_drewN ?_ _ | refine blk_drew ?_ | refine blk_alloc ?_ _)); refine blk_put (cs := #[.int .i64 ((rd_T56 l0_1 x4_2).f0), .int .i64 ((rd_T56 l0_1 x4_2).f1.f0), .int .i64 ((rd_T56 l0_1 x4_2).f1.f1), .int .i64 ((rd_T56 l0_1 x4_2).f2.f0), .int .i64 0]) ?_ 4 _ rfl; (with_reducible repeat (first | refine blk_drewN ?_ _ | refine blk_drew ?_ | refine blk_alloc ?_ _)); refine blk_put (cs := #[.int .i64 ((rd_T56 l0_1 x4_2).f0), .int .i64 ((rd_T56 l0_1 x4_2).f1.f0), .int .i64 ((rd_T56 l0_1 x4_2).f1.f1), .int .i64 0, .int .i64 0]) ?_ 3 _ rfl; (with_reducible repeat (first | refine blk_drewN ?_ _ | refine blk_drew ?_ | refine blk_alloc ?_ _)); refine blk_put (cs := #[.int .i64 ((rd_T56 l0_1 x4_2).f0), .int .i64 ((rd_T56 l0_1 x4_2).f1.f0), .int .i64 0, .int .i64 0, .int .i64 0]) ?_ 2 _ rfl; (with_reducible repeat (first | refine blk_drewN ?_ _ | refine blk_drew ?_ | refine blk_alloc ?_ _)); refine blk_put (cs := #[.int .i64 ((rd_T56 l0_1 x4_2).f0), .int .i64 0, .int .i64 0, .int .i64 0, .int .i64 0]) ?_ 1 _ rfl; (with_reducible repeat (first | refine blk_drewN ?_ _ | refine blk_drew ?_ | refine blk_alloc ?_ _)); refine blk_put (cs := #[.int .i64 0, .int .i64 0, .int .i64 0, .int .i64 0, .int .i64 0]) ?_ 0 _ rfl; (with_reducible repeat (first | refine blk_drewN ?_ _ | refine blk_drew ?_ | refine blk_alloc ?_ _)); exact BK183.out⟩
                                have n2_ : Aside0 (Below w.heap.size w (((((w86.setCell ⟨gb183, 0, none⟩ (.int .i64 ((rd_T56 l0_1 x4_2).f0))).setCell ⟨gb183, 1, none⟩ (.int .i64 ((rd_T56 l0_1 x4_2).f1.f0))).setCell ⟨gb183, 2, none⟩ (.int .i64 ((rd_T56 l0_1 x4_2).f1.f1))).setCell ⟨gb183, 3, none⟩ (.int .i64 ((rd_T56 l0_1 x4_2).f2.f0))).setCell ⟨gb183, 4, none⟩ (.int .i64 ((rd_T56 l0_1 x4_2).f2.f1)))) := ⟨by repeat (first | (with_reducible first | exact HB.out | apply below_alloc | apply pw_below_drewN | apply below_drew1 | refine below_set ?_ GE175.out | refine below_set ?_ GE183.out) | exact HB.out)⟩
                                (try clear BK175)
                                (try clear BK183)
                                (try clear HB)
                                generalize (((((w86.setCell ⟨gb183, 0, none⟩ (.int .i64 ((rd_T56 l0_1 x4_2).f0))).setCell ⟨gb183, 1, none⟩ (.int .i64 ((rd_T56 l0_1 x4_2).f1.f0))).setCell ⟨gb183, 2, none⟩ (.int .i64 ((rd_T56 l0_1 x4_2).f1.f1))).setCell ⟨gb183, 3, none⟩ (.int .i64 ((rd_T56 l0_1 x4_2).f2.f0))).setCell ⟨gb183, 4, none⟩ (.int .i64 ((rd_T56 l0_1 x4_2).f2.f1))) = w89 at n0_ n1_ n2_ ⊢
                                have BK175 := n0_
                                have BK183 := n1_
                                have HB := n2_
                                clear n0_ n1_ n2_
                                have n0_ := Aside0.mk (blk_drew BK175.out)
                                have n1_ := Aside0.mk (blk_drew BK183.out)
                                have n2_ := Aside0.mk (below_drew1 HB.out)
                                clear BK175
                                clear BK183
                                clear HB
                                have BK175 := n0_
                                have BK183 := n1_
                                have HB := n2_
                                clear n0_ n1_ n2_
                                have p185 : 0 ≤ ((ji46) : Int) := of_decide_eq_true (by first | (with_reducible assumption) | assumption)
                                have q185 : (ji46) < (l0_1.length : Int) := of_decide_eq_true (by first | (with_reducible assumption) | assumption)
                                obtain ⟨ad185, e185, hx185_0, hx185_1, hx185_2, hx185_3, hx185_4⟩ := at_T56 HR0_1.out (ji46) p185 q185
                                have hw185_4 := hx185_4
                                have hw185_3 := hx185_3
                                have hw185_2 := hx185_2
                                have hw185_1 := hx185_1
                                have hw185_0 := hx185_0
                                obtain rfl : ad182 = ad185 := (by injection e185)
                                replace hx185_0 := (HB.out.cell (World.block_lt_of_cell? w _ hx185_0)).trans hx185_0
                                replace hx185_1 := (HB.out.cell (World.block_lt_of_cell? w _ hx185_1)).trans hx185_1
                                replace hx185_2 := (HB.out.cell (World.block_lt_of_cell? w _ hx185_2)).trans hx185_2
                                replace hx185_3 := (HB.out.cell (World.block_lt_of_cell? w _ hx185_3)).trans hx185_3
                                replace hx185_4 := (HB.out.cell (World.block_lt_of_cell? w _ hx185_4)).trans hx185_4
                                replace p185 := eq_true p185
                                replace q185 := eq_true q185
                                refine wp_region_bel (by kernel_rfl) (by kernel_rfl) ?_
                                generalize w89.drew = w90 at BK175 BK183 HB hx185_0 hx185_1 hx185_2 hx185_3 hx185_4 ⊢
                                have hbp_ := fun (p_ : Bel w90) => below_step HB.out p_.h
                                have hz0_ : ∀ p_ : Bel w90, p_.v.cell? ⟨gb183, 0, none⟩ = some (.int .i64 ((rd_T56 l0_1 x4_2).f0)) := fun p_ => cell_bel ((blk_cell BK183.out 0).trans rfl) p_
                                have hz1_ : ∀ p_ : Bel w90, p_.v.cell? ⟨gb183, 1, none⟩ = some (.int .i64 ((rd_T56 l0_1 x4_2).f1.f0)) := fun p_ => cell_bel ((blk_cell BK183.out 1).trans rfl) p_
                                have hz2_ : ∀ p_ : Bel w90, p_.v.cell? ⟨gb183, 2, none⟩ = some (.int .i64 ((rd_T56 l0_1 x4_2).f1.f1)) := fun p_ => cell_bel ((blk_cell BK183.out 2).trans rfl) p_
                                have hz3_ : ∀ p_ : Bel w90, p_.v.cell? ⟨gb183, 3, none⟩ = some (.int .i64 ((rd_T56 l0_1 x4_2).f2.f0)) := fun p_ => cell_bel ((blk_cell BK183.out 3).trans rfl) p_
                                have hz4_ : ∀ p_ : Bel w90, p_.v.cell? ⟨gb183, 4, none⟩ = some (.int .i64 ((rd_T56 l0_1 x4_2).f2.f1)) := fun p_ => cell_bel ((blk_cell BK183.out 4).trans rfl) p_
                                have hz5_ : ∀ p_ : Bel w90, p_.v.cell? ⟨gb175, 0, none⟩ = some (.slice A0_0 l0_0.length c0_0) := fun p_ => cell_bel ((blk_cell BK175.out 0).trans rfl) p_
                                have hz6_ : ∀ p_ : Bel w90, p_.v.cell? ⟨gb175, 1, none⟩ = some (.slice (some ad182) l0_1.length c0_1) := fun p_ => cell_bel ((blk_cell BK175.out 1).trans rfl) p_
                                have hz7_ : ∀ p_ : Bel w90, p_.v.cell? (ad182.add (((ji46)).toNat * 5)) = some (.int .i64 ((rd_T56 l0_1 (ji46)).f0)) := fun p_ => cell_bel (((HB.out.cell (World.block_lt_of_cell? w _ hw185_0)).trans hw185_0)) p_
                                have hz8_ : ∀ p_ : Bel w90, p_.v.cell? ⟨(ad182.add (((ji46)).toNat * 5)).block, (ad182.add (((ji46)).toNat * 5)).off + 1, none⟩ = some (.int .i64 ((rd_T56 l0_1 (ji46)).f1.f0)) := fun p_ => cell_bel (((HB.out.cell (World.block_lt_of_cell? w _ hw185_1)).trans hw185_1)) p_
                                have hz9_ : ∀ p_ : Bel w90, p_.v.cell? ⟨(ad182.add (((ji46)).toNat * 5)).block, (ad182.add (((ji46)).toNat * 5)).off + 2, none⟩ = some (.int .i64 ((rd_T56 l0_1 (ji46)).f1.f1)) := fun p_ => cell_bel (((HB.out.cell (World.block_lt_of_cell? w _ hw185_2)).trans hw185_2)) p_
                                have hz10_ : ∀ p_ : Bel w90, p_.v.cell? ⟨(ad182.add (((ji46)).toNat * 5)).block, (ad182.add (((ji46)).toNat * 5)).off + 3, none⟩ = some (.int .i64 ((rd_T56 l0_1 (ji46)).f2.f0)) := fun p_ => cell_bel (((HB.out.cell (World.block_lt_of_cell? w _ hw185_3)).trans hw185_3)) p_
                                have hz11_ : ∀ p_ : Bel w90, p_.v.cell? ⟨(ad182.add (((ji46)).toNat * 5)).block, (ad182.add (((ji46)).toNat * 5)).off + 4, none⟩ = some (.int .i64 ((rd_T56 l0_1 (ji46)).f2.f1)) := fun p_ => cell_bel (((HB.out.cell (World.block_lt_of_cell? w _ hw185_4)).trans hw185_4)) p_
                                repeat (go_big_quiet_step (first
                                  | (with_reducible show Calls Try.prog 77 #[.agg #[.int .i64 ((rd_T56 l0_1 x4_2).f0), .int .i64 ((rd_T56 l0_1 x4_2).f1.f0), .int .i64 ((rd_T56 l0_1 x4_2).f1.f1), .int .i64 ((rd_T56 l0_1 x4_2).f2.f0), .int .i64 ((rd_T56 l0_1 x4_2).f2.f1)]] _ _; with_reducible exact calls_bel (spec_EdgeOk.calls ((rd_T56 l0_1 x4_2).f0) ((rd_T56 l0_1 x4_2).f1.f0) ((rd_T56 l0_1 x4_2).f1.f1) ((rd_T56 l0_1 x4_2).f2.f0) ((rd_T56 l0_1 x4_2).f2.f1) true _ A43.out))
                                  | (with_reducible show Calls Try.prog 78 #[.agg #[.int .i64 ((rd_T56 l0_1 (ji46)).f0), .int .i64 ((rd_T56 l0_1 (ji46)).f1.f0), .int .i64 ((rd_T56 l0_1 (ji46)).f1.f1), .int .i64 ((rd_T56 l0_1 (ji46)).f2.f0), .int .i64 ((rd_T56 l0_1 (ji46)).f2.f1)], .agg #[.int .i64 ((rd_T56 l0_1 x4_2).f0), .int .i64 ((rd_T56 l0_1 x4_2).f1.f0), .int .i64 ((rd_T56 l0_1 x4_2).f1.f1), .int .i64 ((rd_T56 l0_1 x4_2).f2.f0), .int .i64 ((rd_T56 l0_1 x4_2).f2.f1)]] _ _; with_reducible exact calls_bel (spec_l2Less.calls ((rd_T56 l0_1 (ji46)).f0) ((rd_T56 l0_1 (ji46)).f1.f0) ((rd_T56 l0_1 (ji46)).f1.f1) ((rd_T56 l0_1 (ji46)).f2.f0) ((rd_T56 l0_1 (ji46)).f2.f1) ((rd_T56 l0_1 x4_2).f0) ((rd_T56 l0_1 x4_2).f1.f0) ((rd_T56 l0_1 x4_2).f1.f1) ((rd_T56 l0_1 x4_2).f2.f0) ((rd_T56 l0_1 x4_2).f2.f1) true _ A49.out))
                                  | (with_reducible show Calls Try.prog 62 #[.agg #[.slice A0_0 l0_0.length c0_0, .slice (some ad182) l0_1.length c0_1], .agg #[.int .i64 ((rd_T56 l0_1 x4_2).f1.f0), .int .i64 ((rd_T56 l0_1 x4_2).f1.f1)]] _ _; with_reducible refine calls_bel (spec_l2At.calls k2 _ _ l0_0 _ _ l0_1 ((rd_T56 l0_1 x4_2).f1.f0) ((rd_T56 l0_1 x4_2).f1.f1) t187 _ ?side1 ?side2 ?side3 ?side4 A51.out); (case side1 => repeat (first | exact (Kd.C_below HR0_0.out (hbp_ _)) | (with_reducible refine Kd.C_alloc ?_ _) | (with_reducible refine Kd.C_drewN ?_ _) | (with_reducible refine Kd.C_drew ?_))); (case side2 => exact HC0_0.out); (case side3 => repeat (first | exact (Kd.C_below HR0_1.out (hbp_ _)) | (with_reducible refine Kd.C_alloc ?_ _) | (with_reducible refine Kd.C_drewN ?_ _) | (with_reducible refine Kd.C_drew ?_))); (case side4 => exact HC0_1.out))
                                  | (with_reducible show Calls Try.prog 62 #[.agg #[.slice A0_0 l0_0.length c0_0, .slice (some ad182) l0_1.length c0_1], .agg #[.int .i64 ((rd_T56 l0_1 x4_2).f2.f0), .int .i64 ((rd_T56 l0_1 x4_2).f2.f1)]] _ _; with_reducible refine calls_bel (spec_l2At.calls k2 _ _ l0_0 _ _ l0_1 ((rd_T56 l0_1 x4_2).f2.f0) ((rd_T56 l0_1 x4_2).f2.f1) t188 _ ?side1 ?side2 ?side3 ?side4 A62.out); (case side1 => repeat (first | exact (Kd.C_below HR0_0.out (hbp_ _)) | (with_reducible refine Kd.C_alloc ?_ _) | (with_reducible refine Kd.C_drewN ?_ _) | (with_reducible refine Kd.C_drew ?_))); (case side2 => exact HC0_0.out); (case side3 => repeat (first | exact (Kd.C_below HR0_1.out (hbp_ _)) | (with_reducible refine Kd.C_alloc ?_ _) | (with_reducible refine Kd.C_drewN ?_ _) | (with_reducible refine Kd.C_drew ?_))); (case side4 => exact HC0_1.out))))
                                refine wpQuiet_nil ?_
                                intro w94 hw'
                                obtain ⟨⟨wq_, hb⟩, hw''⟩ := hw'
                                subst hw''
                                clear hbp_ hz0_ hz1_ hz2_ hz3_ hz4_ hz5_ hz6_ hz7_ hz8_ hz9_ hz10_ hz11_
                                have n0_ := Aside0.mk (blk_below (g := gb175) (o := .cells #[.slice A0_0 l0_0.length c0_0, .slice (some ad182) l0_1.length c0_1] 34 (0, 0)) (by (with_reducible repeat (first | refine blk_drewN ?_ _ | refine blk_drew ?_ | refine blk_alloc ?_ _)); exact BK175.out) hb)
                                have n1_ := Aside0.mk (blk_below (g := gb183) (o := .cells #[.int .i64 ((rd_T56 l0_1 x4_2).f0), .int .i64 ((rd_T56 l0_1 x4_2).f1.f0), .int .i64 ((rd_T56 l0_1 x4_2).f1.f1), .int .i64 ((rd_T56 l0_1 x4_2).f2.f0), .int .i64 ((rd_T56 l0_1 x4_2).f2.f1)] 56 (0, 0)) (by (with_reducible repeat (first | refine blk_drewN ?_ _ | refine blk_drew ?_ | refine blk_alloc ?_ _)); exact BK183.out) hb)
                                have n2_ := Aside0.mk (below_step (by repeat (first | (with_reducible first | exact HB.out | apply below_alloc | apply pw_below_drewN | apply below_drew1 | refine below_set ?_ GE175.out | refine below_set ?_ GE183.out) | exact HB.out)) hb)
                                clear BK175
                                clear BK183
                                clear HB
                                have BK175 := n0_
                                have BK183 := n1_
                                have HB := n2_
                                clear n0_ n1_ n2_
                                (try clear hb)
                                (try clear hb2)
                                (try clear hk)
                                (try clear hi)
                                try go_wp2
                                go_roundg k2
                                case measure => have := HK1.out; have := HK2.out; omega
                                case rel => exact ⟨(wrap64 (x4_2 + 1)), (by first | rfl | (simp; done) | (simp [*]; done)), H', ⟨by have := HK1.out; have := HK2.out; omega⟩, ⟨by (with_reducible repeat (first | refine blk_drewN ?_ _ | refine blk_drew ?_ | refine blk_alloc ?_ _)); exact BK175.out⟩, ⟨by repeat (first | (with_reducible first | exact HB.out | apply below_alloc | apply pw_below_drewN | apply below_drew1 | refine below_set ?_ GE175.out | refine below_set ?_ GE183.out) | exact HB.out)⟩⟩
                        · replace c50 := Bool.eq_false_iff.mpr c50
                          subst c50
                          have H1 : (some false) = some r := by rw [if_neg (show ¬ (false = true) by decide)] at H; exact H
                          clear H
                          have H := H1
                          clear H1
                          obtain rfl := Option.some.inj H
                          have hcz95_0 : wr.cell? ⟨gb175, 0, none⟩ = some (.slice A0_0 l0_0.length c0_0) := (blk_cell BK175.out 0).trans rfl
                          have hcz95_1 : wr.cell? ⟨gb175, 1, none⟩ = some (.slice A0_1 l0_1.length c0_1) := (blk_cell BK175.out 1).trans rfl
                          have hfz95_0 := blk_frozen BK175.out 0
                          have hfz95_1 := blk_frozen BK175.out 1
                          have p182 : 0 ≤ (x4_2 : Int) := of_decide_eq_true (by first | (with_reducible assumption) | assumption)
                          have q182 : x4_2 < (l0_1.length : Int) := of_decide_eq_true (by first | (with_reducible assumption) | assumption)
                          obtain ⟨ad182, e182, hx182_0, hx182_1, hx182_2, hx182_3, hx182_4⟩ := at_T56 HR0_1.out x4_2 p182 q182
                          cases e182
                          replace hx182_0 := (HB.out.cell (World.block_lt_of_cell? w _ hx182_0)).trans hx182_0
                          replace hx182_1 := (HB.out.cell (World.block_lt_of_cell? w _ hx182_1)).trans hx182_1
                          replace hx182_2 := (HB.out.cell (World.block_lt_of_cell? w _ hx182_2)).trans hx182_2
                          replace hx182_3 := (HB.out.cell (World.block_lt_of_cell? w _ hx182_3)).trans hx182_3
                          replace hx182_4 := (HB.out.cell (World.block_lt_of_cell? w _ hx182_4)).trans hx182_4
                          replace p182 := eq_true p182
                          replace q182 := eq_true q182
                          try go_wp2_with (first | ((with_reducible refine gate_dst (N := 5) rfl ?_); refine box_event ?hg (N := 5) ?hd (cs := #[.int .i64 0, .int .i64 0, .int .i64 0, .int .i64 0, .int .i64 0]) (t := 56) ?hr ?_; (case hd => rfl); (case hg => rfl); (case hr => first | (go_simp; done) | (go_simp; rfl)); intro gb183 hg w96 hbox hb; have n0_ := Aside0.mk (blk_below (g := gb175) (o := .cells #[.slice A0_0 l0_0.length c0_0, .slice (some ad182) l0_1.length c0_1] 34 (0, 0)) (by (with_reducible repeat (first | refine blk_drewN ?_ _ | refine blk_drew ?_ | refine blk_alloc ?_ _)); exact BK175.out) hb); have n1_ := Aside0.mk (below_step (by repeat (first | (with_reducible first | exact HB.out | apply below_alloc | apply pw_below_drewN | apply below_drew1 | refine below_set ?_ GE175.out) | exact HB.out)) hb); have n2_ := Aside0.mk (hbox); have n3_ := Aside0.mk ((by rw [hg]; exact (below_size (by repeat (first | (with_reducible first | exact HB.out | apply below_alloc | apply pw_below_drewN | apply below_drew1 | refine below_set ?_ GE175.out) | exact HB.out))) : w.heap.size ≤ gb183)); have n4_ := Aside0.mk ((by rw [hg]; exact (below_size (by repeat (first | (with_reducible first | exact HB.out | apply below_alloc | apply pw_below_drewN | apply below_drew1 | refine below_set ?_ GE175.out) | exact HB.out))) : w.heap.size ≤ gb183)); have n5_ := Aside0.mk ((by rw [hg]; exact Nat.ne_of_lt (blk_lt (g := gb175) (o := .cells #[.slice A0_0 l0_0.length c0_0, .slice (some ad182) l0_1.length c0_1] 34 (0, 0)) (by (with_reducible repeat (first | refine blk_drewN ?_ _ | refine blk_drew ?_ | refine blk_alloc ?_ _)); exact BK175.out)) : gb175 ≠ gb183)); have n6_ := Aside0.mk ((by rw [hg]; exact Nat.ne_of_gt (blk_lt (g := gb175) (o := .cells #[.slice A0_0 l0_0.length c0_0, .slice (some ad182) l0_1.length c0_1] 34 (0, 0)) (by (with_reducible repeat (first | refine blk_drewN ?_ _ | refine blk_drew ?_ | refine blk_alloc ?_ _)); exact BK175.out)) : gb183 ≠ gb175)); clear BK175; clear HB; have BK175 := n0_; have HB := n1_; have BK183 := n2_; have GW183 := n3_; have GE183 := n4_; have NB175_183 := n5_; have NB183_175 := n6_; clear n0_ n1_ n2_ n3_ n4_ n5_ n6_; clear hb hbox hg; have hnb97 := NB183_175.out; have hnc97 := NB175_183.out; have hcz98_0 : w96.cell? ⟨gb183, 0, none⟩ = some (.int .i64 0) := (blk_cell BK183.out 0).trans rfl; have hcz98_1 : w96.cell? ⟨gb183, 1, none⟩ = some (.int .i64 0) := (blk_cell BK183.out 1).trans rfl; have hcz98_2 : w96.cell? ⟨gb183, 2, none⟩ = some (.int .i64 0) := (blk_cell BK183.out 2).trans rfl; have hcz98_3 : w96.cell? ⟨gb183, 3, none⟩ = some (.int .i64 0) := (blk_cell BK183.out 3).trans rfl; have hcz98_4 : w96.cell? ⟨gb183, 4, none⟩ = some (.int .i64 0) := (blk_cell BK183.out 4).trans rfl; have hfz98_0 := blk_frozen BK183.out 0; have hfz98_1 := blk_frozen BK183.out 1; have hfz98_2 := blk_frozen BK183.out 2; have hfz98_3 := blk_frozen BK183.out 3; have hfz98_4 := blk_frozen BK183.out 4))
                          have n0_ : Aside0 ((((((w96.setCell ⟨gb183, 0, none⟩ (.int .i64 ((rd_T56 l0_1 x4_2).f0))).setCell ⟨gb183, 1, none⟩ (.int .i64 ((rd_T56 l0_1 x4_2).f1.f0))).setCell ⟨gb183, 2, none⟩ (.int .i64 ((rd_T56 l0_1 x4_2).f1.f1))).setCell ⟨gb183, 3, none⟩ (.int .i64 ((rd_T56 l0_1 x4_2).f2.f0))).setCell ⟨gb183, 4, none⟩ (.int .i64 ((rd_T56 l0_1 x4_2).f2.f1))).heap[gb175]? = some (.cells #[.slice A0_0 l0_0.length c0_0, .slice (some ad182) l0_1.length c0_1] 34 (0, 0))) := ⟨by (with_reducible repeat (first | refine blk_drewN ?_ _ | refine blk_drew ?_ | refine blk_alloc ?_ _)); refine blk_far ?_ NB175_183.out _; (with_reducible repeat (first | refine blk_drewN ?_ _ | refine blk_drew ?_ | refine blk_alloc ?_ _)); refine blk_far ?_ NB175_183.out _; (with_reducible repeat (first | refine blk_drewN ?_ _ | refine blk_drew ?_ | refine blk_alloc ?_ _)); refine blk_far ?_ NB175_183.out _; (with_reducible repeat (first | refine blk_drewN ?_ _ | refine blk_drew ?_ | refine blk_alloc ?_ _)); refine blk_far ?_ NB175_183.out _; (with_reducible repeat (first | refine blk_drewN ?_ _ | refine blk_drew ?_ | refine blk_alloc ?_ _)); refine blk_far ?_ NB175_183.out _; (with_reducible repeat (first | refine blk_drewN ?_ _ | refine blk_drew ?_ | refine blk_alloc ?_ _)); exact BK175.out⟩
                          have n1_ : Aside0 ((((((w96.setCell ⟨gb183, 0, none⟩ (.int .i64 ((rd_T56 l0_1 x4_2).f0))).setCell ⟨gb183, 1, none⟩ (.int .i64 ((rd_T56 l0_1 x4_2).f1.f0))).setCell ⟨gb183, 2, none⟩ (.int .i64 ((rd_T56 l0_1 x4_2).f1.f1))).setCell ⟨gb183, 3, none⟩ (.int .i64 ((rd_T56 l0_1 x4_2).f2.f0))).setCell ⟨gb183, 4, none⟩ (.int .i64 ((rd_T56 l0_1 x4_2).f2.f1))).heap[gb183]? = some (.cells #[.int .i64 ((rd_T56 l0_1 x4_2).f0), .int .i64 ((rd_T56 l0_1 x4_2).f1.f0), .int .i64 ((rd_T56 l0_1 x4_2).f1.f1), .int .i64 ((rd_T56 l0_1 x4_2).f2.f0), .int .i64 ((rd_T56 l0_1 x4_2).f2.f1)] 56 (0, 0))) := ⟨by (with_reducible repeat (first | refine blk_drewN ?_ _ | refine blk_drew ?_ | refine blk_alloc ?_ _)); refine blk_put (cs := #[.int .i64 ((rd_T56 l0_1 x4_2).f0), .int .i64 ((rd_T56 l0_1 x4_2).f1.f0), .int .i64 ((rd_T56 l0_1 x4_2).f1.f1), .int .i64 ((rd_T56 l0_1 x4_2).f2.f0), .int .i64 0]) ?_ 4 _ rfl; (with_reducible repeat (first | refine blk_drewN ?_ _ | refine blk_drew ?_ | refine blk_alloc ?_ _)); refine blk_put (cs := #[.int .i64 ((rd_T56 l0_1 x4_2).f0), .int .i64 ((rd_T56 l0_1 x4_2).f1.f0), .int .i64 ((rd_T56 l0_1 x4_2).f1.f1), .int .i64 0, .int .i64 0]) ?_ 3 _ rfl; (with_reducible repeat (first | refine blk_drewN ?_ _ | refine blk_drew ?_ | refine blk_alloc ?_ _)); refine blk_put (cs := #[.int .i64 ((rd_T56 l0_1 x4_2).f0), .int .i64 ((rd_T56 l0_1 x4_2).f1.f0), .int .i64 0, .int .i64 0, .int .i64 0]) ?_ 2 _ rfl; (with_reducible repeat (first | refine blk_drewN ?_ _ | refine blk_drew ?_ | refine blk_alloc ?_ _)); refine blk_put (cs := #[.int .i64 ((rd_T56 l0_1 x4_2).f0), .int .i64 0, .int .i64 0, .int .i64 0, .int .i64 0]) ?_ 1 _ rfl; (with_reducible repeat (first | refine blk_drewN ?_ _ | refine blk_drew ?_ | refine blk_alloc ?_ _)); refine blk_put (cs := #[.int .i64 0, .int .i64 0, .int .i64 0, .int .i64 0, .int .i64 0]) ?_ 0 _ rfl; (with_reducible repeat (first | refine blk_drewN ?_ _ | refine blk_drew ?_ | refine blk_alloc ?_ _)); exact BK183.out⟩
                          have n2_ : Aside0 (Below w.heap.size w (((((w96.setCell ⟨gb183, 0, none⟩ (.int .i64 ((rd_T56 l0_1 x4_2).f0))).setCell ⟨gb183, 1, none⟩ (.int .i64 ((rd_T56 l0_1 x4_2).f1.f0))).setCell ⟨gb183, 2, none⟩ (.int .i64 ((rd_T56 l0_1 x4_2).f1.f1))).setCell ⟨gb183, 3, none⟩ (.int .i64 ((rd_T56 l0_1 x4_2).f2.f0))).setCell ⟨gb183, 4, none⟩ (.int .i64 ((rd_T56 l0_1 x4_2).f2.f1)))) := ⟨by repeat (first | (with_reducible first | exact HB.out | apply below_alloc | apply pw_below_drewN | apply below_drew1 | refine below_set ?_ GE175.out | refine below_set ?_ GE183.out) | exact HB.out)⟩
                          (try clear BK175)
                          (try clear BK183)
                          (try clear HB)
                          generalize (((((w96.setCell ⟨gb183, 0, none⟩ (.int .i64 ((rd_T56 l0_1 x4_2).f0))).setCell ⟨gb183, 1, none⟩ (.int .i64 ((rd_T56 l0_1 x4_2).f1.f0))).setCell ⟨gb183, 2, none⟩ (.int .i64 ((rd_T56 l0_1 x4_2).f1.f1))).setCell ⟨gb183, 3, none⟩ (.int .i64 ((rd_T56 l0_1 x4_2).f2.f0))).setCell ⟨gb183, 4, none⟩ (.int .i64 ((rd_T56 l0_1 x4_2).f2.f1))) = w99 at n0_ n1_ n2_ ⊢
                          have BK175 := n0_
                          have BK183 := n1_
                          have HB := n2_
                          clear n0_ n1_ n2_
                          have n0_ := Aside0.mk (blk_drew BK175.out)
                          have n1_ := Aside0.mk (blk_drew BK183.out)
                          have n2_ := Aside0.mk (below_drew1 HB.out)
                          clear BK175
                          clear BK183
                          clear HB
                          have BK175 := n0_
                          have BK183 := n1_
                          have HB := n2_
                          clear n0_ n1_ n2_
                          have p185 : 0 ≤ ((ji46) : Int) := of_decide_eq_true (by first | (with_reducible assumption) | assumption)
                          have q185 : (ji46) < (l0_1.length : Int) := of_decide_eq_true (by first | (with_reducible assumption) | assumption)
                          obtain ⟨ad185, e185, hx185_0, hx185_1, hx185_2, hx185_3, hx185_4⟩ := at_T56 HR0_1.out (ji46) p185 q185
                          have hw185_4 := hx185_4
                          have hw185_3 := hx185_3
                          have hw185_2 := hx185_2
                          have hw185_1 := hx185_1
                          have hw185_0 := hx185_0
                          obtain rfl : ad182 = ad185 := (by injection e185)
                          replace hx185_0 := (HB.out.cell (World.block_lt_of_cell? w _ hx185_0)).trans hx185_0
                          replace hx185_1 := (HB.out.cell (World.block_lt_of_cell? w _ hx185_1)).trans hx185_1
                          replace hx185_2 := (HB.out.cell (World.block_lt_of_cell? w _ hx185_2)).trans hx185_2
                          replace hx185_3 := (HB.out.cell (World.block_lt_of_cell? w _ hx185_3)).trans hx185_3
                          replace hx185_4 := (HB.out.cell (World.block_lt_of_cell? w _ hx185_4)).trans hx185_4
                          replace p185 := eq_true p185
                          replace q185 := eq_true q185
                          refine wp_region_bel (by kernel_rfl) (by kernel_rfl) ?_
                          generalize w99.drew = w100 at BK175 BK183 HB hx185_0 hx185_1 hx185_2 hx185_3 hx185_4 ⊢
                          have hbp_ := fun (p_ : Bel w100) => below_step HB.out p_.h
                          have hz0_ : ∀ p_ : Bel w100, p_.v.cell? ⟨gb183, 0, none⟩ = some (.int .i64 ((rd_T56 l0_1 x4_2).f0)) := fun p_ => cell_bel ((blk_cell BK183.out 0).trans rfl) p_
                          have hz1_ : ∀ p_ : Bel w100, p_.v.cell? ⟨gb183, 1, none⟩ = some (.int .i64 ((rd_T56 l0_1 x4_2).f1.f0)) := fun p_ => cell_bel ((blk_cell BK183.out 1).trans rfl) p_
                          have hz2_ : ∀ p_ : Bel w100, p_.v.cell? ⟨gb183, 2, none⟩ = some (.int .i64 ((rd_T56 l0_1 x4_2).f1.f1)) := fun p_ => cell_bel ((blk_cell BK183.out 2).trans rfl) p_
                          have hz3_ : ∀ p_ : Bel w100, p_.v.cell? ⟨gb183, 3, none⟩ = some (.int .i64 ((rd_T56 l0_1 x4_2).f2.f0)) := fun p_ => cell_bel ((blk_cell BK183.out 3).trans rfl) p_
                          have hz4_ : ∀ p_ : Bel w100, p_.v.cell? ⟨gb183, 4, none⟩ = some (.int .i64 ((rd_T56 l0_1 x4_2).f2.f1)) := fun p_ => cell_bel ((blk_cell BK183.out 4).trans rfl) p_
                          have hz5_ : ∀ p_ : Bel w100, p_.v.cell? ⟨gb175, 0, none⟩ = some (.slice A0_0 l0_0.length c0_0) := fun p_ => cell_bel ((blk_cell BK175.out 0).trans rfl) p_
                          have hz6_ : ∀ p_ : Bel w100, p_.v.cell? ⟨gb175, 1, none⟩ = some (.slice (some ad182) l0_1.length c0_1) := fun p_ => cell_bel ((blk_cell BK175.out 1).trans rfl) p_
                          have hz7_ : ∀ p_ : Bel w100, p_.v.cell? (ad182.add (((ji46)).toNat * 5)) = some (.int .i64 ((rd_T56 l0_1 (ji46)).f0)) := fun p_ => cell_bel (((HB.out.cell (World.block_lt_of_cell? w _ hw185_0)).trans hw185_0)) p_
                          have hz8_ : ∀ p_ : Bel w100, p_.v.cell? ⟨(ad182.add (((ji46)).toNat * 5)).block, (ad182.add (((ji46)).toNat * 5)).off + 1, none⟩ = some (.int .i64 ((rd_T56 l0_1 (ji46)).f1.f0)) := fun p_ => cell_bel (((HB.out.cell (World.block_lt_of_cell? w _ hw185_1)).trans hw185_1)) p_
                          have hz9_ : ∀ p_ : Bel w100, p_.v.cell? ⟨(ad182.add (((ji46)).toNat * 5)).block, (ad182.add (((ji46)).toNat * 5)).off + 2, none⟩ = some (.int .i64 ((rd_T56 l0_1 (ji46)).f1.f1)) := fun p_ => cell_bel (((HB.out.cell (World.block_lt_of_cell? w _ hw185_2)).trans hw185_2)) p_
                          have hz10_ : ∀ p_ : Bel w100, p_.v.cell? ⟨(ad182.add (((ji46)).toNat * 5)).block, (ad182.add (((ji46)).toNat * 5)).off + 3, none⟩ = some (.int .i64 ((rd_T56 l0_1 (ji46)).f2.f0)) := fun p_ => cell_bel (((HB.out.cell (World.block_lt_of_cell? w _ hw185_3)).trans hw185_3)) p_
                          have hz11_ : ∀ p_ : Bel w100, p_.v.cell? ⟨(ad182.add (((ji46)).toNat * 5)).block, (ad182.add (((ji46)).toNat * 5)).off + 4, none⟩ = some (.int .i64 ((rd_T56 l0_1 (ji46)).f2.f1)) := fun p_ => cell_bel (((HB.out.cell (World.block_lt_of_cell? w _ hw185_4)).trans hw185_4)) p_
                          repeat (go_big_quiet_step (first
                            | (with_reducible show Calls Try.prog 77 #[.agg #[.int .i64 ((rd_T56 l0_1 x4_2).f0), .int .i64 ((rd_T56 l0_1 x4_2).f1.f0), .int .i64 ((rd_T56 l0_1 x4_2).f1.f1), .int .i64 ((rd_T56 l0_1 x4_2).f2.f0), .int .i64 ((rd_T56 l0_1 x4_2).f2.f1)]] _ _; with_reducible exact calls_bel (spec_EdgeOk.calls ((rd_T56 l0_1 x4_2).f0) ((rd_T56 l0_1 x4_2).f1.f0) ((rd_T56 l0_1 x4_2).f1.f1) ((rd_T56 l0_1 x4_2).f2.f0) ((rd_T56 l0_1 x4_2).f2.f1) true _ A43.out))
                            | (with_reducible show Calls Try.prog 78 #[.agg #[.int .i64 ((rd_T56 l0_1 (ji46)).f0), .int .i64 ((rd_T56 l0_1 (ji46)).f1.f0), .int .i64 ((rd_T56 l0_1 (ji46)).f1.f1), .int .i64 ((rd_T56 l0_1 (ji46)).f2.f0), .int .i64 ((rd_T56 l0_1 (ji46)).f2.f1)], .agg #[.int .i64 ((rd_T56 l0_1 x4_2).f0), .int .i64 ((rd_T56 l0_1 x4_2).f1.f0), .int .i64 ((rd_T56 l0_1 x4_2).f1.f1), .int .i64 ((rd_T56 l0_1 x4_2).f2.f0), .int .i64 ((rd_T56 l0_1 x4_2).f2.f1)]] _ _; with_reducible exact calls_bel (spec_l2Less.calls ((rd_T56 l0_1 (ji46)).f0) ((rd_T56 l0_1 (ji46)).f1.f0) ((rd_T56 l0_1 (ji46)).f1.f1) ((rd_T56 l0_1 (ji46)).f2.f0) ((rd_T56 l0_1 (ji46)).f2.f1) ((rd_T56 l0_1 x4_2).f0) ((rd_T56 l0_1 x4_2).f1.f0) ((rd_T56 l0_1 x4_2).f1.f1) ((rd_T56 l0_1 x4_2).f2.f0) ((rd_T56 l0_1 x4_2).f2.f1) false _ A49.out))))
                          refine wpQuiet_nil ?_
                          intro w102 hw'
                          obtain ⟨⟨wq_, hb⟩, hw''⟩ := hw'
                          subst hw''
                          clear hbp_ hz0_ hz1_ hz2_ hz3_ hz4_ hz5_ hz6_ hz7_ hz8_ hz9_ hz10_ hz11_
                          have n0_ := Aside0.mk (blk_below (g := gb175) (o := .cells #[.slice A0_0 l0_0.length c0_0, .slice (some ad182) l0_1.length c0_1] 34 (0, 0)) (by (with_reducible repeat (first | refine blk_drewN ?_ _ | refine blk_drew ?_ | refine blk_alloc ?_ _)); exact BK175.out) hb)
                          have n1_ := Aside0.mk (blk_below (g := gb183) (o := .cells #[.int .i64 ((rd_T56 l0_1 x4_2).f0), .int .i64 ((rd_T56 l0_1 x4_2).f1.f0), .int .i64 ((rd_T56 l0_1 x4_2).f1.f1), .int .i64 ((rd_T56 l0_1 x4_2).f2.f0), .int .i64 ((rd_T56 l0_1 x4_2).f2.f1)] 56 (0, 0)) (by (with_reducible repeat (first | refine blk_drewN ?_ _ | refine blk_drew ?_ | refine blk_alloc ?_ _)); exact BK183.out) hb)
                          have n2_ := Aside0.mk (below_step (by repeat (first | (with_reducible first | exact HB.out | apply below_alloc | apply pw_below_drewN | apply below_drew1 | refine below_set ?_ GE175.out | refine below_set ?_ GE183.out) | exact HB.out)) hb)
                          clear BK175
                          clear BK183
                          clear HB
                          have BK175 := n0_
                          have BK183 := n1_
                          have HB := n2_
                          clear n0_ n1_ n2_
                          (try clear hb)
                          (try clear hb2)
                          (try clear hk)
                          (try clear hi)
                          try go_wp2
                          go_ret
                          exact ⟨by first | rfl | (simp [errW_none, errW_some] <;> rfl) | (simp only [← hji46]; first | rfl | (simp [errW_none, errW_some] <;> rfl)) | (simp [*, errW_none, errW_some] <;> rfl), by repeat (first | (with_reducible first | exact HB.out | apply below_alloc | apply pw_below_drewN | apply below_drew1 | refine below_set ?_ GE175.out | refine below_set ?_ GE183.out) | exact HB.out)⟩
                      · rw [if_neg c48] at H
                        exact absurd H (by simp)
                    · rw [if_neg c47] at H
                      exact absurd H (by simp)
                  · rw [if_neg c45] at H
                    have c45b0 : decide (0 < x4_2) = false := decide_eq_false c45
                    clear c45
                    replace H := Option.bind_eq_some_iff.mp H
                    obtain ⟨t189, A1030, H⟩ := H
                    replace H : (if t189 < 0 then (some false) else ((spec_l2At.f k2 l0_0 l0_1 ((rd_T56 l0_1 x4_2).f2.f0) ((rd_T56 l0_1 x4_2).f2.f1)).bind fun t190 => (if t190 < 0 then (some false) else (if x4_2 ≥ 56 then (some false) else (spec_GraphOk.l1 k2 (wrap64 (x4_2 + 1)) l0_0 l0_1))))) = some r := H
                    have A103 := Aside0.mk A1030
                    clear A1030
                    by_cases c104 : t189 < 0
                    · rw [if_pos c104] at H
                      have c104b0 : decide (t189 < 0) = true := decide_eq_true c104
                      clear c104
                      obtain rfl := Option.some.inj H
                      have hcz105_0 : wr.cell? ⟨gb175, 0, none⟩ = some (.slice A0_0 l0_0.length c0_0) := (blk_cell BK175.out 0).trans rfl
                      have hcz105_1 : wr.cell? ⟨gb175, 1, none⟩ = some (.slice A0_1 l0_1.length c0_1) := (blk_cell BK175.out 1).trans rfl
                      have hfz105_0 := blk_frozen BK175.out 0
                      have hfz105_1 := blk_frozen BK175.out 1
                      have p182 : 0 ≤ (x4_2 : Int) := of_decide_eq_true (by first | (with_reducible assumption) | assumption)
                      have q182 : x4_2 < (l0_1.length : Int) := of_decide_eq_true (by first | (with_reducible assumption) | assumption)
                      obtain ⟨ad182, e182, hx182_0, hx182_1, hx182_2, hx182_3, hx182_4⟩ := at_T56 HR0_1.out x4_2 p182 q182
                      cases e182
                      replace hx182_0 := (HB.out.cell (World.block_lt_of_cell? w _ hx182_0)).trans hx182_0
                      replace hx182_1 := (HB.out.cell (World.block_lt_of_cell? w _ hx182_1)).trans hx182_1
                      replace hx182_2 := (HB.out.cell (World.block_lt_of_cell? w _ hx182_2)).trans hx182_2
                      replace hx182_3 := (HB.out.cell (World.block_lt_of_cell? w _ hx182_3)).trans hx182_3
                      replace hx182_4 := (HB.out.cell (World.block_lt_of_cell? w _ hx182_4)).trans hx182_4
                      replace p182 := eq_true p182
                      replace q182 := eq_true q182
                      try go_wp2_with (first | ((with_reducible refine gate_dst (N := 5) rfl ?_); refine box_event ?hg (N := 5) ?hd (cs := #[.int .i64 0, .int .i64 0, .int .i64 0, .int .i64 0, .int .i64 0]) (t := 56) ?hr ?_; (case hd => rfl); (case hg => rfl); (case hr => first | (go_simp; done) | (go_simp; rfl)); intro gb183 hg w106 hbox hb; have n0_ := Aside0.mk (blk_below (g := gb175) (o := .cells #[.slice A0_0 l0_0.length c0_0, .slice (some ad182) l0_1.length c0_1] 34 (0, 0)) (by (with_reducible repeat (first | refine blk_drewN ?_ _ | refine blk_drew ?_ | refine blk_alloc ?_ _)); exact BK175.out) hb); have n1_ := Aside0.mk (below_step (by repeat (first | (with_reducible first | exact HB.out | apply below_alloc | apply pw_below_drewN | apply below_drew1 | refine below_set ?_ GE175.out) | exact HB.out)) hb); have n2_ := Aside0.mk (hbox); have n3_ := Aside0.mk ((by rw [hg]; exact (below_size (by repeat (first | (with_reducible first | exact HB.out | apply below_alloc | apply pw_below_drewN | apply below_drew1 | refine below_set ?_ GE175.out) | exact HB.out))) : w.heap.size ≤ gb183)); have n4_ := Aside0.mk ((by rw [hg]; exact (below_size (by repeat (first | (with_reducible first | exact HB.out | apply below_alloc | apply pw_below_drewN | apply below_drew1 | refine below_set ?_ GE175.out) | exact HB.out))) : w.heap.size ≤ gb183)); have n5_ := Aside0.mk ((by rw [hg]; exact Nat.ne_of_lt (blk_lt (g := gb175) (o := .cells #[.slice A0_0 l0_0.length c0_0, .slice (some ad182) l0_1.length c0_1] 34 (0, 0)) (by (with_reducible repeat (first | refine blk_drewN ?_ _ | refine blk_drew ?_ | refine blk_alloc ?_ _)); exact BK175.out)) : gb175 ≠ gb183)); have n6_ := Aside0.mk ((by rw [hg]; exact Nat.ne_of_gt (blk_lt (g := gb175) (o := .cells #[.slice A0_0 l0_0.length c0_0, .slice (some ad182) l0_1.length c0_1] 34 (0, 0)) (by (with_reducible repeat (first | refine blk_drewN ?_ _ | refine blk_drew ?_ | refine blk_alloc ?_ _)); exact BK175.out)) : gb183 ≠ gb175)); clear BK175; clear HB; have BK175 := n0_; have HB := n1_; have BK183 := n2_; have GW183 := n3_; have GE183 := n4_; have NB175_183 := n5_; have NB183_175 := n6_; clear n0_ n1_ n2_ n3_ n4_ n5_ n6_; clear hb hbox hg; have hnb107 := NB183_175.out; have hnc107 := NB175_183.out; have hcz108_0 : w106.cell? ⟨gb183, 0, none⟩ = some (.int .i64 0) := (blk_cell BK183.out 0).trans rfl; have hcz108_1 : w106.cell? ⟨gb183, 1, none⟩ = some (.int .i64 0) := (blk_cell BK183.out 1).trans rfl; have hcz108_2 : w106.cell? ⟨gb183, 2, none⟩ = some (.int .i64 0) := (blk_cell BK183.out 2).trans rfl; have hcz108_3 : w106.cell? ⟨gb183, 3, none⟩ = some (.int .i64 0) := (blk_cell BK183.out 3).trans rfl; have hcz108_4 : w106.cell? ⟨gb183, 4, none⟩ = some (.int .i64 0) := (blk_cell BK183.out 4).trans rfl; have hfz108_0 := blk_frozen BK183.out 0; have hfz108_1 := blk_frozen BK183.out 1; have hfz108_2 := blk_frozen BK183.out 2; have hfz108_3 := blk_frozen BK183.out 3; have hfz108_4 := blk_frozen BK183.out 4))
                      have n0_ : Aside0 ((((((w106.setCell ⟨gb183, 0, none⟩ (.int .i64 ((rd_T56 l0_1 x4_2).f0))).setCell ⟨gb183, 1, none⟩ (.int .i64 ((rd_T56 l0_1 x4_2).f1.f0))).setCell ⟨gb183, 2, none⟩ (.int .i64 ((rd_T56 l0_1 x4_2).f1.f1))).setCell ⟨gb183, 3, none⟩ (.int .i64 ((rd_T56 l0_1 x4_2).f2.f0))).setCell ⟨gb183, 4, none⟩ (.int .i64 ((rd_T56 l0_1 x4_2).f2.f1))).heap[gb175]? = some (.cells #[.slice A0_0 l0_0.length c0_0, .slice (some ad182) l0_1.length c0_1] 34 (0, 0))) := ⟨by (with_reducible repeat (first | refine blk_drewN ?_ _ | refine blk_drew ?_ | refine blk_alloc ?_ _)); refine blk_far ?_ NB175_183.out _; (with_reducible repeat (first | refine blk_drewN ?_ _ | refine blk_drew ?_ | refine blk_alloc ?_ _)); refine blk_far ?_ NB175_183.out _; (with_reducible repeat (first | refine blk_drewN ?_ _ | refine blk_drew ?_ | refine blk_alloc ?_ _)); refine blk_far ?_ NB175_183.out _; (with_reducible repeat (first | refine blk_drewN ?_ _ | refine blk_drew ?_ | refine blk_alloc ?_ _)); refine blk_far ?_ NB175_183.out _; (with_reducible repeat (first | refine blk_drewN ?_ _ | refine blk_drew ?_ | refine blk_alloc ?_ _)); refine blk_far ?_ NB175_183.out _; (with_reducible repeat (first | refine blk_drewN ?_ _ | refine blk_drew ?_ | refine blk_alloc ?_ _)); exact BK175.out⟩
                      have n1_ : Aside0 ((((((w106.setCell ⟨gb183, 0, none⟩ (.int .i64 ((rd_T56 l0_1 x4_2).f0))).setCell ⟨gb183, 1, none⟩ (.int .i64 ((rd_T56 l0_1 x4_2).f1.f0))).setCell ⟨gb183, 2, none⟩ (.int .i64 ((rd_T56 l0_1 x4_2).f1.f1))).setCell ⟨gb183, 3, none⟩ (.int .i64 ((rd_T56 l0_1 x4_2).f2.f0))).setCell ⟨gb183, 4, none⟩ (.int .i64 ((rd_T56 l0_1 x4_2).f2.f1))).heap[gb183]? = some (.cells #[.int .i64 ((rd_T56 l0_1 x4_2).f0), .int .i64 ((rd_T56 l0_1 x4_2).f1.f0), .int .i64 ((rd_T56 l0_1 x4_2).f1.f1), .int .i64 ((rd_T56 l0_1 x4_2).f2.f0), .int .i64 ((rd_T56 l0_1 x4_2).f2.f1)] 56 (0, 0))) := ⟨by (with_reducible repeat (first | refine blk_drewN ?_ _ | refine blk_drew ?_ | refine blk_alloc ?_ _)); refine blk_put (cs := #[.int .i64 ((rd_T56 l0_1 x4_2).f0), .int .i64 ((rd_T56 l0_1 x4_2).f1.f0), .int .i64 ((rd_T56 l0_1 x4_2).f1.f1), .int .i64 ((rd_T56 l0_1 x4_2).f2.f0), .int .i64 0]) ?_ 4 _ rfl; (with_reducible repeat (first | refine blk_drewN ?_ _ | refine blk_drew ?_ | refine blk_alloc ?_ _)); refine blk_put (cs := #[.int .i64 ((rd_T56 l0_1 x4_2).f0), .int .i64 ((rd_T56 l0_1 x4_2).f1.f0), .int .i64 ((rd_T56 l0_1 x4_2).f1.f1), .int .i64 0, .int .i64 0]) ?_ 3 _ rfl; (with_reducible repeat (first | refine blk_drewN ?_ _ | refine blk_drew ?_ | refine blk_alloc ?_ _)); refine blk_put (cs := #[.int .i64 ((rd_T56 l0_1 x4_2).f0), .int .i64 ((rd_T56 l0_1 x4_2).f1.f0), .int .i64 0, .int .i64 0, .int .i64 0]) ?_ 2 _ rfl; (with_reducible repeat (first | refine blk_drewN ?_ _ | refine blk_drew ?_ | refine blk_alloc ?_ _)); refine blk_put (cs := #[.int .i64 ((rd_T56 l0_1 x4_2).f0), .int .i64 0, .int .i64 0, .int .i64 0, .int .i64 0]) ?_ 1 _ rfl; (with_reducible repeat (first | refine blk_drewN ?_ _ | refine blk_drew ?_ | refine blk_alloc ?_ _)); refine blk_put (cs := #[.int .i64 0, .int .i64 0, .int .i64 0, .int .i64 0, .int .i64 0]) ?_ 0 _ rfl; (with_reducible repeat (first | refine blk_drewN ?_ _ | refine blk_drew ?_ | refine blk_alloc ?_ _)); exact BK183.out⟩
                      have n2_ : Aside0 (Below w.heap.size w (((((w106.setCell ⟨gb183, 0, none⟩ (.int .i64 ((rd_T56 l0_1 x4_2).f0))).setCell ⟨gb183, 1, none⟩ (.int .i64 ((rd_T56 l0_1 x4_2).f1.f0))).setCell ⟨gb183, 2, none⟩ (.int .i64 ((rd_T56 l0_1 x4_2).f1.f1))).setCell ⟨gb183, 3, none⟩ (.int .i64 ((rd_T56 l0_1 x4_2).f2.f0))).setCell ⟨gb183, 4, none⟩ (.int .i64 ((rd_T56 l0_1 x4_2).f2.f1)))) := ⟨by repeat (first | (with_reducible first | exact HB.out | apply below_alloc | apply pw_below_drewN | apply below_drew1 | refine below_set ?_ GE175.out | refine below_set ?_ GE183.out) | exact HB.out)⟩
                      (try clear BK175)
                      (try clear BK183)
                      (try clear HB)
                      generalize (((((w106.setCell ⟨gb183, 0, none⟩ (.int .i64 ((rd_T56 l0_1 x4_2).f0))).setCell ⟨gb183, 1, none⟩ (.int .i64 ((rd_T56 l0_1 x4_2).f1.f0))).setCell ⟨gb183, 2, none⟩ (.int .i64 ((rd_T56 l0_1 x4_2).f1.f1))).setCell ⟨gb183, 3, none⟩ (.int .i64 ((rd_T56 l0_1 x4_2).f2.f0))).setCell ⟨gb183, 4, none⟩ (.int .i64 ((rd_T56 l0_1 x4_2).f2.f1))) = w109 at n0_ n1_ n2_ ⊢
                      have BK175 := n0_
                      have BK183 := n1_
                      have HB := n2_
                      clear n0_ n1_ n2_
                      have n0_ := Aside0.mk (blk_drew BK175.out)
                      have n1_ := Aside0.mk (blk_drew BK183.out)
                      have n2_ := Aside0.mk (below_drew1 HB.out)
                      clear BK175
                      clear BK183
                      clear HB
                      have BK175 := n0_
                      have BK183 := n1_
                      have HB := n2_
                      clear n0_ n1_ n2_
                      refine wp_region_bel (by kernel_rfl) (by kernel_rfl) ?_
                      generalize w109.drew = w110 at BK175 BK183 HB ⊢
                      have hbp_ := fun (p_ : Bel w110) => below_step HB.out p_.h
                      have hz0_ : ∀ p_ : Bel w110, p_.v.cell? ⟨gb183, 0, none⟩ = some (.int .i64 ((rd_T56 l0_1 x4_2).f0)) := fun p_ => cell_bel ((blk_cell BK183.out 0).trans rfl) p_
                      have hz1_ : ∀ p_ : Bel w110, p_.v.cell? ⟨gb183, 1, none⟩ = some (.int .i64 ((rd_T56 l0_1 x4_2).f1.f0)) := fun p_ => cell_bel ((blk_cell BK183.out 1).trans rfl) p_
                      have hz2_ : ∀ p_ : Bel w110, p_.v.cell? ⟨gb183, 2, none⟩ = some (.int .i64 ((rd_T56 l0_1 x4_2).f1.f1)) := fun p_ => cell_bel ((blk_cell BK183.out 2).trans rfl) p_
                      have hz3_ : ∀ p_ : Bel w110, p_.v.cell? ⟨gb183, 3, none⟩ = some (.int .i64 ((rd_T56 l0_1 x4_2).f2.f0)) := fun p_ => cell_bel ((blk_cell BK183.out 3).trans rfl) p_
                      have hz4_ : ∀ p_ : Bel w110, p_.v.cell? ⟨gb183, 4, none⟩ = some (.int .i64 ((rd_T56 l0_1 x4_2).f2.f1)) := fun p_ => cell_bel ((blk_cell BK183.out 4).trans rfl) p_
                      have hz5_ : ∀ p_ : Bel w110, p_.v.cell? ⟨gb175, 0, none⟩ = some (.slice A0_0 l0_0.length c0_0) := fun p_ => cell_bel ((blk_cell BK175.out 0).trans rfl) p_
                      have hz6_ : ∀ p_ : Bel w110, p_.v.cell? ⟨gb175, 1, none⟩ = some (.slice (some ad182) l0_1.length c0_1) := fun p_ => cell_bel ((blk_cell BK175.out 1).trans rfl) p_
                      repeat (go_big_quiet_step (first
                        | (with_reducible show Calls Try.prog 77 #[.agg #[.int .i64 ((rd_T56 l0_1 x4_2).f0), .int .i64 ((rd_T56 l0_1 x4_2).f1.f0), .int .i64 ((rd_T56 l0_1 x4_2).f1.f1), .int .i64 ((rd_T56 l0_1 x4_2).f2.f0), .int .i64 ((rd_T56 l0_1 x4_2).f2.f1)]] _ _; with_reducible exact calls_bel (spec_EdgeOk.calls ((rd_T56 l0_1 x4_2).f0) ((rd_T56 l0_1 x4_2).f1.f0) ((rd_T56 l0_1 x4_2).f1.f1) ((rd_T56 l0_1 x4_2).f2.f0) ((rd_T56 l0_1 x4_2).f2.f1) true _ A43.out))
                        | (with_reducible show Calls Try.prog 62 #[.agg #[.slice A0_0 l0_0.length c0_0, .slice (some ad182) l0_1.length c0_1], .agg #[.int .i64 ((rd_T56 l0_1 x4_2).f1.f0), .int .i64 ((rd_T56 l0_1 x4_2).f1.f1)]] _ _; with_reducible refine calls_bel (spec_l2At.calls k2 _ _ l0_0 _ _ l0_1 ((rd_T56 l0_1 x4_2).f1.f0) ((rd_T56 l0_1 x4_2).f1.f1) t189 _ ?side1 ?side2 ?side3 ?side4 A103.out); (case side1 => repeat (first | exact (Kd.C_below HR0_0.out (hbp_ _)) | (with_reducible refine Kd.C_alloc ?_ _) | (with_reducible refine Kd.C_drewN ?_ _) | (with_reducible refine Kd.C_drew ?_))); (case side2 => exact HC0_0.out); (case side3 => repeat (first | exact (Kd.C_below HR0_1.out (hbp_ _)) | (with_reducible refine Kd.C_alloc ?_ _) | (with_reducible refine Kd.C_drewN ?_ _) | (with_reducible refine Kd.C_drew ?_))); (case side4 => exact HC0_1.out))))
                      refine wpQuiet_nil ?_
                      intro w112 hw'
                      obtain ⟨⟨wq_, hb⟩, hw''⟩ := hw'
                      subst hw''
                      clear hbp_ hz0_ hz1_ hz2_ hz3_ hz4_ hz5_ hz6_
                      have n0_ := Aside0.mk (blk_below (g := gb175) (o := .cells #[.slice A0_0 l0_0.length c0_0, .slice (some ad182) l0_1.length c0_1] 34 (0, 0)) (by (with_reducible repeat (first | refine blk_drewN ?_ _ | refine blk_drew ?_ | refine blk_alloc ?_ _)); exact BK175.out) hb)
                      have n1_ := Aside0.mk (blk_below (g := gb183) (o := .cells #[.int .i64 ((rd_T56 l0_1 x4_2).f0), .int .i64 ((rd_T56 l0_1 x4_2).f1.f0), .int .i64 ((rd_T56 l0_1 x4_2).f1.f1), .int .i64 ((rd_T56 l0_1 x4_2).f2.f0), .int .i64 ((rd_T56 l0_1 x4_2).f2.f1)] 56 (0, 0)) (by (with_reducible repeat (first | refine blk_drewN ?_ _ | refine blk_drew ?_ | refine blk_alloc ?_ _)); exact BK183.out) hb)
                      have n2_ := Aside0.mk (below_step (by repeat (first | (with_reducible first | exact HB.out | apply below_alloc | apply pw_below_drewN | apply below_drew1 | refine below_set ?_ GE175.out | refine below_set ?_ GE183.out) | exact HB.out)) hb)
                      clear BK175
                      clear BK183
                      clear HB
                      have BK175 := n0_
                      have BK183 := n1_
                      have HB := n2_
                      clear n0_ n1_ n2_
                      (try clear hb)
                      (try clear hb2)
                      (try clear hk)
                      (try clear hi)
                      try go_wp2
                      go_ret
                      exact ⟨by first | rfl | (simp [errW_none, errW_some] <;> rfl) | (simp [*, errW_none, errW_some] <;> rfl), by repeat (first | (with_reducible first | exact HB.out | apply below_alloc | apply pw_below_drewN | apply below_drew1 | refine below_set ?_ GE175.out | refine below_set ?_ GE183.out) | exact HB.out)⟩
                    · rw [if_neg c104] at H
                      have c104b0 : decide (t189 < 0) = false := decide_eq_false c104
                      clear c104
                      replace H := Option.bind_eq_some_iff.mp H
                      obtain ⟨t190, A1130, H⟩ := H
                      replace H : (if t190 < 0 then (some false) else (if x4_2 ≥ 56 then (some false) else (spec_GraphOk.l1 k2 (wrap64 (x4_2 + 1)) l0_0 l0_1))) = some r := H
                      have A113 := Aside0.mk A1130
                      clear A1130
                      by_cases c114 : t190 < 0
                      · rw [if_pos c114] at H
                        have c114b0 : decide (t190 < 0) = true := decide_eq_true c114
                        clear c114
                        obtain rfl := Option.some.inj H
                        have hcz115_0 : wr.cell? ⟨gb175, 0, none⟩ = some (.slice A0_0 l0_0.length c0_0) := (blk_cell BK175.out 0).trans rfl
                        have hcz115_1 : wr.cell? ⟨gb175, 1, none⟩ = some (.slice A0_1 l0_1.length c0_1) := (blk_cell BK175.out 1).trans rfl
                        have hfz115_0 := blk_frozen BK175.out 0
                        have hfz115_1 := blk_frozen BK175.out 1
                        have p182 : 0 ≤ (x4_2 : Int) := of_decide_eq_true (by first | (with_reducible assumption) | assumption)
                        have q182 : x4_2 < (l0_1.length : Int) := of_decide_eq_true (by first | (with_reducible assumption) | assumption)
                        obtain ⟨ad182, e182, hx182_0, hx182_1, hx182_2, hx182_3, hx182_4⟩ := at_T56 HR0_1.out x4_2 p182 q182
                        cases e182
                        replace hx182_0 := (HB.out.cell (World.block_lt_of_cell? w _ hx182_0)).trans hx182_0
                        replace hx182_1 := (HB.out.cell (World.block_lt_of_cell? w _ hx182_1)).trans hx182_1
                        replace hx182_2 := (HB.out.cell (World.block_lt_of_cell? w _ hx182_2)).trans hx182_2
                        replace hx182_3 := (HB.out.cell (World.block_lt_of_cell? w _ hx182_3)).trans hx182_3
                        replace hx182_4 := (HB.out.cell (World.block_lt_of_cell? w _ hx182_4)).trans hx182_4
                        replace p182 := eq_true p182
                        replace q182 := eq_true q182
                        try go_wp2_with (first | ((with_reducible refine gate_dst (N := 5) rfl ?_); refine box_event ?hg (N := 5) ?hd (cs := #[.int .i64 0, .int .i64 0, .int .i64 0, .int .i64 0, .int .i64 0]) (t := 56) ?hr ?_; (case hd => rfl); (case hg => rfl); (case hr => first | (go_simp; done) | (go_simp; rfl)); intro gb183 hg w116 hbox hb; have n0_ := Aside0.mk (blk_below (g := gb175) (o := .cells #[.slice A0_0 l0_0.length c0_0, .slice (some ad182) l0_1.length c0_1] 34 (0, 0)) (by (with_reducible repeat (first | refine blk_drewN ?_ _ | refine blk_drew ?_ | refine blk_alloc ?_ _)); exact BK175.out) hb); have n1_ := Aside0.mk (below_step (by repeat (first | (with_reducible first | exact HB.out | apply below_alloc | apply pw_below_drewN | apply below_drew1 | refine below_set ?_ GE175.out) | exact HB.out)) hb); have n2_ := Aside0.mk (hbox); have n3_ := Aside0.mk ((by rw [hg]; exact (below_size (by repeat (first | (with_reducible first | exact HB.out | apply below_alloc | apply pw_below_drewN | apply below_drew1 | refine below_set ?_ GE175.out) | exact HB.out))) : w.heap.size ≤ gb183)); have n4_ := Aside0.mk ((by rw [hg]; exact (below_size (by repeat (first | (with_reducible first | exact HB.out | apply below_alloc | apply pw_below_drewN | apply below_drew1 | refine below_set ?_ GE175.out) | exact HB.out))) : w.heap.size ≤ gb183)); have n5_ := Aside0.mk ((by rw [hg]; exact Nat.ne_of_lt (blk_lt (g := gb175) (o := .cells #[.slice A0_0 l0_0.length c0_0, .slice (some ad182) l0_1.length c0_1] 34 (0, 0)) (by (with_reducible repeat (first | refine blk_drewN ?_ _ | refine blk_drew ?_ | refine blk_alloc ?_ _)); exact BK175.out)) : gb175 ≠ gb183)); have n6_ := Aside0.mk ((by rw [hg]; exact Nat.ne_of_gt (blk_lt (g := gb175) (o := .cells #[.slice A0_0 l0_0.length c0_0, .slice (some ad182) l0_1.length c0_1] 34 (0, 0)) (by (with_reducible repeat (first | refine blk_drewN ?_ _ | refine blk_drew ?_ | refine blk_alloc ?_ _)); exact BK175.out)) : gb183 ≠ gb175)); clear BK175; clear HB; have BK175 := n0_; have HB := n1_; have BK183 := n2_; have GW183 := n3_; have GE183 := n4_; have NB175_183 := n5_; have NB183_175 := n6_; clear n0_ n1_ n2_ n3_ n4_ n5_ n6_; clear hb hbox hg; have hnb117 := NB183_175.out; have hnc117 := NB175_183.out; have hcz118_0 : w116.cell? ⟨gb183, 0, none⟩ = some (.int .i64 0) := (blk_cell BK183.out 0).trans rfl; have hcz118_1 : w116.cell? ⟨gb183, 1, none⟩ = some (.int .i64 0) := (blk_cell BK183.out 1).trans rfl; have hcz118_2 : w116.cell? ⟨gb183, 2, none⟩ = some (.int .i64 0) := (blk_cell BK183.out 2).trans rfl; have hcz118_3 : w116.cell? ⟨gb183, 3, none⟩ = some (.int .i64 0) := (blk_cell BK183.out 3).trans rfl; have hcz118_4 : w116.cell? ⟨gb183, 4, none⟩ = some (.int .i64 0) := (blk_cell BK183.out 4).trans rfl; have hfz118_0 := blk_frozen BK183.out 0; have hfz118_1 := blk_frozen BK183.out 1; have hfz118_2 := blk_frozen BK183.out 2; have hfz118_3 := blk_frozen BK183.out 3; have hfz118_4 := blk_frozen BK183.out 4))
                        have n0_ : Aside0 ((((((w116.setCell ⟨gb183, 0, none⟩ (.int .i64 ((rd_T56 l0_1 x4_2).f0))).setCell ⟨gb183, 1, none⟩ (.int .i64 ((rd_T56 l0_1 x4_2).f1.f0))).setCell ⟨gb183, 2, none⟩ (.int .i64 ((rd_T56 l0_1 x4_2).f1.f1))).setCell ⟨gb183, 3, none⟩ (.int .i64 ((rd_T56 l0_1 x4_2).f2.f0))).setCell ⟨gb183, 4, none⟩ (.int .i64 ((rd_T56 l0_1 x4_2).f2.f1))).heap[gb175]? = some (.cells #[.slice A0_0 l0_0.length c0_0, .slice (some ad182) l0_1.length c0_1] 34 (0, 0))) := ⟨by (with_reducible repeat (first | refine blk_drewN ?_ _ | refine blk_drew ?_ | refine blk_alloc ?_ _)); refine blk_far ?_ NB175_183.out _; (with_reducible repeat (first | refine blk_drewN ?_ _ | refine blk_drew ?_ | refine blk_alloc ?_ _)); refine blk_far ?_ NB175_183.out _; (with_reducible repeat (first | refine blk_drewN ?_ _ | refine blk_drew ?_ | refine blk_alloc ?_ _)); refine blk_far ?_ NB175_183.out _; (with_reducible repeat (first | refine blk_drewN ?_ _ | refine blk_drew ?_ | refine blk_alloc ?_ _)); refine blk_far ?_ NB175_183.out _; (with_reducible repeat (first | refine blk_drewN ?_ _ | refine blk_drew ?_ | refine blk_alloc ?_ _)); refine blk_far ?_ NB175_183.out _; (with_reducible repeat (first | refine blk_drewN ?_ _ | refine blk_drew ?_ | refine blk_alloc ?_ _)); exact BK175.out⟩
                        have n1_ : Aside0 ((((((w116.setCell ⟨gb183, 0, none⟩ (.int .i64 ((rd_T56 l0_1 x4_2).f0))).setCell ⟨gb183, 1, none⟩ (.int .i64 ((rd_T56 l0_1 x4_2).f1.f0))).setCell ⟨gb183, 2, none⟩ (.int .i64 ((rd_T56 l0_1 x4_2).f1.f1))).setCell ⟨gb183, 3, none⟩ (.int .i64 ((rd_T56 l0_1 x4_2).f2.f0))).setCell ⟨gb183, 4, none⟩ (.int .i64 ((rd_T56 l0_1 x4_2).f2.f1))).heap[gb183]? = some (.cells #[.int .i64 ((rd_T56 l0_1 x4_2).f0), .int .i64 ((rd_T56 l0_1 x4_2).f1.f0), .int .i64 ((rd_T56 l0_1 x4_2).f1.f1), .int .i64 ((rd_T56 l0_1 x4_2).f2.f0), .int .i64 ((rd_T56 l0_1 x4_2).f2.f1)] 56 (0, 0))) := ⟨by (with_reducible repeat (first | refine blk_drewN ?_ _ | refine blk_drew ?_ | refine blk_alloc ?_ _)); refine blk_put (cs := #[.int .i64 ((rd_T56 l0_1 x4_2).f0), .int .i64 ((rd_T56 l0_1 x4_2).f1.f0), .int .i64 ((rd_T56 l0_1 x4_2).f1.f1), .int .i64 ((rd_T56 l0_1 x4_2).f2.f0), .int .i64 0]) ?_ 4 _ rfl; (with_reducible repeat (first | refine blk_drewN ?_ _ | refine blk_drew ?_ | refine blk_alloc ?_ _)); refine blk_put (cs := #[.int .i64 ((rd_T56 l0_1 x4_2).f0), .int .i64 ((rd_T56 l0_1 x4_2).f1.f0), .int .i64 ((rd_T56 l0_1 x4_2).f1.f1), .int .i64 0, .int .i64 0]) ?_ 3 _ rfl; (with_reducible repeat (first | refine blk_drewN ?_ _ | refine blk_drew ?_ | refine blk_alloc ?_ _)); refine blk_put (cs := #[.int .i64 ((rd_T56 l0_1 x4_2).f0), .int .i64 ((rd_T56 l0_1 x4_2).f1.f0), .int .i64 0, .int .i64 0, .int .i64 0]) ?_ 2 _ rfl; (with_reducible repeat (first | refine blk_drewN ?_ _ | refine blk_drew ?_ | refine blk_alloc ?_ _)); refine blk_put (cs := #[.int .i64 ((rd_T56 l0_1 x4_2).f0), .int .i64 0, .int .i64 0, .int .i64 0, .int .i64 0]) ?_ 1 _ rfl; (with_reducible repeat (first | refine blk_drewN ?_ _ | refine blk_drew ?_ | refine blk_alloc ?_ _)); refine blk_put (cs := #[.int .i64 0, .int .i64 0, .int .i64 0, .int .i64 0, .int .i64 0]) ?_ 0 _ rfl; (with_reducible repeat (first | refine blk_drewN ?_ _ | refine blk_drew ?_ | refine blk_alloc ?_ _)); exact BK183.out⟩
                        have n2_ : Aside0 (Below w.heap.size w (((((w116.setCell ⟨gb183, 0, none⟩ (.int .i64 ((rd_T56 l0_1 x4_2).f0))).setCell ⟨gb183, 1, none⟩ (.int .i64 ((rd_T56 l0_1 x4_2).f1.f0))).setCell ⟨gb183, 2, none⟩ (.int .i64 ((rd_T56 l0_1 x4_2).f1.f1))).setCell ⟨gb183, 3, none⟩ (.int .i64 ((rd_T56 l0_1 x4_2).f2.f0))).setCell ⟨gb183, 4, none⟩ (.int .i64 ((rd_T56 l0_1 x4_2).f2.f1)))) := ⟨by repeat (first | (with_reducible first | exact HB.out | apply below_alloc | apply pw_below_drewN | apply below_drew1 | refine below_set ?_ GE175.out | refine below_set ?_ GE183.out) | exact HB.out)⟩
                        (try clear BK175)
                        (try clear BK183)
                        (try clear HB)
                        generalize (((((w116.setCell ⟨gb183, 0, none⟩ (.int .i64 ((rd_T56 l0_1 x4_2).f0))).setCell ⟨gb183, 1, none⟩ (.int .i64 ((rd_T56 l0_1 x4_2).f1.f0))).setCell ⟨gb183, 2, none⟩ (.int .i64 ((rd_T56 l0_1 x4_2).f1.f1))).setCell ⟨gb183, 3, none⟩ (.int .i64 ((rd_T56 l0_1 x4_2).f2.f0))).setCell ⟨gb183, 4, none⟩ (.int .i64 ((rd_T56 l0_1 x4_2).f2.f1))) = w119 at n0_ n1_ n2_ ⊢
                        have BK175 := n0_
                        have BK183 := n1_
                        have HB := n2_
                        clear n0_ n1_ n2_
                        have n0_ := Aside0.mk (blk_drew BK175.out)
                        have n1_ := Aside0.mk (blk_drew BK183.out)
                        have n2_ := Aside0.mk (below_drew1 HB.out)
                        clear BK175
                        clear BK183
                        clear HB
                        have BK175 := n0_
                        have BK183 := n1_
                        have HB := n2_
                        clear n0_ n1_ n2_
                        refine wp_region_bel (by kernel_rfl) (by kernel_rfl) ?_
                        generalize w119.drew = w120 at BK175 BK183 HB ⊢
                        have hbp_ := fun (p_ : Bel w120) => below_step HB.out p_.h
                        have hz0_ : ∀ p_ : Bel w120, p_.v.cell? ⟨gb183, 0, none⟩ = some (.int .i64 ((rd_T56 l0_1 x4_2).f0)) := fun p_ => cell_bel ((blk_cell BK183.out 0).trans rfl) p_
                        have hz1_ : ∀ p_ : Bel w120, p_.v.cell? ⟨gb183, 1, none⟩ = some (.int .i64 ((rd_T56 l0_1 x4_2).f1.f0)) := fun p_ => cell_bel ((blk_cell BK183.out 1).trans rfl) p_
                        have hz2_ : ∀ p_ : Bel w120, p_.v.cell? ⟨gb183, 2, none⟩ = some (.int .i64 ((rd_T56 l0_1 x4_2).f1.f1)) := fun p_ => cell_bel ((blk_cell BK183.out 2).trans rfl) p_
                        have hz3_ : ∀ p_ : Bel w120, p_.v.cell? ⟨gb183, 3, none⟩ = some (.int .i64 ((rd_T56 l0_1 x4_2).f2.f0)) := fun p_ => cell_bel ((blk_cell BK183.out 3).trans rfl) p_
                        have hz4_ : ∀ p_ : Bel w120, p_.v.cell? ⟨gb183, 4, none⟩ = some (.int .i64 ((rd_T56 l0_1 x4_2).f2.f1)) := fun p_ => cell_bel ((blk_cell BK183.out 4).trans rfl) p_
                        have hz5_ : ∀ p_ : Bel w120, p_.v.cell? ⟨gb175, 0, none⟩ = some (.slice A0_0 l0_0.length c0_0) := fun p_ => cell_bel ((blk_cell BK175.out 0).trans rfl) p_
                        have hz6_ : ∀ p_ : Bel w120, p_.v.cell? ⟨gb175, 1, none⟩ = some (.slice (some ad182) l0_1.length c0_1) := fun p_ => cell_bel ((blk_cell BK175.out 1).trans rfl) p_
                        repeat (go_big_quiet_step (first
                          | (with_reducible show Calls Try.prog 77 #[.agg #[.int .i64 ((rd_T56 l0_1 x4_2).f0), .int .i64 ((rd_T56 l0_1 x4_2).f1.f0), .int .i64 ((rd_T56 l0_1 x4_2).f1.f1), .int .i64 ((rd_T56 l0_1 x4_2).f2.f0), .int .i64 ((rd_T56 l0_1 x4_2).f2.f1)]] _ _; with_reducible exact calls_bel (spec_EdgeOk.calls ((rd_T56 l0_1 x4_2).f0) ((rd_T56 l0_1 x4_2).f1.f0) ((rd_T56 l0_1 x4_2).f1.f1) ((rd_T56 l0_1 x4_2).f2.f0) ((rd_T56 l0_1 x4_2).f2.f1) true _ A43.out))
                          | (with_reducible show Calls Try.prog 62 #[.agg #[.slice A0_0 l0_0.length c0_0, .slice (some ad182) l0_1.length c0_1], .agg #[.int .i64 ((rd_T56 l0_1 x4_2).f1.f0), .int .i64 ((rd_T56 l0_1 x4_2).f1.f1)]] _ _; with_reducible refine calls_bel (spec_l2At.calls k2 _ _ l0_0 _ _ l0_1 ((rd_T56 l0_1 x4_2).f1.f0) ((rd_T56 l0_1 x4_2).f1.f1) t189 _ ?side1 ?side2 ?side3 ?side4 A103.out); (case side1 => repeat (first | exact (Kd.C_below HR0_0.out (hbp_ _)) | (with_reducible refine Kd.C_alloc ?_ _) | (with_reducible refine Kd.C_drewN ?_ _) | (with_reducible refine Kd.C_drew ?_))); (case side2 => exact HC0_0.out); (case side3 => repeat (first | exact (Kd.C_below HR0_1.out (hbp_ _)) | (with_reducible refine Kd.C_alloc ?_ _) | (with_reducible refine Kd.C_drewN ?_ _) | (with_reducible refine Kd.C_drew ?_))); (case side4 => exact HC0_1.out))
                          | (with_reducible show Calls Try.prog 62 #[.agg #[.slice A0_0 l0_0.length c0_0, .slice (some ad182) l0_1.length c0_1], .agg #[.int .i64 ((rd_T56 l0_1 x4_2).f2.f0), .int .i64 ((rd_T56 l0_1 x4_2).f2.f1)]] _ _; with_reducible refine calls_bel (spec_l2At.calls k2 _ _ l0_0 _ _ l0_1 ((rd_T56 l0_1 x4_2).f2.f0) ((rd_T56 l0_1 x4_2).f2.f1) t190 _ ?side1 ?side2 ?side3 ?side4 A113.out); (case side1 => repeat (first | exact (Kd.C_below HR0_0.out (hbp_ _)) | (with_reducible refine Kd.C_alloc ?_ _) | (with_reducible refine Kd.C_drewN ?_ _) | (with_reducible refine Kd.C_drew ?_))); (case side2 => exact HC0_0.out); (case side3 => repeat (first | exact (Kd.C_below HR0_1.out (hbp_ _)) | (with_reducible refine Kd.C_alloc ?_ _) | (with_reducible refine Kd.C_drewN ?_ _) | (with_reducible refine Kd.C_drew ?_))); (case side4 => exact HC0_1.out))))
                        refine wpQuiet_nil ?_
                        intro w123 hw'
                        obtain ⟨⟨wq_, hb⟩, hw''⟩ := hw'
                        subst hw''
                        clear hbp_ hz0_ hz1_ hz2_ hz3_ hz4_ hz5_ hz6_
                        have n0_ := Aside0.mk (blk_below (g := gb175) (o := .cells #[.slice A0_0 l0_0.length c0_0, .slice (some ad182) l0_1.length c0_1] 34 (0, 0)) (by (with_reducible repeat (first | refine blk_drewN ?_ _ | refine blk_drew ?_ | refine blk_alloc ?_ _)); exact BK175.out) hb)
                        have n1_ := Aside0.mk (blk_below (g := gb183) (o := .cells #[.int .i64 ((rd_T56 l0_1 x4_2).f0), .int .i64 ((rd_T56 l0_1 x4_2).f1.f0), .int .i64 ((rd_T56 l0_1 x4_2).f1.f1), .int .i64 ((rd_T56 l0_1 x4_2).f2.f0), .int .i64 ((rd_T56 l0_1 x4_2).f2.f1)] 56 (0, 0)) (by (with_reducible repeat (first | refine blk_drewN ?_ _ | refine blk_drew ?_ | refine blk_alloc ?_ _)); exact BK183.out) hb)
                        have n2_ := Aside0.mk (below_step (by repeat (first | (with_reducible first | exact HB.out | apply below_alloc | apply pw_below_drewN | apply below_drew1 | refine below_set ?_ GE175.out | refine below_set ?_ GE183.out) | exact HB.out)) hb)
                        clear BK175
                        clear BK183
                        clear HB
                        have BK175 := n0_
                        have BK183 := n1_
                        have HB := n2_
                        clear n0_ n1_ n2_
                        (try clear hb)
                        (try clear hb2)
                        (try clear hk)
                        (try clear hi)
                        try go_wp2
                        go_ret
                        exact ⟨by first | rfl | (simp [errW_none, errW_some] <;> rfl) | (simp [*, errW_none, errW_some] <;> rfl), by repeat (first | (with_reducible first | exact HB.out | apply below_alloc | apply pw_below_drewN | apply below_drew1 | refine below_set ?_ GE175.out | refine below_set ?_ GE183.out) | exact HB.out)⟩
                      · rw [if_neg c114] at H
                        have c114b0 : decide (t190 < 0) = false := decide_eq_false c114
                        clear c114
                        by_cases c124 : x4_2 ≥ 56
                        · rw [if_pos c124] at H
                          have c124b0 : decide (56 ≤ x4_2) = true := decide_eq_true c124
                          clear c124
                          obtain rfl := Option.some.inj H
                          have hcz125_0 : wr.cell? ⟨gb175, 0, none⟩ = some (.slice A0_0 l0_0.length c0_0) := (blk_cell BK175.out 0).trans rfl
                          have hcz125_1 : wr.cell? ⟨gb175, 1, none⟩ = some (.slice A0_1 l0_1.length c0_1) := (blk_cell BK175.out 1).trans rfl
                          have hfz125_0 := blk_frozen BK175.out 0
                          have hfz125_1 := blk_frozen BK175.out 1
                          have p182 : 0 ≤ (x4_2 : Int) := of_decide_eq_true (by first | (with_reducible assumption) | assumption)
                          have q182 : x4_2 < (l0_1.length : Int) := of_decide_eq_true (by first | (with_reducible assumption) | assumption)
                          obtain ⟨ad182, e182, hx182_0, hx182_1, hx182_2, hx182_3, hx182_4⟩ := at_T56 HR0_1.out x4_2 p182 q182
                          cases e182
                          replace hx182_0 := (HB.out.cell (World.block_lt_of_cell? w _ hx182_0)).trans hx182_0
                          replace hx182_1 := (HB.out.cell (World.block_lt_of_cell? w _ hx182_1)).trans hx182_1
                          replace hx182_2 := (HB.out.cell (World.block_lt_of_cell? w _ hx182_2)).trans hx182_2
                          replace hx182_3 := (HB.out.cell (World.block_lt_of_cell? w _ hx182_3)).trans hx182_3
                          replace hx182_4 := (HB.out.cell (World.block_lt_of_cell? w _ hx182_4)).trans hx182_4
                          replace p182 := eq_true p182
                          replace q182 := eq_true q182
                          try go_wp2_with (first | ((with_reducible refine gate_dst (N := 5) rfl ?_); refine box_event ?hg (N := 5) ?hd (cs := #[.int .i64 0, .int .i64 0, .int .i64 0, .int .i64 0, .int .i64 0]) (t := 56) ?hr ?_; (case hd => rfl); (case hg => rfl); (case hr => first | (go_simp; done) | (go_simp; rfl)); intro gb183 hg w126 hbox hb; have n0_ := Aside0.mk (blk_below (g := gb175) (o := .cells #[.slice A0_0 l0_0.length c0_0, .slice (some ad182) l0_1.length c0_1] 34 (0, 0)) (by (with_reducible repeat (first | refine blk_drewN ?_ _ | refine blk_drew ?_ | refine blk_alloc ?_ _)); exact BK175.out) hb); have n1_ := Aside0.mk (below_step (by repeat (first | (with_reducible first | exact HB.out | apply below_alloc | apply pw_below_drewN | apply below_drew1 | refine below_set ?_ GE175.out) | exact HB.out)) hb); have n2_ := Aside0.mk (hbox); have n3_ := Aside0.mk ((by rw [hg]; exact (below_size (by repeat (first | (with_reducible first | exact HB.out | apply below_alloc | apply pw_below_drewN | apply below_drew1 | refine below_set ?_ GE175.out) | exact HB.out))) : w.heap.size ≤ gb183)); have n4_ := Aside0.mk ((by rw [hg]; exact (below_size (by repeat (first | (with_reducible first | exact HB.out | apply below_alloc | apply pw_below_drewN | apply below_drew1 | refine below_set ?_ GE175.out) | exact HB.out))) : w.heap.size ≤ gb183)); have n5_ := Aside0.mk ((by rw [hg]; exact Nat.ne_of_lt (blk_lt (g := gb175) (o := .cells #[.slice A0_0 l0_0.length c0_0, .slice (some ad182) l0_1.length c0_1] 34 (0, 0)) (by (with_reducible repeat (first | refine blk_drewN ?_ _ | refine blk_drew ?_ | refine blk_alloc ?_ _)); exact BK175.out)) : gb175 ≠ gb183)); have n6_ := Aside0.mk ((by rw [hg]; exact Nat.ne_of_gt (blk_lt (g := gb175) (o := .cells #[.slice A0_0 l0_0.length c0_0, .slice (some ad182) l0_1.length c0_1] 34 (0, 0)) (by (with_reducible repeat (first | refine blk_drewN ?_ _ | refine blk_drew ?_ | refine blk_alloc ?_ _)); exact BK175.out)) : gb183 ≠ gb175)); clear BK175; clear HB; have BK175 := n0_; have HB := n1_; have BK183 := n2_; have GW183 := n3_; have GE183 := n4_; have NB175_183 := n5_; have NB183_175 := n6_; clear n0_ n1_ n2_ n3_ n4_ n5_ n6_; clear hb hbox hg; have hnb127 := NB183_175.out; have hnc127 := NB175_183.out; have hcz128_0 : w126.cell? ⟨gb183, 0, none⟩ = some (.int .i64 0) := (blk_cell BK183.out 0).trans rfl; have hcz128_1 : w126.cell? ⟨gb183, 1, none⟩ = some (.int .i64 0) := (blk_cell BK183.out 1).trans rfl; have hcz128_2 : w126.cell? ⟨gb183, 2, none⟩ = some (.int .i64 0) := (blk_cell BK183.out 2).trans rfl; have hcz128_3 : w126.cell? ⟨gb183, 3, none⟩ = some (.int .i64 0) := (blk_cell BK183.out 3).trans rfl; have hcz128_4 : w126.cell? ⟨gb183, 4, none⟩ = some (.int .i64 0) := (blk_cell BK183.out 4).trans rfl; have hfz128_0 := blk_frozen BK183.out 0; have hfz128_1 := blk_frozen BK183.out 1; have hfz128_2 := blk_frozen BK183.out 2; have hfz128_3 := blk_frozen BK183.out 3; have hfz128_4 := blk_frozen BK183.out 4))
                          have n0_ : Aside0 ((((((w126.setCell ⟨gb183, 0, none⟩ (.int .i64 ((rd_T56 l0_1 x4_2).f0))).setCell ⟨gb183, 1, none⟩ (.int .i64 ((rd_T56 l0_1 x4_2).f1.f0))).setCell ⟨gb183, 2, none⟩ (.int .i64 ((rd_T56 l0_1 x4_2).f1.f1))).setCell ⟨gb183, 3, none⟩ (.int .i64 ((rd_T56 l0_1 x4_2).f2.f0))).setCell ⟨gb183, 4, none⟩ (.int .i64 ((rd_T56 l0_1 x4_2).f2.f1))).heap[gb175]? = some (.cells #[.slice A0_0 l0_0.length c0_0, .slice (some ad182) l0_1.length c0_1] 34 (0, 0))) := ⟨by (with_reducible repeat (first | refine blk_drewN ?_ _ | refine blk_drew ?_ | refine blk_alloc ?_ _)); refine blk_far ?_ NB175_183.out _; (with_reducible repeat (first | refine blk_drewN ?_ _ | refine blk_drew ?_ | refine blk_alloc ?_ _)); refine blk_far ?_ NB175_183.out _; (with_reducible repeat (first | refine blk_drewN ?_ _ | refine blk_drew ?_ | refine blk_alloc ?_ _)); refine blk_far ?_ NB175_183.out _; (with_reducible repeat (first | refine blk_drewN ?_ _ | refine blk_drew ?_ | refine blk_alloc ?_ _)); refine blk_far ?_ NB175_183.out _; (with_reducible repeat (first | refine blk_drewN ?_ _ | refine blk_drew ?_ | refine blk_alloc ?_ _)); refine blk_far ?_ NB175_183.out _; (with_reducible repeat (first | refine blk_drewN ?_ _ | refine blk_drew ?_ | refine blk_alloc ?_ _)); exact BK175.out⟩
                          have n1_ : Aside0 ((((((w126.setCell ⟨gb183, 0, none⟩ (.int .i64 ((rd_T56 l0_1 x4_2).f0))).setCell ⟨gb183, 1, none⟩ (.int .i64 ((rd_T56 l0_1 x4_2).f1.f0))).setCell ⟨gb183, 2, none⟩ (.int .i64 ((rd_T56 l0_1 x4_2).f1.f1))).setCell ⟨gb183, 3, none⟩ (.int .i64 ((rd_T56 l0_1 x4_2).f2.f0))).setCell ⟨gb183, 4, none⟩ (.int .i64 ((rd_T56 l0_1 x4_2).f2.f1))).heap[gb183]? = some (.cells #[.int .i64 ((rd_T56 l0_1 x4_2).f0), .int .i64 ((rd_T56 l0_1 x4_2).f1.f0), .int .i64 ((rd_T56 l0_1 x4_2).f1.f1), .int .i64 ((rd_T56 l0_1 x4_2).f2.f0), .int .i64 ((rd_T56 l0_1 x4_2).f2.f1)] 56 (0, 0))) := ⟨by (with_reducible repeat (first | refine blk_drewN ?_ _ | refine blk_drew ?_ | refine blk_alloc ?_ _)); refine blk_put (cs := #[.int .i64 ((rd_T56 l0_1 x4_2).f0), .int .i64 ((rd_T56 l0_1 x4_2).f1.f0), .int .i64 ((rd_T56 l0_1 x4_2).f1.f1), .int .i64 ((rd_T56 l0_1 x4_2).f2.f0), .int .i64 0]) ?_ 4 _ rfl; (with_reducible repeat (first | refine blk_drewN ?_ _ | refine blk_drew ?_ | refine blk_alloc ?_ _)); refine blk_put (cs := #[.int .i64 ((rd_T56 l0_1 x4_2).f0), .int .i64 ((rd_T56 l0_1 x4_2).f1.f0), .int .i64 ((rd_T56 l0_1 x4_2).f1.f1), .int .i64 0, .int .i64 0]) ?_ 3 _ rfl; (with_reducible repeat (first | refine blk_drewN ?_ _ | refine blk_drew ?_ | refine blk_alloc ?_ _)); refine blk_put (cs := #[.int .i64 ((rd_T56 l0_1 x4_2).f0), .int .i64 ((rd_T56 l0_1 x4_2).f1.f0), .int .i64 0, .int .i64 0, .int .i64 0]) ?_ 2 _ rfl; (with_reducible repeat (first | refine blk_drewN ?_ _ | refine blk_drew ?_ | refine blk_alloc ?_ _)); refine blk_put (cs := #[.int .i64 ((rd_T56 l0_1 x4_2).f0), .int .i64 0, .int .i64 0, .int .i64 0, .int .i64 0]) ?_ 1 _ rfl; (with_reducible repeat (first | refine blk_drewN ?_ _ | refine blk_drew ?_ | refine blk_alloc ?_ _)); refine blk_put (cs := #[.int .i64 0, .int .i64 0, .int .i64 0, .int .i64 0, .int .i64 0]) ?_ 0 _ rfl; (with_reducible repeat (first | refine blk_drewN ?_ _ | refine blk_drew ?_ | refine blk_alloc ?_ _)); exact BK183.out⟩
                          have n2_ : Aside0 (Below w.heap.size w (((((w126.setCell ⟨gb183, 0, none⟩ (.int .i64 ((rd_T56 l0_1 x4_2).f0))).setCell ⟨gb183, 1, none⟩ (.int .i64 ((rd_T56 l0_1 x4_2).f1.f0))).setCell ⟨gb183, 2, none⟩ (.int .i64 ((rd_T56 l0_1 x4_2).f1.f1))).setCell ⟨gb183, 3, none⟩ (.int .i64 ((rd_T56 l0_1 x4_2).f2.f0))).setCell ⟨gb183, 4, none⟩ (.int .i64 ((rd_T56 l0_1 x4_2).f2.f1)))) := ⟨by repeat (first | (with_reducible first | exact HB.out | apply below_alloc | apply pw_below_drewN | apply below_drew1 | refine below_set ?_ GE175.out | refine below_set ?_ GE183.out) | exact HB.out)⟩
                          (try clear BK175)
                          (try clear BK183)
                          (try clear HB)
                          generalize (((((w126.setCell ⟨gb183, 0, none⟩ (.int .i64 ((rd_T56 l0_1 x4_2).f0))).setCell ⟨gb183, 1, none⟩ (.int .i64 ((rd_T56 l0_1 x4_2).f1.f0))).setCell ⟨gb183, 2, none⟩ (.int .i64 ((rd_T56 l0_1 x4_2).f1.f1))).setCell ⟨gb183, 3, none⟩ (.int .i64 ((rd_T56 l0_1 x4_2).f2.f0))).setCell ⟨gb183, 4, none⟩ (.int .i64 ((rd_T56 l0_1 x4_2).f2.f1))) = w129 at n0_ n1_ n2_ ⊢
                          have BK175 := n0_
                          have BK183 := n1_
                          have HB := n2_
                          clear n0_ n1_ n2_
                          have n0_ := Aside0.mk (blk_drew BK175.out)
                          have n1_ := Aside0.mk (blk_drew BK183.out)
                          have n2_ := Aside0.mk (below_drew1 HB.out)
                          clear BK175
                          clear BK183
                          clear HB
                          have BK175 := n0_
                          have BK183 := n1_
                          have HB := n2_
                          clear n0_ n1_ n2_
                          refine wp_region_bel (by kernel_rfl) (by kernel_rfl) ?_
                          generalize w129.drew = w130 at BK175 BK183 HB ⊢
                          have hbp_ := fun (p_ : Bel w130) => below_step HB.out p_.h
                          have hz0_ : ∀ p_ : Bel w130, p_.v.cell? ⟨gb183, 0, none⟩ = some (.int .i64 ((rd_T56 l0_1 x4_2).f0)) := fun p_ => cell_bel ((blk_cell BK183.out 0).trans rfl) p_
                          have hz1_ : ∀ p_ : Bel w130, p_.v.cell? ⟨gb183, 1, none⟩ = some (.int .i64 ((rd_T56 l0_1 x4_2).f1.f0)) := fun p_ => cell_bel ((blk_cell BK183.out 1).trans rfl) p_
                          have hz2_ : ∀ p_ : Bel w130, p_.v.cell? ⟨gb183, 2, none⟩ = some (.int .i64 ((rd_T56 l0_1 x4_2).f1.f1)) := fun p_ => cell_bel ((blk_cell BK183.out 2).trans rfl) p_
                          have hz3_ : ∀ p_ : Bel w130, p_.v.cell? ⟨gb183, 3, none⟩ = some (.int .i64 ((rd_T56 l0_1 x4_2).f2.f0)) := fun p_ => cell_bel ((blk_cell BK183.out 3).trans rfl) p_
                          have hz4_ : ∀ p_ : Bel w130, p_.v.cell? ⟨gb183, 4, none⟩ = some (.int .i64 ((rd_T56 l0_1 x4_2).f2.f1)) := fun p_ => cell_bel ((blk_cell BK183.out 4).trans rfl) p_
                          have hz5_ : ∀ p_ : Bel w130, p_.v.cell? ⟨gb175, 0, none⟩ = some (.slice A0_0 l0_0.length c0_0) := fun p_ => cell_bel ((blk_cell BK175.out 0).trans rfl) p_
                          have hz6_ : ∀ p_ : Bel w130, p_.v.cell? ⟨gb175, 1, none⟩ = some (.slice (some ad182) l0_1.length c0_1) := fun p_ => cell_bel ((blk_cell BK175.out 1).trans rfl) p_
                          repeat (go_big_quiet_step (first
                            | (with_reducible show Calls Try.prog 77 #[.agg #[.int .i64 ((rd_T56 l0_1 x4_2).f0), .int .i64 ((rd_T56 l0_1 x4_2).f1.f0), .int .i64 ((rd_T56 l0_1 x4_2).f1.f1), .int .i64 ((rd_T56 l0_1 x4_2).f2.f0), .int .i64 ((rd_T56 l0_1 x4_2).f2.f1)]] _ _; with_reducible exact calls_bel (spec_EdgeOk.calls ((rd_T56 l0_1 x4_2).f0) ((rd_T56 l0_1 x4_2).f1.f0) ((rd_T56 l0_1 x4_2).f1.f1) ((rd_T56 l0_1 x4_2).f2.f0) ((rd_T56 l0_1 x4_2).f2.f1) true _ A43.out))
                            | (with_reducible show Calls Try.prog 62 #[.agg #[.slice A0_0 l0_0.length c0_0, .slice (some ad182) l0_1.length c0_1], .agg #[.int .i64 ((rd_T56 l0_1 x4_2).f1.f0), .int .i64 ((rd_T56 l0_1 x4_2).f1.f1)]] _ _; with_reducible refine calls_bel (spec_l2At.calls k2 _ _ l0_0 _ _ l0_1 ((rd_T56 l0_1 x4_2).f1.f0) ((rd_T56 l0_1 x4_2).f1.f1) t189 _ ?side1 ?side2 ?side3 ?side4 A103.out); (case side1 => repeat (first | exact (Kd.C_below HR0_0.out (hbp_ _)) | (with_reducible refine Kd.C_alloc ?_ _) | (with_reducible refine Kd.C_drewN ?_ _) | (with_reducible refine Kd.C_drew ?_))); (case side2 => exact HC0_0.out); (case side3 => repeat (first | exact (Kd.C_below HR0_1.out (hbp_ _)) | (with_reducible refine Kd.C_alloc ?_ _) | (with_reducible refine Kd.C_drewN ?_ _) | (with_reducible refine Kd.C_drew ?_))); (case side4 => exact HC0_1.out))
                            | (with_reducible show Calls Try.prog 62 #[.agg #[.slice A0_0 l0_0.length c0_0, .slice (some ad182) l0_1.length c0_1], .agg #[.int .i64 ((rd_T56 l0_1 x4_2).f2.f0), .int .i64 ((rd_T56 l0_1 x4_2).f2.f1)]] _ _; with_reducible refine calls_bel (spec_l2At.calls k2 _ _ l0_0 _ _ l0_1 ((rd_T56 l0_1 x4_2).f2.f0) ((rd_T56 l0_1 x4_2).f2.f1) t190 _ ?side1 ?side2 ?side3 ?side4 A113.out); (case side1 => repeat (first | exact (Kd.C_below HR0_0.out (hbp_ _)) | (with_reducible refine Kd.C_alloc ?_ _) | (with_reducible refine Kd.C_drewN ?_ _) | (with_reducible refine Kd.C_drew ?_))); (case side2 => exact HC0_0.out); (case side3 => repeat (first | exact (Kd.C_below HR0_1.out (hbp_ _)) | (with_reducible refine Kd.C_alloc ?_ _) | (with_reducible refine Kd.C_drewN ?_ _) | (with_reducible refine Kd.C_drew ?_))); (case side4 => exact HC0_1.out))))
                          refine wpQuiet_nil ?_
                          intro w133 hw'
                          obtain ⟨⟨wq_, hb⟩, hw''⟩ := hw'
                          subst hw''
                          clear hbp_ hz0_ hz1_ hz2_ hz3_ hz4_ hz5_ hz6_
                          have n0_ := Aside0.mk (blk_below (g := gb175) (o := .cells #[.slice A0_0 l0_0.length c0_0, .slice (some ad182) l0_1.length c0_1] 34 (0, 0)) (by (with_reducible repeat (first | refine blk_drewN ?_ _ | refine blk_drew ?_ | refine blk_alloc ?_ _)); exact BK175.out) hb)
                          have n1_ := Aside0.mk (blk_below (g := gb183) (o := .cells #[.int .i64 ((rd_T56 l0_1 x4_2).f0), .int .i64 ((rd_T56 l0_1 x4_2).f1.f0), .int .i64 ((rd_T56 l0_1 x4_2).f1.f1), .int .i64 ((rd_T56 l0_1 x4_2).f2.f0), .int .i64 ((rd_T56 l0_1 x4_2).f2.f1)] 56 (0, 0)) (by (with_reducible repeat (first | refine blk_drewN ?_ _ | refine blk_drew ?_ | refine blk_alloc ?_ _)); exact BK183.out) hb)
                          have n2_ := Aside0.mk (below_step (by repeat (first | (with_reducible first | exact HB.out | apply below_alloc | apply pw_below_drewN | apply below_drew1 | refine below_set ?_ GE175.out | refine below_set ?_ GE183.out) | exact HB.out)) hb)
                          clear BK175
                          clear BK183
                          clear HB
                          have BK175 := n0_
                          have BK183 := n1_
                          have HB := n2_
                          clear n0_ n1_ n2_
                          (try clear hb)
                          (try clear hb2)
                          (try clear hk)
                          (try clear hi)
                          try go_wp2
                          go_ret
                          exact ⟨by first | rfl | (simp [errW_none, errW_some] <;> rfl) | (simp [*, errW_none, errW_some] <;> rfl), by repeat (first | (with_reducible first | exact HB.out | apply below_alloc | apply pw_below_drewN | apply below_drew1 | refine below_set ?_ GE175.out | refine below_set ?_ GE183.out) | exact HB.out)⟩
                        · rw [if_neg c124] at H
                          have c124b0 : decide (56 ≤ x4_2) = false := decide_eq_false c124
                          clear c124
                          have H' := Aside0.mk H
                          clear H
                          have hcz134_0 : wr.cell? ⟨gb175, 0, none⟩ = some (.slice A0_0 l0_0.length c0_0) := (blk_cell BK175.out 0).trans rfl
                          have hcz134_1 : wr.cell? ⟨gb175, 1, none⟩ = some (.slice A0_1 l0_1.length c0_1) := (blk_cell BK175.out 1).trans rfl
                          have hfz134_0 := blk_frozen BK175.out 0
                          have hfz134_1 := blk_frozen BK175.out 1
                          have p182 : 0 ≤ (x4_2 : Int) := of_decide_eq_true (by first | (with_reducible assumption) | assumption)
                          have q182 : x4_2 < (l0_1.length : Int) := of_decide_eq_true (by first | (with_reducible assumption) | assumption)
                          obtain ⟨ad182, e182, hx182_0, hx182_1, hx182_2, hx182_3, hx182_4⟩ := at_T56 HR0_1.out x4_2 p182 q182
                          cases e182
                          replace hx182_0 := (HB.out.cell (World.block_lt_of_cell? w _ hx182_0)).trans hx182_0
                          replace hx182_1 := (HB.out.cell (World.block_lt_of_cell? w _ hx182_1)).trans hx182_1
                          replace hx182_2 := (HB.out.cell (World.block_lt_of_cell? w _ hx182_2)).trans hx182_2
                          replace hx182_3 := (HB.out.cell (World.block_lt_of_cell? w _ hx182_3)).trans hx182_3
                          replace hx182_4 := (HB.out.cell (World.block_lt_of_cell? w _ hx182_4)).trans hx182_4
                          replace p182 := eq_true p182
                          replace q182 := eq_true q182
                          try go_wp2_with (first | ((with_reducible refine gate_dst (N := 5) rfl ?_); refine box_event ?hg (N := 5) ?hd (cs := #[.int .i64 0, .int .i64 0, .int .i64 0, .int .i64 0, .int .i64 0]) (t := 56) ?hr ?_; (case hd => rfl); (case hg => rfl); (case hr => first | (go_simp; done) | (go_simp; rfl)); intro gb183 hg w135 hbox hb; have n0_ := Aside0.mk (blk_below (g := gb175) (o := .cells #[.slice A0_0 l0_0.length c0_0, .slice (some ad182) l0_1.length c0_1] 34 (0, 0)) (by (with_reducible repeat (first | refine blk_drewN ?_ _ | refine blk_drew ?_ | refine blk_alloc ?_ _)); exact BK175.out) hb); have n1_ := Aside0.mk (below_step (by repeat (first | (with_reducible first | exact HB.out | apply below_alloc | apply pw_below_drewN | apply below_drew1 | refine below_set ?_ GE175.out) | exact HB.out)) hb); have n2_ := Aside0.mk (hbox); have n3_ := Aside0.mk ((by rw [hg]; exact (below_size (by repeat (first | (with_reducible first | exact HB.out | apply below_alloc | apply pw_below_drewN | apply below_drew1 | refine below_set ?_ GE175.out) | exact HB.out))) : w.heap.size ≤ gb183)); have n4_ := Aside0.mk ((by rw [hg]; exact (below_size (by repeat (first | (with_reducible first | exact HB.out | apply below_alloc | apply pw_below_drewN | apply below_drew1 | refine below_set ?_ GE175.out) | exact HB.out))) : w.heap.size ≤ gb183)); have n5_ := Aside0.mk ((by rw [hg]; exact Nat.ne_of_lt (blk_lt (g := gb175) (o := .cells #[.slice A0_0 l0_0.length c0_0, .slice (some ad182) l0_1.length c0_1] 34 (0, 0)) (by (with_reducible repeat (first | refine blk_drewN ?_ _ | refine blk_drew ?_ | refine blk_alloc ?_ _)); exact BK175.out)) : gb175 ≠ gb183)); have n6_ := Aside0.mk ((by rw [hg]; exact Nat.ne_of_gt (blk_lt (g := gb175) (o := .cells #[.slice A0_0 l0_0.length c0_0, .slice (some ad182) l0_1.length c0_1] 34 (0, 0)) (by (with_reducible repeat (first | refine blk_drewN ?_ _ | refine blk_drew ?_ | refine blk_alloc ?_ _)); exact BK175.out)) : gb183 ≠ gb175)); clear BK175; clear HB; have BK175 := n0_; have HB := n1_; have BK183 := n2_; have GW183 := n3_; have GE183 := n4_; have NB175_183 := n5_; have NB183_175 := n6_; clear n0_ n1_ n2_ n3_ n4_ n5_ n6_; clear hb hbox hg; have hnb136 := NB183_175.out; have hnc136 := NB175_183.out; have hcz137_0 : w135.cell? ⟨gb183, 0, none⟩ = some (.int .i64 0) := (blk_cell BK183.out 0).trans rfl; have hcz137_1 : w135.cell? ⟨gb183, 1, none⟩ = some (.int .i64 0) := (blk_cell BK183.out 1).trans rfl; have hcz137_2 : w135.cell? ⟨gb183, 2, none⟩ = some (.int .i64 0) := (blk_cell BK183.out 2).trans rfl; have hcz137_3 : w135.cell? ⟨gb183, 3, none⟩ = some (.int .i64 0) := (blk_cell BK183.out 3).trans rfl; have hcz137_4 : w135.cell? ⟨gb183, 4, none⟩ = some (.int .i64 0) := (blk_cell BK183.out 4).trans rfl; have hfz137_0 := blk_frozen BK183.out 0; have hfz137_1 := blk_frozen BK183.out 1; have hfz137_2 := blk_frozen BK183.out 2; have hfz137_3 := blk_frozen BK183.out 3; have hfz137_4 := blk_frozen BK183.out 4))
                          have n0_ : Aside0 ((((((w135.setCell ⟨gb183, 0, none⟩ (.int .i64 ((rd_T56 l0_1 x4_2).f0))).setCell ⟨gb183, 1, none⟩ (.int .i64 ((rd_T56 l0_1 x4_2).f1.f0))).setCell ⟨gb183, 2, none⟩ (.int .i64 ((rd_T56 l0_1 x4_2).f1.f1))).setCell ⟨gb183, 3, none⟩ (.int .i64 ((rd_T56 l0_1 x4_2).f2.f0))).setCell ⟨gb183, 4, none⟩ (.int .i64 ((rd_T56 l0_1 x4_2).f2.f1))).heap[gb175]? = some (.cells #[.slice A0_0 l0_0.length c0_0, .slice (some ad182) l0_1.length c0_1] 34 (0, 0))) := ⟨by (with_reducible repeat (first | refine blk_drewN ?_ _ | refine blk_drew ?_ | refine blk_alloc ?_ _)); refine blk_far ?_ NB175_183.out _; (with_reducible repeat (first | refine blk_drewN ?_ _ | refine blk_drew ?_ | refine blk_alloc ?_ _)); refine blk_far ?_ NB175_183.out _; (with_reducible repeat (first | refine blk_drewN ?_ _ | refine blk_drew ?_ | refine blk_alloc ?_ _)); refine blk_far ?_ NB175_183.out _; (with_reducible repeat (first | refine blk_drewN ?_ _ | refine blk_drew ?_ | refine blk_alloc ?_ _)); refine blk_far ?_ NB175_183.out _; (with_reducible repeat (first | refine blk_drewN ?_ _ | refine blk_drew ?_ | refine blk_alloc ?_ _)); refine blk_far ?_ NB175_183.out _; (with_reducible repeat (first | refine blk_drewN ?_ _ | refine blk_drew ?_ | refine blk_alloc ?_ _)); exact BK175.out⟩
                          have n1_ : Aside0 ((((((w135.setCell ⟨gb183, 0, none⟩ (.int .i64 ((rd_T56 l0_1 x4_2).f0))).setCell ⟨gb183, 1, none⟩ (.int .i64 ((rd_T56 l0_1 x4_2).f1.f0))).setCell ⟨gb183, 2, none⟩ (.int .i64 ((rd_T56 l0_1 x4_2).f1.f1))).setCell ⟨gb183, 3, none⟩ (.int .i64 ((rd_T56 l0_1 x4_2).f2.f0))).setCell ⟨gb183, 4, none⟩ (.int .i64 ((rd_T56 l0_1 x4_2).f2.f1))).heap[gb183]? = some (.cells #[.int .i64 ((rd_T56 l0_1 x4_2).f0), .int .i64 ((rd_T56 l0_1 x4_2).f1.f0), .int .i64 ((rd_T56 l0_1 x4_2).f1.f1), .int .i64 ((rd_T56 l0_1 x4_2).f2.f0), .int .i64 ((rd_T56 l0_1 x4_2).f2.f1)] 56 (0, 0))) := ⟨by (with_reducible repeat (first | refine blk_drewN ?_ _ | refine blk_drew ?_ | refine blk_alloc ?_ _)); refine blk_put (cs := #[.int .i64 ((rd_T56 l0_1 x4_2).f0), .int .i64 ((rd_T56 l0_1 x4_2).f1.f0), .int .i64 ((rd_T56 l0_1 x4_2).f1.f1), .int .i64 ((rd_T56 l0_1 x4_2).f2.f0), .int .i64 0]) ?_ 4 _ rfl; (with_reducible repeat (first | refine blk_drewN ?_ _ | refine blk_drew ?_ | refine blk_alloc ?_ _)); refine blk_put (cs := #[.int .i64 ((rd_T56 l0_1 x4_2).f0), .int .i64 ((rd_T56 l0_1 x4_2).f1.f0), .int .i64 ((rd_T56 l0_1 x4_2).f1.f1), .int .i64 0, .int .i64 0]) ?_ 3 _ rfl; (with_reducible repeat (first | refine blk_drewN ?_ _ | refine blk_drew ?_ | refine blk_alloc ?_ _)); refine blk_put (cs := #[.int .i64 ((rd_T56 l0_1 x4_2).f0), .int .i64 ((rd_T56 l0_1 x4_2).f1.f0), .int .i64 0, .int .i64 0, .int .i64 0]) ?_ 2 _ rfl; (with_reducible repeat (first | refine blk_drewN ?_ _ | refine blk_drew ?_ | refine blk_alloc ?_ _)); refine blk_put (cs := #[.int .i64 ((rd_T56 l0_1 x4_2).f0), .int .i64 0, .int .i64 0, .int .i64 0, .int .i64 0]) ?_ 1 _ rfl; (with_reducible repeat (first | refine blk_drewN ?_ _ | refine blk_drew ?_ | refine blk_alloc ?_ _)); refine blk_put (cs := #[.int .i64 0, .int .i64 0, .int .i64 0, .int .i64 0, .int .i64 0]) ?_ 0 _ rfl; (with_reducible repeat (first | refine blk_drewN ?_ _ | refine blk_drew ?_ | refine blk_alloc ?_ _)); exact BK183.out⟩
                          have n2_ : Aside0 (Below w.heap.size w (((((w135.setCell ⟨gb183, 0, none⟩ (.int .i64 ((rd_T56 l0_1 x4_2).f0))).setCell ⟨gb183, 1, none⟩ (.int .i64 ((rd_T56 l0_1 x4_2).f1.f0))).setCell ⟨gb183, 2, none⟩ (.int .i64 ((rd_T56 l0_1 x4_2).f1.f1))).setCell ⟨gb183, 3, none⟩ (.int .i64 ((rd_T56 l0_1 x4_2).f2.f0))).setCell ⟨gb183, 4, none⟩ (.int .i64 ((rd_T56 l0_1 x4_2).f2.f1)))) := ⟨by repeat (first | (with_reducible first | exact HB.out | apply below_alloc | apply pw_below_drewN | apply below_drew1 | refine below_set ?_ GE175.out | refine below_set ?_ GE183.out) | exact HB.out)⟩
                          (try clear BK175)
                          (try clear BK183)
                          (try clear HB)
                          generalize (((((w135.setCell ⟨gb183, 0, none⟩ (.int .i64 ((rd_T56 l0_1 x4_2).f0))).setCell ⟨gb183, 1, none⟩ (.int .i64 ((rd_T56 l0_1 x4_2).f1.f0))).setCell ⟨gb183, 2, none⟩ (.int .i64 ((rd_T56 l0_1 x4_2).f1.f1))).setCell ⟨gb183, 3, none⟩ (.int .i64 ((rd_T56 l0_1 x4_2).f2.f0))).setCell ⟨gb183, 4, none⟩ (.int .i64 ((rd_T56 l0_1 x4_2).f2.f1))) = w138 at n0_ n1_ n2_ ⊢
                          have BK175 := n0_
                          have BK183 := n1_
                          have HB := n2_
                          clear n0_ n1_ n2_
                          have n0_ := Aside0.mk (blk_drew BK175.out)
                          have n1_ := Aside0.mk (blk_drew BK183.out)
                          have n2_ := Aside0.mk (below_drew1 HB.out)
                          clear BK175
                          clear BK183
                          clear HB
                          have BK175 := n0_
                          have BK183 := n1_
                          have HB := n2_
                          clear n0_ n1_ n2_
                          refine wp_region_bel (by kernel_rfl) (by kernel_rfl) ?_
                          generalize w138.drew = w139 at BK175 BK183 HB ⊢
                          have hbp_ := fun (p_ : Bel w139) => below_step HB.out p_.h
                          have hz0_ : ∀ p_ : Bel w139, p_.v.cell? ⟨gb183, 0, none⟩ = some (.int .i64 ((rd_T56 l0_1 x4_2).f0)) := fun p_ => cell_bel ((blk_cell BK183.out 0).trans rfl) p_
                          have hz1_ : ∀ p_ : Bel w139, p_.v.cell? ⟨gb183, 1, none⟩ = some (.int .i64 ((rd_T56 l0_1 x4_2).f1.f0)) := fun p_ => cell_bel ((blk_cell BK183.out 1).trans rfl) p_
                          have hz2_ : ∀ p_ : Bel w139, p_.v.cell? ⟨gb183, 2, none⟩ = some (.int .i64 ((rd_T56 l0_1 x4_2).f1.f1)) := fun p_ => cell_bel ((blk_cell BK183.out 2).trans rfl) p_
                          have hz3_ : ∀ p_ : Bel w139, p_.v.cell? ⟨gb183, 3, none⟩ = some (.int .i64 ((rd_T56 l0_1 x4_2).f2.f0)) := fun p_ => cell_bel ((blk_cell BK183.out 3).trans rfl) p_
                          have hz4_ : ∀ p_ : Bel w139, p_.v.cell? ⟨gb183, 4, none⟩ = some (.int .i64 ((rd_T56 l0_1 x4_2).f2.f1)) := fun p_ => cell_bel ((blk_cell BK183.out 4).trans rfl) p_
                          have hz5_ : ∀ p_ : Bel w139, p_.v.cell? ⟨gb175, 0, none⟩ = some (.slice A0_0 l0_0.length c0_0) := fun p_ => cell_bel ((blk_cell BK175.out 0).trans rfl) p_
                          have hz6_ : ∀ p_ : Bel w139, p_.v.cell? ⟨gb175, 1, none⟩ = some (.slice (some ad182) l0_1.length c0_1) := fun p_ => cell_bel ((blk_cell BK175.out 1).trans rfl) p_
                          repeat (go_big_quiet_step (first
                            | (with_reducible show Calls Try.prog 77 #[.agg #[.int .i64 ((rd_T56 l0_1 x4_2).f0), .int .i64 ((rd_T56 l0_1 x4_2).f1.f0), .int .i64 ((rd_T56 l0_1 x4_2).f1.f1), .int .i64 ((rd_T56 l0_1 x4_2).f2.f0), .int .i64 ((rd_T56 l0_1 x4_2).f2.f1)]] _ _; with_reducible exact calls_bel (spec_EdgeOk.calls ((rd_T56 l0_1 x4_2).f0) ((rd_T56 l0_1 x4_2).f1.f0) ((rd_T56 l0_1 x4_2).f1.f1) ((rd_T56 l0_1 x4_2).f2.f0) ((rd_T56 l0_1 x4_2).f2.f1) true _ A43.out))
                            | (with_reducible show Calls Try.prog 62 #[.agg #[.slice A0_0 l0_0.length c0_0, .slice (some ad182) l0_1.length c0_1], .agg #[.int .i64 ((rd_T56 l0_1 x4_2).f1.f0), .int .i64 ((rd_T56 l0_1 x4_2).f1.f1)]] _ _; with_reducible refine calls_bel (spec_l2At.calls k2 _ _ l0_0 _ _ l0_1 ((rd_T56 l0_1 x4_2).f1.f0) ((rd_T56 l0_1 x4_2).f1.f1) t189 _ ?side1 ?side2 ?side3 ?side4 A103.out); (case side1 => repeat (first | exact (Kd.C_below HR0_0.out (hbp_ _)) | (with_reducible refine Kd.C_alloc ?_ _) | (with_reducible refine Kd.C_drewN ?_ _) | (with_reducible refine Kd.C_drew ?_))); (case side2 => exact HC0_0.out); (case side3 => repeat (first | exact (Kd.C_below HR0_1.out (hbp_ _)) | (with_reducible refine Kd.C_alloc ?_ _) | (with_reducible refine Kd.C_drewN ?_ _) | (with_reducible refine Kd.C_drew ?_))); (case side4 => exact HC0_1.out))
                            | (with_reducible show Calls Try.prog 62 #[.agg #[.slice A0_0 l0_0.length c0_0, .slice (some ad182) l0_1.length c0_1], .agg #[.int .i64 ((rd_T56 l0_1 x4_2).f2.f0), .int .i64 ((rd_T56 l0_1 x4_2).f2.f1)]] _ _; with_reducible refine calls_bel (spec_l2At.calls k2 _ _ l0_0 _ _ l0_1 ((rd_T56 l0_1 x4_2).f2.f0) ((rd_T56 l0_1 x4_2).f2.f1) t190 _ ?side1 ?side2 ?side3 ?side4 A113.out); (case side1 => repeat (first | exact (Kd.C_below HR0_0.out (hbp_ _)) | (with_reducible refine Kd.C_alloc ?_ _) | (with_reducible refine Kd.C_drewN ?_ _) | (with_reducible refine Kd.C_drew ?_))); (case side2 => exact HC0_0.out); (case side3 => repeat (first | exact (Kd.C_below HR0_1.out (hbp_ _)) | (with_reducible refine Kd.C_alloc ?_ _) | (with_reducible refine Kd.C_drewN ?_ _) | (with_reducible refine Kd.C_drew ?_))); (case side4 => exact HC0_1.out))))
                          refine wpQuiet_nil ?_
                          intro w142 hw'
                          obtain ⟨⟨wq_, hb⟩, hw''⟩ := hw'
                          subst hw''
                          clear hbp_ hz0_ hz1_ hz2_ hz3_ hz4_ hz5_ hz6_
                          have n0_ := Aside0.mk (blk_below (g := gb175) (o := .cells #[.slice A0_0 l0_0.length c0_0, .slice (some ad182) l0_1.length c0_1] 34 (0, 0)) (by (with_reducible repeat (first | refine blk_drewN ?_ _ | refine blk_drew ?_ | refine blk_alloc ?_ _)); exact BK175.out) hb)
                          have n1_ := Aside0.mk (blk_below (g := gb183) (o := .cells #[.int .i64 ((rd_T56 l0_1 x4_2).f0), .int .i64 ((rd_T56 l0_1 x4_2).f1.f0), .int .i64 ((rd_T56 l0_1 x4_2).f1.f1), .int .i64 ((rd_T56 l0_1 x4_2).f2.f0), .int .i64 ((rd_T56 l0_1 x4_2).f2.f1)] 56 (0, 0)) (by (with_reducible repeat (first | refine blk_drewN ?_ _ | refine blk_drew ?_ | refine blk_alloc ?_ _)); exact BK183.out) hb)
                          have n2_ := Aside0.mk (below_step (by repeat (first | (with_reducible first | exact HB.out | apply below_alloc | apply pw_below_drewN | apply below_drew1 | refine below_set ?_ GE175.out | refine below_set ?_ GE183.out) | exact HB.out)) hb)
                          clear BK175
                          clear BK183
                          clear HB
                          have BK175 := n0_
                          have BK183 := n1_
                          have HB := n2_
                          clear n0_ n1_ n2_
                          (try clear hb)
                          (try clear hb2)
                          (try clear hk)
                          (try clear hi)
                          try go_wp2
                          go_roundg k2
                          case measure => have := HK1.out; have := HK2.out; omega
                          case rel => exact ⟨(wrap64 (x4_2 + 1)), (by first | rfl | (simp; done) | (simp [*]; done)), H', ⟨by have := HK1.out; have := HK2.out; omega⟩, ⟨by (with_reducible repeat (first | refine blk_drewN ?_ _ | refine blk_drew ?_ | refine blk_alloc ?_ _)); exact BK175.out⟩, ⟨by repeat (first | (with_reducible first | exact HB.out | apply below_alloc | apply pw_below_drewN | apply below_drew1 | refine below_set ?_ GE175.out | refine below_set ?_ GE183.out) | exact HB.out)⟩⟩
                · replace c44 := Bool.eq_false_iff.mpr c44
                  subst c44
                  have H1 : (some false) = some r := by rw [if_neg (show ¬ (false = true) by decide)] at H; exact H
                  clear H
                  have H := H1
                  clear H1
                  obtain rfl := Option.some.inj H
                  have hcz143_0 : wr.cell? ⟨gb175, 0, none⟩ = some (.slice A0_0 l0_0.length c0_0) := (blk_cell BK175.out 0).trans rfl
                  have hcz143_1 : wr.cell? ⟨gb175, 1, none⟩ = some (.slice A0_1 l0_1.length c0_1) := (blk_cell BK175.out 1).trans rfl
                  have hfz143_0 := blk_frozen BK175.out 0
                  have hfz143_1 := blk_frozen BK175.out 1
                  have p182 : 0 ≤ (x4_2 : Int) := of_decide_eq_true (by first | (with_reducible assumption) | assumption)
                  have q182 : x4_2 < (l0_1.length : Int) := of_decide_eq_true (by first | (with_reducible assumption) | assumption)
                  obtain ⟨ad182, e182, hx182_0, hx182_1, hx182_2, hx182_3, hx182_4⟩ := at_T56 HR0_1.out x4_2 p182 q182
                  cases e182
                  replace hx182_0 := (HB.out.cell (World.block_lt_of_cell? w _ hx182_0)).trans hx182_0
                  replace hx182_1 := (HB.out.cell (World.block_lt_of_cell? w _ hx182_1)).trans hx182_1
                  replace hx182_2 := (HB.out.cell (World.block_lt_of_cell? w _ hx182_2)).trans hx182_2
                  replace hx182_3 := (HB.out.cell (World.block_lt_of_cell? w _ hx182_3)).trans hx182_3
                  replace hx182_4 := (HB.out.cell (World.block_lt_of_cell? w _ hx182_4)).trans hx182_4
                  replace p182 := eq_true p182
                  replace q182 := eq_true q182
                  try go_wp2_with (first | ((with_reducible refine gate_dst (N := 5) rfl ?_); refine box_event ?hg (N := 5) ?hd (cs := #[.int .i64 0, .int .i64 0, .int .i64 0, .int .i64 0, .int .i64 0]) (t := 56) ?hr ?_; (case hd => rfl); (case hg => rfl); (case hr => first | (go_simp; done) | (go_simp; rfl)); intro gb183 hg w144 hbox hb; have n0_ := Aside0.mk (blk_below (g := gb175) (o := .cells #[.slice A0_0 l0_0.length c0_0, .slice (some ad182) l0_1.length c0_1] 34 (0, 0)) (by (with_reducible repeat (first | refine blk_drewN ?_ _ | refine blk_drew ?_ | refine blk_alloc ?_ _)); exact BK175.out) hb); have n1_ := Aside0.mk (below_step (by repeat (first | (with_reducible first | exact HB.out | apply below_alloc | apply pw_below_drewN | apply below_drew1 | refine below_set ?_ GE175.out) | exact HB.out)) hb); have n2_ := Aside0.mk (hbox); have n3_ := Aside0.mk ((by rw [hg]; exact (below_size (by repeat (first | (with_reducible first | exact HB.out | apply below_alloc | apply pw_below_drewN | apply below_drew1 | refine below_set ?_ GE175.out) | exact HB.out))) : w.heap.size ≤ gb183)); have n4_ := Aside0.mk ((by rw [hg]; exact (below_size (by repeat (first | (with_reducible first | exact HB.out | apply below_alloc | apply pw_below_drewN | apply below_drew1 | refine below_set ?_ GE175.out) | exact HB.out))) : w.heap.size ≤ gb183)); have n5_ := Aside0.mk ((by rw [hg]; exact Nat.ne_of_lt (blk_lt (g := gb175) (o := .cells #[.slice A0_0 l0_0.length c0_0, .slice (some ad182) l0_1.length c0_1] 34 (0, 0)) (by (with_reducible repeat (first | refine blk_drewN ?_ _ | refine blk_drew ?_ | refine blk_alloc ?_ _)); exact BK175.out)) : gb175 ≠ gb183)); have n6_ := Aside0.mk ((by rw [hg]; exact Nat.ne_of_gt (blk_lt (g := gb175) (o := .cells #[.slice A0_0 l0_0.length c0_0, .slice (some ad182) l0_1.length c0_1] 34 (0, 0)) (by (with_reducible repeat (first | refine blk_drewN ?_ _ | refine blk_drew ?_ | refine blk_alloc ?_ _)); exact BK175.out)) : gb183 ≠ gb175)); clear BK175; clear HB; have BK175 := n0_; have HB := n1_; have BK183 := n2_; have GW183 := n3_; have GE183 := n4_; have NB175_183 := n5_; have NB183_175 := n6_; clear n0_ n1_ n2_ n3_ n4_ n5_ n6_; clear hb hbox hg; have hnb145 := NB183_175.out; have hnc145 := NB175_183.out; have hcz146_0 : w144.cell? ⟨gb183, 0, none⟩ = some (.int .i64 0) := (blk_cell BK183.out 0).trans rfl; have hcz146_1 : w144.cell? ⟨gb183, 1, none⟩ = some (.int .i64 0) := (blk_cell BK183.out 1).trans rfl; have hcz146_2 : w144.cell? ⟨gb183, 2, none⟩ = some (.int .i64 0) := (blk_cell BK183.out 2).trans rfl; have hcz146_3 : w144.cell? ⟨gb183, 3, none⟩ = some (.int .i64 0) := (blk_cell BK183.out 3).trans rfl; have hcz146_4 : w144.cell? ⟨gb183, 4, none⟩ = some (.int .i64 0) := (blk_cell BK183.out 4).trans rfl; have hfz146_0 := blk_frozen BK183.out 0; have hfz146_1 := blk_frozen BK183.out 1; have hfz146_2 := blk_frozen BK183.out 2; have hfz146_3 := blk_frozen BK183.out 3; have hfz146_4 := blk_frozen BK183.out 4))
                  have n0_ : Aside0 ((((((w144.setCell ⟨gb183, 0, none⟩ (.int .i64 ((rd_T56 l0_1 x4_2).f0))).setCell ⟨gb183, 1, none⟩ (.int .i64 ((rd_T56 l0_1 x4_2).f1.f0))).setCell ⟨gb183, 2, none⟩ (.int .i64 ((rd_T56 l0_1 x4_2).f1.f1))).setCell ⟨gb183, 3, none⟩ (.int .i64 ((rd_T56 l0_1 x4_2).f2.f0))).setCell ⟨gb183, 4, none⟩ (.int .i64 ((rd_T56 l0_1 x4_2).f2.f1))).heap[gb175]? = some (.cells #[.slice A0_0 l0_0.length c0_0, .slice (some ad182) l0_1.length c0_1] 34 (0, 0))) := ⟨by (with_reducible repeat (first | refine blk_drewN ?_ _ | refine blk_drew ?_ | refine blk_alloc ?_ _)); refine blk_far ?_ NB175_183.out _; (with_reducible repeat (first | refine blk_drewN ?_ _ | refine blk_drew ?_ | refine blk_alloc ?_ _)); refine blk_far ?_ NB175_183.out _; (with_reducible repeat (first | refine blk_drewN ?_ _ | refine blk_drew ?_ | refine blk_alloc ?_ _)); refine blk_far ?_ NB175_183.out _; (with_reducible repeat (first | refine blk_drewN ?_ _ | refine blk_drew ?_ | refine blk_alloc ?_ _)); refine blk_far ?_ NB175_183.out _; (with_reducible repeat (first | refine blk_drewN ?_ _ | refine blk_drew ?_ | refine blk_alloc ?_ _)); refine blk_far ?_ NB175_183.out _; (with_reducible repeat (first | refine blk_drewN ?_ _ | refine blk_drew ?_ | refine blk_alloc ?_ _)); exact BK175.out⟩
                  have n1_ : Aside0 ((((((w144.setCell ⟨gb183, 0, none⟩ (.int .i64 ((rd_T56 l0_1 x4_2).f0))).setCell ⟨gb183, 1, none⟩ (.int .i64 ((rd_T56 l0_1 x4_2).f1.f0))).setCell ⟨gb183, 2, none⟩ (.int .i64 ((rd_T56 l0_1 x4_2).f1.f1))).setCell ⟨gb183, 3, none⟩ (.int .i64 ((rd_T56 l0_1 x4_2).f2.f0))).setCell ⟨gb183, 4, none⟩ (.int .i64 ((rd_T56 l0_1 x4_2).f2.f1))).heap[gb183]? = some (.cells #[.int .i64 ((rd_T56 l0_1 x4_2).f0), .int .i64 ((rd_T56 l0_1 x4_2).f1.f0), .int .i64 ((rd_T56 l0_1 x4_2).f1.f1), .int .i64 ((rd_T56 l0_1 x4_2).f2.f0), .int .i64 ((rd_T56 l0_1 x4_2).f2.f1)] 56 (0, 0))) := ⟨by (with_reducible repeat (first | refine blk_drewN ?_ _ | refine blk_drew ?_ | refine blk_alloc ?_ _)); refine blk_put (cs := #[.int .i64 ((rd_T56 l0_1 x4_2).f0), .int .i64 ((rd_T56 l0_1 x4_2).f1.f0), .int .i64 ((rd_T56 l0_1 x4_2).f1.f1), .int .i64 ((rd_T56 l0_1 x4_2).f2.f0), .int .i64 0]) ?_ 4 _ rfl; (with_reducible repeat (first | refine blk_drewN ?_ _ | refine blk_drew ?_ | refine blk_alloc ?_ _)); refine blk_put (cs := #[.int .i64 ((rd_T56 l0_1 x4_2).f0), .int .i64 ((rd_T56 l0_1 x4_2).f1.f0), .int .i64 ((rd_T56 l0_1 x4_2).f1.f1), .int .i64 0, .int .i64 0]) ?_ 3 _ rfl; (with_reducible repeat (first | refine blk_drewN ?_ _ | refine blk_drew ?_ | refine blk_alloc ?_ _)); refine blk_put (cs := #[.int .i64 ((rd_T56 l0_1 x4_2).f0), .int .i64 ((rd_T56 l0_1 x4_2).f1.f0), .int .i64 0, .int .i64 0, .int .i64 0]) ?_ 2 _ rfl; (with_reducible repeat (first | refine blk_drewN ?_ _ | refine blk_drew ?_ | refine blk_alloc ?_ _)); refine blk_put (cs := #[.int .i64 ((rd_T56 l0_1 x4_2).f0), .int .i64 0, .int .i64 0, .int .i64 0, .int .i64 0]) ?_ 1 _ rfl; (with_reducible repeat (first | refine blk_drewN ?_ _ | refine blk_drew ?_ | refine blk_alloc ?_ _)); refine blk_put (cs := #[.int .i64 0, .int .i64 0, .int .i64 0, .int .i64 0, .int .i64 0]) ?_ 0 _ rfl; (with_reducible repeat (first | refine blk_drewN ?_ _ | refine blk_drew ?_ | refine blk_alloc ?_ _)); exact BK183.out⟩
                  have n2_ : Aside0 (Below w.heap.size w (((((w144.setCell ⟨gb183, 0, none⟩ (.int .i64 ((rd_T56 l0_1 x4_2).f0))).setCell ⟨gb183, 1, none⟩ (.int .i64 ((rd_T56 l0_1 x4_2).f1.f0))).setCell ⟨gb183, 2, none⟩ (.int .i64 ((rd_T56 l0_1 x4_2).f1.f1))).setCell ⟨gb183, 3, none⟩ (.int .i64 ((rd_T56 l0_1 x4_2).f2.f0))).setCell ⟨gb183, 4, none⟩ (.int .i64 ((rd_T56 l0_1 x4_2).f2.f1)))) := ⟨by repeat (first | (with_reducible first | exact HB.out | apply below_alloc | apply pw_below_drewN | apply below_drew1 | refine below_set ?_ GE175.out | refine below_set ?_ GE183.out) | exact HB.out)⟩
                  (try clear BK175)
                  (try clear BK183)
                  (try clear HB)
                  generalize (((((w144.setCell ⟨gb183, 0, none⟩ (.int .i64 ((rd_T56 l0_1 x4_2).f0))).setCell ⟨gb183, 1, none⟩ (.int .i64 ((rd_T56 l0_1 x4_2).f1.f0))).setCell ⟨gb183, 2, none⟩ (.int .i64 ((rd_T56 l0_1 x4_2).f1.f1))).setCell ⟨gb183, 3, none⟩ (.int .i64 ((rd_T56 l0_1 x4_2).f2.f0))).setCell ⟨gb183, 4, none⟩ (.int .i64 ((rd_T56 l0_1 x4_2).f2.f1))) = w147 at n0_ n1_ n2_ ⊢
                  have BK175 := n0_
                  have BK183 := n1_
                  have HB := n2_
                  clear n0_ n1_ n2_
                  have n0_ := Aside0.mk (blk_drew BK175.out)
                  have n1_ := Aside0.mk (blk_drew BK183.out)
                  have n2_ := Aside0.mk (below_drew1 HB.out)
                  clear BK175
                  clear BK183
                  clear HB
                  have BK175 := n0_
                  have BK183 := n1_
                  have HB := n2_
                  clear n0_ n1_ n2_
                  refine wp_region_bel (by kernel_rfl) (by kernel_rfl) ?_
                  generalize w147.drew = w148 at BK175 BK183 HB ⊢
                  have hbp_ := fun (p_ : Bel w148) => below_step HB.out p_.h
                  have hz0_ : ∀ p_ : Bel w148, p_.v.cell? ⟨gb183, 0, none⟩ = some (.int .i64 ((rd_T56 l0_1 x4_2).f0)) := fun p_ => cell_bel ((blk_cell BK183.out 0).trans rfl) p_
                  have hz1_ : ∀ p_ : Bel w148, p_.v.cell? ⟨gb183, 1, none⟩ = some (.int .i64 ((rd_T56 l0_1 x4_2).f1.f0)) := fun p_ => cell_bel ((blk_cell BK183.out 1).trans rfl) p_
                  have hz2_ : ∀ p_ : Bel w148, p_.v.cell? ⟨gb183, 2, none⟩ = some (.int .i64 ((rd_T56 l0_1 x4_2).f1.f1)) := fun p_ => cell_bel ((blk_cell BK183.out 2).trans rfl) p_
                  have hz3_ : ∀ p_ : Bel w148, p_.v.cell? ⟨gb183, 3, none⟩ = some (.int .i64 ((rd_T56 l0_1 x4_2).f2.f0)) := fun p_ => cell_bel ((blk_cell BK183.out 3).trans rfl) p_
                  have hz4_ : ∀ p_ : Bel w148, p_.v.cell? ⟨gb183, 4, none⟩ = some (.int .i64 ((rd_T56 l0_1 x4_2).f2.f1)) := fun p_ => cell_bel ((blk_cell BK183.out 4).trans rfl) p_
                  repeat (go_big_quiet_step (first
                    | (with_reducible show Calls Try.prog 77 #[.agg #[.int .i64 ((rd_T56 l0_1 x4_2).f0), .int .i64 ((rd_T56 l0_1 x4_2).f1.f0), .int .i64 ((rd_T56 l0_1 x4_2).f1.f1), .int .i64 ((rd_T56 l0_1 x4_2).f2.f0), .int .i64 ((rd_T56 l0_1 x4_2).f2.f1)]] _ _; with_reducible exact calls_bel (spec_EdgeOk.calls ((rd_T56 l0_1 x4_2).f0) ((rd_T56 l0_1 x4_2).f1.f0) ((rd_T56 l0_1 x4_2).f1.f1) ((rd_T56 l0_1 x4_2).f2.f0) ((rd_T56 l0_1 x4_2).f2.f1) false _ A43.out))))
                  refine wpQuiet_nil ?_
                  intro w149 hw'
                  obtain ⟨⟨wq_, hb⟩, hw''⟩ := hw'
                  subst hw''
                  clear hbp_ hz0_ hz1_ hz2_ hz3_ hz4_
                  have n0_ := Aside0.mk (blk_below (g := gb175) (o := .cells #[.slice A0_0 l0_0.length c0_0, .slice (some ad182) l0_1.length c0_1] 34 (0, 0)) (by (with_reducible repeat (first | refine blk_drewN ?_ _ | refine blk_drew ?_ | refine blk_alloc ?_ _)); exact BK175.out) hb)
                  have n1_ := Aside0.mk (blk_below (g := gb183) (o := .cells #[.int .i64 ((rd_T56 l0_1 x4_2).f0), .int .i64 ((rd_T56 l0_1 x4_2).f1.f0), .int .i64 ((rd_T56 l0_1 x4_2).f1.f1), .int .i64 ((rd_T56 l0_1 x4_2).f2.f0), .int .i64 ((rd_T56 l0_1 x4_2).f2.f1)] 56 (0, 0)) (by (with_reducible repeat (first | refine blk_drewN ?_ _ | refine blk_drew ?_ | refine blk_alloc ?_ _)); exact BK183.out) hb)
                  have n2_ := Aside0.mk (below_step (by repeat (first | (with_reducible first | exact HB.out | apply below_alloc | apply pw_below_drewN | apply below_drew1 | refine below_set ?_ GE175.out | refine below_set ?_ GE183.out) | exact HB.out)) hb)
                  clear BK175
                  clear BK183
                  clear HB
                  have BK175 := n0_
                  have BK183 := n1_
                  have HB := n2_
                  clear n0_ n1_ n2_
                  (try clear hb)
                  (try clear hb2)
                  (try clear hk)
                  (try clear hi)
                  try go_wp2
                  go_ret
                  exact ⟨by first | rfl | (simp [errW_none, errW_some] <;> rfl) | (simp [*, errW_none, errW_some] <;> rfl), by repeat (first | (with_reducible first | exact HB.out | apply below_alloc | apply pw_below_drewN | apply below_drew1 | refine below_set ?_ GE175.out | refine below_set ?_ GE183.out) | exact HB.out)⟩
              · rw [if_neg c42] at H
                exact absurd H (by simp)
            · rw [if_neg c41] at H
              have c41b0 : decide (x4_2 < (l0_1.length : Int)) = false := decide_eq_false c41
              clear c41
              have H' := Aside0.mk H
              clear H
              have hcz150_0 : wr.cell? ⟨gb175, 0, none⟩ = some (.slice A0_0 l0_0.length c0_0) := (blk_cell BK175.out 0).trans rfl
              have hcz150_1 : wr.cell? ⟨gb175, 1, none⟩ = some (.slice A0_1 l0_1.length c0_1) := (blk_cell BK175.out 1).trans rfl
              have hfz150_0 := blk_frozen BK175.out 0
              have hfz150_1 := blk_frozen BK175.out 1
              go_wp2
              go_loopg [6] k2 (fun kq v6 w' => ∃ (x6_3 : Int), v6 = .int .i64 x6_3 ∧ Aside0 (spec_GraphOk.l2 kq x6_3 l0_0 l0_1 = some r) ∧ Aside0 (kq ≤ k2) ∧ Aside0 (w'.heap[gb175]? = some (.cells #[(.slice A0_0 l0_0.length c0_0), (.slice A0_1 l0_1.length c0_1)] 34 (0, 0))) ∧ Aside0 (Below w.heap.size w w'))
              case atStart => exact ⟨(0), (by first | rfl | (simp; done) | (simp [*]; done)), H', ⟨Nat.le_refl _⟩, ⟨by (with_reducible repeat (first | refine blk_drewN ?_ _ | refine blk_drew ?_ | refine blk_alloc ?_ _)); exact BK175.out⟩, ⟨by repeat (first | (with_reducible first | exact HB.out | apply below_alloc | apply pw_below_drewN | apply below_drew1 | refine below_set ?_ GE175.out) | exact HB.out)⟩⟩
              case round =>
                clear H'
                try clear c1
                try clear p1
                try clear q1
                try clear hx1
                try clear p2
                try clear c4
                try clear c6
                try clear p6
                try clear c7
                try clear c14
                try clear p18
                try clear q18
                try clear hx18
                try clear c41
                try clear c41b0
                try clear c42
                try clear c44
                try clear c62
                try clear p64
                try clear c77
                try clear c145
                try clear hcz143_0
                try clear hcz143_1
                try clear hcz146_0
                try clear hcz146_1
                try clear hcz146_2
                try clear hcz146_3
                try clear hcz146_4
                try clear hcz150_0
                try clear hcz150_1
                try clear hfz143_0
                try clear hfz143_1
                try clear hfz146_0
                try clear hfz146_1
                try clear hfz146_2
                try clear hfz146_3
                try clear hfz146_4
                try clear hfz150_0
                try clear hfz150_1
                try clear hx182_0
                try clear hx182_1
                try clear hx182_2
                try clear hx182_3
                try clear hx182_4
                try clear p182
                try clear q182
                obtain ⟨x6_3, rfl, HA, HK3, BK175, HB⟩ := hrel
                cases gk with
                | zero => exact absurd HA.out (by simp [spec_GraphOk.l2])
                | succ k3 =>
                  have H := HA.out
                  clear HA
                  simp only [spec_GraphOk.l2] at H
                  by_cases c151 : x6_3 ≤ 7
                  · rw [if_pos c151] at H
                    have c151b0 : decide (x6_3 ≤ 7) = true := decide_eq_true c151
                    clear c151
                    replace H := Option.bind_eq_some_iff.mp H
                    obtain ⟨t191, A1520, H⟩ := H
                    replace H : (if t191 > 5 then (some false) else ((spec_l2Edges.f k3 l0_0 l0_1 x6_3).bind fun t192 => (if t192 > 7 then (some false) else (spec_GraphOk.l2 k3 (wrap64 (x6_3 + 1)) l0_0 l0_1)))) = some r := H
                    have A152 := Aside0.mk A1520
                    clear A1520
                    by_cases c153 : t191 > 5
                    · rw [if_pos c153] at H
                      have c153b0 : decide (5 < t191) = true := decide_eq_true c153
                      clear c153
                      obtain rfl := Option.some.inj H
                      have hcz154_0 : wr.cell? ⟨gb175, 0, none⟩ = some (.slice A0_0 l0_0.length c0_0) := (blk_cell BK175.out 0).trans rfl
                      have hcz154_1 : wr.cell? ⟨gb175, 1, none⟩ = some (.slice A0_1 l0_1.length c0_1) := (blk_cell BK175.out 1).trans rfl
                      have hfz154_0 := blk_frozen BK175.out 0
                      have hfz154_1 := blk_frozen BK175.out 1
                      go_wp2_with (first | ((with_reducible refine gate_callee (f := 79) rfl ?_); refine goesL_ (some 99) rfl rfl Try.func79 (by kernel_rfl) rfl #[.agg #[.slice A0_0 l0_0.length c0_0, .slice A0_1 l0_1.length c0_1], .int .i64 x6_3] rfl (by (try simp only [List.map_toArray, List.map_cons, List.map_nil]); first | done | rfl | (simp only [List.length_drop, List.length_take]; rfl)) ?_; (with_reducible refine (spec_l2Nodes.calls k3 _ _ l0_0 _ _ l0_1 x6_3 t191 _ ?side1 ?side2 ?side3 ?side4 A152.out).mono ?_); (case side1 => repeat (first | exact (Kd.C_below HR0_0.out HB.out) | (with_reducible refine Kd.C_alloc ?_ _) | (with_reducible refine Kd.C_drewN ?_ _) | (with_reducible refine Kd.C_drew ?_))); (case side2 => exact HC0_0.out); (case side3 => repeat (first | exact (Kd.C_below HR0_1.out HB.out) | (with_reducible refine Kd.C_alloc ?_ _) | (with_reducible refine Kd.C_drewN ?_ _) | (with_reducible refine Kd.C_drew ?_))); (case side4 => exact HC0_1.out); rintro e w155 ⟨rfl, hb⟩; refine ⟨_, rfl, ?_⟩; have n0_ := Aside0.mk (blk_below (g := gb175) (o := .cells #[.slice A0_0 l0_0.length c0_0, .slice A0_1 l0_1.length c0_1] 34 (0, 0)) (by (with_reducible repeat (first | refine blk_drewN ?_ _ | refine blk_drew ?_ | refine blk_alloc ?_ _)); exact BK175.out) hb); have n1_ := Aside0.mk (below_step (by repeat (first | (with_reducible first | exact HB.out | apply below_alloc | apply pw_below_drewN | apply below_drew1 | refine below_set ?_ GE175.out) | exact HB.out)) hb); clear BK175; clear HB; have BK175 := n0_; have HB := n1_; clear n0_ n1_; (try clear hb); (try clear hb2); (try clear hk); (try clear hi)))
                      go_ret
                      exact ⟨by first | rfl | (simp [errW_none, errW_some] <;> rfl) | (simp [*, errW_none, errW_some] <;> rfl), by repeat (first | (with_reducible first | exact HB.out | apply below_alloc | apply pw_below_drewN | apply below_drew1 | refine below_set ?_ GE175.out) | exact HB.out)⟩
                    · rw [if_neg c153] at H
                      have c153b0 : decide (5 < t191) = false := decide_eq_false c153
                      clear c153
                      replace H := Option.bind_eq_some_iff.mp H
                      obtain ⟨t192, A1560, H⟩ := H
                      replace H : (if t192 > 7 then (some false) else (spec_GraphOk.l2 k3 (wrap64 (x6_3 + 1)) l0_0 l0_1)) = some r := H
                      have A156 := Aside0.mk A1560
                      clear A1560
                      by_cases c157 : t192 > 7
                      · rw [if_pos c157] at H
                        have c157b0 : decide (7 < t192) = true := decide_eq_true c157
                        clear c157
                        obtain rfl := Option.some.inj H
                        have hcz158_0 : wr.cell? ⟨gb175, 0, none⟩ = some (.slice A0_0 l0_0.length c0_0) := (blk_cell BK175.out 0).trans rfl
                        have hcz158_1 : wr.cell? ⟨gb175, 1, none⟩ = some (.slice A0_1 l0_1.length c0_1) := (blk_cell BK175.out 1).trans rfl
                        have hfz158_0 := blk_frozen BK175.out 0
                        have hfz158_1 := blk_frozen BK175.out 1
                        go_wp2_with (first | ((with_reducible refine gate_callee (f := 79) rfl ?_); refine goesL_ (some 99) rfl rfl Try.func79 (by kernel_rfl) rfl #[.agg #[.slice A0_0 l0_0.length c0_0, .slice A0_1 l0_1.length c0_1], .int .i64 x6_3] rfl (by (try simp only [List.map_toArray, List.map_cons, List.map_nil]); first | done | rfl | (simp only [List.length_drop, List.length_take]; rfl)) ?_; (with_reducible refine (spec_l2Nodes.calls k3 _ _ l0_0 _ _ l0_1 x6_3 t191 _ ?side1 ?side2 ?side3 ?side4 A152.out).mono ?_); (case side1 => repeat (first | exact (Kd.C_below HR0_0.out HB.out) | (with_reducible refine Kd.C_alloc ?_ _) | (with_reducible refine Kd.C_drewN ?_ _) | (with_reducible refine Kd.C_drew ?_))); (case side2 => exact HC0_0.out); (case side3 => repeat (first | exact (Kd.C_below HR0_1.out HB.out) | (with_reducible refine Kd.C_alloc ?_ _) | (with_reducible refine Kd.C_drewN ?_ _) | (with_reducible refine Kd.C_drew ?_))); (case side4 => exact HC0_1.out); rintro e w159 ⟨rfl, hb⟩; refine ⟨_, rfl, ?_⟩; have n0_ := Aside0.mk (blk_below (g := gb175) (o := .cells #[.slice A0_0 l0_0.length c0_0, .slice A0_1 l0_1.length c0_1] 34 (0, 0)) (by (with_reducible repeat (first | refine blk_drewN ?_ _ | refine blk_drew ?_ | refine blk_alloc ?_ _)); exact BK175.out) hb); have n1_ := Aside0.mk (below_step (by repeat (first | (with_reducible first | exact HB.out | apply below_alloc | apply pw_below_drewN | apply below_drew1 | refine below_set ?_ GE175.out) | exact HB.out)) hb); clear BK175; clear HB; have BK175 := n0_; have HB := n1_; clear n0_ n1_; (try clear hb); (try clear hb2); (try clear hk); (try clear hi); have hcz160_0 : w159.cell? ⟨gb175, 0, none⟩ = some (.slice A0_0 l0_0.length c0_0) := (blk_cell BK175.out 0).trans rfl; have hcz160_1 : w159.cell? ⟨gb175, 1, none⟩ = some (.slice A0_1 l0_1.length c0_1) := (blk_cell BK175.out 1).trans rfl; have hfz160_0 := blk_frozen BK175.out 0; have hfz160_1 := blk_frozen BK175.out 1) | (go_at_call 80; (with_reducible refine (spec_l2Edges.calls k3 _ _ l0_0 _ _ l0_1 x6_3 t192 _ ?side1 ?side2 ?side3 ?side4 A156.out).mono ?_); (case side1 => repeat (first | exact (Kd.C_below HR0_0.out HB.out) | (with_reducible refine Kd.C_alloc ?_ _) | (with_reducible refine Kd.C_drewN ?_ _) | (with_reducible refine Kd.C_drew ?_))); (case side2 => exact HC0_0.out); (case side3 => repeat (first | exact (Kd.C_below HR0_1.out HB.out) | (with_reducible refine Kd.C_alloc ?_ _) | (with_reducible refine Kd.C_drewN ?_ _) | (with_reducible refine Kd.C_drew ?_))); (case side4 => exact HC0_1.out); rintro e w161 ⟨rfl, hb⟩; have n0_ := Aside0.mk (blk_below (g := gb175) (o := .cells #[.slice A0_0 l0_0.length c0_0, .slice A0_1 l0_1.length c0_1] 34 (0, 0)) (by (with_reducible repeat (first | refine blk_drewN ?_ _ | refine blk_drew ?_ | refine blk_alloc ?_ _)); exact BK175.out) hb); have n1_ := Aside0.mk (below_step (by repeat (first | (with_reducible first | exact HB.out | apply below_alloc | apply pw_below_drewN | apply below_drew1 | refine below_set ?_ GE175.out) | exact HB.out)) hb); clear BK175; clear HB; have BK175 := n0_; have HB := n1_; clear n0_ n1_; (try clear hb); (try clear hb2); (try clear hk); (try clear hi)))
                        go_ret
                        exact ⟨by first | rfl | (simp [errW_none, errW_some] <;> rfl) | (simp [*, errW_none, errW_some] <;> rfl), by repeat (first | (with_reducible first | exact HB.out | apply below_alloc | apply pw_below_drewN | apply below_drew1 | refine below_set ?_ GE175.out) | exact HB.out)⟩
                      · rw [if_neg c157] at H
                        have c157b0 : decide (7 < t192) = false := decide_eq_false c157
                        clear c157
                        have H' := Aside0.mk H
                        clear H
                        have hcz162_0 : wr.cell? ⟨gb175, 0, none⟩ = some (.slice A0_0 l0_0.length c0_0) := (blk_cell BK175.out 0).trans rfl
                        have hcz162_1 : wr.cell? ⟨gb175, 1, none⟩ = some (.slice A0_1 l0_1.length c0_1) := (blk_cell BK175.out 1).trans rfl
                        have hfz162_0 := blk_frozen BK175.out 0
                        have hfz162_1 := blk_frozen BK175.out 1
                        go_wp2_with (first | ((with_reducible refine gate_callee (f := 79) rfl ?_); refine goesL_ (some 99) rfl rfl Try.func79 (by kernel_rfl) rfl #[.agg #[.slice A0_0 l0_0.length c0_0, .slice A0_1 l0_1.length c0_1], .int .i64 x6_3] rfl (by (try simp only [List.map_toArray, List.map_cons, List.map_nil]); first | done | rfl | (simp only [List.length_drop, List.length_take]; rfl)) ?_; (with_reducible refine (spec_l2Nodes.calls k3 _ _ l0_0 _ _ l0_1 x6_3 t191 _ ?side1 ?side2 ?side3 ?side4 A152.out).mono ?_); (case side1 => repeat (first | exact (Kd.C_below HR0_0.out HB.out) | (with_reducible refine Kd.C_alloc ?_ _) | (with_reducible refine Kd.C_drewN ?_ _) | (with_reducible refine Kd.C_drew ?_))); (case side2 => exact HC0_0.out); (case side3 => repeat (first | exact (Kd.C_below HR0_1.out HB.out) | (with_reducible refine Kd.C_alloc ?_ _) | (with_reducible refine Kd.C_drewN ?_ _) | (with_reducible refine Kd.C_drew ?_))); (case side4 => exact HC0_1.out); rintro e w163 ⟨rfl, hb⟩; refine ⟨_, rfl, ?_⟩; have n0_ := Aside0.mk (blk_below (g := gb175) (o := .cells #[.slice A0_0 l0_0.length c0_0, .slice A0_1 l0_1.length c0_1] 34 (0, 0)) (by (with_reducible repeat (first | refine blk_drewN ?_ _ | refine blk_drew ?_ | refine blk_alloc ?_ _)); exact BK175.out) hb); have n1_ := Aside0.mk (below_step (by repeat (first | (with_reducible first | exact HB.out | apply below_alloc | apply pw_below_drewN | apply below_drew1 | refine below_set ?_ GE175.out) | exact HB.out)) hb); clear BK175; clear HB; have BK175 := n0_; have HB := n1_; clear n0_ n1_; (try clear hb); (try clear hb2); (try clear hk); (try clear hi); have hcz164_0 : w163.cell? ⟨gb175, 0, none⟩ = some (.slice A0_0 l0_0.length c0_0) := (blk_cell BK175.out 0).trans rfl; have hcz164_1 : w163.cell? ⟨gb175, 1, none⟩ = some (.slice A0_1 l0_1.length c0_1) := (blk_cell BK175.out 1).trans rfl; have hfz164_0 := blk_frozen BK175.out 0; have hfz164_1 := blk_frozen BK175.out 1) | (go_at_call 80; (with_reducible refine (spec_l2Edges.calls k3 _ _ l0_0 _ _ l0_1 x6_3 t192 _ ?side1 ?side2 ?side3 ?side4 A156.out).mono ?_); (case side1 => repeat (first | exact (Kd.C_below HR0_0.out HB.out) | (with_reducible refine Kd.C_alloc ?_ _) | (with_reducible refine Kd.C_drewN ?_ _) | (with_reducible refine Kd.C_drew ?_))); (case side2 => exact HC0_0.out); (case side3 => repeat (first | exact (Kd.C_below HR0_1.out HB.out) | (with_reducible refine Kd.C_alloc ?_ _) | (with_reducible refine Kd.C_drewN ?_ _) | (with_reducible refine Kd.C_drew ?_))); (case side4 => exact HC0_1.out); rintro e w165 ⟨rfl, hb⟩; have n0_ := Aside0.mk (blk_below (g := gb175) (o := .cells #[.slice A0_0 l0_0.length c0_0, .slice A0_1 l0_1.length c0_1] 34 (0, 0)) (by (with_reducible repeat (first | refine blk_drewN ?_ _ | refine blk_drew ?_ | refine blk_alloc ?_ _)); exact BK175.out) hb); have n1_ := Aside0.mk (below_step (by repeat (first | (with_reducible first | exact HB.out | apply below_alloc | apply pw_below_drewN | apply below_drew1 | refine below_set ?_ GE175.out) | exact HB.out)) hb); clear BK175; clear HB; have BK175 := n0_; have HB := n1_; clear n0_ n1_; (try clear hb); (try clear hb2); (try clear hk); (try clear hi)))
                        go_roundg k3
                        case measure => have := HK1.out; have := HK2.out; have := HK3.out; omega
                        case rel => exact ⟨(wrap64 (x6_3 + 1)), (by first | rfl | (simp; done) | (simp [*]; done)), H', ⟨by have := HK1.out; have := HK2.out; have := HK3.out; omega⟩, ⟨by (with_reducible repeat (first | refine blk_drewN ?_ _ | refine blk_drew ?_ | refine blk_alloc ?_ _)); exact BK175.out⟩, ⟨by repeat (first | (with_reducible first | exact HB.out | apply below_alloc | apply pw_below_drewN | apply below_drew1 | refine below_set ?_ GE175.out) | exact HB.out)⟩⟩
                  · rw [if_neg c151] at H
                    have c151b0 : decide (x6_3 ≤ 7) = false := decide_eq_false c151
                    clear c151
                    obtain rfl := Option.some.inj H
                    go_wp2
                    go_ret
                    exact ⟨by first | rfl | (simp [errW_none, errW_some] <;> rfl) | (simp [*, errW_none, errW_some] <;> rfl), by repeat (first | (with_reducible first | exact HB.out | apply below_alloc | apply pw_below_drewN | apply below_drew1 | refine below_set ?_ GE175.out) | exact HB.out)⟩

end Go.Proofs.Ytohmemckdogljaa.QFnExactGraphOk
