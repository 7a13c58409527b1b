/- The law's own contract, walked: FnPackOrder does what its plain function says. No condition. -/
import Derived.Test.YteilpkckaecomaaPFnPackOrderx0
import Derived.Test.YteilpkckaecomaaPFnPackOrderx1
namespace Go.Proofs.Yteilpkckaecomaa.PFnPackOrder
open Go.RowKit Go.Proofs.YteilpkckaecomaaW.PrintWords Go.Proofs.YteilpkckaecomaaW.PrintLast Go.Proofs.YteilpkckaecomaaW.PrintMore
attribute [local go_sem] max2_int min2_int max_two min_two max_three min_three max_four min_four   -- for this text's walks alone
set_option linter.unusedVariables false
set_option linter.unusedSimpArgs false

/-! ### laws_FnPackOrder: function 3 -/
mutual
def laws_FnPackOrder.j0 : Nat → List Int → List Int → Bool → Option (Bool)
  | 0, _, _, _ => none
  | k + 1, x0, x1, x17 => if x17 = true then (some true) else ((spec_DrawPackNum.f k x0).bind fun t136 => ((spec_DrawPackNum.f k x1).bind fun t137 => ((impl_PackNum.f k t136).bind fun t138 => ((impl_PackNum.f k t137).bind fun t139 => ((spec_PackNum.f k t136).bind fun t140 => (if t138.toList = t140.toList then ((spec_PackNum.f k t137).bind fun t141 => (if t139.toList = t141.toList then (if t138.toList = ([] : List UInt8) then (laws_FnPackOrder.j1 k t136 t137 t138 t139 true) else (laws_FnPackOrder.j1 k t136 t137 t138 t139 (t139.toList == ([] : List UInt8)))) else (laws_FnPackOrder.j1 k t136 t137 t138 t139 true))) else (laws_FnPackOrder.j1 k t136 t137 t138 t139 true)))))))
def laws_FnPackOrder.j1 : Nat → Int → Int → ByteArray → ByteArray → Bool → Option (Bool)
  | 0, _, _, _, _, _ => none
  | k + 1, x5, x6, x7, x8, x43 => if x43 = true then ((spec_PackNum.f k x5).bind fun t142 => (if x7.toList = t142.toList then ((spec_PackNum.f k x6).bind fun t143 => (some (x8.toList == t143.toList))) else (some false))) else (if (x7.size : Int) ≤ (x8.size : Int) then (if 0 ≤ (x7.size : Int) then (if (((x8.extract 0 ((x7.size : Int) : Int).toNat).toList == x7.toList) == (x5 == x6)) = true then (if x5 > x6 then (some ((Op.bytesLess x7.toList x8.toList) == (decide (x5 < x6)))) else (some ((Op.bytesLess x7.toList x8.toList) == (decide (x5 < x6))))) else (some false)) else (none)) else (if (false == (x5 == x6)) = true then (if x5 > x6 then (some ((Op.bytesLess x7.toList x8.toList) == (decide (x5 < x6)))) else (some false)) else (some false)))
end
def laws_FnPackOrder.f (k : Nat) (l0 : List Int) (l1 : List Int) : Option (Bool) := if (l0.length : Int) > 1048576 then (laws_FnPackOrder.j0 k l0 l1 true) else (laws_FnPackOrder.j0 k l0 l1 (decide ((l1.length : Int) > 1048576)))
theorem laws_FnPackOrder.mono_l : ∀ k, (∀ y0 y1 y2, LeO (laws_FnPackOrder.j0 k y0 y1 y2) (laws_FnPackOrder.j0 (k + 1) y0 y1 y2)) ∧ (∀ y0 y1 y2 y3 y4, LeO (laws_FnPackOrder.j1 k y0 y1 y2 y3 y4) (laws_FnPackOrder.j1 (k + 1) y0 y1 y2 y3 y4))
  | 0 => ⟨fun _ _ _ r h => by simp [laws_FnPackOrder.j0] at h, fun _ _ _ _ _ r h => by simp [laws_FnPackOrder.j1] at h⟩
  | k + 1 => by
    obtain ⟨ih0, ih1⟩ := laws_FnPackOrder.mono_l k
    refine ⟨?_, ?_⟩
    · intro y0 y1 y2
      unfold laws_FnPackOrder.j0
      repeat' first
      | (with_reducible exact ih0 _ _ _)
      | (with_reducible exact ih1 _ _ _ _ _)
      | (with_reducible exact impl_PackNum.mono _ _)
      | (with_reducible exact spec_DrawPackNum.mono _ _)
      | (with_reducible exact spec_PackNum.mono _ _)
      | (with_reducible exact LeO.refl _)
      | (with_reducible exact LeO.none _)
      | (with_reducible refine LeO.ite ?_ ?_)
      | (with_reducible refine LeO.bind ?_ (fun _ => ?_))
      | exact ih0 _ _ _
      | exact ih1 _ _ _ _ _
      | exact impl_PackNum.mono _ _
      | exact spec_DrawPackNum.mono _ _
      | exact spec_PackNum.mono _ _
      | exact LeO.none _
      | refine LeO.ite ?_ ?_
      | refine LeO.bind ?_ (fun _ => ?_)
    · intro y0 y1 y2 y3 y4
      unfold laws_FnPackOrder.j1
      repeat' first
      | (with_reducible exact ih0 _ _ _)
      | (with_reducible exact ih1 _ _ _ _ _)
      | (with_reducible exact impl_PackNum.mono _ _)
      | (with_reducible exact spec_DrawPackNum.mono _ _)
      | (with_reducible exact spec_PackNum.mono _ _)
      | (with_reducible exact LeO.refl _)
      | (with_reducible exact LeO.none _)
      | (with_reducible refine LeO.ite ?_ ?_)
      | (with_reducible refine LeO.bind ?_ (fun _ => ?_))
      | exact ih0 _ _ _
      | exact ih1 _ _ _ _ _
      | exact impl_PackNum.mono _ _
      | exact spec_DrawPackNum.mono _ _
      | exact spec_PackNum.mono _ _
      | exact LeO.none _
      | refine LeO.ite ?_ ?_
      | refine LeO.bind ?_ (fun _ => ?_)
theorem laws_FnPackOrder.mono : ∀ a0 a1 k, LeO (laws_FnPackOrder.f k a0 a1) (laws_FnPackOrder.f (k + 1) a0 a1) := by
  intro a0 a1 k
  obtain ⟨ih0, ih1⟩ := laws_FnPackOrder.mono_l k
  unfold laws_FnPackOrder.f
  repeat' first
      | (with_reducible exact ih0 _ _ _)
      | (with_reducible exact ih1 _ _ _ _ _)
      | (with_reducible exact impl_PackNum.mono _ _)
      | (with_reducible exact spec_DrawPackNum.mono _ _)
      | (with_reducible exact spec_PackNum.mono _ _)
      | (with_reducible exact LeO.refl _)
      | (with_reducible exact LeO.none _)
      | (with_reducible refine LeO.ite ?_ ?_)
      | (with_reducible refine LeO.bind ?_ (fun _ => ?_))
      | exact ih0 _ _ _
      | exact ih1 _ _ _ _ _
      | exact impl_PackNum.mono _ _
      | exact spec_DrawPackNum.mono _ _
      | exact spec_PackNum.mono _ _
      | exact LeO.none _
      | refine LeO.ite ?_ ?_
      | refine LeO.bind ?_ (fun _ => ?_)
set_option maxHeartbeats 8000000 in
set_option maxRecDepth 100000 in
theorem laws_FnPackOrder.calls (k : Nat) (A0 : Option Addr) (c0 : Nat) (l0 : List Int) (A1 : Option Addr) (c1 : Nat) (l1 : List Int) (r : Bool) (w : World) (hr0 : Kd.C (Kd.int .u8) w A0 l0.length l0) (hc0 : l0.length ≤ c0) (hr1 : Kd.C (Kd.int .u8) w A1 l1.length l1) (hc1 : l1.length ≤ c1) (h : laws_FnPackOrder.f k l0 l1 = some r) :
    Calls Try.prog 3 #[.slice A0 l0.length c0, .slice A1 l1.length c1] w fun e w' => e = .returned (.bool r) ∧ Below w.heap.size w w' := by
  have HR0 := Aside0.mk hr0
  have HC0 := Aside0.mk hc0
  clear hr0 hc0
  have HR1 := Aside0.mk hr1
  have HC1 := Aside0.mk hc1
  clear hr1 hc1
  have HB := Aside0.mk (Below.refl w.heap.size w)
  have H : (if (l0.length : Int) > 1048576 then (laws_FnPackOrder.j0 k l0 l1 true) else (laws_FnPackOrder.j0 k l0 l1 (decide ((l1.length : Int) > 1048576)))) = some r := h
  clear h
  have HC3 := Aside0.mk H
  clear H
  go_enter Try.func3, Try.ntmps3
  go_upto_region 1 with (fail)
  go_cut [17] (fun v17 wc => ∃ (kq : Nat) (x17_2 : Bool), v17 = .bool x17_2 ∧ Aside0 (laws_FnPackOrder.j0 kq l0 l1 x17_2 = some r) ∧ Aside0 (kq ≤ k) ∧ Aside0 (Below w.heap.size w wc))
  case first =>
    have H := HC3.out
    clear HC3
    by_cases c4 : (l0.length : Int) > 1048576
    · rw [if_pos c4] at H
      have c4b0 : decide (1048576 < (l0.length : Int)) = true := decide_eq_true c4
      have c4b1 : decide (1048576 < l0.length) = true := decide_eq_true (by omega)
      clear c4
      (first | rw [c4b0] | (simp only [i64_w, i32_w]; rw [c4b0]) | skip)
      have H' := Aside0.mk H
      clear H
      go_wp2
      go_meet
      case rel => exact ⟨_, (true), (by first | rfl | (simp; done) | (simp [*]; done)), H', ⟨by first | omega | exact Nat.le_refl _⟩, ⟨by repeat (first | (with_reducible first | exact HB.out | apply below_alloc | apply pw_below_drewN | apply below_drew1) | exact HB.out)⟩⟩
    · rw [if_neg c4] at H
      have c4b0 : decide (1048576 < (l0.length : Int)) = false := decide_eq_false c4
      have c4b1 : decide (1048576 < l0.length) = false := decide_eq_false (by omega)
      clear c4
      (first | rw [c4b0] | (simp only [i64_w, i32_w]; rw [c4b0]) | skip)
      have H' := Aside0.mk H
      clear H
      go_wp2
      go_meet
      case rel => exact ⟨_, (decide ((l1.length : Int) > 1048576)), (by first | rfl | (simp; done) | (simp [*]; done)), H', ⟨by first | omega | exact Nat.le_refl _⟩, ⟨by repeat (first | (with_reducible first | exact HB.out | apply below_alloc | apply pw_below_drewN | apply below_drew1) | exact HB.out)⟩⟩
  case rest =>
    clear HC3
    try clear c1
    try clear p2
    try clear c3
    try clear c4
    try clear c4b0
    try clear c4b1
    obtain ⟨kq, x17_2, rfl, HA, HJ2, HB⟩ := hcut
    cases kq with
    | zero => exact absurd HA.out (by simp [laws_FnPackOrder.j0])
    | succ kj2 =>
      have H := HA.out
      clear HA
      simp only [laws_FnPackOrder.j0] at H
      by_cases c5 : x17_2 = true
      · subst c5
        have H1 : (some true) = some r := by rw [if_pos rfl] at H; exact H
        clear H
        have H := H1
        clear H1
        obtain rfl := Option.some.inj H
        go_wp2
        go_ret
        exact ⟨by first | rfl | (simp [errW_none, errW_some] <;> rfl) | (simp [*, errW_none, errW_some] <;> rfl), by repeat (first | (with_reducible first | exact HB.out | apply below_alloc | apply pw_below_drewN | apply below_drew1) | exact HB.out)⟩
      · replace c5 := Bool.eq_false_iff.mpr c5
        subst c5
        have H1 : ((spec_DrawPackNum.f kj2 l0).bind fun t136 => ((spec_DrawPackNum.f kj2 l1).bind fun t137 => ((impl_PackNum.f kj2 t136).bind fun t138 => ((impl_PackNum.f kj2 t137).bind fun t139 => ((spec_PackNum.f kj2 t136).bind fun t140 => (if t138.toList = t140.toList then ((spec_PackNum.f kj2 t137).bind fun t141 => (if t139.toList = t141.toList then (if t138.toList = ([] : List UInt8) then (laws_FnPackOrder.j1 kj2 t136 t137 t138 t139 true) else (laws_FnPackOrder.j1 kj2 t136 t137 t138 t139 (t139.toList == ([] : List UInt8)))) else (laws_FnPackOrder.j1 kj2 t136 t137 t138 t139 true))) else (laws_FnPackOrder.j1 kj2 t136 t137 t138 t139 true))))))) = some r := by rw [if_neg (show ¬ (false = true) by decide)] at H; exact H
        clear H
        have H := H1
        clear H1
        replace H := Option.bind_eq_some_iff.mp H
        obtain ⟨t136, A60, H⟩ := H
        replace H : ((spec_DrawPackNum.f kj2 l1).bind fun t137 => ((impl_PackNum.f kj2 t136).bind fun t138 => ((impl_PackNum.f kj2 t137).bind fun t139 => ((spec_PackNum.f kj2 t136).bind fun t140 => (if t138.toList = t140.toList then ((spec_PackNum.f kj2 t137).bind fun t141 => (if t139.toList = t141.toList then (if t138.toList = ([] : List UInt8) then (laws_FnPackOrder.j1 kj2 t136 t137 t138 t139 true) else (laws_FnPackOrder.j1 kj2 t136 t137 t138 t139 (t139.toList == ([] : List UInt8)))) else (laws_FnPackOrder.j1 kj2 t136 t137 t138 t139 true))) else (laws_FnPackOrder.j1 kj2 t136 t137 t138 t139 true)))))) = some r := H
        have A6 := Aside0.mk A60
        clear A60
        replace H := Option.bind_eq_some_iff.mp H
        obtain ⟨t137, A70, H⟩ := H
        replace H : ((impl_PackNum.f kj2 t136).bind fun t138 => ((impl_PackNum.f kj2 t137).bind fun t139 => ((spec_PackNum.f kj2 t136).bind fun t140 => (if t138.toList = t140.toList then ((spec_PackNum.f kj2 t137).bind fun t141 => (if t139.toList = t141.toList then (if t138.toList = ([] : List UInt8) then (laws_FnPackOrder.j1 kj2 t136 t137 t138 t139 true) else (laws_FnPackOrder.j1 kj2 t136 t137 t138 t139 (t139.toList == ([] : List UInt8)))) else (laws_FnPackOrder.j1 kj2 t136 t137 t138 t139 true))) else (laws_FnPackOrder.j1 kj2 t136 t137 t138 t139 true))))) = some r := H
        have A7 := Aside0.mk A70
        clear A70
        replace H := Option.bind_eq_some_iff.mp H
        obtain ⟨t138, A80, H⟩ := H
        replace H : ((impl_PackNum.f kj2 t137).bind fun t139 => ((spec_PackNum.f kj2 t136).bind fun t140 => (if t138.toList = t140.toList then ((spec_PackNum.f kj2 t137).bind fun t141 => (if t139.toList = t141.toList then (if t138.toList = ([] : List UInt8) then (laws_FnPackOrder.j1 kj2 t136 t137 t138 t139 true) else (laws_FnPackOrder.j1 kj2 t136 t137 t138 t139 (t139.toList == ([] : List UInt8)))) else (laws_FnPackOrder.j1 kj2 t136 t137 t138 t139 true))) else (laws_FnPackOrder.j1 kj2 t136 t137 t138 t139 true)))) = some r := H
        have A8 := Aside0.mk A80
        clear A80
        replace H := Option.bind_eq_some_iff.mp H
        obtain ⟨t139, A90, H⟩ := H
        replace H : ((spec_PackNum.f kj2 t136).bind fun t140 => (if t138.toList = t140.toList then ((spec_PackNum.f kj2 t137).bind fun t141 => (if t139.toList = t141.toList then (if t138.toList = ([] : List UInt8) then (laws_FnPackOrder.j1 kj2 t136 t137 t138 t139 true) else (laws_FnPackOrder.j1 kj2 t136 t137 t138 t139 (t139.toList == ([] : List UInt8)))) else (laws_FnPackOrder.j1 kj2 t136 t137 t138 t139 true))) else (laws_FnPackOrder.j1 kj2 t136 t137 t138 t139 true))) = some r := H
        have A9 := Aside0.mk A90
        clear A90
        have HC10 := Aside0.mk H
        clear H
        go_upto_region 7 with (first | ((with_reducible refine gate_callee (f := 15) rfl ?_); refine goesL_ (some 19) rfl rfl Try.func15 (by kernel_rfl) rfl #[.slice A0 l0.length c0] rfl (by (try simp only [List.map_toArray, List.map_cons, List.map_nil]); first | done | rfl | (simp only [List.length_drop, List.length_take]; rfl)) ?_; (with_reducible refine (spec_DrawPackNum.calls kj2 _ _ l0 t136 _ ?side1 ?side2 A6.out).mono ?_); (case side1 => repeat (first | exact (Kd.C_below HR0.out HB.out) | (with_reducible refine Kd.C_alloc ?_ _) | (with_reducible refine Kd.C_drewN ?_ _) | (with_reducible refine Kd.C_drew ?_))); (case side2 => exact HC0.out); rintro e w11 ⟨rfl, hb⟩; refine ⟨_, rfl, ?_⟩; have n0_ := Aside0.mk (below_step (by repeat (first | (with_reducible first | exact HB.out | apply below_alloc | apply pw_below_drewN | apply below_drew1) | exact HB.out)) hb); clear HB; have HB := n0_; clear n0_; (try clear hb); (try clear hb2); (try clear hk); (try clear hi)) | ((with_reducible refine gate_callee (f := 15) rfl ?_); refine goesL_ (some 21) rfl rfl Try.func15 (by kernel_rfl) rfl #[.slice A1 l1.length c1] rfl (by (try simp only [List.map_toArray, List.map_cons, List.map_nil]); first | done | rfl | (simp only [List.length_drop, List.length_take]; rfl)) ?_; (with_reducible refine (spec_DrawPackNum.calls kj2 _ _ l1 t137 _ ?side1 ?side2 A7.out).mono ?_); (case side1 => repeat (first | exact (Kd.C_below HR1.out HB.out) | (with_reducible refine Kd.C_alloc ?_ _) | (with_reducible refine Kd.C_drewN ?_ _) | (with_reducible refine Kd.C_drew ?_))); (case side2 => exact HC1.out); rintro e w12 ⟨rfl, hb⟩; refine ⟨_, rfl, ?_⟩; have n0_ := Aside0.mk (below_step (by repeat (first | (with_reducible first | exact HB.out | apply below_alloc | apply pw_below_drewN | apply below_drew1) | exact HB.out)) hb); clear HB; have HB := n0_; clear n0_; (try clear hb); (try clear hb2); (try clear hk); (try clear hi)) | ((with_reducible refine gate_callee (f := 16) rfl ?_); refine goesL_ (some 23) rfl rfl Try.func16 (by kernel_rfl) rfl #[.int .i64 t136] rfl (by (try simp only [List.map_toArray, List.map_cons, List.map_nil]); first | done | rfl | (simp only [List.length_drop, List.length_take]; rfl)) ?_; (with_reducible refine (impl_PackNum.calls kj2 t136 t138 _ A8.out).mono ?_); rintro e w13 ⟨rfl, hb⟩; refine ⟨_, rfl, ?_⟩; have n0_ := Aside0.mk (below_step (by repeat (first | (with_reducible first | exact HB.out | apply below_alloc | apply pw_below_drewN | apply below_drew1) | exact HB.out)) hb); clear HB; have HB := n0_; clear n0_; (try clear hb); (try clear hb2); (try clear hk); (try clear hi)) | ((with_reducible refine gate_callee (f := 16) rfl ?_); refine goesL_ (some 25) rfl rfl Try.func16 (by kernel_rfl) rfl #[.int .i64 t137] rfl (by (try simp only [List.map_toArray, List.map_cons, List.map_nil]); first | done | rfl | (simp only [List.length_drop, List.length_take]; rfl)) ?_; (with_reducible refine (impl_PackNum.calls kj2 t137 t139 _ A9.out).mono ?_); rintro e w14 ⟨rfl, hb⟩; refine ⟨_, rfl, ?_⟩; have n0_ := Aside0.mk (below_step (by repeat (first | (with_reducible first | exact HB.out | apply below_alloc | apply pw_below_drewN | apply below_drew1) | exact HB.out)) hb); clear HB; have HB := n0_; clear n0_; (try clear hb); (try clear hb2); (try clear hk); (try clear hi)))
        (try simp only [Act.put, List.setIfInBounds_toArray, List.set_cons_zero, List.set_cons_succ])
        go_cut [43] (fun v43 wc => ∃ (kq : Nat) (x43_9 : Bool), v43 = .bool x43_9 ∧ Aside0 (laws_FnPackOrder.j1 kq t136 t137 t138 t139 x43_9 = some r) ∧ Aside0 (kq ≤ kj2) ∧ Aside0 (Below w.heap.size w wc))
        case first =>
          have H := HC10.out
          clear HC10
          replace H := Option.bind_eq_some_iff.mp H
          obtain ⟨t140, A150, H⟩ := H
          replace H : (if t138.toList = t140.toList then ((spec_PackNum.f kj2 t137).bind fun t141 => (if t139.toList = t141.toList then (if t138.toList = ([] : List UInt8) then (laws_FnPackOrder.j1 kj2 t136 t137 t138 t139 true) else (laws_FnPackOrder.j1 kj2 t136 t137 t138 t139 (t139.toList == ([] : List UInt8)))) else (laws_FnPackOrder.j1 kj2 t136 t137 t138 t139 true))) else (laws_FnPackOrder.j1 kj2 t136 t137 t138 t139 true)) = some r := H
          have A15 := Aside0.mk A150
          clear A150
          by_cases c16 : t138.toList = t140.toList
          · rw [if_pos c16] at H
            have c16b0 : (t138.toList == t140.toList) = true := beq_iff_eq.mpr c16
            have c16b1 : (t138.toList != t140.toList) = false := bne_eq_false_iff_eq.mpr c16
            clear c16
            (first | rw [c16b0] | (simp only [i64_w, i32_w]; rw [c16b0]) | skip)
            replace H := Option.bind_eq_some_iff.mp H
            obtain ⟨t141, A170, H⟩ := H
            replace H : (if t139.toList = t141.toList then (if t138.toList = ([] : List UInt8) then (laws_FnPackOrder.j1 kj2 t136 t137 t138 t139 true) else (laws_FnPackOrder.j1 kj2 t136 t137 t138 t139 (t139.toList == ([] : List UInt8)))) else (laws_FnPackOrder.j1 kj2 t136 t137 t138 t139 true)) = some r := H
            have A17 := Aside0.mk A170
            clear A170
            by_cases c18 : t139.toList = t141.toList
            · rw [if_pos c18] at H
              have c18b0 : (t139.toList == t141.toList) = true := beq_iff_eq.mpr c18
              have c18b1 : (t139.toList != t141.toList) = false := bne_eq_false_iff_eq.mpr c18
              clear c18
              by_cases c19 : t138.toList = ([] : List UInt8)
              · rw [if_pos c19] at H
                have c19b0 : (t138.toList == ([] : List UInt8)) = true := beq_iff_eq.mpr c19
                have c19b1 : (t138.toList != ([] : List UInt8)) = false := bne_eq_false_iff_eq.mpr c19
                clear c19
                have H' := Aside0.mk H
                clear H
                go_wp2_with (first | ((with_reducible refine gate_callee (f := 17) rfl ?_); refine goesL_ (some 28) rfl rfl Try.func17 (by kernel_rfl) rfl #[.int .i64 t136] rfl (by (try simp only [List.map_toArray, List.map_cons, List.map_nil]); first | done | rfl | (simp only [List.length_drop, List.length_take]; rfl)) ?_; (with_reducible refine (spec_PackNum.calls kj2 t136 t140 _ A15.out).mono ?_); rintro e w20 ⟨rfl, hb⟩; refine ⟨_, rfl, ?_⟩; have n0_ := Aside0.mk (below_step (by repeat (first | (with_reducible first | exact HB.out | apply below_alloc | apply pw_below_drewN | apply below_drew1) | exact HB.out)) hb); clear HB; have HB := n0_; clear n0_; (try clear hb); (try clear hb2); (try clear hk); (try clear hi)) | (go_at_call 17; (with_reducible refine (spec_PackNum.calls kj2 t137 t141 _ A17.out).mono ?_); rintro e w21 ⟨rfl, hb⟩; have n0_ := Aside0.mk (below_step (by repeat (first | (with_reducible first | exact HB.out | apply below_alloc | apply pw_below_drewN | apply below_drew1) | exact HB.out)) hb); clear HB; have HB := n0_; clear n0_; (try clear hb); (try clear hb2); (try clear hk); (try clear hi)))
                go_meet
                case rel => exact ⟨_, (true), (by first | rfl | (simp; done) | (simp [*]; done)), H', ⟨by have := HJ2.out; first | omega | exact Nat.le_refl _⟩, ⟨by repeat (first | (with_reducible first | exact HB.out | apply below_alloc | apply pw_below_drewN | apply below_drew1) | exact HB.out)⟩⟩
              · rw [if_neg c19] at H
                have c19b0 : (t138.toList == ([] : List UInt8)) = false := beq_eq_false_iff_ne.mpr c19
                have c19b1 : (t138.toList != ([] : List UInt8)) = true := bne_iff_ne.mpr c19
                have H' := Aside0.mk H
                clear H
                go_wp2_with (first | ((with_reducible refine gate_callee (f := 17) rfl ?_); refine goesL_ (some 28) rfl rfl Try.func17 (by kernel_rfl) rfl #[.int .i64 t136] rfl (by (try simp only [List.map_toArray, List.map_cons, List.map_nil]); first | done | rfl | (simp only [List.length_drop, List.length_take]; rfl)) ?_; (with_reducible refine (spec_PackNum.calls kj2 t136 t140 _ A15.out).mono ?_); rintro e w22 ⟨rfl, hb⟩; refine ⟨_, rfl, ?_⟩; have n0_ := Aside0.mk (below_step (by repeat (first | (with_reducible first | exact HB.out | apply below_alloc | apply pw_below_drewN | apply below_drew1) | exact HB.out)) hb); clear HB; have HB := n0_; clear n0_; (try clear hb); (try clear hb2); (try clear hk); (try clear hi)) | (go_at_call 17; (with_reducible refine (spec_PackNum.calls kj2 t137 t141 _ A17.out).mono ?_); rintro e w23 ⟨rfl, hb⟩; have n0_ := Aside0.mk (below_step (by repeat (first | (with_reducible first | exact HB.out | apply below_alloc | apply pw_below_drewN | apply below_drew1) | exact HB.out)) hb); clear HB; have HB := n0_; clear n0_; (try clear hb); (try clear hb2); (try clear hk); (try clear hi)))
                go_meet
                case rel => exact ⟨_, ((t139.toList == ([] : List UInt8))), (by first | rfl | (simp; done) | (simp [*]; done)), H', ⟨by have := HJ2.out; first | omega | exact Nat.le_refl _⟩, ⟨by repeat (first | (with_reducible first | exact HB.out | apply below_alloc | apply pw_below_drewN | apply below_drew1) | exact HB.out)⟩⟩
            · rw [if_neg c18] at H
              have c18b0 : (t139.toList == t141.toList) = false := beq_eq_false_iff_ne.mpr c18
              have c18b1 : (t139.toList != t141.toList) = true := bne_iff_ne.mpr c18
              have H' := Aside0.mk H
              clear H
              go_wp2_with (first | ((with_reducible refine gate_callee (f := 17) rfl ?_); refine goesL_ (some 28) rfl rfl Try.func17 (by kernel_rfl) rfl #[.int .i64 t136] rfl (by (try simp only [List.map_toArray, List.map_cons, List.map_nil]); first | done | rfl | (simp only [List.length_drop, List.length_take]; rfl)) ?_; (with_reducible refine (spec_PackNum.calls kj2 t136 t140 _ A15.out).mono ?_); rintro e w24 ⟨rfl, hb⟩; refine ⟨_, rfl, ?_⟩; have n0_ := Aside0.mk (below_step (by repeat (first | (with_reducible first | exact HB.out | apply below_alloc | apply pw_below_drewN | apply below_drew1) | exact HB.out)) hb); clear HB; have HB := n0_; clear n0_; (try clear hb); (try clear hb2); (try clear hk); (try clear hi)) | (go_at_call 17; (with_reducible refine (spec_PackNum.calls kj2 t137 t141 _ A17.out).mono ?_); rintro e w25 ⟨rfl, hb⟩; have n0_ := Aside0.mk (below_step (by repeat (first | (with_reducible first | exact HB.out | apply below_alloc | apply pw_below_drewN | apply below_drew1) | exact HB.out)) hb); clear HB; have HB := n0_; clear n0_; (try clear hb); (try clear hb2); (try clear hk); (try clear hi)))
              go_meet
              case rel => exact ⟨_, (true), (by first | rfl | (simp; done) | (simp [*]; done)), H', ⟨by have := HJ2.out; first | omega | exact Nat.le_refl _⟩, ⟨by repeat (first | (with_reducible first | exact HB.out | apply below_alloc | apply pw_below_drewN | apply below_drew1) | exact HB.out)⟩⟩
          · rw [if_neg c16] at H
            have c16b0 : (t138.toList == t140.toList) = false := beq_eq_false_iff_ne.mpr c16
            have c16b1 : (t138.toList != t140.toList) = true := bne_iff_ne.mpr c16
            (first | rw [c16b0] | (simp only [i64_w, i32_w]; rw [c16b0]) | skip)
            have H' := Aside0.mk H
            clear H
            go_wp2_with (first | ((with_reducible refine gate_callee (f := 17) rfl ?_); refine goesL_ (some 28) rfl rfl Try.func17 (by kernel_rfl) rfl #[.int .i64 t136] rfl (by (try simp only [List.map_toArray, List.map_cons, List.map_nil]); first | done | rfl | (simp only [List.length_drop, List.length_take]; rfl)) ?_; (with_reducible refine (spec_PackNum.calls kj2 t136 t140 _ A15.out).mono ?_); rintro e w26 ⟨rfl, hb⟩; refine ⟨_, rfl, ?_⟩; have n0_ := Aside0.mk (below_step (by repeat (first | (with_reducible first | exact HB.out | apply below_alloc | apply pw_below_drewN | apply below_drew1) | exact HB.out)) hb); clear HB; have HB := n0_; clear n0_; (try clear hb); (try clear hb2); (try clear hk); (try clear hi)))
            go_meet
            case rel => exact ⟨_, (true), (by first | rfl | (simp; done) | (simp [*]; done)), H', ⟨by have := HJ2.out; first | omega | exact Nat.le_refl _⟩, ⟨by repeat (first | (with_reducible first | exact HB.out | apply below_alloc | apply pw_below_drewN | apply below_drew1) | exact HB.out)⟩⟩
        case rest =>
          clear HC10
          try clear c1
          try clear p2
          try clear c3
          try clear c4
          try clear c4b0
          try clear c4b1
          try clear c5
          try clear c15
          try clear c16
          try clear c16b0
          try clear c16b1
          try clear c17
          try clear c18
          try clear c18b0
          try clear c18b1
          try clear c19
          try clear c19b0
          try clear c19b1
          try clear p2
          obtain ⟨kq, x43_9, rfl, HA, HJ9, HB⟩ := hcut
          cases kq with
          | zero => exact absurd HA.out (by simp [laws_FnPackOrder.j1])
          | succ kj9 =>
            have H := HA.out
            clear HA
            simp only [laws_FnPackOrder.j1] at H
            by_cases c27 : x43_9 = true
            · subst c27
              have H1 : ((spec_PackNum.f kj9 t136).bind fun t142 => (if t138.toList = t142.toList then ((spec_PackNum.f kj9 t137).bind fun t143 => (some (t139.toList == t143.toList))) else (some false))) = some r := by rw [if_pos rfl] at H; exact H
              clear H
              have H := H1
              clear H1
              replace H := Option.bind_eq_some_iff.mp H
              obtain ⟨t142, A280, H⟩ := H
              replace H : (if t138.toList = t142.toList then ((spec_PackNum.f kj9 t137).bind fun t143 => (some (t139.toList == t143.toList))) else (some false)) = some r := H
              have A28 := Aside0.mk A280
              clear A280
              by_cases c29 : t138.toList = t142.toList
              · rw [if_pos c29] at H
                have c29b0 : (t138.toList == t142.toList) = true := beq_iff_eq.mpr c29
                have c29b1 : (t138.toList != t142.toList) = false := bne_eq_false_iff_eq.mpr c29
                clear c29
                replace H := Option.bind_eq_some_iff.mp H
                obtain ⟨t143, A300, H⟩ := H
                replace H : (some (t139.toList == t143.toList)) = some r := H
                have A30 := Aside0.mk A300
                clear A300
                obtain rfl := Option.some.inj H
                go_wp2_with (first | ((with_reducible refine gate_callee (f := 17) rfl ?_); refine goesL_ (some 46) rfl rfl Try.func17 (by kernel_rfl) rfl #[.int .i64 t136] rfl (by (try simp only [List.map_toArray, List.map_cons, List.map_nil]); first | done | rfl | (simp only [List.length_drop, List.length_take]; rfl)) ?_; (with_reducible refine (spec_PackNum.calls kj9 t136 t142 _ A28.out).mono ?_); rintro e w31 ⟨rfl, hb⟩; refine ⟨_, rfl, ?_⟩; have n0_ := Aside0.mk (below_step (by repeat (first | (with_reducible first | exact HB.out | apply below_alloc | apply pw_below_drewN | apply below_drew1) | exact HB.out)) hb); clear HB; have HB := n0_; clear n0_; (try clear hb); (try clear hb2); (try clear hk); (try clear hi)) | (go_at_call 17; (with_reducible refine (spec_PackNum.calls kj9 t137 t143 _ A30.out).mono ?_); rintro e w32 ⟨rfl, hb⟩; have n0_ := Aside0.mk (below_step (by repeat (first | (with_reducible first | exact HB.out | apply below_alloc | apply pw_below_drewN | apply below_drew1) | exact HB.out)) hb); clear HB; have HB := n0_; clear n0_; (try clear hb); (try clear hb2); (try clear hk); (try clear hi)))
                go_ret
                exact ⟨by first | rfl | (simp [errW_none, errW_some] <;> rfl) | (simp [*, errW_none, errW_some] <;> rfl), by repeat (first | (with_reducible first | exact HB.out | apply below_alloc | apply pw_below_drewN | apply below_drew1) | exact HB.out)⟩
              · rw [if_neg c29] at H
                have c29b0 : (t138.toList == t142.toList) = false := beq_eq_false_iff_ne.mpr c29
                have c29b1 : (t138.toList != t142.toList) = true := bne_iff_ne.mpr c29
                obtain rfl := Option.some.inj H
                go_wp2_with (first | ((with_reducible refine gate_callee (f := 17) rfl ?_); refine goesL_ (some 46) rfl rfl Try.func17 (by kernel_rfl) rfl #[.int .i64 t136] rfl (by (try simp only [List.map_toArray, List.map_cons, List.map_nil]); first | done | rfl | (simp only [List.length_drop, List.length_take]; rfl)) ?_; (with_reducible refine (spec_PackNum.calls kj9 t136 t142 _ A28.out).mono ?_); rintro e w33 ⟨rfl, hb⟩; refine ⟨_, rfl, ?_⟩; have n0_ := Aside0.mk (below_step (by repeat (first | (with_reducible first | exact HB.out | apply below_alloc | apply pw_below_drewN | apply below_drew1) | exact HB.out)) hb); clear HB; have HB := n0_; clear n0_; (try clear hb); (try clear hb2); (try clear hk); (try clear hi)))
                go_ret
                exact ⟨by first | rfl | (simp [errW_none, errW_some] <;> rfl) | (simp [*, errW_none, errW_some] <;> rfl), by repeat (first | (with_reducible first | exact HB.out | apply below_alloc | apply pw_below_drewN | apply below_drew1) | exact HB.out)⟩
            · replace c27 := Bool.eq_false_iff.mpr c27
              subst c27
              have H1 : (if (t138.size : Int) ≤ (t139.size : Int) then (if 0 ≤ (t138.size : Int) then (if (((t139.extract 0 ((t138.size : Int) : Int).toNat).toList == t138.toList) == (t136 == t137)) = true then (if t136 > t137 then (some ((Op.bytesLess t138.toList t139.toList) == (decide (t136 < t137)))) else (some ((Op.bytesLess t138.toList t139.toList) == (decide (t136 < t137))))) else (some false)) else (none)) else (if (false == (t136 == t137)) = true then (if t136 > t137 then (some ((Op.bytesLess t138.toList t139.toList) == (decide (t136 < t137)))) else (some false)) else (some false))) = some r := by rw [if_neg (show ¬ (false = true) by decide)] at H; exact H
              clear H
              have H := H1
              clear H1
              by_cases c34 : (t138.size : Int) ≤ (t139.size : Int)
              · rw [if_pos c34] at H
                have c34b0 : decide ((t138.size : Int) ≤ (t139.size : Int)) = true := decide_eq_true c34
                have c34b1 : decide (t138.size ≤ t139.size) = true := decide_eq_true (Int.ofNat_le.mp c34)
                clear c34
                by_cases c35 : 0 ≤ (t138.size : Int)
                · rw [if_pos c35] at H
                  have c35b0 := eq_true c35
                  have c35b1 : decide (0 ≤ (t138.size : Int)) = true := decide_eq_true c35
                  clear c35
                  have c36b0 := eq_true (of_decide_eq_true (by first | (with_reducible assumption) | assumption) : (t138.size : Int) ≤ (t139.size : Int))
                  by_cases c37 : (((t139.extract 0 ((t138.size : Int) : Int).toNat).toList == t138.toList) == (t136 == t137)) = true
                  · rw [if_pos c37] at H
                    have c37b0 : (((t139.extract 0 ((t138.size : Int) : Int).toNat).toList == t138.toList) == (t136 == t137)) = true := c37
                    (try (have c37b1 : decide (((t139.extract 0 ((t138.size : Int) : Int).toNat).toList == t138.toList) = (t136 == t137)) = true := by simpa using c37))
                    (try (have c37b2 : (((t139.extract 0 ((t138.size : Int) : Int).toNat).toList == t138.toList) == (t136 == t137)) = true := by simpa using c37))
                    clear c37
                    by_cases c38 : t136 > t137
                    · rw [if_pos c38] at H
                      have c38b0 : decide (t137 < t136) = true := decide_eq_true c38
                      clear c38
                      obtain rfl := Option.some.inj H
                      go_wp2
                      · go_ret
                        exact ⟨by first | rfl | (simp [errW_none, errW_some] <;> rfl) | (simp [*, errW_none, errW_some] <;> rfl), by repeat (first | (with_reducible first | exact HB.out | apply below_alloc | apply pw_below_drewN | apply below_drew1) | exact HB.out)⟩
                      · have c_ := c37b0
                        rw [Int.toNat_natCast] at c_
                        exact absurd (beq_iff_eq.1 c_) (by assumption)
                    · rw [if_neg c38] at H
                      have c38b0 : decide (t137 < t136) = false := decide_eq_false c38
                      clear c38
                      obtain rfl := Option.some.inj H
                      go_wp2
                      · go_ret
                        exact ⟨by first | rfl | (simp [errW_none, errW_some] <;> rfl) | (simp [*, errW_none, errW_some] <;> rfl), by repeat (first | (with_reducible first | exact HB.out | apply below_alloc | apply pw_below_drewN | apply below_drew1) | exact HB.out)⟩
                      · have c_ := c37b0
                        rw [Int.toNat_natCast] at c_
                        exact absurd (beq_iff_eq.1 c_) (by assumption)
                  · rw [if_neg c37] at H
                    have c37b0 : (((t139.extract 0 ((t138.size : Int) : Int).toNat).toList == t138.toList) == (t136 == t137)) = false := by simpa using c37
                    (try (have c37b1 : decide (((t139.extract 0 ((t138.size : Int) : Int).toNat).toList == t138.toList) = (t136 == t137)) = false := by simpa using c37))
                    (try (have c37b2 : (((t139.extract 0 ((t138.size : Int) : Int).toNat).toList == t138.toList) == (t136 == t137)) = false := by simpa using c37))
                    (try (have c37b3 : ¬ (((t139.extract 0 ((t138.size : Int) : Int).toNat).toList == t138.toList) = (t136 == t137)) := by simpa using c37))
                    clear c37
                    obtain rfl := Option.some.inj H
                    go_wp2
                    go_ret
                    exact ⟨by first | rfl | (simp [errW_none, errW_some] <;> rfl) | (simp [*, errW_none, errW_some] <;> rfl), by repeat (first | (with_reducible first | exact HB.out | apply below_alloc | apply pw_below_drewN | apply below_drew1) | exact HB.out)⟩
                · rw [if_neg c35] at H
                  exact absurd H (by simp)
              · rw [if_neg c34] at H
                have c34b0 : decide ((t138.size : Int) ≤ (t139.size : Int)) = false := decide_eq_false c34
                have c34b1 : decide (t138.size ≤ t139.size) = false := decide_eq_false (fun h => c34 (Int.ofNat_le.mpr h))
                clear c34
                by_cases c39 : (false == (t136 == t137)) = true
                · rw [if_pos c39] at H
                  have c39b0 : (false == (t136 == t137)) = true := c39
                  (try (have c39b1 : decide (false = (t136 == t137)) = true := by simpa using c39))
                  (try (have c39b2 : (false == (t136 == t137)) = true := by simpa using c39))
                  clear c39
                  by_cases c40 : t136 > t137
                  · rw [if_pos c40] at H
                    have c40b0 : decide (t137 < t136) = true := decide_eq_true c40
                    clear c40
                    obtain rfl := Option.some.inj H
                    go_wp2
                    go_ret
                    exact ⟨by first | rfl | (simp [errW_none, errW_some] <;> rfl) | (simp [*, errW_none, errW_some] <;> rfl), by repeat (first | (with_reducible first | exact HB.out | apply below_alloc | apply pw_below_drewN | apply below_drew1) | exact HB.out)⟩
                  · rw [if_neg c40] at H
                    have c40b0 : decide (t137 < t136) = false := decide_eq_false c40
                    clear c40
                    obtain rfl := Option.some.inj H
                    go_wp2
                    go_ret
                    exact ⟨by first | rfl | (simp [errW_none, errW_some] <;> rfl) | (simp [*, errW_none, errW_some] <;> rfl), by repeat (first | (with_reducible first | exact HB.out | apply below_alloc | apply pw_below_drewN | apply below_drew1) | exact HB.out)⟩
                · rw [if_neg c39] at H
                  have c39b0 : (false == (t136 == t137)) = false := by simpa using c39
                  (try (have c39b1 : decide (false = (t136 == t137)) = false := by simpa using c39))
                  (try (have c39b2 : (false == (t136 == t137)) = false := by simpa using c39))
                  (try (have c39b3 : ¬ (false = (t136 == t137)) := by simpa using c39))
                  clear c39
                  obtain rfl := Option.some.inj H
                  go_wp2
                  go_ret
                  exact ⟨by first | rfl | (simp [errW_none, errW_some] <;> rfl) | (simp [*, errW_none, errW_some] <;> rfl), by repeat (first | (with_reducible first | exact HB.out | apply below_alloc | apply pw_below_drewN | apply below_drew1) | exact HB.out)⟩

/-- THE ONE PURE STATEMENT of laws_FnPackOrder: yours. -/
def laws_FnPackOrder.Pure : Prop := ∀ (l0 : List Int) (l1 : List Int), l0.length ≤ maxLen → l0.length * 1 ≤ 140737488351232 → (∀ x ∈ l0, (Lit.int .u8 x).wf = true) → l1.length ≤ maxLen → l1.length * 1 ≤ 140737488351232 → (∀ x ∈ l1, (Lit.int .u8 x).wf = true) → ∃ k, laws_FnPackOrder.f k l0 l1 = some true
theorem laws_FnPackOrder.walk (P : laws_FnPackOrder.Pure) (a0 : Option Addr) (len0 cap0 : Nat) (z0 : List Int) (a1 : Option Addr) (len1 cap1 : Nat) (z1 : List Int) (w : World) (w0 : (a0 = none ∧ len0 = 0 ∧ cap0 = 0 ∧ z0 = []) ∨ ∃ x, a0 = some x ∧ len0 ≤ cap0 ∧ cap0 ≤ maxLen ∧ z0.length = cap0 ∧ (∀ i, i < z0.length → w.cell? (x.add i) = some (.int .u8 (z0.getD i 0))) ∧ ∀ n ∈ z0, (Lit.int .u8 n).wf = true) (y0 : len0 * 1 ≤ 140737488351232) (w1 : (a1 = none ∧ len1 = 0 ∧ cap1 = 0 ∧ z1 = []) ∨ ∃ x, a1 = some x ∧ len1 ≤ cap1 ∧ cap1 ≤ maxLen ∧ z1.length = cap1 ∧ (∀ i, i < z1.length → w.cell? (x.add i) = some (.int .u8 (z1.getD i 0))) ∧ ∀ n ∈ z1, (Lit.int .u8 n).wf = true) (y1 : len1 * 1 ≤ 140737488351232) :
    Calls Try.prog 3 #[.slice a0 len0 cap0, .slice a1 len1 cap1] w fun e w' => e = .returned (.bool true) ∧ Below w.heap.size w w' := by
  obtain ⟨l0, rfl, hr0, hm0, hw0, hc0⟩ := ReadsInt.ofRowC w0
  obtain ⟨l1, rfl, hr1, hm1, hw1, hc1⟩ := ReadsInt.ofRowC w1
  obtain ⟨k, h⟩ := P l0 l1 hm0 y0 hw0 hm1 y1 hw1
  refine (laws_FnPackOrder.calls k _ _ l0 _ _ l1 true w (Kd.C_of_reads (d := (0 : Int)) (h1 := fun _ => rfl) hr0) hc0 (Kd.C_of_reads (d := (0 : Int)) (h1 := fun _ => rfl) hr1) hc1 h).mono ?_
  rintro e w' ⟨rfl, hd⟩
  exact ⟨rfl, hd⟩

end Go.Proofs.Yteilpkckaecomaa.PFnPackOrder
