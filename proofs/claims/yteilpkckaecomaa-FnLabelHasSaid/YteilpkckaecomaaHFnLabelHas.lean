/- The law's own contract, walked: FnLabelHas does what its plain function says. No condition. -/
import Derived.Test.YteilpkckaecomaaPFnLabelHasx0
import Derived.Test.YteilpkckaecomaaPFnLabelHasx1
namespace Go.Proofs.Yteilpkckaecomaa.PFnLabelHas
open Go.RowKit Go.Proofs.YteilpkckaecomaaW.PrintWords Go.Proofs.YteilpkckaecomaaW.PrintLast Go.Proofs.YteilpkckaecomaaW.PrintMore
attribute [local go_sem] max2_int min2_int max_two min_two max_three min_three max_four min_four   -- for this text's walks alone
set_option linter.unusedVariables false
set_option linter.unusedSimpArgs false

/-! ### impl_LabelUnder: function 22 -/
def impl_LabelUnder.f (a0 : Int) (a1 : Int) : Option (Bool) := (impl_LabelOk.f a0).bind fun t131 => (if t131 = true then ((impl_LabelOk.f a1).bind fun t132 => (if t132 = true then ((impl_letters_under.f ((a0) % 256) ((a1) % 256)).bind fun t133 => (some t133)) else (some false))) else (some false))
set_option maxHeartbeats 8000000 in
set_option maxRecDepth 100000 in
theorem impl_LabelUnder.calls (a0 : Int) (a1 : Int) (r : Bool) (w : World) (h : impl_LabelUnder.f a0 a1 = some r) :
    Calls Try.prog 22 #[.int .i64 a0, .int .i64 a1] w fun e w' => e = .returned (.bool r) ∧ Drawn0 w w' := by
  have H : ((impl_LabelOk.f a0).bind fun t131 => (if t131 = true then ((impl_LabelOk.f a1).bind fun t132 => (if t132 = true then ((impl_letters_under.f ((a0) % 256) ((a1) % 256)).bind fun t133 => (some t133)) else (some false))) else (some false))) = some r := h
  clear h
  replace H := Option.bind_eq_some_iff.mp H
  obtain ⟨t131, A30, H⟩ := H
  replace H : (if t131 = true then ((impl_LabelOk.f a1).bind fun t132 => (if t132 = true then ((impl_letters_under.f ((a0) % 256) ((a1) % 256)).bind fun t133 => (some t133)) else (some false))) else (some false)) = some r := H
  have A3 := Aside0.mk A30
  clear A30
  by_cases c4 : t131 = true
  · subst c4
    have H1 : ((impl_LabelOk.f a1).bind fun t132 => (if t132 = true then ((impl_letters_under.f ((a0) % 256) ((a1) % 256)).bind fun t133 => (some t133)) else (some false))) = some r := by rw [if_pos rfl] at H; exact H
    clear H
    have H := H1
    clear H1
    replace H := Option.bind_eq_some_iff.mp H
    obtain ⟨t132, A50, H⟩ := H
    replace H : (if t132 = true then ((impl_letters_under.f ((a0) % 256) ((a1) % 256)).bind fun t133 => (some t133)) else (some false)) = some r := H
    have A5 := Aside0.mk A50
    clear A50
    by_cases c6 : t132 = true
    · subst c6
      have H1 : ((impl_letters_under.f ((a0) % 256) ((a1) % 256)).bind fun t133 => (some t133)) = some r := by rw [if_pos rfl] at H; exact H
      clear H
      have H := H1
      clear H1
      replace H := Option.bind_eq_some_iff.mp H
      obtain ⟨t133, A70, H⟩ := H
      replace H : (some t133) = some r := H
      have A7 := Aside0.mk A70
      clear A70
      obtain rfl := Option.some.inj H
      go_enter Try.func22, Try.ntmps22
      go_wp2_with (first | ((with_reducible refine gate_callee (f := 21) rfl ?_); refine goesL_ (some 6) rfl rfl Try.func21 (by kernel_rfl) rfl #[.int .i64 a0] rfl (by (try simp only [List.map_toArray, List.map_cons, List.map_nil]); first | done | rfl | (simp only [List.length_drop, List.length_take]; rfl)) ?_; (with_reducible refine (impl_LabelOk.calls a0 true _ A3.out).mono ?_); rintro e w' ⟨rfl, ⟨nd, rfl⟩⟩; refine ⟨_, rfl, ?_⟩) | (go_at_call 21; (with_reducible refine (impl_LabelOk.calls a1 true _ A5.out).mono ?_); rintro e w' ⟨rfl, ⟨nd, rfl⟩⟩) | (go_at_call 56; (with_reducible refine (impl_letters_under.calls ((a0) % 256) ((a1) % 256) t133 _ A7.out).mono ?_); rintro e w' ⟨rfl, ⟨nd, rfl⟩⟩))
      go_ret
      exact ⟨by first | rfl | (simp; done) | (simp [*]; done), by repeat (first | exact Drawn0.refl _ | apply Drawn0.step)⟩
    · replace c6 := Bool.eq_false_iff.mpr c6
      subst c6
      have H1 : (some false) = some r := by rw [if_neg (show ¬ (false = true) by decide)] at H; exact H
      clear H
      have H := H1
      clear H1
      obtain rfl := Option.some.inj H
      go_enter Try.func22, Try.ntmps22
      go_wp2_with (first | ((with_reducible refine gate_callee (f := 21) rfl ?_); refine goesL_ (some 6) rfl rfl Try.func21 (by kernel_rfl) rfl #[.int .i64 a0] rfl (by (try simp only [List.map_toArray, List.map_cons, List.map_nil]); first | done | rfl | (simp only [List.length_drop, List.length_take]; rfl)) ?_; (with_reducible refine (impl_LabelOk.calls a0 true _ A3.out).mono ?_); rintro e w' ⟨rfl, ⟨nd, rfl⟩⟩; refine ⟨_, rfl, ?_⟩) | (go_at_call 21; (with_reducible refine (impl_LabelOk.calls a1 false _ A5.out).mono ?_); rintro e w' ⟨rfl, ⟨nd, rfl⟩⟩))
      go_ret
      exact ⟨by first | rfl | (simp; done) | (simp [*]; done), by repeat (first | exact Drawn0.refl _ | apply Drawn0.step)⟩
  · replace c4 := Bool.eq_false_iff.mpr c4
    subst c4
    have H1 : (some false) = some r := by rw [if_neg (show ¬ (false = true) by decide)] at H; exact H
    clear H
    have H := H1
    clear H1
    obtain rfl := Option.some.inj H
    go_enter Try.func22, Try.ntmps22
    go_wp2_with (first | ((with_reducible refine gate_callee (f := 21) rfl ?_); refine goesL_ (some 6) rfl rfl Try.func21 (by kernel_rfl) rfl #[.int .i64 a0] rfl (by (try simp only [List.map_toArray, List.map_cons, List.map_nil]); first | done | rfl | (simp only [List.length_drop, List.length_take]; rfl)) ?_; (with_reducible refine (impl_LabelOk.calls a0 false _ A3.out).mono ?_); rintro e w' ⟨rfl, ⟨nd, rfl⟩⟩; refine ⟨_, rfl, ?_⟩))
    go_ret
    exact ⟨by first | rfl | (simp; done) | (simp [*]; done), by repeat (first | exact Drawn0.refl _ | apply Drawn0.step)⟩

/-! ### laws_FnLabelHas: function 4 -/
mutual
def laws_FnLabelHas.j0 : Nat → List Int → List Int → Bool → Option (Bool)
  | 0, _, _, _ => none
  | k + 1, x0, x1, x19 => if x19 = true then (some true) else ((spec_DrawLabelHas.f k x0).bind fun bt134 => ((spec_DrawLabelHas.f k x1).bind fun bt136 => ((impl_LabelHas.f bt134.1 bt134.2).bind fun t138 => ((spec_LabelHas.f k bt134.1 bt134.2).bind fun t139 => (if (t138 != t139) = true then (some false) else ((impl_LabelOk.f bt134.1).bind fun t140 => (if t140 = true then ((impl_LabelOk.f bt136.1).bind fun t141 => (laws_FnLabelHas.j1 k bt134.1 bt134.2 bt136.1 (!t141))) else (laws_FnLabelHas.j1 k bt134.1 bt134.2 bt136.1 true))))))))
def laws_FnLabelHas.j1 : Nat → Int → Int → Int → Bool → Option (Bool)
  | 0, _, _, _, _ => none
  | k + 1, x5, x6, x7, x44 => if x44 = true then ((impl_LabelHas.f x5 x6).bind fun t142 => (if t142 = true then ((impl_LabelOk.f x5).bind fun t143 => (some t143)) else (some true))) else (laws_FnLabelHas.l0 k x5 x7 true true 0)
def laws_FnLabelHas.l0 : Nat → Int → Int → Bool → Bool → Int → Option (Bool)
  | 0, _, _, _, _, _ => none
  | k + 1, x5, x7, x9, x10, x11 => if x11 < 3 then (if x9 = true then ((impl_LabelHas.f x5 x11).bind fun t147 => (if t147 = true then ((impl_LabelHas.f x7 x11).bind fun t148 => (if x10 = true then ((impl_LabelHas.f x5 x11).bind fun t149 => ((impl_LabelHas.f x7 x11).bind fun t150 => (laws_FnLabelHas.l0 k x5 x7 t148 (t149 == t150) (wrap64 (x11 + 1))))) else (laws_FnLabelHas.l0 k x5 x7 t148 false (wrap64 (x11 + 1))))) else (if x10 = true then ((impl_LabelHas.f x5 x11).bind fun t151 => ((impl_LabelHas.f x7 x11).bind fun t152 => (laws_FnLabelHas.l0 k x5 x7 true (t151 == t152) (wrap64 (x11 + 1))))) else (laws_FnLabelHas.l0 k x5 x7 true false (wrap64 (x11 + 1)))))) else (if x10 = true then ((impl_LabelHas.f x5 x11).bind fun t153 => ((impl_LabelHas.f x7 x11).bind fun t154 => (laws_FnLabelHas.l0 k x5 x7 false (t153 == t154) (wrap64 (x11 + 1))))) else (laws_FnLabelHas.l0 k x5 x7 false false (wrap64 (x11 + 1))))) else ((impl_LabelUnder.f x5 x7).bind fun t144 => (if (x9 == t144) = true then (if (x10 == (x5 == x7)) = true then ((impl_LabelHas.f x5 3).bind fun t145 => (if t145 = true then (some false) else ((impl_LabelHas.f x5 (-1)).bind fun t146 => (some (!t146))))) else (some false)) else (some false)))
end
def laws_FnLabelHas.f (k : Nat) (l0 : List Int) (l1 : List Int) : Option (Bool) := if (l0.length : Int) > 1048576 then (laws_FnLabelHas.j0 k l0 l1 true) else (laws_FnLabelHas.j0 k l0 l1 (decide ((l1.length : Int) > 1048576)))
theorem laws_FnLabelHas.mono_l : ∀ k, (∀ y0 y1 y2, LeO (laws_FnLabelHas.j0 k y0 y1 y2) (laws_FnLabelHas.j0 (k + 1) y0 y1 y2)) ∧ (∀ y0 y1 y2 y3, LeO (laws_FnLabelHas.j1 k y0 y1 y2 y3) (laws_FnLabelHas.j1 (k + 1) y0 y1 y2 y3)) ∧ (∀ y0 y1 y2 y3 y4, LeO (laws_FnLabelHas.l0 k y0 y1 y2 y3 y4) (laws_FnLabelHas.l0 (k + 1) y0 y1 y2 y3 y4))
  | 0 => ⟨fun _ _ _ r h => by simp [laws_FnLabelHas.j0] at h, fun _ _ _ _ r h => by simp [laws_FnLabelHas.j1] at h, fun _ _ _ _ _ r h => by simp [laws_FnLabelHas.l0] at h⟩
  | k + 1 => by
    obtain ⟨ih0, ih1, ih2⟩ := laws_FnLabelHas.mono_l k
    refine ⟨?_, ?_, ?_⟩
    · intro y0 y1 y2
      unfold laws_FnLabelHas.j0
      repeat' first
      | (with_reducible exact ih0 _ _ _)
      | (with_reducible exact ih1 _ _ _ _)
      | (with_reducible exact ih2 _ _ _ _ _)
      | (with_reducible exact spec_DrawLabelHas.mono _ _)
      | (with_reducible exact spec_LabelHas.mono _ _ _)
      | (with_reducible exact LeO.refl _)
      | (with_reducible exact LeO.none _)
      | (with_reducible refine LeO.ite ?_ ?_)
      | (with_reducible refine LeO.bind ?_ (fun _ => ?_))
      | exact ih0 _ _ _
      | exact ih1 _ _ _ _
      | exact ih2 _ _ _ _ _
      | exact spec_DrawLabelHas.mono _ _
      | exact spec_LabelHas.mono _ _ _
      | exact LeO.none _
      | refine LeO.ite ?_ ?_
      | refine LeO.bind ?_ (fun _ => ?_)
    · intro y0 y1 y2 y3
      unfold laws_FnLabelHas.j1
      repeat' first
      | (with_reducible exact ih0 _ _ _)
      | (with_reducible exact ih1 _ _ _ _)
      | (with_reducible exact ih2 _ _ _ _ _)
      | (with_reducible exact spec_DrawLabelHas.mono _ _)
      | (with_reducible exact spec_LabelHas.mono _ _ _)
      | (with_reducible exact LeO.refl _)
      | (with_reducible exact LeO.none _)
      | (with_reducible refine LeO.ite ?_ ?_)
      | (with_reducible refine LeO.bind ?_ (fun _ => ?_))
      | exact ih0 _ _ _
      | exact ih1 _ _ _ _
      | exact ih2 _ _ _ _ _
      | exact spec_DrawLabelHas.mono _ _
      | exact spec_LabelHas.mono _ _ _
      | exact LeO.none _
      | refine LeO.ite ?_ ?_
      | refine LeO.bind ?_ (fun _ => ?_)
    · intro y0 y1 y2 y3 y4
      unfold laws_FnLabelHas.l0
      repeat' first
      | (with_reducible exact ih0 _ _ _)
      | (with_reducible exact ih1 _ _ _ _)
      | (with_reducible exact ih2 _ _ _ _ _)
      | (with_reducible exact spec_DrawLabelHas.mono _ _)
      | (with_reducible exact spec_LabelHas.mono _ _ _)
      | (with_reducible exact LeO.refl _)
      | (with_reducible exact LeO.none _)
      | (with_reducible refine LeO.ite ?_ ?_)
      | (with_reducible refine LeO.bind ?_ (fun _ => ?_))
      | exact ih0 _ _ _
      | exact ih1 _ _ _ _
      | exact ih2 _ _ _ _ _
      | exact spec_DrawLabelHas.mono _ _
      | exact spec_LabelHas.mono _ _ _
      | exact LeO.none _
      | refine LeO.ite ?_ ?_
      | refine LeO.bind ?_ (fun _ => ?_)
theorem laws_FnLabelHas.mono : ∀ a0 a1 k, LeO (laws_FnLabelHas.f k a0 a1) (laws_FnLabelHas.f (k + 1) a0 a1) := by
  intro a0 a1 k
  obtain ⟨ih0, ih1, ih2⟩ := laws_FnLabelHas.mono_l k
  unfold laws_FnLabelHas.f
  repeat' first
      | (with_reducible exact ih0 _ _ _)
      | (with_reducible exact ih1 _ _ _ _)
      | (with_reducible exact ih2 _ _ _ _ _)
      | (with_reducible exact spec_DrawLabelHas.mono _ _)
      | (with_reducible exact spec_LabelHas.mono _ _ _)
      | (with_reducible exact LeO.refl _)
      | (with_reducible exact LeO.none _)
      | (with_reducible refine LeO.ite ?_ ?_)
      | (with_reducible refine LeO.bind ?_ (fun _ => ?_))
      | exact ih0 _ _ _
      | exact ih1 _ _ _ _
      | exact ih2 _ _ _ _ _
      | exact spec_DrawLabelHas.mono _ _
      | exact spec_LabelHas.mono _ _ _
      | exact LeO.none _
      | refine LeO.ite ?_ ?_
      | refine LeO.bind ?_ (fun _ => ?_)
set_option maxHeartbeats 8000000 in
set_option maxRecDepth 100000 in
theorem laws_FnLabelHas.calls (k : Nat) (A0 : Option Addr) (c0 : Nat) (l0 : List Int) (A1 : Option Addr) (c1 : Nat) (l1 : List Int) (r : Bool) (w : World) (hr0 : Kd.C (Kd.int .u8) w A0 l0.length l0) (hc0 : l0.length ≤ c0) (hr1 : Kd.C (Kd.int .u8) w A1 l1.length l1) (hc1 : l1.length ≤ c1) (h : laws_FnLabelHas.f k l0 l1 = some r) :
    Calls Try.prog 4 #[.slice A0 l0.length c0, .slice A1 l1.length c1] w fun e w' => e = .returned (.bool r) ∧ Below w.heap.size w w' := by
  have HR0 := Aside0.mk hr0
  have HC0 := Aside0.mk hc0
  clear hr0 hc0
  have HR1 := Aside0.mk hr1
  have HC1 := Aside0.mk hc1
  clear hr1 hc1
  have HB := Aside0.mk (Below.refl w.heap.size w)
  have H : (if (l0.length : Int) > 1048576 then (laws_FnLabelHas.j0 k l0 l1 true) else (laws_FnLabelHas.j0 k l0 l1 (decide ((l1.length : Int) > 1048576)))) = some r := h
  clear h
  have HC3 := Aside0.mk H
  clear H
  go_enter Try.func4, Try.ntmps4
  go_upto_region 1 with (fail)
  go_cut [19] (fun v19 wc => ∃ (kq : Nat) (x19_2 : Bool), v19 = .bool x19_2 ∧ Aside0 (laws_FnLabelHas.j0 kq l0 l1 x19_2 = some r) ∧ Aside0 (kq ≤ k) ∧ Aside0 (Below w.heap.size w wc))
  case first =>
    have H := HC3.out
    clear HC3
    by_cases c4 : (l0.length : Int) > 1048576
    · rw [if_pos c4] at H
      have c4b0 : decide (1048576 < (l0.length : Int)) = true := decide_eq_true c4
      have c4b1 : decide (1048576 < l0.length) = true := decide_eq_true (by omega)
      clear c4
      (first | rw [c4b0] | (simp only [i64_w, i32_w]; rw [c4b0]) | skip)
      have H' := Aside0.mk H
      clear H
      go_wp2
      go_meet
      case rel => exact ⟨_, (true), (by first | rfl | (simp; done) | (simp [*]; done)), H', ⟨by first | omega | exact Nat.le_refl _⟩, ⟨by repeat (first | (with_reducible first | exact HB.out | apply below_alloc | apply pw_below_drewN | apply below_drew1) | exact HB.out)⟩⟩
    · rw [if_neg c4] at H
      have c4b0 : decide (1048576 < (l0.length : Int)) = false := decide_eq_false c4
      have c4b1 : decide (1048576 < l0.length) = false := decide_eq_false (by omega)
      clear c4
      (first | rw [c4b0] | (simp only [i64_w, i32_w]; rw [c4b0]) | skip)
      have H' := Aside0.mk H
      clear H
      go_wp2
      go_meet
      case rel => exact ⟨_, (decide ((l1.length : Int) > 1048576)), (by first | rfl | (simp; done) | (simp [*]; done)), H', ⟨by first | omega | exact Nat.le_refl _⟩, ⟨by repeat (first | (with_reducible first | exact HB.out | apply below_alloc | apply pw_below_drewN | apply below_drew1) | exact HB.out)⟩⟩
  case rest =>
    clear HC3
    try clear c1
    try clear p2
    try clear c4
    try clear c4b0
    try clear c4b1
    obtain ⟨kq, x19_2, rfl, HA, HJ2, HB⟩ := hcut
    cases kq with
    | zero => exact absurd HA.out (by simp [laws_FnLabelHas.j0])
    | succ kj2 =>
      have H := HA.out
      clear HA
      simp only [laws_FnLabelHas.j0] at H
      by_cases c5 : x19_2 = true
      · subst c5
        have H1 : (some true) = some r := by rw [if_pos rfl] at H; exact H
        clear H
        have H := H1
        clear H1
        obtain rfl := Option.some.inj H
        go_wp2
        go_ret
        exact ⟨by first | rfl | (simp [errW_none, errW_some] <;> rfl) | (simp [*, errW_none, errW_some] <;> rfl), by repeat (first | (with_reducible first | exact HB.out | apply below_alloc | apply pw_below_drewN | apply below_drew1) | exact HB.out)⟩
      · replace c5 := Bool.eq_false_iff.mpr c5
        subst c5
        have H1 : ((spec_DrawLabelHas.f kj2 l0).bind fun bt134 => ((spec_DrawLabelHas.f kj2 l1).bind fun bt136 => ((impl_LabelHas.f bt134.1 bt134.2).bind fun t138 => ((spec_LabelHas.f kj2 bt134.1 bt134.2).bind fun t139 => (if (t138 != t139) = true then (some false) else ((impl_LabelOk.f bt134.1).bind fun t140 => (if t140 = true then ((impl_LabelOk.f bt136.1).bind fun t141 => (laws_FnLabelHas.j1 kj2 bt134.1 bt134.2 bt136.1 (!t141))) else (laws_FnLabelHas.j1 kj2 bt134.1 bt134.2 bt136.1 true)))))))) = some r := by rw [if_neg (show ¬ (false = true) by decide)] at H; exact H
        clear H
        have H := H1
        clear H1
        replace H := Option.bind_eq_some_iff.mp H
        obtain ⟨⟨t134, t135⟩, A60, H⟩ := H
        replace H : ((spec_DrawLabelHas.f kj2 l1).bind fun bt136 => ((impl_LabelHas.f t134 t135).bind fun t138 => ((spec_LabelHas.f kj2 t134 t135).bind fun t139 => (if (t138 != t139) = true then (some false) else ((impl_LabelOk.f t134).bind fun t140 => (if t140 = true then ((impl_LabelOk.f bt136.1).bind fun t141 => (laws_FnLabelHas.j1 kj2 t134 t135 bt136.1 (!t141))) else (laws_FnLabelHas.j1 kj2 t134 t135 bt136.1 true))))))) = some r := H
        have A6 := Aside0.mk A60
        clear A60
        replace H := Option.bind_eq_some_iff.mp H
        obtain ⟨⟨t136, t137⟩, A70, H⟩ := H
        replace H : ((impl_LabelHas.f t134 t135).bind fun t138 => ((spec_LabelHas.f kj2 t134 t135).bind fun t139 => (if (t138 != t139) = true then (some false) else ((impl_LabelOk.f t134).bind fun t140 => (if t140 = true then ((impl_LabelOk.f t136).bind fun t141 => (laws_FnLabelHas.j1 kj2 t134 t135 t136 (!t141))) else (laws_FnLabelHas.j1 kj2 t134 t135 t136 true)))))) = some r := H
        have A7 := Aside0.mk A70
        clear A70
        replace H := Option.bind_eq_some_iff.mp H
        obtain ⟨t138, A80, H⟩ := H
        replace H : ((spec_LabelHas.f kj2 t134 t135).bind fun t139 => (if (t138 != t139) = true then (some false) else ((impl_LabelOk.f t134).bind fun t140 => (if t140 = true then ((impl_LabelOk.f t136).bind fun t141 => (laws_FnLabelHas.j1 kj2 t134 t135 t136 (!t141))) else (laws_FnLabelHas.j1 kj2 t134 t135 t136 true))))) = some r := H
        have A8 := Aside0.mk A80
        clear A80
        replace H := Option.bind_eq_some_iff.mp H
        obtain ⟨t139, A90, H⟩ := H
        replace H : (if (t138 != t139) = true then (some false) else ((impl_LabelOk.f t134).bind fun t140 => (if t140 = true then ((impl_LabelOk.f t136).bind fun t141 => (laws_FnLabelHas.j1 kj2 t134 t135 t136 (!t141))) else (laws_FnLabelHas.j1 kj2 t134 t135 t136 true)))) = some r := H
        have A9 := Aside0.mk A90
        clear A90
        by_cases c10 : (t138 != t139) = true
        · rw [if_pos c10] at H
          have c10b0 : (t138 != t139) = true := c10
          (try (have c10b1 : decide (t138 = t139) = false := by simpa using c10))
          (try (have c10b2 : (t138 == t139) = false := by simpa using c10))
          (try (have c10b3 : ¬ (t138 = t139) := by simpa using c10))
          clear c10
          obtain rfl := Option.some.inj H
          go_wp2_with (first | ((with_reducible refine gate_callee (f := 18) rfl ?_); refine goesL_ (some 22) rfl rfl Try.func18 (by kernel_rfl) rfl #[.slice A0 l0.length c0] rfl (by (try simp only [List.map_toArray, List.map_cons, List.map_nil]); first | done | rfl | (simp only [List.length_drop, List.length_take]; rfl)) ?_; (with_reducible refine (spec_DrawLabelHas.calls kj2 _ _ l0 t134 t135 _ ?side1 ?side2 A6.out).mono ?_); (case side1 => repeat (first | exact (Kd.C_below HR0.out HB.out) | (with_reducible refine Kd.C_alloc ?_ _) | (with_reducible refine Kd.C_drewN ?_ _) | (with_reducible refine Kd.C_drew ?_))); (case side2 => exact HC0.out); rintro e w11 ⟨rfl, hb⟩; refine ⟨_, rfl, ?_⟩; have n0_ := Aside0.mk (below_step (by repeat (first | (with_reducible first | exact HB.out | apply below_alloc | apply pw_below_drewN | apply below_drew1) | exact HB.out)) hb); clear HB; have HB := n0_; clear n0_; (try clear hb); (try clear hb2); (try clear hk); (try clear hi)) | ((with_reducible refine gate_callee (f := 18) rfl ?_); refine goesL_ (some 27) rfl rfl Try.func18 (by kernel_rfl) rfl #[.slice A1 l1.length c1] rfl (by (try simp only [List.map_toArray, List.map_cons, List.map_nil]); first | done | rfl | (simp only [List.length_drop, List.length_take]; rfl)) ?_; (with_reducible refine (spec_DrawLabelHas.calls kj2 _ _ l1 t136 t137 _ ?side1 ?side2 A7.out).mono ?_); (case side1 => repeat (first | exact (Kd.C_below HR1.out HB.out) | (with_reducible refine Kd.C_alloc ?_ _) | (with_reducible refine Kd.C_drewN ?_ _) | (with_reducible refine Kd.C_drew ?_))); (case side2 => exact HC1.out); rintro e w12 ⟨rfl, hb⟩; refine ⟨_, rfl, ?_⟩; have n0_ := Aside0.mk (below_step (by repeat (first | (with_reducible first | exact HB.out | apply below_alloc | apply pw_below_drewN | apply below_drew1) | exact HB.out)) hb); clear HB; have HB := n0_; clear n0_; (try clear hb); (try clear hb2); (try clear hk); (try clear hi)) | ((with_reducible refine gate_callee (f := 19) rfl ?_); refine goesL_ (some 32) rfl rfl Try.func19 (by kernel_rfl) rfl #[.int .i64 t134, .int .i64 t135] rfl (by (try simp only [List.map_toArray, List.map_cons, List.map_nil]); first | done | rfl | (simp only [List.length_drop, List.length_take]; rfl)) ?_; (with_reducible refine (impl_LabelHas.calls t134 t135 t138 _ A8.out).mono ?_); rintro e w' ⟨rfl, ⟨nd, rfl⟩⟩; refine ⟨_, rfl, ?_⟩) | ((with_reducible refine gate_callee (f := 20) rfl ?_); refine goesL_ (some 35) rfl rfl Try.func20 (by kernel_rfl) rfl #[.int .i64 t134, .int .i64 t135] rfl (by (try simp only [List.map_toArray, List.map_cons, List.map_nil]); first | done | rfl | (simp only [List.length_drop, List.length_take]; rfl)) ?_; (with_reducible refine (spec_LabelHas.calls kj2 t134 t135 t139 _ A9.out).mono ?_); rintro e w' ⟨rfl, ⟨nd, rfl⟩⟩; refine ⟨_, rfl, ?_⟩))
          go_ret
          exact ⟨by first | rfl | (simp [errW_none, errW_some] <;> rfl) | (simp [*, errW_none, errW_some] <;> rfl), by repeat (first | (with_reducible first | exact HB.out | apply below_alloc | apply pw_below_drewN | apply below_drew1) | exact HB.out)⟩
        · rw [if_neg c10] at H
          have c10b0 : (t138 != t139) = false := by simpa using c10
          (try (have c10b1 : decide (t138 = t139) = true := by simpa using c10))
          (try (have c10b2 : (t138 == t139) = true := by simpa using c10))
          clear c10
          have HC13 := Aside0.mk H
          clear H
          go_upto_region 7 with (first | ((with_reducible refine gate_callee (f := 18) rfl ?_); refine goesL_ (some 22) rfl rfl Try.func18 (by kernel_rfl) rfl #[.slice A0 l0.length c0] rfl (by (try simp only [List.map_toArray, List.map_cons, List.map_nil]); first | done | rfl | (simp only [List.length_drop, List.length_take]; rfl)) ?_; (with_reducible refine (spec_DrawLabelHas.calls kj2 _ _ l0 t134 t135 _ ?side1 ?side2 A6.out).mono ?_); (case side1 => repeat (first | exact (Kd.C_below HR0.out HB.out) | (with_reducible refine Kd.C_alloc ?_ _) | (with_reducible refine Kd.C_drewN ?_ _) | (with_reducible refine Kd.C_drew ?_))); (case side2 => exact HC0.out); rintro e w14 ⟨rfl, hb⟩; refine ⟨_, rfl, ?_⟩; have n0_ := Aside0.mk (below_step (by repeat (first | (with_reducible first | exact HB.out | apply below_alloc | apply pw_below_drewN | apply below_drew1) | exact HB.out)) hb); clear HB; have HB := n0_; clear n0_; (try clear hb); (try clear hb2); (try clear hk); (try clear hi)) | ((with_reducible refine gate_callee (f := 18) rfl ?_); refine goesL_ (some 27) rfl rfl Try.func18 (by kernel_rfl) rfl #[.slice A1 l1.length c1] rfl (by (try simp only [List.map_toArray, List.map_cons, List.map_nil]); first | done | rfl | (simp only [List.length_drop, List.length_take]; rfl)) ?_; (with_reducible refine (spec_DrawLabelHas.calls kj2 _ _ l1 t136 t137 _ ?side1 ?side2 A7.out).mono ?_); (case side1 => repeat (first | exact (Kd.C_below HR1.out HB.out) | (with_reducible refine Kd.C_alloc ?_ _) | (with_reducible refine Kd.C_drewN ?_ _) | (with_reducible refine Kd.C_drew ?_))); (case side2 => exact HC1.out); rintro e w15 ⟨rfl, hb⟩; refine ⟨_, rfl, ?_⟩; have n0_ := Aside0.mk (below_step (by repeat (first | (with_reducible first | exact HB.out | apply below_alloc | apply pw_below_drewN | apply below_drew1) | exact HB.out)) hb); clear HB; have HB := n0_; clear n0_; (try clear hb); (try clear hb2); (try clear hk); (try clear hi)) | ((with_reducible refine gate_callee (f := 19) rfl ?_); refine goesL_ (some 32) rfl rfl Try.func19 (by kernel_rfl) rfl #[.int .i64 t134, .int .i64 t135] rfl (by (try simp only [List.map_toArray, List.map_cons, List.map_nil]); first | done | rfl | (simp only [List.length_drop, List.length_take]; rfl)) ?_; (with_reducible refine (impl_LabelHas.calls t134 t135 t138 _ A8.out).mono ?_); rintro e w' ⟨rfl, ⟨nd, rfl⟩⟩; refine ⟨_, rfl, ?_⟩) | ((with_reducible refine gate_callee (f := 20) rfl ?_); refine goesL_ (some 35) rfl rfl Try.func20 (by kernel_rfl) rfl #[.int .i64 t134, .int .i64 t135] rfl (by (try simp only [List.map_toArray, List.map_cons, List.map_nil]); first | done | rfl | (simp only [List.length_drop, List.length_take]; rfl)) ?_; (with_reducible refine (spec_LabelHas.calls kj2 t134 t135 t139 _ A9.out).mono ?_); rintro e w' ⟨rfl, ⟨nd, rfl⟩⟩; refine ⟨_, rfl, ?_⟩))
          (try simp only [Act.put, List.setIfInBounds_toArray, List.set_cons_zero, List.set_cons_succ])
          go_cut [44] (fun v44 wc => ∃ (kq : Nat) (x44_12 : Bool), v44 = .bool x44_12 ∧ Aside0 (laws_FnLabelHas.j1 kq t134 t135 t136 x44_12 = some r) ∧ Aside0 (kq ≤ kj2) ∧ Aside0 (Below w.heap.size w wc))
          case first =>
            have H := HC13.out
            clear HC13
            replace H := Option.bind_eq_some_iff.mp H
            obtain ⟨t140, A160, H⟩ := H
            replace H : (if t140 = true then ((impl_LabelOk.f t136).bind fun t141 => (laws_FnLabelHas.j1 kj2 t134 t135 t136 (!t141))) else (laws_FnLabelHas.j1 kj2 t134 t135 t136 true)) = some r := H
            have A16 := Aside0.mk A160
            clear A160
            by_cases c17 : t140 = true
            · subst c17
              have H1 : ((impl_LabelOk.f t136).bind fun t141 => (laws_FnLabelHas.j1 kj2 t134 t135 t136 (!t141))) = some r := by rw [if_pos rfl] at H; exact H
              clear H
              have H := H1
              clear H1
              replace H := Option.bind_eq_some_iff.mp H
              obtain ⟨t141, A180, H⟩ := H
              replace H : (laws_FnLabelHas.j1 kj2 t134 t135 t136 (!t141)) = some r := H
              have A18 := Aside0.mk A180
              clear A180
              have H' := Aside0.mk H
              clear H
              go_wp2_with (first | ((with_reducible refine gate_callee (f := 21) rfl ?_); refine goesL_ (some 38) rfl rfl Try.func21 (by kernel_rfl) rfl #[.int .i64 t134] rfl (by (try simp only [List.map_toArray, List.map_cons, List.map_nil]); first | done | rfl | (simp only [List.length_drop, List.length_take]; rfl)) ?_; (with_reducible refine (impl_LabelOk.calls t134 true _ A16.out).mono ?_); rintro e w' ⟨rfl, ⟨nd, rfl⟩⟩; refine ⟨_, rfl, ?_⟩) | (go_at_call 21; (with_reducible refine (impl_LabelOk.calls t136 t141 _ A18.out).mono ?_); rintro e w' ⟨rfl, ⟨nd, rfl⟩⟩))
              go_meet
              case rel => exact ⟨_, (!t141), (by first | rfl | (simp; done) | (simp [*]; done)), H', ⟨by have := HJ2.out; first | omega | exact Nat.le_refl _⟩, ⟨by repeat (first | (with_reducible first | exact HB.out | apply below_alloc | apply pw_below_drewN | apply below_drew1) | exact HB.out)⟩⟩
            · replace c17 := Bool.eq_false_iff.mpr c17
              subst c17
              have H1 : (laws_FnLabelHas.j1 kj2 t134 t135 t136 true) = some r := by rw [if_neg (show ¬ (false = true) by decide)] at H; exact H
              clear H
              have H := H1
              clear H1
              have H' := Aside0.mk H
              clear H
              go_wp2_with (first | ((with_reducible refine gate_callee (f := 21) rfl ?_); refine goesL_ (some 38) rfl rfl Try.func21 (by kernel_rfl) rfl #[.int .i64 t134] rfl (by (try simp only [List.map_toArray, List.map_cons, List.map_nil]); first | done | rfl | (simp only [List.length_drop, List.length_take]; rfl)) ?_; (with_reducible refine (impl_LabelOk.calls t134 false _ A16.out).mono ?_); rintro e w' ⟨rfl, ⟨nd, rfl⟩⟩; refine ⟨_, rfl, ?_⟩))
              go_meet
              case rel => exact ⟨_, (true), (by first | rfl | (simp; done) | (simp [*]; done)), H', ⟨by have := HJ2.out; first | omega | exact Nat.le_refl _⟩, ⟨by repeat (first | (with_reducible first | exact HB.out | apply below_alloc | apply pw_below_drewN | apply below_drew1) | exact HB.out)⟩⟩
          case rest =>
            clear HC13
            try clear c1
            try clear c2
            try clear p2
            try clear c4
            try clear c4b0
            try clear c4b1
            try clear c5
            try clear c10
            try clear c10b0
            try clear c10b1
            try clear c10b2
            try clear c17
            try clear c18
            try clear p2
            obtain ⟨kq, x44_12, rfl, HA, HJ12, HB⟩ := hcut
            cases kq with
            | zero => exact absurd HA.out (by simp [laws_FnLabelHas.j1])
            | succ kj12 =>
              have H := HA.out
              clear HA
              simp only [laws_FnLabelHas.j1] at H
              by_cases c19 : x44_12 = true
              · subst c19
                have H1 : ((impl_LabelHas.f t134 t135).bind fun t142 => (if t142 = true then ((impl_LabelOk.f t134).bind fun t143 => (some t143)) else (some true))) = some r := by rw [if_pos rfl] at H; exact H
                clear H
                have H := H1
                clear H1
                replace H := Option.bind_eq_some_iff.mp H
                obtain ⟨t142, A200, H⟩ := H
                replace H : (if t142 = true then ((impl_LabelOk.f t134).bind fun t143 => (some t143)) else (some true)) = some r := H
                have A20 := Aside0.mk A200
                clear A200
                by_cases c21 : t142 = true
                · subst c21
                  have H1 : ((impl_LabelOk.f t134).bind fun t143 => (some t143)) = some r := by rw [if_pos rfl] at H; exact H
                  clear H
                  have H := H1
                  clear H1
                  replace H := Option.bind_eq_some_iff.mp H
                  obtain ⟨t143, A220, H⟩ := H
                  replace H : (some t143) = some r := H
                  have A22 := Aside0.mk A220
                  clear A220
                  obtain rfl := Option.some.inj H
                  go_wp2_with (first | ((with_reducible refine gate_callee (f := 19) rfl ?_); refine goesL_ (some 47) rfl rfl Try.func19 (by kernel_rfl) rfl #[.int .i64 t134, .int .i64 t135] rfl (by (try simp only [List.map_toArray, List.map_cons, List.map_nil]); first | done | rfl | (simp only [List.length_drop, List.length_take]; rfl)) ?_; (with_reducible refine (impl_LabelHas.calls t134 t135 true _ A20.out).mono ?_); rintro e w' ⟨rfl, ⟨nd, rfl⟩⟩; refine ⟨_, rfl, ?_⟩) | (go_at_call 21; (with_reducible refine (impl_LabelOk.calls t134 t143 _ A22.out).mono ?_); rintro e w' ⟨rfl, ⟨nd, rfl⟩⟩))
                  go_ret
                  exact ⟨by first | rfl | (simp [errW_none, errW_some] <;> rfl) | (simp [*, errW_none, errW_some] <;> rfl), by repeat (first | (with_reducible first | exact HB.out | apply below_alloc | apply pw_below_drewN | apply below_drew1) | exact HB.out)⟩
                · replace c21 := Bool.eq_false_iff.mpr c21
                  subst c21
                  have H1 : (some true) = some r := by rw [if_neg (show ¬ (false = true) by decide)] at H; exact H
                  clear H
                  have H := H1
                  clear H1
                  obtain rfl := Option.some.inj H
                  go_wp2_with (first | ((with_reducible refine gate_callee (f := 19) rfl ?_); refine goesL_ (some 47) rfl rfl Try.func19 (by kernel_rfl) rfl #[.int .i64 t134, .int .i64 t135] rfl (by (try simp only [List.map_toArray, List.map_cons, List.map_nil]); first | done | rfl | (simp only [List.length_drop, List.length_take]; rfl)) ?_; (with_reducible refine (impl_LabelHas.calls t134 t135 false _ A20.out).mono ?_); rintro e w' ⟨rfl, ⟨nd, rfl⟩⟩; refine ⟨_, rfl, ?_⟩))
                  go_ret
                  exact ⟨by first | rfl | (simp [errW_none, errW_some] <;> rfl) | (simp [*, errW_none, errW_some] <;> rfl), by repeat (first | (with_reducible first | exact HB.out | apply below_alloc | apply pw_below_drewN | apply below_drew1) | exact HB.out)⟩
              · replace c19 := Bool.eq_false_iff.mpr c19
                subst c19
                have H1 : (laws_FnLabelHas.l0 kj12 t134 t136 true true 0) = some r := by rw [if_neg (show ¬ (false = true) by decide)] at H; exact H
                clear H
                have H := H1
                clear H1
                have H' := Aside0.mk H
                clear H
                go_wp2
                go_loopg [9, 10, 11] kj12 (fun kq v9 v10 v11 w' => ∃ (x9_3 : Bool) (x10_3 : Bool) (x11_3 : Int), v9 = .bool x9_3 ∧ v10 = .bool x10_3 ∧ v11 = .int .i64 x11_3 ∧ Aside0 (laws_FnLabelHas.l0 kq t134 t136 x9_3 x10_3 x11_3 = some r) ∧ Aside0 (kq ≤ kj12) ∧ Aside0 (Below w.heap.size w w'))
                case atStart => exact ⟨(true), (true), (0), (by first | rfl | (simp; done) | (simp [*]; done)), (by first | rfl | (simp; done) | (simp [*]; done)), (by first | rfl | (simp; done) | (simp [*]; done)), H', ⟨Nat.le_refl _⟩, ⟨by repeat (first | (with_reducible first | exact HB.out | apply below_alloc | apply pw_below_drewN | apply below_drew1) | exact HB.out)⟩⟩
                case round =>
                  clear H'
                  try clear c1
                  try clear c2
                  try clear p2
                  try clear c4
                  try clear c4b0
                  try clear c4b1
                  try clear c5
                  try clear c10
                  try clear c10b0
                  try clear c10b1
                  try clear c10b2
                  try clear c17
                  try clear c18
                  try clear c19
                  try clear c20
                  try clear c21
                  try clear p2
                  obtain ⟨x9_3, x10_3, x11_3, rfl, rfl, rfl, HA, HK3, HB⟩ := hrel
                  cases gk with
                  | zero => exact absurd HA.out (by simp [laws_FnLabelHas.l0])
                  | succ k3 =>
                    have H := HA.out
                    clear HA
                    simp only [laws_FnLabelHas.l0] at H
                    by_cases c23 : x11_3 < 3
                    · rw [if_pos c23] at H
                      have c23b0 : decide (x11_3 < 3) = true := decide_eq_true c23
                      clear c23
                      by_cases c24 : x9_3 = true
                      · subst c24
                        have H1 : ((impl_LabelHas.f t134 x11_3).bind fun t147 => (if t147 = true then ((impl_LabelHas.f t136 x11_3).bind fun t148 => (if x10_3 = true then ((impl_LabelHas.f t134 x11_3).bind fun t149 => ((impl_LabelHas.f t136 x11_3).bind fun t150 => (laws_FnLabelHas.l0 k3 t134 t136 t148 (t149 == t150) (wrap64 (x11_3 + 1))))) else (laws_FnLabelHas.l0 k3 t134 t136 t148 false (wrap64 (x11_3 + 1))))) else (if x10_3 = true then ((impl_LabelHas.f t134 x11_3).bind fun t151 => ((impl_LabelHas.f t136 x11_3).bind fun t152 => (laws_FnLabelHas.l0 k3 t134 t136 true (t151 == t152) (wrap64 (x11_3 + 1))))) else (laws_FnLabelHas.l0 k3 t134 t136 true false (wrap64 (x11_3 + 1)))))) = some r := by rw [if_pos rfl] at H; exact H
                        clear H
                        have H := H1
                        clear H1
                        replace H := Option.bind_eq_some_iff.mp H
                        obtain ⟨t147, A250, H⟩ := H
                        replace H : (if t147 = true then ((impl_LabelHas.f t136 x11_3).bind fun t148 => (if x10_3 = true then ((impl_LabelHas.f t134 x11_3).bind fun t149 => ((impl_LabelHas.f t136 x11_3).bind fun t150 => (laws_FnLabelHas.l0 k3 t134 t136 t148 (t149 == t150) (wrap64 (x11_3 + 1))))) else (laws_FnLabelHas.l0 k3 t134 t136 t148 false (wrap64 (x11_3 + 1))))) else (if x10_3 = true then ((impl_LabelHas.f t134 x11_3).bind fun t151 => ((impl_LabelHas.f t136 x11_3).bind fun t152 => (laws_FnLabelHas.l0 k3 t134 t136 true (t151 == t152) (wrap64 (x11_3 + 1))))) else (laws_FnLabelHas.l0 k3 t134 t136 true false (wrap64 (x11_3 + 1))))) = some r := H
                        have A25 := Aside0.mk A250
                        clear A250
                        by_cases c26 : t147 = true
                        · subst c26
                          have H1 : ((impl_LabelHas.f t136 x11_3).bind fun t148 => (if x10_3 = true then ((impl_LabelHas.f t134 x11_3).bind fun t149 => ((impl_LabelHas.f t136 x11_3).bind fun t150 => (laws_FnLabelHas.l0 k3 t134 t136 t148 (t149 == t150) (wrap64 (x11_3 + 1))))) else (laws_FnLabelHas.l0 k3 t134 t136 t148 false (wrap64 (x11_3 + 1))))) = some r := by rw [if_pos rfl] at H; exact H
                          clear H
                          have H := H1
                          clear H1
                          replace H := Option.bind_eq_some_iff.mp H
                          obtain ⟨t148, A270, H⟩ := H
                          replace H : (if x10_3 = true then ((impl_LabelHas.f t134 x11_3).bind fun t149 => ((impl_LabelHas.f t136 x11_3).bind fun t150 => (laws_FnLabelHas.l0 k3 t134 t136 t148 (t149 == t150) (wrap64 (x11_3 + 1))))) else (laws_FnLabelHas.l0 k3 t134 t136 t148 false (wrap64 (x11_3 + 1)))) = some r := H
                          have A27 := Aside0.mk A270
                          clear A270
                          by_cases c28 : x10_3 = true
                          · subst c28
                            have H1 : ((impl_LabelHas.f t134 x11_3).bind fun t149 => ((impl_LabelHas.f t136 x11_3).bind fun t150 => (laws_FnLabelHas.l0 k3 t134 t136 t148 (t149 == t150) (wrap64 (x11_3 + 1))))) = some r := by rw [if_pos rfl] at H; exact H
                            clear H
                            have H := H1
                            clear H1
                            replace H := Option.bind_eq_some_iff.mp H
                            obtain ⟨t149, A290, H⟩ := H
                            replace H : ((impl_LabelHas.f t136 x11_3).bind fun t150 => (laws_FnLabelHas.l0 k3 t134 t136 t148 (t149 == t150) (wrap64 (x11_3 + 1)))) = some r := H
                            have A29 := Aside0.mk A290
                            have E29 := Aside0.mk (Option.some.inj (A290.symm.trans A25.out) : t149 = true)
                            clear A290
                            replace H := Option.bind_eq_some_iff.mp H
                            obtain ⟨t150, A300, H⟩ := H
                            replace H : (laws_FnLabelHas.l0 k3 t134 t136 t148 (t149 == t150) (wrap64 (x11_3 + 1))) = some r := H
                            have A30 := Aside0.mk A300
                            have E30 := Aside0.mk (Option.some.inj (A300.symm.trans A27.out) : t150 = t148)
                            clear A300
                            have H' := Aside0.mk H
                            clear H
                            go_wp2_with (first | (go_at_call 19; (with_reducible refine (impl_LabelHas.calls t134 x11_3 true _ A25.out).mono ?_); rintro e w' ⟨rfl, ⟨nd, rfl⟩⟩) | (go_at_call 19; (with_reducible refine (impl_LabelHas.calls t136 x11_3 t148 _ A27.out).mono ?_); rintro e w' ⟨rfl, ⟨nd, rfl⟩⟩) | (go_at_call 19; (with_reducible refine (impl_LabelHas.calls t134 x11_3 t149 _ A29.out).mono ?_); rintro e w' ⟨rfl, ⟨nd, rfl⟩⟩) | (go_at_call 19; (with_reducible refine (impl_LabelHas.calls t136 x11_3 t150 _ A30.out).mono ?_); rintro e w' ⟨rfl, ⟨nd, rfl⟩⟩))
                            go_roundg k3
                            case measure => have := HJ2.out; have := HJ12.out; have := HK3.out; omega
                            case rel => exact ⟨(t148), ((t149 == t150)), (wrap64 (x11_3 + 1)), (by first | rfl | (simp; done) | (simp [*]; done)), (by first | rfl | (rw [E29.out, E30.out]; done) | (rw [E29.out, E30.out]; simp; done) | (simp; done) | (simp [*]; done)), (by first | rfl | (simp; done) | (simp [*]; done)), H', ⟨by have := HJ2.out; have := HJ12.out; have := HK3.out; omega⟩, ⟨by repeat (first | (with_reducible first | exact HB.out | apply below_alloc | apply pw_below_drewN | apply below_drew1) | exact HB.out)⟩⟩
                          · replace c28 := Bool.eq_false_iff.mpr c28
                            subst c28
                            have H1 : (laws_FnLabelHas.l0 k3 t134 t136 t148 false (wrap64 (x11_3 + 1))) = some r := by rw [if_neg (show ¬ (false = true) by decide)] at H; exact H
                            clear H
                            have H := H1
                            clear H1
                            have H' := Aside0.mk H
                            clear H
                            go_wp2_with (first | (go_at_call 19; (with_reducible refine (impl_LabelHas.calls t134 x11_3 true _ A25.out).mono ?_); rintro e w' ⟨rfl, ⟨nd, rfl⟩⟩) | (go_at_call 19; (with_reducible refine (impl_LabelHas.calls t136 x11_3 t148 _ A27.out).mono ?_); rintro e w' ⟨rfl, ⟨nd, rfl⟩⟩))
                            go_roundg k3
                            case measure => have := HJ2.out; have := HJ12.out; have := HK3.out; omega
                            case rel => exact ⟨(t148), (false), (wrap64 (x11_3 + 1)), (by first | rfl | (simp; done) | (simp [*]; done)), (by first | rfl | (simp; done) | (simp [*]; done)), (by first | rfl | (simp; done) | (simp [*]; done)), H', ⟨by have := HJ2.out; have := HJ12.out; have := HK3.out; omega⟩, ⟨by repeat (first | (with_reducible first | exact HB.out | apply below_alloc | apply pw_below_drewN | apply below_drew1) | exact HB.out)⟩⟩
                        · replace c26 := Bool.eq_false_iff.mpr c26
                          subst c26
                          have H1 : (if x10_3 = true then ((impl_LabelHas.f t134 x11_3).bind fun t151 => ((impl_LabelHas.f t136 x11_3).bind fun t152 => (laws_FnLabelHas.l0 k3 t134 t136 true (t151 == t152) (wrap64 (x11_3 + 1))))) else (laws_FnLabelHas.l0 k3 t134 t136 true false (wrap64 (x11_3 + 1)))) = some r := by rw [if_neg (show ¬ (false = true) by decide)] at H; exact H
                          clear H
                          have H := H1
                          clear H1
                          by_cases c31 : x10_3 = true
                          · subst c31
                            have H1 : ((impl_LabelHas.f t134 x11_3).bind fun t151 => ((impl_LabelHas.f t136 x11_3).bind fun t152 => (laws_FnLabelHas.l0 k3 t134 t136 true (t151 == t152) (wrap64 (x11_3 + 1))))) = some r := by rw [if_pos rfl] at H; exact H
                            clear H
                            have H := H1
                            clear H1
                            replace H := Option.bind_eq_some_iff.mp H
                            obtain ⟨t151, A320, H⟩ := H
                            replace H : ((impl_LabelHas.f t136 x11_3).bind fun t152 => (laws_FnLabelHas.l0 k3 t134 t136 true (t151 == t152) (wrap64 (x11_3 + 1)))) = some r := H
                            have A32 := Aside0.mk A320
                            have E32 := Aside0.mk (Option.some.inj (A320.symm.trans A25.out) : t151 = false)
                            clear A320
                            replace H := Option.bind_eq_some_iff.mp H
                            obtain ⟨t152, A330, H⟩ := H
                            replace H : (laws_FnLabelHas.l0 k3 t134 t136 true (t151 == t152) (wrap64 (x11_3 + 1))) = some r := H
                            have A33 := Aside0.mk A330
                            clear A330
                            have H' := Aside0.mk H
                            clear H
                            go_wp2_with (first | (go_at_call 19; (with_reducible refine (impl_LabelHas.calls t134 x11_3 false _ A25.out).mono ?_); rintro e w' ⟨rfl, ⟨nd, rfl⟩⟩) | (go_at_call 19; (with_reducible refine (impl_LabelHas.calls t134 x11_3 t151 _ A32.out).mono ?_); rintro e w' ⟨rfl, ⟨nd, rfl⟩⟩) | (go_at_call 19; (with_reducible refine (impl_LabelHas.calls t136 x11_3 t152 _ A33.out).mono ?_); rintro e w' ⟨rfl, ⟨nd, rfl⟩⟩))
                            go_roundg k3
                            case measure => have := HJ2.out; have := HJ12.out; have := HK3.out; omega
                            case rel => exact ⟨(true), ((t151 == t152)), (wrap64 (x11_3 + 1)), (by first | rfl | (simp; done) | (simp [*]; done)), (by first | rfl | (rw [E32.out]; cases t152 <;> rfl) | (rw [E32.out]; simp; done) | (simp; done) | (simp [*]; done)), (by first | rfl | (simp; done) | (simp [*]; done)), H', ⟨by have := HJ2.out; have := HJ12.out; have := HK3.out; omega⟩, ⟨by repeat (first | (with_reducible first | exact HB.out | apply below_alloc | apply pw_below_drewN | apply below_drew1) | exact HB.out)⟩⟩
                          · replace c31 := Bool.eq_false_iff.mpr c31
                            subst c31
                            have H1 : (laws_FnLabelHas.l0 k3 t134 t136 true false (wrap64 (x11_3 + 1))) = some r := by rw [if_neg (show ¬ (false = true) by decide)] at H; exact H
                            clear H
                            have H := H1
                            clear H1
                            have H' := Aside0.mk H
                            clear H
                            go_wp2_with (first | (go_at_call 19; (with_reducible refine (impl_LabelHas.calls t134 x11_3 false _ A25.out).mono ?_); rintro e w' ⟨rfl, ⟨nd, rfl⟩⟩))
                            go_roundg k3
                            case measure => have := HJ2.out; have := HJ12.out; have := HK3.out; omega
                            case rel => exact ⟨(true), (false), (wrap64 (x11_3 + 1)), (by first | rfl | (simp; done) | (simp [*]; done)), (by first | rfl | (simp; done) | (simp [*]; done)), (by first | rfl | (simp; done) | (simp [*]; done)), H', ⟨by have := HJ2.out; have := HJ12.out; have := HK3.out; omega⟩, ⟨by repeat (first | (with_reducible first | exact HB.out | apply below_alloc | apply pw_below_drewN | apply below_drew1) | exact HB.out)⟩⟩
                      · replace c24 := Bool.eq_false_iff.mpr c24
                        subst c24
                        have H1 : (if x10_3 = true then ((impl_LabelHas.f t134 x11_3).bind fun t153 => ((impl_LabelHas.f t136 x11_3).bind fun t154 => (laws_FnLabelHas.l0 k3 t134 t136 false (t153 == t154) (wrap64 (x11_3 + 1))))) else (laws_FnLabelHas.l0 k3 t134 t136 false false (wrap64 (x11_3 + 1)))) = some r := by rw [if_neg (show ¬ (false = true) by decide)] at H; exact H
                        clear H
                        have H := H1
                        clear H1
                        by_cases c34 : x10_3 = true
                        · subst c34
                          have H1 : ((impl_LabelHas.f t134 x11_3).bind fun t153 => ((impl_LabelHas.f t136 x11_3).bind fun t154 => (laws_FnLabelHas.l0 k3 t134 t136 false (t153 == t154) (wrap64 (x11_3 + 1))))) = some r := by rw [if_pos rfl] at H; exact H
                          clear H
                          have H := H1
                          clear H1
                          replace H := Option.bind_eq_some_iff.mp H
                          obtain ⟨t153, A350, H⟩ := H
                          replace H : ((impl_LabelHas.f t136 x11_3).bind fun t154 => (laws_FnLabelHas.l0 k3 t134 t136 false (t153 == t154) (wrap64 (x11_3 + 1)))) = some r := H
                          have A35 := Aside0.mk A350
                          clear A350
                          replace H := Option.bind_eq_some_iff.mp H
                          obtain ⟨t154, A360, H⟩ := H
                          replace H : (laws_FnLabelHas.l0 k3 t134 t136 false (t153 == t154) (wrap64 (x11_3 + 1))) = some r := H
                          have A36 := Aside0.mk A360
                          clear A360
                          have H' := Aside0.mk H
                          clear H
                          go_wp2_with (first | (go_at_call 19; (with_reducible refine (impl_LabelHas.calls t134 x11_3 t153 _ A35.out).mono ?_); rintro e w' ⟨rfl, ⟨nd, rfl⟩⟩) | (go_at_call 19; (with_reducible refine (impl_LabelHas.calls t136 x11_3 t154 _ A36.out).mono ?_); rintro e w' ⟨rfl, ⟨nd, rfl⟩⟩))
                          go_roundg k3
                          case measure => have := HJ2.out; have := HJ12.out; have := HK3.out; omega
                          case rel => exact ⟨(false), ((t153 == t154)), (wrap64 (x11_3 + 1)), (by first | rfl | (simp; done) | (simp [*]; done)), (by first | rfl | (simp; done) | (simp [*]; done)), (by first | rfl | (simp; done) | (simp [*]; done)), H', ⟨by have := HJ2.out; have := HJ12.out; have := HK3.out; omega⟩, ⟨by repeat (first | (with_reducible first | exact HB.out | apply below_alloc | apply pw_below_drewN | apply below_drew1) | exact HB.out)⟩⟩
                        · replace c34 := Bool.eq_false_iff.mpr c34
                          subst c34
                          have H1 : (laws_FnLabelHas.l0 k3 t134 t136 false false (wrap64 (x11_3 + 1))) = some r := by rw [if_neg (show ¬ (false = true) by decide)] at H; exact H
                          clear H
                          have H := H1
                          clear H1
                          have H' := Aside0.mk H
                          clear H
                          go_wp2
                          go_roundg k3
                          case measure => have := HJ2.out; have := HJ12.out; have := HK3.out; omega
                          case rel => exact ⟨(false), (false), (wrap64 (x11_3 + 1)), (by first | rfl | (simp; done) | (simp [*]; done)), (by first | rfl | (simp; done) | (simp [*]; done)), (by first | rfl | (simp; done) | (simp [*]; done)), H', ⟨by have := HJ2.out; have := HJ12.out; have := HK3.out; omega⟩, ⟨by repeat (first | (with_reducible first | exact HB.out | apply below_alloc | apply pw_below_drewN | apply below_drew1) | exact HB.out)⟩⟩
                    · rw [if_neg c23] at H
                      have c23b0 : decide (x11_3 < 3) = false := decide_eq_false c23
                      clear c23
                      replace H := Option.bind_eq_some_iff.mp H
                      obtain ⟨t144, A370, H⟩ := H
                      replace H : (if (x9_3 == t144) = true then (if (x10_3 == (t134 == t136)) = true then ((impl_LabelHas.f t134 3).bind fun t145 => (if t145 = true then (some false) else ((impl_LabelHas.f t134 (-1)).bind fun t146 => (some (!t146))))) else (some false)) else (some false)) = some r := H
                      have A37 := Aside0.mk A370
                      clear A370
                      by_cases c38 : (x9_3 == t144) = true
                      · rw [if_pos c38] at H
                        have c38b0 : (x9_3 == t144) = true := c38
                        (try (have c38b1 : decide (x9_3 = t144) = true := by simpa using c38))
                        (try (have c38b2 : (x9_3 == t144) = true := by simpa using c38))
                        clear c38
                        by_cases c39 : (x10_3 == (t134 == t136)) = true
                        · rw [if_pos c39] at H
                          have c39b0 : (x10_3 == (t134 == t136)) = true := c39
                          (try (have c39b1 : decide (x10_3 = (t134 == t136)) = true := by simpa using c39))
                          (try (have c39b2 : (x10_3 == (t134 == t136)) = true := by simpa using c39))
                          clear c39
                          replace H := Option.bind_eq_some_iff.mp H
                          obtain ⟨t145, A400, H⟩ := H
                          replace H : (if t145 = true then (some false) else ((impl_LabelHas.f t134 (-1)).bind fun t146 => (some (!t146)))) = some r := H
                          have A40 := Aside0.mk A400
                          clear A400
                          by_cases c41 : t145 = true
                          · subst c41
                            have H1 : (some false) = some r := by rw [if_pos rfl] at H; exact H
                            clear H
                            have H := H1
                            clear H1
                            obtain rfl := Option.some.inj H
                            go_wp2_with (first | ((with_reducible refine gate_callee (f := 22) rfl ?_); refine goesL_ (some 82) rfl rfl Try.func22 (by kernel_rfl) rfl #[.int .i64 t134, .int .i64 t136] rfl (by (try simp only [List.map_toArray, List.map_cons, List.map_nil]); first | done | rfl | (simp only [List.length_drop, List.length_take]; rfl)) ?_; (with_reducible refine (impl_LabelUnder.calls t134 t136 t144 _ A37.out).mono ?_); rintro e w' ⟨rfl, ⟨nd, rfl⟩⟩; refine ⟨_, rfl, ?_⟩) | (go_at_call 19; (with_reducible refine (impl_LabelHas.calls t134 3 true _ A40.out).mono ?_); rintro e w' ⟨rfl, ⟨nd, rfl⟩⟩))
                            go_ret
                            exact ⟨by first | rfl | (simp [errW_none, errW_some] <;> rfl) | (simp [*, errW_none, errW_some] <;> rfl), by repeat (first | (with_reducible first | exact HB.out | apply below_alloc | apply pw_below_drewN | apply below_drew1) | exact HB.out)⟩
                          · replace c41 := Bool.eq_false_iff.mpr c41
                            subst c41
                            have H1 : ((impl_LabelHas.f t134 (-1)).bind fun t146 => (some (!t146))) = some r := by rw [if_neg (show ¬ (false = true) by decide)] at H; exact H
                            clear H
                            have H := H1
                            clear H1
                            replace H := Option.bind_eq_some_iff.mp H
                            obtain ⟨t146, A420, H⟩ := H
                            replace H : (some (!t146)) = some r := H
                            have A42 := Aside0.mk A420
                            clear A420
                            obtain rfl := Option.some.inj H
                            go_wp2_with (first | ((with_reducible refine gate_callee (f := 22) rfl ?_); refine goesL_ (some 82) rfl rfl Try.func22 (by kernel_rfl) rfl #[.int .i64 t134, .int .i64 t136] rfl (by (try simp only [List.map_toArray, List.map_cons, List.map_nil]); first | done | rfl | (simp only [List.length_drop, List.length_take]; rfl)) ?_; (with_reducible refine (impl_LabelUnder.calls t134 t136 t144 _ A37.out).mono ?_); rintro e w' ⟨rfl, ⟨nd, rfl⟩⟩; refine ⟨_, rfl, ?_⟩) | (go_at_call 19; (with_reducible refine (impl_LabelHas.calls t134 3 false _ A40.out).mono ?_); rintro e w' ⟨rfl, ⟨nd, rfl⟩⟩) | (go_at_call 19; (with_reducible refine (impl_LabelHas.calls t134 (-1) t146 _ A42.out).mono ?_); rintro e w' ⟨rfl, ⟨nd, rfl⟩⟩))
                            go_ret
                            exact ⟨by first | rfl | (simp [errW_none, errW_some] <;> rfl) | (simp [*, errW_none, errW_some] <;> rfl), by repeat (first | (with_reducible first | exact HB.out | apply below_alloc | apply pw_below_drewN | apply below_drew1) | exact HB.out)⟩
                        · rw [if_neg c39] at H
                          have c39b0 : (x10_3 == (t134 == t136)) = false := by simpa using c39
                          (try (have c39b1 : decide (x10_3 = (t134 == t136)) = false := by simpa using c39))
                          (try (have c39b2 : (x10_3 == (t134 == t136)) = false := by simpa using c39))
                          (try (have c39b3 : ¬ (x10_3 = (t134 == t136)) := by simpa using c39))
                          clear c39
                          obtain rfl := Option.some.inj H
                          go_wp2_with (first | ((with_reducible refine gate_callee (f := 22) rfl ?_); refine goesL_ (some 82) rfl rfl Try.func22 (by kernel_rfl) rfl #[.int .i64 t134, .int .i64 t136] rfl (by (try simp only [List.map_toArray, List.map_cons, List.map_nil]); first | done | rfl | (simp only [List.length_drop, List.length_take]; rfl)) ?_; (with_reducible refine (impl_LabelUnder.calls t134 t136 t144 _ A37.out).mono ?_); rintro e w' ⟨rfl, ⟨nd, rfl⟩⟩; refine ⟨_, rfl, ?_⟩))
                          go_ret
                          exact ⟨by first | rfl | (simp [errW_none, errW_some] <;> rfl) | (simp [*, errW_none, errW_some] <;> rfl), by repeat (first | (with_reducible first | exact HB.out | apply below_alloc | apply pw_below_drewN | apply below_drew1) | exact HB.out)⟩
                      · rw [if_neg c38] at H
                        have c38b0 : (x9_3 == t144) = false := by simpa using c38
                        (try (have c38b1 : decide (x9_3 = t144) = false := by simpa using c38))
                        (try (have c38b2 : (x9_3 == t144) = false := by simpa using c38))
                        (try (have c38b3 : ¬ (x9_3 = t144) := by simpa using c38))
                        clear c38
                        obtain rfl := Option.some.inj H
                        go_wp2_with (first | ((with_reducible refine gate_callee (f := 22) rfl ?_); refine goesL_ (some 82) rfl rfl Try.func22 (by kernel_rfl) rfl #[.int .i64 t134, .int .i64 t136] rfl (by (try simp only [List.map_toArray, List.map_cons, List.map_nil]); first | done | rfl | (simp only [List.length_drop, List.length_take]; rfl)) ?_; (with_reducible refine (impl_LabelUnder.calls t134 t136 t144 _ A37.out).mono ?_); rintro e w' ⟨rfl, ⟨nd, rfl⟩⟩; refine ⟨_, rfl, ?_⟩))
                        go_ret
                        exact ⟨by first | rfl | (simp [errW_none, errW_some] <;> rfl) | (simp [*, errW_none, errW_some] <;> rfl), by repeat (first | (with_reducible first | exact HB.out | apply below_alloc | apply pw_below_drewN | apply below_drew1) | exact HB.out)⟩

/-- THE ONE PURE STATEMENT of laws_FnLabelHas: yours. -/
def laws_FnLabelHas.Pure : Prop := ∀ (l0 : List Int) (l1 : List Int), l0.length ≤ maxLen → l0.length * 1 ≤ 140737488351232 → (∀ x ∈ l0, (Lit.int .u8 x).wf = true) → l1.length ≤ maxLen → l1.length * 1 ≤ 140737488351232 → (∀ x ∈ l1, (Lit.int .u8 x).wf = true) → ∃ k, laws_FnLabelHas.f k l0 l1 = some true
theorem laws_FnLabelHas.walk (P : laws_FnLabelHas.Pure) (a0 : Option Addr) (len0 cap0 : Nat) (z0 : List Int) (a1 : Option Addr) (len1 cap1 : Nat) (z1 : List Int) (w : World) (w0 : (a0 = none ∧ len0 = 0 ∧ cap0 = 0 ∧ z0 = []) ∨ ∃ x, a0 = some x ∧ len0 ≤ cap0 ∧ cap0 ≤ maxLen ∧ z0.length = cap0 ∧ (∀ i, i < z0.length → w.cell? (x.add i) = some (.int .u8 (z0.getD i 0))) ∧ ∀ n ∈ z0, (Lit.int .u8 n).wf = true) (y0 : len0 * 1 ≤ 140737488351232) (w1 : (a1 = none ∧ len1 = 0 ∧ cap1 = 0 ∧ z1 = []) ∨ ∃ x, a1 = some x ∧ len1 ≤ cap1 ∧ cap1 ≤ maxLen ∧ z1.length = cap1 ∧ (∀ i, i < z1.length → w.cell? (x.add i) = some (.int .u8 (z1.getD i 0))) ∧ ∀ n ∈ z1, (Lit.int .u8 n).wf = true) (y1 : len1 * 1 ≤ 140737488351232) :
    Calls Try.prog 4 #[.slice a0 len0 cap0, .slice a1 len1 cap1] w fun e w' => e = .returned (.bool true) ∧ Below w.heap.size w w' := by
  obtain ⟨l0, rfl, hr0, hm0, hw0, hc0⟩ := ReadsInt.ofRowC w0
  obtain ⟨l1, rfl, hr1, hm1, hw1, hc1⟩ := ReadsInt.ofRowC w1
  obtain ⟨k, h⟩ := P l0 l1 hm0 y0 hw0 hm1 y1 hw1
  refine (laws_FnLabelHas.calls k _ _ l0 _ _ l1 true w (Kd.C_of_reads (d := (0 : Int)) (h1 := fun _ => rfl) hr0) hc0 (Kd.C_of_reads (d := (0 : Int)) (h1 := fun _ => rfl) hr1) hc1 h).mono ?_
  rintro e w' ⟨rfl, hd⟩
  exact ⟨rfl, hd⟩

end Go.Proofs.Yteilpkckaecomaa.PFnLabelHas
