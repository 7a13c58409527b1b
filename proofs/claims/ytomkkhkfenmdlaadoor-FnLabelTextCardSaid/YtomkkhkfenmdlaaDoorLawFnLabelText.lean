/- The row of FnLabelText: the law returns true at every input, and each argument reads as it did. Of the listed variable: what the program's text lays there. And the tied card. -/
import Derived.Test.YtomkkhkfenmdlaaDoorRows
import Derived.Test.YtomkkhkfenmdlaaDoorQFnLabelTextOpen
import Derived.Test.YtomkkhkfenmdlaaDoorPureFnLabelText
import Derived.WalkKit
import Derived.ProofKit
import Derived.OpenShut
import Derived.ShutString
import Derived.ChangeOld
import Derived.Below
import Derived.SizedLaws
import Derived.Deep.Slices
import Derived.Deep.Strs
import Derived.Lib.SmallJoins
import Derived.Carry
import Derived.LaidMore
import Derived.LaidLaws
import Derived.LaidHandle
import Derived.MakeChecks
import Derived.ChangeVars
import Derived.Stop.Joined
import Derived.SevenTiedAt
import Derived.Test.YtomkkhkfenmdlaaDoorCards
import Derived.Test.YtomkkhkfenmdlaaDoorTie
namespace Go.Proofs.YtomkkhkfenmdlaaDoor.fnLabelText
open Go.Proofs.YtomkkhkfenmdlaaDoorW.PrintWords Go.Proofs.YtomkkhkfenmdlaaDoorW.PrintLast
open Go.ChangeShapes Go.WideShapes Go.ChangeAt Go.RowKit
open Go.ChangeMaps (open_string shut_string)
open Go.Proofs.YtomkkhkfenmdlaaDoor.QFnLabelText
set_option linter.unusedVariables false
theorem own : ownKnob Tryd.prog.godebug = none := by kernel_rfl
theorem laidOut : laidOutB Tryd.prog = true := by kernel_rfl
/-- What the program's text lays in the listed variable. -/
def laid : List (String × DataW Unit) := [("loop.example/hagioscope/impl.labelTexts", Rows.laid_loop_example_hagioscope_impl_labelTexts)]
set_option maxRecDepth 100000 in
theorem door_met (os : Os) (args : Array Value) : laidMetH Tryd.prog laid ((World.doorLaid Tryd.prog 200 os).forCall (fun _ _ => 0) ⟨#[], args, []⟩).memory :=
  laidMetH_of_parts3 (fuel := 8) (laidMet_of_run' 8 (by kernel_rfl) (by kernel_rfl)) (by kernel_rfl) (by kernel_rfl)
theorem gName : Tryd.prog.globalNamed "loop.example/hagioscope/impl.labelTexts" = some 0 := by kernel_rfl
theorem gType : (Tryd.prog.globals[0]?).map (·.type) = some 32 := by kernel_rfl
theorem lt_of_laid {W : World} (h : laidMetH Tryd.prog laid W) : Lt W := by
  rw [MakeChecks.laidMetH_plain _ _ _ (by kernel_rfl)] at h
  obtain ⟨ps, ⟨g0, t0, cs0, f0, p0, q0, hg0, ht0, hv0, hd0, _, _⟩, _, _⟩ := h
  obtain rfl := Option.some.inj (gName.symm.trans hg0)
  obtain rfl := Option.some.inj (gType.symm.trans ht0)
  have c9 : Tryd.prog.cellsOf 9 = 1 := by kernel_rfl
  obtain ⟨xs, m1, rfl, hx1, hlen, hn8, hel⟩ := DataW.trod_array Tryd.underlying32 hd0
  simp only [Prod.mk.injEq, DataW.agg.injEq, Rows.laid_loop_example_hagioscope_impl_labelTexts] at hx1
  have key : ∀ (i : Nat) (s : ByteArray), i < 8 → (xs.map (·.1))[i]? = some (.lit (.string s.data.toList)) → W.cell? ⟨0, i, none⟩ = some (.string s) := by
    intro i s hi hs
    have h0 := hel i hi
    rw [List.getElem?_map] at hs
    obtain ⟨x, hx, hx2⟩ := Option.map_eq_some_iff.1 hs
    rw [hx] at h0
    obtain ⟨s', e1, e2, _⟩ := DataW.trod_string Tryd.underlying9 h0
    rw [e2] at hx2
    have hss : s'.data.toList = s.data.toList := by simpa using hx2
    obtain rfl : s' = s := ByteArray.ext (Array.toList_inj.1 hss)
    rw [World.var?_cell hg0 hv0 i]
    rw [c9, Nat.mul_one] at e1
    have e3 := congrArg (fun l => l[0]?) e1
    simpa [List.getElem?_take] using e3
  rw [← hx1.1] at key
  have at_ : ∀ i : Nat, i < 8 → W.cell? ⟨0, i, none⟩ = some (.string (tx i)) := fun i hi => by
    match i, hi with
    | 0, _ => exact key 0 _ (by decide) rfl
    | 1, _ => exact key 1 _ (by decide) rfl
    | 2, _ => exact key 2 _ (by decide) rfl
    | 3, _ => exact key 3 _ (by decide) rfl
    | 4, _ => exact key 4 _ (by decide) rfl
    | 5, _ => exact key 5 _ (by decide) rfl
    | 6, _ => exact key 6 _ (by decide) rfl
    | 7, _ => exact key 7 _ (by decide) rfl
    | i + 8, hi => omega
  refine ⟨at_, ?_⟩
  rcases Nat.eq_zero_or_pos W.heap.size with h | h
  · have := at_ 0 (by decide)
    simp [World.cell?, h] at this
  · exact h
theorem rec32 : Tryd.prog.readableRec 32 = true ∧ 32 < Tryd.prog.types.size := ⟨by kernel_rfl, of_decide_eq_true (by kernel_rfl)⟩
/-- The listed variable reads behind the call as it read before. -/
theorem var_stays {H : Type} {enc : TypeId × Value → H} {W W' : World} (hb : Below W.heap.size W W') {gs : List (DataW H)} {ps : List MemPlace} (hV : DataW.TrodVars enc Tryd.prog W (fun _ => true) ["loop.example/hagioscope/impl.labelTexts"] gs ps) :
    DataW.TrodVars enc Tryd.prog W' (fun b => decide (b < W.heap.size)) ["loop.example/hagioscope/impl.labelTexts"] gs ps := by
  have hlt := hV.lt
  obtain ⟨g, t, cs, fuel, d, p, rfl, h1, h2, h3, h4, rfl⟩ := trodVars_one hV
  obtain rfl := Option.some.inj (gName.symm.trans h1)
  obtain rfl := Option.some.inj (gType.symm.trans h2)
  have h3' : W'.var? Tryd.prog "loop.example/hagioscope/impl.labelTexts" = some cs := by
    have h5 := h3
    unfold World.var? at h5 ⊢
    rw [h1] at h5 ⊢
    simp only [Option.bind_some] at h5 ⊢
    have hg : 0 < W.heap.size := by
      rcases Nat.eq_zero_or_pos W.heap.size with h | h
      · simp [h] at h5
      · exact h
    rw [hb.block 0 hg]; exact h5
  have hp : ∀ x ∈ p, x.block < W.heap.size := fun x hx => hlt x (by simp [hx])
  exact trodVars_mk1 h1 h2 h3' (DataW.trod_stays (Go.kids_book laidOut rec32.1) (Go.book_sized rec32.1) (fun h => by cases h) ⟨rec32.2, Go.book_self 32⟩ h4 (fun x hx => hb.same (hp x hx)) (fun x hx => by simpa using hp x hx))
set_option maxRecDepth 100000 in
theorem lifted (os : Os) (started : os.Started) (H : Type) (enc : TypeId × Value → H) :
    ReturnsInHanded {} Tryd.checked os 5 .any (fun w args => (Rows.fnLabelTextSpec.pre enc Tryd.prog Tryd.f5 [] false w args ∧ laidMetH Tryd.prog laid w) ∧ sizedMet enc Tryd.prog Tryd.f5 (OpenSpec.ofChange Rows.fnLabelTextSpec) false w args) (Rows.fnLabelTextSpec.post enc Tryd.prog Tryd.f5 false true false false) := by
  refine returnsInHanded_of_change_and (C := Tryd.checked) (X := fun w _ => laidMetH Tryd.prog laid w) (fun _ _ _ hh h => h.of_heap hh) own started (by kernel_rfl) Tryd.func5
    (ChangeSpec.witness_shaped (enc := enc) (C := Tryd.checked) (os := os) (X := fun w _ => laidMetH Tryd.prog laid w) false (World.doorLaid Tryd.prog 200 os) #[.slice none 0 0, .slice none 0 0] 8 rfl (World.shaped_of_RefB (by kernel_rfl) (by kernel_rfl)) (by kernel_rfl) (by kernel_rfl) (by kernel_rfl) (door_met os _)) ?_
  intro W base args ds gs before hval0 hW hcnd hsz0 hL _
  have hsz : (DataW.weightsEach Tryd.prog (Tryd.f5.params.toList ++ Rows.fnLabelTextSpec.plain.varTypes Tryd.prog) (ds ++ gs)).all (· ≤ reachBytes) = true := hsz0
  have hval : ∀ (j : Nat) t v, Tryd.f5.params[j]? = some t → args[j]? = some v → Value.okWide Tryd.prog W .any base t v := hval0
  have hW' := hW
  obtain ⟨p, q, hA0, hV, rfl, hfz, hnd⟩ := hW
  have hA : DataW.TrodAll enc Tryd.prog W 0 (fun _ => true) true Tryd.f5.params.toList args.toList ds p := hA0
  rw [Tryd.params5] at hA hval hsz
  obtain ⟨v0, vs0, d0, ds0, p0, q0, hargs, rfl, rfl, h0, r0⟩ := trodAll_cons hA
  obtain ⟨v1, vs1, d1, ds1, p1, q1, rfl, rfl, rfl, h1, r1⟩ := trodAll_cons r0
  obtain ⟨rfl, rfl, rfl⟩ := trodAll_nil r1
  obtain rfl : args = #[v0, v1] := by cases args; simp_all
  have hV0 := hV
  obtain ⟨gN, tN, cN, fN, dV, pV, rfl, _, _, _, _, _⟩ := trodVars_one hV
  have k0 := h0
  have lt0 : ∀ x ∈ p0, x.block < W.heap.size := by obtain ⟨m, hm⟩ := k0; exact DataW.trod_lt m _ _ _ hm
  obtain ⟨A0, n0, c0, rfl⟩ := okWide_slice Tryd.underlying27 (hval 0 27 v0 rfl rfl)
  obtain ⟨fuel0, hf0⟩ := h0
  simp only [Value.cells] at hf0
  obtain ⟨l0, hl0, hc0, hm0, hw0, hC0⟩ := open_rowC (0 : Int) (Kd.int .u8) (fun x => (Lit.int .u8 x).wf = true) Tryd.underlying27 (by kernel_rfl) (fun m cs z hz => by obtain ⟨x, rfl, _, wx⟩ := DataW.trod_int Tryd.underlying5 hz; exact ⟨x, wx, rfl⟩) hf0
  subst hl0
  have k1 := h1
  have lt1 : ∀ x ∈ p1, x.block < W.heap.size := by obtain ⟨m, hm⟩ := k1; exact DataW.trod_lt m _ _ _ hm
  obtain ⟨A1, n1, c1, rfl⟩ := okWide_slice Tryd.underlying27 (hval 1 27 v1 rfl rfl)
  obtain ⟨fuel1, hf1⟩ := h1
  simp only [Value.cells] at hf1
  obtain ⟨l1, hl1, hc1, hm1, hw1, hC1⟩ := open_rowC (0 : Int) (Kd.int .u8) (fun x => (Lit.int .u8 x).wf = true) Tryd.underlying27 (by kernel_rfl) (fun m cs z hz => by obtain ⟨x, rfl, _, wx⟩ := DataW.trod_int Tryd.underlying5 hz; exact ⟨x, wx, rfl⟩) hf1
  subst hl1
  clear hA0 hval0 hsz0 hsz
  obtain ⟨k, hk⟩ := Pure.FnLabelText l0 l1 hm0 hw0 hm1 hw1
  refine (laws_FnLabelText.calls k _ _ l0 _ _ l1 true ⟨rfl⟩ W hC0 hc0 hC1 hc1 (lt_of_laid hL) hk).mono fun e W' ⟨he, bel0⟩ => ?_
  have bel : Below W.heap.size W W' := bel0
  subst he
  exact ⟨_, rfl, _, _, _, [], _, _, hW', trodAll_mk1 (shut_bool Tryd.underlying4 _), (trodAll_cons_mk (Below.trod laidOut (by kernel_rfl) (of_decide_eq_true (by kernel_rfl)) k0 bel lt0) (trodAll_cons_mk (Below.trod laidOut (by kernel_rfl) (of_decide_eq_true (by kernel_rfl)) k1 bel lt1) trodAll_mk0)), var_stays bel hV0, bel.frame _, fun h => by cases h⟩
theorem over : Rows.fnLabelTextRow.holds Tryd.pinned (OpenSpec.ofChange Rows.fnLabelTextSpec) :=
  OpenClaim.holds_of_wide 5 Tryd.f5 rfl rfl rfl rfl rfl rfl rfl ⟨rfl, rfl, rfl, rfl, rfl⟩ rfl rfl rfl rfl rfl (by kernel_rfl) Tryd.func5 (by kernel_rfl)
    (of_decide_eq_true (by kernel_rfl)) (by unfold Func.isWrapper; first | (rw [if_pos (by decide +kernel)]; kernel_rfl) | (rw [if_neg (by decide +kernel)]; exact ⟨rfl, rfl⟩))
    (fun os started H enc _ => lifted os started H enc)
theorem proved : Rows.FnLabelTextCardSaid :=
  Claim7.holds_tied_plain_at .later [] [.data] true (true, "514b1e16c53e536fd67de30d623dfe4d12901164d7ecaa2c569177857332a7ed") false
    over (fun _ h => by cases h) (by kernel_rfl) (fun _ h => by cases h) fnLabelText_row_tie rfl ⟨rfl, rfl⟩ (by kernel_rfl) rfl
    (fun f fn hf hfn => by
      obtain rfl : f = 5 := Option.some.inj ((show Tryd.prog.funcNamed "loop.example/hagioscope/laws.FnLabelText" = some 5 by kernel_rfl).symm.trans hf) |>.symm
      obtain rfl : fn = Tryd.f5 := (Option.some.inj (Tryd.func5.symm.trans hfn)).symm
      exact ⟨by kernel_rfl, fun j t ht => by
        rw [Tryd.params5] at ht
        have hm : t ∈ [27, 27] := by simpa using Array.mem_of_getElem? ht
        have hall : ([27, 27].all fun u => !Tryd.prog.wantsStandIn u) = true := by kernel_rfl
        exact (show Tryd.prog.wantsStandIn t = false by simpa using List.all_eq_true.1 hall t hm)⟩)
    (by kernel_rfl)
#print axioms proved
end Go.Proofs.YtomkkhkfenmdlaaDoor.fnLabelText
namespace Go.Proofs.YtomkkhkfenmdlaaDoor
/-- The row, under a short name, for the claim. -/
theorem fnLabelText_holds : Rows.FnLabelTextCardSaid := fnLabelText.proved
end Go.Proofs.YtomkkhkfenmdlaaDoor
