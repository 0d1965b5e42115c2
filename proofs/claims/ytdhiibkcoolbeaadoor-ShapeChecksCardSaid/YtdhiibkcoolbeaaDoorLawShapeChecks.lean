/- The law ShapeChecks: for every input that can be read it returns true, and each argument reads behind the call as it read before. -/
import Derived.Test.YtdhiibkcoolbeaaDoorRows
import Derived.Test.YtdhiibkcoolbeaaDoorCards
import Derived.Test.YtdhiibkcoolbeaaDoorTie
import Derived.SevenTiedAt
import Derived.LaidMore
import Derived.Lib.LaidTab
import Derived.Test.YtdhiibkcoolbeaaDoorPx17
import Derived.Test.YtdhiibkcoolbeaaDoorPureShapeChecks
import Derived.Test.YtdhiibkcoolbeaaDoorOpen
import Derived.Test.YtdhiibkcoolbeaaDoorOs
import Derived.WalkKit
import Derived.ProofKit
import Derived.OpenShut
import Derived.ShutString
import Derived.ChangeOld
import Derived.Below
import Derived.SizedLaws
import Derived.Test.YtdhiibkcoolbeaaDoorWSized
namespace Go.Proofs.YtdhiibkcoolbeaaDoor.shapeChecks
open Go.ChangeShapes Go.WideShapes Go.ChangeAt Go.RowKit
open Go.ChangeMaps (open_string shut_string)
open Go.Proofs.YtdhiibkcoolbeaaDoor.Opening
set_option linter.unusedVariables false
set_option linter.unusedSimpArgs false
theorem own : ownKnob Tryd.prog.godebug = none := by kernel_rfl
theorem laidOut : laidOutB Tryd.prog = true := by kernel_rfl
open Go.Proofs.YtdhiibkcoolbeaaDoorW.PrintWords
theorem walk (A0_0 : Option Addr) (c0_0 : Nat) (l0_0 : List P.S52) (A0_1 : Option Addr) (c0_1 : Nat) (l0_1 : List P.S40) (w : World) (hr0_0 : Kd.C P.k52 w A0_0 l0_0.length l0_0) (hc0_0 : l0_0.length ≤ c0_0) (y0_0 : l0_0.length * 32 ≤ 140737488351232) (hw0_0 : ∀ z ∈ l0_0, Opening.ok52 z) (hr0_1 : Kd.C P.k40 w A0_1 l0_1.length l0_1) (hc0_1 : l0_1.length ≤ c0_1) (y0_1 : l0_1.length * 12 ≤ 140737488351232) (hw0_1 : ∀ z ∈ l0_1, Opening.ok40 z) (hG0 : Go.Proofs.YtdhiibkcoolbeaaDoorW.PrintWords.Kd.C (Go.Proofs.YtdhiibkcoolbeaaDoorW.PrintWords.Kd.int .i64) w (some ⟨0, 0, none⟩) Go.Proofs.YtdhiibkcoolbeaaDoor.P.gl0.length Go.Proofs.YtdhiibkcoolbeaaDoor.P.gl0) :
    Calls Tryd.prog 3 #[.agg #[.slice A0_0 l0_0.length c0_0, .slice A0_1 l0_1.length c0_1]] w fun e w' => e = .returned (.bool true) ∧ Below w.heap.size w w' := by
  obtain ⟨k, h⟩ := Pure.ShapeChecks l0_0 l0_1 y0_0 hw0_0 y0_1 hw0_1
  refine (P.stockadelaw04_ShapeChecks.calls k _ _ l0_0 _ _ l0_1 true w hr0_0 hc0_0 hr0_1 hc0_1 hG0 rfl h).mono ?_
  rintro e w' ⟨rfl, hd⟩
  exact ⟨rfl, hd⟩
def X : List (String × DataW Unit) := Rows.shapeChecksRow.laid
theorem g0 : Tryd.prog.globalNamed "stockade/insn.sizes" = some 0 := by kernel_rfl
theorem gt0 : (Tryd.prog.globals[0]?).map (·.type) = some 73 := by kernel_rfl
theorem door_met (os : Os) (args : Array Value) : laidMetH Tryd.prog X ((World.doorLaid Tryd.prog 4000 os).forCall (fun _ _ => 0) ⟨#[], args, []⟩).memory :=
  laidMetH_of_parts3 (fuel := 8) (laidMet_of_run' 8 (by kernel_rfl) (by kernel_rfl)) (by kernel_rfl) (by kernel_rfl)
theorem of_laid {w : World} (h : laidMetH Tryd.prog X w) : Go.Proofs.YtdhiibkcoolbeaaDoorW.PrintWords.Kd.C (Go.Proofs.YtdhiibkcoolbeaaDoorW.PrintWords.Kd.int .i64) w (some ⟨0, 0, none⟩) Go.Proofs.YtdhiibkcoolbeaaDoor.P.gl0.length Go.Proofs.YtdhiibkcoolbeaaDoor.P.gl0 := by
  rw [MakeChecks.laidMetH_plain _ _ _ (by kernel_rfl)] at h
  exact Opening.tab_C (Lib.tabIs_of_head (k := .i64) (zs := [4, 2, 1, 8]) (rest := []) g0 gt0 Tryd.underlying73 Tryd.underlying3 (by kernel_rfl) (by kernel_rfl) h) g0 (by decide) (by decide)
set_option maxRecDepth 100000 in
theorem lifted (os : Os) (started : os.Started) (H : Type) (enc : TypeId × Value → H) :
    ReturnsInHanded {} Tryd.checked os 3 .any (fun w args => (Rows.shapeChecksSpec.pre enc Tryd.prog Tryd.f3 [] false w args ∧ laidMetH Tryd.prog X w) ∧ sizedMet enc Tryd.prog Tryd.f3 (OpenSpec.ofChange Rows.shapeChecksSpec) false w args) (Rows.shapeChecksSpec.post enc Tryd.prog Tryd.f3 false true false false) := by
  refine returnsInHanded_of_change_and (C := Tryd.checked) (X := fun w _ => laidMetH Tryd.prog X w) (fun _ _ _ hh h => h.of_heap hh) own started (by kernel_rfl) Tryd.func3
    (ChangeSpec.witness_shaped (enc := enc) (C := Tryd.checked) (os := os) (X := fun w _ => laidMetH Tryd.prog X w) false (World.doorLaid Tryd.prog 4000 os) #[.agg #[.slice none 0 0, .slice none 0 0]] 8 rfl (World.shaped_of_RefB (by kernel_rfl) (by kernel_rfl)) (by kernel_rfl) (by kernel_rfl) (by kernel_rfl) (door_met os _)) ?_
  intro W base args ds gs before hval0 hW hcnd hsz0 hL _
  have hsz : (DataW.weightsEach Tryd.prog (Tryd.f3.params.toList ++ Rows.shapeChecksSpec.plain.varTypes Tryd.prog) (ds ++ gs)).all (· ≤ reachBytes) = true := hsz0
  have hval : ∀ (j : Nat) t v, Tryd.f3.params[j]? = some t → args[j]? = some v → Value.okWide Tryd.prog W .any base t v := hval0
  have hW' := hW
  obtain ⟨p, q, hA0, hV, rfl, hfz, hnd⟩ := hW
  have hA : DataW.TrodAll enc Tryd.prog W 0 (fun _ => true) true Tryd.f3.params.toList args.toList ds p := hA0
  rw [Tryd.params3] at hA hval hsz
  obtain ⟨v0, vs0, d0, ds0, p0, q0, hargs, rfl, rfl, h0, r0⟩ := trodAll_cons hA
  obtain ⟨rfl, rfl, rfl⟩ := trodAll_nil r0
  obtain rfl : args = #[v0] := by cases args; simp_all
  obtain ⟨rfl, rfl⟩ := trodVars_none hV
  have K0 := h0
  have LT0 : ∀ x ∈ p0, x.block < W.heap.size := by obtain ⟨m, hm⟩ := K0; exact DataW.trod_lt m _ _ _ hm
  obtain ⟨v0_0, v0_1, y0_0, y0_1, n0, rfl, hd0, _, t0_0, t0_1⟩ := Go.Joins.open_agg2 Tryd.underlying25 (by kernel_rfl) (by kernel_rfl) (hval 0 25 v0 rfl rfl) h0
  subst hd0
  have hzz0 := Opening.sized_parts hsz (j := 0) rfl rfl Tryd.underlying25
  obtain ⟨A0_0, l0_0, c0_0, rfl, hr0_0, hc0_0, hw0_0, hn0_0⟩ := Opening.open52 Tryd.underlying22 t0_0
  have y0_0 : l0_0.length * 32 ≤ 140737488351232 := Opening.sized_list hzz0 (j := 0) rfl rfl Tryd.underlying22 (by kernel_rfl) hn0_0
  obtain ⟨A0_1, l0_1, c0_1, rfl, hr0_1, hc0_1, hw0_1, hn0_1⟩ := Opening.open40 Tryd.underlying23 t0_1
  have y0_1 : l0_1.length * 12 ≤ 140737488351232 := Opening.sized_list hzz0 (j := 1) rfl rfl Tryd.underlying23 (by kernel_rfl) hn0_1
  obtain hG0 := of_laid hL
  clear hA0 hval0 hsz0 hsz
  refine (walk _ _ l0_0 _ _ l0_1 W hr0_0 hc0_0 y0_0 hw0_0 hr0_1 hc0_1 y0_1 hw0_1 hG0).mono fun e W' ⟨he, bel⟩ => ?_
  subst he
  exact ⟨_, rfl, _, _, _, [], _, [], hW', trodAll_mk1 (shut_bool Tryd.underlying4 _), (trodAll_cons_mk (Below.trod laidOut (by kernel_rfl) (of_decide_eq_true (by kernel_rfl)) K0 bel LT0) trodAll_mk0), rfl, bel.frame _, fun h => by cases h⟩
theorem over : Rows.shapeChecksRow.holds Tryd.pinned (OpenSpec.ofChange Rows.shapeChecksSpec) :=
  OpenClaim.holds_of_wide 3 Tryd.f3 rfl rfl rfl rfl rfl rfl rfl ⟨rfl, rfl, rfl, rfl, rfl⟩ rfl rfl rfl rfl rfl (by kernel_rfl) Tryd.func3 (by kernel_rfl)
    (of_decide_eq_true (by kernel_rfl)) (by unfold Func.isWrapper; first | (rw [if_pos (by decide +kernel)]; kernel_rfl) | (rw [if_neg (by decide +kernel)]; exact ⟨rfl, rfl⟩))
    (fun os started H enc _ => lifted os started H enc)
theorem proved : Rows.ShapeChecksSaid := over
theorem row_tie : Rows.shapeChecksRow.laidByTextAt .later Tryd.pinned [.data] true :=
  shapeChecks_row_tie
theorem card : Rows.ShapeChecksCardSaid :=
  Claim7.holds_tied_plain_at .later [] [.data] true (true, "b0d84e0c5bdd0620c47adc35b090b750d634108caec3c2a8a03661c7008fefda") false
    proved (fun _ h => by cases h) (by kernel_rfl) (fun _ h => by cases h) row_tie rfl ⟨rfl, rfl⟩ (by kernel_rfl) rfl
    (fun f fn hf hfn => by
      obtain rfl : f = 3 := Option.some.inj ((show Tryd.prog.funcNamed "stockade/stockadelaw04.ShapeChecks" = some 3 by kernel_rfl).symm.trans hf) |>.symm
      obtain rfl : fn = Tryd.f3 := (Option.some.inj (Tryd.func3.symm.trans hfn)).symm
      exact ⟨by kernel_rfl, fun j t ht => by
        rw [Tryd.params3] at ht
        exact Opening.of_all (j := j) ht (by kernel_rfl)⟩)
    (by kernel_rfl)
#print axioms card
end Go.Proofs.YtdhiibkcoolbeaaDoor.shapeChecks
namespace Go.Proofs.YtdhiibkcoolbeaaDoor
/-- The row, under a short name, for the claim. -/
theorem shapeChecks_holds : Rows.ShapeChecksCardSaid := shapeChecks.card
end Go.Proofs.YtdhiibkcoolbeaaDoor
