/- The law GraphKnown: for every input that can be read it returns true, and each argument reads behind the call as it read before. -/
import Derived.Test.YtkjcjlegokdpdaaDoorRows
import Derived.Test.YtkjcjlegokdpdaaDoorCards
import Derived.Test.YtkjcjlegokdpdaaDoorTie
import Derived.SevenTiedAt
import Derived.LaidMore
import Derived.Lib.LaidTab
import Derived.Test.YtkjcjlegokdpdaaDoorPx30
import Derived.Test.YtkjcjlegokdpdaaDoorPureGraphKnown
import Derived.Test.YtkjcjlegokdpdaaDoorOpen
import Derived.WalkKit
import Derived.ProofKit
import Derived.OpenShut
import Derived.ShutString
import Derived.ChangeOld
import Derived.Below
import Derived.SizedLaws
import Derived.Test.YtkjcjlegokdpdaaDoorWSized
namespace Go.Proofs.YtkjcjlegokdpdaaDoor.graphKnown
open Go.ChangeShapes Go.WideShapes Go.ChangeAt Go.RowKit
open Go.ChangeMaps (open_string shut_string)
open Go.Proofs.YtkjcjlegokdpdaaDoor.Opening
set_option linter.unusedVariables false
set_option linter.unusedSimpArgs false
theorem own : ownKnob Tryd.prog.godebug = none := by kernel_rfl
theorem laidOut : laidOutB Tryd.prog = true := by kernel_rfl
open Go.Proofs.YtkjcjlegokdpdaaDoorW.PrintWords
theorem walk (w : World) (hG0 : Go.Proofs.YtkjcjlegokdpdaaDoorW.PrintWords.Kd.C (Go.Proofs.YtkjcjlegokdpdaaDoorW.PrintWords.Kd.int .i64) w (some ⟨0, 0, none⟩) Go.Proofs.YtkjcjlegokdpdaaDoor.P.gl0.length Go.Proofs.YtkjcjlegokdpdaaDoor.P.gl0) :
    Calls Tryd.prog 9 #[] w fun e w' => e = .returned (.bool true) ∧ Below w.heap.size w w' := by
  obtain ⟨k, h⟩ := Pure.GraphKnown 
  refine (P.stockadelaw05_GraphKnown.calls k  true w hG0 rfl h).mono ?_
  rintro e w' ⟨rfl, hd⟩
  exact ⟨rfl, hd⟩
def X : List (String × DataW Unit) := Rows.graphKnownRow.laid
theorem g0 : Tryd.prog.globalNamed "stockade/insn.sizes" = some 0 := by kernel_rfl
theorem gt0 : (Tryd.prog.globals[0]?).map (·.type) = some 87 := by kernel_rfl
theorem door_met (os : Os) (args : Array Value) : laidMetH Tryd.prog X ((World.doorLaid Tryd.prog 4000 os).forCall (fun _ _ => 0) ⟨#[], args, []⟩).memory :=
  laidMetH_of_parts3 (fuel := 8) (laidMet_of_run' 8 (by kernel_rfl) (by kernel_rfl)) (by kernel_rfl) (by kernel_rfl)
theorem of_laid {w : World} (h : laidMetH Tryd.prog X w) : Go.Proofs.YtkjcjlegokdpdaaDoorW.PrintWords.Kd.C (Go.Proofs.YtkjcjlegokdpdaaDoorW.PrintWords.Kd.int .i64) w (some ⟨0, 0, none⟩) Go.Proofs.YtkjcjlegokdpdaaDoor.P.gl0.length Go.Proofs.YtkjcjlegokdpdaaDoor.P.gl0 := by
  rw [MakeChecks.laidMetH_plain _ _ _ (by kernel_rfl)] at h
  exact Opening.tab_C (Lib.tabIs_of_head (k := .i64) (zs := [4, 2, 1, 8]) (rest := []) g0 gt0 Tryd.underlying87 Tryd.underlying3 (by kernel_rfl) (by kernel_rfl) h) g0 (by decide) (by decide)
set_option maxRecDepth 100000 in
theorem lifted (os : Os) (started : os.Started) (H : Type) (enc : TypeId × Value → H) :
    ReturnsInHanded {} Tryd.checked os 9 .any (fun w args => (Rows.graphKnownSpec.pre enc Tryd.prog Tryd.f9 [] false w args ∧ laidMetH Tryd.prog X w) ∧ sizedMet enc Tryd.prog Tryd.f9 (OpenSpec.ofChange Rows.graphKnownSpec) false w args) (Rows.graphKnownSpec.post enc Tryd.prog Tryd.f9 false true false false) := by
  refine returnsInHanded_of_change_and (C := Tryd.checked) (X := fun w _ => laidMetH Tryd.prog X w) (fun _ _ _ hh h => h.of_heap hh) own started (by kernel_rfl) Tryd.func9
    (ChangeSpec.witness_shaped (enc := enc) (C := Tryd.checked) (os := os) (X := fun w _ => laidMetH Tryd.prog X w) false (World.doorLaid Tryd.prog 4000 os) #[] 8 rfl (World.shaped_of_RefB (by kernel_rfl) (by kernel_rfl)) (by kernel_rfl) (by kernel_rfl) (by kernel_rfl) (door_met os _)) ?_
  intro W base args ds gs before hval0 hW hcnd hsz0 hL _
  have hval : ∀ (j : Nat) t v, Tryd.f9.params[j]? = some t → args[j]? = some v → Value.okWide Tryd.prog W .any base t v := hval0
  have hW' := hW
  obtain ⟨p, q, hA0, hV, rfl, hfz, hnd⟩ := hW
  have hA : DataW.TrodAll enc Tryd.prog W 0 (fun _ => true) true Tryd.f9.params.toList args.toList ds p := hA0
  rw [Tryd.params9] at hA hval
  obtain ⟨rfl, rfl, rfl⟩ := trodAll_none hA
  obtain ⟨rfl, rfl⟩ := trodVars_none hV
  obtain hG0 := of_laid hL
  clear hA0 hval0 hsz0
  refine (walk  W hG0).mono fun e W' ⟨he, bel⟩ => ?_
  subst he
  exact ⟨_, rfl, _, _, _, [], _, [], hW', trodAll_mk1 (shut_bool Tryd.underlying4 _), trodAll_mk0, rfl, bel.frame _, fun h => by cases h⟩
theorem over : Rows.graphKnownRow.holds Tryd.pinned (OpenSpec.ofChange Rows.graphKnownSpec) :=
  OpenClaim.holds_of_wide 9 Tryd.f9 rfl rfl rfl rfl rfl rfl rfl ⟨rfl, rfl, rfl, rfl, rfl⟩ rfl rfl rfl rfl rfl (by kernel_rfl) Tryd.func9 (by kernel_rfl)
    (of_decide_eq_true (by kernel_rfl)) (by unfold Func.isWrapper; first | (rw [if_pos (by decide +kernel)]; kernel_rfl) | (rw [if_neg (by decide +kernel)]; exact ⟨rfl, rfl⟩))
    (fun os started H enc _ => lifted os started H enc)
theorem proved : Rows.GraphKnownSaid := over
theorem row_tie : Rows.graphKnownRow.laidByTextAt .later Tryd.pinned [.data] true :=
  graphKnown_row_tie
theorem card : Rows.GraphKnownCardSaid :=
  Claim7.holds_tied_plain_at .later [] [.data] true (true, "81e6ebf257322b04c66beffd6c906750039e86ccc7690882ba62d12a5ecdc553") false
    proved (fun _ h => by cases h) (by kernel_rfl) (fun _ h => by cases h) row_tie rfl ⟨rfl, rfl⟩ (by kernel_rfl) rfl
    (fun f fn hf hfn => by
      obtain rfl : f = 9 := Option.some.inj ((show Tryd.prog.funcNamed "stockade/stockadelaw05.GraphKnown" = some 9 by kernel_rfl).symm.trans hf) |>.symm
      obtain rfl : fn = Tryd.f9 := (Option.some.inj (Tryd.func9.symm.trans hfn)).symm
      exact ⟨by kernel_rfl, fun j t ht => by
        rw [Tryd.params9] at ht
        exact Opening.of_all (j := j) ht (by kernel_rfl)⟩)
    (by kernel_rfl)
#print axioms card
end Go.Proofs.YtkjcjlegokdpdaaDoor.graphKnown
namespace Go.Proofs.YtkjcjlegokdpdaaDoor
/-- The row, under a short name, for the claim. -/
theorem graphKnown_holds : Rows.GraphKnownCardSaid := graphKnown.card
end Go.Proofs.YtkjcjlegokdpdaaDoor
