/- The law RuleChecks: for every input that can be read it returns true, and each argument reads behind the call as it read before. -/
import Derived.Test.YtighficpbplkhaaDoorRows
import Derived.Test.YtighficpbplkhaaDoorCards
import Derived.Test.YtighficpbplkhaaDoorTie
import Derived.SevenTiedAt
import Derived.LaidMore
import Derived.Lib.LaidTab
import Derived.Test.YtighficpbplkhaaDoorPx28c
import Derived.Test.YtighficpbplkhaaDoorPureRuleChecks
import Derived.Test.YtighficpbplkhaaDoorOpen
import Derived.Test.YtighficpbplkhaaDoorRo
import Derived.Test.YtighficpbplkhaaDoorOs
import Derived.WalkKit
import Derived.ProofKit
import Derived.OpenShut
import Derived.ShutString
import Derived.ChangeOld
import Derived.Below
import Derived.SizedLaws
import Derived.Test.YtighficpbplkhaaDoorWSized
namespace Go.Proofs.YtighficpbplkhaaDoor.ruleChecks
open Go.ChangeShapes Go.WideShapes Go.ChangeAt Go.RowKit
open Go.ChangeMaps (open_string shut_string)
open Go.Proofs.YtighficpbplkhaaDoor.Opening
set_option linter.unusedVariables false
set_option linter.unusedSimpArgs false
theorem own : ownKnob Tryd.prog.godebug = none := by kernel_rfl
theorem laidOut : laidOutB Tryd.prog = true := by kernel_rfl
open Go.Proofs.YtighficpbplkhaaDoorW.PrintWords
theorem walk (A0 : Option Addr) (c0 : Nat) (l0 : List P.S46) (w : World) (hr0 : Kd.C P.k46 w A0 l0.length l0) (hc0 : l0.length ≤ c0) (hk0 : Pure.okL l0) (hG0 : Go.Proofs.YtighficpbplkhaaDoor.P.GF w) :
    Calls Tryd.prog 3 #[.slice A0 l0.length c0] w fun e w' => e = .returned (.bool true) ∧ Below w.heap.size w w' := by
  obtain ⟨k, h⟩ := Pure.RuleChecks l0 hk0
  refine (P.stockadelaw18_RuleChecks.calls k _ _ l0 true w hr0 hc0 hG0.to rfl h).mono ?_
  rintro e w' ⟨rfl, hd⟩
  exact ⟨rfl, hd⟩
set_option maxRecDepth 100000 in
theorem lifted (os : Os) (started : os.Started) (H : Type) (enc : TypeId × Value → H) :
    ReturnsInHanded {} Tryd.checked os 3 .any (fun w args => (Rows.ruleChecksSpec.pre enc Tryd.prog Tryd.f3 [] false w args ∧ laidMetH Tryd.prog Rw.X w) ∧ sizedMet enc Tryd.prog Tryd.f3 (OpenSpec.ofChange Rows.ruleChecksSpec) false w args) (Rows.ruleChecksSpec.post enc Tryd.prog Tryd.f3 false true false false) := by
  refine returnsInHanded_both (C := Tryd.checked) (X := fun w _ => laidMetH Tryd.prog Rw.X w) (fun _ _ _ hh h => h.of_heap hh) own started (by kernel_rfl) Tryd.func3
    (ChangeSpec.witness_shaped (enc := enc) (C := Tryd.checked) (os := os) (X := fun w _ => laidMetH Tryd.prog Rw.X w) false (World.laidAll Tryd.prog os Rw.X) #[.slice none 0 0] 8 (World.laidAll_os _ _ _) (Rw.lay_shaped os _) (by kernel_rfl) (by kernel_rfl) (by kernel_rfl) (Rw.lay_met os _)) ?_
  intro W base args ds gs before hval0 hW hcnd hsz0 hL _
  have hsz : (DataW.weightsEach Tryd.prog (Tryd.f3.params.toList ++ Rows.ruleChecksSpec.plain.varTypes Tryd.prog) (ds ++ gs)).all (· ≤ reachBytes) = true := hsz0
  have hval : ∀ (j : Nat) t v, Tryd.f3.params[j]? = some t → args[j]? = some v → Value.okWide Tryd.prog W .any base t v := hval0
  have hW' := hW
  obtain ⟨p, q, hA0, hV, rfl, hfz, hnd⟩ := hW
  have hA : DataW.TrodAll enc Tryd.prog W 0 (fun _ => true) true Tryd.f3.params.toList args.toList ds p := hA0
  rw [Tryd.params3] at hA hval hsz
  obtain ⟨v0, vs0, d0, ds0, p0, q0, hargs, rfl, rfl, h0, r0⟩ := trodAll_cons hA
  obtain ⟨rfl, rfl, rfl⟩ := trodAll_nil r0
  obtain rfl : args = #[v0] := by cases args; simp_all
  obtain ⟨rfl, rfl⟩ := trodVars_none hV
  have K0 := h0
  have LT0 : ∀ x ∈ p0, x.block < W.heap.size := by obtain ⟨m, hm⟩ := K0; exact DataW.trod_lt m _ _ _ hm
  obtain ⟨a0, len0, cap0, rfl⟩ := okWide_slice Tryd.underlying22 (hval 0 22 v0 rfl rfl)
  obtain ⟨fuel0, hf0⟩ := h0
  obtain ⟨A0, l0, c0, ev0, hr0, hc0, hk0⟩ := Opening.openRules (v := .slice a0 len0 cap0) Tryd.underlying22 hf0 (Opening.light_arg hsz (j := 0) rfl rfl)
  obtain ⟨rfl, rfl, rfl⟩ : a0 = A0 ∧ len0 = l0.length ∧ cap0 = c0 := by injection ev0 with e0 e1 e2; exact ⟨e0, e1, e2⟩
  have hG0 := Rw.gf hL.1 hL.2
  clear hA0 hval0 hsz0 hsz
  refine (walk _ _ l0 W hr0 hc0 hk0 hG0).mono fun e W' ⟨he, bel⟩ => ?_
  subst he
  exact ⟨_, rfl, _, _, _, [], _, [], hW', trodAll_mk1 (shut_bool Tryd.underlying4 _), (trodAll_cons_mk (Below.trod laidOut (by kernel_rfl) (of_decide_eq_true (by kernel_rfl)) K0 bel LT0) trodAll_mk0), rfl, bel.frame _, fun h => by cases h⟩
theorem over : Rows.ruleChecksRow.holds Tryd.pinned (OpenSpec.ofChange Rows.ruleChecksSpec) :=
  OpenClaim.holds_of_wide 3 Tryd.f3 rfl rfl rfl rfl rfl rfl rfl ⟨rfl, rfl, rfl, rfl, rfl⟩ rfl rfl rfl rfl rfl (by kernel_rfl) Tryd.func3 (by kernel_rfl)
    (of_decide_eq_true (by kernel_rfl)) (by unfold Func.isWrapper; first | (rw [if_pos (by decide +kernel)]; kernel_rfl) | (rw [if_neg (by decide +kernel)]; exact ⟨rfl, rfl⟩))
    (fun os started H enc _ => lifted os started H enc)
theorem proved : Rows.RuleChecksSaid := over
theorem row_tie : Rows.ruleChecksRow.laidByTextAt .later Tryd.pinned [.data, .data, .data, .data, .sentinel, .sentinel, .pinned] true :=
  ruleChecks_row_tie
theorem card : Rows.RuleChecksCardSaid :=
  Claim7.holds_tied_plain_at .later [] [.data, .data, .data, .data, .sentinel, .sentinel, .pinned] true (true, "75322cafbab7edf8fd9fad58dc6e7db59c58dbcebe05cd0439bcd2d6e8f2a0d6") true
    proved (fun _ h => by cases h) (by kernel_rfl) (fun _ h => by cases h) row_tie rfl ⟨rfl, rfl⟩ (by kernel_rfl) rfl
    (fun f fn hf hfn => by
      obtain rfl : f = 3 := Option.some.inj ((show Tryd.prog.funcNamed "stockade/stockadelaw18.RuleChecks" = some 3 by kernel_rfl).symm.trans hf) |>.symm
      obtain rfl : fn = Tryd.f3 := (Option.some.inj (Tryd.func3.symm.trans hfn)).symm
      exact ⟨by kernel_rfl, fun j t ht => by
        rw [Tryd.params3] at ht
        exact Opening.of_all (j := j) ht (by kernel_rfl)⟩)
    (by kernel_rfl)
#print axioms card
end Go.Proofs.YtighficpbplkhaaDoor.ruleChecks
namespace Go.Proofs.YtighficpbplkhaaDoor
/-- The row, under a short name, for the claim. -/
theorem ruleChecks_holds : Rows.RuleChecksCardSaid := ruleChecks.card
end Go.Proofs.YtighficpbplkhaaDoor
