/- The law RuleBack: for every input that can be read it returns true, and each argument reads behind the call as it read before. -/
import Derived.Test.YtighficpbplkhaaDoorRows
import Derived.Test.YtighficpbplkhaaDoorCards
import Derived.Test.YtighficpbplkhaaDoorTie
import Derived.SevenTiedAt
import Derived.LaidMore
import Derived.Lib.LaidTab
import Derived.Test.YtighficpbplkhaaDoorPx34
import Derived.Test.YtighficpbplkhaaDoorPureRuleBack
import Derived.Test.YtighficpbplkhaaDoorOpen
import Derived.Test.YtighficpbplkhaaDoorRo
import Derived.Test.YtighficpbplkhaaDoorOs
import Derived.WalkKit
import Derived.ProofKit
import Derived.OpenShut
import Derived.ShutString
import Derived.ChangeOld
import Derived.Below
import Derived.SizedLaws
import Derived.Test.YtighficpbplkhaaDoorWSized
namespace Go.Proofs.YtighficpbplkhaaDoor.ruleBack
open Go.ChangeShapes Go.WideShapes Go.ChangeAt Go.RowKit
open Go.ChangeMaps (open_string shut_string)
open Go.Proofs.YtighficpbplkhaaDoor.Opening
set_option linter.unusedVariables false
set_option linter.unusedSimpArgs false
theorem own : ownKnob Tryd.prog.godebug = none := by kernel_rfl
theorem laidOut : laidOutB Tryd.prog = true := by kernel_rfl
open Go.Proofs.YtighficpbplkhaaDoorW.PrintWords
theorem walk (A0 : Option Addr) (c0 : Nat) (l0 : List P.S46) (a1 : ByteArray) (w : World) (hr0 : Kd.C P.k46 w A0 l0.length l0) (hc0 : l0.length ≤ c0) (hk0 : Pure.okL l0) (w1 : a1.size ≤ 140737488351232) (hG0 : Go.Proofs.YtighficpbplkhaaDoor.P.GF w) :
    Calls Tryd.prog 7 #[.slice A0 l0.length c0, .string a1] w fun e w' => e = .returned (.bool true) ∧ Below w.heap.size w w' := by
  obtain ⟨k, h⟩ := Pure.RuleBack l0 a1 hk0 w1
  refine (P.stockadelaw18_RuleBack.calls k _ _ l0 a1 true w hr0 hc0 hG0.to rfl h).mono ?_
  rintro e w' ⟨rfl, hd⟩
  exact ⟨rfl, hd⟩
set_option maxRecDepth 100000 in
theorem lifted (os : Os) (started : os.Started) (H : Type) (enc : TypeId × Value → H) :
    ReturnsInHanded {} Tryd.checked os 7 .any (fun w args => (Rows.ruleBackSpec.pre enc Tryd.prog Tryd.f7 [] false w args ∧ laidMetH Tryd.prog Rw.X w) ∧ sizedMet enc Tryd.prog Tryd.f7 (OpenSpec.ofChange Rows.ruleBackSpec) false w args) (Rows.ruleBackSpec.post enc Tryd.prog Tryd.f7 false true false false) := by
  refine returnsInHanded_both (C := Tryd.checked) (X := fun w _ => laidMetH Tryd.prog Rw.X w) (fun _ _ _ hh h => h.of_heap hh) own started (by kernel_rfl) Tryd.func7
    (ChangeSpec.witness_shaped (enc := enc) (C := Tryd.checked) (os := os) (X := fun w _ => laidMetH Tryd.prog Rw.X w) false (World.laidAll Tryd.prog os Rw.X) #[.slice none 0 0, .string ByteArray.empty] 8 (World.laidAll_os _ _ _) (Rw.lay_shaped os _) (by kernel_rfl) (by kernel_rfl) (by kernel_rfl) (Rw.lay_met os _)) ?_
  intro W base args ds gs before hval0 hW hcnd hsz0 hL _
  have hsz : (DataW.weightsEach Tryd.prog (Tryd.f7.params.toList ++ Rows.ruleBackSpec.plain.varTypes Tryd.prog) (ds ++ gs)).all (· ≤ reachBytes) = true := hsz0
  have hval : ∀ (j : Nat) t v, Tryd.f7.params[j]? = some t → args[j]? = some v → Value.okWide Tryd.prog W .any base t v := hval0
  have hW' := hW
  obtain ⟨p, q, hA0, hV, rfl, hfz, hnd⟩ := hW
  have hA : DataW.TrodAll enc Tryd.prog W 0 (fun _ => true) true Tryd.f7.params.toList args.toList ds p := hA0
  rw [Tryd.params7] at hA hval hsz
  obtain ⟨v0, vs0, d0, ds0, p0, q0, hargs, rfl, rfl, h0, r0⟩ := trodAll_cons hA
  obtain ⟨v1, vs1, d1, ds1, p1, q1, rfl, rfl, rfl, h1, r1⟩ := trodAll_cons r0
  obtain ⟨rfl, rfl, rfl⟩ := trodAll_nil r1
  obtain rfl : args = #[v0, v1] := by cases args; simp_all
  obtain ⟨rfl, rfl⟩ := trodVars_none hV
  have K0 := h0
  have LT0 : ∀ x ∈ p0, x.block < W.heap.size := by obtain ⟨m, hm⟩ := K0; exact DataW.trod_lt m _ _ _ hm
  have K1 := h1
  have LT1 : ∀ x ∈ p1, x.block < W.heap.size := by obtain ⟨m, hm⟩ := K1; exact DataW.trod_lt m _ _ _ hm
  obtain ⟨a0, len0, cap0, rfl⟩ := okWide_slice Tryd.underlying22 (hval 0 22 v0 rfl rfl)
  obtain ⟨fuel0, hf0⟩ := h0
  obtain ⟨A0, l0, c0, ev0, hr0, hc0, hk0⟩ := Opening.openRules (v := .slice a0 len0 cap0) Tryd.underlying22 hf0 (Opening.light_arg hsz (j := 0) rfl rfl)
  obtain ⟨rfl, rfl, rfl⟩ : a0 = A0 ∧ len0 = l0.length ∧ cap0 = c0 := by injection ev0 with e0 e1 e2; exact ⟨e0, e1, e2⟩
  obtain ⟨a1, rfl, rfl, rfl, y1⟩ := open_string Tryd.underlying9 (hval 1 9 v1 rfl rfl) h1
  have w1 : a1.size ≤ 140737488351232 := by
    have z := sized_string hsz (j := 1) (t := 9) rfl rfl
    rw [Array.length_toList] at z
    exact z
  have hG0 := Rw.gf hL.1 hL.2
  clear hA0 hval0 hsz0 hsz
  refine (walk _ _ l0 a1 W hr0 hc0 hk0 w1 hG0).mono fun e W' ⟨he, bel⟩ => ?_
  subst he
  exact ⟨_, rfl, _, _, _, [], _, [], hW', trodAll_mk1 (shut_bool Tryd.underlying4 _), (trodAll_cons_mk (Below.trod laidOut (by kernel_rfl) (of_decide_eq_true (by kernel_rfl)) K0 bel LT0) (trodAll_cons_mk (Below.trod laidOut (by kernel_rfl) (of_decide_eq_true (by kernel_rfl)) K1 bel LT1) trodAll_mk0)), rfl, bel.frame _, fun h => by cases h⟩
theorem over : Rows.ruleBackRow.holds Tryd.pinned (OpenSpec.ofChange Rows.ruleBackSpec) :=
  OpenClaim.holds_of_wide 7 Tryd.f7 rfl rfl rfl rfl rfl rfl rfl ⟨rfl, rfl, rfl, rfl, rfl⟩ rfl rfl rfl rfl rfl (by kernel_rfl) Tryd.func7 (by kernel_rfl)
    (of_decide_eq_true (by kernel_rfl)) (by unfold Func.isWrapper; first | (rw [if_pos (by decide +kernel)]; kernel_rfl) | (rw [if_neg (by decide +kernel)]; exact ⟨rfl, rfl⟩))
    (fun os started H enc _ => lifted os started H enc)
theorem proved : Rows.RuleBackSaid := over
theorem row_tie : Rows.ruleBackRow.laidByTextAt .later Tryd.pinned [.data, .data, .data, .data, .sentinel, .sentinel, .pinned] true :=
  ruleBack_row_tie
theorem card : Rows.RuleBackCardSaid :=
  Claim7.holds_tied_plain_at .later [] [.data, .data, .data, .data, .sentinel, .sentinel, .pinned] true (true, "75322cafbab7edf8fd9fad58dc6e7db59c58dbcebe05cd0439bcd2d6e8f2a0d6") true
    proved (fun _ h => by cases h) (by kernel_rfl) (fun _ h => by cases h) row_tie rfl ⟨rfl, rfl⟩ (by kernel_rfl) rfl
    (fun f fn hf hfn => by
      obtain rfl : f = 7 := Option.some.inj ((show Tryd.prog.funcNamed "stockade/stockadelaw18.RuleBack" = some 7 by kernel_rfl).symm.trans hf) |>.symm
      obtain rfl : fn = Tryd.f7 := (Option.some.inj (Tryd.func7.symm.trans hfn)).symm
      exact ⟨by kernel_rfl, fun j t ht => by
        rw [Tryd.params7] at ht
        exact Opening.of_all (j := j) ht (by kernel_rfl)⟩)
    (by kernel_rfl)
#print axioms card
end Go.Proofs.YtighficpbplkhaaDoor.ruleBack
namespace Go.Proofs.YtighficpbplkhaaDoor
/-- The row, under a short name, for the claim. -/
theorem ruleBack_holds : Rows.RuleBackCardSaid := ruleBack.card
end Go.Proofs.YtighficpbplkhaaDoor
