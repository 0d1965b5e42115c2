/- The law RuleFirst: for every input that can be read it returns true, and each argument reads behind the call as it read before. -/
import Derived.Test.YtighficpbplkhaaDoorRows
import Derived.Test.YtighficpbplkhaaDoorCards
import Derived.Test.YtighficpbplkhaaDoorTie
import Derived.SevenTiedAt
import Derived.LaidMore
import Derived.Lib.LaidTab
import Derived.Test.YtighficpbplkhaaDoorPx33
import Derived.Test.YtighficpbplkhaaDoorPureRuleFirst
import Derived.Test.YtighficpbplkhaaDoorOpen
import Derived.Test.YtighficpbplkhaaDoorRo
import Derived.Test.YtighficpbplkhaaDoorOs
import Derived.WalkKit
import Derived.ProofKit
import Derived.OpenShut
import Derived.ShutString
import Derived.ChangeOld
import Derived.Below
import Derived.SizedLaws
import Derived.Test.YtighficpbplkhaaDoorWSized
namespace Go.Proofs.YtighficpbplkhaaDoor.ruleFirst
open Go.ChangeShapes Go.WideShapes Go.ChangeAt Go.RowKit
open Go.ChangeMaps (open_string shut_string)
open Go.Proofs.YtighficpbplkhaaDoor.Opening
set_option linter.unusedVariables false
set_option linter.unusedSimpArgs false
theorem own : ownKnob Tryd.prog.godebug = none := by kernel_rfl
theorem laidOut : laidOutB Tryd.prog = true := by kernel_rfl
open Go.Proofs.YtighficpbplkhaaDoorW.PrintWords
theorem walk (A0 : Option Addr) (c0 : Nat) (l0 : List P.S46) (A1 : Option Addr) (c1 : Nat) (l1 : List P.S46) (A2_0 : Option Addr) (c2_0 : Nat) (l2_0 : List Int) (a2_1 : Int) (w : World) (hr0 : Kd.C P.k46 w A0 l0.length l0) (hc0 : l0.length ≤ c0) (hk0 : Pure.okL l0) (hr1 : Kd.C P.k46 w A1 l1.length l1) (hc1 : l1.length ≤ c1) (hk1 : Pure.okL l1) (hr2_0 : Kd.C (Kd.int .u8) w A2_0 l2_0.length l2_0) (hc2_0 : l2_0.length ≤ c2_0) (hb2 : Pure.Bytes l2_0) (w2 : (Lit.int .u32 a2_1).wf = true) (hG0 : Go.Proofs.YtighficpbplkhaaDoor.P.GF w) :
    Calls Tryd.prog 6 #[.slice A0 l0.length c0, .slice A1 l1.length c1, .agg #[.slice A2_0 l2_0.length c2_0, .int .u32 a2_1]] w fun e w' => e = .returned (.bool true) ∧ Below w.heap.size w w' := by
  obtain ⟨k, h⟩ := Pure.RuleFirst l0 l1 l2_0 a2_1 hk0 hk1 hb2 w2
  refine (P.stockadelaw18_RuleFirst.calls k _ _ l0 _ _ l1 _ _ l2_0 a2_1 true w hr0 hc0 hr1 hc1 hr2_0 hc2_0 hG0.to rfl h).mono ?_
  rintro e w' ⟨rfl, hd⟩
  exact ⟨rfl, hd⟩
set_option maxRecDepth 100000 in
theorem lifted (os : Os) (started : os.Started) (H : Type) (enc : TypeId × Value → H) :
    ReturnsInHanded {} Tryd.checked os 6 .any (fun w args => (Rows.ruleFirstSpec.pre enc Tryd.prog Tryd.f6 [] false w args ∧ laidMetH Tryd.prog Rw.X w) ∧ sizedMet enc Tryd.prog Tryd.f6 (OpenSpec.ofChange Rows.ruleFirstSpec) false w args) (Rows.ruleFirstSpec.post enc Tryd.prog Tryd.f6 false true false false) := by
  refine returnsInHanded_both (C := Tryd.checked) (X := fun w _ => laidMetH Tryd.prog Rw.X w) (fun _ _ _ hh h => h.of_heap hh) own started (by kernel_rfl) Tryd.func6
    (ChangeSpec.witness_shaped (enc := enc) (C := Tryd.checked) (os := os) (X := fun w _ => laidMetH Tryd.prog Rw.X w) false (World.laidAll Tryd.prog os Rw.X) #[.slice none 0 0, .slice none 0 0, .agg #[.slice none 0 0, .int .u32 0]] 8 (World.laidAll_os _ _ _) (Rw.lay_shaped os _) (by kernel_rfl) (by kernel_rfl) (by kernel_rfl) (Rw.lay_met os _)) ?_
  intro W base args ds gs before hval0 hW hcnd hsz0 hL _
  have hsz : (DataW.weightsEach Tryd.prog (Tryd.f6.params.toList ++ Rows.ruleFirstSpec.plain.varTypes Tryd.prog) (ds ++ gs)).all (· ≤ reachBytes) = true := hsz0
  have hval : ∀ (j : Nat) t v, Tryd.f6.params[j]? = some t → args[j]? = some v → Value.okWide Tryd.prog W .any base t v := hval0
  have hW' := hW
  obtain ⟨p, q, hA0, hV, rfl, hfz, hnd⟩ := hW
  have hA : DataW.TrodAll enc Tryd.prog W 0 (fun _ => true) true Tryd.f6.params.toList args.toList ds p := hA0
  rw [Tryd.params6] at hA hval hsz
  obtain ⟨v0, vs0, d0, ds0, p0, q0, hargs, rfl, rfl, h0, r0⟩ := trodAll_cons hA
  obtain ⟨v1, vs1, d1, ds1, p1, q1, rfl, rfl, rfl, h1, r1⟩ := trodAll_cons r0
  obtain ⟨v2, vs2, d2, ds2, p2, q2, rfl, rfl, rfl, h2, r2⟩ := trodAll_cons r1
  obtain ⟨rfl, rfl, rfl⟩ := trodAll_nil r2
  obtain rfl : args = #[v0, v1, v2] := by cases args; simp_all
  obtain ⟨rfl, rfl⟩ := trodVars_none hV
  have K0 := h0
  have LT0 : ∀ x ∈ p0, x.block < W.heap.size := by obtain ⟨m, hm⟩ := K0; exact DataW.trod_lt m _ _ _ hm
  have K1 := h1
  have LT1 : ∀ x ∈ p1, x.block < W.heap.size := by obtain ⟨m, hm⟩ := K1; exact DataW.trod_lt m _ _ _ hm
  have K2 := h2
  have LT2 : ∀ x ∈ p2, x.block < W.heap.size := by obtain ⟨m, hm⟩ := K2; exact DataW.trod_lt m _ _ _ hm
  obtain ⟨a0, len0, cap0, rfl⟩ := okWide_slice Tryd.underlying22 (hval 0 22 v0 rfl rfl)
  obtain ⟨fuel0, hf0⟩ := h0
  obtain ⟨A0, l0, c0, ev0, hr0, hc0, hk0⟩ := Opening.openRules (v := .slice a0 len0 cap0) Tryd.underlying22 hf0 (Opening.light_arg hsz (j := 0) rfl rfl)
  obtain ⟨rfl, rfl, rfl⟩ : a0 = A0 ∧ len0 = l0.length ∧ cap0 = c0 := by injection ev0 with e0 e1 e2; exact ⟨e0, e1, e2⟩
  obtain ⟨a1, len1, cap1, rfl⟩ := okWide_slice Tryd.underlying22 (hval 1 22 v1 rfl rfl)
  obtain ⟨fuel1, hf1⟩ := h1
  obtain ⟨A1, l1, c1, ev1, hr1, hc1, hk1⟩ := Opening.openRules (v := .slice a1 len1 cap1) Tryd.underlying22 hf1 (Opening.light_arg hsz (j := 1) rfl rfl)
  obtain ⟨rfl, rfl, rfl⟩ : a1 = A1 ∧ len1 = l1.length ∧ cap1 = c1 := by injection ev1 with e0 e1 e2; exact ⟨e0, e1, e2⟩
  obtain ⟨A2_0, l2_0, c2_0, a2_1, rfl, hr2_0, hc2_0, hb2, w2⟩ := Opening.openPacket (hval 2 40 v2 rfl rfl) h2 (Opening.light_arg hsz (j := 2) rfl rfl)
  have hG0 := Rw.gf hL.1 hL.2
  clear hA0 hval0 hsz0 hsz
  refine (walk _ _ l0 _ _ l1 _ _ l2_0 a2_1 W hr0 hc0 hk0 hr1 hc1 hk1 hr2_0 hc2_0 hb2 w2 hG0).mono fun e W' ⟨he, bel⟩ => ?_
  subst he
  exact ⟨_, rfl, _, _, _, [], _, [], hW', trodAll_mk1 (shut_bool Tryd.underlying4 _), (trodAll_cons_mk (Below.trod laidOut (by kernel_rfl) (of_decide_eq_true (by kernel_rfl)) K0 bel LT0) (trodAll_cons_mk (Below.trod laidOut (by kernel_rfl) (of_decide_eq_true (by kernel_rfl)) K1 bel LT1) (trodAll_cons_mk (Below.trod laidOut (by kernel_rfl) (of_decide_eq_true (by kernel_rfl)) K2 bel LT2) trodAll_mk0))), rfl, bel.frame _, fun h => by cases h⟩
theorem over : Rows.ruleFirstRow.holds Tryd.pinned (OpenSpec.ofChange Rows.ruleFirstSpec) :=
  OpenClaim.holds_of_wide 6 Tryd.f6 rfl rfl rfl rfl rfl rfl rfl ⟨rfl, rfl, rfl, rfl, rfl⟩ rfl rfl rfl rfl rfl (by kernel_rfl) Tryd.func6 (by kernel_rfl)
    (of_decide_eq_true (by kernel_rfl)) (by unfold Func.isWrapper; first | (rw [if_pos (by decide +kernel)]; kernel_rfl) | (rw [if_neg (by decide +kernel)]; exact ⟨rfl, rfl⟩))
    (fun os started H enc _ => lifted os started H enc)
theorem proved : Rows.RuleFirstSaid := over
theorem row_tie : Rows.ruleFirstRow.laidByTextAt .later Tryd.pinned [.data, .data, .data, .data, .sentinel, .sentinel, .pinned] true :=
  ruleFirst_row_tie
theorem card : Rows.RuleFirstCardSaid :=
  Claim7.holds_tied_plain_at .later [] [.data, .data, .data, .data, .sentinel, .sentinel, .pinned] true (true, "75322cafbab7edf8fd9fad58dc6e7db59c58dbcebe05cd0439bcd2d6e8f2a0d6") true
    proved (fun _ h => by cases h) (by kernel_rfl) (fun _ h => by cases h) row_tie rfl ⟨rfl, rfl⟩ (by kernel_rfl) rfl
    (fun f fn hf hfn => by
      obtain rfl : f = 6 := Option.some.inj ((show Tryd.prog.funcNamed "stockade/stockadelaw18.RuleFirst" = some 6 by kernel_rfl).symm.trans hf) |>.symm
      obtain rfl : fn = Tryd.f6 := (Option.some.inj (Tryd.func6.symm.trans hfn)).symm
      exact ⟨by kernel_rfl, fun j t ht => by
        rw [Tryd.params6] at ht
        exact Opening.of_all (j := j) ht (by kernel_rfl)⟩)
    (by kernel_rfl)
#print axioms card
end Go.Proofs.YtighficpbplkhaaDoor.ruleFirst
namespace Go.Proofs.YtighficpbplkhaaDoor
/-- The row, under a short name, for the claim. -/
theorem ruleFirst_holds : Rows.RuleFirstCardSaid := ruleFirst.card
end Go.Proofs.YtighficpbplkhaaDoor
