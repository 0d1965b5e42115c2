/- The law InsnNear: for every input that can be read it returns true, and each argument reads behind the call as it read before. -/
import Derived.Test.YtkojjjdeacdabaaDoorRows
import Derived.Test.YtkojjjdeacdabaaDoorCards
import Derived.Test.YtkojjjdeacdabaaDoorTie
import Derived.SevenTiedAt
import Derived.LaidMore
import Derived.Lib.LaidTab
import Derived.Test.YtkojjjdeacdabaaDoorPx21
import Derived.Test.YtkojjjdeacdabaaDoorPureInsnNear
import Derived.Test.YtkojjjdeacdabaaDoorOpen
import Derived.WalkKit
import Derived.ProofKit
import Derived.OpenShut
import Derived.ShutString
import Derived.ChangeOld
import Derived.Below
import Derived.SizedLaws
import Derived.Test.YtkojjjdeacdabaaDoorWSized
namespace Go.Proofs.YtkojjjdeacdabaaDoor.insnNear
open Go.ChangeShapes Go.WideShapes Go.ChangeAt Go.RowKit
open Go.ChangeMaps (open_string shut_string)
open Go.Proofs.YtkojjjdeacdabaaDoor.Opening
set_option linter.unusedVariables false
set_option linter.unusedSimpArgs false
theorem own : ownKnob Tryd.prog.godebug = none := by kernel_rfl
theorem laidOut : laidOutB Tryd.prog = true := by kernel_rfl
open Go.Proofs.YtkojjjdeacdabaaDoorW.PrintWords
theorem walk (a0_0 : Int) (a0_1 : Int) (a0_2 : Int) (a0_3 : Int) (a0_4 : Int) (a1 : Int) (a2 : Int) (w : World) (w0_0 : (Lit.int .u8 a0_0).wf = true) (w0_1 : (Lit.int .u8 a0_1).wf = true) (w0_2 : (Lit.int .u8 a0_2).wf = true) (w0_3 : (Lit.int .i16 a0_3).wf = true) (w0_4 : (Lit.int .i32 a0_4).wf = true) (w1 : (Lit.int .i16 a1).wf = true) (w2 : (Lit.int .i32 a2).wf = true) (hG0 : Go.Proofs.YtkojjjdeacdabaaDoorW.PrintWords.Kd.C (Go.Proofs.YtkojjjdeacdabaaDoorW.PrintWords.Kd.int .i64) w (some ⟨0, 0, none⟩) Go.Proofs.YtkojjjdeacdabaaDoor.P.gl0.length Go.Proofs.YtkojjjdeacdabaaDoor.P.gl0) :
    Calls Tryd.prog 10 #[.agg #[.int .u8 a0_0, .int .u8 a0_1, .int .u8 a0_2, .int .i16 a0_3, .int .i32 a0_4], .int .i16 a1, .int .i32 a2] w fun e w' => e = .returned (.bool true) ∧ Below w.heap.size w w' := by
  obtain ⟨k, h⟩ := Pure.InsnNear a0_0 a0_1 a0_2 a0_3 a0_4 a1 a2 w0_0 w0_1 w0_2 w0_3 w0_4 w1 w2
  refine (P.stockadelaw02_InsnNear.calls k a0_0 a0_1 a0_2 a0_3 a0_4 a1 a2 true w hG0 rfl h).mono ?_
  rintro e w' ⟨rfl, hd⟩
  exact ⟨rfl, hd⟩
def X : List (String × DataW Unit) := Rows.insnNearRow.laid
theorem g0 : Tryd.prog.globalNamed "stockade/insn.sizes" = some 0 := by kernel_rfl
theorem gt0 : (Tryd.prog.globals[0]?).map (·.type) = some 73 := by kernel_rfl
theorem door_met (os : Os) (args : Array Value) : laidMetH Tryd.prog X ((World.doorLaid Tryd.prog 4000 os).forCall (fun _ _ => 0) ⟨#[], args, []⟩).memory :=
  laidMetH_of_parts3 (fuel := 8) (laidMet_of_run' 8 (by kernel_rfl) (by kernel_rfl)) (by kernel_rfl) (by kernel_rfl)
theorem of_laid {w : World} (h : laidMetH Tryd.prog X w) : Go.Proofs.YtkojjjdeacdabaaDoorW.PrintWords.Kd.C (Go.Proofs.YtkojjjdeacdabaaDoorW.PrintWords.Kd.int .i64) w (some ⟨0, 0, none⟩) Go.Proofs.YtkojjjdeacdabaaDoor.P.gl0.length Go.Proofs.YtkojjjdeacdabaaDoor.P.gl0 := by
  rw [MakeChecks.laidMetH_plain _ _ _ (by kernel_rfl)] at h
  exact Opening.tab_C (Lib.tabIs_of_head (k := .i64) (zs := [4, 2, 1, 8]) (rest := []) g0 gt0 Tryd.underlying73 Tryd.underlying3 (by kernel_rfl) (by kernel_rfl) h) g0 (by decide) (by decide)
set_option maxRecDepth 100000 in
theorem lifted (os : Os) (started : os.Started) (H : Type) (enc : TypeId × Value → H) :
    ReturnsInHanded {} Tryd.checked os 10 .any (fun w args => (Rows.insnNearSpec.pre enc Tryd.prog Tryd.f10 [] false w args ∧ laidMetH Tryd.prog X w) ∧ sizedMet enc Tryd.prog Tryd.f10 (OpenSpec.ofChange Rows.insnNearSpec) false w args) (Rows.insnNearSpec.post enc Tryd.prog Tryd.f10 false true false false) := by
  refine returnsInHanded_of_change_and (C := Tryd.checked) (X := fun w _ => laidMetH Tryd.prog X w) (fun _ _ _ hh h => h.of_heap hh) own started (by kernel_rfl) Tryd.func10
    (ChangeSpec.witness_shaped (enc := enc) (C := Tryd.checked) (os := os) (X := fun w _ => laidMetH Tryd.prog X w) false (World.doorLaid Tryd.prog 4000 os) #[.agg #[.int .u8 0, .int .u8 0, .int .u8 0, .int .i16 0, .int .i32 0], .int .i16 0, .int .i32 0] 8 rfl (World.shaped_of_RefB (by kernel_rfl) (by kernel_rfl)) (by kernel_rfl) (by kernel_rfl) (by kernel_rfl) (door_met os _)) ?_
  intro W base args ds gs before hval0 hW hcnd hsz0 hL _
  have hval : ∀ (j : Nat) t v, Tryd.f10.params[j]? = some t → args[j]? = some v → Value.okWide Tryd.prog W .any base t v := hval0
  have hW' := hW
  obtain ⟨p, q, hA0, hV, rfl, hfz, hnd⟩ := hW
  have hA : DataW.TrodAll enc Tryd.prog W 0 (fun _ => true) true Tryd.f10.params.toList args.toList ds p := hA0
  rw [Tryd.params10] at hA hval
  obtain ⟨v0, vs0, d0, ds0, p0, q0, hargs, rfl, rfl, h0, r0⟩ := trodAll_cons hA
  obtain ⟨v1, vs1, d1, ds1, p1, q1, rfl, rfl, rfl, h1, r1⟩ := trodAll_cons r0
  obtain ⟨v2, vs2, d2, ds2, p2, q2, rfl, rfl, rfl, h2, r2⟩ := trodAll_cons r1
  obtain ⟨rfl, rfl, rfl⟩ := trodAll_nil r2
  obtain rfl : args = #[v0, v1, v2] := by cases args; simp_all
  obtain ⟨rfl, rfl⟩ := trodVars_none hV
  have K0 := h0
  have LT0 : ∀ x ∈ p0, x.block < W.heap.size := by obtain ⟨m, hm⟩ := K0; exact DataW.trod_lt m _ _ _ hm
  have K1 := h1
  have LT1 : ∀ x ∈ p1, x.block < W.heap.size := by obtain ⟨m, hm⟩ := K1; exact DataW.trod_lt m _ _ _ hm
  have K2 := h2
  have LT2 : ∀ x ∈ p2, x.block < W.heap.size := by obtain ⟨m, hm⟩ := K2; exact DataW.trod_lt m _ _ _ hm
  obtain ⟨cs0, rfl, hc0⟩ := flat_struct Tryd.underlying24 (by kernel_rfl) (by kernel_rfl) (hval 0 24 v0 rfl rfl) h0
  obtain ⟨a0_0, e0_0, w0_0⟩ := hc0.int 0 _ rfl Tryd.underlying5
  obtain ⟨a0_1, e0_1, w0_1⟩ := hc0.int 1 _ rfl Tryd.underlying5
  obtain ⟨a0_2, e0_2, w0_2⟩ := hc0.int 2 _ rfl Tryd.underlying5
  obtain ⟨a0_3, e0_3, w0_3⟩ := hc0.int 3 _ rfl Tryd.underlying22
  obtain ⟨a0_4, e0_4, w0_4⟩ := hc0.int 4 _ rfl Tryd.underlying21
  obtain rfl := list5 hc0.1 rfl e0_0 e0_1 e0_2 e0_3 e0_4
  obtain ⟨a1, rfl, rfl, rfl, w1⟩ := open_int Tryd.underlying22 (hval 1 22 v1 rfl rfl) h1
  obtain ⟨a2, rfl, rfl, rfl, w2⟩ := open_int Tryd.underlying21 (hval 2 21 v2 rfl rfl) h2
  obtain hG0 := of_laid hL
  clear hA0 hval0 hsz0
  refine (walk a0_0 a0_1 a0_2 a0_3 a0_4 a1 a2 W w0_0 w0_1 w0_2 w0_3 w0_4 w1 w2 hG0).mono fun e W' ⟨he, bel⟩ => ?_
  subst he
  exact ⟨_, rfl, _, _, _, [], _, [], hW', trodAll_mk1 (shut_bool Tryd.underlying4 _), (trodAll_cons_mk (Below.trod laidOut (by kernel_rfl) (of_decide_eq_true (by kernel_rfl)) K0 bel LT0) (trodAll_cons_mk (Below.trod laidOut (by kernel_rfl) (of_decide_eq_true (by kernel_rfl)) K1 bel LT1) (trodAll_cons_mk (Below.trod laidOut (by kernel_rfl) (of_decide_eq_true (by kernel_rfl)) K2 bel LT2) trodAll_mk0))), rfl, bel.frame _, fun h => by cases h⟩
theorem over : Rows.insnNearRow.holds Tryd.pinned (OpenSpec.ofChange Rows.insnNearSpec) :=
  OpenClaim.holds_of_wide 10 Tryd.f10 rfl rfl rfl rfl rfl rfl rfl ⟨rfl, rfl, rfl, rfl, rfl⟩ rfl rfl rfl rfl rfl (by kernel_rfl) Tryd.func10 (by kernel_rfl)
    (of_decide_eq_true (by kernel_rfl)) (by unfold Func.isWrapper; first | (rw [if_pos (by decide +kernel)]; kernel_rfl) | (rw [if_neg (by decide +kernel)]; exact ⟨rfl, rfl⟩))
    (fun os started H enc _ => lifted os started H enc)
theorem proved : Rows.InsnNearSaid := over
theorem row_tie : Rows.insnNearRow.laidByTextAt .later Tryd.pinned [.data] true :=
  insnNear_row_tie
theorem card : Rows.InsnNearCardSaid :=
  Claim7.holds_tied_plain_at .later [] [.data] true (true, "b6e17da3c567efb43bc858ef4b2f5e743fb6ee43301f49caf48d6b7a5a1560b4") false
    proved (fun _ h => by cases h) (by kernel_rfl) (fun _ h => by cases h) row_tie rfl ⟨rfl, rfl⟩ (by kernel_rfl) rfl
    (fun f fn hf hfn => by
      obtain rfl : f = 10 := Option.some.inj ((show Tryd.prog.funcNamed "stockade/stockadelaw02.InsnNear" = some 10 by kernel_rfl).symm.trans hf) |>.symm
      obtain rfl : fn = Tryd.f10 := (Option.some.inj (Tryd.func10.symm.trans hfn)).symm
      exact ⟨by kernel_rfl, fun j t ht => by
        rw [Tryd.params10] at ht
        exact Opening.of_all (j := j) ht (by kernel_rfl)⟩)
    (by kernel_rfl)
#print axioms card
end Go.Proofs.YtkojjjdeacdabaaDoor.insnNear
namespace Go.Proofs.YtkojjjdeacdabaaDoor
/-- The row, under a short name, for the claim. -/
theorem insnNear_holds : Rows.InsnNearCardSaid := insnNear.card
end Go.Proofs.YtkojjjdeacdabaaDoor
