/- The law InsnReads: for every input that can be read it returns true, and each argument reads behind the call as it read before. -/
import Derived.Test.YtkojjjdeacdabaaDoorRows
import Derived.Test.YtkojjjdeacdabaaDoorCards
import Derived.Test.YtkojjjdeacdabaaDoorTie
import Derived.SevenTiedAt
import Derived.LaidMore
import Derived.Lib.LaidTab
import Derived.Test.YtkojjjdeacdabaaDoorPx13
import Derived.Test.YtkojjjdeacdabaaDoorPureInsnReads
import Derived.Test.YtkojjjdeacdabaaDoorOpen
import Derived.WalkKit
import Derived.ProofKit
import Derived.OpenShut
import Derived.ShutString
import Derived.ChangeOld
import Derived.Below
import Derived.SizedLaws
import Derived.Test.YtkojjjdeacdabaaDoorWSized
namespace Go.Proofs.YtkojjjdeacdabaaDoor.insnReads
open Go.ChangeShapes Go.WideShapes Go.ChangeAt Go.RowKit
open Go.ChangeMaps (open_string shut_string)
open Go.Proofs.YtkojjjdeacdabaaDoor.Opening
set_option linter.unusedVariables false
set_option linter.unusedSimpArgs false
theorem own : ownKnob Tryd.prog.godebug = none := by kernel_rfl
theorem laidOut : laidOutB Tryd.prog = true := by kernel_rfl
open Go.Proofs.YtkojjjdeacdabaaDoorW.PrintWords
def IsRow (k : IntKind) (w : World) (a : Option Addr) (len cap : Nat) (zs : List Int) : Prop :=
  (a = none ∧ len = 0 ∧ cap = 0 ∧ zs = []) ∨
  ∃ x, a = some x ∧ len ≤ cap ∧ cap ≤ maxLen ∧ zs.length = cap ∧ (∀ i, i < zs.length → w.cell? (x.add i) = some (.int k (zs.getD i 0))) ∧ ∀ n ∈ zs, (Lit.int k n).wf = true
theorem walk (A0 : Option Addr) (c0 : Nat) (l0 : List Int) (w : World) (hr0 : Kd.C (Kd.int .u8) w A0 l0.length l0) (hc0 : l0.length ≤ c0) (hm0 : l0.length ≤ maxLen) (y0 : l0.length * 1 ≤ 140737488351232) (hw0 : ∀ x ∈ l0, (Lit.int .u8 x).wf = true) (hG0 : Go.Proofs.YtkojjjdeacdabaaDoorW.PrintWords.Kd.C (Go.Proofs.YtkojjjdeacdabaaDoorW.PrintWords.Kd.int .i64) w (some ⟨0, 0, none⟩) Go.Proofs.YtkojjjdeacdabaaDoor.P.gl0.length Go.Proofs.YtkojjjdeacdabaaDoor.P.gl0) :
    Calls Tryd.prog 4 #[.slice A0 l0.length c0] w fun e w' => e = .returned (.bool true) ∧ Below w.heap.size w w' := by
  obtain ⟨k, h⟩ := Pure.InsnReads l0 hm0 y0 hw0
  refine (P.stockadelaw02_InsnReads.calls k _ _ l0 true w hr0 hc0 hG0 rfl h).mono ?_
  rintro e w' ⟨rfl, hd⟩
  exact ⟨rfl, hd⟩
def X : List (String × DataW Unit) := Rows.insnReadsRow.laid
theorem g0 : Tryd.prog.globalNamed "stockade/insn.sizes" = some 0 := by kernel_rfl
theorem gt0 : (Tryd.prog.globals[0]?).map (·.type) = some 73 := by kernel_rfl
theorem door_met (os : Os) (args : Array Value) : laidMetH Tryd.prog X ((World.doorLaid Tryd.prog 4000 os).forCall (fun _ _ => 0) ⟨#[], args, []⟩).memory :=
  laidMetH_of_parts3 (fuel := 8) (laidMet_of_run' 8 (by kernel_rfl) (by kernel_rfl)) (by kernel_rfl) (by kernel_rfl)
theorem of_laid {w : World} (h : laidMetH Tryd.prog X w) : Go.Proofs.YtkojjjdeacdabaaDoorW.PrintWords.Kd.C (Go.Proofs.YtkojjjdeacdabaaDoorW.PrintWords.Kd.int .i64) w (some ⟨0, 0, none⟩) Go.Proofs.YtkojjjdeacdabaaDoor.P.gl0.length Go.Proofs.YtkojjjdeacdabaaDoor.P.gl0 := by
  rw [MakeChecks.laidMetH_plain _ _ _ (by kernel_rfl)] at h
  exact Opening.tab_C (Lib.tabIs_of_head (k := .i64) (zs := [4, 2, 1, 8]) (rest := []) g0 gt0 Tryd.underlying73 Tryd.underlying3 (by kernel_rfl) (by kernel_rfl) h) g0 (by decide) (by decide)
set_option maxRecDepth 100000 in
theorem lifted (os : Os) (started : os.Started) (H : Type) (enc : TypeId × Value → H) :
    ReturnsInHanded {} Tryd.checked os 4 .any (fun w args => (Rows.insnReadsSpec.pre enc Tryd.prog Tryd.f4 [] false w args ∧ laidMetH Tryd.prog X w) ∧ sizedMet enc Tryd.prog Tryd.f4 (OpenSpec.ofChange Rows.insnReadsSpec) false w args) (Rows.insnReadsSpec.post enc Tryd.prog Tryd.f4 false true false false) := by
  refine returnsInHanded_of_change_and (C := Tryd.checked) (X := fun w _ => laidMetH Tryd.prog X w) (fun _ _ _ hh h => h.of_heap hh) own started (by kernel_rfl) Tryd.func4
    (ChangeSpec.witness_shaped (enc := enc) (C := Tryd.checked) (os := os) (X := fun w _ => laidMetH Tryd.prog X w) false (World.doorLaid Tryd.prog 4000 os) #[.slice none 0 0] 8 rfl (World.shaped_of_RefB (by kernel_rfl) (by kernel_rfl)) (by kernel_rfl) (by kernel_rfl) (by kernel_rfl) (door_met os _)) ?_
  intro W base args ds gs before hval0 hW hcnd hsz0 hL _
  have hsz : (DataW.weightsEach Tryd.prog (Tryd.f4.params.toList ++ Rows.insnReadsSpec.plain.varTypes Tryd.prog) (ds ++ gs)).all (· ≤ reachBytes) = true := hsz0
  have hval : ∀ (j : Nat) t v, Tryd.f4.params[j]? = some t → args[j]? = some v → Value.okWide Tryd.prog W .any base t v := hval0
  have hW' := hW
  obtain ⟨p, q, hA0, hV, rfl, hfz, hnd⟩ := hW
  have hA : DataW.TrodAll enc Tryd.prog W 0 (fun _ => true) true Tryd.f4.params.toList args.toList ds p := hA0
  rw [Tryd.params4] at hA hval hsz
  obtain ⟨v0, vs0, d0, ds0, p0, q0, hargs, rfl, rfl, h0, r0⟩ := trodAll_cons hA
  obtain ⟨rfl, rfl, rfl⟩ := trodAll_nil r0
  obtain rfl : args = #[v0] := by cases args; simp_all
  obtain ⟨rfl, rfl⟩ := trodVars_none hV
  have K0 := h0
  have LT0 : ∀ x ∈ p0, x.block < W.heap.size := by obtain ⟨m, hm⟩ := K0; exact DataW.trod_lt m _ _ _ hm
  obtain ⟨a0, len0, cap0, rfl⟩ := okWide_slice Tryd.underlying36 (hval 0 36 v0 rfl rfl)
  have k0 := h0
  have lt0 : ∀ x ∈ p0, x.block < W.heap.size := by obtain ⟨m, hm⟩ := k0; exact DataW.trod_lt m _ _ _ hm
  obtain ⟨z0, w0⟩ : ∃ zs, IsRow .u8 W a0 len0 cap0 zs := by
    obtain ⟨fuel, hf⟩ := h0
    rcases open_ints Tryd.underlying36 Tryd.underlying5 (by kernel_rfl) hf with ⟨hcs, _⟩ | ⟨x, l, c, zs, hcs, _, hl, hm, hz, _, hcell, hwz⟩
    · simp [Value.cells] at hcs
      obtain ⟨rfl, rfl, rfl⟩ := hcs
      exact ⟨[], .inl ⟨rfl, rfl, rfl, rfl⟩⟩
    · simp [Value.cells] at hcs
      obtain ⟨rfl, rfl, rfl⟩ := hcs
      exact ⟨zs, .inr ⟨_, rfl, hl, hm, by simpa using hz, hcell, hwz⟩⟩
  have y0 : len0 * 1 ≤ 140737488351232 := Go.Proofs.YtkojjjdeacdabaaDoorW.PrintWords.sized_ints hsz (j := 0) (t := 36) rfl rfl Tryd.underlying36 Tryd.underlying5 (by kernel_rfl) (by kernel_rfl) h0
  obtain ⟨l0, rfl, hr00, hm0, hw0, hc0⟩ := Go.Proofs.YtkojjjdeacdabaaDoorW.PrintWords.ReadsInt.ofRowC w0
  have hr0 := Go.Proofs.YtkojjjdeacdabaaDoorW.PrintWords.Kd.C_of_reads (d := (0 : Int)) (h1 := fun _ => rfl) hr00
  obtain hG0 := of_laid hL
  clear hA0 hval0 hsz0 hsz
  refine (walk _ _ l0 W hr0 hc0 hm0 y0 hw0 hG0).mono fun e W' ⟨he, bel⟩ => ?_
  subst he
  exact ⟨_, rfl, _, _, _, [], _, [], hW', trodAll_mk1 (shut_bool Tryd.underlying4 _), (trodAll_cons_mk (Below.trod laidOut (by kernel_rfl) (of_decide_eq_true (by kernel_rfl)) K0 bel LT0) trodAll_mk0), rfl, bel.frame _, fun h => by cases h⟩
theorem over : Rows.insnReadsRow.holds Tryd.pinned (OpenSpec.ofChange Rows.insnReadsSpec) :=
  OpenClaim.holds_of_wide 4 Tryd.f4 rfl rfl rfl rfl rfl rfl rfl ⟨rfl, rfl, rfl, rfl, rfl⟩ rfl rfl rfl rfl rfl (by kernel_rfl) Tryd.func4 (by kernel_rfl)
    (of_decide_eq_true (by kernel_rfl)) (by unfold Func.isWrapper; first | (rw [if_pos (by decide +kernel)]; kernel_rfl) | (rw [if_neg (by decide +kernel)]; exact ⟨rfl, rfl⟩))
    (fun os started H enc _ => lifted os started H enc)
theorem proved : Rows.InsnReadsSaid := over
theorem row_tie : Rows.insnReadsRow.laidByTextAt .later Tryd.pinned [.data] true :=
  insnReads_row_tie
theorem card : Rows.InsnReadsCardSaid :=
  Claim7.holds_tied_plain_at .later [] [.data] true (true, "b6e17da3c567efb43bc858ef4b2f5e743fb6ee43301f49caf48d6b7a5a1560b4") false
    proved (fun _ h => by cases h) (by kernel_rfl) (fun _ h => by cases h) row_tie rfl ⟨rfl, rfl⟩ (by kernel_rfl) rfl
    (fun f fn hf hfn => by
      obtain rfl : f = 4 := Option.some.inj ((show Tryd.prog.funcNamed "stockade/stockadelaw02.InsnReads" = some 4 by kernel_rfl).symm.trans hf) |>.symm
      obtain rfl : fn = Tryd.f4 := (Option.some.inj (Tryd.func4.symm.trans hfn)).symm
      exact ⟨by kernel_rfl, fun j t ht => by
        rw [Tryd.params4] at ht
        exact Opening.of_all (j := j) ht (by kernel_rfl)⟩)
    (by kernel_rfl)
#print axioms card
end Go.Proofs.YtkojjjdeacdabaaDoor.insnReads
namespace Go.Proofs.YtkojjjdeacdabaaDoor
/-- The row, under a short name, for the claim. -/
theorem insnReads_holds : Rows.InsnReadsCardSaid := insnReads.card
end Go.Proofs.YtkojjjdeacdabaaDoor
