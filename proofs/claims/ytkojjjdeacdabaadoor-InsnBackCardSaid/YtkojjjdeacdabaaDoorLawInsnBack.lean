/- The law InsnBack: for every input that can be read it returns true, and each argument reads behind the call as it read before. -/
import Derived.Test.YtkojjjdeacdabaaDoorRows
import Derived.Test.YtkojjjdeacdabaaDoorCards
import Derived.Test.YtkojjjdeacdabaaDoorTie
import Derived.SevenTiedAt
import Derived.LaidMore
import Derived.Lib.LaidTab
import Derived.Test.YtkojjjdeacdabaaDoorBk
import Derived.Test.YtkojjjdeacdabaaDoorPureInsnBack
import Derived.Test.YtkojjjdeacdabaaDoorOpen
import Derived.WalkKit
import Derived.ProofKit
import Derived.OpenShut
import Derived.ShutString
import Derived.ChangeOld
import Derived.Below
import Derived.SizedLaws
import Derived.Test.YtkojjjdeacdabaaDoorWSized
namespace Go.Proofs.YtkojjjdeacdabaaDoor.insnBack
open Go.ChangeShapes Go.WideShapes Go.ChangeAt Go.RowKit
open Go.ChangeMaps (open_string shut_string)
open Go.Proofs.YtkojjjdeacdabaaDoor.Opening
set_option linter.unusedVariables false
set_option linter.unusedSimpArgs false
theorem own : ownKnob Tryd.prog.godebug = none := by kernel_rfl
theorem laidOut : laidOutB Tryd.prog = true := by kernel_rfl
open Go.Proofs.YtkojjjdeacdabaaDoorW.PrintWords
theorem okWide_array {P : Program} {w : World} {r : Reach} {base : Nat} {t : TypeId} {v : Value} {n : Nat} {e : TypeId} (ht : P.underlying t = some (.array n e)) (h : Value.okWide P w r base t v) : ∃ cs, v = .agg cs ∧ cs.size = P.cellsOf t := by
  simp only [Value.okWide, ht] at h
  obtain ⟨cs, h1, h2, _⟩ := h
  exact ⟨cs, h1, h2⟩
/-- An array of eight bytes, laid open. -/
theorem flat_array8 {H : Type} {enc : TypeId × Value → H} {P : Program} {w : World} {base : Nat} {spare : Nat → Bool} {held : Bool} {r : Reach} {b0 : Nat} {t e : TypeId} {v : Value} {d : DataW H} {p : List MemPlace} (hs : P.underlying t = some (.array 8 e)) (he : P.underlying e = some (.int .u8)) (hce : P.cellsOf e = 1) (hC : P.cellsOf t = 8)
    (hv : Value.okWide P w r b0 t v) (h : DataW.Trod enc P w base spare held t v d p) : ∃ cs : List Value, v = .agg cs.toArray ∧ cs.length = 8 ∧ ∀ j, j < 8 → ∃ a, cs[j]? = some (.int .u8 a) ∧ (Lit.int .u8 a).wf = true := by
  obtain ⟨cs, rfl, hsz⟩ := okWide_array hs hv
  obtain ⟨l⟩ := cs
  obtain ⟨fuel, hf⟩ := h
  have hl : l.length = 8 := by simpa using hsz.trans hC
  refine ⟨l, rfl, hl, fun j hj => ?_⟩
  obtain ⟨xs, n, _, _, _, hlen, hg⟩ := DataW.trod_array hs hf
  have h1 := hg j hj
  rw [hce] at h1
  have h2 : (((Value.agg (Array.mk l)).cells.toList.drop (j * 1)).take 1 : List Value) = ([l[j]] : List Value) := by
    simp only [Value.cells, Nat.mul_one]
    rw [List.drop_eq_getElem_cons (by omega)]; rfl
  rw [h2] at h1
  have h3 := h1.trans (List.getElem?_eq_getElem (l := xs) (i := j) (by omega))
  obtain ⟨a, e1, _, e3⟩ := DataW.trod_int he h3
  simp only [List.cons.injEq, and_true] at e1
  exact ⟨a, by rw [List.getElem?_eq_getElem (by omega), e1], e3⟩
theorem list8 {α : Type} {cs : List α} {a0 a1 a2 a3 a4 a5 a6 a7 : α} (h : cs.length = 8) (h0 : cs[0]? = some a0) (h1 : cs[1]? = some a1) (h2 : cs[2]? = some a2) (h3 : cs[3]? = some a3) (h4 : cs[4]? = some a4) (h5 : cs[5]? = some a5) (h6 : cs[6]? = some a6) (h7 : cs[7]? = some a7) : cs = [a0, a1, a2, a3, a4, a5, a6, a7] := by
  match cs, h with
  | [c0, c1, c2, c3, c4, c5, c6, c7], _ => simp_all
theorem walk (a0_0 : Int) (a0_1 : Int) (a0_2 : Int) (a0_3 : Int) (a0_4 : Int) (b0 b1 b2 b3 b4 b5 b6 b7 : Int) (w : World) (w0_0 : (Lit.int .u8 a0_0).wf = true) (w0_1 : (Lit.int .u8 a0_1).wf = true) (w0_2 : (Lit.int .u8 a0_2).wf = true) (w0_3 : (Lit.int .i16 a0_3).wf = true) (w0_4 : (Lit.int .i32 a0_4).wf = true) (v0 : (Lit.int .u8 b0).wf = true) (v1 : (Lit.int .u8 b1).wf = true) (v2 : (Lit.int .u8 b2).wf = true) (v3 : (Lit.int .u8 b3).wf = true) (v4 : (Lit.int .u8 b4).wf = true) (v5 : (Lit.int .u8 b5).wf = true) (v6 : (Lit.int .u8 b6).wf = true) (v7 : (Lit.int .u8 b7).wf = true) (hG0 : Go.Proofs.YtkojjjdeacdabaaDoorW.PrintWords.Kd.C (Go.Proofs.YtkojjjdeacdabaaDoorW.PrintWords.Kd.int .i64) w (some ⟨0, 0, none⟩) Go.Proofs.YtkojjjdeacdabaaDoor.P.gl0.length Go.Proofs.YtkojjjdeacdabaaDoor.P.gl0) :
    Calls Tryd.prog 6 #[.agg #[.int .u8 a0_0, .int .u8 a0_1, .int .u8 a0_2, .int .i16 a0_3, .int .i32 a0_4], .agg #[.int .u8 b0, .int .u8 b1, .int .u8 b2, .int .u8 b3, .int .u8 b4, .int .u8 b5, .int .u8 b6, .int .u8 b7]] w fun e w' => e = .returned (.bool true) ∧ Below w.heap.size w w' := by
  obtain ⟨k, k0, k1, k2, k3, k4, hD, hF, hS, hW, h⟩ := Pure.InsnBack a0_0 a0_1 a0_2 a0_3 a0_4 b0 b1 b2 b3 b4 b5 b6 b7 w0_0 w0_1 w0_2 w0_3 w0_4 v0 v1 v2 v3 v4 v5 v6 v7
  rcases h with ⟨l, hE, hd, hs, hK⟩ | ⟨l, hE, hds⟩
  · exact P.stockadelaw02_InsnBack.calls k a0_0 a0_1 a0_2 a0_3 a0_4 b0 b1 b2 b3 b4 b5 b6 b7 k0 k1 k2 k3 k4 l w hG0 hD hF hS hW hE hd hs hK
  · exact P.stockadelaw02_InsnBack.calls2 k a0_0 a0_1 a0_2 a0_3 a0_4 b0 b1 b2 b3 b4 b5 b6 b7 k0 k1 k2 k3 k4 l w hG0 hD hF hS hW hE hds
def X : List (String × DataW Unit) := Rows.insnBackRow.laid
theorem g0 : Tryd.prog.globalNamed "stockade/insn.sizes" = some 0 := by kernel_rfl
theorem gt0 : (Tryd.prog.globals[0]?).map (·.type) = some 73 := by kernel_rfl
theorem door_met (os : Os) (args : Array Value) : laidMetH Tryd.prog X ((World.doorLaid Tryd.prog 4000 os).forCall (fun _ _ => 0) ⟨#[], args, []⟩).memory :=
  laidMetH_of_parts3 (fuel := 8) (laidMet_of_run' 8 (by kernel_rfl) (by kernel_rfl)) (by kernel_rfl) (by kernel_rfl)
theorem of_laid {w : World} (h : laidMetH Tryd.prog X w) : Go.Proofs.YtkojjjdeacdabaaDoorW.PrintWords.Kd.C (Go.Proofs.YtkojjjdeacdabaaDoorW.PrintWords.Kd.int .i64) w (some ⟨0, 0, none⟩) Go.Proofs.YtkojjjdeacdabaaDoor.P.gl0.length Go.Proofs.YtkojjjdeacdabaaDoor.P.gl0 := by
  rw [MakeChecks.laidMetH_plain _ _ _ (by kernel_rfl)] at h
  exact Opening.tab_C (Lib.tabIs_of_head (k := .i64) (zs := [4, 2, 1, 8]) (rest := []) g0 gt0 Tryd.underlying73 Tryd.underlying3 (by kernel_rfl) (by kernel_rfl) h) g0 (by decide) (by decide)
set_option maxRecDepth 100000 in
theorem lifted (os : Os) (started : os.Started) (H : Type) (enc : TypeId × Value → H) :
    ReturnsInHanded {} Tryd.checked os 6 .any (fun w args => (Rows.insnBackSpec.pre enc Tryd.prog Tryd.f6 [] false w args ∧ laidMetH Tryd.prog X w) ∧ sizedMet enc Tryd.prog Tryd.f6 (OpenSpec.ofChange Rows.insnBackSpec) false w args) (Rows.insnBackSpec.post enc Tryd.prog Tryd.f6 false true false false) := by
  refine returnsInHanded_of_change_and (C := Tryd.checked) (X := fun w _ => laidMetH Tryd.prog X w) (fun _ _ _ hh h => h.of_heap hh) own started (by kernel_rfl) Tryd.func6
    (ChangeSpec.witness_shaped (enc := enc) (C := Tryd.checked) (os := os) (X := fun w _ => laidMetH Tryd.prog X w) false (World.doorLaid Tryd.prog 4000 os) #[.agg #[.int .u8 0, .int .u8 0, .int .u8 0, .int .i16 0, .int .i32 0], .agg #[.int .u8 0, .int .u8 0, .int .u8 0, .int .u8 0, .int .u8 0, .int .u8 0, .int .u8 0, .int .u8 0]] 8 rfl (World.shaped_of_RefB (by kernel_rfl) (by kernel_rfl)) (by kernel_rfl) (by kernel_rfl) (by kernel_rfl) (door_met os _)) ?_
  intro W base args ds gs before hval0 hW hcnd hsz0 hL _
  have hval : ∀ (j : Nat) t v, Tryd.f6.params[j]? = some t → args[j]? = some v → Value.okWide Tryd.prog W .any base t v := hval0
  have hW' := hW
  obtain ⟨p, q, hA0, hV, rfl, hfz, hnd⟩ := hW
  have hA : DataW.TrodAll enc Tryd.prog W 0 (fun _ => true) true Tryd.f6.params.toList args.toList ds p := hA0
  rw [Tryd.params6] at hA hval
  obtain ⟨v0, vs0, d0, ds0, p0, q0, hargs, rfl, rfl, h0, r0⟩ := trodAll_cons hA
  obtain ⟨v1, vs1, d1, ds1, p1, q1, rfl, rfl, rfl, h1, r1⟩ := trodAll_cons r0
  obtain ⟨rfl, rfl, rfl⟩ := trodAll_nil r1
  obtain rfl : args = #[v0, v1] := by cases args; simp_all
  obtain ⟨rfl, rfl⟩ := trodVars_none hV
  have K0 := h0
  have LT0 : ∀ x ∈ p0, x.block < W.heap.size := by obtain ⟨m, hm⟩ := K0; exact DataW.trod_lt m _ _ _ hm
  have K1 := h1
  have LT1 : ∀ x ∈ p1, x.block < W.heap.size := by obtain ⟨m, hm⟩ := K1; exact DataW.trod_lt m _ _ _ hm
  obtain ⟨cs0, rfl, hc0⟩ := flat_struct Tryd.underlying24 (by kernel_rfl) (by kernel_rfl) (hval 0 24 v0 rfl rfl) h0
  obtain ⟨a0_0, e0_0, w0_0⟩ := hc0.int 0 _ rfl Tryd.underlying5
  obtain ⟨a0_1, e0_1, w0_1⟩ := hc0.int 1 _ rfl Tryd.underlying5
  obtain ⟨a0_2, e0_2, w0_2⟩ := hc0.int 2 _ rfl Tryd.underlying5
  obtain ⟨a0_3, e0_3, w0_3⟩ := hc0.int 3 _ rfl Tryd.underlying22
  obtain ⟨a0_4, e0_4, w0_4⟩ := hc0.int 4 _ rfl Tryd.underlying21
  obtain rfl := list5 hc0.1 rfl e0_0 e0_1 e0_2 e0_3 e0_4
  obtain ⟨cs1, rfl, hl1, hc1⟩ := flat_array8 Tryd.underlying47 Tryd.underlying5 (by kernel_rfl) (by kernel_rfl) (hval 1 47 v1 rfl rfl) h1
  obtain ⟨b0, e1_0, y0⟩ := hc1 0 (by omega)
  obtain ⟨b1, e1_1, y1⟩ := hc1 1 (by omega)
  obtain ⟨b2, e1_2, y2⟩ := hc1 2 (by omega)
  obtain ⟨b3, e1_3, y3⟩ := hc1 3 (by omega)
  obtain ⟨b4, e1_4, y4⟩ := hc1 4 (by omega)
  obtain ⟨b5, e1_5, y5⟩ := hc1 5 (by omega)
  obtain ⟨b6, e1_6, y6⟩ := hc1 6 (by omega)
  obtain ⟨b7, e1_7, y7⟩ := hc1 7 (by omega)
  obtain rfl := list8 hl1 e1_0 e1_1 e1_2 e1_3 e1_4 e1_5 e1_6 e1_7
  obtain hG0 := of_laid hL
  clear hA0 hval0 hsz0
  refine (walk a0_0 a0_1 a0_2 a0_3 a0_4 b0 b1 b2 b3 b4 b5 b6 b7 W w0_0 w0_1 w0_2 w0_3 w0_4 y0 y1 y2 y3 y4 y5 y6 y7 hG0).mono fun e W' ⟨he, bel⟩ => ?_
  subst he
  exact ⟨_, rfl, _, _, _, [], _, [], hW', trodAll_mk1 (shut_bool Tryd.underlying4 _), (trodAll_cons_mk (Below.trod laidOut (by kernel_rfl) (of_decide_eq_true (by kernel_rfl)) K0 bel LT0) (trodAll_cons_mk (Below.trod laidOut (by kernel_rfl) (of_decide_eq_true (by kernel_rfl)) K1 bel LT1) trodAll_mk0)), rfl, bel.frame _, fun h => by cases h⟩
theorem over : Rows.insnBackRow.holds Tryd.pinned (OpenSpec.ofChange Rows.insnBackSpec) :=
  OpenClaim.holds_of_wide 6 Tryd.f6 rfl rfl rfl rfl rfl rfl rfl ⟨rfl, rfl, rfl, rfl, rfl⟩ rfl rfl rfl rfl rfl (by kernel_rfl) Tryd.func6 (by kernel_rfl)
    (of_decide_eq_true (by kernel_rfl)) (by unfold Func.isWrapper; first | (rw [if_pos (by decide +kernel)]; kernel_rfl) | (rw [if_neg (by decide +kernel)]; exact ⟨rfl, rfl⟩))
    (fun os started H enc _ => lifted os started H enc)
theorem proved : Rows.InsnBackSaid := over
theorem row_tie : Rows.insnBackRow.laidByTextAt .later Tryd.pinned [.data] true :=
  insnBack_row_tie
theorem card : Rows.InsnBackCardSaid :=
  Claim7.holds_tied_plain_at .later [] [.data] true (true, "b6e17da3c567efb43bc858ef4b2f5e743fb6ee43301f49caf48d6b7a5a1560b4") false
    proved (fun _ h => by cases h) (by kernel_rfl) (fun _ h => by cases h) row_tie rfl ⟨rfl, rfl⟩ (by kernel_rfl) rfl
    (fun f fn hf hfn => by
      obtain rfl : f = 6 := Option.some.inj ((show Tryd.prog.funcNamed "stockade/stockadelaw02.InsnBack" = some 6 by kernel_rfl).symm.trans hf) |>.symm
      obtain rfl : fn = Tryd.f6 := (Option.some.inj (Tryd.func6.symm.trans hfn)).symm
      exact ⟨by kernel_rfl, fun j t ht => by
        rw [Tryd.params6] at ht
        exact Opening.of_all (j := j) ht (by kernel_rfl)⟩)
    (by kernel_rfl)
#print axioms card
end Go.Proofs.YtkojjjdeacdabaaDoor.insnBack
namespace Go.Proofs.YtkojjjdeacdabaaDoor
/-- The row, under a short name, for the claim. -/
theorem insnBack_holds : Rows.InsnBackCardSaid := insnBack.card
end Go.Proofs.YtkojjjdeacdabaaDoor
