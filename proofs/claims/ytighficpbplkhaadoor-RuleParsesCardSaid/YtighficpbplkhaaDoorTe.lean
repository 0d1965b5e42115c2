/- Chapter 18: rule.test (walked by hand): a test of a text, that may have been written in another way. -/
import Derived.Test.YtighficpbplkhaaDoorCt
import Derived.Test.YtighficpbplkhaaDoorPxXXCu
import Derived.Test.YtighficpbplkhaaDoorPx19
import Derived.Test.YtighficpbplkhaaDoorPx3
import Derived.Test.YtighficpbplkhaaDoorPx2
import Derived.Test.YtighficpbplkhaaDoorPx19
import Derived.Deep.DeepCutAuto
import Derived.Deep.CutBlock
import Derived.Deep.RegionHeld3
import Derived.Lib.ParseIntBCases
namespace Go.Proofs.YtighficpbplkhaaDoor.P
open Go.RowKit Go.Proofs.YtighficpbplkhaaDoorW.PrintWords Go.Proofs.YtighficpbplkhaaDoorW.PrintLast Go.Proofs.YtighficpbplkhaaDoorW.PrintMore
set_option linter.unusedVariables false
set_option linter.unusedSimpArgs false

attribute [local go_sem] max2_int min2_int max_two min_two max_three min_three max_four min_four
def tailF (k : Nat) (span : ByteArray) (ok b : Bool) (t : S50) : Option (S50 × Bool) :=
  (strings_Cut.f span (⟨#[46, 46]⟩ : ByteArray)).bind fun c =>
    if c.1.size ≤ 281474976710656 ∧ c.2.1.size ≤ 281474976710656 then if (ok && c.2.2) = true then if ((b || cntB c.1) || cntB c.2.1) = true then some (⟨t.f0, t.f1, t.f2, t.f3, t.f4, cntN c.1, cntN c.2.1⟩, false)
      else (rule_may.f k t.f0 t.f1 t.f2 t.f3 t.f4 (cntN c.1) (cntN c.2.1)).bind fun m => some (⟨t.f0, t.f1, t.f2, t.f3, t.f4, cntN c.1, cntN c.2.1⟩, m)
    else some (⟨t.f0, t.f1, t.f2, t.f3, t.f4, cntN c.1, cntN c.2.1⟩, false) else none
def sizeV (n : Int) : Int := wrap64 (Go.bits .and .u64 (n / 8) 15)
def atV (n : Int) : Int := if 999 < n then 999 else n
def bytesF (k : Nat) (what span : ByteArray) (ok : Bool) (kind : Int) (nt : Bool) : Option (S50 × Bool) :=
  (strings_Cut.f what (⟨#[64]⟩ : ByteArray)).bind fun c1 => (strings_Cut.f c1.2.1 (⟨#[47]⟩ : ByteArray)).bind fun c2 => (strings_TrimPrefix.f c1.1 (⟨#[117]⟩ : ByteArray)).bind fun sz =>
    if sz.size ≤ 281474976710656 ∧ c2.1.size ≤ 281474976710656 ∧ c2.2.1.size ≤ 281474976710656 then
      if c2.2.2 = true then tailF k span (ok && c1.2.2) ((cntB sz || cntB c2.1) || cntB c2.2.1) ⟨nt, kind, atV (cntN c2.1), sizeV (cntN sz), cntN c2.2.1, 0, 0⟩
      else if 1 ≤ sizeV (cntN sz) ∧ sizeV (cntN sz) ≤ 8 then (rule_full.f (sizeV (cntN sz))).bind fun m => tailF k span (ok && c1.2.2) (cntB sz || cntB c2.1) ⟨nt, kind, atV (cntN c2.1), sizeV (cntN sz), m, 0, 0⟩
      else tailF k span (ok && c1.2.2) (cntB sz || cntB c2.1) ⟨nt, kind, atV (cntN c2.1), sizeV (cntN sz), 0, 0, 0⟩
    else none
def restF (k : Nat) (what span : ByteArray) (ok : Bool) (kind : Int) (nt : Bool) : Option (S50 × Bool) :=
  if kind ≥ 3 then bytesF k what span ok kind nt else tailF k span ok false ⟨nt, kind, 0, 0, 0, 0, 0⟩
def testF (k : Nat) (s : ByteArray) : Option (S50 × Bool) :=
  (strings_CutPrefix.f s (⟨#[110, 111, 116, 32]⟩ : ByteArray)).bind fun c0 => (strings_Cut.f c0.1 (⟨#[32]⟩ : ByteArray)).bind fun c =>
    if c.1.toList = ([108, 101, 110] : List UInt8) then restF k c.1 c.2.1 c.2.2 1 c0.2
    else if c.1.toList = ([105, 110] : List UInt8) then restF k c.1 c.2.1 c.2.2 2 c0.2
    else if c.1.toList = ([112, 97, 115, 116] : List UInt8) then (strings_Cut.f c.2.1 (⟨#[32]⟩ : ByteArray)).bind fun d => restF k d.1 d.2.1 d.2.2 4 c0.2
    else restF k c.1 c.2.1 c.2.2 3 c0.2
theorem cntN_bd (s : ByteArray) : 0 ≤ cntN s ∧ cntN s ≤ 18446744073709551615 := by
  unfold cntN
  cases h : Lib.parseUintB 64 s.data.toList with
  | ok u => exact ⟨Int.natCast_nonneg _, by have := Lib.parseUintB_le h; simp only; omega⟩
  | «syntax» => exact ⟨by simp, by simp⟩
  | range => exact ⟨by simp, by simp⟩
theorem name_world {P : Program} {c : Code} {Q : Exit → Act → World → Prop} {a : Act} {W : World} (R : World → Prop) (hR : R W) (h : ∀ W', R W' → Code.wp P c Q a W') : Code.wp P c Q a W := h W hR
theorem name_then {K : Act → World → Prop} {Q : Exit → Act → World → Prop} {a : Act} {W : World} (R : World → Prop) (hR : R W) (h : ∀ W', R W' → Exit.then K Q .normal a W') : Exit.then K Q .normal a W := h W hR
theorem put7 {w0 w : World} {n g : Nat} {x0 x1 x2 x3 x4 x5 x6 v0 v1 v2 v3 v4 v5 v6 : Value} {T : TypeId} (h : w.heap[g]? = some (.cells #[x0, x1, x2, x3, x4, x5, x6] T (0, 0))) (hb : Below n w0 w) (hn : n ≤ g) :
    (((((((w.setCell ⟨g, 0, none⟩ v0).setCell ⟨g, 1, none⟩ v1).setCell ⟨g, 2, none⟩ v2).setCell ⟨g, 3, none⟩ v3).setCell ⟨g, 4, none⟩ v4).setCell ⟨g, 5, none⟩ v5).setCell ⟨g, 6, none⟩ v6).heap[g]? = some (.cells #[v0, v1, v2, v3, v4, v5, v6] T (0, 0)) ∧
    Below n w0 (((((((w.setCell ⟨g, 0, none⟩ v0).setCell ⟨g, 1, none⟩ v1).setCell ⟨g, 2, none⟩ v2).setCell ⟨g, 3, none⟩ v3).setCell ⟨g, 4, none⟩ v4).setCell ⟨g, 5, none⟩ v5).setCell ⟨g, 6, none⟩ v6) := by
  have h0 : (w.setCell ⟨g, 0, none⟩ v0).heap[g]? = some (.cells #[v0, x1, x2, x3, x4, x5, x6] T (0, 0)) := blk_put h 0 v0 rfl
  have b0 := hb.setCell (p := ⟨g, 0, none⟩) hn v0
  generalize w.setCell ⟨g, 0, none⟩ v0 = w1 at h0 b0 ⊢
  have h1 : (w1.setCell ⟨g, 1, none⟩ v1).heap[g]? = some (.cells #[v0, v1, x2, x3, x4, x5, x6] T (0, 0)) := blk_put h0 1 v1 rfl
  have b1 := b0.setCell (p := ⟨g, 1, none⟩) hn v1
  generalize w1.setCell ⟨g, 1, none⟩ v1 = w2 at h1 b1 ⊢
  have h2 : (w2.setCell ⟨g, 2, none⟩ v2).heap[g]? = some (.cells #[v0, v1, v2, x3, x4, x5, x6] T (0, 0)) := blk_put h1 2 v2 rfl
  have b2 := b1.setCell (p := ⟨g, 2, none⟩) hn v2
  generalize w2.setCell ⟨g, 2, none⟩ v2 = w3 at h2 b2 ⊢
  have h3 : (w3.setCell ⟨g, 3, none⟩ v3).heap[g]? = some (.cells #[v0, v1, v2, v3, x4, x5, x6] T (0, 0)) := blk_put h2 3 v3 rfl
  have b3 := b2.setCell (p := ⟨g, 3, none⟩) hn v3
  generalize w3.setCell ⟨g, 3, none⟩ v3 = w4 at h3 b3 ⊢
  have h4 : (w4.setCell ⟨g, 4, none⟩ v4).heap[g]? = some (.cells #[v0, v1, v2, v3, v4, x5, x6] T (0, 0)) := blk_put h3 4 v4 rfl
  have b4 := b3.setCell (p := ⟨g, 4, none⟩) hn v4
  generalize w4.setCell ⟨g, 4, none⟩ v4 = w5 at h4 b4 ⊢
  have h5 : (w5.setCell ⟨g, 5, none⟩ v5).heap[g]? = some (.cells #[v0, v1, v2, v3, v4, v5, x6] T (0, 0)) := blk_put h4 5 v5 rfl
  have b5 := b4.setCell (p := ⟨g, 5, none⟩) hn v5
  generalize w5.setCell ⟨g, 5, none⟩ v5 = w6 at h5 b5 ⊢
  exact ⟨blk_put h5 6 v6 rfl, b5.setCell (p := ⟨g, 6, none⟩) hn v6⟩
/-- The variables of a test in the making. -/
def Mk (w : World) (g2 g4 g5 : Nat) (nt : Bool) (kind at_ size mask : Int) (b : Bool) (W : World) : Prop :=
  W.heap[g2]? = some (.cells #[.bool false, .int .i64 0, .int .i64 0, .int .i64 0, .int .u64 0, .int .u64 0, .int .u64 0] 50 (0, 0)) ∧
  W.heap[g4]? = some (.cells #[.bool nt, .int .i64 kind, .int .i64 at_, .int .i64 size, .int .u64 mask, .int .u64 0, .int .u64 0] 50 (0, 0)) ∧
  W.heap[g5]? = some (.cells #[.bool b] 4 (0, 0)) ∧ Below w.heap.size w W
theorem Mk.drewN {w : World} {g2 g4 g5 : Nat} {nt : Bool} {kind at_ size mask : Int} {b : Bool} {W : World} (h : Mk w g2 g4 g5 nt kind at_ size mask b W) (n : Nat) : Mk w g2 g4 g5 nt kind at_ size mask b (W.drewN n) := ⟨blk_drewN h.1 n, blk_drewN h.2.1 n, blk_drewN h.2.2.1 n, pw_below_drewN h.2.2.2 n⟩
theorem Mk.set_nt {w : World} {g2 g4 g5 : Nat} {nt : Bool} {kind at_ size mask : Int} {b : Bool} {W : World} (n24 : g2 ≠ g4) (n45 : g4 ≠ g5) (ge : w.heap.size ≤ g4) {v : Bool} (h : Mk w g2 g4 g5 nt kind at_ size mask b W) : Mk w g2 g4 g5 v kind at_ size mask b (W.setCell ⟨g4, 0, none⟩ (.bool v)) :=
  ⟨blk_far h.1 (p := ⟨g4, 0, none⟩) n24 _, blk_put h.2.1 0 _ rfl, blk_far h.2.2.1 (p := ⟨g4, 0, none⟩) (Ne.symm n45) _, h.2.2.2.setCell (p := ⟨g4, 0, none⟩) ge _⟩
theorem Mk.set_kind {w : World} {g2 g4 g5 : Nat} {nt : Bool} {kind at_ size mask : Int} {b : Bool} {W : World} (n24 : g2 ≠ g4) (n45 : g4 ≠ g5) (ge : w.heap.size ≤ g4) {v : Int} (h : Mk w g2 g4 g5 nt kind at_ size mask b W) : Mk w g2 g4 g5 nt v at_ size mask b (W.setCell ⟨g4, 1, none⟩ (.int .i64 v)) :=
  ⟨blk_far h.1 (p := ⟨g4, 1, none⟩) n24 _, blk_put h.2.1 1 _ rfl, blk_far h.2.2.1 (p := ⟨g4, 1, none⟩) (Ne.symm n45) _, h.2.2.2.setCell (p := ⟨g4, 1, none⟩) ge _⟩
theorem Mk.set_at {w : World} {g2 g4 g5 : Nat} {nt : Bool} {kind at_ size mask : Int} {b : Bool} {W : World} (n24 : g2 ≠ g4) (n45 : g4 ≠ g5) (ge : w.heap.size ≤ g4) {v : Int} (h : Mk w g2 g4 g5 nt kind at_ size mask b W) : Mk w g2 g4 g5 nt kind v size mask b (W.setCell ⟨g4, 2, none⟩ (.int .i64 v)) :=
  ⟨blk_far h.1 (p := ⟨g4, 2, none⟩) n24 _, blk_put h.2.1 2 _ rfl, blk_far h.2.2.1 (p := ⟨g4, 2, none⟩) (Ne.symm n45) _, h.2.2.2.setCell (p := ⟨g4, 2, none⟩) ge _⟩
theorem Mk.set_size {w : World} {g2 g4 g5 : Nat} {nt : Bool} {kind at_ size mask : Int} {b : Bool} {W : World} (n24 : g2 ≠ g4) (n45 : g4 ≠ g5) (ge : w.heap.size ≤ g4) {v : Int} (h : Mk w g2 g4 g5 nt kind at_ size mask b W) : Mk w g2 g4 g5 nt kind at_ v mask b (W.setCell ⟨g4, 3, none⟩ (.int .i64 v)) :=
  ⟨blk_far h.1 (p := ⟨g4, 3, none⟩) n24 _, blk_put h.2.1 3 _ rfl, blk_far h.2.2.1 (p := ⟨g4, 3, none⟩) (Ne.symm n45) _, h.2.2.2.setCell (p := ⟨g4, 3, none⟩) ge _⟩
theorem Mk.set_mask {w : World} {g2 g4 g5 : Nat} {nt : Bool} {kind at_ size mask : Int} {b : Bool} {W : World} (n24 : g2 ≠ g4) (n45 : g4 ≠ g5) (ge : w.heap.size ≤ g4) {v : Int} (h : Mk w g2 g4 g5 nt kind at_ size mask b W) : Mk w g2 g4 g5 nt kind at_ size v b (W.setCell ⟨g4, 4, none⟩ (.int .u64 v)) :=
  ⟨blk_far h.1 (p := ⟨g4, 4, none⟩) n24 _, blk_put h.2.1 4 _ rfl, blk_far h.2.2.1 (p := ⟨g4, 4, none⟩) (Ne.symm n45) _, h.2.2.2.setCell (p := ⟨g4, 4, none⟩) ge _⟩
theorem Mk.tick {w : World} {g2 g4 g5 : Nat} {nt : Bool} {kind at_ size mask : Int} {b b' : Bool} {W W' : World} (n25 : g2 ≠ g5) (n45 : g4 ≠ g5) (ge : w.heap.size ≤ g5) (h : Mk w g2 g4 g5 nt kind at_ size mask b W) (ht : Tick g5 b' W W') : Mk w g2 g4 g5 nt kind at_ size mask b' W' := by
  have lt : ∀ {g : Nat} {o : Obj}, W.heap[g]? = some o → g < W.heap.size := fun {g o} hh => by
    refine Decidable.byContradiction fun hn => ?_
    rw [Array.getElem?_eq_none (by omega)] at hh
    exact absurd hh (by simp)
  exact ⟨(ht.2.2.2 g2 (lt h.1) n25 (by simp)).trans h.1, (ht.2.2.2 g4 (lt h.2.1) n45 (by simp)).trans h.2.1, ht.1, h.2.2.2.trans (ht.2.1.mono ge)⟩
theorem count_mk (s : ByteArray) (hs : s.size ≤ 281474976710656) {w : World} {g2 g4 g5 : Nat} {nt : Bool} {kind at_ size mask : Int} {b : Bool} {W : World} (n25 : g2 ≠ g5) (n45 : g4 ≠ g5) (ge : w.heap.size ≤ g5) (hG : GF w) (h : Mk w g2 g4 g5 nt kind at_ size mask b W) :
    Calls Tryd.prog 55 #[.string s, .pointer (some ⟨g5, 0, none⟩)] W fun e w' => e = .returned (.int .u64 (cntN s)) ∧ Mk w g2 g4 g5 nt kind at_ size mask (b || cntB s) w' :=
  (count_calls s hs b g5 W (hG.below h.2.2.2) h.2.2.1).mono fun e w' hh => ⟨hh.1, Mk.tick n25 n45 ge h hh.2⟩
set_option maxHeartbeats 4000000 in
set_option maxRecDepth 100000 in
theorem test_calls (k : Nat) (s : ByteArray) (t : S50) (b : Bool) (w : World) (hG : GF w) (h : testF k s = some (t, b)) :
    Calls Tryd.prog 57 #[.string s] w fun e w' => e = .returned (.tuple #[.agg #[.bool t.f0, .int .i64 t.f1, .int .i64 t.f2, .int .i64 t.f3, .int .u64 t.f4, .int .u64 t.f5, .int .u64 t.f6], .bool b]) ∧ Below w.heap.size w w' := by
  unfold testF at h
  replace h := Option.bind_eq_some_iff.1 h
  obtain ⟨⟨s1, nt⟩, hcp, h⟩ := h
  replace h := Option.bind_eq_some_iff.1 h
  obtain ⟨⟨what, span, ok⟩, hcut, h⟩ := h
  dsimp only at hcut h
  have HC0 := Aside0.mk hcp
  have HC1 := Aside0.mk hcut
  have HH := Aside0.mk h
  have HG := Aside0.mk hG.to
  have HGF := Aside0.mk hG
  clear hcp hcut h hG
  have HB := Aside0.mk (Below.refl w.heap.size w)
  go_enter Tryd.func57, Tryd.ntmps57
  go_upto_region 3 with (first
    | ((with_reducible refine gate_dst (N := 2) rfl ?_); refine sh_box 2 #[.bool false, .int .i64 0, .int .i64 0, .int .i64 0, .int .u64 0, .int .u64 0, .int .u64 0] 50 ?_; intro g2 hg w1 hbox hb; have GE2 := sh_z (w := w) hg; replace HB := sh_b (w := w) hb; have BK2 := Aside0.mk hbox; clear hb hbox hg)
    | ((with_reducible refine gate_dst (N := 4) rfl ?_); refine sh_box 4 #[.bool false, .int .i64 0, .int .i64 0, .int .i64 0, .int .u64 0, .int .u64 0, .int .u64 0] 50 ?_; intro g4 hg w2 hbox hb; have GE4 := sh_z (w := w) hg; have N24 := sh_n BK2 hg; replace BK2 := sh_k BK2 hb; replace HB := sh_b (w := w) hb; have BK4 := Aside0.mk hbox; clear hb hbox hg)
    | ((with_reducible refine gate_dst (N := 5) rfl ?_); refine sh_box 5 #[.bool false] 4 ?_; intro g5 hg w3 hbox hb; have GE5 := sh_z (w := w) hg; have N25 := sh_n BK2 hg; have N45 := sh_n BK4 hg; replace BK2 := sh_k BK2 hb; replace BK4 := sh_k BK4 hb; replace HB := sh_b (w := w) hb; have BK5 := Aside0.mk hbox; have z5 := blk_all1 BK5.out; clear hb hbox hg))
  refine name_world (Mk w g2 g4 g5 false 0 0 0 0 false) ⟨blk_far BK2.out (p := ⟨g5, 0, none⟩) N25.out _, blk_far BK4.out (p := ⟨g5, 0, none⟩) N45.out _, blk_put BK5.out 0 _ rfl, HB.out.setCell (p := ⟨g5, 0, none⟩) GE5.out _⟩ ?_
  clear BK2 BK4 BK5 HB z5
  intro w4 HM
  replace HM := Aside0.mk HM
  have z4 := blk_all7 HM.out.2.1
  go_upto_region 4 with (go_at_call 69; (with_reducible refine (strings_CutPrefix.calls s _ s1 nt _ HC0.out).mono ?_); rintro e w' ⟨rfl, ⟨nd0, rfl⟩⟩)
  refine name_world (Mk w g2 g4 g5 nt 0 0 0 0 false) ?_ ?_
  · repeat (first | exact HM.out | apply Mk.drewN | apply Mk.set_nt N24.out N45.out GE4.out)
  clear HM z4
  intro w5 HM
  replace HM := Aside0.mk HM
  have z4 := blk_all7 HM.out.2.1
  go_upto_block 0 with (go_at_call 37; (with_reducible refine (strings_Cut.calls s1 _ what span ok _ ?sg1 HC1.out).mono ?_); (case sg1 => exact Kd.C_below HG.out (by repeat (first | exact HM.out.2.2.2 | apply pw_below_drewN | apply below_alloc))); rintro e w' ⟨rfl, ⟨nd1, rfl⟩⟩)
  refine name_world (Mk w g2 g4 g5 nt 3 0 0 0 false) ?_ ?_
  · repeat (first | exact HM.out | apply Mk.drewN | apply Mk.set_kind N24.out N45.out GE4.out)
  clear HM z4
  intro w6 HM
  replace HM := Aside0.mk HM
  have z4 := blk_all7 HM.out.2.1
  go_cut [6, 7, 8] (fun v6 v7 v8 wc => ∃ (what span : ByteArray) (ok : Bool) (kind : Int), v6 = .string what ∧ v7 = .string span ∧ v8 = .bool ok ∧ Aside0 (restF k what span ok kind nt = some (t, b)) ∧ Aside0 (Mk w g2 g4 g5 nt kind 0 0 0 false wc))
  case first =>
    have hh := HH.out
    clear HH
    by_cases c1 : what.toList = ([108, 101, 110] : List UInt8)
    · rw [if_pos c1] at hh
      replace hh := Aside0.mk hh
      go_wp2
      go_meet
      case rel => exact ⟨what, span, ok, 1, rfl, rfl, rfl, hh, ⟨by repeat (first | exact HM.out | apply Mk.drewN | apply Mk.set_kind N24.out N45.out GE4.out)⟩⟩
    rw [if_neg c1] at hh
    have e1 : (what.toList == ([108, 101, 110] : List UInt8)) = false := by simpa using c1
    by_cases c2 : what.toList = ([105, 110] : List UInt8)
    · rw [if_pos c2] at hh
      replace hh := Aside0.mk hh
      go_wp2
      go_meet
      case rel => exact ⟨what, span, ok, 2, rfl, rfl, rfl, hh, ⟨by repeat (first | exact HM.out | apply Mk.drewN | apply Mk.set_kind N24.out N45.out GE4.out)⟩⟩
    rw [if_neg c2] at hh
    have e2 : (what.toList == ([105, 110] : List UInt8)) = false := by simpa using c2
    by_cases c3 : what.toList = ([112, 97, 115, 116] : List UInt8)
    · rw [if_pos c3] at hh
      replace hh := Option.bind_eq_some_iff.1 hh
      obtain ⟨⟨d1, d2, d3⟩, hd, hh⟩ := hh
      dsimp only at hd hh
      replace hd := Aside0.mk hd
      replace hh := Aside0.mk hh
      go_wp2_with (go_at_call 37; (with_reducible refine (strings_Cut.calls span _ d1 d2 d3 _ ?sg2 hd.out).mono ?_); (case sg2 => exact Kd.C_below HG.out (by repeat (first | exact HM.out.2.2.2 | apply pw_below_drewN | apply below_alloc | refine Below.setCell ?_ GE4.out _))); rintro e w' ⟨rfl, ⟨nd1, rfl⟩⟩)
      go_meet
      case rel => exact ⟨d1, d2, d3, 4, rfl, rfl, rfl, hh, ⟨by repeat (first | exact HM.out | apply Mk.drewN | apply Mk.set_kind N24.out N45.out GE4.out)⟩⟩
    rw [if_neg c3] at hh
    have e3 : (what.toList == ([112, 97, 115, 116] : List UInt8)) = false := by simpa using c3
    replace hh := Aside0.mk hh
    go_wp2
    go_meet
    case rel => exact ⟨what, span, ok, 3, rfl, rfl, rfl, hh, HM⟩
  case rest =>
    clear HM z4 HH HC0 HC1
    obtain ⟨what, span, ok, kind, rfl, rfl, rfl, HH, HM⟩ := hcut
    have z4 := blk_all7 HM.out.2.1
    go_upto_if 49 with (fail)
    go_cut [7, 8] (fun v7 v8 wc => ∃ (span : ByteArray) (ok b' : Bool) (kind at_ size mask : Int), v7 = .string span ∧ v8 = .bool ok ∧ Aside0 (tailF k span ok b' ⟨nt, kind, at_, size, mask, 0, 0⟩ = some (t, b)) ∧ Aside0 (Mk w g2 g4 g5 nt kind at_ size mask b' wc))
    case first =>
      have hh := HH.out
      unfold restF at hh
      clear HH
      by_cases c1 : kind ≥ 3
      rotate_left
      · rw [if_neg c1] at hh
        replace hh := Aside0.mk hh
        go_wp2
        go_meet
        case rel => exact ⟨span, ok, false, kind, 0, 0, 0, rfl, rfl, hh, HM⟩
      rw [if_pos c1] at hh
      unfold bytesF at hh
      replace hh := Option.bind_eq_some_iff.1 hh
      obtain ⟨⟨sz0, place, two⟩, h1, hh⟩ := hh
      replace hh := Option.bind_eq_some_iff.1 hh
      obtain ⟨⟨at0, mask0, some0⟩, h2, hh⟩ := hh
      replace hh := Option.bind_eq_some_iff.1 hh
      obtain ⟨sz, h3, hh⟩ := hh
      dsimp only at h1 h2 h3 hh
      by_cases cz : sz.size ≤ 281474976710656 ∧ at0.size ≤ 281474976710656 ∧ mask0.size ≤ 281474976710656
      rotate_left
      · rw [if_neg cz] at hh; exact absurd hh (by simp)
      rw [if_pos cz] at hh
      obtain ⟨cz1, cz2, cz3⟩ := cz
      replace h1 := Aside0.mk h1
      replace h2 := Aside0.mk h2
      replace h3 := Aside0.mk h3
      replace hh := Aside0.mk hh
      have b1 := cntN_bd sz
      have b2 := cntN_bd at0
      have b3 := cntN_bd mask0
      go_upto_region 17 with (first
        | (go_at_call 37; (with_reducible refine (strings_Cut.calls what _ sz0 place two _ ?sg3 h1.out).mono ?_); (case sg3 => exact Kd.C_below HG.out (by repeat (first | exact HM.out.2.2.2 | apply pw_below_drewN))); rintro e w' ⟨rfl, ⟨nd2, rfl⟩⟩)
        | (go_at_call 37; (with_reducible refine (strings_Cut.calls place _ at0 mask0 some0 _ ?sg4 h2.out).mono ?_); (case sg4 => exact Kd.C_below HG.out (by repeat (first | exact HM.out.2.2.2 | apply pw_below_drewN))); rintro e w' ⟨rfl, ⟨nd3, rfl⟩⟩))
      go_upto_region 18 with (first
        | (go_at_call 70; (with_reducible refine (strings_TrimPrefix.calls sz0 _ sz _ h3.out).mono ?_); rintro e w' ⟨rfl, ⟨nd4, rfl⟩⟩)
        | (go_at_call 55; (with_reducible refine (count_mk sz cz1 N25.out N45.out GE5.out HGF.out (b := false) (nt := nt) (kind := kind) (at_ := 0) (size := 0) (mask := 0) ?hm5).mono ?_); (case hm5 => repeat (first | exact HM.out | apply Mk.drewN)); rintro e w8 ⟨rfl, hm8⟩; clear HM z4; have HM := Aside0.mk hm8; clear hm8; have z4 := blk_all7 HM.out.2.1))
      refine name_world (Mk w g2 g4 g5 nt kind 0 (sizeV (cntN sz)) 0 (cntB sz)) ?_ ?_
      · repeat (first | exact HM.out | apply Mk.drewN | apply Mk.set_size N24.out N45.out GE4.out)
      clear HM z4
      intro w9 HM
      replace HM := Aside0.mk HM
      have z4 := blk_all7 HM.out.2.1
      go_upto_region 19 with (go_at_call 55; (with_reducible refine (count_mk at0 cz2 N25.out N45.out GE5.out HGF.out (b := cntB sz) (nt := nt) (kind := kind) (at_ := 0) (size := sizeV (cntN sz)) (mask := 0) ?hm6).mono ?_); (case hm6 => repeat (first | exact HM.out | apply Mk.drewN)); rintro e w10 ⟨rfl, hm8⟩; clear HM z4; have HM := Aside0.mk hm8; clear hm8; have z4 := blk_all7 HM.out.2.1)
      rw [show (if 999 < cntN at0 then (999 : Int) else cntN at0) = atV (cntN at0) from rfl]
      refine name_world (Mk w g2 g4 g5 nt kind (atV (cntN at0)) (sizeV (cntN sz)) 0 (cntB sz || cntB at0)) ?_ ?_
      · repeat (first | exact HM.out | apply Mk.drewN | apply Mk.set_at N24.out N45.out GE4.out)
      clear HM z4 h1 h2 h3
      intro w11 HM
      replace HM := Aside0.mk HM
      have z4 := blk_all7 HM.out.2.1
      cases ok with
      | true =>
        cases some0 with
        | true =>
          have h5 := Aside0.mk ((if_pos rfl).symm.trans hh.out)
          clear hh
          go_wp2_with (go_at_call 55; (with_reducible refine (count_mk mask0 cz3 N25.out N45.out GE5.out HGF.out (b := cntB sz || cntB at0) (nt := nt) (kind := kind) (at_ := atV (cntN at0)) (size := sizeV (cntN sz)) (mask := 0) ?hmtrue).mono ?_); (case hmtrue => repeat (first | exact HM.out | apply Mk.drewN)); rintro e w12 ⟨rfl, hm8⟩; clear HM z4; have HM := Aside0.mk hm8; clear hm8; have z4 := blk_all7 HM.out.2.1)
          go_meet
          case rel => exact ⟨span, _, _, kind, _, _, _, rfl, rfl, h5, ⟨by repeat (first | exact HM.out | apply Mk.drewN | apply Mk.set_mask N24.out N45.out GE4.out)⟩⟩
        | false =>
          have h5 := (if_neg (by decide)).symm.trans hh.out
          clear hh
          by_cases d1 : 1 ≤ sizeV (cntN sz)
          · by_cases d2 : sizeV (cntN sz) ≤ 8
            · rw [if_pos ⟨d1, d2⟩] at h5
              replace h5 := Option.bind_eq_some_iff.1 h5
              obtain ⟨m, hm, h6⟩ := h5
              replace hm := Aside0.mk hm
              replace h6 := Aside0.mk h6
              go_wp2_with (go_at_call 42; (with_reducible refine (rule_full.calls (sizeV (cntN sz)) m _ hm.out).mono ?_); rintro e w' ⟨rfl, ⟨nd5, rfl⟩⟩)
              go_meet
              case rel => exact ⟨span, _, _, kind, _, _, _, rfl, rfl, h6, ⟨by repeat (first | exact HM.out | apply Mk.drewN | apply Mk.set_mask N24.out N45.out GE4.out)⟩⟩
            · rw [if_neg (fun h => d2 h.2)] at h5
              replace h5 := Aside0.mk h5
              go_wp2
              go_meet
              case rel => exact ⟨span, _, _, kind, _, _, _, rfl, rfl, h5, ⟨by repeat (first | exact HM.out | apply Mk.drewN | apply Mk.set_mask N24.out N45.out GE4.out)⟩⟩
          · rw [if_neg (fun h => d1 h.1)] at h5
            replace h5 := Aside0.mk h5
            go_wp2
            go_meet
            case rel => exact ⟨span, _, _, kind, _, _, _, rfl, rfl, h5, ⟨by repeat (first | exact HM.out | apply Mk.drewN | apply Mk.set_mask N24.out N45.out GE4.out)⟩⟩
      | false =>
        cases some0 with
        | true =>
          have h5 := Aside0.mk ((if_pos rfl).symm.trans hh.out)
          clear hh
          go_wp2_with (go_at_call 55; (with_reducible refine (count_mk mask0 cz3 N25.out N45.out GE5.out HGF.out (b := cntB sz || cntB at0) (nt := nt) (kind := kind) (at_ := atV (cntN at0)) (size := sizeV (cntN sz)) (mask := 0) ?hmfalse).mono ?_); (case hmfalse => repeat (first | exact HM.out | apply Mk.drewN)); rintro e w12 ⟨rfl, hm8⟩; clear HM z4; have HM := Aside0.mk hm8; clear hm8; have z4 := blk_all7 HM.out.2.1)
          go_meet
          case rel => exact ⟨span, _, _, kind, _, _, _, rfl, rfl, h5, ⟨by repeat (first | exact HM.out | apply Mk.drewN | apply Mk.set_mask N24.out N45.out GE4.out)⟩⟩
        | false =>
          have h5 := (if_neg (by decide)).symm.trans hh.out
          clear hh
          by_cases d1 : 1 ≤ sizeV (cntN sz)
          · by_cases d2 : sizeV (cntN sz) ≤ 8
            · rw [if_pos ⟨d1, d2⟩] at h5
              replace h5 := Option.bind_eq_some_iff.1 h5
              obtain ⟨m, hm, h6⟩ := h5
              replace hm := Aside0.mk hm
              replace h6 := Aside0.mk h6
              go_wp2_with (go_at_call 42; (with_reducible refine (rule_full.calls (sizeV (cntN sz)) m _ hm.out).mono ?_); rintro e w' ⟨rfl, ⟨nd5, rfl⟩⟩)
              go_meet
              case rel => exact ⟨span, _, _, kind, _, _, _, rfl, rfl, h6, ⟨by repeat (first | exact HM.out | apply Mk.drewN | apply Mk.set_mask N24.out N45.out GE4.out)⟩⟩
            · rw [if_neg (fun h => d2 h.2)] at h5
              replace h5 := Aside0.mk h5
              go_wp2
              go_meet
              case rel => exact ⟨span, _, _, kind, _, _, _, rfl, rfl, h5, ⟨by repeat (first | exact HM.out | apply Mk.drewN | apply Mk.set_mask N24.out N45.out GE4.out)⟩⟩
          · rw [if_neg (fun h => d1 h.1)] at h5
            replace h5 := Aside0.mk h5
            go_wp2
            go_meet
            case rel => exact ⟨span, _, _, kind, _, _, _, rfl, rfl, h5, ⟨by repeat (first | exact HM.out | apply Mk.drewN | apply Mk.set_mask N24.out N45.out GE4.out)⟩⟩
    case rest =>
      clear HM z4
      obtain ⟨span, ok, b', kind, at_, size, mask, rfl, rfl, HH, HM⟩ := hcut
      have hh := HH.out
      clear HH
      unfold tailF at hh
      replace hh := Option.bind_eq_some_iff.1 hh
      obtain ⟨⟨lo, hi, two⟩, h1, hh⟩ := hh
      dsimp only at h1 hh
      by_cases cz : lo.size ≤ 281474976710656 ∧ hi.size ≤ 281474976710656
      rotate_left
      · rw [if_neg cz] at hh; exact absurd hh (by simp)
      rw [if_pos cz] at hh
      obtain ⟨cz1, cz2⟩ := cz
      replace h1 := Aside0.mk h1
      replace hh := Aside0.mk hh
      have z4 := blk_all7 HM.out.2.1
      go_upto_region 25 with (go_at_call 37; (with_reducible refine (strings_Cut.calls span _ lo hi two _ ?sg7 h1.out).mono ?_); (case sg7 => exact Kd.C_below HG.out (by repeat (first | exact HM.out.2.2.2 | apply pw_below_drewN))); rintro e w' ⟨rfl, ⟨nd2, rfl⟩⟩)
      go_upto_region 26 with (first
        | (go_at_call 55; (with_reducible refine (count_mk lo cz1 N25.out N45.out GE5.out HGF.out (b := b') (nt := nt) (kind := kind) (at_ := at_) (size := size) (mask := mask) ?hm8).mono ?_); (case hm8 => repeat (first | exact HM.out | apply Mk.drewN)); rintro e w12 ⟨rfl, hm8⟩; clear HM z4; have HM := Aside0.mk hm8; clear hm8; have z4 := blk_all7 HM.out.2.1)
        | (go_at_call 55; (with_reducible refine (count_mk hi cz2 N25.out N45.out GE5.out HGF.out (b := b' || cntB lo) (nt := nt) (kind := kind) (at_ := at_) (size := size) (mask := mask) ?hm9).mono ?_); (case hm9 => repeat (first | exact HM.out | apply Mk.drewN)); rintro e w13 ⟨rfl, hm8⟩; clear HM z4; have HM := Aside0.mk hm8; clear hm8; have z4 := blk_all7 HM.out.2.1))
      refine name_world (fun W => W.heap[g2]? = some (.cells #[.bool false, .int .i64 0, .int .i64 0, .int .i64 0, .int .u64 0, .int .u64 0, .int .u64 0] 50 (0, 0)) ∧ W.heap[g4]? = some (.cells #[.bool nt, .int .i64 kind, .int .i64 at_, .int .i64 size, .int .u64 mask, .int .u64 (cntN lo), .int .u64 (cntN hi)] 50 (0, 0)) ∧
        W.heap[g5]? = some (.cells #[.bool ((b' || cntB lo) || cntB hi)] 4 (0, 0)) ∧ Below w.heap.size w W) ?_ ?_
      · exact ⟨blk_far (blk_far HM.out.1 (p := ⟨g4, 5, none⟩) N24.out _) (p := ⟨g4, 6, none⟩) N24.out _, blk_put (blk_put HM.out.2.1 5 _ rfl) 6 _ rfl, blk_far (blk_far HM.out.2.2.1 (p := ⟨g4, 5, none⟩) N45.out.symm _) (p := ⟨g4, 6, none⟩) N45.out.symm _, (HM.out.2.2.2.setCell (p := ⟨g4, 5, none⟩) GE4.out _).setCell (p := ⟨g4, 6, none⟩) GE4.out _⟩
      clear HM z4 h1
      rintro w14 ⟨q2, q4, q5, qb⟩
      have z2 := blk_all7 q2
      have z4 := blk_all7 q4
      have z5 := blk_all1 q5
      have q2 := Aside0.mk q2
      have q4 := Aside0.mk q4
      have q5 := Aside0.mk q5
      have HB := Aside0.mk qb
      clear qb
      have n24 := N24.out
      have n25 := N25.out
      cases ok with
      | false =>
        have h5 := ((if_neg (by simp)).symm.trans hh.out)
        clear hh
        obtain ⟨rfl, rfl⟩ := Prod.mk.inj (Option.some.inj h5)
        refine start_ (n := 15) (S := (fun w' => w'.cell? ⟨g4, 0, none⟩ = some (.bool nt) ∧ w'.cell? ⟨g4, 1, none⟩ = some (.int .i64 kind) ∧ w'.cell? ⟨g4, 2, none⟩ = some (.int .i64 at_) ∧ w'.cell? ⟨g4, 3, none⟩ = some (.int .i64 size) ∧ w'.cell? ⟨g4, 4, none⟩ = some (.int .u64 mask) ∧ w'.cell? ⟨g4, 5, none⟩ = some (.int .u64 (cntN lo)) ∧ w'.cell? ⟨g4, 6, none⟩ = some (.int .u64 (cntN hi)) ∧ w'.cell? ⟨g5, 0, none⟩ = some (.bool ((b' || cntB lo) || cntB hi)))) (ds := [13]) (fl 0 15) (by kernel_rfl) rfl rfl ⟨(blk_cell (blk_drew q4.out) 0).trans rfl, (blk_cell (blk_drew q4.out) 1).trans rfl, (blk_cell (blk_drew q4.out) 2).trans rfl, (blk_cell (blk_drew q4.out) 3).trans rfl, (blk_cell (blk_drew q4.out) 4).trans rfl, (blk_cell (blk_drew q4.out) 5).trans rfl, (blk_cell (blk_drew q4.out) 6).trans rfl, (blk_cell (blk_drew q5.out) 0).trans rfl⟩ (fun hHeld => ?_)
        have q2 := Aside0.mk (blk_drew q2.out)
        have q4 := Aside0.mk (blk_drew q4.out)
        have q5 := Aside0.mk (blk_drew q5.out)
        have HB := Aside0.mk (below_drew1 HB.out)
        clear z2 z4 z5
        generalize w14.drew = w15 at q2 q4 q5 HB hHeld ⊢
        refine take_ (i := 0) (N := some 106) (v := ?_) (a' := ?_) (fl 1 14) rfl rfl (by kernel_rfl) (fun _ _ _ h => h) (Or.inl ⟨by rfl, ?_⟩) hHeld ?_ ?_
        rotate_left; exact ga8_; rotate_left; exact gb_
        refine pure_ (i := 1) (N := some 107) (v := ?_) (a' := ?_) (fl 2 13) rfl rfl (by kernel_rfl) (fun _ _ _ h => h) (Or.inl ⟨by rfl, ?_⟩) ?_ ?_
        rotate_left; exact ga_; rotate_left; exact gb_
        refine pure_ (i := 2) (N := some 108) (v := ?_) (a' := ?_) (fl 3 12) rfl rfl (by kernel_rfl) (fun _ _ _ h => h) (Or.inl ⟨by rfl, ?_⟩) ?_ ?_
        rotate_left; exact ga_; rotate_left; exact gb_
        refine pure_ (i := 3) (N := some 109) (v := undef) (a' := ?_) (fl 4 11) rfl rfl (by kernel_rfl) (fun _ _ _ h => h) (Or.inr ⟨by rfl, rfl⟩) ?_ ?_
        rotate_left
        ·simp only [Act.put, List.setIfInBounds_toArray, List.set_cons_zero, List.set_cons_succ, i64_w, i32_w]
         rfl
        refine pure_ (i := 4) (N := some 110) (v := ?_) (a' := ?_) (fl 5 10) rfl rfl (by kernel_rfl) (fun _ _ _ h => h) (Or.inl ⟨by rfl, ?_⟩) ?_ ?_
        rotate_left; exact ga_; rotate_left; exact gb_
        refine pure_ (i := 5) (N := some 111) (v := ?_) (a' := ?_) (fl 6 9) rfl rfl (by kernel_rfl) (fun _ _ _ h => h) (Or.inl ⟨by rfl, ?_⟩) ?_ ?_
        rotate_left; exact ga_; rotate_left; exact gb_
        refine pure_ (i := 6) (N := some 112) (v := undef) (a' := ?_) (fl 7 8) rfl rfl (by kernel_rfl) (fun _ _ _ h => h) (Or.inr ⟨by rfl, rfl⟩) ?_ ?_
        rotate_left
        ·simp only [Act.put, List.setIfInBounds_toArray, List.set_cons_zero, List.set_cons_succ, i64_w, i32_w]
         rfl
        refine pure_ (i := 7) (N := some 113) (v := undef) (a' := ?_) (fl 8 7) rfl rfl (by kernel_rfl) (fun _ _ _ h => h) (Or.inr ⟨by rfl, rfl⟩) ?_ ?_
        rotate_left
        ·simp only [Act.put, List.setIfInBounds_toArray, List.set_cons_zero, List.set_cons_succ, i64_w, i32_w]
         rfl
        refine pure_ (i := 8) (N := some 114) (v := ?_) (a' := ?_) (fl 9 6) rfl rfl (by kernel_rfl) (fun _ _ _ h => h) (Or.inl ⟨by rfl, ?_⟩) ?_ ?_
        rotate_left; exact ga_; rotate_left; exact gb_
        refine pure_ (i := 9) (N := some 115) (v := ?_) (a' := ?_) (fl 10 5) rfl rfl (by kernel_rfl) (fun _ _ _ h => h) (Or.inl ⟨by rfl, ?_⟩) ?_ ?_
        rotate_left; exact ga_; rotate_left; exact gb_
        refine pure_ (i := 10) (N := some 116) (v := undef) (a' := ?_) (fl 11 4) rfl rfl (by kernel_rfl) (fun _ _ _ h => h) (Or.inr ⟨by rfl, rfl⟩) ?_ ?_
        rotate_left
        ·simp only [Act.put, List.setIfInBounds_toArray, List.set_cons_zero, List.set_cons_succ, i64_w, i32_w]
         rfl
        refine pure_ (i := 11) (N := some 117) (v := undef) (a' := ?_) (fl 12 3) rfl rfl (by kernel_rfl) (fun _ _ _ h => h) (Or.inr ⟨by rfl, rfl⟩) ?_ ?_
        rotate_left
        ·simp only [Act.put, List.setIfInBounds_toArray, List.set_cons_zero, List.set_cons_succ, i64_w, i32_w]
         rfl
        refine pure_ (i := 12) (N := some 118) (v := ?_) (a' := ?_) (fl 13 2) rfl rfl (by kernel_rfl) (fun _ _ _ h => h) (Or.inl ⟨by rfl, ?_⟩) ?_ ?_
        rotate_left; exact ga_; rotate_left; exact gb_
        refine last_ (i := 13) (N := none) (fl 14 1) rfl rfl (by kernel_rfl) (by decide) (fun K hK => ?_)
        have zs := blk_all7 q2.out
        refine skip_ (w1 := ?_) (by rfl) rfl ?_ ?_
        rotate_left
        ·go_simp
         rfl
        refine hK.out _ _ ?_
        clear hK K
        refine pure_ (i := 14) (N := some 3) (v := ?_) (a' := ?_) (fl 15 0) rfl rfl (by kernel_rfl) (fun _ _ _ h => h) (Or.inl ⟨by rfl, ?_⟩) ?_ ?_
        rotate_left; exact ga_; rotate_left; exact gb_
        refine done_ (by kernel_rfl) ?_
        refine name_then (fun W => W.heap[g2]? = some (.cells #[.bool nt, .int .i64 kind, .int .i64 at_, .int .i64 size, .int .u64 mask, .int .u64 (cntN lo), .int .u64 (cntN hi)] 50 (0, 0)) ∧ Below w.heap.size w W) (put7 q2.out HB.out GE2.out) ?_
        rintro w17 ⟨qf, hbf⟩
        have zf := blk_all7 qf
        clear zs hHeld
        have hbf := Aside0.mk hbf
        try go_wp2
        refine bodyPost_ret (results_ct rfl _ _ g2 50 #[.bool nt, .int .i64 kind, .int .i64 at_, .int .i64 size, .int .u64 mask, .int .u64 (cntN lo), .int .u64 (cntN hi)] (0, 0) _ rfl qf rfl rfl rfl) rfl ?_
        exact ⟨rfl, hbf.out⟩
      | true =>
      cases two with
      | false =>
        have h5 := ((if_neg (by simp)).symm.trans hh.out)
        clear hh
        obtain ⟨rfl, rfl⟩ := Prod.mk.inj (Option.some.inj h5)
        refine start_ (n := 15) (S := (fun w' => w'.cell? ⟨g4, 0, none⟩ = some (.bool nt) ∧ w'.cell? ⟨g4, 1, none⟩ = some (.int .i64 kind) ∧ w'.cell? ⟨g4, 2, none⟩ = some (.int .i64 at_) ∧ w'.cell? ⟨g4, 3, none⟩ = some (.int .i64 size) ∧ w'.cell? ⟨g4, 4, none⟩ = some (.int .u64 mask) ∧ w'.cell? ⟨g4, 5, none⟩ = some (.int .u64 (cntN lo)) ∧ w'.cell? ⟨g4, 6, none⟩ = some (.int .u64 (cntN hi)) ∧ w'.cell? ⟨g5, 0, none⟩ = some (.bool ((b' || cntB lo) || cntB hi)))) (ds := [13]) (fl 0 15) (by kernel_rfl) rfl rfl ⟨(blk_cell (blk_drew q4.out) 0).trans rfl, (blk_cell (blk_drew q4.out) 1).trans rfl, (blk_cell (blk_drew q4.out) 2).trans rfl, (blk_cell (blk_drew q4.out) 3).trans rfl, (blk_cell (blk_drew q4.out) 4).trans rfl, (blk_cell (blk_drew q4.out) 5).trans rfl, (blk_cell (blk_drew q4.out) 6).trans rfl, (blk_cell (blk_drew q5.out) 0).trans rfl⟩ (fun hHeld => ?_)
        have q2 := Aside0.mk (blk_drew q2.out)
        have q4 := Aside0.mk (blk_drew q4.out)
        have q5 := Aside0.mk (blk_drew q5.out)
        have HB := Aside0.mk (below_drew1 HB.out)
        clear z2 z4 z5
        generalize w14.drew = w15 at q2 q4 q5 HB hHeld ⊢
        refine take_ (i := 0) (N := some 106) (v := ?_) (a' := ?_) (fl 1 14) rfl rfl (by kernel_rfl) (fun _ _ _ h => h) (Or.inl ⟨by rfl, ?_⟩) hHeld ?_ ?_
        rotate_left; exact ga8_; rotate_left; exact gb_
        refine pure_ (i := 1) (N := some 107) (v := ?_) (a' := ?_) (fl 2 13) rfl rfl (by kernel_rfl) (fun _ _ _ h => h) (Or.inl ⟨by rfl, ?_⟩) ?_ ?_
        rotate_left; exact ga_; rotate_left; exact gb_
        refine pure_ (i := 2) (N := some 108) (v := ?_) (a' := ?_) (fl 3 12) rfl rfl (by kernel_rfl) (fun _ _ _ h => h) (Or.inl ⟨by rfl, ?_⟩) ?_ ?_
        rotate_left; exact ga_; rotate_left; exact gb_
        refine pure_ (i := 3) (N := some 109) (v := ?_) (a' := ?_) (fl 4 11) rfl rfl (by kernel_rfl) (fun _ _ _ h => h) (Or.inl ⟨by rfl, ?_⟩) ?_ ?_
        rotate_left; exact ga_; rotate_left; exact gb_
        refine pure_ (i := 4) (N := some 110) (v := ?_) (a' := ?_) (fl 5 10) rfl rfl (by kernel_rfl) (fun _ _ _ h => h) (Or.inl ⟨by rfl, ?_⟩) ?_ ?_
        rotate_left; exact ga_; rotate_left; exact gb_
        refine pure_ (i := 5) (N := some 111) (v := ?_) (a' := ?_) (fl 6 9) rfl rfl (by kernel_rfl) (fun _ _ _ h => h) (Or.inl ⟨by rfl, ?_⟩) ?_ ?_
        rotate_left; exact ga_; rotate_left; exact gb_
        refine pure_ (i := 6) (N := some 112) (v := undef) (a' := ?_) (fl 7 8) rfl rfl (by kernel_rfl) (fun _ _ _ h => h) (Or.inr ⟨by rfl, rfl⟩) ?_ ?_
        rotate_left
        ·simp only [Act.put, List.setIfInBounds_toArray, List.set_cons_zero, List.set_cons_succ, i64_w, i32_w]
         rfl
        refine pure_ (i := 7) (N := some 113) (v := undef) (a' := ?_) (fl 8 7) rfl rfl (by kernel_rfl) (fun _ _ _ h => h) (Or.inr ⟨by rfl, rfl⟩) ?_ ?_
        rotate_left
        ·simp only [Act.put, List.setIfInBounds_toArray, List.set_cons_zero, List.set_cons_succ, i64_w, i32_w]
         rfl
        refine pure_ (i := 8) (N := some 114) (v := ?_) (a' := ?_) (fl 9 6) rfl rfl (by kernel_rfl) (fun _ _ _ h => h) (Or.inl ⟨by rfl, ?_⟩) ?_ ?_
        rotate_left; exact ga_; rotate_left; exact gb_
        refine pure_ (i := 9) (N := some 115) (v := ?_) (a' := ?_) (fl 10 5) rfl rfl (by kernel_rfl) (fun _ _ _ h => h) (Or.inl ⟨by rfl, ?_⟩) ?_ ?_
        rotate_left; exact ga_; rotate_left; exact gb_
        refine pure_ (i := 10) (N := some 116) (v := undef) (a' := ?_) (fl 11 4) rfl rfl (by kernel_rfl) (fun _ _ _ h => h) (Or.inr ⟨by rfl, rfl⟩) ?_ ?_
        rotate_left
        ·simp only [Act.put, List.setIfInBounds_toArray, List.set_cons_zero, List.set_cons_succ, i64_w, i32_w]
         rfl
        refine pure_ (i := 11) (N := some 117) (v := undef) (a' := ?_) (fl 12 3) rfl rfl (by kernel_rfl) (fun _ _ _ h => h) (Or.inr ⟨by rfl, rfl⟩) ?_ ?_
        rotate_left
        ·simp only [Act.put, List.setIfInBounds_toArray, List.set_cons_zero, List.set_cons_succ, i64_w, i32_w]
         rfl
        refine pure_ (i := 12) (N := some 118) (v := ?_) (a' := ?_) (fl 13 2) rfl rfl (by kernel_rfl) (fun _ _ _ h => h) (Or.inl ⟨by rfl, ?_⟩) ?_ ?_
        rotate_left; exact ga_; rotate_left; exact gb_
        refine last_ (i := 13) (N := none) (fl 14 1) rfl rfl (by kernel_rfl) (by decide) (fun K hK => ?_)
        have zs := blk_all7 q2.out
        refine skip_ (w1 := ?_) (by rfl) rfl ?_ ?_
        rotate_left
        ·go_simp
         rfl
        refine hK.out _ _ ?_
        clear hK K
        refine pure_ (i := 14) (N := some 3) (v := ?_) (a' := ?_) (fl 15 0) rfl rfl (by kernel_rfl) (fun _ _ _ h => h) (Or.inl ⟨by rfl, ?_⟩) ?_ ?_
        rotate_left; exact ga_; rotate_left; exact gb_
        refine done_ (by kernel_rfl) ?_
        refine name_then (fun W => W.heap[g2]? = some (.cells #[.bool nt, .int .i64 kind, .int .i64 at_, .int .i64 size, .int .u64 mask, .int .u64 (cntN lo), .int .u64 (cntN hi)] 50 (0, 0)) ∧ Below w.heap.size w W) (put7 q2.out HB.out GE2.out) ?_
        rintro w17 ⟨qf, hbf⟩
        have zf := blk_all7 qf
        clear zs hHeld
        have hbf := Aside0.mk hbf
        try go_wp2
        refine bodyPost_ret (results_ct rfl _ _ g2 50 #[.bool nt, .int .i64 kind, .int .i64 at_, .int .i64 size, .int .u64 mask, .int .u64 (cntN lo), .int .u64 (cntN hi)] (0, 0) _ rfl qf rfl rfl rfl) rfl ?_
        exact ⟨rfl, hbf.out⟩
      | true =>
      replace hh := Aside0.mk ((if_pos (by simp)).symm.trans hh.out)
      cases hbad : ((b' || cntB lo) || cntB hi) with
      | true =>
        rw [hbad] at q5 z5
        have h5 := ((if_pos hbad).symm.trans hh.out)
        clear hh
        obtain ⟨rfl, rfl⟩ := Prod.mk.inj (Option.some.inj h5)
        refine start_ (n := 15) (S := (fun w' => w'.cell? ⟨g4, 0, none⟩ = some (.bool nt) ∧ w'.cell? ⟨g4, 1, none⟩ = some (.int .i64 kind) ∧ w'.cell? ⟨g4, 2, none⟩ = some (.int .i64 at_) ∧ w'.cell? ⟨g4, 3, none⟩ = some (.int .i64 size) ∧ w'.cell? ⟨g4, 4, none⟩ = some (.int .u64 mask) ∧ w'.cell? ⟨g4, 5, none⟩ = some (.int .u64 (cntN lo)) ∧ w'.cell? ⟨g4, 6, none⟩ = some (.int .u64 (cntN hi)) ∧ w'.cell? ⟨g5, 0, none⟩ = some (.bool true))) (ds := [13]) (fl 0 15) (by kernel_rfl) rfl rfl ⟨(blk_cell (blk_drew q4.out) 0).trans rfl, (blk_cell (blk_drew q4.out) 1).trans rfl, (blk_cell (blk_drew q4.out) 2).trans rfl, (blk_cell (blk_drew q4.out) 3).trans rfl, (blk_cell (blk_drew q4.out) 4).trans rfl, (blk_cell (blk_drew q4.out) 5).trans rfl, (blk_cell (blk_drew q4.out) 6).trans rfl, (blk_cell (blk_drew q5.out) 0).trans rfl⟩ (fun hHeld => ?_)
        have q2 := Aside0.mk (blk_drew q2.out)
        have q4 := Aside0.mk (blk_drew q4.out)
        have q5 := Aside0.mk (blk_drew q5.out)
        have HB := Aside0.mk (below_drew1 HB.out)
        clear z2 z4 z5
        generalize w14.drew = w15 at q2 q4 q5 HB hHeld ⊢
        refine take_ (i := 0) (N := some 106) (v := ?_) (a' := ?_) (fl 1 14) rfl rfl (by kernel_rfl) (fun _ _ _ h => h) (Or.inl ⟨by rfl, ?_⟩) hHeld ?_ ?_
        rotate_left; exact ga8_; rotate_left; exact gb_
        refine pure_ (i := 1) (N := some 107) (v := ?_) (a' := ?_) (fl 2 13) rfl rfl (by kernel_rfl) (fun _ _ _ h => h) (Or.inl ⟨by rfl, ?_⟩) ?_ ?_
        rotate_left; exact ga_; rotate_left; exact gb_
        refine pure_ (i := 2) (N := some 108) (v := ?_) (a' := ?_) (fl 3 12) rfl rfl (by kernel_rfl) (fun _ _ _ h => h) (Or.inl ⟨by rfl, ?_⟩) ?_ ?_
        rotate_left; exact ga_; rotate_left; exact gb_
        refine pure_ (i := 3) (N := some 109) (v := ?_) (a' := ?_) (fl 4 11) rfl rfl (by kernel_rfl) (fun _ _ _ h => h) (Or.inl ⟨by rfl, ?_⟩) ?_ ?_
        rotate_left; exact ga_; rotate_left; exact gb_
        refine pure_ (i := 4) (N := some 110) (v := ?_) (a' := ?_) (fl 5 10) rfl rfl (by kernel_rfl) (fun _ _ _ h => h) (Or.inl ⟨by rfl, ?_⟩) ?_ ?_
        rotate_left; exact ga_; rotate_left; exact gb_
        refine pure_ (i := 5) (N := some 111) (v := ?_) (a' := ?_) (fl 6 9) rfl rfl (by kernel_rfl) (fun _ _ _ h => h) (Or.inl ⟨by rfl, ?_⟩) ?_ ?_
        rotate_left; exact ga_; rotate_left; exact gb_
        refine take_ (i := 6) (N := some 112) (v := ?_) (a' := ?_) (fl 7 8) rfl rfl (by kernel_rfl) (fun _ _ _ h => h) (Or.inl ⟨by rfl, ?_⟩) hHeld ?_ ?_
        rotate_left; exact ga8_; rotate_left; exact gb_
        refine pure_ (i := 7) (N := some 113) (v := ?_) (a' := ?_) (fl 8 7) rfl rfl (by kernel_rfl) (fun _ _ _ h => h) (Or.inl ⟨by rfl, ?_⟩) ?_ ?_
        rotate_left; exact ga_; rotate_left; exact gb_
        refine pure_ (i := 8) (N := some 114) (v := ?_) (a' := ?_) (fl 9 6) rfl rfl (by kernel_rfl) (fun _ _ _ h => h) (Or.inl ⟨by rfl, ?_⟩) ?_ ?_
        rotate_left; exact ga_; rotate_left; exact gb_
        refine pure_ (i := 9) (N := some 115) (v := ?_) (a' := ?_) (fl 10 5) rfl rfl (by kernel_rfl) (fun _ _ _ h => h) (Or.inl ⟨by rfl, ?_⟩) ?_ ?_
        rotate_left; exact ga_; rotate_left; exact gb_
        refine pure_ (i := 10) (N := some 116) (v := undef) (a' := ?_) (fl 11 4) rfl rfl (by kernel_rfl) (fun _ _ _ h => h) (Or.inr ⟨by rfl, rfl⟩) ?_ ?_
        rotate_left
        ·simp only [Act.put, List.setIfInBounds_toArray, List.set_cons_zero, List.set_cons_succ, i64_w, i32_w]
         rfl
        refine pure_ (i := 11) (N := some 117) (v := undef) (a' := ?_) (fl 12 3) rfl rfl (by kernel_rfl) (fun _ _ _ h => h) (Or.inr ⟨by rfl, rfl⟩) ?_ ?_
        rotate_left
        ·simp only [Act.put, List.setIfInBounds_toArray, List.set_cons_zero, List.set_cons_succ, i64_w, i32_w]
         rfl
        refine pure_ (i := 12) (N := some 118) (v := ?_) (a' := ?_) (fl 13 2) rfl rfl (by kernel_rfl) (fun _ _ _ h => h) (Or.inl ⟨by rfl, ?_⟩) ?_ ?_
        rotate_left; exact ga_; rotate_left; exact gb_
        refine last_ (i := 13) (N := none) (fl 14 1) rfl rfl (by kernel_rfl) (by decide) (fun K hK => ?_)
        have zs := blk_all7 q2.out
        refine skip_ (w1 := ?_) (by rfl) rfl ?_ ?_
        rotate_left
        ·go_simp
         rfl
        refine hK.out _ _ ?_
        clear hK K
        refine pure_ (i := 14) (N := some 3) (v := ?_) (a' := ?_) (fl 15 0) rfl rfl (by kernel_rfl) (fun _ _ _ h => h) (Or.inl ⟨by rfl, ?_⟩) ?_ ?_
        rotate_left; exact ga_; rotate_left; exact gb_
        refine done_ (by kernel_rfl) ?_
        refine name_then (fun W => W.heap[g2]? = some (.cells #[.bool nt, .int .i64 kind, .int .i64 at_, .int .i64 size, .int .u64 mask, .int .u64 (cntN lo), .int .u64 (cntN hi)] 50 (0, 0)) ∧ Below w.heap.size w W) (put7 q2.out HB.out GE2.out) ?_
        rintro w17 ⟨qf, hbf⟩
        have zf := blk_all7 qf
        clear zs hHeld
        have hbf := Aside0.mk hbf
        try go_wp2
        refine bodyPost_ret (results_ct rfl _ _ g2 50 #[.bool nt, .int .i64 kind, .int .i64 at_, .int .i64 size, .int .u64 mask, .int .u64 (cntN lo), .int .u64 (cntN hi)] (0, 0) _ rfl qf rfl rfl rfl) rfl ?_
        exact ⟨rfl, hbf.out⟩
      | false =>
        rw [hbad] at q5 z5
        have h5 := ((if_neg (by rw [hbad]; simp)).symm.trans hh.out)
        clear hh
        replace h5 := Option.bind_eq_some_iff.1 h5
        obtain ⟨m, hm, h5⟩ := h5
        have hm := Aside0.mk hm
        obtain ⟨rfl, rfl⟩ := Prod.mk.inj (Option.some.inj h5)
        refine start_ (n := 15) (S := (fun w' => w'.cell? ⟨g4, 0, none⟩ = some (.bool nt) ∧ w'.cell? ⟨g4, 1, none⟩ = some (.int .i64 kind) ∧ w'.cell? ⟨g4, 2, none⟩ = some (.int .i64 at_) ∧ w'.cell? ⟨g4, 3, none⟩ = some (.int .i64 size) ∧ w'.cell? ⟨g4, 4, none⟩ = some (.int .u64 mask) ∧ w'.cell? ⟨g4, 5, none⟩ = some (.int .u64 (cntN lo)) ∧ w'.cell? ⟨g4, 6, none⟩ = some (.int .u64 (cntN hi)) ∧ w'.cell? ⟨g5, 0, none⟩ = some (.bool false))) (ds := [13]) (fl 0 15) (by kernel_rfl) rfl rfl ⟨(blk_cell (blk_drew q4.out) 0).trans rfl, (blk_cell (blk_drew q4.out) 1).trans rfl, (blk_cell (blk_drew q4.out) 2).trans rfl, (blk_cell (blk_drew q4.out) 3).trans rfl, (blk_cell (blk_drew q4.out) 4).trans rfl, (blk_cell (blk_drew q4.out) 5).trans rfl, (blk_cell (blk_drew q4.out) 6).trans rfl, (blk_cell (blk_drew q5.out) 0).trans rfl⟩ (fun hHeld => ?_)
        have q2 := Aside0.mk (blk_drew q2.out)
        have q4 := Aside0.mk (blk_drew q4.out)
        have q5 := Aside0.mk (blk_drew q5.out)
        have HB := Aside0.mk (below_drew1 HB.out)
        clear z2 z4 z5
        generalize w14.drew = w15 at q2 q4 q5 HB hHeld ⊢
        refine take_ (i := 0) (N := some 106) (v := ?_) (a' := ?_) (fl 1 14) rfl rfl (by kernel_rfl) (fun _ _ _ h => h) (Or.inl ⟨by rfl, ?_⟩) hHeld ?_ ?_
        rotate_left; exact ga8_; rotate_left; exact gb_
        refine pure_ (i := 1) (N := some 107) (v := ?_) (a' := ?_) (fl 2 13) rfl rfl (by kernel_rfl) (fun _ _ _ h => h) (Or.inl ⟨by rfl, ?_⟩) ?_ ?_
        rotate_left; exact ga_; rotate_left; exact gb_
        refine pure_ (i := 2) (N := some 108) (v := ?_) (a' := ?_) (fl 3 12) rfl rfl (by kernel_rfl) (fun _ _ _ h => h) (Or.inl ⟨by rfl, ?_⟩) ?_ ?_
        rotate_left; exact ga_; rotate_left; exact gb_
        refine pure_ (i := 3) (N := some 109) (v := ?_) (a' := ?_) (fl 4 11) rfl rfl (by kernel_rfl) (fun _ _ _ h => h) (Or.inl ⟨by rfl, ?_⟩) ?_ ?_
        rotate_left; exact ga_; rotate_left; exact gb_
        refine pure_ (i := 4) (N := some 110) (v := ?_) (a' := ?_) (fl 5 10) rfl rfl (by kernel_rfl) (fun _ _ _ h => h) (Or.inl ⟨by rfl, ?_⟩) ?_ ?_
        rotate_left; exact ga_; rotate_left; exact gb_
        refine pure_ (i := 5) (N := some 111) (v := ?_) (a' := ?_) (fl 6 9) rfl rfl (by kernel_rfl) (fun _ _ _ h => h) (Or.inl ⟨by rfl, ?_⟩) ?_ ?_
        rotate_left; exact ga_; rotate_left; exact gb_
        refine take_ (i := 6) (N := some 112) (v := ?_) (a' := ?_) (fl 7 8) rfl rfl (by kernel_rfl) (fun _ _ _ h => h) (Or.inl ⟨by rfl, ?_⟩) hHeld ?_ ?_
        rotate_left; exact ga8_; rotate_left; exact gb_
        refine pure_ (i := 7) (N := some 113) (v := ?_) (a' := ?_) (fl 8 7) rfl rfl (by kernel_rfl) (fun _ _ _ h => h) (Or.inl ⟨by rfl, ?_⟩) ?_ ?_
        rotate_left; exact ga_; rotate_left; exact gb_
        refine pure_ (i := 8) (N := some 114) (v := ?_) (a' := ?_) (fl 9 6) rfl rfl (by kernel_rfl) (fun _ _ _ h => h) (Or.inl ⟨by rfl, ?_⟩) ?_ ?_
        rotate_left; exact ga_; rotate_left; exact gb_
        refine pure_ (i := 9) (N := some 115) (v := ?_) (a' := ?_) (fl 10 5) rfl rfl (by kernel_rfl) (fun _ _ _ h => h) (Or.inl ⟨by rfl, ?_⟩) ?_ ?_
        rotate_left; exact ga_; rotate_left; exact gb_
        refine take_ (i := 10) (N := some 116) (v := ?_) (a' := ?_) (fl 11 4) rfl rfl (by kernel_rfl) (fun _ _ _ h => h) (Or.inl ⟨by rfl, ?_⟩) hHeld ?_ ?_
        rotate_left; exact ga8_; rotate_left; exact gb_
        refine one_ (i := 11) (N := some 117) (fl 12 3) rfl rfl (by kernel_rfl) (by decide) (fun K hK => ?_)
        refine goes_ Tryd.func28 (by kernel_rfl) rfl #[.agg #[.bool nt, .int .i64 kind, .int .i64 at_, .int .i64 size, .int .u64 mask, .int .u64 (cntN lo), .int .u64 (cntN hi)]] (by rfl) rfl rfl (by (try simp only [List.map_toArray, List.map_cons, List.map_nil]); first | done | rfl) ?_
        with_reducible refine (rule_may.calls k nt kind at_ size mask (cntN lo) (cntN hi) m _ hm.out).mono ?_
        rintro e w16 ⟨rfl, hb⟩
        refine ⟨_, rfl, ?_⟩
        have q2 := Aside0.mk (blk_below (o := .cells #[.bool false, .int .i64 0, .int .i64 0, .int .i64 0, .int .u64 0, .int .u64 0, .int .u64 0] 50 (0, 0)) q2.out hb)
        have q4 := Aside0.mk (blk_below (o := .cells #[.bool nt, .int .i64 kind, .int .i64 at_, .int .i64 size, .int .u64 mask, .int .u64 (cntN lo), .int .u64 (cntN hi)] 50 (0, 0)) q4.out hb)
        have q5 := Aside0.mk (blk_below (o := .cells #[.bool false] 4 (0, 0)) q5.out hb)
        have HB := Aside0.mk (below_step HB.out hb)
        clear hb
        refine hK.out _ _ ⟨(blk_cell q4.out 0).trans rfl, (blk_cell q4.out 1).trans rfl, (blk_cell q4.out 2).trans rfl, (blk_cell q4.out 3).trans rfl, (blk_cell q4.out 4).trans rfl, (blk_cell q4.out 5).trans rfl, (blk_cell q4.out 6).trans rfl, (blk_cell q5.out 0).trans rfl⟩ (fun hHeld => ?_)
        clear hK K
        refine norm_ (a' := ?_) ?_ ?_
        rotate_left
        ·show Act.put _ (some 117) _ = _
         simp only [Act.put, List.setIfInBounds_toArray, List.set_cons_zero, List.set_cons_succ, i64_w, i32_w]
         rfl
        refine pure_ (i := 12) (N := some 118) (v := ?_) (a' := ?_) (fl 13 2) rfl rfl (by kernel_rfl) (fun _ _ _ h => h) (Or.inl ⟨by rfl, ?_⟩) ?_ ?_
        rotate_left; exact ga_; rotate_left; exact gb_
        refine last_ (i := 13) (N := none) (fl 14 1) rfl rfl (by kernel_rfl) (by decide) (fun K hK => ?_)
        have zs := blk_all7 q2.out
        refine skip_ (w1 := ?_) (by rfl) rfl ?_ ?_
        rotate_left
        ·go_simp
         rfl
        refine hK.out _ _ ?_
        clear hK K
        refine pure_ (i := 14) (N := some 3) (v := ?_) (a' := ?_) (fl 15 0) rfl rfl (by kernel_rfl) (fun _ _ _ h => h) (Or.inl ⟨by rfl, ?_⟩) ?_ ?_
        rotate_left; exact ga_; rotate_left; exact gb_
        refine done_ (by kernel_rfl) ?_
        refine name_then (fun W => W.heap[g2]? = some (.cells #[.bool nt, .int .i64 kind, .int .i64 at_, .int .i64 size, .int .u64 mask, .int .u64 (cntN lo), .int .u64 (cntN hi)] 50 (0, 0)) ∧ Below w.heap.size w W) (put7 q2.out HB.out GE2.out) ?_
        rintro w17 ⟨qf, hbf⟩
        have zf := blk_all7 qf
        clear zs hHeld
        have hbf := Aside0.mk hbf
        try go_wp2
        refine bodyPost_ret (results_ct rfl _ _ g2 50 #[.bool nt, .int .i64 kind, .int .i64 at_, .int .i64 size, .int .u64 mask, .int .u64 (cntN lo), .int .u64 (cntN hi)] (0, 0) _ rfl qf rfl rfl rfl) rfl ?_
        exact ⟨rfl, hbf.out⟩
end Go.Proofs.YtighficpbplkhaaDoor.P
