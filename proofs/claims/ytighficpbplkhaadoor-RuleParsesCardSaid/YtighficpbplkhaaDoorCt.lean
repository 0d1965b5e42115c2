/- Chapter 18: rule.count (walked by hand): a number of a text; the mark is set, if it is none. -/
import Derived.Test.YtighficpbplkhaaDoorSh
import Derived.Test.YtighficpbplkhaaDoorPx0
import Derived.Lib.AtoiErrMem
namespace Go.Proofs.YtighficpbplkhaaDoor.P
open Go.RowKit Go.Proofs.YtighficpbplkhaaDoorW.PrintWords Go.Proofs.YtighficpbplkhaaDoorW.PrintLast Go.Proofs.YtighficpbplkhaaDoorW.PrintMore
set_option linter.unusedVariables false
set_option linter.unusedSimpArgs false

def cntN (s : ByteArray) : Int := match Lib.parseUintB 64 s.data.toList with
  | .ok u => (u : Int)
  | .syntax => 0
  | .range => 18446744073709551615
def cntB (s : ByteArray) : Bool := match Lib.parseUintB 64 s.data.toList with
  | .ok _ => false
  | .syntax => true
  | .range => true
/-- The mark at block g is b now; nothing else that was there has changed. -/
def Tick (g : Nat) (b : Bool) (w w' : World) : Prop := w'.heap[g]? = some (.cells #[.bool b] 4 (0, 0)) ∧ Below g w w' ∧ KeepBut w w' g none
set_option maxHeartbeats 2000000 in
set_option maxRecDepth 100000 in
theorem count_calls (s : ByteArray) (hs : s.size ≤ 281474976710656) (b : Bool) (g : Nat) (w : World) (hG : GF w) (hb : w.heap[g]? = some (.cells #[.bool b] 4 (0, 0))) :
    Calls Tryd.prog 55 #[.string s, .pointer (some ⟨g, 0, none⟩)] w fun e w' => e = .returned (.int .u64 (cntN s)) ∧ Tick g (b || cntB s) w w' := by
  have hgl : g < w.heap.size := by
    refine Decidable.byContradiction fun hn => ?_
    rw [Array.getElem?_eq_none (by omega)] at hb
    exact absurd hb (by simp)
  obtain ⟨_, _, ⟨t2, p2, h2⟩, ⟨t3, p3, h3⟩⟩ := hG
  cases h : Lib.parseUintB 64 s.data.toList with
  | ok u =>
    have e1 : cntN s = (u : Int) := by unfold cntN; rw [h]
    have e2 : cntB s = false := by unfold cntB; rw [h]
    rw [e1, e2, Bool.or_false]
    have H := Aside0.mk h
    clear h e1 e2
    go_enter Tryd.func55, Tryd.ntmps55
    go_wp2_with (go_at_call 67; refine (Tryd.strconv_ParseUint_10_at64_ok s (by omega) u H.out _).mono ?_; rintro e w' ⟨rfl, hw⟩)
    go_ret
    have hbl : Below w.heap.size w w' := by
      rcases hw with rfl | rfl
      · exact Below.refl _ _
      · exact Lib.bytesWorld_below _ _ _
    exact ⟨rfl, (hbl.block g hgl).trans hb, hbl.mono (Nat.le_of_lt hgl), KeepBut.of_below hbl g none⟩
  | «syntax» =>
    have e1 : cntN s = 0 := by unfold cntN; rw [h]
    have e2 : cntB s = true := by unfold cntB; rw [h]
    rw [e1, e2, Bool.or_true]
    have H := Aside0.mk h
    have H2 := Aside0.mk h2
    have HB0 := Aside0.mk hb
    clear h e1 e2 h2 h3 hb
    go_enter Tryd.func55, Tryd.ntmps55
    go_wp2_with (go_at_call 67; refine (Tryd.strconv_ParseUint_10_at64_syntax s hs H.out _ _ H2.out (.inr ⟨t2, p2, rfl⟩)).mono ?_; rintro e w1 ⟨N, rfl, hN, hNb, hbl⟩; have q5 := (hbl.block g hgl).trans HB0.out; have z5 := blk_all1 q5)
    go_ret
    exact ⟨rfl, blk_put q5 0 _ rfl, (hbl.mono (Nat.le_of_lt hgl)).setCell (p := ⟨g, 0, none⟩) (Nat.le_refl _) _, (KeepBut.of_below hbl g none).set_ 0 _⟩
  | range =>
    have e1 : cntN s = 18446744073709551615 := by unfold cntN; rw [h]
    have e2 : cntB s = true := by unfold cntB; rw [h]
    rw [e1, e2, Bool.or_true]
    have H := Aside0.mk h
    have H3 := Aside0.mk h3
    have HB0 := Aside0.mk hb
    clear h e1 e2 h2 h3 hb
    go_enter Tryd.func55, Tryd.ntmps55
    go_wp2_with (go_at_call 67; refine (Tryd.strconv_ParseUint_10_at64_range s hs H.out _ _ H3.out (.inr ⟨t3, p3, rfl⟩)).mono ?_; rintro e w1 ⟨N, rfl, hN, hNb, hbl⟩; have q5 := (hbl.block g hgl).trans HB0.out; have z5 := blk_all1 q5)
    go_ret
    exact ⟨rfl, blk_put q5 0 _ rfl, (hbl.mono (Nat.le_of_lt hgl)).setCell (p := ⟨g, 0, none⟩) (Nat.le_refl _) _, (KeepBut.of_below hbl g none).set_ 0 _⟩
end Go.Proofs.YtighficpbplkhaaDoor.P
