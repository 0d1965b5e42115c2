/- Chapter 04: shape.begins ranges over the places at which instructions begin (walked by hand; one condition: how many places each instruction takes is known). -/
import Derived.RangeFuncNested
import Derived.RangeFuncBound
import Derived.RangeFuncCalls
import Derived.RangeFuncLeaves
import Derived.Shelf.Abstract
import Derived.Shelf.RegionOpen
import Derived.WalkKit
import Derived.OwnWalkIn
import Derived.TacticsInMore
import Derived.LoopNIn
import Derived.LoopIn
import Derived.Test.YtdhiibkcoolbeaaDoorPx8
namespace Go.Proofs.YtdhiibkcoolbeaaDoor.P
open Go.RowKit Go.Shelf Go.Proofs.YtdhiibkcoolbeaaDoorW.PrintWords Go.Proofs.YtdhiibkcoolbeaaDoorW.PrintLast Go.Proofs.YtdhiibkcoolbeaaDoorW.PrintMore
set_option linter.unusedVariables false
set_option linter.unusedSimpArgs false

attribute [local go_sem] max2_int min2_int max_two min_two max_three min_three max_four min_four
attribute [local go_sem] Oper.semAt_some

def begU (pl : Nat → Int) (n : Nat) : Nat → Nat → List (Fin n)
  | 0, _ => []
  | m + 1, i => if h : i < n then ⟨i, h⟩ :: begU pl n m (i + (mx (pl i) 1).toNat) else []
/-- The places at which instructions begin, from a place on: each takes 'pl' places, one at the least. -/
def beg (pl : Nat → Int) (n : Nat) (i : Nat) : List (Fin n) := begU pl n (n - i) i
/-- What a round must keep: what lay below n₀, and the box. -/
def Kp (n₀ Bs : Nat) (W W' : World) : Prop := Below n₀ W W' ∧ W'.heap[Bs]? = W.heap[Bs]?
theorem Kp.refl (n₀ Bs : Nat) (W : World) : Kp n₀ Bs W W := ⟨Below.refl _ _, rfl⟩
theorem Kp.trans {n₀ Bs : Nat} {A B C : World} (h : Kp n₀ Bs A B) (k : Kp n₀ Bs B C) : Kp n₀ Bs A C := ⟨h.1.trans k.1, k.2.trans h.2⟩
theorem below_grown {w w' : World} (h : Below w.heap.size w w') : w.grownBy w' none := ⟨h.os, h.tape, h.output, h.size, fun k hk _ => h.block k hk⟩
theorem mx1 (p : Int) : 1 ≤ mx p 1 := by unfold mx; split <;> omega

theorem begU_fuel (pl : Nat → Int) (n : Nat) : ∀ (m m2 i : Nat), n - i ≤ m → n - i ≤ m2 → begU pl n m i = begU pl n m2 i
  | 0, 0, i, _, _ => rfl
  | 0, m2 + 1, i, h, _ => by rw [begU, begU, dif_neg (by omega)]
  | m + 1, 0, i, _, h => by rw [begU, begU, dif_neg (by omega)]
  | m + 1, m2 + 1, i, h, h2 => by
    rw [begU, begU]
    by_cases c : i < n
    · have := mx1 (pl i)
      rw [dif_pos c, dif_pos c, begU_fuel pl n m m2 _ (by omega) (by omega)]
    · rw [dif_neg c, dif_neg c]
theorem beg_lt {pl : Nat → Int} {n i : Nat} (h : i < n) : beg pl n i = ⟨i, h⟩ :: beg pl n (i + (mx (pl i) 1).toNat) := by
  have := mx1 (pl i)
  unfold beg
  rw [show n - i = (n - i - 1) + 1 by omega, begU, dif_pos h, begU_fuel pl n (n - i - 1) (n - (i + (mx (pl i) 1).toNat)) _ (by omega) (by omega)]
theorem beg_ge {pl : Nat → Int} {n i : Nat} (h : ¬ i < n) : beg pl n i = [] := by
  unfold beg
  rw [show n - i = 0 by omega]; rfl

set_option maxRecDepth 100000 in
set_option maxHeartbeats 2000000 in
/-- **begins' closure: 'for at := 0; at < len(code); { if !yield(at) { return }; at += max(insn.Places(code[at]), 1) }'.** -/
theorem begins1_in (n : Nat) (hn : 1 ≤ n) (k l Bs c : Nat) (A : Option Addr) (code : List S40) (pl : Nat → Int) (w0 : World)
    (hr : Kd.C k40 w0 A code.length code) (hG : Kd.C (Kd.int .i64) w0 (some ⟨0, 0, none⟩) gl0.length gl0) (hlen : code.length < 4611686018427387904)
    (hP : ∀ i : Nat, i < code.length → insn_Places.f k (rd_T40 code i).f0 (rd_T40 code i).f1 (rd_T40 code i).f2 (rd_T40 code i).f3 (rd_T40 code i).f4 = some (pl i) ∧ pl i ≤ 2)
    (J Jx : List (Fin code.length) → World → Prop)
    (hY : ∀ pre x W, J pre W → pre.length < code.length → YieldAt Fence.wide (n - 1) Tryd.prog l #[.int .i64 (x.1 : Int)] W fun e W' =>
      (e = .returned (.bool true) ∧ J (pre ++ [x]) W' ∧ Kp w0.heap.size Bs W W') ∨ (e = .returned (.bool false) ∧ Jx (pre ++ [x]) W'))
    (W : World) (hJ : AbidesFrom W.heap.size J) (hW0 : Below w0.heap.size w0 W) (hBs : W.heap[Bs]? = some (.cells #[.slice A code.length c] 23 (0, 0))) (h0 : J [] W) :
    CallsIn Fence.wide n Tryd.prog 34 #[.func (.yield l) #[] #[], .pointer (some ⟨Bs, 0, none⟩)] W fun e W' => (∃ v, e = .returned v) ∧
      ((∃ ys, ys = beg pl code.length 0 ∧ J ys W') ∨ (∃ pre, pre <+: beg pl code.length 0 ∧ Jx pre W')) := by
  refine callsIn_of_wp Tryd.func34 rfl trivial ?_ rfl
  simp only [Tryd.ntmps34, List.size_toArray, List.length_cons, List.length_nil, Nat.reduceAdd, Nat.reduceSub, Array.replicate_succ, Array.replicate_zero, List.push_toArray, List.append_toArray, List.nil_append, List.cons_append]
  gi_wp2
  gi_loopw [3] (fun i wr => ∃ (pre : List (Fin code.length)) (at_ : Nat), i = .int .i64 at_ ∧ at_ ≤ code.length + 1 ∧ beg pl code.length 0 = pre ++ beg pl code.length at_ ∧ pre.length ≤ at_ ∧ J pre wr ∧ Kp w0.heap.size Bs W wr)
    (fun i _ => code.length + 2 - (intOf i).toNat)
  case atStart => exact ⟨[], 0, rfl, by omega, rfl, by simp, h0, Kp.refl _ _ _⟩
  case round =>
    obtain ⟨pre, at_, rfl, hat, hx, hpl, hJs, hk0⟩ := hrel
    have hbox := blk_all1 (hk0.2.trans hBs)
    by_cases hlt : at_ < code.length
    · obtain ⟨fn, tmps, assign, body, hy, hR⟩ := hY pre ⟨at_, hlt⟩ wr hJs (by omega)
      dsimp only at hy
      gi_wp2
      refine hR.mono ?_
      rintro e W3 (⟨rfl, hJ3, hk3⟩ | ⟨rfl, hJx3⟩)
      · have hkk := hk0.trans hk3
        have hbox3 := blk_all1 (hkk.2.trans hBs)
        have hB3 : Below w0.heap.size w0 W3 := hW0.trans hkk.1
        obtain ⟨ad, eA, hx0, hx1, hx2, hx3, hx4⟩ := at_T40 (Kd.C_below hr hB3) (at_ : Int) (by omega) (by omega)
        subst eA
        simp only [Int.toNat_natCast] at hx0 hx1 hx2 hx3 hx4
        gi_wp2_with (refine ⟨trivial, ?_⟩; gi_at_call 23; refine (callsIn_wide.2 (insn_Places.calls k _ _ _ _ _ (pl at_) _ (Kd.C_below hG hB3) (hP at_ hlt).1)).mono ?_; rintro e w' ⟨rfl, hb⟩)
        go_roundw
        case rel =>
          have hp := (hP at_ hlt).2
          have hm : 1 ≤ mx (pl at_) 1 ∧ mx (pl at_) 1 ≤ 2 := by unfold mx; split <;> omega
          have ew : wrap64 ((at_ : Int) + mx (pl at_) 1) = ((at_ + (mx (pl at_) 1).toNat : Nat) : Int) := by unfold wrap64; omega
          have hl3 := blk_lt (hkk.2.trans hBs)
          have hs3 := hB3.size
          refine ⟨pre ++ [⟨at_, hlt⟩], at_ + (mx (pl at_) 1).toNat, congrArg (Value.int .i64) ew, by omega, by rw [hx, beg_lt hlt]; simp, by simp; omega, hJ _ W3 w' none hJ3 (below_grown hb) (fun r e => by cases e), hkk.trans ⟨hb.mono hs3, hb.block Bs hl3⟩⟩
        case measure =>
          have hp := (hP at_ hlt).2
          have hm : 1 ≤ mx (pl at_) 1 ∧ mx (pl at_) 1 ≤ 2 := by unfold mx; split <;> omega
          have ew : wrap64 ((at_ : Int) + mx (pl at_) 1) = ((at_ + (mx (pl at_) 1).toNat : Nat) : Int) := by unfold wrap64; omega
          show code.length + 2 - (wrap64 ((at_ : Int) + mx (pl at_) 1)).toNat < code.length + 2 - ((at_ : Int)).toNat
          rw [ew]; omega
      · gi_wp2
        refine bodyPost_ret (results_none rfl _ _ _) rfl ?_
        exact ⟨⟨_, rfl⟩, .inr ⟨_, ⟨beg pl code.length (at_ + (mx (pl at_) 1).toNat), by rw [hx, beg_lt hlt]; simp⟩, hJx3⟩⟩
    · gi_wp2
      go_end0
      exact ⟨⟨_, rfl⟩, .inl ⟨pre, by rw [hx, beg_ge hlt, List.append_nil], hJs⟩⟩
end Go.Proofs.YtdhiibkcoolbeaaDoor.P
