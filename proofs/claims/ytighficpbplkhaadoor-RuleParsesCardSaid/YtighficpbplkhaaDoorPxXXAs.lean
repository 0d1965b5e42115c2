/- Chapter 18: what a kind of test asks, by its number (the four function values as one). -/
import Derived.Test.YtighficpbplkhaaDoorPx0
import Derived.Test.YtighficpbplkhaaDoorPx5
import Derived.Test.YtighficpbplkhaaDoorPxXXOf
namespace Go.Proofs.YtighficpbplkhaaDoor.P
open Go.RowKit Go.Proofs.YtighficpbplkhaaDoorW.PrintWords Go.Proofs.YtighficpbplkhaaDoorW.PrintLast Go.Proofs.YtighficpbplkhaaDoorW.PrintMore
attribute [local go_sem] max2_int min2_int max_two min_two max_three min_three max_four min_four   -- for this text's walks alone
set_option linter.unusedVariables false
set_option linter.unusedSimpArgs false

def rule_of_lit1.f (k : Nat) (a0_0 : Bool) (a0_1 : Int) (a0_2 : Int) (a0_3 : Int) (a0_4 : Int) (a0_5 : Int) (a0_6 : Int) (l1 : List Int) (a2 : Int) : Option (Int × Bool) :=
 if a0_1 = 1 then some (IntKind.u64.wrap (l1.length : Int), true) else if a0_1 = 2 then rule_of_lit2.f a0_0 a0_1 a0_2 a0_3 a0_4 a0_5 a0_6 l1 a2 else if a0_1 = 3 then rule_of_lit3.f k a0_0 a0_1 a0_2 a0_3 a0_4 a0_5 a0_6 l1 a2 else rule_of_lit4.f k a0_0 a0_1 a0_2 a0_3 a0_4 a0_5 a0_6 l1 a2
theorem rule_of_lit1.mono : ∀ a0 a1 a2 a3 a4 a5 a6 a7 a8 k, LeO (rule_of_lit1.f k a0 a1 a2 a3 a4 a5 a6 a7 a8) (rule_of_lit1.f (k + 1) a0 a1 a2 a3 a4 a5 a6 a7 a8) := by
 intro a0 a1 a2 a3 a4 a5 a6 a7 a8 k
 unfold rule_of_lit1.f
 repeat' first
   | (with_reducible exact LeO.refl _)
   | (with_reducible exact rule_of_lit3.mono _ _ _ _ _ _ _ _ _ _)
   | (with_reducible exact rule_of_lit4.mono _ _ _ _ _ _ _ _ _ _)
   | (with_reducible refine LeO.ite ?_ ?_)
set_option maxHeartbeats 2000000 in
set_option maxRecDepth 100000 in
theorem rule_of_lit1.calls (k : Nat) (a0_0 : Bool) (a0_1 : Int) (a0_2 : Int) (a0_3 : Int) (a0_4 : Int) (a0_5 : Int) (a0_6 : Int) (A1 : Option Addr) (c1 : Nat) (l1 : List Int) (a2 : Int) (r1 : Int) (r2 : Bool) (w : World) (hr1 : Kd.C (Kd.int .u8) w A1 l1.length l1) (hc1 : l1.length ≤ c1) (h : rule_of_lit1.f k a0_0 a0_1 a0_2 a0_3 a0_4 a0_5 a0_6 l1 a2 = some (r1, r2)) :
  Calls Tryd.prog (askOf a0_1) #[.agg #[.bool a0_0, .int .i64 a0_1, .int .i64 a0_2, .int .i64 a0_3, .int .u64 a0_4, .int .u64 a0_5, .int .u64 a0_6], .slice A1 l1.length c1, .int .u32 a2] w fun e w' => e = .returned (.tuple #[.int .u64 r1, .bool r2]) ∧ Below w.heap.size w w' := by
 unfold rule_of_lit1.f at h
 unfold askOf
 by_cases h1 : a0_1 = 1
 · rw [if_pos h1] at h
   rw [if_pos h1]
   simp only [Option.some.injEq, Prod.mk.injEq] at h
   obtain ⟨rfl, rfl⟩ := h
   go_enter Tryd.func49, Tryd.ntmps49
   go_wp2
   go_ret2
   exact ⟨rfl, (Below.refl _ _).alloc (Nat.le_refl _) _⟩
 · rw [if_neg h1] at h
   rw [if_neg h1]
   by_cases h2 : a0_1 = 2
   · rw [if_pos h2] at h
     rw [if_pos h2]
     exact rule_of_lit2.calls _ _ _ _ _ _ _ _ _ _ _ _ _ w hr1 hc1 h
   · rw [if_neg h2] at h
     rw [if_neg h2]
     by_cases h3 : a0_1 = 3
     · rw [if_pos h3] at h
       rw [if_pos h3]
       exact rule_of_lit3.calls k _ _ _ _ _ _ _ _ _ _ _ _ _ w hr1 hc1 h
     · rw [if_neg h3] at h
       rw [if_neg h3]
       exact rule_of_lit4.calls k _ _ _ _ _ _ _ _ _ _ _ _ _ w hr1 hc1 h
end Go.Proofs.YtighficpbplkhaaDoor.P
