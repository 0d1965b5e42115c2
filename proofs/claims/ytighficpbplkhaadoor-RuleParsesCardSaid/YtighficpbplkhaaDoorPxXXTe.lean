/- Chapter 18: rule.test as the print's other functions. -/
import Derived.Test.YtighficpbplkhaaDoorPx0
import Derived.Test.YtighficpbplkhaaDoorPx3
import Derived.Test.YtighficpbplkhaaDoorTe
namespace Go.Proofs.YtighficpbplkhaaDoor.P
open Go.RowKit Go.Proofs.YtighficpbplkhaaDoorW.PrintWords Go.Proofs.YtighficpbplkhaaDoorW.PrintLast Go.Proofs.YtighficpbplkhaaDoorW.PrintMore
attribute [local go_sem] max2_int min2_int max_two min_two max_three min_three max_four min_four   -- for this text's walks alone
set_option linter.unusedVariables false
set_option linter.unusedSimpArgs false

def rule_test.f (k : Nat) (a0 : ByteArray) : Option (Bool × Int × Int × Int × Int × Int × Int × Bool) := (testF k a0).bind fun t => some (t.1.f0, t.1.f1, t.1.f2, t.1.f3, t.1.f4, t.1.f5, t.1.f6, t.2)
theorem rule_test.mono : ∀ a0 k, LeO (rule_test.f k a0) (rule_test.f (k + 1) a0) := by
 intro a0 k
 unfold rule_test.f testF restF bytesF tailF
 repeat' first
   | (with_reducible exact LeO.refl _)
   | (with_reducible exact LeO.none _)
   | (with_reducible exact rule_may.mono _ _ _ _ _ _ _ _)
   | (with_reducible refine LeO.ite ?_ ?_)
   | (with_reducible refine LeO.bind ?_ (fun _ => ?_))
theorem rule_test.calls (k : Nat) (a0 : ByteArray) (r1 : Bool) (r2 r3 r4 r5 r6 r7 : Int) (r8 : Bool) (w : World) (hrG0 : Kd.C kGF w (some ⟨0, 0, none⟩) gl0.length gl0) (h : rule_test.f k a0 = some (r1, r2, r3, r4, r5, r6, r7, r8)) :
  Calls Tryd.prog 57 #[.string a0] w fun e w' => e = .returned (.tuple #[.agg #[.bool r1, .int .i64 r2, .int .i64 r3, .int .i64 r4, .int .u64 r5, .int .u64 r6, .int .u64 r7], .bool r8]) ∧ Below w.heap.size w w' := by
 unfold rule_test.f at h
 obtain ⟨⟨t, b⟩, h1, h2⟩ := Option.bind_eq_some_iff.1 h
 simp only [Option.some.injEq, Prod.mk.injEq] at h2
 obtain ⟨rfl, rfl, rfl, rfl, rfl, rfl, rfl, rfl⟩ := h2
 exact test_calls k a0 t b w (GF.of hrG0) h1
end Go.Proofs.YtighficpbplkhaaDoor.P
