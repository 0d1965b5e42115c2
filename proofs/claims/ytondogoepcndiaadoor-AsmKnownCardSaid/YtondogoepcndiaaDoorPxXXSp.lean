/- Chapter 03: strings.Split as the print's other functions (the shelf's contract). -/
import Derived.Test.YtondogoepcndiaaDoorPx0
import Derived.Test.YtondogoepcndiaaDoorSh
import Derived.Lib.SplitLaws
namespace Go.Proofs.YtondogoepcndiaaDoor.P
open Go.RowKit Go.Proofs.YtondogoepcndiaaDoorW.PrintWords Go.Proofs.YtondogoepcndiaaDoorW.PrintLast Go.Proofs.YtondogoepcndiaaDoorW.PrintMore
attribute [local go_sem] max2_int min2_int max_two min_two max_three min_three max_four min_four   -- for this text's walks alone
set_option linter.unusedVariables false
set_option linter.unusedSimpArgs false

def strings_Split.f (a0 : ByteArray) (a1 : ByteArray) : Option (List ByteArray) := if a0.size < 4294967281 ∧ 1 ≤ a1.size then some (Lib.splitB a1 0 (Lib.countB a0 a1) a0) else none
theorem strings_Split.calls (a0 : ByteArray) (a1 : ByteArray) (r : List ByteArray) (w : World) (hrG3 : Kd.C kGF w (some ⟨3, 0, none⟩) gl3.length gl3) (h : strings_Split.f a0 a1 = some r) :
  Calls Tryd.prog 51 #[.string a0, .string a1] w fun e w' => ∃ v0_ : Value, e = .returned v0_ ∧ Kd.R Kd.string 9 w' w.heap.size (fun _ => True) v0_ r ∧ Below w.heap.size w w' := by
 unfold strings_Split.f at h
 split at h
 · rename_i hc
   obtain rfl := Option.some.inj h
   obtain ⟨m, hm⟩ := (GF.of hrG3).1
   refine (Tryd.strings_Split a0 a1 m w hc.1 hm hc.2).mono ?_
   rintro e w' ⟨rfl, rfl⟩
   have hl := Lib.splitB_all a1 hc.2 0 _ a0 rfl
   refine ⟨_, rfl, Kd.R_of_own ?_ (fun _ _ => trivial), below_alloc (Below.refl _ _) _⟩
   refine ⟨?_, .inr ⟨w.heap.size, Lib.countB a0 a1 + 1, ((Lib.splitB a1 0 (Lib.countB a0 a1) a0).map Value.string).toArray, ?_, Nat.le_refl _, blk_new w _, ?_⟩⟩
   · rw [Nat.mul_one]; exact List.length_map _
   · rw [hl]
   · have hb := Lib.countB_le a1 hc.2 _ a0 (Nat.le_refl _)
     refine ⟨by omega, ?_, ?_, ?_⟩
     · show _ ≤ 9223372036854775807
       omega
     · simp [hl]
     · rw [Nat.mul_one]
       exact List.take_of_length_le (by simp)
 · exact absurd h (by simp)
end Go.Proofs.YtondogoepcndiaaDoor.P
