/- Chapter 03: asm.register as the print's other functions: 256 is told where it panics. -/
import Derived.Test.YtondogoepcndiaaDoorPx0
import Derived.Test.YtondogoepcndiaaDoorNu
namespace Go.Proofs.YtondogoepcndiaaDoor.P
open Go.RowKit Go.Proofs.YtondogoepcndiaaDoorW.PrintWords Go.Proofs.YtondogoepcndiaaDoorW.PrintLast Go.Proofs.YtondogoepcndiaaDoorW.PrintMore
attribute [local go_sem] max2_int min2_int max_two min_two max_three min_three max_four min_four   -- for this text's walks alone
set_option linter.unusedVariables false
set_option linter.unusedSimpArgs false

def asm_register.f (a0 : ByteArray) : Option (Int) := if a0.size ≤ 281474976710656 then some ((regF a0).getD 256) else none
theorem asm_register.calls (a0 : ByteArray) (r : Int) (w : World) (hrG3 : Kd.C kGF w (some ⟨3, 0, none⟩) gl3.length gl3) (h : asm_register.f a0 = some r) (hm : r ≠ 256 := by assumption) :
  Calls Tryd.prog 53 #[.string a0] w fun e w' => e = .returned (.int .u8 r) ∧ Below w.heap.size w w' := by
 unfold asm_register.f at h
 split at h
 · rename_i hs
   have h' := Option.some.inj h
   cases hn : regF a0 with
   | none => rw [hn] at h'; exact absurd h'.symm hm
   | some n =>
     rw [hn] at h'
     obtain rfl : n = r := h'
     exact register_ok a0 hs n hn w
 · exact absurd h (by simp)
theorem asm_register.bad (a0 : ByteArray) (r : Int) (w : World) (hrG3 : Kd.C kGF w (some ⟨3, 0, none⟩) gl3.length gl3) (h : asm_register.f a0 = some r) (hm : r = 256) :
  Calls Tryd.prog 53 #[.string a0] w fun e w' => Bad e ∧ Below w.heap.size w w' := by
 subst hm
 unfold asm_register.f at h
 split at h
 · rename_i hs
   have h' := Option.some.inj h
   cases hn : regF a0 with
   | none => exact register_bad a0 hs hn w (GF.of hrG3)
   | some n =>
     rw [hn] at h'
     have hb := regF_small a0 n hn
     obtain rfl : n = 256 := h'
     omega
 · exact absurd h (by simp)
end Go.Proofs.YtondogoepcndiaaDoor.P
