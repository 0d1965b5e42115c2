/- Chapter 03: asm.number as the print's other functions: 2^62 is told where it panics. -/
import Derived.Test.YtondogoepcndiaaDoorPx0
import Derived.Test.YtondogoepcndiaaDoorNu
namespace Go.Proofs.YtondogoepcndiaaDoor.P
open Go.RowKit Go.Proofs.YtondogoepcndiaaDoorW.PrintWords Go.Proofs.YtondogoepcndiaaDoorW.PrintLast Go.Proofs.YtondogoepcndiaaDoorW.PrintMore
attribute [local go_sem] max2_int min2_int max_two min_two max_three min_three max_four min_four   -- for this text's walks alone
set_option linter.unusedVariables false
set_option linter.unusedSimpArgs false

def asm_number.f (a0 : ByteArray) (a1 : Int) : Option (Int) := if a0.size ≤ 281474976710656 ∧ (a1 = 8 ∨ a1 = 16 ∨ a1 = 32) then some ((numF a1.toNat a0).getD 4611686018427387904) else none
theorem asm_number.calls (a0 : ByteArray) (a1 : Int) (r : Int) (w : World) (hrG3 : Kd.C kGF w (some ⟨3, 0, none⟩) gl3.length gl3) (h : asm_number.f a0 a1 = some r) (hm : r ≠ 4611686018427387904 := by assumption) :
  Calls Tryd.prog 55 #[.string a0, .int .i64 a1] w fun e w' => e = .returned (.int .i64 r) ∧ Below w.heap.size w w' := by
 unfold asm_number.f at h
 split at h
 · rename_i hc
   obtain ⟨hs, hB⟩ := hc
   have ha : ((a1.toNat : Nat) : Int) = a1 := by omega
   have h' := Option.some.inj h
   cases hn : numF a1.toNat a0 with
   | none => rw [hn] at h'; exact absurd h'.symm hm
   | some n =>
     rw [hn] at h'
     obtain rfl : n = r := h'
     have hh := number_ok a1.toNat (by omega) a0 hs n hn w
     rw [ha] at hh
     exact hh
 · exact absurd h (by simp)
theorem asm_number.bad (a0 : ByteArray) (a1 : Int) (r : Int) (w : World) (hrG3 : Kd.C kGF w (some ⟨3, 0, none⟩) gl3.length gl3) (h : asm_number.f a0 a1 = some r) (hm : r = 4611686018427387904) :
  Calls Tryd.prog 55 #[.string a0, .int .i64 a1] w fun e w' => Bad e ∧ Below w.heap.size w w' := by
 subst hm
 unfold asm_number.f at h
 split at h
 · rename_i hc
   obtain ⟨hs, hB⟩ := hc
   have ha : ((a1.toNat : Nat) : Int) = a1 := by omega
   have h' := Option.some.inj h
   cases hn : numF a1.toNat a0 with
   | none =>
     have hh := number_bad a1.toNat (by omega) a0 hs hn w (GF.of hrG3)
     rw [ha] at hh
     exact hh
   | some n =>
     rw [hn] at h'
     have hb := numF_small a1.toNat (by omega) a0 n hn
     obtain rfl : n = 4611686018427387904 := h'
     omega
 · exact absurd h (by simp)
end Go.Proofs.YtondogoepcndiaaDoor.P
