/- Chapter 03: strconv.ParseUint at base 10, 64 bits, as the print's other functions (where it is a number). -/
import Derived.Test.YtondogoepcndiaaDoorPx0
import Derived.Test.YtondogoepcndiaaDoorNu
namespace Go.Proofs.YtondogoepcndiaaDoor.P
open Go.RowKit Go.Proofs.YtondogoepcndiaaDoorW.PrintWords Go.Proofs.YtondogoepcndiaaDoorW.PrintLast Go.Proofs.YtondogoepcndiaaDoorW.PrintMore
attribute [local go_sem] max2_int min2_int max_two min_two max_three min_three max_four min_four   -- for this text's walks alone
set_option linter.unusedVariables false
set_option linter.unusedSimpArgs false

def uintF (s : ByteArray) : Option Int := match Lib.parseUintB 64 s.data.toList with
  | .ok v => some (v : Int)
  | .syntax => none
  | .range => none
def strconv_ParseUint_57.f (a0 : ByteArray) (a1 : Int) (a2 : Int) : Option (Int × Option Int) := if a0.size ≤ 281474976710656 ∧ a1 = 10 ∧ a2 = 64 then some ((uintF a0).elim (0, some 0) fun n => (n, none)) else none
theorem strconv_ParseUint_57.calls (a0 : ByteArray) (a1 : Int) (a2 : Int) (r1 : Int) (r2 : Option Int) (w : World) (hrG3 : Kd.C kGF w (some ⟨3, 0, none⟩) gl3.length gl3) (h : strconv_ParseUint_57.f a0 a1 a2 = some (r1, r2)) (hm : r2 = none := by first | rfl | assumption) :
  Calls Tryd.prog 57 #[.string a0, .int .i64 a1, .int .i64 a2] w fun e w' => e = .returned (.tuple #[.int .u64 r1, errW r2]) ∧ Below w.heap.size w w' := by
 subst hm
 unfold strconv_ParseUint_57.f at h
 split at h
 · rename_i hc
   obtain ⟨hs, rfl, rfl⟩ := hc
   have h' := Option.some.inj h
   cases hn : uintF a0 with
   | none => rw [hn] at h'; exact absurd h' (by simp)
   | some n =>
     rw [hn] at h'
     obtain ⟨rfl, _⟩ := Prod.mk.inj h'
     unfold uintF at hn
     cases hp : Lib.parseUintB 64 a0.data.toList with
     | ok u =>
       rw [hp] at hn
       obtain rfl := Option.some.inj hn
       refine (Tryd.strconv_ParseUint_10_at64_ok a0 (by omega) u hp w).mono ?_
       rintro e w' ⟨rfl, hw⟩
       refine ⟨rfl, ?_⟩
       rcases hw with rfl | rfl
       · exact Below.refl _ _
       · exact Lib.bytesWorld_below _ _ _
     | «syntax» => rw [hp] at hn; exact absurd hn (by simp)
     | range => rw [hp] at hn; exact absurd hn (by simp)
 · exact absurd h (by simp)
theorem strconv_ParseUint_57.bad (a0 : ByteArray) (a1 : Int) (a2 : Int) (r1 : Int) (r2 : Option Int) (w : World) (hrG3 : Kd.C kGF w (some ⟨3, 0, none⟩) gl3.length gl3) (h : strconv_ParseUint_57.f a0 a1 a2 = some (r1, r2)) (hm : r2 ≠ none) :
  Calls Tryd.prog 57 #[.string a0, .int .i64 a1, .int .i64 a2] w fun e w' => (∃ v N, e = .returned (.tuple #[.int .u64 v, .iface 146 (.pointer (some ⟨N, 0, none⟩))])) ∧ Below w.heap.size w w' := by
 unfold strconv_ParseUint_57.f at h
 split at h
 · rename_i hc
   obtain ⟨hs, rfl, rfl⟩ := hc
   have h' := Option.some.inj h
   obtain ⟨_, _, ⟨t2, p2, h2⟩, ⟨t3, p3, h3⟩⟩ := GF.of hrG3
   cases hn : uintF a0 with
   | some n =>
     rw [hn] at h'
     exact absurd (Prod.mk.inj h').2.symm hm
   | none =>
     unfold uintF at hn
     cases hp : Lib.parseUintB 64 a0.data.toList with
     | ok u => rw [hp] at hn; exact absurd hn (by simp)
     | «syntax» => exact (Tryd.strconv_ParseUint_10_at64_syntax a0 hs hp _ w h2 (.inr ⟨t2, p2, rfl⟩)).mono fun e w' ⟨N, he, _, _, hb⟩ => ⟨⟨_, N, he⟩, hb⟩
     | range => exact (Tryd.strconv_ParseUint_10_at64_range a0 hs hp _ w h3 (.inr ⟨t3, p3, rfl⟩)).mono fun e w' ⟨N, he, _, _, hb⟩ => ⟨⟨_, N, he⟩, hb⟩
 · exact absurd h (by simp)
end Go.Proofs.YtondogoepcndiaaDoor.P
