/- Chapter 18: strings.Join as the print's other functions (the shelf's contract), of a row of the call's own. -/
import Derived.Test.YtighficpbplkhaaDoorPx0
import Derived.Test.YtighficpbplkhaaDoorSh
namespace Go.Proofs.YtighficpbplkhaaDoor.P
open Go.RowKit Go.Proofs.YtighficpbplkhaaDoorW.PrintWords Go.Proofs.YtighficpbplkhaaDoorW.PrintLast Go.Proofs.YtighficpbplkhaaDoorW.PrintMore
attribute [local go_sem] max2_int min2_int max_two min_two max_three min_three max_four min_four   -- for this text's walks alone
set_option linter.unusedVariables false
set_option linter.unusedSimpArgs false

theorem row_addr {α : Type} {d : Kd α} {e base : Nat} {ok : Nat → Prop} {w : World} {A : Option Addr} {n c : Nat} {xs : List α} (h : Kd.R d e w base ok (.slice A n c) xs) : xs.length = 0 ∨ ∃ g, A = some ⟨g, 0, none⟩ ∧ g < w.heap.size := by
 rcases Nat.eq_zero_or_pos xs.length with h0 | h0
 · exact .inl h0
 · obtain ⟨g, c', ev, h1, h2, _⟩ := Kd.R_form h h0
   injection ev with ea en ec
   exact .inr ⟨g, ea, h2⟩
def strings_Join.f (l0 : List ByteArray) (a1 : ByteArray) : Option (ByteArray) := if l0.length ≤ 140737488355328 ∧ (Lib.join (l0.map (·.data.toList)) a1.data.toList).length ≤ 140737488355328 then some ⟨(Lib.join (l0.map (·.data.toList)) a1.data.toList).toArray⟩ else none
theorem strings_Join.calls (A0 : Option Addr) (c0 : Nat) (l0 : List ByteArray) (a1 : ByteArray) (r : ByteArray) (w : World) (hr0 : Kd.C Kd.string w A0 l0.length l0) (hc0 : l0.length ≤ c0) (h : strings_Join.f l0 a1 = some r) (hA : ∃ w_ : World, l0.length = 0 ∨ ∃ g, A0 = some ⟨g, 0, none⟩ ∧ g < w_.heap.size := by exact ⟨_, row_addr (Aside0.out (by assumption))⟩) :
  Calls Tryd.prog 46 #[.slice A0 l0.length c0, .string a1] w fun e w' => e = .returned (.string r) ∧ Below w.heap.size w w' := by
 unfold strings_Join.f at h
 split at h
 · rename_i hc
   obtain rfl := Option.some.inj h
   obtain ⟨w_, hA⟩ := hA
   rcases Nat.eq_zero_or_pos l0.length with e0 | e0
   · have : l0 = [] := List.length_eq_zero_iff.1 e0
     subst this
     refine (Tryd.strings_Join_none A0 c0 a1 w).mono ?_
     rintro e w' ⟨rfl, rfl⟩
     exact ⟨rfl, Below.refl _ _⟩
   · rcases hA with hA | ⟨g, rfl, _⟩
     · omega
     · have hcell : ∀ (j : Nat) x, l0[j]? = some x → w.cell? ⟨g, 0 + j, none⟩ = some (.string x) := fun j x hj => by
         have hl := (List.getElem?_eq_some_iff.1 hj).1
         obtain ⟨ad, c, ea, _, hk, hx⟩ := Kd.C_get hr0 x (j : Int) (by omega) (by omega)
         obtain rfl := Option.some.inj ea
         rw [Int.toNat_natCast, List.getD_eq_getElem?_getD, hj] at hk
         have hk' : c = [.string x] := hk
         subst hk'
         have := hx 0 _ rfl
         rw [Int.toNat_natCast, add_plain] at this
         simpa [Kd.string, Kd.scalar] using this
       have hlt : g < w.heap.size := by
         have := World.block_lt_of_cell? _ _ (hcell 0 l0[0] (List.getElem?_eq_getElem e0))
         exact this
       refine (Tryd.strings_Join g 0 c0 l0 a1 w hcell hlt hc.1 hc0 hc.2).mono ?_
       rintro e w' ⟨rfl, hb⟩
       exact ⟨rfl, hb⟩
 · exact absurd h (by simp)
end Go.Proofs.YtighficpbplkhaaDoor.P
