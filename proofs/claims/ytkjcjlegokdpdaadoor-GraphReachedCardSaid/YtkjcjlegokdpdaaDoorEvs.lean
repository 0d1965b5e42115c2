/- Chapter 05: with fuel enough. -/
import Derived.Test.YtkjcjlegokdpdaaDoorGr
namespace Go.Proofs.YtkjcjlegokdpdaaDoor.Pure
set_option linter.unusedVariables false
set_option linter.unusedSimpArgs false

/-- With fuel enough it answers r. -/
def Ev {α : Type} (f : Nat → Option α) (r : α) : Prop := ∃ K0, ∀ K, K0 ≤ K → f K = some r
theorem Ev.step {α : Type} {f g : Nat → Option α} {r : α} (h : ∀ K, f (K + 1) = g K) (hg : Ev g r) : Ev f r := by
  obtain ⟨K0, hK⟩ := hg
  refine ⟨K0 + 1, fun K h1 => ?_⟩
  obtain ⟨K', rfl⟩ : ∃ K', K = K' + 1 := ⟨K - 1, by omega⟩
  rw [h]; exact hK K' (by omega)
theorem Ev.bind {α β : Type} {f : Nat → Option α} {g : Nat → α → Option β} {a : α} {b : β} (hf : Ev f a) (hg : Ev (fun K => g K a) b) : Ev (fun K => (f K).bind (g K)) b := by
  obtain ⟨K0, h0⟩ := hf
  obtain ⟨K1, h1⟩ := hg
  exact ⟨max K0 K1, fun K h => by
    have e := h0 K (by omega)
    show (f K).bind (g K) = some b
    rw [e]; exact h1 K (by omega)⟩
theorem Ev.pure {α : Type} {r : α} : Ev (fun _ => some r) r := ⟨0, fun _ _ => rfl⟩
theorem Ev.of_eq {α : Type} {f : Nat → Option α} {r : α} (K0 : Nat) (h : ∀ K, f (K + K0) = some r) : Ev f r := ⟨K0, fun K hK => by have := h (K - K0); rwa [Nat.sub_add_cancel hK] at this⟩
end Go.Proofs.YtkjcjlegokdpdaaDoor.Pure
