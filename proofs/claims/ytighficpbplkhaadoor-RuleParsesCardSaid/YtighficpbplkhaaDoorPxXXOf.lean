/- Chapter 18: rule.of (walked by hand): a kind's word, and the function that asks. -/
import Derived.Test.YtighficpbplkhaaDoorPx0
import Derived.Laws.EntriesVeiled
namespace Go.Proofs.YtighficpbplkhaaDoor.P
open Go.RowKit Go.Proofs.YtighficpbplkhaaDoorW.PrintWords Go.Proofs.YtighficpbplkhaaDoorW.PrintLast Go.Proofs.YtighficpbplkhaaDoorW.PrintMore
attribute [local go_sem] max2_int min2_int max_two min_two max_three min_three max_four min_four   -- for this text's walks alone
set_option linter.unusedVariables false
set_option linter.unusedSimpArgs false

/-- Which function asks. -/
def askOf (n : Int) : Nat := if n = 1 then 49 else if n = 2 then 50 else if n = 3 then 51 else 53
def wordOf (n : Int) : ByteArray := if n = 1 then ⟨#[108, 101, 110]⟩ else if n = 2 then ⟨#[105, 110]⟩ else if n = 3 then ⟨#[]⟩ else ⟨#[112, 97, 115, 116, 32]⟩
theorem askOf_enters (n : Int) (args : Array Value) (w : World) : (callFunc (askOf n) args).run Tryd.prog w = .ok (.enter (askOf n) args) w := by
 unfold askOf
 split
 · exact enters_ Tryd.func49 (by kernel_rfl) rfl args w
 · split
   · exact enters_ Tryd.func50 (by kernel_rfl) rfl args w
   · split
     · exact enters_ Tryd.func51 (by kernel_rfl) rfl args w
     · exact enters_ Tryd.func53 (by kernel_rfl) rfl args w
def rule_of.f (a0 : Int) : Option (ByteArray) := some (wordOf a0)
set_option maxHeartbeats 2000000 in
set_option maxRecDepth 100000 in
theorem rule_of.calls (a0 : Int) (r : ByteArray) (w : World) (h : rule_of.f a0 = some r) :
  Calls Tryd.prog 35 #[.int .i64 a0] w fun e w' => e = .returned (.agg #[.string r, .func (.func (askOf a0)) #[] #[]]) ∧ Below w.heap.size w w' := by
 obtain rfl := Option.some.inj h
 clear h
 have HB := Aside0.mk (Below.refl w.heap.size w)
 by_cases h1 : a0 = 1
 · subst h1
   go_enter Tryd.func35, Tryd.ntmps35
   go_wp2
   refine bodyPost_ret (v := .agg #[.string ⟨#[108, 101, 110]⟩, .func (.func 49) #[] #[]]) (by simp [results, Tryd.results35, go_sem]) rfl ⟨rfl, (Below.refl _ _).alloc (Nat.le_refl _) _⟩
 · by_cases h2 : a0 = 2
   · subst h2
     go_enter Tryd.func35, Tryd.ntmps35
     go_wp2
     refine bodyPost_ret (v := .agg #[.string ⟨#[105, 110]⟩, .func (.func 50) #[] #[]]) (by simp [results, Tryd.results35, go_sem]) rfl ⟨rfl, (Below.refl _ _).alloc (Nat.le_refl _) _⟩
   · by_cases h3 : a0 = 3
     · subst h3
       go_enter Tryd.func35, Tryd.ntmps35
       go_wp2
       refine bodyPost_ret (v := .agg #[.string ⟨#[]⟩, .func (.func 51) #[] #[]]) (by simp [results, Tryd.results35, go_sem]) rfl ⟨rfl, (Below.refl _ _).alloc (Nat.le_refl _) _⟩
     · have e1 : wordOf a0 = ⟨#[112, 97, 115, 116, 32]⟩ := by unfold wordOf; rw [if_neg h1, if_neg h2, if_neg h3]
       have e2 : askOf a0 = 53 := by unfold askOf; rw [if_neg h1, if_neg h2, if_neg h3]
       rw [e1, e2]
       clear e1 e2
       go_enter Tryd.func35, Tryd.ntmps35
       go_wp2
       refine bodyPost_ret (v := .agg #[.string ⟨#[112, 97, 115, 116, 32]⟩, .func (.func 53) #[] #[]]) (by simp [results, Tryd.results35, go_sem]) rfl ⟨rfl, (Below.refl _ _).alloc (Nat.le_refl _) _⟩
end Go.Proofs.YtighficpbplkhaaDoor.P
