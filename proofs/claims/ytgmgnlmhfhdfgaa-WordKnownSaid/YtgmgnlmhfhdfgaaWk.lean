/- Chapter 01: the Go function WordKnown answers true, given what its callees answer (a walk by hand). -/
import Derived.Test.YtgmgnlmhfhdfgaaPx3
import Derived.Test.YtgmgnlmhfhdfgaaPx4
namespace Go.Proofs.Ytgmgnlmhfhdfgaa.P
open Go.RowKit Go.Proofs.YtgmgnlmhfhdfgaaW.PrintWords Go.Proofs.YtgmgnlmhfhdfgaaW.PrintLast Go.Proofs.YtgmgnlmhfhdfgaaW.PrintMore
attribute [local go_sem] max2_int min2_int max_two min_two max_three min_three max_four min_four
set_option linter.unusedVariables false
set_option linter.unusedSimpArgs false

set_option maxHeartbeats 800000 in
set_option maxRecDepth 100000 in
theorem known_calls (k : Nat) (w : World) (h0 : stockadelaw01_alu.f 8 true 1 9 = some 18446744073709551615) (h1 : stockadelaw01_alu.f 8 false 1 9 = some 4294967295) (h2 : stockadelaw01_alu.f 3 true 5 0 = some 0) (h3 : stockadelaw01_alu.f 12 true 9223372036854775808 64 = some 9223372036854775808) (h4 : stockadelaw01_alu.f 12 false 2147483648 4 = some 4160749568) (h5 : stockadelaw01_alu.f 6 false 1 33 = some 2) (h6 : word_Alu.f (-1) true 0 0 = some (0, 20)) (h7 : word_Cond.f k 0 true 0 0 = some (false, 20)) (h8 : word_Cond.f k 8 true 0 0 = some (false, 20)) (h9 : word_Cond.f k 2 true 1 18446744073709551615 = some (false, 0)) (h10 : word_Cond.f k 4 true 6 9 = some (false, 0)) (h11 : word_Cond.f k 4 true 6 2 = some (true, 0)) (h12 : word_Swap.f 32 1 = some (16777216, 0)) (h13 : word_Swap.f 16 65536 = some (0, 0)) (h14 : word_Swap.f 8 1 = some (0, 1)) (ha : stockadelaw01_awake.f k = some true) :
    Calls Try.prog 12 #[] w fun e w' => e = .returned (.bool true) ∧ Drawn0 w w' := by
  replace h0 := Aside0.mk h0
  replace h1 := Aside0.mk h1
  replace h2 := Aside0.mk h2
  replace h3 := Aside0.mk h3
  replace h4 := Aside0.mk h4
  replace h5 := Aside0.mk h5
  replace h6 := Aside0.mk h6
  replace h7 := Aside0.mk h7
  replace h8 := Aside0.mk h8
  replace h9 := Aside0.mk h9
  replace h10 := Aside0.mk h10
  replace h11 := Aside0.mk h11
  replace h12 := Aside0.mk h12
  replace h13 := Aside0.mk h13
  replace h14 := Aside0.mk h14
  replace ha := Aside0.mk ha
  go_enter Try.func12, Try.ntmps12
  go_wp2_with (first
    | (go_at_call 22; (with_reducible refine (stockadelaw01_alu.calls 8 true 1 9 18446744073709551615 _ h0.out).mono ?_); rintro e w' ⟨rfl, ⟨nd, rfl⟩⟩)
    | (go_at_call 22; (with_reducible refine (stockadelaw01_alu.calls 8 false 1 9 4294967295 _ h1.out).mono ?_); rintro e w' ⟨rfl, ⟨nd, rfl⟩⟩)
    | (go_at_call 22; (with_reducible refine (stockadelaw01_alu.calls 3 true 5 0 0 _ h2.out).mono ?_); rintro e w' ⟨rfl, ⟨nd, rfl⟩⟩)
    | (go_at_call 22; (with_reducible refine (stockadelaw01_alu.calls 12 true 9223372036854775808 64 9223372036854775808 _ h3.out).mono ?_); rintro e w' ⟨rfl, ⟨nd, rfl⟩⟩)
    | (go_at_call 22; (with_reducible refine (stockadelaw01_alu.calls 12 false 2147483648 4 4160749568 _ h4.out).mono ?_); rintro e w' ⟨rfl, ⟨nd, rfl⟩⟩)
    | (go_at_call 22; (with_reducible refine (stockadelaw01_alu.calls 6 false 1 33 2 _ h5.out).mono ?_); rintro e w' ⟨rfl, ⟨nd, rfl⟩⟩)
    | (go_at_call 13; (with_reducible refine (word_Alu.calls (-1) true 0 0 0 20 _ h6.out).mono ?_); rintro e w' ⟨rfl, ⟨nd, rfl⟩⟩)
    | (go_at_call 16; (with_reducible refine (word_Cond.calls k 0 true 0 0 false 20 _ h7.out).mono ?_); rintro e w' ⟨rfl, ⟨nd, rfl⟩⟩)
    | (go_at_call 16; (with_reducible refine (word_Cond.calls k 8 true 0 0 false 20 _ h8.out).mono ?_); rintro e w' ⟨rfl, ⟨nd, rfl⟩⟩)
    | (go_at_call 16; (with_reducible refine (word_Cond.calls k 2 true 1 18446744073709551615 false 0 _ h9.out).mono ?_); rintro e w' ⟨rfl, ⟨nd, rfl⟩⟩)
    | (go_at_call 16; (with_reducible refine (word_Cond.calls k 4 true 6 9 false 0 _ h10.out).mono ?_); rintro e w' ⟨rfl, ⟨nd, rfl⟩⟩)
    | (go_at_call 16; (with_reducible refine (word_Cond.calls k 4 true 6 2 true 0 _ h11.out).mono ?_); rintro e w' ⟨rfl, ⟨nd, rfl⟩⟩)
    | (go_at_call 18; (with_reducible refine (word_Swap.calls 32 1 16777216 0 _ h12.out).mono ?_); rintro e w' ⟨rfl, ⟨nd, rfl⟩⟩)
    | (go_at_call 18; (with_reducible refine (word_Swap.calls 16 65536 0 0 _ h13.out).mono ?_); rintro e w' ⟨rfl, ⟨nd, rfl⟩⟩)
    | (go_at_call 18; (with_reducible refine (word_Swap.calls 8 1 0 1 _ h14.out).mono ?_); rintro e w' ⟨rfl, ⟨nd, rfl⟩⟩)
    | (go_at_call 15; (with_reducible refine (stockadelaw01_awake.calls k true _ ha.out).mono ?_); rintro e w' ⟨rfl, ⟨nd, rfl⟩⟩))
  go_ret
  exact ⟨by first | rfl | (simp; done) | (simp [*]; done), by repeat (first | exact Drawn0.refl _ | apply Drawn0.step)⟩
end Go.Proofs.Ytgmgnlmhfhdfgaa.P
