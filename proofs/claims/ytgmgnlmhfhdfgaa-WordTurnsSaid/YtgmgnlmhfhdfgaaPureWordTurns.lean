/- The law WordTurns over plain functions: bytes turned about twice are as they were, and each byte goes to its place; a small number is itself again, with its sign. -/
import Derived.Test.YtgmgnlmhfhdfgaaWs
import Derived.Test.YtgmgnlmhfhdfgaaPx6
namespace Go.Proofs.Ytgmgnlmhfhdfgaa.Pure
open Go Go.RowKit Go.Proofs.YtgmgnlmhfhdfgaaW.PrintWords Go.Proofs.YtgmgnlmhfhdfgaaW.PrintLast Go.Proofs.YtgmgnlmhfhdfgaaW.PrintMore
open Go.Proofs.Ytgmgnlmhfhdfgaa.Wd
theorem n4_mod (a b c d : Nat) : N4 a b c d % 256 = d % 256 := by unfold N4; omega
theorem sw_mod {c : Nat} (h : c < 65536) : sw c % 256 = c / 256 := by unfold sw; omega
theorem n4_24 (c d : Nat) (hd : d < 65536) : N4 0 0 c d / 16777216 = c / 256 := by unfold N4; omega
theorem n4_56 (a b c d : Nat) (hb : b < 65536) (hc : c < 65536) (hd : d < 65536) : N4 a b c d / 72057594037927936 = a / 256 := by unfold N4; omega
/-- One size: the round goes on. -/
theorem turn_step (k : Nat) (x1 x16 : Int) (bits : Int) (h : ok3 bits) (a b c d : Nat) (ha : a < 65536) (hb : b < 65536) (hc : c < 65536) (hd : d < 65536) :
    P.stockadelaw01_WordTurns.j1 (k + 1) ((N4 a b c d : Nat) : Int) x1 bits (if bits = 16 then ((d : Nat) : Int) else if bits = 32 then ((N4 0 0 c d : Nat) : Int) else ((N4 a b c d : Nat) : Int)) x16 = P.stockadelaw01_WordTurns.l0 k ((N4 a b c d : Nat) : Int) x1 (wrap64 (x16 + 1)) := by
  have h1 := sw_lt ha
  have h2 := sw_lt hb
  have h3 := sw_lt hc
  have h4 := sw_lt hd
  simp only [P.stockadelaw01_WordTurns.j1]
  rw [swap_eq bits a b c d ha hb hc hd h]
  simp only [Option.bind_some]
  have m255 : ∀ n : Nat, n < 18446744073709551616 → Go.bits .and .u64 ((n : Nat) : Int) 255 = ((n % 256 : Nat) : Int) := fun n hn => by
    rw [← nat_mask8]; exact u64_and_nat n 255 hn (by omega)
  rcases h with rfl | rfl | rfl
  · have e : swapV 16 a b c d = N4 0 0 0 (sw d) := by show sw d = _; unfold N4; omega
    have s : IntKind.u64.wrap (wrap64 (16 - 8)) = 8 := by decide +kernel
    rw [e, swap_eq 16 0 0 0 (sw d) (by omega) (by omega) (by omega) h4 (.inl rfl)]
    have e2 : swapV 16 0 0 0 (sw d) = d := by show sw (sw d) = d; exact sw_sw hd
    simp only [Option.bind_some, if_true, e2, s]
    rw [if_pos (by omega), m255 _ (by unfold N4; omega), if_pos]
    show ((N4 0 0 0 (sw d) % 256 : Nat) : Int) = ((d / 256 : Nat) : Int)
    rw [n4_mod, sw_mod hd]
  · have e : swapV 32 a b c d = N4 0 0 (sw d) (sw c) := rfl
    have s : IntKind.u64.wrap (wrap64 (32 - 8)) = 24 := by decide +kernel
    rw [e, swap_eq 32 0 0 (sw d) (sw c) (by omega) (by omega) h4 h3 (.inr (.inl rfl))]
    have e2 : swapV 32 0 0 (sw d) (sw c) = N4 0 0 c d := by show N4 0 0 (sw (sw c)) (sw (sw d)) = _; rw [sw_sw hc, sw_sw hd]
    simp only [Option.bind_some, if_true, e2, s]
    rw [if_neg (show ¬ (32 : Int) = 16 by omega), if_pos rfl, if_pos (by omega), m255 _ (by unfold N4; omega), if_pos]
    show ((N4 0 0 (sw d) (sw c) % 256 : Nat) : Int) = ((N4 0 0 c d / 16777216 : Nat) : Int)
    rw [n4_mod, sw_mod hc, n4_24 c d hd]
  · have e : swapV 64 a b c d = N4 (sw d) (sw c) (sw b) (sw a) := rfl
    have s : IntKind.u64.wrap (wrap64 (64 - 8)) = 56 := by decide +kernel
    rw [e, swap_eq 64 (sw d) (sw c) (sw b) (sw a) h4 h3 h2 h1 (.inr (.inr rfl))]
    have e2 : swapV 64 (sw d) (sw c) (sw b) (sw a) = N4 a b c d := by show N4 (sw (sw a)) (sw (sw b)) (sw (sw c)) (sw (sw d)) = _; rw [sw_sw ha, sw_sw hb, sw_sw hc, sw_sw hd]
    simp only [Option.bind_some, if_true, e2, s]
    rw [if_neg (show ¬ (64 : Int) = 16 by omega), if_neg (show ¬ (64 : Int) = 32 by omega), if_pos rfl, if_pos (by omega), m255 _ (by unfold N4; omega), if_pos]
    show ((N4 (sw d) (sw c) (sw b) (sw a) % 256 : Nat) : Int) = ((N4 a b c d / 72057594037927936 : Nat) : Int)
    rw [n4_mod, sw_mod ha, n4_56 a b c d hb hc hd]
theorem WordTurns (a0 : Int) (a1 : Int) (w0 : (Lit.int .u64 a0).wf = true) (w1 : (Lit.int .i32 a1).wf = true) : ∃ k, P.stockadelaw01_WordTurns.f k a0 a1 = some true := by
  refine ⟨100, ?_⟩
  obtain ⟨e1, _, hlo, hhi⟩ := ext_eq w1
  obtain ⟨a, b, c, d, ha, hb, hc, hd, rfl⟩ := digits (R_wf w0)
  have hn : N4 a b c d < 18446744073709551616 := by unfold N4; omega
  have t1 := turn_step 98 a1 0 16 (.inl rfl) a b c d ha hb hc hd
  have t2 := turn_step 96 a1 1 32 (.inr (.inl rfl)) a b c d ha hb hc hd
  have t3 := turn_step 94 a1 2 64 (.inr (.inr rfl)) a b c d ha hb hc hd
  have w01 : wrap64 (0 + 1) = 1 := by decide +kernel
  have w12 : wrap64 (1 + 1) = 2 := by decide +kernel
  have w23 : wrap64 (2 + 1) = 3 := by decide +kernel
  rw [w01] at t1
  rw [w12] at t2
  rw [w23] at t3
  have l16 : Go.bits .and .u64 ((N4 a b c d : Nat) : Int) 65535 = ((d : Nat) : Int) := by
    have := u64_and_nat (N4 a b c d) 65535 hn (by omega)
    rw [nat_mask16, show N4 a b c d % 65536 = d by unfold N4; omega] at this
    exact this
  have l32 : Go.bits .and .u64 ((N4 a b c d : Nat) : Int) 4294967295 = ((N4 0 0 c d : Nat) : Int) := by
    have := u64_and_nat (N4 a b c d) 4294967295 hn (by omega)
    rw [nat_mask32, show N4 a b c d % 4294967296 = N4 0 0 c d by unfold N4; omega] at this
    exact this
  unfold P.stockadelaw01_WordTurns.f
  rw [awake_eq]
  simp only [Option.bind_some, if_true]
  -- the first size
  rw [show (100 : Nat) = 99 + 1 from rfl]
  simp only [P.stockadelaw01_WordTurns.l0]
  have r0 : rdOf (0 : Int) ([16, 32, 64] : List Int) 0 = 16 := rfl
  have r1 : rdOf (0 : Int) ([16, 32, 64] : List Int) 1 = 32 := rfl
  have r2 : rdOf (0 : Int) ([16, 32, 64] : List Int) 2 = 64 := rfl
  have s16 : IntKind.u64.wrap (shl .u64 1 (IntKind.u64.wrap 16) - 1) = 65535 := by decide +kernel
  have s32 : IntKind.u64.wrap (shl .u64 1 (IntKind.u64.wrap 32) - 1) = 4294967295 := by decide +kernel
  have p16 : 0 ≤ IntKind.u64.wrap 16 := by decide +kernel
  have p32 : 0 ≤ IntKind.u64.wrap 32 := by decide +kernel
  have p64 : 0 ≤ IntKind.u64.wrap 64 := by decide +kernel
  rw [r0, if_pos (by omega), if_pos (by omega), if_pos p16, if_neg (by omega), s16, l16]
  rw [if_pos rfl] at t1
  rw [show (99 : Nat) = 98 + 1 from rfl, t1, show (98 : Nat) = 97 + 1 from rfl]
  simp only [P.stockadelaw01_WordTurns.l0]
  rw [r1, if_pos (by omega), if_pos (by omega), if_pos p32, if_neg (by omega), s32, l32]
  rw [if_neg (by omega), if_pos rfl] at t2
  rw [show (97 : Nat) = 96 + 1 from rfl, t2, show (96 : Nat) = 95 + 1 from rfl]
  simp only [P.stockadelaw01_WordTurns.l0]
  rw [r2, if_pos (by omega), if_pos (by omega), if_pos p64, if_pos rfl]
  rw [if_neg (by omega), if_neg (by omega)] at t3
  rw [show (95 : Nat) = 94 + 1 from rfl, t3, show (94 : Nat) = 93 + 1 from rfl]
  simp only [P.stockadelaw01_WordTurns.l0]
  rw [if_neg (by omega), e1]
  simp only [Option.bind_some, IntKind.wrap_u64]
  rw [if_pos (by unfold wrap32; omega)]
  by_cases h : a1 < 0
  · rw [if_neg (by omega), show a1 % 18446744073709551616 / 2147483648 = 8589934591 by omega]; rfl
  · rw [if_pos (by omega)]
end Go.Proofs.Ytgmgnlmhfhdfgaa.Pure
