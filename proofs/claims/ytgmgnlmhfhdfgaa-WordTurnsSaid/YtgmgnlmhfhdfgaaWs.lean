/- Plain facts about bytes turned about: what bits.ReverseBytes64, word.Swap and the reference's Swap compute; no conditions but the ones each theorem names. -/
import Derived.Test.YtgmgnlmhfhdfgaaWb
namespace Go.Proofs.Ytgmgnlmhfhdfgaa.Wd
open Go Go.RowKit Go.Proofs.YtgmgnlmhfhdfgaaW.PrintWords Go.Proofs.YtgmgnlmhfhdfgaaW.PrintLast Go.Proofs.YtgmgnlmhfhdfgaaW.PrintMore

/-- Four digits of 16 bits. -/
def N4 (a b c d : Nat) : Nat := ((a * 2 ^ 16 + b) * 2 ^ 16 + c) * 2 ^ 16 + d
def sw (h : Nat) : Nat := (h % 256) * 256 + h / 256
theorem sw_lt {h : Nat} (hh : h < 65536) : sw h < 65536 := by unfold sw; omega
theorem sw_sw {h : Nat} (hh : h < 65536) : sw (sw h) = h := by unfold sw; omega
theorem and4 {b c d b' c' d' : Nat} (a a' : Nat) (hb : b < 2 ^ 16) (hc : c < 2 ^ 16) (hd : d < 2 ^ 16) (hb' : b' < 2 ^ 16) (hc' : c' < 2 ^ 16) (hd' : d' < 2 ^ 16) : N4 a b c d &&& N4 a' b' c' d' = N4 (a &&& a') (b &&& b') (c &&& c') (d &&& d') := by
  unfold N4
  rw [and_cat 16 _ _ hd hd', and_cat 16 _ _ hc hc', and_cat 16 _ _ hb hb']
theorem or4 {b c d b' c' d' : Nat} (a a' : Nat) (hb : b < 2 ^ 16) (hc : c < 2 ^ 16) (hd : d < 2 ^ 16) (hb' : b' < 2 ^ 16) (hc' : c' < 2 ^ 16) (hd' : d' < 2 ^ 16) : N4 a b c d ||| N4 a' b' c' d' = N4 (a ||| a') (b ||| b') (c ||| c') (d ||| d') := by
  unfold N4
  rw [or_cat 16 _ _ hd hd', or_cat 16 _ _ hc hc', or_cat 16 _ _ hb hb']
theorem or8 (x y : Nat) (hx : x < 256) : x ||| y * 256 = y * 256 + x := by
  rw [Nat.or_comm]; exact nat_join 8 (y * 256) x (by omega) (by omega)
theorem n4_mul (b d : Nat) : N4 0 b 0 d * 65536 = N4 b 0 d 0 := by unfold N4; omega
/-- ReverseBytes64 of natural numbers. -/
theorem revN (a b c d : Nat) (ha : a < 65536) (hb : b < 65536) (hc : c < 65536) (hd : d < 65536) : P.bits_ReverseBytes64.f ((N4 a b c d : Nat) : Int) = some ((N4 (sw d) (sw c) (sw b) (sw a) : Nat) : Int) := by
  have m8 : (71777214294589695 : Nat) = N4 255 255 255 255 := by decide
  have m16 : (281470681808895 : Nat) = N4 0 65535 0 65535 := by decide
  have hn : N4 a b c d < 18446744073709551616 := by unfold N4; omega
  -- the first round
  have s1 : N4 a b c d / 256 = N4 (a / 256) (a % 256 * 256 + b / 256) (b % 256 * 256 + c / 256) (c % 256 * 256 + d / 256) := by unfold N4; omega
  have s2 : N4 a b c d / 256 &&& 71777214294589695 = N4 (a / 256) (b / 256) (c / 256) (d / 256) := by
    rw [s1, m8, and4 _ _ (by omega) (by omega) (by omega) (by omega) (by omega) (by omega), nat_mask8, nat_mask8, nat_mask8, nat_mask8]
    unfold N4; omega
  have s3 : N4 a b c d &&& 71777214294589695 = N4 (a % 256) (b % 256) (c % 256) (d % 256) := by
    rw [m8, and4 _ _ (by omega) (by omega) (by omega) (by omega) (by omega) (by omega), nat_mask8, nat_mask8, nat_mask8, nat_mask8]
  have s4 : N4 (a % 256) (b % 256) (c % 256) (d % 256) * 256 = N4 (a % 256 * 256) (b % 256 * 256) (c % 256 * 256) (d % 256 * 256) := by unfold N4; omega
  have t1 : N4 (a / 256) (b / 256) (c / 256) (d / 256) ||| N4 (a % 256 * 256) (b % 256 * 256) (c % 256 * 256) (d % 256 * 256) = N4 (sw a) (sw b) (sw c) (sw d) := by
    rw [or4 _ _ (by omega) (by omega) (by omega) (by omega) (by omega) (by omega), or8 _ _ (by omega), or8 _ _ (by omega), or8 _ _ (by omega), or8 _ _ (by omega)]
    rfl
  have l1 : N4 (sw a) (sw b) (sw c) (sw d) < 18446744073709551616 := by
    have h1 := sw_lt ha
    have h2 := sw_lt hb
    have h3 := sw_lt hc
    have h4 := sw_lt hd
    unfold N4; omega
  have ha' := sw_lt ha
  have hb' := sw_lt hb
  have hc' := sw_lt hc
  have hd' := sw_lt hd
  generalize sw a = a', sw b = b', sw c = c', sw d = d' at *
  -- the second
  have u1 : N4 a' b' c' d' / 65536 = N4 0 a' b' c' := by unfold N4; omega
  have u2 : N4 a' b' c' d' / 65536 &&& 281470681808895 = N4 0 a' 0 c' := by
    rw [u1, m16, and4 _ _ (by omega) (by omega) (by omega) (by omega) (by omega) (by omega), nat_mask16, nat_mask16, Nat.and_zero, Nat.and_zero, Nat.mod_eq_of_lt ha', Nat.mod_eq_of_lt hc']
  have u3 : N4 a' b' c' d' &&& 281470681808895 = N4 0 b' 0 d' := by
    rw [m16, and4 _ _ (by omega) (by omega) (by omega) (by omega) (by omega) (by omega), nat_mask16, nat_mask16, Nat.and_zero, Nat.and_zero, Nat.mod_eq_of_lt hb', Nat.mod_eq_of_lt hd']
  have u4 : N4 0 b' 0 d' * 65536 = N4 b' 0 d' 0 := n4_mul b' d'
  have u5 : N4 0 a' 0 c' ||| N4 b' 0 d' 0 = N4 b' a' d' c' := by
    rw [or4 _ _ (by omega) (by omega) (by omega) (by omega) (by omega) (by omega)]; simp
  have v1 : N4 b' a' d' c' / 4294967296 = N4 0 0 b' a' := by unfold N4; omega
  have v2 : (N4 b' a' d' c' * 4294967296) % 18446744073709551616 = N4 d' c' 0 0 := by unfold N4; omega
  have v3 : N4 0 0 b' a' ||| N4 d' c' 0 0 = N4 d' c' b' a' := by
    rw [or4 _ _ (by omega) (by omega) (by omega) (by omega) (by omega) (by omega)]; simp
  have b1 : N4 (a / 256) (b / 256) (c / 256) (d / 256) < 18446744073709551616 := by unfold N4; omega
  have b2 : N4 (a % 256 * 256) (b % 256 * 256) (c % 256 * 256) (d % 256 * 256) < 18446744073709551616 := by unfold N4; omega
  have b3 : N4 0 a' 0 c' < 18446744073709551616 := by unfold N4; omega
  have b4 : N4 b' 0 d' 0 < 18446744073709551616 := by unfold N4; omega
  have b5 : N4 b' a' d' c' < 18446744073709551616 := by unfold N4; omega
  have b6 : N4 0 0 b' a' < 18446744073709551616 := by unfold N4; omega
  have b7 : N4 d' c' 0 0 < 18446744073709551616 := by unfold N4; omega
  have i1 : (((N4 a b c d : Nat) : Int) / 256) = ((N4 a b c d / 256 : Nat) : Int) := rfl
  have i2 : Go.bits .and .u64 (((N4 a b c d : Nat) : Int) / 256) 71777214294589695 = ((N4 (a / 256) (b / 256) (c / 256) (d / 256) : Nat) : Int) := by
    rw [i1, ← s2]; exact u64_and_nat _ 71777214294589695 (by omega) (by omega)
  have i3 : Go.bits .and .u64 ((N4 a b c d : Nat) : Int) 71777214294589695 = ((N4 (a % 256) (b % 256) (c % 256) (d % 256) : Nat) : Int) := by
    rw [← s3]; exact u64_and_nat _ 71777214294589695 (by omega) (by omega)
  have i4 : IntKind.u64.wrap (((N4 (a % 256) (b % 256) (c % 256) (d % 256) : Nat) : Int) * 256) = ((N4 (a % 256 * 256) (b % 256 * 256) (c % 256 * 256) (d % 256 * 256) : Nat) : Int) := by
    rw [IntKind.wrap_u64, ← s4]; omega
  have i5 : Go.bits .or .u64 ((N4 (a / 256) (b / 256) (c / 256) (d / 256) : Nat) : Int) ((N4 (a % 256 * 256) (b % 256 * 256) (c % 256 * 256) (d % 256 * 256) : Nat) : Int) = ((N4 a' b' c' d' : Nat) : Int) := by
    rw [← t1]; exact u64_or_nat _ _ b1 b2
  have j1 : (((N4 a' b' c' d' : Nat) : Int) / 65536) = ((N4 a' b' c' d' / 65536 : Nat) : Int) := rfl
  have j2 : Go.bits .and .u64 (((N4 a' b' c' d' : Nat) : Int) / 65536) 281470681808895 = ((N4 0 a' 0 c' : Nat) : Int) := by
    rw [j1, ← u2]; exact u64_and_nat _ 281470681808895 (by omega) (by omega)
  have j3 : Go.bits .and .u64 ((N4 a' b' c' d' : Nat) : Int) 281470681808895 = ((N4 0 b' 0 d' : Nat) : Int) := by
    rw [← u3]; exact u64_and_nat _ 281470681808895 (by omega) (by omega)
  have j4 : IntKind.u64.wrap (((N4 0 b' 0 d' : Nat) : Int) * 65536) = ((N4 b' 0 d' 0 : Nat) : Int) := by
    rw [IntKind.wrap_u64, ← u4]; omega
  have j5 : Go.bits .or .u64 ((N4 0 a' 0 c' : Nat) : Int) ((N4 b' 0 d' 0 : Nat) : Int) = ((N4 b' a' d' c' : Nat) : Int) := by
    rw [← u5]; exact u64_or_nat _ _ b3 b4
  have k1 : (((N4 b' a' d' c' : Nat) : Int) / 4294967296) = ((N4 0 0 b' a' : Nat) : Int) := by rw [← v1]; rfl
  have k2 : IntKind.u64.wrap (((N4 b' a' d' c' : Nat) : Int) * 4294967296) = ((N4 d' c' 0 0 : Nat) : Int) := by
    rw [IntKind.wrap_u64, ← v2]; omega
  have k3 : Go.bits .or .u64 ((N4 0 0 b' a' : Nat) : Int) ((N4 d' c' 0 0 : Nat) : Int) = ((N4 d' c' b' a' : Nat) : Int) := by
    rw [← v3]; exact u64_or_nat _ _ b6 b7
  unfold P.bits_ReverseBytes64.f
  rw [i2, i3, i4, i5, j2, j3, j4, j5, k1, k2, k3]
/-- Any 64-bit number is four digits. -/
theorem digits {x : Int} (h : R x) : ∃ a b c d, a < 65536 ∧ b < 65536 ∧ c < 65536 ∧ d < 65536 ∧ x = ((N4 a b c d : Nat) : Int) := by
  obtain ⟨n, rfl⟩ := Int.eq_ofNat_of_zero_le h.1
  unfold R at h
  refine ⟨n / 281474976710656, n / 4294967296 % 65536, n / 65536 % 65536, n % 65536, by omega, by omega, by omega, by omega, ?_⟩
  unfold N4; omega
def swapV (bits : Int) (a b c d : Nat) : Nat := if bits = 16 then sw d else if bits = 32 then N4 0 0 (sw d) (sw c) else N4 (sw d) (sw c) (sw b) (sw a)
def ok3 (bits : Int) : Prop := bits = 16 ∨ bits = 32 ∨ bits = 64
theorem swap_eq (bits : Int) (a b c d : Nat) (ha : a < 65536) (hb : b < 65536) (hc : c < 65536) (hd : d < 65536) (h : ok3 bits) :
    P.word_Swap.f bits ((N4 a b c d : Nat) : Int) = some (((swapV bits a b c d : Nat) : Int), 0) := by
  have h1 := sw_lt ha
  have h2 := sw_lt hb
  have h3 := sw_lt hc
  have h4 := sw_lt hd
  unfold P.word_Swap.f
  rw [revN a b c d ha hb hc hd]
  rcases h with rfl | rfl | rfl
  · have e : IntKind.u64.wrap (wrap64 (64 - 16)) = 48 := by decide +kernel
    simp only [if_true, Option.bind_some, e]
    rw [if_pos (by omega)]
    have e2 : shr .u64 ((N4 (sw d) (sw c) (sw b) (sw a) : Nat) : Int) 48 = ((N4 (sw d) (sw c) (sw b) (sw a) / 281474976710656 : Nat) : Int) := rfl
    rw [e2, show N4 (sw d) (sw c) (sw b) (sw a) / 281474976710656 = sw d by unfold N4; omega]
    rfl
  · have e : IntKind.u64.wrap (wrap64 (64 - 32)) = 32 := by decide +kernel
    rw [if_neg (by omega), if_pos rfl]
    simp only [Option.bind_some, e]
    rw [if_pos (by omega)]
    have e2 : shr .u64 ((N4 (sw d) (sw c) (sw b) (sw a) : Nat) : Int) 32 = ((N4 (sw d) (sw c) (sw b) (sw a) / 4294967296 : Nat) : Int) := rfl
    rw [e2, show N4 (sw d) (sw c) (sw b) (sw a) / 4294967296 = N4 0 0 (sw d) (sw c) by unfold N4; omega]
    rfl
  · have e : IntKind.u64.wrap (wrap64 (64 - 64)) = 0 := by decide +kernel
    rw [if_neg (by omega), if_neg (by omega), if_pos rfl]
    simp only [Option.bind_some, e]
    rw [if_pos (by omega)]
    have e2 : shr .u64 ((N4 (sw d) (sw c) (sw b) (sw a) : Nat) : Int) 0 = ((N4 (sw d) (sw c) (sw b) (sw a) / 1 : Nat) : Int) := rfl
    rw [e2, Nat.div_one]
    rfl
theorem swap_no (bits : Int) (a : Int) (h : ¬ ok3 bits) : P.word_Swap.f bits a = some (0, 1) := by
  unfold ok3 at h
  unfold P.word_Swap.f
  rw [if_neg (by omega), if_neg (by omega), if_neg (by omega)]
def rv : Nat → Int → Int → Int
  | 0, r, _ => r
  | n + 1, r, a => rv n (r * 256 + a % 256) (a / 256)
theorem pow256 {x : Nat} (h : x ≤ 7) : (256 : Int) ^ x ≤ 256 ^ 7 := by
  have e := Int.ofNat_le.mpr (Nat.pow_le_pow_right (n := 256) (by omega) h)
  rw [Int.natCast_pow, Int.natCast_pow] at e
  exact e
theorem refloop (bits : Int) (d : Nat) : ∀ (k : Nat) (r a i : Int), d ≤ 8 → 0 ≤ r → r < 256 ^ (8 - d) → R a → 0 ≤ i → wrap64 (Int.tdiv bits 8) - i = d → i + d ≤ 8 → d < k →
    P.stockaderef01_Swap.l0 k bits a r i = some (rv d r a, 0) := by
  induction d with
  | zero =>
    intro k r a i _ _ _ _ _ hi _ hk
    obtain ⟨k, rfl⟩ : ∃ m, k = m + 1 := ⟨k - 1, by omega⟩
    simp only [P.stockaderef01_Swap.l0]
    rw [if_neg (by omega)]; rfl
  | succ d ih =>
    intro k r a i h8 hr0 hr ha hi0 hi hi8 hk
    obtain ⟨k, rfl⟩ : ∃ m, k = m + 1 := ⟨k - 1, by omega⟩
    simp only [P.stockaderef01_Swap.l0]
    have e1 : (256 : Int) ^ (8 - d) = 256 ^ (8 - (d + 1)) * 256 := by
      rw [show 8 - d = 8 - (d + 1) + 1 by omega, Int.pow_succ]
    have e2 : (256 : Int) ^ (8 - (d + 1)) ≤ 256 ^ 7 := pow256 (by omega)
    rw [show (256 : Int) ^ 7 = 72057594037927936 from rfl] at e2
    generalize (256 : Int) ^ (8 - (d + 1)) = p at *
    have ham : 0 ≤ a % 256 ∧ a % 256 < 256 := by omega
    have w1 : IntKind.u64.wrap (r * 256) = r * 256 := wrap_R (by unfold R; omega)
    have w2 : IntKind.u64.wrap (r * 256 + a % 256) = r * 256 + a % 256 := wrap_R (by unfold R; omega)
    have w3 : wrap64 (i + 1) = i + 1 := by unfold wrap64; omega
    rw [if_pos (by omega), tdiv_R ha (by omega), tmod_R ha, w1, w2, w3, ih k _ _ (i + 1) (by omega) (by omega) (by rw [e1]; omega) (R_div ha (by omega)) (by omega) (by omega) (by omega) (by omega)]
    rfl
theorem rv_eq (bits : Int) (h : ok3 bits) (a b c d : Nat) (ha : a < 65536) (hb : b < 65536) (hc : c < 65536) (hd : d < 65536) : rv (bits / 8).toNat 0 ((N4 a b c d : Nat) : Int) = ((swapV bits a b c d : Nat) : Int) := by
  rcases h with rfl | rfl | rfl
  · show (0 * 256 + ((N4 a b c d : Nat) : Int) % 256) * 256 + ((N4 a b c d : Nat) : Int) / 256 % 256 = ((sw d : Nat) : Int)
    unfold N4 sw; omega
  · show (((0 * 256 + ((N4 a b c d : Nat) : Int) % 256) * 256 + ((N4 a b c d : Nat) : Int) / 256 % 256) * 256 + ((N4 a b c d : Nat) : Int) / 256 / 256 % 256) * 256 + ((N4 a b c d : Nat) : Int) / 256 / 256 / 256 % 256 = ((N4 0 0 (sw d) (sw c) : Nat) : Int)
    have e : ((N4 a b c d : Nat) : Int) / 256 / 256 = ((N4 0 a b c : Nat) : Int) := by unfold N4; omega
    rw [e]
    unfold N4 sw; omega
  · show (((((((0 * 256 + ((N4 a b c d : Nat) : Int) % 256) * 256 + ((N4 a b c d : Nat) : Int) / 256 % 256) * 256 + ((N4 a b c d : Nat) : Int) / 256 / 256 % 256) * 256 + ((N4 a b c d : Nat) : Int) / 256 / 256 / 256 % 256) * 256 + ((N4 a b c d : Nat) : Int) / 256 / 256 / 256 / 256 % 256) * 256 + ((N4 a b c d : Nat) : Int) / 256 / 256 / 256 / 256 / 256 % 256) * 256 + ((N4 a b c d : Nat) : Int) / 256 / 256 / 256 / 256 / 256 / 256 % 256) * 256 + ((N4 a b c d : Nat) : Int) / 256 / 256 / 256 / 256 / 256 / 256 / 256 % 256 = ((N4 (sw d) (sw c) (sw b) (sw a) : Nat) : Int)
    have e : ((N4 a b c d : Nat) : Int) / 256 / 256 = ((N4 0 a b c : Nat) : Int) := by unfold N4; omega
    have e2 : ((N4 0 a b c : Nat) : Int) / 256 / 256 = ((N4 0 0 a b : Nat) : Int) := by unfold N4; omega
    have e3 : ((N4 0 0 a b : Nat) : Int) / 256 / 256 = ((N4 0 0 0 a : Nat) : Int) := by unfold N4; omega
    have d0 : ((N4 a b c d : Nat) : Int) % 256 = ((d % 256 : Nat) : Int) := by unfold N4; omega
    have d1 : ((N4 a b c d : Nat) : Int) / 256 % 256 = ((d / 256 : Nat) : Int) := by unfold N4; omega
    have c0 : ((N4 0 a b c : Nat) : Int) % 256 = ((c % 256 : Nat) : Int) := by unfold N4; omega
    have c1 : ((N4 0 a b c : Nat) : Int) / 256 % 256 = ((c / 256 : Nat) : Int) := by unfold N4; omega
    have b0 : ((N4 0 0 a b : Nat) : Int) % 256 = ((b % 256 : Nat) : Int) := by unfold N4; omega
    have b1 : ((N4 0 0 a b : Nat) : Int) / 256 % 256 = ((b / 256 : Nat) : Int) := by unfold N4; omega
    have a0 : ((N4 0 0 0 a : Nat) : Int) % 256 = ((a % 256 : Nat) : Int) := by unfold N4; omega
    have a1 : ((N4 0 0 0 a : Nat) : Int) / 256 % 256 = ((a / 256 : Nat) : Int) := by unfold N4; omega
    rw [e, e2, e3, d0, d1, c0, c1, b0, b1, a0, a1]
    unfold N4 sw; omega
theorem ref_swap (bits : Int) (hw : (Lit.int .i64 bits).wf = true) {a : Int} (ha : R a) (k : Nat) (hk : 10 < k) : P.stockaderef01_Swap.f k bits a = P.word_Swap.f bits a := by
  obtain ⟨k, rfl⟩ : ∃ m, k = m + 1 := ⟨k - 1, by omega⟩
  by_cases h : ok3 bits
  · obtain ⟨x3, x2, x1, x0, l3, l2, l1, l0, rfl⟩ := digits ha
    rw [swap_eq bits x3 x2 x1 x0 l3 l2 l1 l0 h, ← rv_eq bits h x3 x2 x1 x0 l3 l2 l1 l0]
    have hj : P.stockaderef01_Swap.f (k + 1) bits ((N4 x3 x2 x1 x0 : Nat) : Int) = P.stockaderef01_Swap.l0 k bits ((N4 x3 x2 x1 x0 : Nat) : Int) 0 0 := by
      unfold P.stockaderef01_Swap.f
      rcases h with rfl | rfl | rfl <;> rfl
    have hb : wrap64 (Int.tdiv bits 8) = bits / 8 ∧ 0 ≤ bits / 8 ∧ bits / 8 ≤ 8 := by rcases h with rfl | rfl | rfl <;> decide +kernel
    rw [hj]
    exact refloop bits (bits / 8).toNat k 0 _ 0 (by omega) (by omega) (Int.pow_pos (by omega)) ha (by omega) (by omega) (by omega) (by omega)
  · rw [swap_no bits a h]
    unfold ok3 at h
    unfold P.stockaderef01_Swap.f
    rw [if_neg (by omega), if_neg (by omega), show (bits != 64) = true by rw [bne_iff_ne]; omega]
    rfl
theorem ext_eq {x : Int} (h : (Lit.int .i32 x).wf = true) : P.word_Ext.f x = some (IntKind.u64.wrap x) ∧ P.stockaderef01_Ext.f x = some (IntKind.u64.wrap x) ∧ -2147483648 ≤ x ∧ x ≤ 2147483647 := by
  simp only [Lit.wf, Bool.and_eq_true, decide_eq_true_eq] at h
  have h1 : IntKind.i32.min = -2147483648 := by decide
  have h2 : IntKind.i32.max = 2147483647 := by decide
  rw [h1, h2] at h
  refine ⟨?_, ?_, h⟩
  · unfold P.word_Ext.f
    rw [show wrap64 x = x by unfold wrap64; omega]
  · unfold P.stockaderef01_Ext.f
    split
    · rfl
    · simp only [IntKind.wrap_u64]
      congr 1
      unfold wrap64; omega
end Go.Proofs.Ytgmgnlmhfhdfgaa.Wd
