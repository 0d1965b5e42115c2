/- Made by this session's driver over the kit's printer: for each Go function a Lean function with the same answers, and a proof that the Go call comes to these answers; no conditions but the ones each theorem names. -/
import Derived.Test.YtondogoepcndiaaDoorPx0
namespace Go.Proofs.YtondogoepcndiaaDoor.P
open Go.RowKit Go.Proofs.YtondogoepcndiaaDoorW.PrintWords Go.Proofs.YtondogoepcndiaaDoorW.PrintLast Go.Proofs.YtondogoepcndiaaDoorW.PrintMore
attribute [local go_sem] max2_int min2_int max_two min_two max_three min_three max_four min_four   -- for this text's walks alone
set_option linter.unusedVariables false
set_option linter.unusedSimpArgs false

/-! ### stockaderef03_digits: function 34 -/
def stockaderef03_digits.l0 : Nat → Int → ByteArray → Option (ByteArray)
 | 0, _, _ => none
 | k + 1, x0, x3 => if x0 > 9 then ((some (([(IntKind.u64.wrap (48 + (Int.tmod x0 10))) % 256] : List Int) : List Int)).bind fun y467 => (if (strOfNums y467).size + x3.size ≤ 9223372036854775807 then (stockaderef03_digits.l0 k (IntKind.u64.wrap (Int.tdiv x0 10)) ((strOfNums y467) ++ x3)) else (none))) else ((some (([(IntKind.u64.wrap (48 + x0)) % 256] : List Int) : List Int)).bind fun y470 => (if (strOfNums y470).size + x3.size ≤ 9223372036854775807 then (some ((strOfNums y470) ++ x3)) else (none)))
def stockaderef03_digits.f (k : Nat) (a0 : Int) : Option (ByteArray) := stockaderef03_digits.l0 k a0 (⟨#[]⟩ : ByteArray)
theorem stockaderef03_digits.mono_l : ∀ k, (∀ y0 y1, LeO (stockaderef03_digits.l0 k y0 y1) (stockaderef03_digits.l0 (k + 1) y0 y1))
 | 0 => fun _ _ r h => by simp [stockaderef03_digits.l0] at h
 | k + 1 => by
  have ih0 := stockaderef03_digits.mono_l k
  ·intro y0 y1
   unfold stockaderef03_digits.l0
   repeat' first
   | (with_reducible exact ih0 _ _)
   | (with_reducible exact LeO.refl _)
   | (with_reducible exact LeO.none _)
   | (with_reducible refine LeO.ite ?_ ?_)
   | (with_reducible refine LeO.bind ?_ (fun _ => ?_))
   | refine LeO.ite ?_ ?_
   | refine LeO.bind ?_ (fun _ => ?_)
theorem stockaderef03_digits.mono : ∀ a0 k, LeO (stockaderef03_digits.f k a0) (stockaderef03_digits.f (k + 1) a0) := by
 intro a0 k
 have ih0 := stockaderef03_digits.mono_l k
 unfold stockaderef03_digits.f
 repeat' first
   | (with_reducible exact ih0 _ _)
   | (with_reducible exact LeO.refl _)
   | (with_reducible exact LeO.none _)
   | (with_reducible refine LeO.ite ?_ ?_)
   | (with_reducible refine LeO.bind ?_ (fun _ => ?_))
   | refine LeO.ite ?_ ?_
   | refine LeO.bind ?_ (fun _ => ?_)
set_option maxHeartbeats 8000000 in
set_option maxRecDepth 100000 in
theorem stockaderef03_digits.calls (k : Nat) (a0 : Int) (r : ByteArray) (w : World) (h : stockaderef03_digits.f k a0 = some r) :
  Calls Tryd.prog 34 #[.int .u64 a0] w fun e w' => e = .returned (.string r) ∧ Below w.heap.size w w' := by
 have HB := Aside0.mk (Below.refl w.heap.size w)
 have H : (stockaderef03_digits.l0 k a0 (⟨#[]⟩ : ByteArray)) = some r := h
 clear h
 have H' := Aside0.mk H
 clear H
 go_enter Tryd.func34, Tryd.ntmps34
 go_wp2
 go_loopg [0, 3] k (fun kq v0 v3 w' => ∃ (x0_1 : Int) (x3_1 : ByteArray), v0 = .int .u64 x0_1 ∧ v3 = .string x3_1 ∧ Aside0 (stockaderef03_digits.l0 kq x0_1 x3_1 = some r) ∧ Aside0 (kq ≤ k) ∧ Aside0 (Below w.heap.size w w'))
 case atStart => exact ⟨(a0), ((⟨#[]⟩ : ByteArray)), eq_now, eq_now, H', ⟨Nat.le_refl _⟩, ⟨b_now⟩⟩
 case round =>
  clear H'
  obtain ⟨x0_1, x3_1, rfl, rfl, HA, HK1, HB⟩ := hrel
  cases gk with
  | zero => exact absurd HA.out (by simp [stockaderef03_digits.l0])
  | succ k1 =>
   have H := HA.out
   clear HA
   simp only [stockaderef03_digits.l0] at H
   by_cases c2 : x0_1 > 9
   ·rw [if_pos c2] at H
    have c2b0 : decide (9 < x0_1) = true := decide_eq_true c2
    clear c2
    obtain ⟨y467, hy467⟩ : ∃ y_ : List Int, y_ = (([(IntKind.u64.wrap (48 + (Int.tmod x0_1 10))) % 256] : List Int)) := ⟨_, rfl⟩
    replace H : (if (strOfNums y467).size + x3_1.size ≤ 9223372036854775807 then (stockaderef03_digits.l0 k1 (IntKind.u64.wrap (Int.tdiv x0_1 10)) ((strOfNums y467) ++ x3_1)) else (none)) = some r := by first | (rw [hy467]; with_reducible exact H) | (have H2_ := (Option.bind_some _ _).symm.trans H; rw [hy467]; with_reducible exact H2_) | (have H2_ := (Option.bind_some _ _).symm.trans H; with_reducible exact H2_) | with_reducible exact H | (rw [hy467]; exact H) | exact H
    have Ny467 := Aside0.mk hy467
    clear hy467
    by_cases c3 : (strOfNums y467).size + x3_1.size ≤ 9223372036854775807
    ·rw [if_pos c3] at H
     have c3b0 := eq_true c3
     have c3b1 : decide ((strOfNums y467).size + x3_1.size ≤ 9223372036854775807) = true := decide_eq_true c3
     try have c3b2 : (9223372036854775807 < (strOfNums y467).size + x3_1.size) = False := eq_false (Nat.not_lt.2 c3)
     have H' := Aside0.mk H
     clear H
     go_wp2_with (first | ((with_reducible refine gate_dst (N := 10) rfl ?_); refine Kd.R_lit (Kd.int .u8) _ 5 ?hg (N := 10) ?hd (xs := ([(IntKind.u64.wrap (48 + (Int.tmod x0_1 10))) % 256] : List Int)) (inner := [.int .u8 ((IntKind.u64.wrap (48 + (Int.tmod x0_1 10))) % 256)]) (ok := fun _ => True) (okp := fun _ => True) ?hr ?hp (fun _ hk => hk) trivial (Below.refl _ _) (Nat.le_refl _) (by simp) ?_; (case hd => rfl); (case hg => rfl); (case hr => first | (go_simp; done) | (go_simp; rfl)); (case hp => exact (Reps.one (show Kd.M (Kd.int .u8) _ _ _ ((IntKind.u64.wrap (48 + (Int.tmod x0_1 10))) % 256) [.int .u8 ((IntKind.u64.wrap (48 + (Int.tmod x0_1 10))) % 256)] from rfl) (Reps.none _ _))); intro v468 w4 ho5 hb hg_ hnew_; clear hg_ hnew_; (first | rw [← Ny467.out] at ho5 | (simp only [Int.reduceToNat] at ho5; rw [← Ny467.out] at ho5)); have HO469 := Aside0.mk (Kd.R_lower ho5 (below_size b_now)); replace HB := sh_b (w := w) hb; clear hb ho5; have hcv6 := own_string (P := Tryd.prog) Tryd.underlying44 Tryd.underlying5 Tryd.underlying9 (Kd.own_of_R HO469.out)))
     go_roundg k1
     case measure => have := HK1.out; omega
     case rel => exact ⟨(IntKind.u64.wrap (Int.tdiv x0_1 10)), ((strOfNums y467) ++ x3_1), eq_now, eq_now, H', ⟨by have := HK1.out; omega⟩, ⟨b_now⟩⟩
    ·rw [if_neg c3] at H
     exact absurd H (by simp)
   ·rw [if_neg c2] at H
    have c2b0 : decide (9 < x0_1) = false := decide_eq_false c2
    clear c2
    obtain ⟨y470, hy470⟩ : ∃ y_ : List Int, y_ = (([(IntKind.u64.wrap (48 + x0_1)) % 256] : List Int)) := ⟨_, rfl⟩
    replace H : (if (strOfNums y470).size + x3_1.size ≤ 9223372036854775807 then (some ((strOfNums y470) ++ x3_1)) else (none)) = some r := by first | (rw [hy470]; with_reducible exact H) | (have H2_ := (Option.bind_some _ _).symm.trans H; rw [hy470]; with_reducible exact H2_) | (have H2_ := (Option.bind_some _ _).symm.trans H; with_reducible exact H2_) | with_reducible exact H | (rw [hy470]; exact H) | exact H
    have Ny470 := Aside0.mk hy470
    clear hy470
    by_cases c7 : (strOfNums y470).size + x3_1.size ≤ 9223372036854775807
    ·rw [if_pos c7] at H
     have c7b0 := eq_true c7
     have c7b1 : decide ((strOfNums y470).size + x3_1.size ≤ 9223372036854775807) = true := decide_eq_true c7
     try have c7b2 : (9223372036854775807 < (strOfNums y470).size + x3_1.size) = False := eq_false (Nat.not_lt.2 c7)
     obtain rfl := Option.some.inj H
     go_wp2_with (first | ((with_reducible refine gate_dst (N := 19) rfl ?_); refine Kd.R_lit (Kd.int .u8) _ 5 ?hg (N := 19) ?hd (xs := ([(IntKind.u64.wrap (48 + x0_1)) % 256] : List Int)) (inner := [.int .u8 ((IntKind.u64.wrap (48 + x0_1)) % 256)]) (ok := fun _ => True) (okp := fun _ => True) ?hr ?hp (fun _ hk => hk) trivial (Below.refl _ _) (Nat.le_refl _) (by simp) ?_; (case hd => rfl); (case hg => rfl); (case hr => first | (go_simp; done) | (go_simp; rfl)); (case hp => exact (Reps.one (show Kd.M (Kd.int .u8) _ _ _ ((IntKind.u64.wrap (48 + x0_1)) % 256) [.int .u8 ((IntKind.u64.wrap (48 + x0_1)) % 256)] from rfl) (Reps.none _ _))); intro v471 w8 ho9 hb hg_ hnew_; clear hg_ hnew_; (first | rw [← Ny470.out] at ho9 | (simp only [Int.reduceToNat] at ho9; rw [← Ny470.out] at ho9)); have HO472 := Aside0.mk (Kd.R_lower ho9 (below_size b_now)); replace HB := sh_b (w := w) hb; clear hb ho9; have hcv10 := own_string (P := Tryd.prog) Tryd.underlying44 Tryd.underlying5 Tryd.underlying9 (Kd.own_of_R HO472.out)))
     go_ret
     exact ⟨ret_now, b_now⟩
    ·rw [if_neg c7] at H
     exact absurd H (by simp)

/-! ### stockaderef03_signed: function 35 -/
def stockaderef03_signed.f (k : Nat) (a0 : Int) : Option (ByteArray) := if a0 < 0 then ((stockaderef03_digits.f k (IntKind.u64.wrap (wrap64 (-a0)))).bind fun t473 => (if 1 + t473.size ≤ 9223372036854775807 then (some ((⟨#[45]⟩ : ByteArray) ++ t473)) else (none))) else ((stockaderef03_digits.f k (IntKind.u64.wrap (a0))).bind fun t474 => (some t474))
theorem stockaderef03_signed.mono : ∀ a0 k, LeO (stockaderef03_signed.f k a0) (stockaderef03_signed.f (k + 1) a0) := by
 intro a0 k
 unfold stockaderef03_signed.f
 repeat' first
   | (with_reducible exact stockaderef03_digits.mono _ _)
   | (with_reducible exact LeO.refl _)
   | (with_reducible exact LeO.none _)
   | (with_reducible refine LeO.ite ?_ ?_)
   | (with_reducible refine LeO.bind ?_ (fun _ => ?_))
   | refine LeO.ite ?_ ?_
   | refine LeO.bind ?_ (fun _ => ?_)
set_option maxHeartbeats 8000000 in
set_option maxRecDepth 100000 in
theorem stockaderef03_signed.calls (k : Nat) (a0 : Int) (r : ByteArray) (w : World) (h : stockaderef03_signed.f k a0 = some r) :
  Calls Tryd.prog 35 #[.int .i64 a0] w fun e w' => e = .returned (.string r) ∧ Below w.heap.size w w' := by
 have HB := Aside0.mk (Below.refl w.heap.size w)
 have H : (if a0 < 0 then ((stockaderef03_digits.f k (IntKind.u64.wrap (wrap64 (-a0)))).bind fun t473 => (if 1 + t473.size ≤ 9223372036854775807 then (some ((⟨#[45]⟩ : ByteArray) ++ t473)) else (none))) else ((stockaderef03_digits.f k (IntKind.u64.wrap (a0))).bind fun t474 => (some t474))) = some r := h
 clear h
 by_cases c2 : a0 < 0
 ·rw [if_pos c2] at H
  have c2b0 : decide (a0 < 0) = true := decide_eq_true c2
  clear c2
  obtain ⟨t473, A3, H⟩ := bs_ H; try dsimp only at H
  by_cases c4 : 1 + t473.size ≤ 9223372036854775807
  ·rw [if_pos c4] at H
   have c4b0 := eq_true c4
   have c4b1 : decide (1 + t473.size ≤ 9223372036854775807) = true := decide_eq_true c4
   try have c4b2 : (9223372036854775807 < 1 + t473.size) = False := eq_false (Nat.not_lt.2 c4)
   obtain rfl := Option.some.inj H
   go_enter Tryd.func35, Tryd.ntmps35
   go_wp2_with (first | ((with_reducible refine gate_callee (f := 34) rfl ?_); refine sh_call (some 8) Tryd.func34 #[.int .u64 (IntKind.u64.wrap (wrap64 (-a0)))] ?_; (with_reducible refine (stockaderef03_digits.calls k (IntKind.u64.wrap (wrap64 (-a0))) t473 _ A3.out).mono ?_); rintro e w5 ⟨rfl, hb⟩; refine ⟨_, rfl, ?_⟩; replace HB := sh_b (w := w) hb; (try clear hb); (try clear hb2); (try clear hk); (try clear hi)))
   go_ret
   exact ⟨ret_now, b_now⟩
  ·rw [if_neg c4] at H
   exact absurd H (by simp)
 ·rw [if_neg c2] at H
  have c2b0 : decide (a0 < 0) = false := decide_eq_false c2
  clear c2
  obtain ⟨t474, A6, H⟩ := bs_ H; try dsimp only at H
  obtain rfl := Option.some.inj H
  go_enter Tryd.func35, Tryd.ntmps35
  go_wp2_with (first | ((with_reducible refine gate_callee (f := 34) rfl ?_); refine sh_call (some 12) Tryd.func34 #[.int .u64 (IntKind.u64.wrap (a0))] ?_; (with_reducible refine (stockaderef03_digits.calls k (IntKind.u64.wrap (a0)) t474 _ A6.out).mono ?_); rintro e w7 ⟨rfl, hb⟩; refine ⟨_, rfl, ?_⟩; replace HB := sh_b (w := w) hb; (try clear hb); (try clear hb2); (try clear hk); (try clear hi)))
  go_ret
  exact ⟨ret_now, b_now⟩

/-! ### stockaderef03_fill: function 20 -/
def stockaderef03_fill.l0 : Nat → ByteArray → Int → ByteArray → Int → Int → Int → Int → Int → Int → Option (ByteArray)
 | 0, _, _, _, _, _, _, _, _, _ => none
 | k + 1, x0, x2, x7, x8, x476000, x476001, x476002, x476003, x476004 => if x8 < (x0.size : Int) then (if 0 ≤ x8 then (if (bt x0 x8) = 68 then (if x7.size + 1 ≤ 9223372036854775807 then ((stockaderef03_digits.f k (IntKind.u64.wrap (x476001))).bind fun t476 => (if (x7 ++ (⟨#[114]⟩ : ByteArray)).size + t476.size ≤ 9223372036854775807 then (stockaderef03_fill.l0 k x0 x2 ((x7 ++ (⟨#[114]⟩ : ByteArray)) ++ t476) (wrap64 (x8 + 1)) x476000 x476001 x476002 x476003 x476004) else (none))) else (none)) else (if (bt x0 x8) = 83 then (if x7.size + 1 ≤ 9223372036854775807 then ((stockaderef03_digits.f k (IntKind.u64.wrap (x476002))).bind fun t477 => (if (x7 ++ (⟨#[114]⟩ : ByteArray)).size + t477.size ≤ 9223372036854775807 then (stockaderef03_fill.l0 k x0 x2 ((x7 ++ (⟨#[114]⟩ : ByteArray)) ++ t477) (wrap64 (x8 + 1)) x476000 x476001 x476002 x476003 x476004) else (none))) else (none)) else (if (bt x0 x8) = 79 then (if x476003 ≥ 0 then (if x7.size + 1 ≤ 9223372036854775807 then ((stockaderef03_signed.f k (wrap64 (x476003))).bind fun t478 => (if (x7 ++ (⟨#[43]⟩ : ByteArray)).size + t478.size ≤ 9223372036854775807 then (stockaderef03_fill.l0 k x0 x2 ((x7 ++ (⟨#[43]⟩ : ByteArray)) ++ t478) (wrap64 (x8 + 1)) x476000 x476001 x476002 x476003 x476004) else (none))) else (none)) else ((stockaderef03_signed.f k (wrap64 (x476003))).bind fun t479 => (if x7.size + t479.size ≤ 9223372036854775807 then (stockaderef03_fill.l0 k x0 x2 (x7 ++ t479) (wrap64 (x8 + 1)) x476000 x476001 x476002 x476003 x476004) else (none)))) else (if (bt x0 x8) = 78 then ((stockaderef03_signed.f k (wrap64 (x476004))).bind fun t480 => (if x7.size + t480.size ≤ 9223372036854775807 then (stockaderef03_fill.l0 k x0 x2 (x7 ++ t480) (wrap64 (x8 + 1)) x476000 x476001 x476002 x476003 x476004) else (none))) else (if (bt x0 x8) = 85 then ((stockaderef03_digits.f k ((((x2) % 4294967296) * 4294967296) + ((x476004) % 4294967296))).bind fun t481 => (if x7.size + t481.size ≤ 9223372036854775807 then (stockaderef03_fill.l0 k x0 x2 (x7 ++ t481) (wrap64 (x8 + 1)) x476000 x476001 x476002 x476003 x476004) else (none))) else (if x8 ≤ (wrap64 (x8 + 1)) then (if (wrap64 (x8 + 1)) ≤ (x0.size : Int) then (if x7.size + (x0.extract (x8 : Int).toNat ((wrap64 (x8 + 1)) : Int).toNat).size ≤ 9223372036854775807 then (stockaderef03_fill.l0 k x0 x2 (x7 ++ (x0.extract (x8 : Int).toNat ((wrap64 (x8 + 1)) : Int).toNat)) (wrap64 (x8 + 1)) x476000 x476001 x476002 x476003 x476004) else (none)) else (none)) else (none))))))) else (none)) else (some x7)
def stockaderef03_fill.f (k : Nat) (a0 : ByteArray) (a1_0 : Int) (a1_1 : Int) (a1_2 : Int) (a1_3 : Int) (a1_4 : Int) (a2 : Int) : Option (ByteArray) := stockaderef03_fill.l0 k a0 a2 (⟨#[]⟩ : ByteArray) 0 a1_0 a1_1 a1_2 a1_3 a1_4
theorem stockaderef03_fill.mono_l : ∀ k, (∀ y0 y1 y2 y3 y4 y5 y6 y7 y8, LeO (stockaderef03_fill.l0 k y0 y1 y2 y3 y4 y5 y6 y7 y8) (stockaderef03_fill.l0 (k + 1) y0 y1 y2 y3 y4 y5 y6 y7 y8))
 | 0 => fun _ _ _ _ _ _ _ _ _ r h => by simp [stockaderef03_fill.l0] at h
 | k + 1 => by
  have ih0 := stockaderef03_fill.mono_l k
  ·intro y0 y1 y2 y3 y4 y5 y6 y7 y8
   unfold stockaderef03_fill.l0
   repeat' first
   | (with_reducible exact ih0 _ _ _ _ _ _ _ _ _)
   | (with_reducible exact stockaderef03_digits.mono _ _)
   | (with_reducible exact stockaderef03_signed.mono _ _)
   | (with_reducible exact LeO.refl _)
   | (with_reducible exact LeO.none _)
   | (with_reducible refine LeO.ite ?_ ?_)
   | (with_reducible refine LeO.bind ?_ (fun _ => ?_))
   | refine LeO.ite ?_ ?_
   | refine LeO.bind ?_ (fun _ => ?_)
theorem stockaderef03_fill.mono : ∀ a0 a1 a2 a3 a4 a5 a6 k, LeO (stockaderef03_fill.f k a0 a1 a2 a3 a4 a5 a6) (stockaderef03_fill.f (k + 1) a0 a1 a2 a3 a4 a5 a6) := by
 intro a0 a1 a2 a3 a4 a5 a6 k
 have ih0 := stockaderef03_fill.mono_l k
 unfold stockaderef03_fill.f
 repeat' first
   | (with_reducible exact ih0 _ _ _ _ _ _ _ _ _)
   | (with_reducible exact stockaderef03_digits.mono _ _)
   | (with_reducible exact stockaderef03_signed.mono _ _)
   | (with_reducible exact LeO.refl _)
   | (with_reducible exact LeO.none _)
   | (with_reducible refine LeO.ite ?_ ?_)
   | (with_reducible refine LeO.bind ?_ (fun _ => ?_))
   | refine LeO.ite ?_ ?_
   | refine LeO.bind ?_ (fun _ => ?_)
set_option maxHeartbeats 8000000 in
set_option maxRecDepth 100000 in
theorem stockaderef03_fill.calls (k : Nat) (a0 : ByteArray) (a1_0 : Int) (a1_1 : Int) (a1_2 : Int) (a1_3 : Int) (a1_4 : Int) (a2 : Int) (r : ByteArray) (w : World) (h : stockaderef03_fill.f k a0 a1_0 a1_1 a1_2 a1_3 a1_4 a2 = some r) :
  Calls Tryd.prog 20 #[.string a0, .agg #[.int .u8 a1_0, .int .u8 a1_1, .int .u8 a1_2, .int .i16 a1_3, .int .i32 a1_4], .int .i32 a2] w fun e w' => e = .returned (.string r) ∧ Below w.heap.size w w' := by
 have hu37 := Tryd.underlying37
 have HB := Aside0.mk (Below.refl w.heap.size w)
 have H : (stockaderef03_fill.l0 k a0 a2 (⟨#[]⟩ : ByteArray) 0 a1_0 a1_1 a1_2 a1_3 a1_4) = some r := h
 clear h
 have H' := Aside0.mk H
 clear H
 go_enter Tryd.func20, Tryd.ntmps20
 go_wp2_with (first | ((with_reducible refine gate_dst (N := 4) rfl ?_); refine sh_box 4 #[.int .u8 a1_0, .int .u8 a1_1, .int .u8 a1_2, .int .i16 a1_3, .int .i32 a1_4] 37 ?_; intro gb475 hg w4 hbox hb; have GE475 := sh_z (w := w) hg; replace HB := sh_b (w := w) hb; have BK475 := Aside0.mk (hbox); clear hb hbox hg))
 go_loopg [7, 8] k (fun kq v7 v8 w' => ∃ (x7_1 : ByteArray) (x8_1 : Int), v7 = .string x7_1 ∧ v8 = .int .i64 x8_1 ∧ Aside0 (stockaderef03_fill.l0 kq a0 a2 x7_1 x8_1 a1_0 a1_1 a1_2 a1_3 a1_4 = some r) ∧ Aside0 (kq ≤ k) ∧ Aside0 (w'.heap[gb475]? = some (.cells #[.int .u8 a1_0, .int .u8 a1_1, .int .u8 a1_2, .int .i16 a1_3, .int .i32 a1_4] 37 (0, 0))) ∧ Aside0 (Below w.heap.size w w'))
 case atStart => exact ⟨((⟨#[]⟩ : ByteArray)), (0), eq_now, eq_now, H', ⟨Nat.le_refl _⟩, ⟨bk_now⟩, ⟨b_now⟩⟩
 case round =>
  clear H'
  try clear c2
  try clear p2
  obtain ⟨x7_1, x8_1, rfl, rfl, HA, HK1, BK475, HB⟩ := hrel
  cases gk with
  | zero => exact absurd HA.out (by simp [stockaderef03_fill.l0])
  | succ k1 =>
   have H := HA.out
   clear HA
   simp only [stockaderef03_fill.l0] at H
   by_cases c5 : x8_1 < (a0.size : Int)
   ·rw [if_pos c5] at H
    have c5b0 : decide (x8_1 < (a0.size : Int)) = true := decide_eq_true c5
    clear c5
    by_cases c6 : 0 ≤ x8_1
    ·rw [if_pos c6] at H
     have c6b0 : decide (0 ≤ x8_1) = true := decide_eq_true c6
     clear c6
     by_cases c8 : (bt a0 x8_1) = 68
     ·rw [if_pos c8] at H
      obtain ⟨c8b0, c8b1⟩ := eqT c8
      clear c8
      by_cases c9 : x7_1.size + 1 ≤ 9223372036854775807
      ·rw [if_pos c9] at H
       have c9b0 := eq_true c9
       have c9b1 : decide (x7_1.size + 1 ≤ 9223372036854775807) = true := decide_eq_true c9
       try have c9b2 : (9223372036854775807 < x7_1.size + 1) = False := eq_false (Nat.not_lt.2 c9)
       obtain ⟨t476, A10, H⟩ := bs_ H; try dsimp only at H
       by_cases c11 : (x7_1 ++ (⟨#[114]⟩ : ByteArray)).size + t476.size ≤ 9223372036854775807
       ·rw [if_pos c11] at H
        have c11b0 := eq_true c11
        have c11_y0 : ((9223372036854775807 < x7_1.size + 1 + t476.size) : Prop) = False := eq_false (by have h_ := c11; simp only [ByteArray.size_append] at h_; exact Nat.not_lt.2 h_)
        have c11_z0 : ((x7_1.size + 1 + t476.size ≤ 9223372036854775807) : Prop) = True := eq_true (by have h_ := c11; simp only [ByteArray.size_append] at h_; exact h_)
        have c11b1 : decide ((x7_1 ++ (⟨#[114]⟩ : ByteArray)).size + t476.size ≤ 9223372036854775807) = true := decide_eq_true c11
        try have c11b2 : (9223372036854775807 < (x7_1 ++ (⟨#[114]⟩ : ByteArray)).size + t476.size) = False := eq_false (Nat.not_lt.2 c11)
        have H' := Aside0.mk H
        clear H
        have p7 : 0 ≤ (x8_1 : Int) := od_
        have q7 : x8_1 < (a0.size : Int) := od_
        have hx7 := bt_at a0 x8_1
        replace p7 := eq_true p7
        replace q7 := eq_true q7
        have hcz12 := blk_all5 BK475.out
        go_wp2_with (first | ((with_reducible refine gate_callee (f := 34) rfl ?_); refine sh_call (some 32) Tryd.func34 #[.int .u64 (IntKind.u64.wrap (a1_1))] ?_; (with_reducible refine (stockaderef03_digits.calls k1 (IntKind.u64.wrap (a1_1)) t476 _ A10.out).mono ?_); rintro e w13 ⟨rfl, hb⟩; refine ⟨_, rfl, ?_⟩; replace BK475 := sh_k BK475 hb; replace HB := sh_b (w := w) hb; (try clear hb); (try clear hb2); (try clear hk); (try clear hi)))
        go_roundg k1
        case measure => have := HK1.out; omega
        case rel => exact ⟨((x7_1 ++ (⟨#[114]⟩ : ByteArray)) ++ t476), (wrap64 (x8_1 + 1)), eq_now, eq_now, H', ⟨by have := HK1.out; omega⟩, ⟨bk_now⟩, ⟨b_now⟩⟩
       ·rw [if_neg c11] at H
        exact absurd H (by simp)
      ·rw [if_neg c9] at H
       exact absurd H (by simp)
     ·rw [if_neg c8] at H
      obtain ⟨c8b0, c8b1⟩ := eqF c8
      by_cases c14 : (bt a0 x8_1) = 83
      ·rw [if_pos c14] at H
       obtain ⟨c14b0, c14b1⟩ := eqT c14
       clear c14
       by_cases c15 : x7_1.size + 1 ≤ 9223372036854775807
       ·rw [if_pos c15] at H
        have c15b0 := eq_true c15
        have c15b1 : decide (x7_1.size + 1 ≤ 9223372036854775807) = true := decide_eq_true c15
        try have c15b2 : (9223372036854775807 < x7_1.size + 1) = False := eq_false (Nat.not_lt.2 c15)
        obtain ⟨t477, A16, H⟩ := bs_ H; try dsimp only at H
        by_cases c17 : (x7_1 ++ (⟨#[114]⟩ : ByteArray)).size + t477.size ≤ 9223372036854775807
        ·rw [if_pos c17] at H
         have c17b0 := eq_true c17
         have c17_y0 : ((9223372036854775807 < x7_1.size + 1 + t477.size) : Prop) = False := eq_false (by have h_ := c17; simp only [ByteArray.size_append] at h_; exact Nat.not_lt.2 h_)
         have c17_z0 : ((x7_1.size + 1 + t477.size ≤ 9223372036854775807) : Prop) = True := eq_true (by have h_ := c17; simp only [ByteArray.size_append] at h_; exact h_)
         have c17b1 : decide ((x7_1 ++ (⟨#[114]⟩ : ByteArray)).size + t477.size ≤ 9223372036854775807) = true := decide_eq_true c17
         try have c17b2 : (9223372036854775807 < (x7_1 ++ (⟨#[114]⟩ : ByteArray)).size + t477.size) = False := eq_false (Nat.not_lt.2 c17)
         have H' := Aside0.mk H
         clear H
         have p7 : 0 ≤ (x8_1 : Int) := od_
         have q7 : x8_1 < (a0.size : Int) := od_
         have hx7 := bt_at a0 x8_1
         replace p7 := eq_true p7
         replace q7 := eq_true q7
         have hcz18 := blk_all5 BK475.out
         go_wp2_with (first | ((with_reducible refine gate_callee (f := 34) rfl ?_); refine sh_call (some 41) Tryd.func34 #[.int .u64 (IntKind.u64.wrap (a1_2))] ?_; (with_reducible refine (stockaderef03_digits.calls k1 (IntKind.u64.wrap (a1_2)) t477 _ A16.out).mono ?_); rintro e w19 ⟨rfl, hb⟩; refine ⟨_, rfl, ?_⟩; replace BK475 := sh_k BK475 hb; replace HB := sh_b (w := w) hb; (try clear hb); (try clear hb2); (try clear hk); (try clear hi)))
         go_roundg k1
         case measure => have := HK1.out; omega
         case rel => exact ⟨((x7_1 ++ (⟨#[114]⟩ : ByteArray)) ++ t477), (wrap64 (x8_1 + 1)), eq_now, eq_now, H', ⟨by have := HK1.out; omega⟩, ⟨bk_now⟩, ⟨b_now⟩⟩
        ·rw [if_neg c17] at H
         exact absurd H (by simp)
       ·rw [if_neg c15] at H
        exact absurd H (by simp)
      ·rw [if_neg c14] at H
       obtain ⟨c14b0, c14b1⟩ := eqF c14
       by_cases c20 : (bt a0 x8_1) = 79
       ·rw [if_pos c20] at H
        obtain ⟨c20b0, c20b1⟩ := eqT c20
        clear c20
        by_cases c21 : a1_3 ≥ 0
        ·rw [if_pos c21] at H
         have c21b0 : decide (0 ≤ a1_3) = true := decide_eq_true c21
         clear c21
         by_cases c22 : x7_1.size + 1 ≤ 9223372036854775807
         ·rw [if_pos c22] at H
          have c22b0 := eq_true c22
          have c22b1 : decide (x7_1.size + 1 ≤ 9223372036854775807) = true := decide_eq_true c22
          try have c22b2 : (9223372036854775807 < x7_1.size + 1) = False := eq_false (Nat.not_lt.2 c22)
          obtain ⟨t478, A23, H⟩ := bs_ H; try dsimp only at H
          by_cases c24 : (x7_1 ++ (⟨#[43]⟩ : ByteArray)).size + t478.size ≤ 9223372036854775807
          ·rw [if_pos c24] at H
           have c24b0 := eq_true c24
           have c24_y0 : ((9223372036854775807 < x7_1.size + 1 + t478.size) : Prop) = False := eq_false (by have h_ := c24; simp only [ByteArray.size_append] at h_; exact Nat.not_lt.2 h_)
           have c24_z0 : ((x7_1.size + 1 + t478.size ≤ 9223372036854775807) : Prop) = True := eq_true (by have h_ := c24; simp only [ByteArray.size_append] at h_; exact h_)
           have c24b1 : decide ((x7_1 ++ (⟨#[43]⟩ : ByteArray)).size + t478.size ≤ 9223372036854775807) = true := decide_eq_true c24
           try have c24b2 : (9223372036854775807 < (x7_1 ++ (⟨#[43]⟩ : ByteArray)).size + t478.size) = False := eq_false (Nat.not_lt.2 c24)
           have H' := Aside0.mk H
           clear H
           have p7 : 0 ≤ (x8_1 : Int) := od_
           have q7 : x8_1 < (a0.size : Int) := od_
           have hx7 := bt_at a0 x8_1
           replace p7 := eq_true p7
           replace q7 := eq_true q7
           have hcz25 := blk_all5 BK475.out
           go_wp2_with (first | ((with_reducible refine gate_callee (f := 35) rfl ?_); refine sh_call (some 54) Tryd.func35 #[.int .i64 (wrap64 (a1_3))] ?_; (with_reducible refine (stockaderef03_signed.calls k1 (wrap64 (a1_3)) t478 _ A23.out).mono ?_); rintro e w26 ⟨rfl, hb⟩; refine ⟨_, rfl, ?_⟩; replace BK475 := sh_k BK475 hb; replace HB := sh_b (w := w) hb; (try clear hb); (try clear hb2); (try clear hk); (try clear hi)))
           go_roundg k1
           case measure => have := HK1.out; omega
           case rel => exact ⟨((x7_1 ++ (⟨#[43]⟩ : ByteArray)) ++ t478), (wrap64 (x8_1 + 1)), eq_now, eq_now, H', ⟨by have := HK1.out; omega⟩, ⟨bk_now⟩, ⟨b_now⟩⟩
          ·rw [if_neg c24] at H
           exact absurd H (by simp)
         ·rw [if_neg c22] at H
          exact absurd H (by simp)
        ·rw [if_neg c21] at H
         have c21b0 : decide (0 ≤ a1_3) = false := decide_eq_false c21
         clear c21
         obtain ⟨t479, A27, H⟩ := bs_ H; try dsimp only at H
         by_cases c28 : x7_1.size + t479.size ≤ 9223372036854775807
         ·rw [if_pos c28] at H
          have c28b0 := eq_true c28
          have c28b1 : decide (x7_1.size + t479.size ≤ 9223372036854775807) = true := decide_eq_true c28
          try have c28b2 : (9223372036854775807 < x7_1.size + t479.size) = False := eq_false (Nat.not_lt.2 c28)
          have H' := Aside0.mk H
          clear H
          have p7 : 0 ≤ (x8_1 : Int) := od_
          have q7 : x8_1 < (a0.size : Int) := od_
          have hx7 := bt_at a0 x8_1
          replace p7 := eq_true p7
          replace q7 := eq_true q7
          have hcz29 := blk_all5 BK475.out
          go_wp2_with (first | ((with_reducible refine gate_callee (f := 35) rfl ?_); refine sh_call (some 54) Tryd.func35 #[.int .i64 (wrap64 (a1_3))] ?_; (with_reducible refine (stockaderef03_signed.calls k1 (wrap64 (a1_3)) t479 _ A27.out).mono ?_); rintro e w30 ⟨rfl, hb⟩; refine ⟨_, rfl, ?_⟩; replace BK475 := sh_k BK475 hb; replace HB := sh_b (w := w) hb; (try clear hb); (try clear hb2); (try clear hk); (try clear hi)))
          go_roundg k1
          case measure => have := HK1.out; omega
          case rel => exact ⟨(x7_1 ++ t479), (wrap64 (x8_1 + 1)), eq_now, eq_now, H', ⟨by have := HK1.out; omega⟩, ⟨bk_now⟩, ⟨b_now⟩⟩
         ·rw [if_neg c28] at H
          exact absurd H (by simp)
       ·rw [if_neg c20] at H
        obtain ⟨c20b0, c20b1⟩ := eqF c20
        by_cases c31 : (bt a0 x8_1) = 78
        ·rw [if_pos c31] at H
         obtain ⟨c31b0, c31b1⟩ := eqT c31
         clear c31
         obtain ⟨t480, A32, H⟩ := bs_ H; try dsimp only at H
         by_cases c33 : x7_1.size + t480.size ≤ 9223372036854775807
         ·rw [if_pos c33] at H
          have c33b0 := eq_true c33
          have c33b1 : decide (x7_1.size + t480.size ≤ 9223372036854775807) = true := decide_eq_true c33
          try have c33b2 : (9223372036854775807 < x7_1.size + t480.size) = False := eq_false (Nat.not_lt.2 c33)
          have H' := Aside0.mk H
          clear H
          have p7 : 0 ≤ (x8_1 : Int) := od_
          have q7 : x8_1 < (a0.size : Int) := od_
          have hx7 := bt_at a0 x8_1
          replace p7 := eq_true p7
          replace q7 := eq_true q7
          have hcz34 := blk_all5 BK475.out
          go_wp2_with (first | ((with_reducible refine gate_callee (f := 35) rfl ?_); refine sh_call (some 62) Tryd.func35 #[.int .i64 (wrap64 (a1_4))] ?_; (with_reducible refine (stockaderef03_signed.calls k1 (wrap64 (a1_4)) t480 _ A32.out).mono ?_); rintro e w35 ⟨rfl, hb⟩; refine ⟨_, rfl, ?_⟩; replace BK475 := sh_k BK475 hb; replace HB := sh_b (w := w) hb; (try clear hb); (try clear hb2); (try clear hk); (try clear hi)))
          go_roundg k1
          case measure => have := HK1.out; omega
          case rel => exact ⟨(x7_1 ++ t480), (wrap64 (x8_1 + 1)), eq_now, eq_now, H', ⟨by have := HK1.out; omega⟩, ⟨bk_now⟩, ⟨b_now⟩⟩
         ·rw [if_neg c33] at H
          exact absurd H (by simp)
        ·rw [if_neg c31] at H
         obtain ⟨c31b0, c31b1⟩ := eqF c31
         by_cases c36 : (bt a0 x8_1) = 85
         ·rw [if_pos c36] at H
          obtain ⟨c36b0, c36b1⟩ := eqT c36
          clear c36
          obtain ⟨t481, A37, H⟩ := bs_ H; try dsimp only at H
          by_cases c38 : x7_1.size + t481.size ≤ 9223372036854775807
          ·rw [if_pos c38] at H
           have c38b0 := eq_true c38
           have c38b1 : decide (x7_1.size + t481.size ≤ 9223372036854775807) = true := decide_eq_true c38
           try have c38b2 : (9223372036854775807 < x7_1.size + t481.size) = False := eq_false (Nat.not_lt.2 c38)
           have H' := Aside0.mk H
           clear H
           have p7 : 0 ≤ (x8_1 : Int) := od_
           have q7 : x8_1 < (a0.size : Int) := od_
           have hx7 := bt_at a0 x8_1
           replace p7 := eq_true p7
           replace q7 := eq_true q7
           have hcz39 := blk_all5 BK475.out
           go_wp2_with (first | ((with_reducible refine gate_callee (f := 34) rfl ?_); refine sh_call (some 76) Tryd.func34 #[.int .u64 ((((a2) % 4294967296) * 4294967296) + ((a1_4) % 4294967296))] ?_; (with_reducible refine (stockaderef03_digits.calls k1 ((((a2) % 4294967296) * 4294967296) + ((a1_4) % 4294967296)) t481 _ A37.out).mono ?_); rintro e w40 ⟨rfl, hb⟩; refine ⟨_, rfl, ?_⟩; replace BK475 := sh_k BK475 hb; replace HB := sh_b (w := w) hb; (try clear hb); (try clear hb2); (try clear hk); (try clear hi)))
           go_roundg k1
           case measure => have := HK1.out; omega
           case rel => exact ⟨(x7_1 ++ t481), (wrap64 (x8_1 + 1)), eq_now, eq_now, H', ⟨by have := HK1.out; omega⟩, ⟨bk_now⟩, ⟨b_now⟩⟩
          ·rw [if_neg c38] at H
           exact absurd H (by simp)
         ·rw [if_neg c36] at H
          obtain ⟨c36b0, c36b1⟩ := eqF c36
          have c41b0 := eq_true (od_ : 0 ≤ x8_1)
          by_cases c42 : x8_1 ≤ (wrap64 (x8_1 + 1))
          ·rw [if_pos c42] at H
           have c42b0 := eq_true c42
           have c42b1 : decide (x8_1 ≤ (wrap64 (x8_1 + 1))) = true := decide_eq_true c42
           by_cases c43 : (wrap64 (x8_1 + 1)) ≤ (a0.size : Int)
           ·rw [if_pos c43] at H
            have c43b0 := eq_true c43
            have c43b1 : decide ((wrap64 (x8_1 + 1)) ≤ (a0.size : Int)) = true := decide_eq_true c43
            by_cases c44 : x7_1.size + (a0.extract (x8_1 : Int).toNat ((wrap64 (x8_1 + 1)) : Int).toNat).size ≤ 9223372036854775807
            ·rw [if_pos c44] at H
             have c44b0 := eq_true c44
             have c44b1 : decide (x7_1.size + (a0.extract (x8_1 : Int).toNat ((wrap64 (x8_1 + 1)) : Int).toNat).size ≤ 9223372036854775807) = true := decide_eq_true c44
             try have c44b2 : (9223372036854775807 < x7_1.size + (a0.extract (x8_1 : Int).toNat ((wrap64 (x8_1 + 1)) : Int).toNat).size) = False := eq_false (Nat.not_lt.2 c44)
             have H' := Aside0.mk H
             clear H
             have p7 : 0 ≤ (x8_1 : Int) := od_
             have q7 : x8_1 < (a0.size : Int) := od_
             have hx7 := bt_at a0 x8_1
             replace p7 := eq_true p7
             replace q7 := eq_true q7
             go_wp2
             go_roundg k1
             case measure => have := HK1.out; omega
             case rel => exact ⟨(x7_1 ++ (a0.extract (x8_1 : Int).toNat ((wrap64 (x8_1 + 1)) : Int).toNat)), (wrap64 (x8_1 + 1)), eq_now, eq_now, H', ⟨by have := HK1.out; omega⟩, ⟨bk_now⟩, ⟨b_now⟩⟩
            ·rw [if_neg c44] at H
             exact absurd H (by simp)
           ·rw [if_neg c43] at H
            exact absurd H (by simp)
          ·rw [if_neg c42] at H
           exact absurd H (by simp)
    ·rw [if_neg c6] at H
     exact absurd H (by simp)
   ·rw [if_neg c5] at H
    have c5b0 : decide (x8_1 < (a0.size : Int)) = false := decide_eq_false c5
    clear c5
    obtain rfl := Option.some.inj H
    go_wp2
    go_ret
    exact ⟨ret_now, b_now⟩

/-! ### stockaderef03_name: function 36 -/
def stockaderef03_name.f (a0 : Int) (a1 : Int) : Option (ByteArray) := if a0 = 1 then (if 0 ≤ a1 then (if a1 < 13 then (some (rdOf ByteArray.empty ([(⟨#[97, 100, 100]⟩ : ByteArray), (⟨#[115, 117, 98]⟩ : ByteArray), (⟨#[109, 117, 108]⟩ : ByteArray), (⟨#[100, 105, 118]⟩ : ByteArray), (⟨#[111, 114]⟩ : ByteArray), (⟨#[97, 110, 100]⟩ : ByteArray), (⟨#[108, 115, 104]⟩ : ByteArray), (⟨#[114, 115, 104]⟩ : ByteArray), (⟨#[110, 101, 103]⟩ : ByteArray), (⟨#[109, 111, 100]⟩ : ByteArray), (⟨#[120, 111, 114]⟩ : ByteArray), (⟨#[109, 111, 118]⟩ : ByteArray), (⟨#[97, 114, 115, 104]⟩ : ByteArray)] : List ByteArray) a1)) else (none)) else (none)) else (if 0 ≤ a1 then (if a1 < 14 then (some (rdOf ByteArray.empty ([(⟨#[]⟩ : ByteArray), (⟨#[106, 101, 113]⟩ : ByteArray), (⟨#[106, 103, 116]⟩ : ByteArray), (⟨#[106, 103, 101]⟩ : ByteArray), (⟨#[106, 115, 101, 116]⟩ : ByteArray), (⟨#[106, 110, 101]⟩ : ByteArray), (⟨#[106, 115, 103, 116]⟩ : ByteArray), (⟨#[106, 115, 103, 101]⟩ : ByteArray), (⟨#[]⟩ : ByteArray), (⟨#[]⟩ : ByteArray), (⟨#[106, 108, 116]⟩ : ByteArray), (⟨#[106, 108, 101]⟩ : ByteArray), (⟨#[106, 115, 108, 116]⟩ : ByteArray), (⟨#[106, 115, 108, 101]⟩ : ByteArray)] : List ByteArray) a1)) else (none)) else (none))
set_option maxHeartbeats 8000000 in
set_option maxRecDepth 100000 in
theorem stockaderef03_name.calls (a0 : Int) (a1 : Int) (r : ByteArray) (w : World) (h : stockaderef03_name.f a0 a1 = some r) :
  Calls Tryd.prog 36 #[.int .i64 a0, .int .i64 a1] w fun e w' => e = .returned (.string r) ∧ Drawn0 w w' := by
 have H : (if a0 = 1 then (if 0 ≤ a1 then (if a1 < 13 then (some (rdOf ByteArray.empty ([(⟨#[97, 100, 100]⟩ : ByteArray), (⟨#[115, 117, 98]⟩ : ByteArray), (⟨#[109, 117, 108]⟩ : ByteArray), (⟨#[100, 105, 118]⟩ : ByteArray), (⟨#[111, 114]⟩ : ByteArray), (⟨#[97, 110, 100]⟩ : ByteArray), (⟨#[108, 115, 104]⟩ : ByteArray), (⟨#[114, 115, 104]⟩ : ByteArray), (⟨#[110, 101, 103]⟩ : ByteArray), (⟨#[109, 111, 100]⟩ : ByteArray), (⟨#[120, 111, 114]⟩ : ByteArray), (⟨#[109, 111, 118]⟩ : ByteArray), (⟨#[97, 114, 115, 104]⟩ : ByteArray)] : List ByteArray) a1)) else (none)) else (none)) else (if 0 ≤ a1 then (if a1 < 14 then (some (rdOf ByteArray.empty ([(⟨#[]⟩ : ByteArray), (⟨#[106, 101, 113]⟩ : ByteArray), (⟨#[106, 103, 116]⟩ : ByteArray), (⟨#[106, 103, 101]⟩ : ByteArray), (⟨#[106, 115, 101, 116]⟩ : ByteArray), (⟨#[106, 110, 101]⟩ : ByteArray), (⟨#[106, 115, 103, 116]⟩ : ByteArray), (⟨#[106, 115, 103, 101]⟩ : ByteArray), (⟨#[]⟩ : ByteArray), (⟨#[]⟩ : ByteArray), (⟨#[106, 108, 116]⟩ : ByteArray), (⟨#[106, 108, 101]⟩ : ByteArray), (⟨#[106, 115, 108, 116]⟩ : ByteArray), (⟨#[106, 115, 108, 101]⟩ : ByteArray)] : List ByteArray) a1)) else (none)) else (none))) = some r := h
 clear h
 by_cases c3 : a0 = 1
 ·rw [if_pos c3] at H
  obtain ⟨c3b0, c3b1⟩ := eqT c3
  clear c3
  by_cases c4 : 0 ≤ a1
  ·rw [if_pos c4] at H
   have c4b0 : decide (0 ≤ a1) = true := decide_eq_true c4
   clear c4
   by_cases c5 : a1 < 13
   ·rw [if_pos c5] at H
    have c5b0 : decide (a1 < 13) = true := decide_eq_true c5
    clear c5
    obtain ⟨i482_, hi482_, _⟩ := Option.map_eq_some_iff.1 (show (Tryd.prog.info? 9).map (fun i => i.size) = some 1 by kernel_rfl)
    have ix482 : ∀ W_ : World, (Instr.index 75 (.agg #[.string (⟨#[97, 100, 100]⟩ : ByteArray), .string (⟨#[115, 117, 98]⟩ : ByteArray), .string (⟨#[109, 117, 108]⟩ : ByteArray), .string (⟨#[100, 105, 118]⟩ : ByteArray), .string (⟨#[111, 114]⟩ : ByteArray), .string (⟨#[97, 110, 100]⟩ : ByteArray), .string (⟨#[108, 115, 104]⟩ : ByteArray), .string (⟨#[114, 115, 104]⟩ : ByteArray), .string (⟨#[110, 101, 103]⟩ : ByteArray), .string (⟨#[109, 111, 100]⟩ : ByteArray), .string (⟨#[120, 111, 114]⟩ : ByteArray), .string (⟨#[109, 111, 118]⟩ : ByteArray), .string (⟨#[97, 114, 115, 104]⟩ : ByteArray)]) (.int .i64 a1)).run Tryd.prog W_ = .ok (.string (rdOf ByteArray.empty ([(⟨#[97, 100, 100]⟩ : ByteArray), (⟨#[115, 117, 98]⟩ : ByteArray), (⟨#[109, 117, 108]⟩ : ByteArray), (⟨#[100, 105, 118]⟩ : ByteArray), (⟨#[111, 114]⟩ : ByteArray), (⟨#[97, 110, 100]⟩ : ByteArray), (⟨#[108, 115, 104]⟩ : ByteArray), (⟨#[114, 115, 104]⟩ : ByteArray), (⟨#[110, 101, 103]⟩ : ByteArray), (⟨#[109, 111, 100]⟩ : ByteArray), (⟨#[120, 111, 114]⟩ : ByteArray), (⟨#[109, 111, 118]⟩ : ByteArray), (⟨#[97, 114, 115, 104]⟩ : ByteArray)] : List ByteArray) a1)) W_ := fun W_ => run_index_enc Value.string ByteArray.empty ([(⟨#[97, 100, 100]⟩ : ByteArray), (⟨#[115, 117, 98]⟩ : ByteArray), (⟨#[109, 117, 108]⟩ : ByteArray), (⟨#[100, 105, 118]⟩ : ByteArray), (⟨#[111, 114]⟩ : ByteArray), (⟨#[97, 110, 100]⟩ : ByteArray), (⟨#[108, 115, 104]⟩ : ByteArray), (⟨#[114, 115, 104]⟩ : ByteArray), (⟨#[110, 101, 103]⟩ : ByteArray), (⟨#[109, 111, 100]⟩ : ByteArray), (⟨#[120, 111, 114]⟩ : ByteArray), (⟨#[109, 111, 118]⟩ : ByteArray), (⟨#[97, 114, 115, 104]⟩ : ByteArray)] : List ByteArray) a1 W_ Tryd.underlying75 (fun W_ => by kernel_rfl) hi482_ (by kernel_rfl) (by first | omega | exact od_) (by first | omega | exact od_) rfl
    clear hi482_
    obtain rfl := Option.some.inj H
    go_enter Tryd.func36, Tryd.ntmps36
    go_wp2
    go_ret
    exact ⟨by first | rfl | (simp; done) | (simp [*]; done), by repeat (first | exact Drawn0.refl _ | apply Drawn0.step)⟩
   ·rw [if_neg c5] at H
    exact absurd H (by simp)
  ·rw [if_neg c4] at H
   exact absurd H (by simp)
 ·rw [if_neg c3] at H
  obtain ⟨c3b0, c3b1⟩ := eqF c3
  by_cases c6 : 0 ≤ a1
  ·rw [if_pos c6] at H
   have c6b0 : decide (0 ≤ a1) = true := decide_eq_true c6
   clear c6
   by_cases c7 : a1 < 14
   ·rw [if_pos c7] at H
    have c7b0 : decide (a1 < 14) = true := decide_eq_true c7
    clear c7
    obtain ⟨i483_, hi483_, _⟩ := Option.map_eq_some_iff.1 (show (Tryd.prog.info? 9).map (fun i => i.size) = some 1 by kernel_rfl)
    have ix483 : ∀ W_ : World, (Instr.index 77 (.agg #[.string (⟨#[]⟩ : ByteArray), .string (⟨#[106, 101, 113]⟩ : ByteArray), .string (⟨#[106, 103, 116]⟩ : ByteArray), .string (⟨#[106, 103, 101]⟩ : ByteArray), .string (⟨#[106, 115, 101, 116]⟩ : ByteArray), .string (⟨#[106, 110, 101]⟩ : ByteArray), .string (⟨#[106, 115, 103, 116]⟩ : ByteArray), .string (⟨#[106, 115, 103, 101]⟩ : ByteArray), .string (⟨#[]⟩ : ByteArray), .string (⟨#[]⟩ : ByteArray), .string (⟨#[106, 108, 116]⟩ : ByteArray), .string (⟨#[106, 108, 101]⟩ : ByteArray), .string (⟨#[106, 115, 108, 116]⟩ : ByteArray), .string (⟨#[106, 115, 108, 101]⟩ : ByteArray)]) (.int .i64 a1)).run Tryd.prog W_ = .ok (.string (rdOf ByteArray.empty ([(⟨#[]⟩ : ByteArray), (⟨#[106, 101, 113]⟩ : ByteArray), (⟨#[106, 103, 116]⟩ : ByteArray), (⟨#[106, 103, 101]⟩ : ByteArray), (⟨#[106, 115, 101, 116]⟩ : ByteArray), (⟨#[106, 110, 101]⟩ : ByteArray), (⟨#[106, 115, 103, 116]⟩ : ByteArray), (⟨#[106, 115, 103, 101]⟩ : ByteArray), (⟨#[]⟩ : ByteArray), (⟨#[]⟩ : ByteArray), (⟨#[106, 108, 116]⟩ : ByteArray), (⟨#[106, 108, 101]⟩ : ByteArray), (⟨#[106, 115, 108, 116]⟩ : ByteArray), (⟨#[106, 115, 108, 101]⟩ : ByteArray)] : List ByteArray) a1)) W_ := fun W_ => run_index_enc Value.string ByteArray.empty ([(⟨#[]⟩ : ByteArray), (⟨#[106, 101, 113]⟩ : ByteArray), (⟨#[106, 103, 116]⟩ : ByteArray), (⟨#[106, 103, 101]⟩ : ByteArray), (⟨#[106, 115, 101, 116]⟩ : ByteArray), (⟨#[106, 110, 101]⟩ : ByteArray), (⟨#[106, 115, 103, 116]⟩ : ByteArray), (⟨#[106, 115, 103, 101]⟩ : ByteArray), (⟨#[]⟩ : ByteArray), (⟨#[]⟩ : ByteArray), (⟨#[106, 108, 116]⟩ : ByteArray), (⟨#[106, 108, 101]⟩ : ByteArray), (⟨#[106, 115, 108, 116]⟩ : ByteArray), (⟨#[106, 115, 108, 101]⟩ : ByteArray)] : List ByteArray) a1 W_ Tryd.underlying77 (fun W_ => by kernel_rfl) hi483_ (by kernel_rfl) (by first | omega | exact od_) (by first | omega | exact od_) rfl
    clear hi483_
    obtain rfl := Option.some.inj H
    go_enter Tryd.func36, Tryd.ntmps36
    go_wp2
    go_ret
    exact ⟨by first | rfl | (simp; done) | (simp [*]; done), by repeat (first | exact Drawn0.refl _ | apply Drawn0.step)⟩
   ·rw [if_neg c7] at H
    exact absurd H (by simp)
  ·rw [if_neg c6] at H
   exact absurd H (by simp)

end Go.Proofs.YtondogoepcndiaaDoor.P
