/- Made by this session's driver over the kit's printer: for each Go function a Lean function with the same answers, and a proof that the Go call comes to these answers; no conditions but the ones each theorem names. -/
import Derived.Test.YtkjcjlegokdpdaaDoorPx0
import Derived.Test.YtkjcjlegokdpdaaDoorPx1
namespace Go.Proofs.YtkjcjlegokdpdaaDoor.P
open Go.RowKit Go.Proofs.YtkjcjlegokdpdaaDoorW.PrintWords Go.Proofs.YtkjcjlegokdpdaaDoorW.PrintLast Go.Proofs.YtkjcjlegokdpdaaDoorW.PrintMore
attribute [local go_sem] max2_int min2_int max_two min_two max_three min_three max_four min_four   -- for this text's walks alone
set_option linter.unusedVariables false
set_option linter.unusedSimpArgs false

attribute [local go_sem high] eqA44
/-! ### stockadelaw05_kept: function 15 -/
def stockadelaw05_kept.l0 : Nat → List (S44) → List (S44) → Int → Option (Bool)
 | 0, _, _, _ => none
 | k + 1, x0, x1, x5 => if x5 < (x1.length : Int) then (if 0 ≤ x5 then (if x5 < (x0.length : Int) then (if (!(((rd_T44 x0 x5).f0) == ((rd_T44 x1 x5).f0)) || (!(((rd_T44 x0 x5).f1) == ((rd_T44 x1 x5).f1)) || (!(((rd_T44 x0 x5).f2) == ((rd_T44 x1 x5).f2)) || (!(((rd_T44 x0 x5).f3) == ((rd_T44 x1 x5).f3)) || (!(((rd_T44 x0 x5).f4) == ((rd_T44 x1 x5).f4))))))) = true then (some false) else (stockadelaw05_kept.l0 k x0 x1 (wrap64 (x5 + 1)))) else (none)) else (none)) else (if 0 ≤ (wrap64 ((x1.length : Int) + 1)) then (if (wrap64 ((x1.length : Int) + 1)) ≤ (x0.length : Int) then ((some (x0.take ((wrap64 ((x1.length : Int) + 1)) : Int).toNat : List (S44))).bind fun y402 => (if 0 ≤ (x1.length : Int) then (if (x1.length : Int) < (y402.length : Int) then (some (((rd_T44 y402 (x1.length : Int)).f0) == 149 && (((rd_T44 y402 (x1.length : Int)).f1) == 0 && (((rd_T44 y402 (x1.length : Int)).f2) == 0 && (((rd_T44 y402 (x1.length : Int)).f3) == 7 && (((rd_T44 y402 (x1.length : Int)).f4) == 0)))))) else (none)) else (none))) else (none)) else (none))
def stockadelaw05_kept.f (k : Nat) (l0 : List (S44)) (l1 : List (S44)) : Option (Bool) := stockadelaw05_kept.l0 k l0 l1 0
theorem stockadelaw05_kept.mono_l : ∀ k, (∀ y0 y1 y2, LeO (stockadelaw05_kept.l0 k y0 y1 y2) (stockadelaw05_kept.l0 (k + 1) y0 y1 y2))
 | 0 => fun _ _ _ r h => by simp [stockadelaw05_kept.l0] at h
 | k + 1 => by
  have ih0 := stockadelaw05_kept.mono_l k
  ·intro y0 y1 y2
   unfold stockadelaw05_kept.l0
   repeat' first
   | (with_reducible exact ih0 _ _ _)
   | (with_reducible exact LeO.refl _)
   | (with_reducible exact LeO.none _)
   | (with_reducible refine LeO.ite ?_ ?_)
   | (with_reducible refine LeO.bind ?_ (fun _ => ?_))
   | exact ih0 _ _ _
   | exact LeO.none _
   | refine LeO.ite ?_ ?_
   | refine LeO.bind ?_ (fun _ => ?_)
theorem stockadelaw05_kept.mono : ∀ a0 a1 k, LeO (stockadelaw05_kept.f k a0 a1) (stockadelaw05_kept.f (k + 1) a0 a1) := by
 intro a0 a1 k
 have ih0 := stockadelaw05_kept.mono_l k
 unfold stockadelaw05_kept.f
 repeat' first
   | (with_reducible exact ih0 _ _ _)
   | (with_reducible exact LeO.refl _)
   | (with_reducible exact LeO.none _)
   | (with_reducible refine LeO.ite ?_ ?_)
   | (with_reducible refine LeO.bind ?_ (fun _ => ?_))
   | exact ih0 _ _ _
   | exact LeO.none _
   | refine LeO.ite ?_ ?_
   | refine LeO.bind ?_ (fun _ => ?_)
set_option maxHeartbeats 8000000 in
set_option maxRecDepth 100000 in
theorem stockadelaw05_kept.calls (k : Nat) (A0 : Option Addr) (c0 : Nat) (l0 : List (S44)) (A1 : Option Addr) (c1 : Nat) (l1 : List (S44)) (r : Bool) (w : World) (hr0 : Kd.C k44 w A0 l0.length l0) (hc0 : l0.length ≤ c0) (hr1 : Kd.C k44 w A1 l1.length l1) (hc1 : l1.length ≤ c1) (h : stockadelaw05_kept.f k l0 l1 = some r) :
  Calls Tryd.prog 15 #[.slice A0 l0.length c0, .slice A1 l1.length c1] w fun e w' => e = .returned (.bool r) ∧ Drawn0 w w' := by
 have hu44 := Tryd.underlying44
 have HR0 := Aside0.mk hr0
 have HC0 := Aside0.mk hc0
 clear hr0 hc0
 have HR1 := Aside0.mk hr1
 have HC1 := Aside0.mk hc1
 clear hr1 hc1
 have H : (stockadelaw05_kept.l0 k l0 l1 0) = some r := h
 clear h
 have H' := Aside0.mk H
 clear H
 go_enter Tryd.func15, Tryd.ntmps15
 go_wp2
 repeat (go_quiet (fail); try go_wp2)
 go_loopg [5] k (fun kq v5 w' => ∃ (x5_1 : Int), v5 = .int .i64 x5_1 ∧ Aside0 (stockadelaw05_kept.l0 kq l0 l1 x5_1 = some r) ∧ Aside0 (kq ≤ k) ∧ Drawn0 w w')
 case atStart => exact ⟨(0), eq_now, H', ⟨Nat.le_refl _⟩, by repeat (first | exact Drawn0.refl _ | apply Drawn0.step)⟩
 case round =>
  clear H'
  try clear c1
  try clear p2
  obtain ⟨x5_1, rfl, HA, HK1, ⟨m1, rfl⟩⟩ := hrel
  cases gk with
  | zero => exact absurd HA.out (by simp [stockadelaw05_kept.l0])
  | succ k1 =>
   have H := HA.out
   clear HA
   simp only [stockadelaw05_kept.l0] at H
   by_cases c3 : x5_1 < (l1.length : Int)
   ·rw [if_pos c3] at H
    have c3b0 : decide (x5_1 < (l1.length : Int)) = true := decide_eq_true c3
    clear c3
    by_cases c4 : 0 ≤ x5_1
    ·rw [if_pos c4] at H
     have c4b0 : decide (0 ≤ x5_1) = true := decide_eq_true c4
     clear c4
     by_cases c5 : x5_1 < (l0.length : Int)
     ·rw [if_pos c5] at H
      have c5b0 : decide (x5_1 < (l0.length : Int)) = true := decide_eq_true c5
      clear c5
      by_cases c6 : (!(((rd_T44 l0 x5_1).f0) == ((rd_T44 l1 x5_1).f0)) || (!(((rd_T44 l0 x5_1).f1) == ((rd_T44 l1 x5_1).f1)) || (!(((rd_T44 l0 x5_1).f2) == ((rd_T44 l1 x5_1).f2)) || (!(((rd_T44 l0 x5_1).f3) == ((rd_T44 l1 x5_1).f3)) || (!(((rd_T44 l0 x5_1).f4) == ((rd_T44 l1 x5_1).f4))))))) = true
      ·rw [if_pos c6] at H
       have c6b0 : (!(((rd_T44 l0 x5_1).f0) == ((rd_T44 l1 x5_1).f0)) || (!(((rd_T44 l0 x5_1).f1) == ((rd_T44 l1 x5_1).f1)) || (!(((rd_T44 l0 x5_1).f2) == ((rd_T44 l1 x5_1).f2)) || (!(((rd_T44 l0 x5_1).f3) == ((rd_T44 l1 x5_1).f3)) || (!(((rd_T44 l0 x5_1).f4) == ((rd_T44 l1 x5_1).f4))))))) = true := c6
       clear c6
       obtain rfl := Option.some.inj H
       have p400 : 0 ≤ (x5_1 : Int) := of_decide_eq_true (by first | (with_reducible assumption) | assumption)
       have q400 : x5_1 < (l0.length : Int) := of_decide_eq_true (by first | (with_reducible assumption) | assumption)
       obtain ⟨ad400, e400, hx400_0, hx400_1, hx400_2, hx400_3, hx400_4⟩ := at_T44 HR0.out x5_1 p400 q400
       cases e400
       replace p400 := eq_true p400
       replace q400 := eq_true q400
       have p401 : 0 ≤ (x5_1 : Int) := of_decide_eq_true (by first | (with_reducible assumption) | assumption)
       have q401 : x5_1 < (l1.length : Int) := of_decide_eq_true (by first | (with_reducible assumption) | assumption)
       obtain ⟨ad401, e401, hx401_0, hx401_1, hx401_2, hx401_3, hx401_4⟩ := at_T44 HR1.out x5_1 p401 q401
       cases e401
       replace p401 := eq_true p401
       replace q401 := eq_true q401
       go_wp2
       repeat (go_quiet (fail); try go_wp2)
       go_ret
       exact ⟨by first | rfl | (simp; done) | (simp [*]; done), by repeat (first | exact Drawn0.refl _ | apply Drawn0.step)⟩
      ·rw [if_neg c6] at H
       have c6b0 : (!(((rd_T44 l0 x5_1).f0) == ((rd_T44 l1 x5_1).f0)) || (!(((rd_T44 l0 x5_1).f1) == ((rd_T44 l1 x5_1).f1)) || (!(((rd_T44 l0 x5_1).f2) == ((rd_T44 l1 x5_1).f2)) || (!(((rd_T44 l0 x5_1).f3) == ((rd_T44 l1 x5_1).f3)) || (!(((rd_T44 l0 x5_1).f4) == ((rd_T44 l1 x5_1).f4))))))) = false := by simpa using c6
       clear c6
       have H' := Aside0.mk H
       clear H
       have p400 : 0 ≤ (x5_1 : Int) := of_decide_eq_true (by first | (with_reducible assumption) | assumption)
       have q400 : x5_1 < (l0.length : Int) := of_decide_eq_true (by first | (with_reducible assumption) | assumption)
       obtain ⟨ad400, e400, hx400_0, hx400_1, hx400_2, hx400_3, hx400_4⟩ := at_T44 HR0.out x5_1 p400 q400
       cases e400
       replace p400 := eq_true p400
       replace q400 := eq_true q400
       have p401 : 0 ≤ (x5_1 : Int) := of_decide_eq_true (by first | (with_reducible assumption) | assumption)
       have q401 : x5_1 < (l1.length : Int) := of_decide_eq_true (by first | (with_reducible assumption) | assumption)
       obtain ⟨ad401, e401, hx401_0, hx401_1, hx401_2, hx401_3, hx401_4⟩ := at_T44 HR1.out x5_1 p401 q401
       cases e401
       replace p401 := eq_true p401
       replace q401 := eq_true q401
       go_wp2
       repeat (go_quiet (fail); try go_wp2)
       go_roundg k1
       case measure => have := HK1.out; omega
       case rel => exact ⟨(wrap64 (x5_1 + 1)), eq_now, H', ⟨by have := HK1.out; omega⟩, by repeat (first | exact Drawn0.refl _ | apply Drawn0.step)⟩
     ·rw [if_neg c5] at H
      exact absurd H (by simp)
    ·rw [if_neg c4] at H
     exact absurd H (by simp)
   ·rw [if_neg c3] at H
    have c3b0 : decide (x5_1 < (l1.length : Int)) = false := decide_eq_false c3
    clear c3
    obtain ⟨ji7, hji7⟩ : ∃ j_ : Int, (wrap64 ((l1.length : Int) + 1)) = j_ := ⟨_, rfl⟩
    replace H : (if 0 ≤ (ji7) then (if (ji7) ≤ (l0.length : Int) then ((some (l0.take ((ji7) : Int).toNat : List (S44))).bind fun y402 => (if 0 ≤ (l1.length : Int) then (if (l1.length : Int) < (y402.length : Int) then (some (((rd_T44 y402 (l1.length : Int)).f0) == 149 && (((rd_T44 y402 (l1.length : Int)).f1) == 0 && (((rd_T44 y402 (l1.length : Int)).f2) == 0 && (((rd_T44 y402 (l1.length : Int)).f3) == 7 && (((rd_T44 y402 (l1.length : Int)).f4) == 0)))))) else (none)) else (none))) else (none)) else (none)) = some r := by first | (rw [hji7] at H; exact H) | (simp only [hji7] at H ⊢; exact H)
    have hji7w : (IntKind.i64.wrap ((l1.length : Int) + 1)) = ji7 := (i64_w _).trans hji7
    by_cases c8 : 0 ≤ (ji7)
    ·rw [if_pos c8] at H
     have c8b0 := eq_true c8
     have c8b1 : decide (0 ≤ (ji7)) = true := decide_eq_true c8
     clear c8
     by_cases c9 : (ji7) ≤ (l0.length : Int)
     ·rw [if_pos c9] at H
      have c9b0 := eq_true c9
      have c9b1 : decide ((ji7) ≤ (l0.length : Int)) = true := decide_eq_true c9
      clear c9
      obtain ⟨y402, hy402⟩ : ∃ y_ : List (S44), y_ = (l0.take ((ji7) : Int).toNat) := ⟨_, rfl⟩
      replace H : (if 0 ≤ (l1.length : Int) then (if (l1.length : Int) < (y402.length : Int) then (some (((rd_T44 y402 (l1.length : Int)).f0) == 149 && (((rd_T44 y402 (l1.length : Int)).f1) == 0 && (((rd_T44 y402 (l1.length : Int)).f2) == 0 && (((rd_T44 y402 (l1.length : Int)).f3) == 7 && (((rd_T44 y402 (l1.length : Int)).f4) == 0)))))) else (none)) else (none)) = some r := by first | (rw [hy402]; with_reducible exact H) | (have H2_ := (Option.bind_some _ _).symm.trans H; rw [hy402]; with_reducible exact H2_) | (have H2_ := (Option.bind_some _ _).symm.trans H; with_reducible exact H2_) | with_reducible exact H | (rw [hy402]; exact H) | exact H
      have Ny402 := Aside0.mk hy402
      clear hy402
      by_cases c10 : 0 ≤ (l1.length : Int)
      ·rw [if_pos c10] at H
       have c10b0 : decide (0 ≤ (l1.length : Int)) = true := decide_eq_true c10
       have c10b1 : decide (0 ≤ l1.length) = true := decide_eq_true (by omega)
       clear c10
       by_cases c11 : (l1.length : Int) < (y402.length : Int)
       ·rw [if_pos c11] at H
        have c11b0 : decide ((l1.length : Int) < (y402.length : Int)) = true := decide_eq_true c11
        have c11b1 : decide (l1.length < y402.length) = true := decide_eq_true (Int.ofNat_lt.mp c11)
        clear c11
        obtain rfl := Option.some.inj H
        have q12 : ((ji7) : Int) ≤ ((l0.length : Int) : Int) := of_decide_eq_true (by first | (with_reducible assumption) | assumption)
        obtain ⟨i012, hi012, _, hsz12, _⟩ := info_parts info44
        have hroom12 : l0.length ≤ c0 := HC0.out
        have hC12 : Kd.C k44 _ A0 l0.length l0 := HR0.out
        have hcut12 := cut_to (P := Tryd.prog) 22 44 .i64 Tryd.underlying22 hi012 A0 l0.length c0 (ji7) (of_decide_eq_true (by first | (with_reducible assumption) | assumption)) q12 hroom12
        have hr12 := Kd.C_take (m := ((ji7) : Int).toNat) hC12 (by omega)
        have hy12 : y402.length = ((ji7) : Int).toNat := (by rw [Ny402.out, List.length_take]; omega)
        rw [← Ny402.out] at hr12
        rw [← hy12] at hcut12
        have HR405 := Aside0.mk hr12
        have HC405 := Aside0.mk (show y402.length ≤ c0 from by omega)
        clear hr12 hC12 hroom12 hi012 hsz12
        have KY12 := Aside0.mk hy12
        clear hy12
        replace q12 := eq_true q12
        have p406 : 0 ≤ ((l1.length : Int) : Int) := of_decide_eq_true (by first | (with_reducible assumption) | assumption)
        have q406 : (l1.length : Int) < (y402.length : Int) := of_decide_eq_true (by first | (with_reducible assumption) | assumption)
        obtain ⟨ad406, e406, hx406_0, hx406_1, hx406_2, hx406_3, hx406_4⟩ := at_T44 HR405.out (l1.length : Int) p406 q406
        cases e406
        (try simp only [Go.IntWalk.toNatUp] at hx406_0)
        (try simp only [Go.IntWalk.toNatUp] at hx406_1)
        (try simp only [Go.IntWalk.toNatUp] at hx406_2)
        (try simp only [Go.IntWalk.toNatUp] at hx406_3)
        (try simp only [Go.IntWalk.toNatUp] at hx406_4)
        replace p406 := eq_true p406
        replace q406 := eq_true q406
        go_wp2
        repeat (go_quiet (fail); try go_wp2)
        go_ret
        exact ⟨by first | rfl | (simp; done) | (simp only [← hji7] <;> (first | rfl | simp)) | (simp [*]; done), by repeat (first | exact Drawn0.refl _ | apply Drawn0.step)⟩
       ·rw [if_neg c11] at H
        exact absurd H (by simp)
      ·rw [if_neg c10] at H
       exact absurd H (by simp)
     ·rw [if_neg c9] at H
      exact absurd H (by simp)
    ·rw [if_neg c8] at H
     exact absurd H (by simp)

end Go.Proofs.YtkjcjlegokdpdaaDoor.P
