/- Made by this session's driver over the kit's printer: for each Go function a Lean function with the same answers, and a proof that the Go call comes to these answers; no conditions but the ones each theorem names. -/
import Derived.Test.YtondogoepcndiaaDoorPx0
import Derived.Test.YtondogoepcndiaaDoorPxXXNu
import Derived.Test.YtondogoepcndiaaDoorPxXXRe
import Derived.Test.YtondogoepcndiaaDoorPxXXIb
namespace Go.Proofs.YtondogoepcndiaaDoor.P
open Go.RowKit Go.Proofs.YtondogoepcndiaaDoorW.PrintWords Go.Proofs.YtondogoepcndiaaDoorW.PrintLast Go.Proofs.YtondogoepcndiaaDoorW.PrintMore
attribute [local go_sem] max2_int min2_int max_two min_two max_three min_three max_four min_four   -- for this text's walks alone
set_option linter.unusedVariables false
set_option linter.unusedSimpArgs false

/-! ### asm_address: function 56 -/
def asm_address.j0 : Nat → ByteArray → Int → Option (Int × Int)
 | 0, _, _ => none
 | k + 1, x0, x4 => if x4 < 0 then (some (256, 0)) else (if 0 ≤ x4 then (if x4 ≤ (x0.size : Int) then ((asm_register.f (x0.extract 0 (x4 : Int).toNat)).bind fun t209 => ((asm_number.f (x0.extract (x4 : Int).toNat x0.size) 16).bind fun t210 => (if t209 = 256 then (some (256, 0)) else (if t210 = 4611686018427387904 then (some (256, 0)) else (some (t209, IntKind.i16.wrap (t210))))))) else (none)) else (none))
def asm_address.f (k : Nat) (a0 : ByteArray) : Option (Int × Int) := (strings_IndexByte.f a0 43).bind fun t207 => (if t207 < 0 then ((strings_IndexByte.f a0 45).bind fun t208 => (asm_address.j0 k a0 t208)) else (asm_address.j0 k a0 t207))
theorem asm_address.mono_l : ∀ k, (∀ y0 y1, LeO (asm_address.j0 k y0 y1) (asm_address.j0 (k + 1) y0 y1))
 | 0 => fun _ _ r h => by simp [asm_address.j0] at h
 | k + 1 => by
  have ih0 := asm_address.mono_l k
  ·intro y0 y1
   unfold asm_address.j0
   repeat' first
   | (with_reducible exact ih0 _ _)
   | (with_reducible exact LeO.refl _)
   | (with_reducible exact LeO.none _)
   | (with_reducible refine LeO.ite ?_ ?_)
   | (with_reducible refine LeO.bind ?_ (fun _ => ?_))
   | refine LeO.ite ?_ ?_
   | refine LeO.bind ?_ (fun _ => ?_)
theorem asm_address.mono : ∀ a0 k, LeO (asm_address.f k a0) (asm_address.f (k + 1) a0) := by
 intro a0 k
 have ih0 := asm_address.mono_l k
 unfold asm_address.f
 repeat' first
   | (with_reducible exact ih0 _ _)
   | (with_reducible exact LeO.refl _)
   | (with_reducible exact LeO.none _)
   | (with_reducible refine LeO.ite ?_ ?_)
   | (with_reducible refine LeO.bind ?_ (fun _ => ?_))
   | refine LeO.ite ?_ ?_
   | refine LeO.bind ?_ (fun _ => ?_)
def asm_address.T6 : Bool × List (List Nat × List Nat) := (true, [([], []), ([], []), ([0, 1], [0, 1]), ([2], [2]), ([], []), ([], []), ([4, 5], [4, 5]), ([6, 3], [6]), ([7], [7]), ([3, 7, 0, 1, 2, 3], [3]), ([8, 9, 0, 1, 2, 3, 4, 5, 6, 7, 8, 9], [8])])
def asm_address.B6 : List Nat := [0, 0, 3, 7, 0, 0, 48, 127, 255, 255, 1023]
theorem asm_address.tab6 : rtab .any (opsOf Tryd.f56 6) = asm_address.T6 := by kernel_rfl
theorem asm_address.bits6 : waitsOk asm_address.T6.2 asm_address.B6 = true := by kernel_rfl
set_option maxHeartbeats 8000000 in
set_option maxRecDepth 100000 in
theorem asm_address.both (k : Nat) (a0 : ByteArray) (r1 : Int) (r2 : Int) (w : World) (hrG3 : Kd.C kGF w (some ⟨3, 0, none⟩) gl3.length gl3) (h : asm_address.f k a0 = some (r1, r2)) :
  Calls Tryd.prog 56 #[.string a0] w fun e w' => (r1 = 256 ∧ Bad e ∨ r1 ≠ 256 ∧ e = .returned (.tuple #[.int .u8 r1, .int .i16 r2])) ∧ Below w.heap.size w w' := by
 have HRG3 := Aside0.mk hrG3
 clear hrG3
 have HB := Aside0.mk (Below.refl w.heap.size w)
 have H : ((strings_IndexByte.f a0 43).bind fun t207 => (if t207 < 0 then ((strings_IndexByte.f a0 45).bind fun t208 => (asm_address.j0 k a0 t208)) else (asm_address.j0 k a0 t207))) = some (r1, r2) := h
 clear h
 obtain ⟨t207, A2, H⟩ := bs_ H; try dsimp only at H
 have HC3 := Aside0.mk H
 clear H
 go_enter Tryd.func56, Tryd.ntmps56
 go_upto_if 8 with (first | ((with_reducible refine gate_callee (f := 73) rfl ?_); refine sh_call (some 6) Tryd.func73 #[.string a0, .int .u8 43] ?_; (with_reducible refine (strings_IndexByte.calls a0 43 t207 _ A2.out).mono ?_); rintro e w' ⟨rfl, ⟨nd, rfl⟩⟩; refine ⟨_, rfl, ?_⟩))
 (try simp only [Act.put, List.setIfInBounds_toArray, List.set_cons_zero, List.set_cons_succ])
 go_cut [4] (fun v4 wc => ∃ (kq : Nat) (x4_2 : Int), v4 = .int .i64 x4_2 ∧ Aside0 (asm_address.j0 kq a0 x4_2 = some (r1, r2)) ∧ Aside0 (kq ≤ k) ∧ Aside0 (Below w.heap.size w wc))
 case first =>
  have H := HC3.out
  clear HC3
  by_cases c4 : t207 < 0
  ·rw [if_pos c4] at H
   have c4b0 : decide (t207 < 0) = true := decide_eq_true c4
   clear c4
   (first | rw [c4b0] | (simp only [i64_w, i32_w]; rw [c4b0]) | skip)
   obtain ⟨t208, A5, H⟩ := bs_ H; try dsimp only at H
   have H' := Aside0.mk H
   clear H
   go_wp2_with (first | ((with_reducible refine gate_callee (f := 73) rfl ?_); refine sh_call (some 10) Tryd.func73 #[.string a0, .int .u8 45] ?_; (with_reducible refine (strings_IndexByte.calls a0 45 t208 _ A5.out).mono ?_); rintro e w' ⟨rfl, ⟨nd, rfl⟩⟩; refine ⟨_, rfl, ?_⟩))
   go_meet
   case rel => exact ⟨_, (t208), eq_now, H', ⟨by first | omega | exact Nat.le_refl _⟩, ⟨b_now⟩⟩
  ·rw [if_neg c4] at H
   have c4b0 : decide (t207 < 0) = false := decide_eq_false c4
   clear c4
   (first | rw [c4b0] | (simp only [i64_w, i32_w]; rw [c4b0]) | skip)
   have H' := Aside0.mk H
   clear H
   go_wp2
   go_meet
   case rel => exact ⟨_, (t207), eq_now, H', ⟨by first | omega | exact Nat.le_refl _⟩, ⟨b_now⟩⟩
 case rest =>
  clear HC3
  try clear p2
  try clear c4
  try clear c4b0
  try clear c5
  obtain ⟨kq, x4_2, rfl, HA, HJ2, HB⟩ := hcut
  cases kq with
  | zero => exact absurd HA.out (by simp [asm_address.j0])
  | succ kj2 =>
   have H := HA.out
   clear HA
   simp only [asm_address.j0] at H
   by_cases c6 : x4_2 < 0
   ·rw [if_pos c6] at H
    have c6b0 : decide (x4_2 < 0) = true := decide_eq_true c6
    clear c6
    obtain ⟨rfl, rfl⟩ := pi2 H
    go_wp2
    first | exact ⟨rfl, .inl ⟨by first | rfl | trivial, rfl⟩, b_now⟩ | exact ⟨rfl, rfl, b_now⟩
   ·rw [if_neg c6] at H
    have c6b0 : decide (x4_2 < 0) = false := decide_eq_false c6
    clear c6
    by_cases c7 : 0 ≤ x4_2
    ·rw [if_pos c7] at H
     have c7b0 := eq_true c7
     have c7b1 : decide (0 ≤ x4_2) = true := decide_eq_true c7
     clear c7
     by_cases c8 : x4_2 ≤ (a0.size : Int)
     ·rw [if_pos c8] at H
      have c8b0 := eq_true c8
      have c8b1 : decide (x4_2 ≤ (a0.size : Int)) = true := decide_eq_true c8
      clear c8
      obtain ⟨t209, A9, H⟩ := bs_ H; try dsimp only at H
      have c10b0 := eq_true (od_ : 0 ≤ x4_2)
      have c11b0 := eq_true (od_ : x4_2 ≤ (a0.size : Int))
      obtain ⟨t210, A12, H⟩ := bs_ H; try dsimp only at H
      by_cases c13 : t209 = 256
      ·rw [if_pos c13] at H
       obtain ⟨c13b0, c13b1⟩ := eqT c13
       clear c13
       obtain ⟨rfl, rfl⟩ := pi2 H
       try go_wp2
       have n0_ := Aside0.mk (below_drew1 HB.out)
       clear HB
       have HB := n0_
       clear n0_
       refine start_ (n := 11) (S := fun w' => True) (ds := []) (fl 0 11) (by kernel_rfl) rfl rfl trivial (fun hHeld => ?_); refine with_tabW asm_address.tab6 asm_address.bits6 (fun HT_ HW_ => ?_)
       generalize wc.drew = w14 at HB hHeld ⊢
       refine pure_ (i := 0) (N := some 15) (v := ?_) (a' := ?_) (fl 1 10) rfl rfl (any_of HT_.out (by kernel_rfl)) (fun _ _ _ h => h) (Or.inl ⟨by rfl, ?_⟩) ?_ ?_
       rotate_left; exact ga_; rotate_left; exact gb_
       refine pure_ (i := 1) (N := some 16) (v := ?_) (a' := ?_) (fl 2 9) rfl rfl (any_of HT_.out (by kernel_rfl)) (fun _ _ _ h => h) (Or.inl ⟨by rfl, ?_⟩) ?_ ?_
       rotate_left; exact ga_; rotate_left; exact gb_
       refine pure_ (i := 2) (N := some 17) (v := ?_) (a' := ?_) (fl 3 8) rfl rfl (any_of HT_.out (by kernel_rfl)) (fun _ _ _ h => h) (Or.inl ⟨by rfl, ?_⟩) ?_ ?_
       rotate_left; exact ga_; rotate_left; exact gb_
       refine pure_ (i := 4) (N := some 19) (v := ?_) (a' := ?_) (fm 11 23) rfl rfl (any_of HT_.out (by kernel_rfl)) (fun _ _ _ h => h) (Or.inl ⟨by rfl, ?_⟩) ?_ ?_
       rotate_left; exact ga_; rotate_left; exact gb_
       refine pure_ (i := 5) (N := some 20) (v := ?_) (a' := ?_) (fm 11 55) rfl rfl (any_of HT_.out (by kernel_rfl)) (fun _ _ _ h => h) (Or.inl ⟨by rfl, ?_⟩) ?_ ?_
       rotate_left; exact ga_; rotate_left; exact gb_
       refine pure_ (i := 6) (N := some 21) (v := ?_) (a' := ?_) (fm 11 119) rfl rfl (any_of HT_.out (by kernel_rfl)) (fun _ _ _ h => h) (Or.inl ⟨by rfl, ?_⟩) ?_ ?_
       rotate_left; exact ga_; rotate_left; exact gb_
       refine one_ (i := 3) (N := some 18) (fl 7 4) rfl rfl (one_of HT_.out (by kernel_rfl)) (by decide) (fun K hK => ?_)
       refine goesX_ Tryd.func53 (by kernel_rfl) rfl #[.string (a0.extract 0 (x4_2 : Int).toNat)] (by rfl) rfl rfl (by (try simp only [List.map_toArray, List.map_cons, List.map_nil]); first | done | rfl | (simp only [List.length_drop, List.length_take]; rfl)) ?_
       with_reducible refine (asm_register.bad (a0.extract 0 (x4_2 : Int).toNat) t209 _ ?side1 A9.out (beq_iff_eq.mp c13b0)).mono ?_
       (case side1 => repeat (first | exact (Kd.C_below HRG3.out HB.out) | (with_reducible refine Kd.C_alloc ?_ _) | (with_reducible refine Kd.C_drewN ?_ _) | (with_reducible refine Kd.C_drew ?_)))
       rintro e w15 ⟨hbad, hb⟩
       refine ⟨_, hbad, ?_⟩
       have n0_ := Aside0.mk (below_step b_now hb)
       clear HB
       have HB := n0_
       first | exact ⟨rfl, .inl ⟨rfl, rfl⟩, HB.out⟩ | exact ⟨rfl, rfl, HB.out⟩
      ·rw [if_neg c13] at H
       obtain ⟨c13b0, c13b1⟩ := eqF c13
       by_cases c17 : t210 = 4611686018427387904
       ·rw [if_pos c17] at H
        obtain ⟨c17b0, c17b1⟩ := eqT c17
        clear c17
        obtain ⟨rfl, rfl⟩ := pi2 H
        try go_wp2
        have n0_ := Aside0.mk (below_drew1 HB.out)
        clear HB
        have HB := n0_
        clear n0_
        refine start_ (n := 11) (S := fun w' => True) (ds := []) (fl 0 11) (by kernel_rfl) rfl rfl trivial (fun hHeld => ?_); refine with_tabW asm_address.tab6 asm_address.bits6 (fun HT_ HW_ => ?_)
        generalize wc.drew = w18 at HB hHeld ⊢
        refine pure_ (i := 0) (N := some 15) (v := ?_) (a' := ?_) (fl 1 10) rfl rfl (any_of HT_.out (by kernel_rfl)) (fun _ _ _ h => h) (Or.inl ⟨by rfl, ?_⟩) ?_ ?_
        rotate_left; exact ga_; rotate_left; exact gb_
        refine pure_ (i := 1) (N := some 16) (v := ?_) (a' := ?_) (fl 2 9) rfl rfl (any_of HT_.out (by kernel_rfl)) (fun _ _ _ h => h) (Or.inl ⟨by rfl, ?_⟩) ?_ ?_
        rotate_left; exact ga_; rotate_left; exact gb_
        refine pure_ (i := 2) (N := some 17) (v := ?_) (a' := ?_) (fl 3 8) rfl rfl (any_of HT_.out (by kernel_rfl)) (fun _ _ _ h => h) (Or.inl ⟨by rfl, ?_⟩) ?_ ?_
        rotate_left; exact ga_; rotate_left; exact gb_
        refine pure_ (i := 4) (N := some 19) (v := ?_) (a' := ?_) (fm 11 23) rfl rfl (any_of HT_.out (by kernel_rfl)) (fun _ _ _ h => h) (Or.inl ⟨by rfl, ?_⟩) ?_ ?_
        rotate_left; exact ga_; rotate_left; exact gb_
        refine pure_ (i := 5) (N := some 20) (v := ?_) (a' := ?_) (fm 11 55) rfl rfl (any_of HT_.out (by kernel_rfl)) (fun _ _ _ h => h) (Or.inl ⟨by rfl, ?_⟩) ?_ ?_
        rotate_left; exact ga_; rotate_left; exact gb_
        refine pure_ (i := 6) (N := some 21) (v := ?_) (a' := ?_) (fm 11 119) rfl rfl (any_of HT_.out (by kernel_rfl)) (fun _ _ _ h => h) (Or.inl ⟨by rfl, ?_⟩) ?_ ?_
        rotate_left; exact ga_; rotate_left; exact gb_
        refine one_ (i := 3) (N := some 18) (fl 7 4) rfl rfl (one_of HT_.out (by kernel_rfl)) (by decide) (fun K hK => ?_)
        refine goes_ Tryd.func53 (by kernel_rfl) rfl #[.string (a0.extract 0 (x4_2 : Int).toNat)] (by rfl) rfl rfl (by (try simp only [List.map_toArray, List.map_cons, List.map_nil]); first | done | rfl | (simp only [List.length_drop, List.length_take]; rfl)) ?_
        with_reducible refine (asm_register.calls (a0.extract 0 (x4_2 : Int).toNat) t209 _ ?side1 A9.out).mono ?_
        (case side1 => repeat (first | exact (Kd.C_below HRG3.out HB.out) | (with_reducible refine Kd.C_alloc ?_ _) | (with_reducible refine Kd.C_drewN ?_ _) | (with_reducible refine Kd.C_drew ?_)))
        rintro e w19 ⟨rfl, hb⟩
        refine ⟨_, rfl, ?_⟩
        have n0_ := Aside0.mk (below_step b_now hb)
        clear HB
        have HB := n0_
        clear n0_
        (try clear hb)
        (try clear hb2)
        (try clear hk)
        (try clear hi)
        refine hK.out _ _ trivial (fun hHeld => ?_)
        clear hK K
        refine norm_ (a' := ?_) ?_ ?_
        rotate_left
        ·show Act.put _ (some 18) _ = _
         simp only [Act.put, List.setIfInBounds_toArray, List.set_cons_zero, List.set_cons_succ, i64_w, i32_w]
         rfl
        refine one_ (i := 7) (N := some 22) (fl 8 3) rfl rfl (one_of HT_.out (by kernel_rfl)) (by decide) (fun K hK => ?_)
        refine goesX_ Tryd.func55 (by kernel_rfl) rfl #[.string (a0.extract (x4_2 : Int).toNat a0.size), .int .i64 16] (by rfl) rfl rfl (by (try simp only [List.map_toArray, List.map_cons, List.map_nil]); first | done | rfl | (simp only [List.length_drop, List.length_take]; rfl)) ?_
        with_reducible refine (asm_number.bad (a0.extract (x4_2 : Int).toNat a0.size) 16 t210 _ ?side1 A12.out (beq_iff_eq.mp c17b0)).mono ?_
        (case side1 => repeat (first | exact (Kd.C_below HRG3.out HB.out) | (with_reducible refine Kd.C_alloc ?_ _) | (with_reducible refine Kd.C_drewN ?_ _) | (with_reducible refine Kd.C_drew ?_)))
        rintro e w20 ⟨hbad, hb⟩
        refine ⟨_, hbad, ?_⟩
        have n0_ := Aside0.mk (below_step b_now hb)
        clear HB
        have HB := n0_
        first | exact ⟨rfl, .inl ⟨rfl, rfl⟩, HB.out⟩ | exact ⟨rfl, rfl, HB.out⟩
       ·rw [if_neg c17] at H
        obtain ⟨c17b0, c17b1⟩ := eqF c17
        obtain ⟨rfl, rfl⟩ := pi2 H
        try go_wp2
        have n0_ := Aside0.mk (below_drew1 HB.out)
        clear HB
        have HB := n0_
        clear n0_
        refine start_ (n := 11) (S := fun w' => True) (ds := []) (fl 0 11) (by kernel_rfl) rfl rfl trivial (fun hHeld => ?_); refine with_tabW asm_address.tab6 asm_address.bits6 (fun HT_ HW_ => ?_)
        generalize wc.drew = w21 at HB hHeld ⊢
        refine pure_ (i := 0) (N := some 15) (v := ?_) (a' := ?_) (fl 1 10) rfl rfl (any_of HT_.out (by kernel_rfl)) (fun _ _ _ h => h) (Or.inl ⟨by rfl, ?_⟩) ?_ ?_
        rotate_left; exact ga_; rotate_left; exact gb_
        refine pure_ (i := 1) (N := some 16) (v := ?_) (a' := ?_) (fl 2 9) rfl rfl (any_of HT_.out (by kernel_rfl)) (fun _ _ _ h => h) (Or.inl ⟨by rfl, ?_⟩) ?_ ?_
        rotate_left; exact ga_; rotate_left; exact gb_
        refine pure_ (i := 2) (N := some 17) (v := ?_) (a' := ?_) (fl 3 8) rfl rfl (any_of HT_.out (by kernel_rfl)) (fun _ _ _ h => h) (Or.inl ⟨by rfl, ?_⟩) ?_ ?_
        rotate_left; exact ga_; rotate_left; exact gb_
        refine pure_ (i := 4) (N := some 19) (v := ?_) (a' := ?_) (fm 11 23) rfl rfl (any_of HT_.out (by kernel_rfl)) (fun _ _ _ h => h) (Or.inl ⟨by rfl, ?_⟩) ?_ ?_
        rotate_left; exact ga_; rotate_left; exact gb_
        refine pure_ (i := 5) (N := some 20) (v := ?_) (a' := ?_) (fm 11 55) rfl rfl (any_of HT_.out (by kernel_rfl)) (fun _ _ _ h => h) (Or.inl ⟨by rfl, ?_⟩) ?_ ?_
        rotate_left; exact ga_; rotate_left; exact gb_
        refine pure_ (i := 6) (N := some 21) (v := ?_) (a' := ?_) (fm 11 119) rfl rfl (any_of HT_.out (by kernel_rfl)) (fun _ _ _ h => h) (Or.inl ⟨by rfl, ?_⟩) ?_ ?_
        rotate_left; exact ga_; rotate_left; exact gb_
        refine one_ (i := 3) (N := some 18) (fl 7 4) rfl rfl (one_of HT_.out (by kernel_rfl)) (by decide) (fun K hK => ?_)
        refine goes_ Tryd.func53 (by kernel_rfl) rfl #[.string (a0.extract 0 (x4_2 : Int).toNat)] (by rfl) rfl rfl (by (try simp only [List.map_toArray, List.map_cons, List.map_nil]); first | done | rfl | (simp only [List.length_drop, List.length_take]; rfl)) ?_
        with_reducible refine (asm_register.calls (a0.extract 0 (x4_2 : Int).toNat) t209 _ ?side1 A9.out).mono ?_
        (case side1 => repeat (first | exact (Kd.C_below HRG3.out HB.out) | (with_reducible refine Kd.C_alloc ?_ _) | (with_reducible refine Kd.C_drewN ?_ _) | (with_reducible refine Kd.C_drew ?_)))
        rintro e w22 ⟨rfl, hb⟩
        refine ⟨_, rfl, ?_⟩
        have n0_ := Aside0.mk (below_step b_now hb)
        clear HB
        have HB := n0_
        clear n0_
        (try clear hb)
        (try clear hb2)
        (try clear hk)
        (try clear hi)
        refine hK.out _ _ trivial (fun hHeld => ?_)
        clear hK K
        refine norm_ (a' := ?_) ?_ ?_
        rotate_left
        ·show Act.put _ (some 18) _ = _
         simp only [Act.put, List.setIfInBounds_toArray, List.set_cons_zero, List.set_cons_succ, i64_w, i32_w]
         rfl
        refine one_ (i := 7) (N := some 22) (fl 8 3) rfl rfl (one_of HT_.out (by kernel_rfl)) (by decide) (fun K hK => ?_)
        refine goes_ Tryd.func55 (by kernel_rfl) rfl #[.string (a0.extract (x4_2 : Int).toNat a0.size), .int .i64 16] (by rfl) rfl rfl (by (try simp only [List.map_toArray, List.map_cons, List.map_nil]); first | done | rfl | (simp only [List.length_drop, List.length_take]; rfl)) ?_
        with_reducible refine (asm_number.calls (a0.extract (x4_2 : Int).toNat a0.size) 16 t210 _ ?side1 A12.out).mono ?_
        (case side1 => repeat (first | exact (Kd.C_below HRG3.out HB.out) | (with_reducible refine Kd.C_alloc ?_ _) | (with_reducible refine Kd.C_drewN ?_ _) | (with_reducible refine Kd.C_drew ?_)))
        rintro e w23 ⟨rfl, hb⟩
        refine ⟨_, rfl, ?_⟩
        have n0_ := Aside0.mk (below_step b_now hb)
        clear HB
        have HB := n0_
        clear n0_
        (try clear hb)
        (try clear hb2)
        (try clear hk)
        (try clear hi)
        refine hK.out _ _ trivial (fun hHeld => ?_)
        clear hK K
        refine norm_ (a' := ?_) ?_ ?_
        rotate_left
        ·show Act.put _ (some 22) _ = _
         simp only [Act.put, List.setIfInBounds_toArray, List.set_cons_zero, List.set_cons_succ, i64_w, i32_w]
         rfl
        refine pure_ (i := 8) (N := some 23) (v := ?_) (a' := ?_) (fl 9 2) rfl rfl (any_of HT_.out (by kernel_rfl)) (fun _ _ _ h => h) (Or.inl ⟨by rfl, ?_⟩) ?_ ?_
        rotate_left; exact ga_; rotate_left; exact gb_
        refine pure_ (i := 9) (N := some 2) (v := ?_) (a' := ?_) (fl 10 1) rfl rfl (any_of HT_.out (by kernel_rfl)) (fun _ _ _ h => h) (Or.inl ⟨by rfl, ?_⟩) ?_ ?_
        rotate_left; exact ga_; rotate_left; exact gb_
        refine pure_ (i := 10) (N := some 3) (v := ?_) (a' := ?_) (fl 11 0) rfl rfl (any_of HT_.out (by kernel_rfl)) (fun _ _ _ h => h) (Or.inl ⟨by rfl, ?_⟩) ?_ ?_
        rotate_left; exact ga_; rotate_left; exact gb_
        refine done_ (done_of HT_.out (by kernel_rfl)) ?_
        try go_wp2
        go_ret2
        first | exact ⟨.inr ⟨by first | decide | assumption | exact ne_pos_ (by assumption) | (simp; done) | omega, ret_now⟩, b_now⟩ | exact ⟨ret_now, b_now⟩
     ·rw [if_neg c8] at H
      exact absurd H (by simp)
    ·rw [if_neg c7] at H
     exact absurd H (by simp)

theorem asm_address.calls (k : Nat) (a0 : ByteArray) (r1 : Int) (r2 : Int) (w : World) (hrG3 : Kd.C kGF w (some ⟨3, 0, none⟩) gl3.length gl3) (h : asm_address.f k a0 = some (r1, r2)) (hm : r1 ≠ 256 := by assumption) :
  Calls Tryd.prog 56 #[.string a0] w fun e w' => e = .returned (.tuple #[.int .u8 r1, .int .i16 r2]) ∧ Below w.heap.size w w' := (asm_address.both k a0 r1 r2 w hrG3 h).mono fun e w' ⟨h1, h2⟩ => ⟨h1.elim (fun x => absurd x.1 hm) (fun x => x.2), h2⟩
theorem asm_address.bad (k : Nat) (a0 : ByteArray) (r1 : Int) (r2 : Int) (w : World) (hrG3 : Kd.C kGF w (some ⟨3, 0, none⟩) gl3.length gl3) (h : asm_address.f k a0 = some (r1, r2)) (hm : r1 = 256) :
  Calls Tryd.prog 56 #[.string a0] w fun e w' => Bad e ∧ Below w.heap.size w w' := (asm_address.both k a0 r1 r2 w hrG3 h).mono fun e w' ⟨h1, h2⟩ => ⟨h1.elim (fun x => x.2) (fun x => absurd hm x.1), h2⟩

end Go.Proofs.YtondogoepcndiaaDoor.P
