/- Made by this session's driver over the kit's printer: for each Go function a Lean function with the same answers, and a proof that the Go call comes to these answers; no conditions but the ones each theorem names. -/
import Derived.Test.YtdhiibkcoolbeaaDoorPx0
namespace Go.Proofs.YtdhiibkcoolbeaaDoor.P
open Go.RowKit Go.Proofs.YtdhiibkcoolbeaaDoorW.PrintWords Go.Proofs.YtdhiibkcoolbeaaDoorW.PrintLast Go.Proofs.YtdhiibkcoolbeaaDoorW.PrintMore
attribute [local go_sem] max2_int min2_int max_two min_two max_three min_three max_four min_four   -- for this text's walks alone
set_option linter.unusedVariables false
set_option linter.unusedSimpArgs false

/-! ### stockadelaw04_twin: function 10 -/
def stockadelaw04_twin.f (l0_0 : List (S52)) (l0_1 : List (S40)) : Option ((List (S52)) × (List (S40))) := if ([] : List (S52)).length + l0_0.length < 4398046511104 then ((some (([] : List (S52)) ++ l0_0 : List (S52))).bind fun y104 => ((some (([(⟨9, 0, 0, 0⟩ : S52)] : List (S52)) : List (S52))).bind fun y107 => (if y104.length + y107.length < 4398046511104 then ((some (y104 ++ y107 : List (S52))).bind fun y110 => (if 0 ≤ (l0_0.length : Int) then (if (l0_0.length : Int) ≤ (y110.length : Int) then (if ([] : List (S40)).length + l0_1.length < 11728124029610 then ((some (([] : List (S40)) ++ l0_1 : List (S40))).bind fun y116 => ((some (([(⟨9, 0, 0, 0, 0⟩ : S40)] : List (S40)) : List (S40))).bind fun y119 => (if y116.length + y119.length < 11728124029610 then ((some (y116 ++ y119 : List (S40))).bind fun y122 => (if 0 ≤ (l0_1.length : Int) then (if (l0_1.length : Int) ≤ (y122.length : Int) then (some ((y110.take ((l0_0.length : Int) : Int).toNat), (y122.take ((l0_1.length : Int) : Int).toNat))) else (none)) else (none))) else (none)))) else (none)) else (none)) else (none))) else (none)))) else (none)
def stockadelaw04_twin.T2 : Bool × List (List Nat × List Nat) := (true, [([], []), ([0], [0]), ([], []), ([2], [2]), ([1, 3], [1, 3]), ([], []), ([5], [5]), ([4, 6, 4], [4, 6]), ([], []), ([8], [8]), ([9], [9]), ([7, 10], [7, 10]), ([0, 1, 2, 3, 4, 5, 6, 7, 8, 9, 10, 11], []), ([12, 11, 7, 0, 1, 2, 3, 4, 5, 6, 7, 8, 9, 10, 11], [11, 12])])
def stockadelaw04_twin.B2 : List Nat := [0, 1, 0, 4, 15, 0, 32, 127, 0, 256, 768, 2047, 4095, 8191]
theorem stockadelaw04_twin.tab2 : rtab .any (opsOf Tryd.f10 2) = stockadelaw04_twin.T2 := by kernel_rfl
theorem stockadelaw04_twin.bits2 : waitsOk stockadelaw04_twin.T2.2 stockadelaw04_twin.B2 = true := by kernel_rfl
def stockadelaw04_twin.T3 : Bool × List (List Nat × List Nat) := (true, [([], []), ([0], [0]), ([], []), ([2], [2]), ([1, 3], [1, 3]), ([], []), ([5], [5]), ([4, 6, 4], [4, 6]), ([], []), ([8], [8]), ([9], [9]), ([7, 10], [7, 10]), ([0, 1, 2, 3, 4, 5, 6, 7, 8, 9, 10, 11], []), ([12, 11, 7, 0, 1, 2, 3, 4, 5, 6, 7, 8, 9, 10, 11], [11, 12])])
def stockadelaw04_twin.B3 : List Nat := [0, 1, 0, 4, 15, 0, 32, 127, 0, 256, 768, 2047, 4095, 8191]
theorem stockadelaw04_twin.tab3 : rtab .any (opsOf Tryd.f10 3) = stockadelaw04_twin.T3 := by kernel_rfl
theorem stockadelaw04_twin.bits3 : waitsOk stockadelaw04_twin.T3.2 stockadelaw04_twin.B3 = true := by kernel_rfl
set_option maxHeartbeats 8000000 in
set_option maxRecDepth 100000 in
theorem stockadelaw04_twin.calls (A0_0 : Option Addr) (c0_0 : Nat) (l0_0 : List (S52)) (A0_1 : Option Addr) (c0_1 : Nat) (l0_1 : List (S40)) (r1 : List (S52)) (r2 : List (S40)) (w : World) (hr0_0 : Kd.C k52 w A0_0 l0_0.length l0_0) (hc0_0 : l0_0.length ≤ c0_0) (hr0_1 : Kd.C k40 w A0_1 l0_1.length l0_1) (hc0_1 : l0_1.length ≤ c0_1) (h : stockadelaw04_twin.f l0_0 l0_1 = some (r1, r2)) :
  Calls Tryd.prog 10 #[.agg #[.slice A0_0 l0_0.length c0_0, .slice A0_1 l0_1.length c0_1]] w fun e w' => ∃ v0_ v1_ : Value, e = .returned (.agg #[v0_, v1_]) ∧ Kd.R k52 52 w' w.heap.size (fun _ => True) v0_ r1 ∧ Kd.R k40 40 w' w.heap.size (fun _ => True) v1_ r2 ∧ Below w.heap.size w w' := by
 have hu25 := Tryd.underlying25
 have hu52 := Tryd.underlying52
 have hu40 := Tryd.underlying40
 have HR0_0 := Aside0.mk hr0_0
 have HC0_0 := Aside0.mk hc0_0
 clear hr0_0 hc0_0
 have HR0_1 := Aside0.mk hr0_1
 have HC0_1 := Aside0.mk hc0_1
 clear hr0_1 hc0_1
 have HB := Aside0.mk (Below.refl w.heap.size w)
 have H : (if ([] : List (S52)).length + l0_0.length < 4398046511104 then ((some (([] : List (S52)) ++ l0_0 : List (S52))).bind fun y104 => ((some (([(⟨9, 0, 0, 0⟩ : S52)] : List (S52)) : List (S52))).bind fun y107 => (if y104.length + y107.length < 4398046511104 then ((some (y104 ++ y107 : List (S52))).bind fun y110 => (if 0 ≤ (l0_0.length : Int) then (if (l0_0.length : Int) ≤ (y110.length : Int) then (if ([] : List (S40)).length + l0_1.length < 11728124029610 then ((some (([] : List (S40)) ++ l0_1 : List (S40))).bind fun y116 => ((some (([(⟨9, 0, 0, 0, 0⟩ : S40)] : List (S40)) : List (S40))).bind fun y119 => (if y116.length + y119.length < 11728124029610 then ((some (y116 ++ y119 : List (S40))).bind fun y122 => (if 0 ≤ (l0_1.length : Int) then (if (l0_1.length : Int) ≤ (y122.length : Int) then (some ((y110.take ((l0_0.length : Int) : Int).toNat), (y122.take ((l0_1.length : Int) : Int).toNat))) else (none)) else (none))) else (none)))) else (none)) else (none)) else (none))) else (none)))) else (none)) = some (r1, r2) := h
 clear h
 by_cases c2 : ([] : List (S52)).length + l0_0.length < 4398046511104
 ·rw [if_pos c2] at H
  have LMc2 := Aside0.mk c2
  clear c2
  obtain ⟨y104, hy104⟩ : ∃ y_ : List (S52), y_ = (([] : List (S52)) ++ l0_0) := ⟨_, rfl⟩
  replace H : ((some (([(⟨9, 0, 0, 0⟩ : S52)] : List (S52)) : List (S52))).bind fun y107 => (if y104.length + y107.length < 4398046511104 then ((some (y104 ++ y107 : List (S52))).bind fun y110 => (if 0 ≤ (l0_0.length : Int) then (if (l0_0.length : Int) ≤ (y110.length : Int) then (if ([] : List (S40)).length + l0_1.length < 11728124029610 then ((some (([] : List (S40)) ++ l0_1 : List (S40))).bind fun y116 => ((some (([(⟨9, 0, 0, 0, 0⟩ : S40)] : List (S40)) : List (S40))).bind fun y119 => (if y116.length + y119.length < 11728124029610 then ((some (y116 ++ y119 : List (S40))).bind fun y122 => (if 0 ≤ (l0_1.length : Int) then (if (l0_1.length : Int) ≤ (y122.length : Int) then (some ((y110.take ((l0_0.length : Int) : Int).toNat), (y122.take ((l0_1.length : Int) : Int).toNat))) else (none)) else (none))) else (none)))) else (none)) else (none)) else (none))) else (none))) = some (r1, r2) := by first | (rw [hy104]; with_reducible exact H) | (have H2_ := (Option.bind_some _ _).symm.trans H; rw [hy104]; with_reducible exact H2_) | (have H2_ := (Option.bind_some _ _).symm.trans H; with_reducible exact H2_) | with_reducible exact H | (rw [hy104]; exact H) | exact H
  have Ny104 := Aside0.mk hy104
  clear hy104
  obtain ⟨y107, hy107⟩ : ∃ y_ : List (S52), y_ = (([(⟨9, 0, 0, 0⟩ : S52)] : List (S52))) := ⟨_, rfl⟩
  replace H : (if y104.length + y107.length < 4398046511104 then ((some (y104 ++ y107 : List (S52))).bind fun y110 => (if 0 ≤ (l0_0.length : Int) then (if (l0_0.length : Int) ≤ (y110.length : Int) then (if ([] : List (S40)).length + l0_1.length < 11728124029610 then ((some (([] : List (S40)) ++ l0_1 : List (S40))).bind fun y116 => ((some (([(⟨9, 0, 0, 0, 0⟩ : S40)] : List (S40)) : List (S40))).bind fun y119 => (if y116.length + y119.length < 11728124029610 then ((some (y116 ++ y119 : List (S40))).bind fun y122 => (if 0 ≤ (l0_1.length : Int) then (if (l0_1.length : Int) ≤ (y122.length : Int) then (some ((y110.take ((l0_0.length : Int) : Int).toNat), (y122.take ((l0_1.length : Int) : Int).toNat))) else (none)) else (none))) else (none)))) else (none)) else (none)) else (none))) else (none)) = some (r1, r2) := by first | (rw [hy107]; with_reducible exact H) | (have H2_ := (Option.bind_some _ _).symm.trans H; rw [hy107]; with_reducible exact H2_) | (have H2_ := (Option.bind_some _ _).symm.trans H; with_reducible exact H2_) | with_reducible exact H | (rw [hy107]; exact H) | exact H
  have Ny107 := Aside0.mk hy107
  clear hy107
  by_cases c3 : y104.length + y107.length < 4398046511104
  ·rw [if_pos c3] at H
   have LMc3 := Aside0.mk c3
   clear c3
   obtain ⟨y110, hy110⟩ : ∃ y_ : List (S52), y_ = (y104 ++ y107) := ⟨_, rfl⟩
   replace H : (if 0 ≤ (l0_0.length : Int) then (if (l0_0.length : Int) ≤ (y110.length : Int) then (if ([] : List (S40)).length + l0_1.length < 11728124029610 then ((some (([] : List (S40)) ++ l0_1 : List (S40))).bind fun y116 => ((some (([(⟨9, 0, 0, 0, 0⟩ : S40)] : List (S40)) : List (S40))).bind fun y119 => (if y116.length + y119.length < 11728124029610 then ((some (y116 ++ y119 : List (S40))).bind fun y122 => (if 0 ≤ (l0_1.length : Int) then (if (l0_1.length : Int) ≤ (y122.length : Int) then (some ((y110.take ((l0_0.length : Int) : Int).toNat), (y122.take ((l0_1.length : Int) : Int).toNat))) else (none)) else (none))) else (none)))) else (none)) else (none)) else (none)) = some (r1, r2) := by first | (rw [hy110]; with_reducible exact H) | (have H2_ := (Option.bind_some _ _).symm.trans H; rw [hy110]; with_reducible exact H2_) | (have H2_ := (Option.bind_some _ _).symm.trans H; with_reducible exact H2_) | with_reducible exact H | (rw [hy110]; exact H) | exact H
   have Ny110 := Aside0.mk hy110
   clear hy110
   by_cases c4 : 0 ≤ (l0_0.length : Int)
   ·rw [if_pos c4] at H
    have c4b0 := eq_true c4
    have c4b1 : decide (0 ≤ (l0_0.length : Int)) = true := decide_eq_true c4
    clear c4
    by_cases c5 : (l0_0.length : Int) ≤ (y110.length : Int)
    ·rw [if_pos c5] at H
     have c5b0 := eq_true c5
     have c5b1 : decide ((l0_0.length : Int) ≤ (y110.length : Int)) = true := decide_eq_true c5
     clear c5
     obtain ⟨y113, hy113⟩ : ∃ y_ : List (S52), y_ = (y110.take ((l0_0.length : Int) : Int).toNat) := ⟨_, rfl⟩
     replace H : (if ([] : List (S40)).length + l0_1.length < 11728124029610 then ((some (([] : List (S40)) ++ l0_1 : List (S40))).bind fun y116 => ((some (([(⟨9, 0, 0, 0, 0⟩ : S40)] : List (S40)) : List (S40))).bind fun y119 => (if y116.length + y119.length < 11728124029610 then ((some (y116 ++ y119 : List (S40))).bind fun y122 => (if 0 ≤ (l0_1.length : Int) then (if (l0_1.length : Int) ≤ (y122.length : Int) then (some (y113, (y122.take ((l0_1.length : Int) : Int).toNat))) else (none)) else (none))) else (none)))) else (none)) = some (r1, r2) := by first | (rw [hy113]; with_reducible exact H) | (have H2_ := (Option.bind_some _ _).symm.trans H; rw [hy113]; with_reducible exact H2_) | (have H2_ := (Option.bind_some _ _).symm.trans H; with_reducible exact H2_) | with_reducible exact H | (rw [hy113]; exact H) | exact H
     have Ny113 := Aside0.mk hy113
     clear hy113
     by_cases c6 : ([] : List (S40)).length + l0_1.length < 11728124029610
     ·rw [if_pos c6] at H
      have LMc6 := Aside0.mk c6
      clear c6
      obtain ⟨y116, hy116⟩ : ∃ y_ : List (S40), y_ = (([] : List (S40)) ++ l0_1) := ⟨_, rfl⟩
      replace H : ((some (([(⟨9, 0, 0, 0, 0⟩ : S40)] : List (S40)) : List (S40))).bind fun y119 => (if y116.length + y119.length < 11728124029610 then ((some (y116 ++ y119 : List (S40))).bind fun y122 => (if 0 ≤ (l0_1.length : Int) then (if (l0_1.length : Int) ≤ (y122.length : Int) then (some (y113, (y122.take ((l0_1.length : Int) : Int).toNat))) else (none)) else (none))) else (none))) = some (r1, r2) := by first | (rw [hy116]; with_reducible exact H) | (have H2_ := (Option.bind_some _ _).symm.trans H; rw [hy116]; with_reducible exact H2_) | (have H2_ := (Option.bind_some _ _).symm.trans H; with_reducible exact H2_) | with_reducible exact H | (rw [hy116]; exact H) | exact H
      have Ny116 := Aside0.mk hy116
      clear hy116
      obtain ⟨y119, hy119⟩ : ∃ y_ : List (S40), y_ = (([(⟨9, 0, 0, 0, 0⟩ : S40)] : List (S40))) := ⟨_, rfl⟩
      replace H : (if y116.length + y119.length < 11728124029610 then ((some (y116 ++ y119 : List (S40))).bind fun y122 => (if 0 ≤ (l0_1.length : Int) then (if (l0_1.length : Int) ≤ (y122.length : Int) then (some (y113, (y122.take ((l0_1.length : Int) : Int).toNat))) else (none)) else (none))) else (none)) = some (r1, r2) := by first | (rw [hy119]; with_reducible exact H) | (have H2_ := (Option.bind_some _ _).symm.trans H; rw [hy119]; with_reducible exact H2_) | (have H2_ := (Option.bind_some _ _).symm.trans H; with_reducible exact H2_) | with_reducible exact H | (rw [hy119]; exact H) | exact H
      have Ny119 := Aside0.mk hy119
      clear hy119
      by_cases c7 : y116.length + y119.length < 11728124029610
      ·rw [if_pos c7] at H
       have LMc7 := Aside0.mk c7
       clear c7
       obtain ⟨y122, hy122⟩ : ∃ y_ : List (S40), y_ = (y116 ++ y119) := ⟨_, rfl⟩
       replace H : (if 0 ≤ (l0_1.length : Int) then (if (l0_1.length : Int) ≤ (y122.length : Int) then (some (y113, (y122.take ((l0_1.length : Int) : Int).toNat))) else (none)) else (none)) = some (r1, r2) := by first | (rw [hy122]; with_reducible exact H) | (have H2_ := (Option.bind_some _ _).symm.trans H; rw [hy122]; with_reducible exact H2_) | (have H2_ := (Option.bind_some _ _).symm.trans H; with_reducible exact H2_) | with_reducible exact H | (rw [hy122]; exact H) | exact H
       have Ny122 := Aside0.mk hy122
       clear hy122
       by_cases c8 : 0 ≤ (l0_1.length : Int)
       ·rw [if_pos c8] at H
        have c8b0 := eq_true c8
        have c8b1 : decide (0 ≤ (l0_1.length : Int)) = true := decide_eq_true c8
        clear c8
        by_cases c9 : (l0_1.length : Int) ≤ (y122.length : Int)
        ·rw [if_pos c9] at H
         have c9b0 := eq_true c9
         have c9b1 : decide ((l0_1.length : Int) ≤ (y122.length : Int)) = true := decide_eq_true c9
         clear c9
         obtain ⟨y125, hy125⟩ : ∃ y_ : List (S40), y_ = (y122.take ((l0_1.length : Int) : Int).toNat) := ⟨_, rfl⟩
         replace H : (some (y113, y125)) = some (r1, r2) := by first | (rw [hy125]; with_reducible exact H) | (have H2_ := (Option.bind_some _ _).symm.trans H; rw [hy125]; with_reducible exact H2_) | (have H2_ := (Option.bind_some _ _).symm.trans H; with_reducible exact H2_) | with_reducible exact H | (rw [hy125]; exact H) | exact H
         have Ny125 := Aside0.mk hy125
         clear hy125
         simp only [Option.some.injEq, Prod.mk.injEq] at H
         obtain ⟨rfl, rfl⟩ := H
         go_enter Tryd.func10, Tryd.ntmps10
         try go_wp2_with (first | ((with_reducible refine gate_dst (N := 1) rfl ?_); refine sh_box 1 #[.slice A0_0 l0_0.length c0_0, .slice A0_1 l0_1.length c0_1] 25 ?_; intro gb101 hg w10 hbox hb; have GE101 := sh_z (w := w) hg; replace HB := sh_b (w := w) hb; have BK101 := Aside0.mk (hbox); clear hb hbox hg) | ((with_reducible refine gate_dst (N := 2) rfl ?_); refine sh_box 2 #[.slice none 0 0, .slice none 0 0] 25 ?_; intro gb102 hg w11 hbox hb; have GE102 := sh_z (w := w) hg; have NB101_102 := sh_n BK101 hg; have NB102_101 := sh_s NB101_102; replace BK101 := sh_k BK101 hb; replace HB := sh_b (w := w) hb; have BK102 := Aside0.mk (hbox); clear hb hbox hg) | ((with_reducible refine gate_dst (N := 3) rfl ?_); refine sh_box 3 #[.slice none 0 0, .slice none 0 0] 25 ?_; intro gb103 hg w12 hbox hb; have GE103 := sh_z (w := w) hg; have NB101_103 := sh_n BK101 hg; have NB102_103 := sh_n BK102 hg; have NB103_101 := sh_s NB101_103; have NB103_102 := sh_s NB102_103; replace BK101 := sh_k BK101 hb; replace BK102 := sh_k BK102 hb; replace HB := sh_b (w := w) hb; have BK103 := Aside0.mk (hbox); clear hb hbox hg))
         have n0_ := Aside0.mk (blk_drew BK101.out)
         have n1_ := Aside0.mk (blk_drew BK102.out)
         have n2_ := Aside0.mk (blk_drew BK103.out)
         have n3_ := Aside0.mk (below_drew1 HB.out)
         clear BK101
         clear BK102
         clear BK103
         clear HB
         have BK101 := n0_
         have BK102 := n1_
         have BK103 := n2_
         have HB := n3_
         clear n0_ n1_ n2_ n3_
         refine start_ (n := 14) (S := fun w' => w'.cell? ⟨gb103, 0, none⟩ = some (.slice none 0 0) ∧ w'.cell? ⟨gb103, 1, none⟩ = some (.slice none 0 0) ∧ w'.cell? ⟨gb101, 0, none⟩ = some (.slice A0_0 l0_0.length c0_0) ∧ w'.cell? ⟨gb101, 1, none⟩ = some (.slice A0_1 l0_1.length c0_1)) (ds := [13]) #[false, false, false, false, false, false, false, false, false, false, false, false, false, false] (by kernel_rfl) rfl rfl ⟨(blk_cell BK103.out 0).trans rfl, (blk_cell BK103.out 1).trans rfl, (blk_cell BK101.out 0).trans rfl, (blk_cell BK101.out 1).trans rfl⟩ (fun hHeld => ?_); refine with_tabW stockadelaw04_twin.tab2 stockadelaw04_twin.bits2 (fun HT_ HW_ => ?_)
         generalize w12.drew = w13 at BK101 BK102 BK103 HB hHeld ⊢
         refine pure_ (i := 0) (N := some 4) (v := ?_) (a' := ?_) #[true, false, false, false, false, false, false, false, false, false, false, false, false, false] rfl rfl (any_of HT_.out (by kernel_rfl)) (fun _ _ _ h => h) (Or.inl ⟨by rfl, ?_⟩) ?_ ?_
         rotate_left
         ·intro w'
          go_simp
          with_reducible rfl
         rotate_left
         ·simp only [Act.put, List.setIfInBounds_toArray, List.set_cons_zero, List.set_cons_succ, i64_w, i32_w]
          rfl
         refine pure_ (i := 2) (N := some 6) (v := ?_) (a' := ?_) #[true, false, true, false, false, false, false, false, false, false, false, false, false, false] rfl rfl (any_of HT_.out (by kernel_rfl)) (fun _ _ _ h => h) (Or.inl ⟨by rfl, ?_⟩) ?_ ?_
         rotate_left
         ·intro w'
          go_simp
          with_reducible rfl
         rotate_left
         ·simp only [Act.put, List.setIfInBounds_toArray, List.set_cons_zero, List.set_cons_succ, i64_w, i32_w]
          rfl
         refine pure_ (i := 5) (N := some 9) (v := ?_) (a' := ?_) #[true, false, true, false, false, true, false, false, false, false, false, false, false, false] rfl rfl (any_of HT_.out (by kernel_rfl)) (fun _ _ _ h => h) (Or.inl ⟨by rfl, ?_⟩) ?_ ?_
         rotate_left
         ·intro w'
          go_simp
          with_reducible rfl
         rotate_left
         ·simp only [Act.put, List.setIfInBounds_toArray, List.set_cons_zero, List.set_cons_succ, i64_w, i32_w]
          rfl
         refine pure_ (i := 8) (N := some 12) (v := ?_) (a' := ?_) #[true, false, true, false, false, true, false, false, true, false, false, false, false, false] rfl rfl (any_of HT_.out (by kernel_rfl)) (fun _ _ _ h => h) (Or.inl ⟨by rfl, ?_⟩) ?_ ?_
         rotate_left
         ·intro w'
          go_simp
          with_reducible rfl
         rotate_left
         ·simp only [Act.put, List.setIfInBounds_toArray, List.set_cons_zero, List.set_cons_succ, i64_w, i32_w]
          rfl
         refine take_ (i := 1) (N := some 5) (v := ?_) (a' := ?_) #[true, true, true, false, false, true, false, false, true, false, false, false, false, false] rfl rfl (take_ofW HT_.out HW_.out (by kernel_rfl)) (fun _ _ _ h => h) (Or.inl ⟨by rfl, ?_⟩) hHeld ?_ ?_
         rotate_left
         ·rintro w' ⟨s0, s1, s2, s3⟩
          go_simp
          with_reducible rfl
         rotate_left
         ·simp only [Act.put, List.setIfInBounds_toArray, List.set_cons_zero, List.set_cons_succ, i64_w, i32_w]
          rfl
         refine take_ (i := 3) (N := some 7) (v := ?_) (a' := ?_) #[true, true, true, true, false, true, false, false, true, false, false, false, false, false] rfl rfl (take_ofW HT_.out HW_.out (by kernel_rfl)) (fun _ _ _ h => h) (Or.inl ⟨by rfl, ?_⟩) hHeld ?_ ?_
         rotate_left
         ·rintro w' ⟨s0, s1, s2, s3⟩
          go_simp
          with_reducible rfl
         rotate_left
         ·simp only [Act.put, List.setIfInBounds_toArray, List.set_cons_zero, List.set_cons_succ, i64_w, i32_w]
          rfl
         refine take_ (i := 9) (N := some 13) (v := ?_) (a' := ?_) #[true, true, true, true, false, true, false, false, true, true, false, false, false, false] rfl rfl (take_ofW HT_.out HW_.out (by kernel_rfl)) (fun _ _ _ h => h) (Or.inl ⟨by rfl, ?_⟩) hHeld ?_ ?_
         rotate_left
         ·rintro w' ⟨s0, s1, s2, s3⟩
          go_simp
          with_reducible rfl
         rotate_left
         ·simp only [Act.put, List.setIfInBounds_toArray, List.set_cons_zero, List.set_cons_succ, i64_w, i32_w]
          rfl
         refine pure_ (i := 10) (N := some 14) (v := ?_) (a' := ?_) #[true, true, true, true, false, true, false, false, true, true, true, false, false, false] rfl rfl (any_of HT_.out (by kernel_rfl)) (fun _ _ _ h => h) (Or.inl ⟨by rfl, ?_⟩) ?_ ?_
         rotate_left
         ·intro w'
          go_simp
          with_reducible rfl
         rotate_left
         ·simp only [Act.put, List.setIfInBounds_toArray, List.set_cons_zero, List.set_cons_succ, i64_w, i32_w]
          rfl
         refine join_ (σ := Value × Value) 4 #[true, true, true, true, true, true, true, false, true, true, true, false, false, false] (fun s_ => [(8, s_.1), (10, s_.2)]) (fun s_ w' => (w'.cell? ⟨gb103, 0, none⟩ = some (.slice none 0 0) ∧ w'.cell? ⟨gb103, 1, none⟩ = some (.slice none 0 0) ∧ w'.cell? ⟨gb101, 0, none⟩ = some (.slice A0_0 l0_0.length c0_0) ∧ w'.cell? ⟨gb101, 1, none⟩ = some (.slice A0_1 l0_1.length c0_1)) ∧ (Kd.R k52 52 w' w.heap.size (fun k_ => some k_ ≠ (s_.2 : Value).ownBlock) s_.1 y104) ∧ (Kd.R k52 52 w' w.heap.size (fun k_ => some k_ ≠ (s_.1 : Value).ownBlock) s_.2 y107) ∧ (w'.heap[gb101]? = some (.cells #[.slice A0_0 l0_0.length c0_0, .slice A0_1 l0_1.length c0_1] 25 (0, 0))) ∧ (w'.heap[gb102]? = some (.cells #[.slice none 0 0, .slice none 0 0] 25 (0, 0))) ∧ (w'.heap[gb103]? = some (.cells #[.slice none 0 0, .slice none 0 0] 25 (0, 0))) ∧ (Below w.heap.size w w')) ?_ ?_
         rotate_left
         ·intro hCont
          refine two_ (i := 4) (j := 6) (Ni := some 8) (Nj := some 10) #[true, true, true, true, true, true, false, false, true, true, true, false, false, false] #[true, true, true, true, false, true, true, false, true, true, true, false, false, false] rfl rfl rfl rfl (two_of HT_.out (by kernel_rfl)) (by decide) (by decide) (fun K hK => ?_) (fun K hK => ?_)
          ·skip
           refine Kd.R_append_rows_step k52 (w0 := w) w.heap.size (by rfl) (.tmp 5) (.tmp 7) 22 52 (.agg #[(.int .i64 0), (.int .i64 0), (.int .i64 0), (.int .i64 0)]) 32 rfl Tryd.underlying22 info52 rfl (by decide) (by omega) (.slice none 0 0) ([] : List (S52)) l0_0 _ _ _ (fun _ => True) (fun _ => False) rfl rfl ?aO ?aR (fun _ _ h => h) (fun _ h => h.elim) ?aF ?aB ?aS ?aL ?_
           (case aR => repeat (first | exact (Kd.C_below HR0_0.out HB.out) | (with_reducible refine Kd.C_alloc ?_ _) | (with_reducible refine Kd.C_drewN ?_ _) | (with_reducible refine Kd.C_drew ?_)))
           (case aB => exact b_now)
           (case aF => exact (fun _ _ => trivial))
           (case aO => exact ((Kd.R_nil _ _ _ _ (fun _ => True))))
           (case aS => exact (below_size b_now))
           (case aL => have := LMc2.out; omega)
           intro v105 w14 ho hb hg hat
           rw [← Ny104.out] at ho
           have n0_ := Aside0.mk (blk_grown (g := gb101) (o := .cells #[.slice A0_0 l0_0.length c0_0, .slice A0_1 l0_1.length c0_1] 25 (0, 0)) bk_now hg (by simp [Value.ownBlock]))
           have n1_ := Aside0.mk (blk_grown (g := gb102) (o := .cells #[.slice none 0 0, .slice none 0 0] 25 (0, 0)) bk_now hg (by simp [Value.ownBlock]))
           have n2_ := Aside0.mk (blk_grown (g := gb103) (o := .cells #[.slice none 0 0, .slice none 0 0] 25 (0, 0)) bk_now hg (by simp [Value.ownBlock]))
           have n3_ := Aside0.mk (hb)
           have n4_ := Aside0.mk (ho)
           clear BK101
           clear BK102
           clear BK103
           clear HB
           have BK101 := n0_
           have BK102 := n1_
           have BK103 := n2_
           have HB := n3_
           have HO106 := n4_
           clear n0_ n1_ n2_ n3_ n4_
           clear ho hb hg hat
           refine hK.out _ _ ⟨(blk_cell BK103.out 0).trans rfl, (blk_cell BK103.out 1).trans rfl, (blk_cell BK101.out 0).trans rfl, (blk_cell BK101.out 1).trans rfl⟩ (fun hHeld => ?_)
           clear hK K
           refine norm_ (a' := ?_) ?_ ?_
           rotate_left
           ·show Act.put _ (some 8) _ = _
            simp only [Act.put, List.setIfInBounds_toArray, List.set_cons_zero, List.set_cons_succ, i64_w, i32_w]
            rfl
           refine one_ (i := 6) (N := some 10) #[true, true, true, true, true, true, true, false, true, true, true, false, false, false] rfl rfl (one_of HT_.out (by kernel_rfl)) (by decide) (fun K hK => ?_)
           refine Kd.R_lit_step k52 _ 52 ?hg (N := 10) ?hd (xs := ([(⟨9, 0, 0, 0⟩ : S52)] : List (S52))) (inner := [.int .i64 9, .int .i64 0, .int .i64 0, .int .i64 0]) (ok := fun _ => True) (okp := fun _ => True) ?hr ?hp (fun _ hk => hk) trivial (Below.refl _ _) (Nat.le_refl _) (by simp) ?_; (case hd => rfl); (case hg => rfl); (case hr => first | (go_simp; done) | (go_simp; rfl)); (case hp => exact (Reps.c4 (show Kd.M k52 _ _ _ (⟨9, 0, 0, 0⟩ : S52) [.int .i64 9, .int .i64 0, .int .i64 0, .int .i64 0] from (k52_mkM _ _ _ (⟨9, 0, 0, 0⟩ : S52) )) (Reps.none _ _)))
           intro v108 w15 ho16 hb hg_ hnew_
           clear hg_ hnew_
           (first | rw [← Ny107.out] at ho16 | (simp only [Int.reduceToNat] at ho16; rw [← Ny107.out] at ho16))
           have n0_ := Aside0.mk (Kd.R_elder' (by (with_reducible repeat (first | apply Kd.R_alloc | apply Kd.R_drewN | apply Kd.R_drew)); exact HO106.out) (Kd.R_base ho16) hb)
           have n1_ := Aside0.mk (Kd.R_lower (Kd.R_new' ho16 (Kd.R_lt (by (with_reducible repeat (first | apply Kd.R_alloc | apply Kd.R_drewN | apply Kd.R_drew)); exact HO106.out))) (below_size b_now))
           have n2_ := Aside0.mk (blk_below (g := gb101) (o := .cells #[.slice A0_0 l0_0.length c0_0, .slice A0_1 l0_1.length c0_1] 25 (0, 0)) bk_now hb)
           have n3_ := Aside0.mk (blk_below (g := gb102) (o := .cells #[.slice none 0 0, .slice none 0 0] 25 (0, 0)) bk_now hb)
           have n4_ := Aside0.mk (blk_below (g := gb103) (o := .cells #[.slice none 0 0, .slice none 0 0] 25 (0, 0)) bk_now hb)
           have n5_ := Aside0.mk (below_step b_now hb)
           clear HO106
           clear BK101
           clear BK102
           clear BK103
           clear HB
           have HO106 := n0_
           have HO109 := n1_
           have BK101 := n2_
           have BK102 := n3_
           have BK103 := n4_
           have HB := n5_
           clear n0_ n1_ n2_ n3_ n4_ n5_
           clear hb ho16
           refine hK.out _ _ ⟨(blk_cell BK103.out 0).trans rfl, (blk_cell BK103.out 1).trans rfl, (blk_cell BK101.out 0).trans rfl, (blk_cell BK101.out 1).trans rfl⟩ (fun hHeld => ?_)
           clear hK K
           refine norm_ (a' := ?_) ?_ ?_
           rotate_left
           ·show Act.put _ (some 10) _ = _
            simp only [Act.put, List.setIfInBounds_toArray, List.set_cons_zero, List.set_cons_succ, i64_w, i32_w]
            rfl
           exact norm_ (by simp only [putAll, Act.put, List.setIfInBounds_toArray, List.set_cons_zero, List.set_cons_succ]) (hCont (v105, v108) _ ⟨hHeld, (by (with_reducible repeat (first | apply Kd.R_alloc | apply Kd.R_drewN | apply Kd.R_drew)); exact Kd.R_mono HO106.out (fun _ hk => hk.2)), (by (with_reducible repeat (first | apply Kd.R_alloc | apply Kd.R_drewN | apply Kd.R_drew)); exact Kd.R_mono HO109.out (fun _ hk => hk.2)), bk_now, bk_now, bk_now, b_now⟩)
          ·skip
           refine Kd.R_lit_step k52 _ 52 ?hg (N := 10) ?hd (xs := ([(⟨9, 0, 0, 0⟩ : S52)] : List (S52))) (inner := [.int .i64 9, .int .i64 0, .int .i64 0, .int .i64 0]) (ok := fun _ => True) (okp := fun _ => True) ?hr ?hp (fun _ hk => hk) trivial (Below.refl _ _) (Nat.le_refl _) (by simp) ?_; (case hd => rfl); (case hg => rfl); (case hr => first | (go_simp; done) | (go_simp; rfl)); (case hp => exact (Reps.c4 (show Kd.M k52 _ _ _ (⟨9, 0, 0, 0⟩ : S52) [.int .i64 9, .int .i64 0, .int .i64 0, .int .i64 0] from (k52_mkM _ _ _ (⟨9, 0, 0, 0⟩ : S52) )) (Reps.none _ _)))
           intro v108 w14 ho15 hb hg_ hnew_
           clear hg_ hnew_
           (first | rw [← Ny107.out] at ho15 | (simp only [Int.reduceToNat] at ho15; rw [← Ny107.out] at ho15))
           have n0_ := Aside0.mk (Kd.R_lower ho15 (below_size b_now))
           have n1_ := Aside0.mk (blk_below (g := gb101) (o := .cells #[.slice A0_0 l0_0.length c0_0, .slice A0_1 l0_1.length c0_1] 25 (0, 0)) bk_now hb)
           have n2_ := Aside0.mk (blk_below (g := gb102) (o := .cells #[.slice none 0 0, .slice none 0 0] 25 (0, 0)) bk_now hb)
           have n3_ := Aside0.mk (blk_below (g := gb103) (o := .cells #[.slice none 0 0, .slice none 0 0] 25 (0, 0)) bk_now hb)
           have n4_ := Aside0.mk (below_step b_now hb)
           clear BK101
           clear BK102
           clear BK103
           clear HB
           have HO109 := n0_
           have BK101 := n1_
           have BK102 := n2_
           have BK103 := n3_
           have HB := n4_
           clear n0_ n1_ n2_ n3_ n4_
           clear hb ho15
           refine hK.out _ _ ⟨(blk_cell BK103.out 0).trans rfl, (blk_cell BK103.out 1).trans rfl, (blk_cell BK101.out 0).trans rfl, (blk_cell BK101.out 1).trans rfl⟩ (fun hHeld => ?_)
           clear hK K
           refine norm_ (a' := ?_) ?_ ?_
           rotate_left
           ·show Act.put _ (some 10) _ = _
            simp only [Act.put, List.setIfInBounds_toArray, List.set_cons_zero, List.set_cons_succ, i64_w, i32_w]
            rfl
           refine one_ (i := 4) (N := some 8) #[true, true, true, true, true, true, true, false, true, true, true, false, false, false] rfl rfl (one_of HT_.out (by kernel_rfl)) (by decide) (fun K hK => ?_)
           refine Kd.R_append_rows_step k52 (w0 := w) w.heap.size (by rfl) (.tmp 5) (.tmp 7) 22 52 (.agg #[(.int .i64 0), (.int .i64 0), (.int .i64 0), (.int .i64 0)]) 32 rfl Tryd.underlying22 info52 rfl (by decide) (by omega) (.slice none 0 0) ([] : List (S52)) l0_0 _ _ _ (fun k_ => some k_ ≠ (v108 : Value).ownBlock) (fun _ => False) rfl rfl ?aO ?aR (fun _ _ h => h) (fun _ h => h.elim) ?aF ?aB ?aS ?aL ?_
           (case aR => repeat (first | exact (Kd.C_below HR0_0.out HB.out) | (with_reducible refine Kd.C_alloc ?_ _) | (with_reducible refine Kd.C_drewN ?_ _) | (with_reducible refine Kd.C_drew ?_)))
           (case aB => exact b_now)
           (case aF => exact (fun k_ hk => Kd.fresh' (Kd.R_lt (by (with_reducible repeat (first | apply Kd.R_alloc | apply Kd.R_drewN | apply Kd.R_drew)); exact HO109.out)) k_ hk))
           (case aO => exact ((Kd.R_nil _ _ _ _ (fun k_ => some k_ ≠ (v108 : Value).ownBlock))))
           (case aS => exact (below_size b_now))
           (case aL => have := LMc2.out; omega)
           intro v105 w16 ho hb hg hat
           rw [← Ny104.out] at ho
           have n0_ := Aside0.mk (blk_grown (g := gb101) (o := .cells #[.slice A0_0 l0_0.length c0_0, .slice A0_1 l0_1.length c0_1] 25 (0, 0)) bk_now hg (by simp [Value.ownBlock]))
           have n1_ := Aside0.mk (blk_grown (g := gb102) (o := .cells #[.slice none 0 0, .slice none 0 0] 25 (0, 0)) bk_now hg (by simp [Value.ownBlock]))
           have n2_ := Aside0.mk (blk_grown (g := gb103) (o := .cells #[.slice none 0 0, .slice none 0 0] 25 (0, 0)) bk_now hg (by simp [Value.ownBlock]))
           have n3_ := Aside0.mk (Kd.R_after (Kd.R_apart_nil (by (with_reducible repeat (first | apply Kd.R_alloc | apply Kd.R_drewN | apply Kd.R_drew)); exact HO109.out)) hg hat)
           have n4_ := Aside0.mk (hb)
           have n5_ := Aside0.mk (ho)
           clear BK101
           clear BK102
           clear BK103
           clear HO109
           clear HB
           have BK101 := n0_
           have BK102 := n1_
           have BK103 := n2_
           have HO109 := n3_
           have HB := n4_
           have HO106 := n5_
           clear n0_ n1_ n2_ n3_ n4_ n5_
           clear ho hb hg hat
           refine hK.out _ _ ⟨(blk_cell BK103.out 0).trans rfl, (blk_cell BK103.out 1).trans rfl, (blk_cell BK101.out 0).trans rfl, (blk_cell BK101.out 1).trans rfl⟩ (fun hHeld => ?_)
           clear hK K
           refine norm_ (a' := ?_) ?_ ?_
           rotate_left
           ·show Act.put _ (some 8) _ = _
            simp only [Act.put, List.setIfInBounds_toArray, List.set_cons_zero, List.set_cons_succ, i64_w, i32_w]
            rfl
           exact norm_ (by simp only [putAll, Act.put, List.setIfInBounds_toArray, List.set_cons_zero, List.set_cons_succ]) (hCont (v105, v108) _ ⟨hHeld, (by (with_reducible repeat (first | apply Kd.R_alloc | apply Kd.R_drewN | apply Kd.R_drew)); exact HO106.out), (by (with_reducible repeat (first | apply Kd.R_alloc | apply Kd.R_drewN | apply Kd.R_drew)); exact Kd.R_mono HO109.out (fun _ hk => hk.2)), bk_now, bk_now, bk_now, b_now⟩)
         rintro ⟨v105, v108⟩ w17 ⟨hS_, h0_, h1_, h2_, h3_, h4_, h5_⟩
         have n0_ : Aside0 (Kd.R k52 52 w17 w.heap.size (fun k_ => some k_ ≠ (v108 : Value).ownBlock) v105 y104) := ⟨h0_⟩
         have n1_ : Aside0 (Kd.R k52 52 w17 w.heap.size (fun k_ => some k_ ≠ (v105 : Value).ownBlock) v108 y107) := ⟨h1_⟩
         have n2_ : Aside0 (w17.heap[gb101]? = some (.cells #[.slice A0_0 l0_0.length c0_0, .slice A0_1 l0_1.length c0_1] 25 (0, 0))) := ⟨h2_⟩
         have n3_ : Aside0 (w17.heap[gb102]? = some (.cells #[.slice none 0 0, .slice none 0 0] 25 (0, 0))) := ⟨h3_⟩
         have n4_ : Aside0 (w17.heap[gb103]? = some (.cells #[.slice none 0 0, .slice none 0 0] 25 (0, 0))) := ⟨h4_⟩
         have n5_ : Aside0 (Below w.heap.size w w17) := ⟨h5_⟩
         clear BK101
         clear BK102
         clear BK103
         clear HB
         clear h0_ h1_ h2_ h3_ h4_ h5_
         have HO106 := n0_
         have HO109 := n1_
         have BK101 := n2_
         have BK102 := n3_
         have BK103 := n4_
         have HB := n5_
         clear n0_ n1_ n2_ n3_ n4_ n5_
         have hHeld : w17.cell? ⟨gb103, 0, none⟩ = some (.slice none 0 0) ∧ w17.cell? ⟨gb103, 1, none⟩ = some (.slice none 0 0) ∧ w17.cell? ⟨gb101, 0, none⟩ = some (.slice A0_0 l0_0.length c0_0) ∧ w17.cell? ⟨gb101, 1, none⟩ = some (.slice A0_1 l0_1.length c0_1) := hS_
         obtain ⟨Ao19, co19, eo19⟩ := Kd.R_slice HO109.out
         (first | subst eo19 | (injection eo19 with f1_ f2_ f3_; have f4_ := f1_.symm; have f5_ := f3_.symm; clear f1_ f2_ f3_; subst f4_; subst f5_))
         refine norm_ (a' := ?_) ?_ ?_
         rotate_left
         ·simp only [putAll, Act.put, List.setIfInBounds_toArray, List.set_cons_zero, List.set_cons_succ]
          rfl
         refine one_ (i := 7) (N := some 11) #[true, true, true, true, true, true, true, true, true, true, true, false, false, false] rfl rfl (one_of HT_.out (by kernel_rfl)) (by decide) (fun K hK => ?_)
         refine Kd.R_append_rows_step k52 (w0 := w) w.heap.size (by rfl) (.tmp 8) (.tmp 10) 22 52 (.agg #[(.int .i64 0), (.int .i64 0), (.int .i64 0), (.int .i64 0)]) 32 rfl Tryd.underlying22 info52 rfl (by decide) (by omega) v105 y104 y107 _ _ _ (fun k_ => some k_ ≠ (.slice Ao19 y107.length co19 : Value).ownBlock) (fun _ => False) rfl rfl ?aO ?aR (fun _ _ h => h) (fun _ h => h.elim) ?aF ?aB ?aS ?aL ?_
         (case aR => repeat (first | exact (Kd.R_reads' HO109.out).2.2 | (with_reducible refine Kd.C_alloc ?_ _) | (with_reducible refine Kd.C_drewN ?_ _) | (with_reducible refine Kd.C_drew ?_)))
         (case aB => exact b_now)
         (case aF => exact (fun k_ hk => Kd.fresh' (Kd.R_lt (by (with_reducible repeat (first | apply Kd.R_alloc | apply Kd.R_drewN | apply Kd.R_drew)); exact HO109.out)) k_ hk))
         (case aO => exact (by (with_reducible repeat (first | apply Kd.R_alloc | apply Kd.R_drewN | apply Kd.R_drew)); exact HO106.out))
         (case aS => exact (below_size b_now))
         (case aL => have := LMc3.out; omega)
         intro v111 w18 ho hb hg hat
         rw [← Ny110.out] at ho
         have n0_ := Aside0.mk (blk_grown (g := gb101) (o := .cells #[.slice A0_0 l0_0.length c0_0, .slice A0_1 l0_1.length c0_1] 25 (0, 0)) bk_now hg (Kd.R_ne HO106.out BK101.out (by decide)))
         have n1_ := Aside0.mk (blk_grown (g := gb102) (o := .cells #[.slice none 0 0, .slice none 0 0] 25 (0, 0)) bk_now hg (Kd.R_ne HO106.out BK102.out (by decide)))
         have n2_ := Aside0.mk (blk_grown (g := gb103) (o := .cells #[.slice none 0 0, .slice none 0 0] 25 (0, 0)) bk_now hg (Kd.R_ne HO106.out BK103.out (by decide)))
         have n3_ := Aside0.mk (Kd.R_after (ok := (fun _ => True)) (by (with_reducible repeat (first | apply Kd.R_alloc | apply Kd.R_drewN | apply Kd.R_drew)); exact Kd.R_mono HO109.out (fun _ hk => ⟨trivial, hk⟩)) hg hat)
         have n4_ := Aside0.mk (hb)
         have n5_ := Aside0.mk (ho)
         clear BK101
         clear BK102
         clear BK103
         clear HO109
         clear HB
         clear HO106
         have BK101 := n0_
         have BK102 := n1_
         have BK103 := n2_
         have HO109 := n3_
         have HB := n4_
         have HO112 := n5_
         clear n0_ n1_ n2_ n3_ n4_ n5_
         clear ho hb hg hat
         obtain ⟨Ao20, co20, eo20⟩ := Kd.R_slice HO112.out
         (first | subst eo20 | (injection eo20 with f1_ f2_ f3_; have f4_ := f1_.symm; have f5_ := f3_.symm; clear f1_ f2_ f3_; subst f4_; subst f5_))
         have q21 : ((l0_0.length : Int) : Int) ≤ ((y110.length : Int) : Int) := of_decide_eq_true (by first | (with_reducible assumption) | assumption)
         obtain ⟨i021, hi021, _, hsz21, _⟩ := info_parts info52
         have hcut21 := cut_to (P := Tryd.prog) 22 52 .i64 Tryd.underlying22 hi021 Ao20 y110.length co20 (l0_0.length : Int) (of_decide_eq_true (by first | (with_reducible assumption) | assumption)) q21 (Kd.R_reads' HO112.out).2.1
         have hr21 := Kd.R_take (m := ((l0_0.length : Int) : Int).toNat) HO112.out (by omega)
         have hy21 : y113.length = ((l0_0.length : Int) : Int).toNat := (by rw [Ny113.out, List.length_take]; omega)
         rw [← Ny113.out] at hr21
         rw [← hy21] at hr21 hcut21
         clear hy21 hi021 hsz21 HO112
         have HO115 := Aside0.mk hr21
         clear hr21
         replace q21 := eq_true q21
         refine hK.out _ _ ⟨(blk_cell BK103.out 0).trans rfl, (blk_cell BK103.out 1).trans rfl, (blk_cell BK101.out 0).trans rfl, (blk_cell BK101.out 1).trans rfl⟩ (fun hHeld => ?_)
         clear hK K
         refine norm_ (a' := ?_) ?_ ?_
         rotate_left
         ·show Act.put _ (some 11) _ = _
          simp only [Act.put, List.setIfInBounds_toArray, List.set_cons_zero, List.set_cons_succ, i64_w, i32_w]
          rfl
         refine pure_ (i := 11) (N := some 15) (v := ?_) (a' := ?_) #[true, true, true, true, true, true, true, true, true, true, true, true, false, false] rfl rfl (any_of HT_.out (by kernel_rfl)) (fun _ _ _ h => h) (Or.inl ⟨by rfl, ?_⟩) ?_ ?_
         rotate_left
         ·intro w'
          go_simp
          with_reducible rfl
         rotate_left
         ·simp only [Act.put, List.setIfInBounds_toArray, List.set_cons_zero, List.set_cons_succ, i64_w, i32_w]
          rfl
         refine pure_ (i := 12) (N := some 16) (v := ?_) (a' := ?_) #[true, true, true, true, true, true, true, true, true, true, true, true, true, false] rfl rfl (any_of HT_.out (by kernel_rfl)) (fun _ _ _ h => h) (Or.inl ⟨by rfl, ?_⟩) ?_ ?_
         rotate_left
         ·intro w'
          go_simp
          with_reducible rfl
         rotate_left
         ·simp only [Act.put, List.setIfInBounds_toArray, List.set_cons_zero, List.set_cons_succ, i64_w, i32_w]
          rfl
         refine last_ (i := 13) (N := none) #[true, true, true, true, true, true, true, true, true, true, true, true, true, true] rfl rfl (one_of HT_.out (by kernel_rfl)) (by decide) (fun K hK => ?_)
         have hs22 : w18.cell? ⟨gb103, 0, none⟩ = some (.slice none 0 0) := (blk_cell BK103.out 0).trans rfl
         have hfs22 := blk_frozen BK103.out 0
         have hns22_0 := NB101_103.out
         have hns22_1 := NB102_103.out
         have hms22_0 := NB103_101.out
         have hms22_1 := NB103_102.out
         refine skip_ (w1 := ?_) (by rfl) rfl ?_ ?_
         rotate_left
         ·go_simp
          rfl
         refine hK.out _ _ ?_
         clear hK K
         refine done_ (done_of HT_.out (by kernel_rfl)) ?_
         try go_wp2
         have n0_ : Aside0 (Kd.R k52 52 (w18.setCell ⟨gb103, 0, none⟩ (.slice Ao20 y113.length co20)) w.heap.size (fun k_ => some k_ ≠ (.slice Ao20 y113.length co20 : Value).ownBlock) (.slice Ao19 y107.length co19) y107) := ⟨by (with_reducible repeat (first | apply Kd.R_alloc | apply Kd.R_drewN | apply Kd.R_drew)); exact Kd.R_mono (Kd.R_far (p := ⟨gb103, 0, none⟩) (Kd.R_types HO109.out BK103.out (by decide)) (fun _ hk => hk.2) (.slice Ao20 y113.length co20)) (fun _ hk => fun e_ => hk.1.2 (e_.trans (by cases Ao20 <;> rfl)))⟩
         have n1_ : Aside0 (Kd.R k52 52 (w18.setCell ⟨gb103, 0, none⟩ (.slice Ao20 y113.length co20)) w.heap.size (fun k_ => some k_ ≠ (.slice Ao19 y107.length co19 : Value).ownBlock) (.slice Ao20 y113.length co20) y113) := ⟨by (with_reducible repeat (first | apply Kd.R_alloc | apply Kd.R_drewN | apply Kd.R_drew)); exact Kd.R_mono (Kd.R_far (p := ⟨gb103, 0, none⟩) (Kd.R_types HO115.out BK103.out (by decide)) (fun _ hk => hk.2) (.slice Ao20 y113.length co20)) (fun _ hk => hk.1)⟩
         have n2_ : Aside0 ((w18.setCell ⟨gb103, 0, none⟩ (.slice Ao20 y113.length co20)).heap[gb101]? = some (.cells #[.slice A0_0 l0_0.length c0_0, .slice A0_1 l0_1.length c0_1] 25 (0, 0))) := ⟨bk_now⟩
         have n3_ : Aside0 ((w18.setCell ⟨gb103, 0, none⟩ (.slice Ao20 y113.length co20)).heap[gb102]? = some (.cells #[.slice none 0 0, .slice none 0 0] 25 (0, 0))) := ⟨bk_now⟩
         have n4_ : Aside0 ((w18.setCell ⟨gb103, 0, none⟩ (.slice Ao20 y113.length co20)).heap[gb103]? = some (.cells #[.slice Ao20 y113.length co20, .slice none 0 0] 25 (0, 0))) := ⟨bk_now⟩
         have n5_ : Aside0 (Below w.heap.size w (w18.setCell ⟨gb103, 0, none⟩ (.slice Ao20 y113.length co20))) := ⟨b_now⟩
         (try clear HO109)
         (try clear HO115)
         (try clear BK101)
         (try clear BK102)
         (try clear BK103)
         (try clear HB)
         generalize (w18.setCell ⟨gb103, 0, none⟩ (.slice Ao20 y113.length co20)) = w23 at n0_ n1_ n2_ n3_ n4_ n5_ ⊢
         have HO109 := n0_
         have HO115 := n1_
         have BK101 := n2_
         have BK102 := n3_
         have BK103 := n4_
         have HB := n5_
         clear n0_ n1_ n2_ n3_ n4_ n5_
         have n0_ := Aside0.mk (Kd.R_drew HO109.out)
         have n1_ := Aside0.mk (Kd.R_drew HO115.out)
         have n2_ := Aside0.mk (blk_drew BK101.out)
         have n3_ := Aside0.mk (blk_drew BK102.out)
         have n4_ := Aside0.mk (blk_drew BK103.out)
         have n5_ := Aside0.mk (below_drew1 HB.out)
         clear HO109
         clear HO115
         clear BK101
         clear BK102
         clear BK103
         clear HB
         have HO109 := n0_
         have HO115 := n1_
         have BK101 := n2_
         have BK102 := n3_
         have BK103 := n4_
         have HB := n5_
         clear n0_ n1_ n2_ n3_ n4_ n5_
         refine start_ (n := 14) (S := fun w' => w'.cell? ⟨gb103, 0, none⟩ = some (.slice Ao20 y113.length co20) ∧ w'.cell? ⟨gb103, 1, none⟩ = some (.slice none 0 0) ∧ w'.cell? ⟨gb101, 0, none⟩ = some (.slice A0_0 l0_0.length c0_0) ∧ w'.cell? ⟨gb101, 1, none⟩ = some (.slice A0_1 l0_1.length c0_1)) (ds := [13]) #[false, false, false, false, false, false, false, false, false, false, false, false, false, false] (by kernel_rfl) rfl rfl ⟨(blk_cell BK103.out 0).trans rfl, (blk_cell BK103.out 1).trans rfl, (blk_cell BK101.out 0).trans rfl, (blk_cell BK101.out 1).trans rfl⟩ (fun hHeld => ?_); refine with_tabW stockadelaw04_twin.tab3 stockadelaw04_twin.bits3 (fun HT_ HW_ => ?_)
         generalize w23.drew = w24 at HO109 HO115 BK101 BK102 BK103 HB hHeld ⊢
         refine pure_ (i := 0) (N := some 17) (v := ?_) (a' := ?_) #[true, false, false, false, false, false, false, false, false, false, false, false, false, false] rfl rfl (any_of HT_.out (by kernel_rfl)) (fun _ _ _ h => h) (Or.inl ⟨by rfl, ?_⟩) ?_ ?_
         rotate_left
         ·intro w'
          go_simp
          with_reducible rfl
         rotate_left
         ·simp only [Act.put, List.setIfInBounds_toArray, List.set_cons_zero, List.set_cons_succ, i64_w, i32_w]
          rfl
         refine pure_ (i := 2) (N := some 19) (v := ?_) (a' := ?_) #[true, false, true, false, false, false, false, false, false, false, false, false, false, false] rfl rfl (any_of HT_.out (by kernel_rfl)) (fun _ _ _ h => h) (Or.inl ⟨by rfl, ?_⟩) ?_ ?_
         rotate_left
         ·intro w'
          go_simp
          with_reducible rfl
         rotate_left
         ·simp only [Act.put, List.setIfInBounds_toArray, List.set_cons_zero, List.set_cons_succ, i64_w, i32_w]
          rfl
         refine pure_ (i := 5) (N := some 22) (v := ?_) (a' := ?_) #[true, false, true, false, false, true, false, false, false, false, false, false, false, false] rfl rfl (any_of HT_.out (by kernel_rfl)) (fun _ _ _ h => h) (Or.inl ⟨by rfl, ?_⟩) ?_ ?_
         rotate_left
         ·intro w'
          go_simp
          with_reducible rfl
         rotate_left
         ·simp only [Act.put, List.setIfInBounds_toArray, List.set_cons_zero, List.set_cons_succ, i64_w, i32_w]
          rfl
         refine pure_ (i := 8) (N := some 25) (v := ?_) (a' := ?_) #[true, false, true, false, false, true, false, false, true, false, false, false, false, false] rfl rfl (any_of HT_.out (by kernel_rfl)) (fun _ _ _ h => h) (Or.inl ⟨by rfl, ?_⟩) ?_ ?_
         rotate_left
         ·intro w'
          go_simp
          with_reducible rfl
         rotate_left
         ·simp only [Act.put, List.setIfInBounds_toArray, List.set_cons_zero, List.set_cons_succ, i64_w, i32_w]
          rfl
         refine take_ (i := 1) (N := some 18) (v := ?_) (a' := ?_) #[true, true, true, false, false, true, false, false, true, false, false, false, false, false] rfl rfl (take_ofW HT_.out HW_.out (by kernel_rfl)) (fun _ _ _ h => h) (Or.inl ⟨by rfl, ?_⟩) hHeld ?_ ?_
         rotate_left
         ·rintro w' ⟨s0, s1, s2, s3⟩
          go_simp
          with_reducible rfl
         rotate_left
         ·simp only [Act.put, List.setIfInBounds_toArray, List.set_cons_zero, List.set_cons_succ, i64_w, i32_w]
          rfl
         refine take_ (i := 3) (N := some 20) (v := ?_) (a' := ?_) #[true, true, true, true, false, true, false, false, true, false, false, false, false, false] rfl rfl (take_ofW HT_.out HW_.out (by kernel_rfl)) (fun _ _ _ h => h) (Or.inl ⟨by rfl, ?_⟩) hHeld ?_ ?_
         rotate_left
         ·rintro w' ⟨s0, s1, s2, s3⟩
          go_simp
          with_reducible rfl
         rotate_left
         ·simp only [Act.put, List.setIfInBounds_toArray, List.set_cons_zero, List.set_cons_succ, i64_w, i32_w]
          rfl
         refine take_ (i := 9) (N := some 26) (v := ?_) (a' := ?_) #[true, true, true, true, false, true, false, false, true, true, false, false, false, false] rfl rfl (take_ofW HT_.out HW_.out (by kernel_rfl)) (fun _ _ _ h => h) (Or.inl ⟨by rfl, ?_⟩) hHeld ?_ ?_
         rotate_left
         ·rintro w' ⟨s0, s1, s2, s3⟩
          go_simp
          with_reducible rfl
         rotate_left
         ·simp only [Act.put, List.setIfInBounds_toArray, List.set_cons_zero, List.set_cons_succ, i64_w, i32_w]
          rfl
         refine pure_ (i := 10) (N := some 27) (v := ?_) (a' := ?_) #[true, true, true, true, false, true, false, false, true, true, true, false, false, false] rfl rfl (any_of HT_.out (by kernel_rfl)) (fun _ _ _ h => h) (Or.inl ⟨by rfl, ?_⟩) ?_ ?_
         rotate_left
         ·intro w'
          go_simp
          with_reducible rfl
         rotate_left
         ·simp only [Act.put, List.setIfInBounds_toArray, List.set_cons_zero, List.set_cons_succ, i64_w, i32_w]
          rfl
         refine join_ (σ := Value × Value) 4 #[true, true, true, true, true, true, true, false, true, true, true, false, false, false] (fun s_ => [(21, s_.1), (23, s_.2)]) (fun s_ w' => (w'.cell? ⟨gb103, 0, none⟩ = some (.slice Ao20 y113.length co20) ∧ w'.cell? ⟨gb103, 1, none⟩ = some (.slice none 0 0) ∧ w'.cell? ⟨gb101, 0, none⟩ = some (.slice A0_0 l0_0.length c0_0) ∧ w'.cell? ⟨gb101, 1, none⟩ = some (.slice A0_1 l0_1.length c0_1)) ∧ (Kd.R k52 52 w' w.heap.size (fun k_ => some k_ ≠ (.slice Ao20 y113.length co20 : Value).ownBlock) (.slice Ao19 y107.length co19) y107) ∧ (Kd.R k52 52 w' w.heap.size (fun k_ => some k_ ≠ (.slice Ao19 y107.length co19 : Value).ownBlock) (.slice Ao20 y113.length co20) y113) ∧ (Kd.R k40 40 w' w.heap.size (fun k_ => some k_ ≠ (s_.2 : Value).ownBlock) s_.1 y116) ∧ (Kd.R k40 40 w' w.heap.size (fun k_ => some k_ ≠ (s_.1 : Value).ownBlock) s_.2 y119) ∧ (w'.heap[gb101]? = some (.cells #[.slice A0_0 l0_0.length c0_0, .slice A0_1 l0_1.length c0_1] 25 (0, 0))) ∧ (w'.heap[gb102]? = some (.cells #[.slice none 0 0, .slice none 0 0] 25 (0, 0))) ∧ (w'.heap[gb103]? = some (.cells #[.slice Ao20 y113.length co20, .slice none 0 0] 25 (0, 0))) ∧ (Below w.heap.size w w')) ?_ ?_
         rotate_left
         ·intro hCont
          refine two_ (i := 4) (j := 6) (Ni := some 21) (Nj := some 23) #[true, true, true, true, true, true, false, false, true, true, true, false, false, false] #[true, true, true, true, false, true, true, false, true, true, true, false, false, false] rfl rfl rfl rfl (two_of HT_.out (by kernel_rfl)) (by decide) (by decide) (fun K hK => ?_) (fun K hK => ?_)
          ·skip
           refine Kd.R_append_rows_step k40 (w0 := w) w.heap.size (by rfl) (.tmp 18) (.tmp 20) 23 40 (.agg #[(.int .u8 0), (.int .u8 0), (.int .u8 0), (.int .i16 0), (.int .i32 0)]) 12 rfl Tryd.underlying23 info40 rfl (by decide) (by omega) (.slice none 0 0) ([] : List (S40)) l0_1 _ _ _ (fun _ => True) (fun _ => False) rfl rfl ?aO ?aR (fun _ _ h => h) (fun _ h => h.elim) ?aF ?aB ?aS ?aL ?_
           (case aR => repeat (first | exact (Kd.C_below HR0_1.out HB.out) | (with_reducible refine Kd.C_alloc ?_ _) | (with_reducible refine Kd.C_drewN ?_ _) | (with_reducible refine Kd.C_drew ?_)))
           (case aB => exact b_now)
           (case aF => exact (fun _ _ => trivial))
           (case aO => exact ((Kd.R_nil _ _ _ _ (fun _ => True))))
           (case aS => exact (below_size b_now))
           (case aL => have := LMc6.out; omega)
           intro v117 w25 ho hb hg hat
           rw [← Ny116.out] at ho
           have n0_ := Aside0.mk (blk_grown (g := gb101) (o := .cells #[.slice A0_0 l0_0.length c0_0, .slice A0_1 l0_1.length c0_1] 25 (0, 0)) bk_now hg (by simp [Value.ownBlock]))
           have n1_ := Aside0.mk (blk_grown (g := gb102) (o := .cells #[.slice none 0 0, .slice none 0 0] 25 (0, 0)) bk_now hg (by simp [Value.ownBlock]))
           have n2_ := Aside0.mk (blk_grown (g := gb103) (o := .cells #[.slice Ao20 y113.length co20, .slice none 0 0] 25 (0, 0)) bk_now hg (by simp [Value.ownBlock]))
           have n3_ := Aside0.mk (Kd.R_grown (by (with_reducible repeat (first | apply Kd.R_alloc | apply Kd.R_drewN | apply Kd.R_drew)); exact HO109.out) hg (fun _ _ => by simp [Value.ownBlock]))
           have n4_ := Aside0.mk (Kd.R_grown (by (with_reducible repeat (first | apply Kd.R_alloc | apply Kd.R_drewN | apply Kd.R_drew)); exact HO115.out) hg (fun _ _ => by simp [Value.ownBlock]))
           have n5_ := Aside0.mk (hb)
           have n6_ := Aside0.mk (ho)
           clear BK101
           clear BK102
           clear BK103
           clear HO109
           clear HO115
           clear HB
           have BK101 := n0_
           have BK102 := n1_
           have BK103 := n2_
           have HO109 := n3_
           have HO115 := n4_
           have HB := n5_
           have HO118 := n6_
           clear n0_ n1_ n2_ n3_ n4_ n5_ n6_
           clear ho hb hg hat
           refine hK.out _ _ ⟨(blk_cell BK103.out 0).trans rfl, (blk_cell BK103.out 1).trans rfl, (blk_cell BK101.out 0).trans rfl, (blk_cell BK101.out 1).trans rfl⟩ (fun hHeld => ?_)
           clear hK K
           refine norm_ (a' := ?_) ?_ ?_
           rotate_left
           ·show Act.put _ (some 21) _ = _
            simp only [Act.put, List.setIfInBounds_toArray, List.set_cons_zero, List.set_cons_succ, i64_w, i32_w]
            rfl
           refine one_ (i := 6) (N := some 23) #[true, true, true, true, true, true, true, false, true, true, true, false, false, false] rfl rfl (one_of HT_.out (by kernel_rfl)) (by decide) (fun K hK => ?_)
           refine Kd.R_lit_step k40 _ 40 ?hg (N := 23) ?hd (xs := ([(⟨9, 0, 0, 0, 0⟩ : S40)] : List (S40))) (inner := [.int .u8 9, .int .u8 0, .int .u8 0, .int .i16 0, .int .i32 0]) (ok := fun _ => True) (okp := fun _ => True) ?hr ?hp (fun _ hk => hk) trivial (Below.refl _ _) (Nat.le_refl _) (by simp) ?_; (case hd => rfl); (case hg => rfl); (case hr => first | (go_simp; done) | (go_simp; rfl)); (case hp => exact (Reps.c5 (show Kd.M k40 _ _ _ (⟨9, 0, 0, 0, 0⟩ : S40) [.int .u8 9, .int .u8 0, .int .u8 0, .int .i16 0, .int .i32 0] from (k40_mkM _ _ _ (⟨9, 0, 0, 0, 0⟩ : S40) )) (Reps.none _ _)))
           intro v120 w26 ho27 hb hg_ hnew_
           clear hg_ hnew_
           (first | rw [← Ny119.out] at ho27 | (simp only [Int.reduceToNat] at ho27; rw [← Ny119.out] at ho27))
           have n0_ := Aside0.mk (Kd.R_below (by (with_reducible repeat (first | apply Kd.R_alloc | apply Kd.R_drewN | apply Kd.R_drew)); exact HO109.out) hb)
           have n1_ := Aside0.mk (Kd.R_below (by (with_reducible repeat (first | apply Kd.R_alloc | apply Kd.R_drewN | apply Kd.R_drew)); exact HO115.out) hb)
           have n2_ := Aside0.mk (Kd.R_elder' (by (with_reducible repeat (first | apply Kd.R_alloc | apply Kd.R_drewN | apply Kd.R_drew)); exact HO118.out) (Kd.R_base ho27) hb)
           have n3_ := Aside0.mk (Kd.R_lower (Kd.R_new' ho27 (Kd.R_lt (by (with_reducible repeat (first | apply Kd.R_alloc | apply Kd.R_drewN | apply Kd.R_drew)); exact HO118.out))) (below_size b_now))
           have n4_ := Aside0.mk (blk_below (g := gb101) (o := .cells #[.slice A0_0 l0_0.length c0_0, .slice A0_1 l0_1.length c0_1] 25 (0, 0)) bk_now hb)
           have n5_ := Aside0.mk (blk_below (g := gb102) (o := .cells #[.slice none 0 0, .slice none 0 0] 25 (0, 0)) bk_now hb)
           have n6_ := Aside0.mk (blk_below (g := gb103) (o := .cells #[.slice Ao20 y113.length co20, .slice none 0 0] 25 (0, 0)) bk_now hb)
           have n7_ := Aside0.mk (below_step b_now hb)
           clear HO109
           clear HO115
           clear HO118
           clear BK101
           clear BK102
           clear BK103
           clear HB
           have HO109 := n0_
           have HO115 := n1_
           have HO118 := n2_
           have HO121 := n3_
           have BK101 := n4_
           have BK102 := n5_
           have BK103 := n6_
           have HB := n7_
           clear n0_ n1_ n2_ n3_ n4_ n5_ n6_ n7_
           clear hb ho27
           refine hK.out _ _ ⟨(blk_cell BK103.out 0).trans rfl, (blk_cell BK103.out 1).trans rfl, (blk_cell BK101.out 0).trans rfl, (blk_cell BK101.out 1).trans rfl⟩ (fun hHeld => ?_)
           clear hK K
           refine norm_ (a' := ?_) ?_ ?_
           rotate_left
           ·show Act.put _ (some 23) _ = _
            simp only [Act.put, List.setIfInBounds_toArray, List.set_cons_zero, List.set_cons_succ, i64_w, i32_w]
            rfl
           exact norm_ (by simp only [putAll, Act.put, List.setIfInBounds_toArray, List.set_cons_zero, List.set_cons_succ]) (hCont (v117, v120) _ ⟨hHeld, (by (with_reducible repeat (first | apply Kd.R_alloc | apply Kd.R_drewN | apply Kd.R_drew)); exact HO109.out), (by (with_reducible repeat (first | apply Kd.R_alloc | apply Kd.R_drewN | apply Kd.R_drew)); exact HO115.out), (by (with_reducible repeat (first | apply Kd.R_alloc | apply Kd.R_drewN | apply Kd.R_drew)); exact Kd.R_mono HO118.out (fun _ hk => hk.2)), (by (with_reducible repeat (first | apply Kd.R_alloc | apply Kd.R_drewN | apply Kd.R_drew)); exact Kd.R_mono HO121.out (fun _ hk => hk.2)), bk_now, bk_now, bk_now, b_now⟩)
          ·skip
           refine Kd.R_lit_step k40 _ 40 ?hg (N := 23) ?hd (xs := ([(⟨9, 0, 0, 0, 0⟩ : S40)] : List (S40))) (inner := [.int .u8 9, .int .u8 0, .int .u8 0, .int .i16 0, .int .i32 0]) (ok := fun _ => True) (okp := fun _ => True) ?hr ?hp (fun _ hk => hk) trivial (Below.refl _ _) (Nat.le_refl _) (by simp) ?_; (case hd => rfl); (case hg => rfl); (case hr => first | (go_simp; done) | (go_simp; rfl)); (case hp => exact (Reps.c5 (show Kd.M k40 _ _ _ (⟨9, 0, 0, 0, 0⟩ : S40) [.int .u8 9, .int .u8 0, .int .u8 0, .int .i16 0, .int .i32 0] from (k40_mkM _ _ _ (⟨9, 0, 0, 0, 0⟩ : S40) )) (Reps.none _ _)))
           intro v120 w25 ho26 hb hg_ hnew_
           clear hg_ hnew_
           (first | rw [← Ny119.out] at ho26 | (simp only [Int.reduceToNat] at ho26; rw [← Ny119.out] at ho26))
           have n0_ := Aside0.mk (Kd.R_below (by (with_reducible repeat (first | apply Kd.R_alloc | apply Kd.R_drewN | apply Kd.R_drew)); exact HO109.out) hb)
           have n1_ := Aside0.mk (Kd.R_below (by (with_reducible repeat (first | apply Kd.R_alloc | apply Kd.R_drewN | apply Kd.R_drew)); exact HO115.out) hb)
           have n2_ := Aside0.mk (Kd.R_lower ho26 (below_size b_now))
           have n3_ := Aside0.mk (blk_below (g := gb101) (o := .cells #[.slice A0_0 l0_0.length c0_0, .slice A0_1 l0_1.length c0_1] 25 (0, 0)) bk_now hb)
           have n4_ := Aside0.mk (blk_below (g := gb102) (o := .cells #[.slice none 0 0, .slice none 0 0] 25 (0, 0)) bk_now hb)
           have n5_ := Aside0.mk (blk_below (g := gb103) (o := .cells #[.slice Ao20 y113.length co20, .slice none 0 0] 25 (0, 0)) bk_now hb)
           have n6_ := Aside0.mk (below_step b_now hb)
           clear HO109
           clear HO115
           clear BK101
           clear BK102
           clear BK103
           clear HB
           have HO109 := n0_
           have HO115 := n1_
           have HO121 := n2_
           have BK101 := n3_
           have BK102 := n4_
           have BK103 := n5_
           have HB := n6_
           clear n0_ n1_ n2_ n3_ n4_ n5_ n6_
           clear hb ho26
           refine hK.out _ _ ⟨(blk_cell BK103.out 0).trans rfl, (blk_cell BK103.out 1).trans rfl, (blk_cell BK101.out 0).trans rfl, (blk_cell BK101.out 1).trans rfl⟩ (fun hHeld => ?_)
           clear hK K
           refine norm_ (a' := ?_) ?_ ?_
           rotate_left
           ·show Act.put _ (some 23) _ = _
            simp only [Act.put, List.setIfInBounds_toArray, List.set_cons_zero, List.set_cons_succ, i64_w, i32_w]
            rfl
           refine one_ (i := 4) (N := some 21) #[true, true, true, true, true, true, true, false, true, true, true, false, false, false] rfl rfl (one_of HT_.out (by kernel_rfl)) (by decide) (fun K hK => ?_)
           refine Kd.R_append_rows_step k40 (w0 := w) w.heap.size (by rfl) (.tmp 18) (.tmp 20) 23 40 (.agg #[(.int .u8 0), (.int .u8 0), (.int .u8 0), (.int .i16 0), (.int .i32 0)]) 12 rfl Tryd.underlying23 info40 rfl (by decide) (by omega) (.slice none 0 0) ([] : List (S40)) l0_1 _ _ _ (fun k_ => some k_ ≠ (v120 : Value).ownBlock) (fun _ => False) rfl rfl ?aO ?aR (fun _ _ h => h) (fun _ h => h.elim) ?aF ?aB ?aS ?aL ?_
           (case aR => repeat (first | exact (Kd.C_below HR0_1.out HB.out) | (with_reducible refine Kd.C_alloc ?_ _) | (with_reducible refine Kd.C_drewN ?_ _) | (with_reducible refine Kd.C_drew ?_)))
           (case aB => exact b_now)
           (case aF => exact (fun k_ hk => Kd.fresh' (Kd.R_lt (by (with_reducible repeat (first | apply Kd.R_alloc | apply Kd.R_drewN | apply Kd.R_drew)); exact HO121.out)) k_ hk))
           (case aO => exact ((Kd.R_nil _ _ _ _ (fun k_ => some k_ ≠ (v120 : Value).ownBlock))))
           (case aS => exact (below_size b_now))
           (case aL => have := LMc6.out; omega)
           intro v117 w27 ho hb hg hat
           rw [← Ny116.out] at ho
           have n0_ := Aside0.mk (blk_grown (g := gb101) (o := .cells #[.slice A0_0 l0_0.length c0_0, .slice A0_1 l0_1.length c0_1] 25 (0, 0)) bk_now hg (by simp [Value.ownBlock]))
           have n1_ := Aside0.mk (blk_grown (g := gb102) (o := .cells #[.slice none 0 0, .slice none 0 0] 25 (0, 0)) bk_now hg (by simp [Value.ownBlock]))
           have n2_ := Aside0.mk (blk_grown (g := gb103) (o := .cells #[.slice Ao20 y113.length co20, .slice none 0 0] 25 (0, 0)) bk_now hg (by simp [Value.ownBlock]))
           have n3_ := Aside0.mk (Kd.R_grown (by (with_reducible repeat (first | apply Kd.R_alloc | apply Kd.R_drewN | apply Kd.R_drew)); exact HO109.out) hg (fun _ _ => by simp [Value.ownBlock]))
           have n4_ := Aside0.mk (Kd.R_grown (by (with_reducible repeat (first | apply Kd.R_alloc | apply Kd.R_drewN | apply Kd.R_drew)); exact HO115.out) hg (fun _ _ => by simp [Value.ownBlock]))
           have n5_ := Aside0.mk (Kd.R_after (Kd.R_apart_nil (by (with_reducible repeat (first | apply Kd.R_alloc | apply Kd.R_drewN | apply Kd.R_drew)); exact HO121.out)) hg hat)
           have n6_ := Aside0.mk (hb)
           have n7_ := Aside0.mk (ho)
           clear BK101
           clear BK102
           clear BK103
           clear HO109
           clear HO115
           clear HO121
           clear HB
           have BK101 := n0_
           have BK102 := n1_
           have BK103 := n2_
           have HO109 := n3_
           have HO115 := n4_
           have HO121 := n5_
           have HB := n6_
           have HO118 := n7_
           clear n0_ n1_ n2_ n3_ n4_ n5_ n6_ n7_
           clear ho hb hg hat
           refine hK.out _ _ ⟨(blk_cell BK103.out 0).trans rfl, (blk_cell BK103.out 1).trans rfl, (blk_cell BK101.out 0).trans rfl, (blk_cell BK101.out 1).trans rfl⟩ (fun hHeld => ?_)
           clear hK K
           refine norm_ (a' := ?_) ?_ ?_
           rotate_left
           ·show Act.put _ (some 21) _ = _
            simp only [Act.put, List.setIfInBounds_toArray, List.set_cons_zero, List.set_cons_succ, i64_w, i32_w]
            rfl
           exact norm_ (by simp only [putAll, Act.put, List.setIfInBounds_toArray, List.set_cons_zero, List.set_cons_succ]) (hCont (v117, v120) _ ⟨hHeld, (by (with_reducible repeat (first | apply Kd.R_alloc | apply Kd.R_drewN | apply Kd.R_drew)); exact HO109.out), (by (with_reducible repeat (first | apply Kd.R_alloc | apply Kd.R_drewN | apply Kd.R_drew)); exact HO115.out), (by (with_reducible repeat (first | apply Kd.R_alloc | apply Kd.R_drewN | apply Kd.R_drew)); exact HO118.out), (by (with_reducible repeat (first | apply Kd.R_alloc | apply Kd.R_drewN | apply Kd.R_drew)); exact Kd.R_mono HO121.out (fun _ hk => hk.2)), bk_now, bk_now, bk_now, b_now⟩)
         rintro ⟨v117, v120⟩ w28 ⟨hS_, h0_, h1_, h2_, h3_, h4_, h5_, h6_, h7_⟩
         have n0_ : Aside0 (Kd.R k52 52 w28 w.heap.size (fun k_ => some k_ ≠ (.slice Ao20 y113.length co20 : Value).ownBlock) (.slice Ao19 y107.length co19) y107) := ⟨h0_⟩
         have n1_ : Aside0 (Kd.R k52 52 w28 w.heap.size (fun k_ => some k_ ≠ (.slice Ao19 y107.length co19 : Value).ownBlock) (.slice Ao20 y113.length co20) y113) := ⟨h1_⟩
         have n2_ : Aside0 (Kd.R k40 40 w28 w.heap.size (fun k_ => some k_ ≠ (v120 : Value).ownBlock) v117 y116) := ⟨h2_⟩
         have n3_ : Aside0 (Kd.R k40 40 w28 w.heap.size (fun k_ => some k_ ≠ (v117 : Value).ownBlock) v120 y119) := ⟨h3_⟩
         have n4_ : Aside0 (w28.heap[gb101]? = some (.cells #[.slice A0_0 l0_0.length c0_0, .slice A0_1 l0_1.length c0_1] 25 (0, 0))) := ⟨h4_⟩
         have n5_ : Aside0 (w28.heap[gb102]? = some (.cells #[.slice none 0 0, .slice none 0 0] 25 (0, 0))) := ⟨h5_⟩
         have n6_ : Aside0 (w28.heap[gb103]? = some (.cells #[.slice Ao20 y113.length co20, .slice none 0 0] 25 (0, 0))) := ⟨h6_⟩
         have n7_ : Aside0 (Below w.heap.size w w28) := ⟨h7_⟩
         clear HO109
         clear HO115
         clear BK101
         clear BK102
         clear BK103
         clear HB
         clear h0_ h1_ h2_ h3_ h4_ h5_ h6_ h7_
         have HO109 := n0_
         have HO115 := n1_
         have HO118 := n2_
         have HO121 := n3_
         have BK101 := n4_
         have BK102 := n5_
         have BK103 := n6_
         have HB := n7_
         clear n0_ n1_ n2_ n3_ n4_ n5_ n6_ n7_
         have hHeld : w28.cell? ⟨gb103, 0, none⟩ = some (.slice Ao20 y113.length co20) ∧ w28.cell? ⟨gb103, 1, none⟩ = some (.slice none 0 0) ∧ w28.cell? ⟨gb101, 0, none⟩ = some (.slice A0_0 l0_0.length c0_0) ∧ w28.cell? ⟨gb101, 1, none⟩ = some (.slice A0_1 l0_1.length c0_1) := hS_
         obtain ⟨Ao30, co30, eo30⟩ := Kd.R_slice HO121.out
         (first | subst eo30 | (injection eo30 with f1_ f2_ f3_; have f4_ := f1_.symm; have f5_ := f3_.symm; clear f1_ f2_ f3_; subst f4_; subst f5_))
         refine norm_ (a' := ?_) ?_ ?_
         rotate_left
         ·simp only [putAll, Act.put, List.setIfInBounds_toArray, List.set_cons_zero, List.set_cons_succ]
          rfl
         refine one_ (i := 7) (N := some 24) #[true, true, true, true, true, true, true, true, true, true, true, false, false, false] rfl rfl (one_of HT_.out (by kernel_rfl)) (by decide) (fun K hK => ?_)
         refine Kd.R_append_rows_step k40 (w0 := w) w.heap.size (by rfl) (.tmp 21) (.tmp 23) 23 40 (.agg #[(.int .u8 0), (.int .u8 0), (.int .u8 0), (.int .i16 0), (.int .i32 0)]) 12 rfl Tryd.underlying23 info40 rfl (by decide) (by omega) v117 y116 y119 _ _ _ (fun k_ => some k_ ≠ (.slice Ao30 y119.length co30 : Value).ownBlock) (fun _ => False) rfl rfl ?aO ?aR (fun _ _ h => h) (fun _ h => h.elim) ?aF ?aB ?aS ?aL ?_
         (case aR => repeat (first | exact (Kd.R_reads' HO121.out).2.2 | (with_reducible refine Kd.C_alloc ?_ _) | (with_reducible refine Kd.C_drewN ?_ _) | (with_reducible refine Kd.C_drew ?_)))
         (case aB => exact b_now)
         (case aF => exact (fun k_ hk => Kd.fresh' (Kd.R_lt (by (with_reducible repeat (first | apply Kd.R_alloc | apply Kd.R_drewN | apply Kd.R_drew)); exact HO121.out)) k_ hk))
         (case aO => exact (by (with_reducible repeat (first | apply Kd.R_alloc | apply Kd.R_drewN | apply Kd.R_drew)); exact HO118.out))
         (case aS => exact (below_size b_now))
         (case aL => have := LMc7.out; omega)
         intro v123 w29 ho hb hg hat
         rw [← Ny122.out] at ho
         have n0_ := Aside0.mk (blk_grown (g := gb101) (o := .cells #[.slice A0_0 l0_0.length c0_0, .slice A0_1 l0_1.length c0_1] 25 (0, 0)) bk_now hg (Kd.R_ne HO118.out BK101.out (by decide)))
         have n1_ := Aside0.mk (blk_grown (g := gb102) (o := .cells #[.slice none 0 0, .slice none 0 0] 25 (0, 0)) bk_now hg (Kd.R_ne HO118.out BK102.out (by decide)))
         have n2_ := Aside0.mk (blk_grown (g := gb103) (o := .cells #[.slice Ao20 y113.length co20, .slice none 0 0] 25 (0, 0)) bk_now hg (Kd.R_ne HO118.out BK103.out (by decide)))
         have n3_ := Aside0.mk (Kd.R_over' (by (with_reducible repeat (first | apply Kd.R_alloc | apply Kd.R_drewN | apply Kd.R_drew)); exact HO109.out) (Kd.R_typed (by (with_reducible repeat (first | apply Kd.R_alloc | apply Kd.R_drewN | apply Kd.R_drew)); exact HO118.out)) (by decide) hg)
         have n4_ := Aside0.mk (Kd.R_over' (by (with_reducible repeat (first | apply Kd.R_alloc | apply Kd.R_drewN | apply Kd.R_drew)); exact HO115.out) (Kd.R_typed (by (with_reducible repeat (first | apply Kd.R_alloc | apply Kd.R_drewN | apply Kd.R_drew)); exact HO118.out)) (by decide) hg)
         have n5_ := Aside0.mk (Kd.R_after (ok := (fun _ => True)) (by (with_reducible repeat (first | apply Kd.R_alloc | apply Kd.R_drewN | apply Kd.R_drew)); exact Kd.R_mono HO121.out (fun _ hk => ⟨trivial, hk⟩)) hg hat)
         have n6_ := Aside0.mk (hb)
         have n7_ := Aside0.mk (ho)
         clear BK101
         clear BK102
         clear BK103
         clear HO109
         clear HO115
         clear HO121
         clear HB
         clear HO118
         have BK101 := n0_
         have BK102 := n1_
         have BK103 := n2_
         have HO109 := n3_
         have HO115 := n4_
         have HO121 := n5_
         have HB := n6_
         have HO124 := n7_
         clear n0_ n1_ n2_ n3_ n4_ n5_ n6_ n7_
         clear ho hb hg hat
         obtain ⟨Ao31, co31, eo31⟩ := Kd.R_slice HO124.out
         (first | subst eo31 | (injection eo31 with f1_ f2_ f3_; have f4_ := f1_.symm; have f5_ := f3_.symm; clear f1_ f2_ f3_; subst f4_; subst f5_))
         have q32 : ((l0_1.length : Int) : Int) ≤ ((y122.length : Int) : Int) := of_decide_eq_true (by first | (with_reducible assumption) | assumption)
         obtain ⟨i032, hi032, _, hsz32, _⟩ := info_parts info40
         have hcut32 := cut_to (P := Tryd.prog) 23 40 .i64 Tryd.underlying23 hi032 Ao31 y122.length co31 (l0_1.length : Int) (of_decide_eq_true (by first | (with_reducible assumption) | assumption)) q32 (Kd.R_reads' HO124.out).2.1
         have hr32 := Kd.R_take (m := ((l0_1.length : Int) : Int).toNat) HO124.out (by omega)
         have hy32 : y125.length = ((l0_1.length : Int) : Int).toNat := (by rw [Ny125.out, List.length_take]; omega)
         rw [← Ny125.out] at hr32
         rw [← hy32] at hr32 hcut32
         clear hy32 hi032 hsz32 HO124
         have HO127 := Aside0.mk hr32
         clear hr32
         replace q32 := eq_true q32
         refine hK.out _ _ ⟨(blk_cell BK103.out 0).trans rfl, (blk_cell BK103.out 1).trans rfl, (blk_cell BK101.out 0).trans rfl, (blk_cell BK101.out 1).trans rfl⟩ (fun hHeld => ?_)
         clear hK K
         refine norm_ (a' := ?_) ?_ ?_
         rotate_left
         ·show Act.put _ (some 24) _ = _
          simp only [Act.put, List.setIfInBounds_toArray, List.set_cons_zero, List.set_cons_succ, i64_w, i32_w]
          rfl
         refine pure_ (i := 11) (N := some 28) (v := ?_) (a' := ?_) #[true, true, true, true, true, true, true, true, true, true, true, true, false, false] rfl rfl (any_of HT_.out (by kernel_rfl)) (fun _ _ _ h => h) (Or.inl ⟨by rfl, ?_⟩) ?_ ?_
         rotate_left
         ·intro w'
          go_simp
          with_reducible rfl
         rotate_left
         ·simp only [Act.put, List.setIfInBounds_toArray, List.set_cons_zero, List.set_cons_succ, i64_w, i32_w]
          rfl
         refine pure_ (i := 12) (N := some 29) (v := ?_) (a' := ?_) #[true, true, true, true, true, true, true, true, true, true, true, true, true, false] rfl rfl (any_of HT_.out (by kernel_rfl)) (fun _ _ _ h => h) (Or.inl ⟨by rfl, ?_⟩) ?_ ?_
         rotate_left
         ·intro w'
          go_simp
          with_reducible rfl
         rotate_left
         ·simp only [Act.put, List.setIfInBounds_toArray, List.set_cons_zero, List.set_cons_succ, i64_w, i32_w]
          rfl
         refine last_ (i := 13) (N := none) #[true, true, true, true, true, true, true, true, true, true, true, true, true, true] rfl rfl (one_of HT_.out (by kernel_rfl)) (by decide) (fun K hK => ?_)
         have hs33 : w29.cell? ⟨gb103, 1, none⟩ = some (.slice none 0 0) := (blk_cell BK103.out 1).trans rfl
         have hfs33 := blk_frozen BK103.out 1
         have hns33_0 := NB101_103.out
         have hns33_1 := NB102_103.out
         have hms33_0 := NB103_101.out
         have hms33_1 := NB103_102.out
         refine skip_ (w1 := ?_) (by rfl) rfl ?_ ?_
         rotate_left
         ·go_simp
          rfl
         refine hK.out _ _ ?_
         clear hK K
         refine done_ (done_of HT_.out (by kernel_rfl)) ?_
         have hnb34 := NB103_101.out
         have hnc34 := NB101_103.out
         have hnb35 := NB103_102.out
         have hnc35 := NB102_103.out
         have hcz36 := blk_all2 BK103.out
         have hnb37 := NB102_101.out
         have hnc37 := NB101_102.out
         have hcz38 := blk_all2 BK102.out
         try go_wp2
         refine bodyPost_ret (results_cell_row rfl _ _ gb102 25 #[.slice Ao20 y113.length co20, .slice Ao31 y125.length co31] (0, 0) _ rfl bk_now Tryd.underlying25 rfl (by kernel_rfl)) rfl ?_
         exact ⟨_, _, ret_now, by (with_reducible repeat (first | apply Kd.R_alloc | apply Kd.R_drewN | apply Kd.R_drew)); exact Kd.R_mono (Kd.R_far (p := ⟨gb102, 1, none⟩) (Kd.R_far (p := ⟨gb102, 0, none⟩) (Kd.R_far (p := ⟨gb103, 1, none⟩) (Kd.R_types (Kd.R_types HO115.out BK103.out (by decide)) BK102.out (by decide)) (fun _ hk => hk.1.2) (.slice Ao31 y125.length co31)) (fun _ hk => hk.2) (.slice Ao20 y113.length co20)) (fun _ hk => hk.2) (.slice Ao31 y125.length co31)) (fun _ hk => trivial), by (with_reducible repeat (first | apply Kd.R_alloc | apply Kd.R_drewN | apply Kd.R_drew)); exact Kd.R_mono (Kd.R_far (p := ⟨gb102, 1, none⟩) (Kd.R_far (p := ⟨gb102, 0, none⟩) (Kd.R_far (p := ⟨gb103, 1, none⟩) (Kd.R_types (Kd.R_types HO127.out BK103.out (by decide)) BK102.out (by decide)) (fun _ hk => hk.1.2) (.slice Ao31 y125.length co31)) (fun _ hk => hk.2) (.slice Ao20 y113.length co20)) (fun _ hk => hk.2) (.slice Ao31 y125.length co31)) (fun _ hk => trivial), b_now⟩
        ·rw [if_neg c9] at H
         exact absurd H (by simp)
       ·rw [if_neg c8] at H
        exact absurd H (by simp)
      ·rw [if_neg c7] at H
       exact absurd H (by simp)
     ·rw [if_neg c6] at H
      exact absurd H (by simp)
    ·rw [if_neg c5] at H
     exact absurd H (by simp)
   ·rw [if_neg c4] at H
    exact absurd H (by simp)
  ·rw [if_neg c3] at H
   exact absurd H (by simp)
 ·rw [if_neg c2] at H
  exact absurd H (by simp)

end Go.Proofs.YtdhiibkcoolbeaaDoor.P
