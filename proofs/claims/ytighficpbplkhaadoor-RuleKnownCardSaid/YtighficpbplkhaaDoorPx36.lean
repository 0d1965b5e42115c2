/- Made by this session's driver over the kit's printer: for each Go function a Lean function with the same answers, and a proof that the Go call comes to these answers; no conditions but the ones each theorem names. -/
import Derived.Test.YtighficpbplkhaaDoorPx0
import Derived.Test.YtighficpbplkhaaDoorPx4
import Derived.Test.YtighficpbplkhaaDoorPx10
import Derived.Test.YtighficpbplkhaaDoorPx11
import Derived.Test.YtighficpbplkhaaDoorPx21
import Derived.Test.YtighficpbplkhaaDoorPxXXSr
namespace Go.Proofs.YtighficpbplkhaaDoor.P
open Go.RowKit Go.Proofs.YtighficpbplkhaaDoorW.PrintWords Go.Proofs.YtighficpbplkhaaDoorW.PrintLast Go.Proofs.YtighficpbplkhaaDoorW.PrintMore
attribute [local go_sem] max2_int min2_int max_two min_two max_three min_three max_four min_four   -- for this text's walks alone
set_option linter.unusedVariables false
set_option linter.unusedSimpArgs false

/-! ### stockadelaw18_RuleKnown: function 9 -/
mutual
def stockadelaw18_RuleKnown.j0 : Nat → List Int → Bool → Option (Bool)
 | 0, _, _ => none
 | k + 1, x8, x71 => if x71 = true then (some false) else ((some (([(⟨#[97, 110, 121, 32, 45, 62, 32, 48, 49, 10]⟩ : ByteArray), (⟨#[108, 101, 110, 32, 53, 46, 46, 51, 32, 45, 62, 32, 49, 10]⟩ : ByteArray), (⟨#[97, 110, 121, 32, 45, 62, 32, 49]⟩ : ByteArray), (⟨#[97, 110, 121, 45, 62, 49, 10]⟩ : ByteArray), (⟨#[108, 101, 110, 32, 49, 46, 46, 50, 44, 32, 97, 110, 121, 32, 45, 62, 32, 49, 10]⟩ : ByteArray), (⟨#[117, 49, 54, 64, 50, 53, 54, 32, 48, 46, 46, 49, 32, 45, 62, 32, 49, 10]⟩ : ByteArray), (⟨#[117, 50, 52, 64, 48, 32, 48, 46, 46, 49, 32, 45, 62, 32, 49, 10]⟩ : ByteArray), (⟨#[117, 56, 64, 48, 47, 50, 53, 53, 32, 48, 46, 46, 49, 32, 45, 62, 32, 49, 10]⟩ : ByteArray), (⟨#[117, 56, 64, 48, 47, 48, 32, 48, 46, 46, 49, 32, 45, 62, 32, 49, 10]⟩ : ByteArray), (⟨#[117, 56, 64, 48, 32, 48, 46, 46, 50, 53, 54, 32, 45, 62, 32, 49, 10]⟩ : ByteArray), (⟨#[105, 110, 32, 48, 46, 46, 52, 50, 57, 52, 57, 54, 55, 50, 57, 54, 32, 45, 62, 32, 49, 10]⟩ : ByteArray), (⟨#[97, 110, 121, 32, 45, 62, 32, 52, 50, 57, 52, 57, 54, 55, 50, 57, 54, 10]⟩ : ByteArray), (⟨#[110, 111, 116, 32, 110, 111, 116, 32, 108, 101, 110, 32, 48, 46, 46, 49, 32, 45, 62, 32, 49, 10]⟩ : ByteArray), (⟨#[10]⟩ : ByteArray)] : List ByteArray) : List ByteArray)).bind fun y644 => (stockadelaw18_RuleKnown.l0 k x8 y644 (y644.length : Int) 0))
def stockadelaw18_RuleKnown.l0 : Nat → List Int → List ByteArray → Int → Int → Option (Bool)
 | 0, _, _, _, _ => none
 | k + 1, x8, x72, x73, x74 => if x74 < x73 then (if 0 ≤ x74 then (if x74 < (x72.length : Int) then ((rule_Parse.f k (rdOf ByteArray.empty x72 x74)).bind fun bt648 => (if (bt648.1.length : Int) > 0 then (some false) else (if bt648.2.1 = 1 then (if bt648.2.2 = 5 then (stockadelaw18_RuleKnown.l0 k x8 x72 x73 (wrap64 (x74 + 1))) else (some false)) else (some false)))) else (none)) else (none)) else ((rule_Judge.f k ([] : List (S53)) x8 0).bind fun bt653 => (if 33 ≤ 8796093022208 then ((rule_Check.f k (List.replicate 33 z53)).bind fun bt658 => (if 9 ≤ 5026338869833 then ((rule_Check.f k (([(⟨([] : List (S50)), 0⟩ : S53), (⟨(List.replicate 9 z50), 0⟩ : S53)] : List (S53)))).bind fun bt666 => (if 8 ≤ 5026338869833 then ((rule_Check.f k (([(⟨(List.replicate 8 z50), 0⟩ : S53)] : List (S53)))).bind fun bt674 => (if bt653.1 = 0 then (if bt653.2 = (-1) then (if bt658.2 = 3 then (if bt666.1 = 1 then (if bt666.2 = 3 then (if bt674.2 = 1 then ((stockadelaw18_wakes.f k).bind fun t676 => (some t676)) else (some false)) else (some false)) else (some false)) else (some false)) else (some false)) else (some false))) else (none))) else (none))) else (none)))
end
def stockadelaw18_RuleKnown.f (k : Nat)  : Option (Bool) := (rule_Src.f k () 8).bind fun bt616 => ((rule_Print.f k (([(⟨(([(⟨bt616.1, bt616.2.1, bt616.2.2.1, bt616.2.2.2.1, bt616.2.2.2.2.1, bt616.2.2.2.2.2.1, bt616.2.2.2.2.2.2⟩ : S50)] : List (S50))), 1⟩ : S53)] : List (S53)))).bind fun bt629 => ((some (([1, 2, 3, 4] : List Int) : List Int)).bind fun y636 => (if bt629.2 = 0 then (if bt629.1.toList = ([117, 51, 50, 64, 50, 54, 47, 52, 50, 55, 56, 49, 57, 48, 48, 56, 48, 32, 49, 54, 55, 55, 55, 50, 49, 54, 48, 46, 46, 49, 54, 55, 55, 55, 50, 49, 54, 48, 32, 45, 62, 32, 49, 10] : List UInt8) then ((rule_Holds.f k false 1 0 0 0 3 5 y636 0).bind fun t639 => (if t639 = true then ((rule_Holds.f k true 1 0 0 0 3 5 y636 0).bind fun t640 => (if t640 = true then (stockadelaw18_RuleKnown.j0 k y636 true) else ((rule_Holds.f k true 9 0 0 0 0 0 y636 0).bind fun t641 => (if t641 = true then (stockadelaw18_RuleKnown.j0 k y636 true) else ((rule_Holds.f k false 3 3 2 65535 0 65535 y636 0).bind fun t642 => (if t642 = true then (stockadelaw18_RuleKnown.j0 k y636 true) else ((rule_Holds.f k true 3 3 2 65535 0 65535 y636 0).bind fun t643 => (stockadelaw18_RuleKnown.j0 k y636 (!t643))))))))) else (stockadelaw18_RuleKnown.j0 k y636 true))) else (stockadelaw18_RuleKnown.j0 k y636 true)) else (stockadelaw18_RuleKnown.j0 k y636 true))))
theorem stockadelaw18_RuleKnown.mono_l : ∀ k, (∀ y0 y1, LeO (stockadelaw18_RuleKnown.j0 k y0 y1) (stockadelaw18_RuleKnown.j0 (k + 1) y0 y1)) ∧ (∀ y0 y1 y2 y3, LeO (stockadelaw18_RuleKnown.l0 k y0 y1 y2 y3) (stockadelaw18_RuleKnown.l0 (k + 1) y0 y1 y2 y3))
 | 0 => ⟨fun _ _ r h => by simp [stockadelaw18_RuleKnown.j0] at h, fun _ _ _ _ r h => by simp [stockadelaw18_RuleKnown.l0] at h⟩
 | k + 1 => by
  obtain ⟨ih0, ih1⟩ := stockadelaw18_RuleKnown.mono_l k
  refine ⟨?_, ?_⟩
  ·intro y0 y1
   unfold stockadelaw18_RuleKnown.j0
   repeat' first
   | (with_reducible exact ih0 _ _)
   | (with_reducible exact ih1 _ _ _ _)
   | (with_reducible exact rule_Check.mono _ _)
   | (with_reducible exact rule_Holds.mono _ _ _ _ _ _ _ _ _ _)
   | (with_reducible exact rule_Judge.mono _ _ _ _)
   | (with_reducible exact rule_Parse.mono _ _)
   | (with_reducible exact rule_Print.mono _ _)
   | (with_reducible exact rule_Src.mono _ _ _)
   | (with_reducible exact stockadelaw18_wakes.mono _)
   | (with_reducible exact LeO.refl _)
   | (with_reducible exact LeO.none _)
   | (with_reducible refine LeO.ite ?_ ?_)
   | (with_reducible refine LeO.bind ?_ (fun _ => ?_))
   | exact ih0 _ _
   | exact ih1 _ _ _ _
   | exact rule_Check.mono _ _
   | exact rule_Holds.mono _ _ _ _ _ _ _ _ _ _
   | exact rule_Judge.mono _ _ _ _
   | exact rule_Parse.mono _ _
   | exact rule_Print.mono _ _
   | exact rule_Src.mono _ _ _
   | exact stockadelaw18_wakes.mono _
   | exact LeO.none _
   | refine LeO.ite ?_ ?_
   | refine LeO.bind ?_ (fun _ => ?_)
  ·intro y0 y1 y2 y3
   unfold stockadelaw18_RuleKnown.l0
   repeat' first
   | (with_reducible exact ih0 _ _)
   | (with_reducible exact ih1 _ _ _ _)
   | (with_reducible exact rule_Check.mono _ _)
   | (with_reducible exact rule_Holds.mono _ _ _ _ _ _ _ _ _ _)
   | (with_reducible exact rule_Judge.mono _ _ _ _)
   | (with_reducible exact rule_Parse.mono _ _)
   | (with_reducible exact rule_Print.mono _ _)
   | (with_reducible exact rule_Src.mono _ _ _)
   | (with_reducible exact stockadelaw18_wakes.mono _)
   | (with_reducible exact LeO.refl _)
   | (with_reducible exact LeO.none _)
   | (with_reducible refine LeO.ite ?_ ?_)
   | (with_reducible refine LeO.bind ?_ (fun _ => ?_))
   | exact ih0 _ _
   | exact ih1 _ _ _ _
   | exact rule_Check.mono _ _
   | exact rule_Holds.mono _ _ _ _ _ _ _ _ _ _
   | exact rule_Judge.mono _ _ _ _
   | exact rule_Parse.mono _ _
   | exact rule_Print.mono _ _
   | exact rule_Src.mono _ _ _
   | exact stockadelaw18_wakes.mono _
   | exact LeO.none _
   | refine LeO.ite ?_ ?_
   | refine LeO.bind ?_ (fun _ => ?_)
theorem stockadelaw18_RuleKnown.mono : ∀ k, LeO (stockadelaw18_RuleKnown.f k ) (stockadelaw18_RuleKnown.f (k + 1) ) := by
 intro  k
 obtain ⟨ih0, ih1⟩ := stockadelaw18_RuleKnown.mono_l k
 unfold stockadelaw18_RuleKnown.f
 repeat' first
   | (with_reducible exact ih0 _ _)
   | (with_reducible exact ih1 _ _ _ _)
   | (with_reducible exact rule_Check.mono _ _)
   | (with_reducible exact rule_Holds.mono _ _ _ _ _ _ _ _ _ _)
   | (with_reducible exact rule_Judge.mono _ _ _ _)
   | (with_reducible exact rule_Parse.mono _ _)
   | (with_reducible exact rule_Print.mono _ _)
   | (with_reducible exact rule_Src.mono _ _ _)
   | (with_reducible exact stockadelaw18_wakes.mono _)
   | (with_reducible exact LeO.refl _)
   | (with_reducible exact LeO.none _)
   | (with_reducible refine LeO.ite ?_ ?_)
   | (with_reducible refine LeO.bind ?_ (fun _ => ?_))
   | exact ih0 _ _
   | exact ih1 _ _ _ _
   | exact rule_Check.mono _ _
   | exact rule_Holds.mono _ _ _ _ _ _ _ _ _ _
   | exact rule_Judge.mono _ _ _ _
   | exact rule_Parse.mono _ _
   | exact rule_Print.mono _ _
   | exact rule_Src.mono _ _ _
   | exact stockadelaw18_wakes.mono _
   | exact LeO.none _
   | refine LeO.ite ?_ ?_
   | refine LeO.bind ?_ (fun _ => ?_)
set_option maxHeartbeats 8000000 in
set_option maxRecDepth 100000 in
theorem stockadelaw18_RuleKnown.calls (k : Nat)  (r : Bool) (w : World) (hrG0 : Kd.C kGF w (some ⟨0, 0, none⟩) gl0.length gl0) (hr_ : r = true) (h : stockadelaw18_RuleKnown.f k  = some r) :
  Calls Tryd.prog 9 #[] w fun e w' => e = .returned (.bool r) ∧ Below w.heap.size w w' := by
 have hu53 := Tryd.underlying53
 have hu50 := Tryd.underlying50
 have HRG0 := Aside0.mk hrG0
 clear hrG0
 have HRT := Aside0.mk hr_
 clear hr_
 have HB := Aside0.mk (Below.refl w.heap.size w)
 have H : ((rule_Src.f k () 8).bind fun bt616 => ((rule_Print.f k (([(⟨(([(⟨bt616.1, bt616.2.1, bt616.2.2.1, bt616.2.2.2.1, bt616.2.2.2.2.1, bt616.2.2.2.2.2.1, bt616.2.2.2.2.2.2⟩ : S50)] : List (S50))), 1⟩ : S53)] : List (S53)))).bind fun bt629 => ((some (([1, 2, 3, 4] : List Int) : List Int)).bind fun y636 => (if bt629.2 = 0 then (if bt629.1.toList = ([117, 51, 50, 64, 50, 54, 47, 52, 50, 55, 56, 49, 57, 48, 48, 56, 48, 32, 49, 54, 55, 55, 55, 50, 49, 54, 48, 46, 46, 49, 54, 55, 55, 55, 50, 49, 54, 48, 32, 45, 62, 32, 49, 10] : List UInt8) then ((rule_Holds.f k false 1 0 0 0 3 5 y636 0).bind fun t639 => (if t639 = true then ((rule_Holds.f k true 1 0 0 0 3 5 y636 0).bind fun t640 => (if t640 = true then (stockadelaw18_RuleKnown.j0 k y636 true) else ((rule_Holds.f k true 9 0 0 0 0 0 y636 0).bind fun t641 => (if t641 = true then (stockadelaw18_RuleKnown.j0 k y636 true) else ((rule_Holds.f k false 3 3 2 65535 0 65535 y636 0).bind fun t642 => (if t642 = true then (stockadelaw18_RuleKnown.j0 k y636 true) else ((rule_Holds.f k true 3 3 2 65535 0 65535 y636 0).bind fun t643 => (stockadelaw18_RuleKnown.j0 k y636 (!t643))))))))) else (stockadelaw18_RuleKnown.j0 k y636 true))) else (stockadelaw18_RuleKnown.j0 k y636 true)) else (stockadelaw18_RuleKnown.j0 k y636 true))))) = some r := h
 clear h
 replace H := Option.bind_eq_some_iff.mp H; obtain ⟨⟨t616, t617, t618, t619, t620, t621, t622⟩, A10, H⟩ := H; try dsimp only at H
 have A1 := Aside0.mk A10
 clear A10
 obtain ⟨y623, hy623⟩ : ∃ y_ : List (S50), y_ = (([(⟨t616, t617, t618, t619, t620, t621, t622⟩ : S50)] : List (S50))) := ⟨_, rfl⟩
 replace H : ((rule_Print.f k (([(⟨y623, 1⟩ : S53)] : List (S53)))).bind fun bt629 => ((some (([1, 2, 3, 4] : List Int) : List Int)).bind fun y636 => (if bt629.2 = 0 then (if bt629.1.toList = ([117, 51, 50, 64, 50, 54, 47, 52, 50, 55, 56, 49, 57, 48, 48, 56, 48, 32, 49, 54, 55, 55, 55, 50, 49, 54, 48, 46, 46, 49, 54, 55, 55, 55, 50, 49, 54, 48, 32, 45, 62, 32, 49, 10] : List UInt8) then ((rule_Holds.f k false 1 0 0 0 3 5 y636 0).bind fun t639 => (if t639 = true then ((rule_Holds.f k true 1 0 0 0 3 5 y636 0).bind fun t640 => (if t640 = true then (stockadelaw18_RuleKnown.j0 k y636 true) else ((rule_Holds.f k true 9 0 0 0 0 0 y636 0).bind fun t641 => (if t641 = true then (stockadelaw18_RuleKnown.j0 k y636 true) else ((rule_Holds.f k false 3 3 2 65535 0 65535 y636 0).bind fun t642 => (if t642 = true then (stockadelaw18_RuleKnown.j0 k y636 true) else ((rule_Holds.f k true 3 3 2 65535 0 65535 y636 0).bind fun t643 => (stockadelaw18_RuleKnown.j0 k y636 (!t643))))))))) else (stockadelaw18_RuleKnown.j0 k y636 true))) else (stockadelaw18_RuleKnown.j0 k y636 true)) else (stockadelaw18_RuleKnown.j0 k y636 true)))) = some r := by first | (rw [hy623]; with_reducible exact H) | (have H2_ := (Option.bind_some _ _).symm.trans H; rw [hy623]; with_reducible exact H2_) | (have H2_ := (Option.bind_some _ _).symm.trans H; with_reducible exact H2_) | with_reducible exact H | (rw [hy623]; exact H) | exact H
 have Ny623 := Aside0.mk hy623
 clear hy623
 obtain ⟨y626, hy626⟩ : ∃ y_ : List (S53), y_ = (([(⟨y623, 1⟩ : S53)] : List (S53))) := ⟨_, rfl⟩
 replace H : ((rule_Print.f k y626).bind fun bt629 => ((some (([1, 2, 3, 4] : List Int) : List Int)).bind fun y636 => (if bt629.2 = 0 then (if bt629.1.toList = ([117, 51, 50, 64, 50, 54, 47, 52, 50, 55, 56, 49, 57, 48, 48, 56, 48, 32, 49, 54, 55, 55, 55, 50, 49, 54, 48, 46, 46, 49, 54, 55, 55, 55, 50, 49, 54, 48, 32, 45, 62, 32, 49, 10] : List UInt8) then ((rule_Holds.f k false 1 0 0 0 3 5 y636 0).bind fun t639 => (if t639 = true then ((rule_Holds.f k true 1 0 0 0 3 5 y636 0).bind fun t640 => (if t640 = true then (stockadelaw18_RuleKnown.j0 k y636 true) else ((rule_Holds.f k true 9 0 0 0 0 0 y636 0).bind fun t641 => (if t641 = true then (stockadelaw18_RuleKnown.j0 k y636 true) else ((rule_Holds.f k false 3 3 2 65535 0 65535 y636 0).bind fun t642 => (if t642 = true then (stockadelaw18_RuleKnown.j0 k y636 true) else ((rule_Holds.f k true 3 3 2 65535 0 65535 y636 0).bind fun t643 => (stockadelaw18_RuleKnown.j0 k y636 (!t643))))))))) else (stockadelaw18_RuleKnown.j0 k y636 true))) else (stockadelaw18_RuleKnown.j0 k y636 true)) else (stockadelaw18_RuleKnown.j0 k y636 true)))) = some r := by first | (rw [hy626]; with_reducible exact H) | (have H2_ := (Option.bind_some _ _).symm.trans H; rw [hy626]; with_reducible exact H2_) | (have H2_ := (Option.bind_some _ _).symm.trans H; with_reducible exact H2_) | with_reducible exact H | (rw [hy626]; exact H) | exact H
 have Ny626 := Aside0.mk hy626
 clear hy626
 replace H := Option.bind_eq_some_iff.mp H; obtain ⟨⟨t629, t630⟩, A20, H⟩ := H; try dsimp only at H
 have A2 := Aside0.mk A20
 clear A20
 obtain ⟨y636, hy636⟩ : ∃ y_ : List Int, y_ = (([1, 2, 3, 4] : List Int)) := ⟨_, rfl⟩
 replace H : (if t630 = 0 then (if t629.toList = ([117, 51, 50, 64, 50, 54, 47, 52, 50, 55, 56, 49, 57, 48, 48, 56, 48, 32, 49, 54, 55, 55, 55, 50, 49, 54, 48, 46, 46, 49, 54, 55, 55, 55, 50, 49, 54, 48, 32, 45, 62, 32, 49, 10] : List UInt8) then ((rule_Holds.f k false 1 0 0 0 3 5 y636 0).bind fun t639 => (if t639 = true then ((rule_Holds.f k true 1 0 0 0 3 5 y636 0).bind fun t640 => (if t640 = true then (stockadelaw18_RuleKnown.j0 k y636 true) else ((rule_Holds.f k true 9 0 0 0 0 0 y636 0).bind fun t641 => (if t641 = true then (stockadelaw18_RuleKnown.j0 k y636 true) else ((rule_Holds.f k false 3 3 2 65535 0 65535 y636 0).bind fun t642 => (if t642 = true then (stockadelaw18_RuleKnown.j0 k y636 true) else ((rule_Holds.f k true 3 3 2 65535 0 65535 y636 0).bind fun t643 => (stockadelaw18_RuleKnown.j0 k y636 (!t643))))))))) else (stockadelaw18_RuleKnown.j0 k y636 true))) else (stockadelaw18_RuleKnown.j0 k y636 true)) else (stockadelaw18_RuleKnown.j0 k y636 true)) = some r := by first | (rw [hy636]; with_reducible exact H) | (have H2_ := (Option.bind_some _ _).symm.trans H; rw [hy636]; with_reducible exact H2_) | (have H2_ := (Option.bind_some _ _).symm.trans H; with_reducible exact H2_) | with_reducible exact H | (rw [hy636]; exact H) | exact H
 have Ny636 := Aside0.mk hy636
 clear hy636
 have HC3 := Aside0.mk H
 clear H
 go_enter Tryd.func9, Tryd.ntmps9
 go_upto_region 10 with (first | ((with_reducible refine gate_callee (f := 24) rfl ?_); refine sh_call (some 24) Tryd.func24 #[.agg #[.int .u8 10, .int .u8 1, .int .u8 2, .int .u8 3], .int .i64 8] ?_; (with_reducible refine (rule_Src.calls k () 8 t616 t617 t618 t619 t620 t621 t622 _ A1.out).mono ?_); rintro e w4 ⟨rfl, hb⟩; refine ⟨_, rfl, ?_⟩; replace HB := sh_b (w := w) hb; (try clear hb); (try clear hb2); (try clear hk); (try clear hi)) | ((with_reducible refine gate_dst (N := 25) rfl ?_); refine Kd.R_lit k50 _ 50 ?hg (N := 25) ?hd (xs := ([(⟨t616, t617, t618, t619, t620, t621, t622⟩ : S50)] : List (S50))) (inner := [.bool t616, .int .i64 t617, .int .i64 t618, .int .i64 t619, .int .u64 t620, .int .u64 t621, .int .u64 t622]) (ok := fun _ => True) (okp := fun _ => True) ?hr ?hp (fun _ hk => hk) trivial (Below.refl _ _) (Nat.le_refl _) (by simp) ?_; (case hd => rfl); (case hg => rfl); (case hr => first | (go_simp; done) | (go_simp; rfl)); (case hp => exact (Reps.c7 (show Kd.M k50 _ _ _ (⟨t616, t617, t618, t619, t620, t621, t622⟩ : S50) [.bool t616, .int .i64 t617, .int .i64 t618, .int .i64 t619, .int .u64 t620, .int .u64 t621, .int .u64 t622] from (k50_mkM _ _ _ (⟨t616, t617, t618, t619, t620, t621, t622⟩ : S50) )) (Reps.none _ _))); intro v624 w5 ho6 hb hg_ hnew_; clear hg_ hnew_; (first | rw [← Ny623.out] at ho6 | (simp only [Int.reduceToNat] at ho6; rw [← Ny623.out] at ho6)); have HO625 := Aside0.mk (Kd.R_lower ho6 (below_size b_now)); replace HB := sh_b (w := w) hb; clear hb ho6; obtain ⟨Ao7, co7, eo7⟩ := Kd.R_slice HO625.out; subst eo7) | ((with_reducible refine gate_dst (N := 27) rfl ?_); refine Kd.N_lit k53 _ 53 ?hg (N' := 27) ?hd (xs := ([(⟨y623, 1⟩ : S53)] : List (S53))) (inner := [.slice Ao7 y623.length co7, .int .u32 1]) (ok := (fun _ => True)) (okp := (fun _ => True)) ?hr ?hp (fun _ hk => hk) ((show ∀ k_, w5.heap.size ≤ k_ → (fun _ => True) k_ from fun k_ hk => trivial) _ (Nat.le_refl _)) (Below.refl _ _) (Nat.le_refl _) (by simp) ?_; (case hd => rfl); (case hg => rfl); (case hr => first | (go_simp; done) | (go_simp; rfl)); (case hp => exact (Reps.c2 (show Kd.FK k53 _ _ (⟨y623, 1⟩ : S53) [.slice Ao7 y623.length co7, .int .u32 1] from (k53_mkF _ _ (⟨y623, 1⟩ : S53) (Kd.R_reads' (Kd.R_mono (ok' := (fun _ => True)) (HO625.out) (fun k_ hk => trivial))).2.1 (Kd.R_F (Kd.R_mono (ok' := (fun _ => True)) (HO625.out) (fun k_ hk => trivial))))) (Reps.none _ _))); intro v627 w8 ho9 hb hg_ hnew_; clear hg_ hnew_; (first | rw [← Ny626.out] at ho9 | (simp only [Int.reduceToNat] at ho9; rw [← Ny626.out] at ho9)); have n0_ := Aside0.mk (Kd.N_lower ho9 (below_size b_now)); have n1_ := Aside0.mk (below_step b_now hb); clear HB; clear HO625; have HO628 := n0_; have HB := n1_; clear n0_ n1_; clear hb ho9; obtain ⟨Ao10, co10, eo10⟩ := Kd.N_slice HO628.out; subst eo10) | ((with_reducible refine gate_callee (f := 15) rfl ?_); refine sh_call (some 28) Tryd.func15 #[.slice Ao10 y626.length co10] ?_; (with_reducible refine (rule_Print.calls k _ _ y626 t629 t630 _ ?side1 ?side2 ?side3 A2.out).mono ?_); (case side1 => repeat (first | exact (Kd.N_reads' HO628.out).2.2 | (with_reducible refine Kd.C_alloc ?_ _) | (with_reducible refine Kd.C_drewN ?_ _) | (with_reducible refine Kd.C_drew ?_))); (case side2 => exact (Kd.N_reads' HO628.out).2.1); (case side3 => repeat (first | exact (Kd.C_below HRG0.out HB.out) | (with_reducible refine Kd.C_alloc ?_ _) | (with_reducible refine Kd.C_drewN ?_ _) | (with_reducible refine Kd.C_drew ?_))); rintro e w11 ⟨rfl, hb⟩; refine ⟨_, rfl, ?_⟩; replace HO628 := Aside0.mk (Kd.N_below (by (with_reducible repeat (first | apply Kd.N_alloc | apply Kd.N_drewN | apply Kd.N_drew)); exact HO628.out) hb); replace HB := sh_b (w := w) hb; (try clear hb); (try clear hb2); (try clear hk); (try clear hi)) | ((with_reducible refine gate_dst (N := 3) rfl ?_); refine sh_box 3 #[.bool false, .int .i64 0, .int .i64 0, .int .i64 0, .int .u64 0, .int .u64 0, .int .u64 0] 50 ?_; intro gb631 hg w12 hbox hb; have GE631 := sh_z (w := w) hg; replace HO628 := Aside0.mk (Kd.N_below (Kd.N_elderB (by (with_reducible repeat (first | apply Kd.N_alloc | apply Kd.N_drewN | apply Kd.N_drew)); exact HO628.out) gb631 (Nat.le_of_eq hg.symm)) hb); replace HB := sh_b (w := w) hb; have BK631 := Aside0.mk (hbox); clear hb hbox hg; have hcz13 := blk_all7 BK631.out) | ((with_reducible refine gate_dst (N := 4) rfl ?_); refine sh_box 4 #[.bool false, .int .i64 0, .int .i64 0, .int .i64 0, .int .u64 0, .int .u64 0, .int .u64 0] 50 ?_; intro gb632 hg w14 hbox hb; have GE632 := sh_z (w := w) hg; have NB631_632 := sh_n BK631 hg; have NB632_631 := sh_s NB631_632; replace HO628 := Aside0.mk (Kd.N_below (Kd.N_elderB (by (with_reducible repeat (first | apply Kd.N_alloc | apply Kd.N_drewN | apply Kd.N_drew)); exact (Kd.N_mono (Kd.N_far (p := ⟨gb631, 6, none⟩) (Kd.N_far (p := ⟨gb631, 5, none⟩) (Kd.N_far (p := ⟨gb631, 4, none⟩) (Kd.N_far (p := ⟨gb631, 3, none⟩) (Kd.N_far (p := ⟨gb631, 2, none⟩) (Kd.N_far (p := ⟨gb631, 1, none⟩) (Kd.N_far (p := ⟨gb631, 0, none⟩) (Kd.N_mono HO628.out (fun k_ hk => (⟨hk, hk.2⟩ : _ ∧ k_ ≠ gb631))) (fun _ hk => hk.2) (.bool false)) (fun _ hk => hk.2) (.int .i64 1)) (fun _ hk => hk.2) (.int .i64 0)) (fun _ hk => hk.2) (.int .i64 0)) (fun _ hk => hk.2) (.int .u64 0)) (fun _ hk => hk.2) (.int .u64 3)) (fun _ hk => hk.2) (.int .u64 5)) (fun _ h_ => h_.1))) gb632 (Nat.le_of_eq hg.symm)) hb); replace BK631 := sh_kp (g := gb631) (t := 50) #[.bool false, .int .i64 1, .int .i64 0, .int .i64 0, .int .u64 0, .int .u64 3, .int .u64 5] hb; replace HB := sh_b (w := w) hb; have BK632 := Aside0.mk (hbox); clear hb hbox hg; have hnb15 := NB632_631.out; have hnc15 := NB631_632.out; have hcz16 := blk_all7 BK632.out) | ((with_reducible refine gate_dst (N := 5) rfl ?_); refine sh_box 5 #[.bool false, .int .i64 0, .int .i64 0, .int .i64 0, .int .u64 0, .int .u64 0, .int .u64 0] 50 ?_; intro gb633 hg w17 hbox hb; have GE633 := sh_z (w := w) hg; have NB631_633 := sh_n BK631 hg; have NB632_633 := sh_n BK632 hg; have NB633_631 := sh_s NB631_633; have NB633_632 := sh_s NB632_633; replace HO628 := Aside0.mk (Kd.N_below (Kd.N_elderB (by (with_reducible repeat (first | apply Kd.N_alloc | apply Kd.N_drewN | apply Kd.N_drew)); exact (Kd.N_mono (Kd.N_far (p := ⟨gb632, 0, none⟩) (Kd.N_far (p := ⟨gb632, 6, none⟩) (Kd.N_far (p := ⟨gb632, 5, none⟩) (Kd.N_far (p := ⟨gb632, 4, none⟩) (Kd.N_far (p := ⟨gb632, 3, none⟩) (Kd.N_far (p := ⟨gb632, 2, none⟩) (Kd.N_far (p := ⟨gb632, 1, none⟩) (Kd.N_far (p := ⟨gb632, 0, none⟩) (Kd.N_mono HO628.out (fun k_ hk => (⟨hk, hk.2⟩ : _ ∧ k_ ≠ gb632))) (fun _ hk => hk.2) (.bool false)) (fun _ hk => hk.2) (.int .i64 1)) (fun _ hk => hk.2) (.int .i64 0)) (fun _ hk => hk.2) (.int .i64 0)) (fun _ hk => hk.2) (.int .u64 0)) (fun _ hk => hk.2) (.int .u64 3)) (fun _ hk => hk.2) (.int .u64 5)) (fun _ hk => hk.2) (.bool true)) (fun _ h_ => h_.1))) gb633 (Nat.le_of_eq hg.symm)) hb); replace BK631 := sh_kp (g := gb631) (t := 50) #[.bool false, .int .i64 1, .int .i64 0, .int .i64 0, .int .u64 0, .int .u64 3, .int .u64 5] hb; replace BK632 := sh_kp (g := gb632) (t := 50) #[.bool true, .int .i64 1, .int .i64 0, .int .i64 0, .int .u64 0, .int .u64 3, .int .u64 5] hb; replace HB := sh_b (w := w) hb; have BK633 := Aside0.mk (hbox); clear hb hbox hg; have hnb18 := NB633_631.out; have hnc18 := NB631_633.out; have hnb19 := NB633_632.out; have hnc19 := NB632_633.out; have hcz20 := blk_all7 BK633.out) | ((with_reducible refine gate_dst (N := 6) rfl ?_); refine sh_box 6 #[.bool false, .int .i64 0, .int .i64 0, .int .i64 0, .int .u64 0, .int .u64 0, .int .u64 0] 50 ?_; intro gb634 hg w21 hbox hb; have GE634 := sh_z (w := w) hg; have NB631_634 := sh_n BK631 hg; have NB632_634 := sh_n BK632 hg; have NB633_634 := sh_n BK633 hg; have NB634_631 := sh_s NB631_634; have NB634_632 := sh_s NB632_634; have NB634_633 := sh_s NB633_634; replace HO628 := Aside0.mk (Kd.N_below (Kd.N_elderB (by (with_reducible repeat (first | apply Kd.N_alloc | apply Kd.N_drewN | apply Kd.N_drew)); exact (Kd.N_mono (Kd.N_far (p := ⟨gb633, 6, none⟩) (Kd.N_far (p := ⟨gb633, 5, none⟩) (Kd.N_far (p := ⟨gb633, 4, none⟩) (Kd.N_far (p := ⟨gb633, 3, none⟩) (Kd.N_far (p := ⟨gb633, 2, none⟩) (Kd.N_far (p := ⟨gb633, 1, none⟩) (Kd.N_far (p := ⟨gb633, 0, none⟩) (Kd.N_mono HO628.out (fun k_ hk => (⟨hk, hk.2⟩ : _ ∧ k_ ≠ gb633))) (fun _ hk => hk.2) (.bool true)) (fun _ hk => hk.2) (.int .i64 9)) (fun _ hk => hk.2) (.int .i64 0)) (fun _ hk => hk.2) (.int .i64 0)) (fun _ hk => hk.2) (.int .u64 0)) (fun _ hk => hk.2) (.int .u64 0)) (fun _ hk => hk.2) (.int .u64 0)) (fun _ h_ => h_.1))) gb634 (Nat.le_of_eq hg.symm)) hb); replace BK631 := sh_kp (g := gb631) (t := 50) #[.bool false, .int .i64 1, .int .i64 0, .int .i64 0, .int .u64 0, .int .u64 3, .int .u64 5] hb; replace BK632 := sh_kp (g := gb632) (t := 50) #[.bool true, .int .i64 1, .int .i64 0, .int .i64 0, .int .u64 0, .int .u64 3, .int .u64 5] hb; replace BK633 := sh_kp (g := gb633) (t := 50) #[.bool true, .int .i64 9, .int .i64 0, .int .i64 0, .int .u64 0, .int .u64 0, .int .u64 0] hb; replace HB := sh_b (w := w) hb; have BK634 := Aside0.mk (hbox); clear hb hbox hg; have hnb22 := NB634_631.out; have hnc22 := NB631_634.out; have hnb23 := NB634_632.out; have hnc23 := NB632_634.out; have hnb24 := NB634_633.out; have hnc24 := NB633_634.out; have hcz25 := blk_all7 BK634.out) | ((with_reducible refine gate_dst (N := 7) rfl ?_); refine sh_box 7 #[.bool false, .int .i64 0, .int .i64 0, .int .i64 0, .int .u64 0, .int .u64 0, .int .u64 0] 50 ?_; intro gb635 hg w26 hbox hb; have GE635 := sh_z (w := w) hg; have NB631_635 := sh_n BK631 hg; have NB632_635 := sh_n BK632 hg; have NB633_635 := sh_n BK633 hg; have NB634_635 := sh_n BK634 hg; have NB635_631 := sh_s NB631_635; have NB635_632 := sh_s NB632_635; have NB635_633 := sh_s NB633_635; have NB635_634 := sh_s NB634_635; replace HO628 := Aside0.mk (Kd.N_below (Kd.N_elderB (by (with_reducible repeat (first | apply Kd.N_alloc | apply Kd.N_drewN | apply Kd.N_drew)); exact (Kd.N_mono (Kd.N_far (p := ⟨gb634, 6, none⟩) (Kd.N_far (p := ⟨gb634, 5, none⟩) (Kd.N_far (p := ⟨gb634, 4, none⟩) (Kd.N_far (p := ⟨gb634, 3, none⟩) (Kd.N_far (p := ⟨gb634, 2, none⟩) (Kd.N_far (p := ⟨gb634, 1, none⟩) (Kd.N_far (p := ⟨gb634, 0, none⟩) (Kd.N_mono HO628.out (fun k_ hk => (⟨hk, hk.2⟩ : _ ∧ k_ ≠ gb634))) (fun _ hk => hk.2) (.bool false)) (fun _ hk => hk.2) (.int .i64 3)) (fun _ hk => hk.2) (.int .i64 3)) (fun _ hk => hk.2) (.int .i64 2)) (fun _ hk => hk.2) (.int .u64 65535)) (fun _ hk => hk.2) (.int .u64 0)) (fun _ hk => hk.2) (.int .u64 65535)) (fun _ h_ => h_.1))) gb635 (Nat.le_of_eq hg.symm)) hb); replace BK631 := sh_kp (g := gb631) (t := 50) #[.bool false, .int .i64 1, .int .i64 0, .int .i64 0, .int .u64 0, .int .u64 3, .int .u64 5] hb; replace BK632 := sh_kp (g := gb632) (t := 50) #[.bool true, .int .i64 1, .int .i64 0, .int .i64 0, .int .u64 0, .int .u64 3, .int .u64 5] hb; replace BK633 := sh_kp (g := gb633) (t := 50) #[.bool true, .int .i64 9, .int .i64 0, .int .i64 0, .int .u64 0, .int .u64 0, .int .u64 0] hb; replace BK634 := sh_kp (g := gb634) (t := 50) #[.bool false, .int .i64 3, .int .i64 3, .int .i64 2, .int .u64 65535, .int .u64 0, .int .u64 65535] hb; replace HB := sh_b (w := w) hb; have BK635 := Aside0.mk (hbox); clear hb hbox hg; have hnb27 := NB635_631.out; have hnc27 := NB631_635.out; have hnb28 := NB635_632.out; have hnc28 := NB632_635.out; have hnb29 := NB635_633.out; have hnc29 := NB633_635.out; have hnb30 := NB635_634.out; have hnc30 := NB634_635.out; have hcz31 := blk_all7 BK635.out) | ((with_reducible refine gate_dst (N := 38) rfl ?_); refine Kd.R_lit (Kd.int .u8) _ 5 ?hg (N := 38) ?hd (xs := ([1, 2, 3, 4] : List Int)) (inner := [.int .u8 1, .int .u8 2, .int .u8 3, .int .u8 4]) (ok := fun _ => True) (okp := fun _ => True) ?hr ?hp (fun _ hk => hk) trivial (Below.refl _ _) (Nat.le_refl _) (by simp) ?_; (case hd => rfl); (case hg => rfl); (case hr => first | (go_simp; done) | (go_simp; rfl)); (case hp => exact (Reps.one (show Kd.M (Kd.int .u8) _ _ _ 1 [.int .u8 1] from rfl) (Reps.one (show Kd.M (Kd.int .u8) _ _ _ 2 [.int .u8 2] from rfl) (Reps.one (show Kd.M (Kd.int .u8) _ _ _ 3 [.int .u8 3] from rfl) (Reps.one (show Kd.M (Kd.int .u8) _ _ _ 4 [.int .u8 4] from rfl) (Reps.none _ _)))))); intro v637 w32 ho33 hb hg_ hnew_; clear hg_ hnew_; (first | rw [← Ny636.out] at ho33 | (simp only [Int.reduceToNat] at ho33; rw [← Ny636.out] at ho33)); have HO638 := Aside0.mk (Kd.R_lower ho33 (below_size b_now)); replace HO628 := Aside0.mk (Kd.N_elder' (by (with_reducible repeat (first | apply Kd.N_alloc | apply Kd.N_drewN | apply Kd.N_drew)); exact (Kd.N_mono (Kd.N_far (p := ⟨gb635, 0, none⟩) (Kd.N_far (p := ⟨gb635, 6, none⟩) (Kd.N_far (p := ⟨gb635, 5, none⟩) (Kd.N_far (p := ⟨gb635, 4, none⟩) (Kd.N_far (p := ⟨gb635, 3, none⟩) (Kd.N_far (p := ⟨gb635, 2, none⟩) (Kd.N_far (p := ⟨gb635, 1, none⟩) (Kd.N_far (p := ⟨gb635, 0, none⟩) (Kd.N_mono HO628.out (fun k_ hk => (⟨hk, hk.2⟩ : _ ∧ k_ ≠ gb635))) (fun _ hk => hk.2) (.bool false)) (fun _ hk => hk.2) (.int .i64 3)) (fun _ hk => hk.2) (.int .i64 3)) (fun _ hk => hk.2) (.int .i64 2)) (fun _ hk => hk.2) (.int .u64 65535)) (fun _ hk => hk.2) (.int .u64 0)) (fun _ hk => hk.2) (.int .u64 65535)) (fun _ hk => hk.2) (.bool true)) (fun _ h_ => h_.1))) (Kd.R_base ho33) hb); replace BK631 := sh_kp (g := gb631) (t := 50) #[.bool false, .int .i64 1, .int .i64 0, .int .i64 0, .int .u64 0, .int .u64 3, .int .u64 5] hb; replace BK632 := sh_kp (g := gb632) (t := 50) #[.bool true, .int .i64 1, .int .i64 0, .int .i64 0, .int .u64 0, .int .u64 3, .int .u64 5] hb; replace BK633 := sh_kp (g := gb633) (t := 50) #[.bool true, .int .i64 9, .int .i64 0, .int .i64 0, .int .u64 0, .int .u64 0, .int .u64 0] hb; replace BK634 := sh_kp (g := gb634) (t := 50) #[.bool false, .int .i64 3, .int .i64 3, .int .i64 2, .int .u64 65535, .int .u64 0, .int .u64 65535] hb; replace BK635 := sh_kp (g := gb635) (t := 50) #[.bool true, .int .i64 3, .int .i64 3, .int .i64 2, .int .u64 65535, .int .u64 0, .int .u64 65535] hb; replace HB := sh_b (w := w) hb; clear hb ho33))
 (try simp only [Act.put, List.setIfInBounds_toArray, List.set_cons_zero, List.set_cons_succ])
 go_cut [71] (fun v71 wc => ∃ (kq : Nat) (x71_2 : Bool), v71 = .bool x71_2 ∧ Aside0 (stockadelaw18_RuleKnown.j0 kq y636 x71_2 = some r) ∧ Aside0 (kq ≤ k) ∧ Aside0 (Kd.R (Kd.int .u8) 5 wc w.heap.size (fun _ => True) v637 y636) ∧ Aside0 (wc.heap[gb631]? = some (.cells #[.bool false, .int .i64 1, .int .i64 0, .int .i64 0, .int .u64 0, .int .u64 3, .int .u64 5] 50 (0, 0))) ∧ Aside0 (wc.heap[gb632]? = some (.cells #[.bool true, .int .i64 1, .int .i64 0, .int .i64 0, .int .u64 0, .int .u64 3, .int .u64 5] 50 (0, 0))) ∧ Aside0 (wc.heap[gb633]? = some (.cells #[.bool true, .int .i64 9, .int .i64 0, .int .i64 0, .int .u64 0, .int .u64 0, .int .u64 0] 50 (0, 0))) ∧ Aside0 (wc.heap[gb634]? = some (.cells #[.bool false, .int .i64 3, .int .i64 3, .int .i64 2, .int .u64 65535, .int .u64 0, .int .u64 65535] 50 (0, 0))) ∧ Aside0 (wc.heap[gb635]? = some (.cells #[.bool true, .int .i64 3, .int .i64 3, .int .i64 2, .int .u64 65535, .int .u64 0, .int .u64 65535] 50 (0, 0))) ∧ Aside0 (Below w.heap.size w wc))
 case first =>
  have H := HC3.out
  clear HC3
  by_cases c34 : t630 = 0
  ·rw [if_pos c34] at H
   have c34b0 : (t630 == 0) = true := beq_iff_eq.mpr c34
   have c34b1 : (t630 != 0) = false := bne_eq_false_iff_eq.mpr c34
   clear c34
   (first | rw [c34b0] | (simp only [i64_w, i32_w]; rw [c34b0]) | skip)
   by_cases c35 : t629.toList = ([117, 51, 50, 64, 50, 54, 47, 52, 50, 55, 56, 49, 57, 48, 48, 56, 48, 32, 49, 54, 55, 55, 55, 50, 49, 54, 48, 46, 46, 49, 54, 55, 55, 55, 50, 49, 54, 48, 32, 45, 62, 32, 49, 10] : List UInt8)
   ·rw [if_pos c35] at H
    have c35b0 : (t629.toList == ([117, 51, 50, 64, 50, 54, 47, 52, 50, 55, 56, 49, 57, 48, 48, 56, 48, 32, 49, 54, 55, 55, 55, 50, 49, 54, 48, 46, 46, 49, 54, 55, 55, 55, 50, 49, 54, 48, 32, 45, 62, 32, 49, 10] : List UInt8)) = true := beq_iff_eq.mpr c35
    have c35b1 : (t629.toList != ([117, 51, 50, 64, 50, 54, 47, 52, 50, 55, 56, 49, 57, 48, 48, 56, 48, 32, 49, 54, 55, 55, 55, 50, 49, 54, 48, 46, 46, 49, 54, 55, 55, 55, 50, 49, 54, 48, 32, 45, 62, 32, 49, 10] : List UInt8)) = false := bne_eq_false_iff_eq.mpr c35
    clear c35
    replace H := Option.bind_eq_some_iff.mp H; obtain ⟨t639, A360, H⟩ := H; try dsimp only at H
    have A36 := Aside0.mk A360
    clear A360
    by_cases c37 : t639 = true
    ·subst c37
     replace H := sh_t H
     replace H := Option.bind_eq_some_iff.mp H; obtain ⟨t640, A380, H⟩ := H; try dsimp only at H
     have A38 := Aside0.mk A380
     clear A380
     by_cases c39 : t640 = true
     ·subst c39
      replace H := sh_t H
      have H' := Aside0.mk H
      clear H
      have hnb40 := NB631_632.out
      have hnc40 := NB632_631.out
      have hnb41 := NB631_633.out
      have hnc41 := NB633_631.out
      have hnb42 := NB631_634.out
      have hnc42 := NB634_631.out
      have hnb43 := NB631_635.out
      have hnc43 := NB635_631.out
      have hcz44 := blk_all7 BK631.out
      obtain ⟨Ao45, co45, eo45⟩ := Kd.R_slice HO638.out
      subst eo45
      go_wp2_with (first | (go_at_call 20; (with_reducible refine (rule_Holds.calls k false 1 0 0 0 3 5 _ _ y636 0 true _ ?side1 ?side2 A36.out).mono ?_); (case side1 => repeat (first | exact (Kd.R_reads' HO638.out).2.2 | (with_reducible refine Kd.C_alloc ?_ _) | (with_reducible refine Kd.C_drewN ?_ _) | (with_reducible refine Kd.C_drew ?_))); (case side2 => exact (Kd.R_reads' HO638.out).2.1); rintro e w46 ⟨rfl, hb⟩; replace HO628 := Aside0.mk (Kd.N_below (by (with_reducible repeat (first | apply Kd.N_alloc | apply Kd.N_drewN | apply Kd.N_drew)); exact HO628.out) hb); replace HO638 := Aside0.mk (Kd.R_below (by (with_reducible repeat (first | apply Kd.R_alloc | apply Kd.R_drewN | apply Kd.R_drew)); exact HO638.out) hb); replace BK631 := sh_k BK631 hb; replace BK632 := sh_k BK632 hb; replace BK633 := sh_k BK633 hb; replace BK634 := sh_k BK634 hb; replace BK635 := sh_k BK635 hb; replace HB := sh_b (w := w) hb; (try clear hb); (try clear hb2); (try clear hk); (try clear hi); have hnb47 := NB632_633.out; have hnc47 := NB633_632.out; have hnb48 := NB632_634.out; have hnc48 := NB634_632.out; have hnb49 := NB632_635.out; have hnc49 := NB635_632.out; have hcz50 := blk_all7 BK632.out) | (go_at_call 20; (with_reducible refine (rule_Holds.calls k true 1 0 0 0 3 5 _ _ y636 0 true _ ?side1 ?side2 A38.out).mono ?_); (case side1 => repeat (first | exact (Kd.R_reads' HO638.out).2.2 | (with_reducible refine Kd.C_alloc ?_ _) | (with_reducible refine Kd.C_drewN ?_ _) | (with_reducible refine Kd.C_drew ?_))); (case side2 => exact (Kd.R_reads' HO638.out).2.1); rintro e w51 ⟨rfl, hb⟩; replace HO628 := Aside0.mk (Kd.N_below (by (with_reducible repeat (first | apply Kd.N_alloc | apply Kd.N_drewN | apply Kd.N_drew)); exact HO628.out) hb); replace HO638 := Aside0.mk (Kd.R_below (by (with_reducible repeat (first | apply Kd.R_alloc | apply Kd.R_drewN | apply Kd.R_drew)); exact HO638.out) hb); replace BK631 := sh_k BK631 hb; replace BK632 := sh_k BK632 hb; replace BK633 := sh_k BK633 hb; replace BK634 := sh_k BK634 hb; replace BK635 := sh_k BK635 hb; replace HB := sh_b (w := w) hb; (try clear hb); (try clear hb2); (try clear hk); (try clear hi)))
      go_meet
      case rel => exact ⟨_, (true), eq_now, H', ⟨by first | omega | exact Nat.le_refl _⟩, ⟨by (with_reducible repeat (first | apply Kd.R_alloc | apply Kd.R_drewN | apply Kd.R_drew)); exact HO638.out⟩, ⟨bk_now⟩, ⟨bk_now⟩, ⟨bk_now⟩, ⟨bk_now⟩, ⟨bk_now⟩, ⟨b_now⟩⟩
     ·replace c39 := Bool.eq_false_iff.mpr c39
      subst c39
      replace H := sh_f H
      replace H := Option.bind_eq_some_iff.mp H; obtain ⟨t641, A520, H⟩ := H; try dsimp only at H
      have A52 := Aside0.mk A520
      clear A520
      by_cases c53 : t641 = true
      ·subst c53
       replace H := sh_t H
       have H' := Aside0.mk H
       clear H
       have hnb54 := NB631_632.out
       have hnc54 := NB632_631.out
       have hnb55 := NB631_633.out
       have hnc55 := NB633_631.out
       have hnb56 := NB631_634.out
       have hnc56 := NB634_631.out
       have hnb57 := NB631_635.out
       have hnc57 := NB635_631.out
       have hcz58 := blk_all7 BK631.out
       obtain ⟨Ao59, co59, eo59⟩ := Kd.R_slice HO638.out
       subst eo59
       go_wp2_with (first | (go_at_call 20; (with_reducible refine (rule_Holds.calls k false 1 0 0 0 3 5 _ _ y636 0 true _ ?side1 ?side2 A36.out).mono ?_); (case side1 => repeat (first | exact (Kd.R_reads' HO638.out).2.2 | (with_reducible refine Kd.C_alloc ?_ _) | (with_reducible refine Kd.C_drewN ?_ _) | (with_reducible refine Kd.C_drew ?_))); (case side2 => exact (Kd.R_reads' HO638.out).2.1); rintro e w60 ⟨rfl, hb⟩; replace HO628 := Aside0.mk (Kd.N_below (by (with_reducible repeat (first | apply Kd.N_alloc | apply Kd.N_drewN | apply Kd.N_drew)); exact HO628.out) hb); replace HO638 := Aside0.mk (Kd.R_below (by (with_reducible repeat (first | apply Kd.R_alloc | apply Kd.R_drewN | apply Kd.R_drew)); exact HO638.out) hb); replace BK631 := sh_k BK631 hb; replace BK632 := sh_k BK632 hb; replace BK633 := sh_k BK633 hb; replace BK634 := sh_k BK634 hb; replace BK635 := sh_k BK635 hb; replace HB := sh_b (w := w) hb; (try clear hb); (try clear hb2); (try clear hk); (try clear hi); have hnb61 := NB632_633.out; have hnc61 := NB633_632.out; have hnb62 := NB632_634.out; have hnc62 := NB634_632.out; have hnb63 := NB632_635.out; have hnc63 := NB635_632.out; have hcz64 := blk_all7 BK632.out) | (go_at_call 20; (with_reducible refine (rule_Holds.calls k true 1 0 0 0 3 5 _ _ y636 0 false _ ?side1 ?side2 A38.out).mono ?_); (case side1 => repeat (first | exact (Kd.R_reads' HO638.out).2.2 | (with_reducible refine Kd.C_alloc ?_ _) | (with_reducible refine Kd.C_drewN ?_ _) | (with_reducible refine Kd.C_drew ?_))); (case side2 => exact (Kd.R_reads' HO638.out).2.1); rintro e w65 ⟨rfl, hb⟩; replace HO628 := Aside0.mk (Kd.N_below (by (with_reducible repeat (first | apply Kd.N_alloc | apply Kd.N_drewN | apply Kd.N_drew)); exact HO628.out) hb); replace HO638 := Aside0.mk (Kd.R_below (by (with_reducible repeat (first | apply Kd.R_alloc | apply Kd.R_drewN | apply Kd.R_drew)); exact HO638.out) hb); replace BK631 := sh_k BK631 hb; replace BK632 := sh_k BK632 hb; replace BK633 := sh_k BK633 hb; replace BK634 := sh_k BK634 hb; replace BK635 := sh_k BK635 hb; replace HB := sh_b (w := w) hb; (try clear hb); (try clear hb2); (try clear hk); (try clear hi); have hnb66 := NB633_634.out; have hnc66 := NB634_633.out; have hnb67 := NB633_635.out; have hnc67 := NB635_633.out; have hcz68 := blk_all7 BK633.out) | (go_at_call 20; (with_reducible refine (rule_Holds.calls k true 9 0 0 0 0 0 _ _ y636 0 true _ ?side1 ?side2 A52.out).mono ?_); (case side1 => repeat (first | exact (Kd.R_reads' HO638.out).2.2 | (with_reducible refine Kd.C_alloc ?_ _) | (with_reducible refine Kd.C_drewN ?_ _) | (with_reducible refine Kd.C_drew ?_))); (case side2 => exact (Kd.R_reads' HO638.out).2.1); rintro e w69 ⟨rfl, hb⟩; replace HO628 := Aside0.mk (Kd.N_below (by (with_reducible repeat (first | apply Kd.N_alloc | apply Kd.N_drewN | apply Kd.N_drew)); exact HO628.out) hb); replace HO638 := Aside0.mk (Kd.R_below (by (with_reducible repeat (first | apply Kd.R_alloc | apply Kd.R_drewN | apply Kd.R_drew)); exact HO638.out) hb); replace BK631 := sh_k BK631 hb; replace BK632 := sh_k BK632 hb; replace BK633 := sh_k BK633 hb; replace BK634 := sh_k BK634 hb; replace BK635 := sh_k BK635 hb; replace HB := sh_b (w := w) hb; (try clear hb); (try clear hb2); (try clear hk); (try clear hi)))
       go_meet
       case rel => exact ⟨_, (true), eq_now, H', ⟨by first | omega | exact Nat.le_refl _⟩, ⟨by (with_reducible repeat (first | apply Kd.R_alloc | apply Kd.R_drewN | apply Kd.R_drew)); exact HO638.out⟩, ⟨bk_now⟩, ⟨bk_now⟩, ⟨bk_now⟩, ⟨bk_now⟩, ⟨bk_now⟩, ⟨b_now⟩⟩
      ·replace c53 := Bool.eq_false_iff.mpr c53
       subst c53
       replace H := sh_f H
       replace H := Option.bind_eq_some_iff.mp H; obtain ⟨t642, A700, H⟩ := H; try dsimp only at H
       have A70 := Aside0.mk A700
       clear A700
       by_cases c71 : t642 = true
       ·subst c71
        replace H := sh_t H
        have H' := Aside0.mk H
        clear H
        have hnb72 := NB631_632.out
        have hnc72 := NB632_631.out
        have hnb73 := NB631_633.out
        have hnc73 := NB633_631.out
        have hnb74 := NB631_634.out
        have hnc74 := NB634_631.out
        have hnb75 := NB631_635.out
        have hnc75 := NB635_631.out
        have hcz76 := blk_all7 BK631.out
        obtain ⟨Ao77, co77, eo77⟩ := Kd.R_slice HO638.out
        subst eo77
        go_wp2_with (first | (go_at_call 20; (with_reducible refine (rule_Holds.calls k false 1 0 0 0 3 5 _ _ y636 0 true _ ?side1 ?side2 A36.out).mono ?_); (case side1 => repeat (first | exact (Kd.R_reads' HO638.out).2.2 | (with_reducible refine Kd.C_alloc ?_ _) | (with_reducible refine Kd.C_drewN ?_ _) | (with_reducible refine Kd.C_drew ?_))); (case side2 => exact (Kd.R_reads' HO638.out).2.1); rintro e w78 ⟨rfl, hb⟩; replace HO628 := Aside0.mk (Kd.N_below (by (with_reducible repeat (first | apply Kd.N_alloc | apply Kd.N_drewN | apply Kd.N_drew)); exact HO628.out) hb); replace HO638 := Aside0.mk (Kd.R_below (by (with_reducible repeat (first | apply Kd.R_alloc | apply Kd.R_drewN | apply Kd.R_drew)); exact HO638.out) hb); replace BK631 := sh_k BK631 hb; replace BK632 := sh_k BK632 hb; replace BK633 := sh_k BK633 hb; replace BK634 := sh_k BK634 hb; replace BK635 := sh_k BK635 hb; replace HB := sh_b (w := w) hb; (try clear hb); (try clear hb2); (try clear hk); (try clear hi); have hnb79 := NB632_633.out; have hnc79 := NB633_632.out; have hnb80 := NB632_634.out; have hnc80 := NB634_632.out; have hnb81 := NB632_635.out; have hnc81 := NB635_632.out; have hcz82 := blk_all7 BK632.out) | (go_at_call 20; (with_reducible refine (rule_Holds.calls k true 1 0 0 0 3 5 _ _ y636 0 false _ ?side1 ?side2 A38.out).mono ?_); (case side1 => repeat (first | exact (Kd.R_reads' HO638.out).2.2 | (with_reducible refine Kd.C_alloc ?_ _) | (with_reducible refine Kd.C_drewN ?_ _) | (with_reducible refine Kd.C_drew ?_))); (case side2 => exact (Kd.R_reads' HO638.out).2.1); rintro e w83 ⟨rfl, hb⟩; replace HO628 := Aside0.mk (Kd.N_below (by (with_reducible repeat (first | apply Kd.N_alloc | apply Kd.N_drewN | apply Kd.N_drew)); exact HO628.out) hb); replace HO638 := Aside0.mk (Kd.R_below (by (with_reducible repeat (first | apply Kd.R_alloc | apply Kd.R_drewN | apply Kd.R_drew)); exact HO638.out) hb); replace BK631 := sh_k BK631 hb; replace BK632 := sh_k BK632 hb; replace BK633 := sh_k BK633 hb; replace BK634 := sh_k BK634 hb; replace BK635 := sh_k BK635 hb; replace HB := sh_b (w := w) hb; (try clear hb); (try clear hb2); (try clear hk); (try clear hi); have hnb84 := NB633_634.out; have hnc84 := NB634_633.out; have hnb85 := NB633_635.out; have hnc85 := NB635_633.out; have hcz86 := blk_all7 BK633.out) | (go_at_call 20; (with_reducible refine (rule_Holds.calls k true 9 0 0 0 0 0 _ _ y636 0 false _ ?side1 ?side2 A52.out).mono ?_); (case side1 => repeat (first | exact (Kd.R_reads' HO638.out).2.2 | (with_reducible refine Kd.C_alloc ?_ _) | (with_reducible refine Kd.C_drewN ?_ _) | (with_reducible refine Kd.C_drew ?_))); (case side2 => exact (Kd.R_reads' HO638.out).2.1); rintro e w87 ⟨rfl, hb⟩; replace HO628 := Aside0.mk (Kd.N_below (by (with_reducible repeat (first | apply Kd.N_alloc | apply Kd.N_drewN | apply Kd.N_drew)); exact HO628.out) hb); replace HO638 := Aside0.mk (Kd.R_below (by (with_reducible repeat (first | apply Kd.R_alloc | apply Kd.R_drewN | apply Kd.R_drew)); exact HO638.out) hb); replace BK631 := sh_k BK631 hb; replace BK632 := sh_k BK632 hb; replace BK633 := sh_k BK633 hb; replace BK634 := sh_k BK634 hb; replace BK635 := sh_k BK635 hb; replace HB := sh_b (w := w) hb; (try clear hb); (try clear hb2); (try clear hk); (try clear hi); have hnb88 := NB634_635.out; have hnc88 := NB635_634.out; have hcz89 := blk_all7 BK634.out) | (go_at_call 20; (with_reducible refine (rule_Holds.calls k false 3 3 2 65535 0 65535 _ _ y636 0 true _ ?side1 ?side2 A70.out).mono ?_); (case side1 => repeat (first | exact (Kd.R_reads' HO638.out).2.2 | (with_reducible refine Kd.C_alloc ?_ _) | (with_reducible refine Kd.C_drewN ?_ _) | (with_reducible refine Kd.C_drew ?_))); (case side2 => exact (Kd.R_reads' HO638.out).2.1); rintro e w90 ⟨rfl, hb⟩; replace HO628 := Aside0.mk (Kd.N_below (by (with_reducible repeat (first | apply Kd.N_alloc | apply Kd.N_drewN | apply Kd.N_drew)); exact HO628.out) hb); replace HO638 := Aside0.mk (Kd.R_below (by (with_reducible repeat (first | apply Kd.R_alloc | apply Kd.R_drewN | apply Kd.R_drew)); exact HO638.out) hb); replace BK631 := sh_k BK631 hb; replace BK632 := sh_k BK632 hb; replace BK633 := sh_k BK633 hb; replace BK634 := sh_k BK634 hb; replace BK635 := sh_k BK635 hb; replace HB := sh_b (w := w) hb; (try clear hb); (try clear hb2); (try clear hk); (try clear hi)))
        go_meet
        case rel => exact ⟨_, (true), eq_now, H', ⟨by first | omega | exact Nat.le_refl _⟩, ⟨by (with_reducible repeat (first | apply Kd.R_alloc | apply Kd.R_drewN | apply Kd.R_drew)); exact HO638.out⟩, ⟨bk_now⟩, ⟨bk_now⟩, ⟨bk_now⟩, ⟨bk_now⟩, ⟨bk_now⟩, ⟨b_now⟩⟩
       ·replace c71 := Bool.eq_false_iff.mpr c71
        subst c71
        replace H := sh_f H
        replace H := Option.bind_eq_some_iff.mp H; obtain ⟨t643, A910, H⟩ := H; try dsimp only at H
        have A91 := Aside0.mk A910
        clear A910
        have H' := Aside0.mk H
        clear H
        have hnb92 := NB631_632.out
        have hnc92 := NB632_631.out
        have hnb93 := NB631_633.out
        have hnc93 := NB633_631.out
        have hnb94 := NB631_634.out
        have hnc94 := NB634_631.out
        have hnb95 := NB631_635.out
        have hnc95 := NB635_631.out
        have hcz96 := blk_all7 BK631.out
        obtain ⟨Ao97, co97, eo97⟩ := Kd.R_slice HO638.out
        subst eo97
        go_wp2_with (first | (go_at_call 20; (with_reducible refine (rule_Holds.calls k false 1 0 0 0 3 5 _ _ y636 0 true _ ?side1 ?side2 A36.out).mono ?_); (case side1 => repeat (first | exact (Kd.R_reads' HO638.out).2.2 | (with_reducible refine Kd.C_alloc ?_ _) | (with_reducible refine Kd.C_drewN ?_ _) | (with_reducible refine Kd.C_drew ?_))); (case side2 => exact (Kd.R_reads' HO638.out).2.1); rintro e w98 ⟨rfl, hb⟩; replace HO628 := Aside0.mk (Kd.N_below (by (with_reducible repeat (first | apply Kd.N_alloc | apply Kd.N_drewN | apply Kd.N_drew)); exact HO628.out) hb); replace HO638 := Aside0.mk (Kd.R_below (by (with_reducible repeat (first | apply Kd.R_alloc | apply Kd.R_drewN | apply Kd.R_drew)); exact HO638.out) hb); replace BK631 := sh_k BK631 hb; replace BK632 := sh_k BK632 hb; replace BK633 := sh_k BK633 hb; replace BK634 := sh_k BK634 hb; replace BK635 := sh_k BK635 hb; replace HB := sh_b (w := w) hb; (try clear hb); (try clear hb2); (try clear hk); (try clear hi); have hnb99 := NB632_633.out; have hnc99 := NB633_632.out; have hnb100 := NB632_634.out; have hnc100 := NB634_632.out; have hnb101 := NB632_635.out; have hnc101 := NB635_632.out; have hcz102 := blk_all7 BK632.out) | (go_at_call 20; (with_reducible refine (rule_Holds.calls k true 1 0 0 0 3 5 _ _ y636 0 false _ ?side1 ?side2 A38.out).mono ?_); (case side1 => repeat (first | exact (Kd.R_reads' HO638.out).2.2 | (with_reducible refine Kd.C_alloc ?_ _) | (with_reducible refine Kd.C_drewN ?_ _) | (with_reducible refine Kd.C_drew ?_))); (case side2 => exact (Kd.R_reads' HO638.out).2.1); rintro e w103 ⟨rfl, hb⟩; replace HO628 := Aside0.mk (Kd.N_below (by (with_reducible repeat (first | apply Kd.N_alloc | apply Kd.N_drewN | apply Kd.N_drew)); exact HO628.out) hb); replace HO638 := Aside0.mk (Kd.R_below (by (with_reducible repeat (first | apply Kd.R_alloc | apply Kd.R_drewN | apply Kd.R_drew)); exact HO638.out) hb); replace BK631 := sh_k BK631 hb; replace BK632 := sh_k BK632 hb; replace BK633 := sh_k BK633 hb; replace BK634 := sh_k BK634 hb; replace BK635 := sh_k BK635 hb; replace HB := sh_b (w := w) hb; (try clear hb); (try clear hb2); (try clear hk); (try clear hi); have hnb104 := NB633_634.out; have hnc104 := NB634_633.out; have hnb105 := NB633_635.out; have hnc105 := NB635_633.out; have hcz106 := blk_all7 BK633.out) | (go_at_call 20; (with_reducible refine (rule_Holds.calls k true 9 0 0 0 0 0 _ _ y636 0 false _ ?side1 ?side2 A52.out).mono ?_); (case side1 => repeat (first | exact (Kd.R_reads' HO638.out).2.2 | (with_reducible refine Kd.C_alloc ?_ _) | (with_reducible refine Kd.C_drewN ?_ _) | (with_reducible refine Kd.C_drew ?_))); (case side2 => exact (Kd.R_reads' HO638.out).2.1); rintro e w107 ⟨rfl, hb⟩; replace HO628 := Aside0.mk (Kd.N_below (by (with_reducible repeat (first | apply Kd.N_alloc | apply Kd.N_drewN | apply Kd.N_drew)); exact HO628.out) hb); replace HO638 := Aside0.mk (Kd.R_below (by (with_reducible repeat (first | apply Kd.R_alloc | apply Kd.R_drewN | apply Kd.R_drew)); exact HO638.out) hb); replace BK631 := sh_k BK631 hb; replace BK632 := sh_k BK632 hb; replace BK633 := sh_k BK633 hb; replace BK634 := sh_k BK634 hb; replace BK635 := sh_k BK635 hb; replace HB := sh_b (w := w) hb; (try clear hb); (try clear hb2); (try clear hk); (try clear hi); have hnb108 := NB634_635.out; have hnc108 := NB635_634.out; have hcz109 := blk_all7 BK634.out) | (go_at_call 20; (with_reducible refine (rule_Holds.calls k false 3 3 2 65535 0 65535 _ _ y636 0 false _ ?side1 ?side2 A70.out).mono ?_); (case side1 => repeat (first | exact (Kd.R_reads' HO638.out).2.2 | (with_reducible refine Kd.C_alloc ?_ _) | (with_reducible refine Kd.C_drewN ?_ _) | (with_reducible refine Kd.C_drew ?_))); (case side2 => exact (Kd.R_reads' HO638.out).2.1); rintro e w110 ⟨rfl, hb⟩; replace HO628 := Aside0.mk (Kd.N_below (by (with_reducible repeat (first | apply Kd.N_alloc | apply Kd.N_drewN | apply Kd.N_drew)); exact HO628.out) hb); replace HO638 := Aside0.mk (Kd.R_below (by (with_reducible repeat (first | apply Kd.R_alloc | apply Kd.R_drewN | apply Kd.R_drew)); exact HO638.out) hb); replace BK631 := sh_k BK631 hb; replace BK632 := sh_k BK632 hb; replace BK633 := sh_k BK633 hb; replace BK634 := sh_k BK634 hb; replace BK635 := sh_k BK635 hb; replace HB := sh_b (w := w) hb; (try clear hb); (try clear hb2); (try clear hk); (try clear hi); have hcz111 := blk_all7 BK635.out) | (go_at_call 20; (with_reducible refine (rule_Holds.calls k true 3 3 2 65535 0 65535 _ _ y636 0 t643 _ ?side1 ?side2 A91.out).mono ?_); (case side1 => repeat (first | exact (Kd.R_reads' HO638.out).2.2 | (with_reducible refine Kd.C_alloc ?_ _) | (with_reducible refine Kd.C_drewN ?_ _) | (with_reducible refine Kd.C_drew ?_))); (case side2 => exact (Kd.R_reads' HO638.out).2.1); rintro e w112 ⟨rfl, hb⟩; replace HO628 := Aside0.mk (Kd.N_below (by (with_reducible repeat (first | apply Kd.N_alloc | apply Kd.N_drewN | apply Kd.N_drew)); exact HO628.out) hb); replace HO638 := Aside0.mk (Kd.R_below (by (with_reducible repeat (first | apply Kd.R_alloc | apply Kd.R_drewN | apply Kd.R_drew)); exact HO638.out) hb); replace BK631 := sh_k BK631 hb; replace BK632 := sh_k BK632 hb; replace BK633 := sh_k BK633 hb; replace BK634 := sh_k BK634 hb; replace BK635 := sh_k BK635 hb; replace HB := sh_b (w := w) hb; (try clear hb); (try clear hb2); (try clear hk); (try clear hi)))
        go_meet
        case rel => exact ⟨_, (!t643), eq_now, H', ⟨by first | omega | exact Nat.le_refl _⟩, ⟨by (with_reducible repeat (first | apply Kd.R_alloc | apply Kd.R_drewN | apply Kd.R_drew)); exact HO638.out⟩, ⟨bk_now⟩, ⟨bk_now⟩, ⟨bk_now⟩, ⟨bk_now⟩, ⟨bk_now⟩, ⟨b_now⟩⟩
    ·replace c37 := Bool.eq_false_iff.mpr c37
     subst c37
     replace H := sh_f H
     have H' := Aside0.mk H
     clear H
     have hnb113 := NB631_632.out
     have hnc113 := NB632_631.out
     have hnb114 := NB631_633.out
     have hnc114 := NB633_631.out
     have hnb115 := NB631_634.out
     have hnc115 := NB634_631.out
     have hnb116 := NB631_635.out
     have hnc116 := NB635_631.out
     have hcz117 := blk_all7 BK631.out
     obtain ⟨Ao118, co118, eo118⟩ := Kd.R_slice HO638.out
     subst eo118
     go_wp2_with (first | (go_at_call 20; (with_reducible refine (rule_Holds.calls k false 1 0 0 0 3 5 _ _ y636 0 false _ ?side1 ?side2 A36.out).mono ?_); (case side1 => repeat (first | exact (Kd.R_reads' HO638.out).2.2 | (with_reducible refine Kd.C_alloc ?_ _) | (with_reducible refine Kd.C_drewN ?_ _) | (with_reducible refine Kd.C_drew ?_))); (case side2 => exact (Kd.R_reads' HO638.out).2.1); rintro e w119 ⟨rfl, hb⟩; replace HO628 := Aside0.mk (Kd.N_below (by (with_reducible repeat (first | apply Kd.N_alloc | apply Kd.N_drewN | apply Kd.N_drew)); exact HO628.out) hb); replace HO638 := Aside0.mk (Kd.R_below (by (with_reducible repeat (first | apply Kd.R_alloc | apply Kd.R_drewN | apply Kd.R_drew)); exact HO638.out) hb); replace BK631 := sh_k BK631 hb; replace BK632 := sh_k BK632 hb; replace BK633 := sh_k BK633 hb; replace BK634 := sh_k BK634 hb; replace BK635 := sh_k BK635 hb; replace HB := sh_b (w := w) hb; (try clear hb); (try clear hb2); (try clear hk); (try clear hi)))
     go_meet
     case rel => exact ⟨_, (true), eq_now, H', ⟨by first | omega | exact Nat.le_refl _⟩, ⟨by (with_reducible repeat (first | apply Kd.R_alloc | apply Kd.R_drewN | apply Kd.R_drew)); exact HO638.out⟩, ⟨bk_now⟩, ⟨bk_now⟩, ⟨bk_now⟩, ⟨bk_now⟩, ⟨bk_now⟩, ⟨b_now⟩⟩
   ·rw [if_neg c35] at H
    have c35b0 : (t629.toList == ([117, 51, 50, 64, 50, 54, 47, 52, 50, 55, 56, 49, 57, 48, 48, 56, 48, 32, 49, 54, 55, 55, 55, 50, 49, 54, 48, 46, 46, 49, 54, 55, 55, 55, 50, 49, 54, 48, 32, 45, 62, 32, 49, 10] : List UInt8)) = false := beq_eq_false_iff_ne.mpr c35
    have c35b1 : (t629.toList != ([117, 51, 50, 64, 50, 54, 47, 52, 50, 55, 56, 49, 57, 48, 48, 56, 48, 32, 49, 54, 55, 55, 55, 50, 49, 54, 48, 46, 46, 49, 54, 55, 55, 55, 50, 49, 54, 48, 32, 45, 62, 32, 49, 10] : List UInt8)) = true := bne_iff_ne.mpr c35
    have H' := Aside0.mk H
    clear H
    go_wp2
    go_meet
    case rel => exact ⟨_, (true), eq_now, H', ⟨by first | omega | exact Nat.le_refl _⟩, ⟨by (with_reducible repeat (first | apply Kd.R_alloc | apply Kd.R_drewN | apply Kd.R_drew)); exact HO638.out⟩, ⟨bk_now⟩, ⟨bk_now⟩, ⟨bk_now⟩, ⟨bk_now⟩, ⟨bk_now⟩, ⟨b_now⟩⟩
  ·rw [if_neg c34] at H
   have c34b0 : (t630 == 0) = false := beq_eq_false_iff_ne.mpr c34
   have c34b1 : (t630 != 0) = true := bne_iff_ne.mpr c34
   (first | rw [c34b0] | (simp only [i64_w, i32_w]; rw [c34b0]) | skip)
   have H' := Aside0.mk H
   clear H
   go_wp2
   go_meet
   case rel => exact ⟨_, (true), eq_now, H', ⟨by first | omega | exact Nat.le_refl _⟩, ⟨by (with_reducible repeat (first | apply Kd.R_alloc | apply Kd.R_drewN | apply Kd.R_drew)); exact HO638.out⟩, ⟨bk_now⟩, ⟨bk_now⟩, ⟨bk_now⟩, ⟨bk_now⟩, ⟨bk_now⟩, ⟨b_now⟩⟩
 case rest =>
  clear HC3
  try clear c1
  try clear c2
  try clear p2
  try clear c3
  try clear c4
  try clear c5
  try clear c6
  try clear c7
  try clear c8
  try clear c9
  try clear c10
  try clear c11
  try clear c15
  try clear c18
  try clear c19
  try clear c22
  try clear c23
  try clear c24
  try clear c27
  try clear c28
  try clear c29
  try clear c30
  try clear c34
  try clear c34b0
  try clear c34b1
  try clear c35
  try clear c35b0
  try clear c35b1
  try clear c37
  try clear c39
  try clear c40
  try clear c41
  try clear c42
  try clear c43
  try clear c47
  try clear c48
  try clear c49
  try clear c53
  try clear c54
  try clear c55
  try clear c56
  try clear c57
  try clear c61
  try clear c62
  try clear c63
  try clear c66
  try clear c67
  try clear c71
  try clear c72
  try clear c73
  try clear c74
  try clear c75
  try clear c79
  try clear c80
  try clear c81
  try clear c84
  try clear c85
  try clear c88
  try clear c92
  try clear c93
  try clear c94
  try clear c95
  try clear c99
  try clear c100
  try clear c101
  try clear c104
  try clear c105
  try clear c108
  try clear c113
  try clear c114
  try clear c115
  try clear c116
  try clear hcz102
  try clear hcz106
  try clear hcz109
  try clear hcz111
  try clear hcz117
  try clear hcz13
  try clear hcz16
  try clear hcz20
  try clear hcz25
  try clear hcz31
  try clear hcz44
  try clear hcz50
  try clear hcz58
  try clear hcz64
  try clear hcz68
  try clear hcz76
  try clear hcz82
  try clear hcz86
  try clear hcz89
  try clear hcz96
  obtain ⟨kq, x71_2, rfl, HA, HJ2, HO_8, BK631, BK632, BK633, BK634, BK635, HB⟩ := hcut
  cases kq with
  | zero => exact absurd HA.out (by simp [stockadelaw18_RuleKnown.j0])
  | succ kj2 =>
   have H := HA.out
   clear HA
   simp only [stockadelaw18_RuleKnown.j0] at H
   by_cases c120 : x71_2 = true
   ·subst c120
    replace H := sh_t H
    obtain rfl := Option.some.inj H
    exact absurd HRT.out (by simp)
   ·replace c120 := Bool.eq_false_iff.mpr c120
    subst c120
    replace H := sh_f H
    obtain ⟨y644, hy644⟩ : ∃ y_ : List ByteArray, y_ = (([(⟨#[97, 110, 121, 32, 45, 62, 32, 48, 49, 10]⟩ : ByteArray), (⟨#[108, 101, 110, 32, 53, 46, 46, 51, 32, 45, 62, 32, 49, 10]⟩ : ByteArray), (⟨#[97, 110, 121, 32, 45, 62, 32, 49]⟩ : ByteArray), (⟨#[97, 110, 121, 45, 62, 49, 10]⟩ : ByteArray), (⟨#[108, 101, 110, 32, 49, 46, 46, 50, 44, 32, 97, 110, 121, 32, 45, 62, 32, 49, 10]⟩ : ByteArray), (⟨#[117, 49, 54, 64, 50, 53, 54, 32, 48, 46, 46, 49, 32, 45, 62, 32, 49, 10]⟩ : ByteArray), (⟨#[117, 50, 52, 64, 48, 32, 48, 46, 46, 49, 32, 45, 62, 32, 49, 10]⟩ : ByteArray), (⟨#[117, 56, 64, 48, 47, 50, 53, 53, 32, 48, 46, 46, 49, 32, 45, 62, 32, 49, 10]⟩ : ByteArray), (⟨#[117, 56, 64, 48, 47, 48, 32, 48, 46, 46, 49, 32, 45, 62, 32, 49, 10]⟩ : ByteArray), (⟨#[117, 56, 64, 48, 32, 48, 46, 46, 50, 53, 54, 32, 45, 62, 32, 49, 10]⟩ : ByteArray), (⟨#[105, 110, 32, 48, 46, 46, 52, 50, 57, 52, 57, 54, 55, 50, 57, 54, 32, 45, 62, 32, 49, 10]⟩ : ByteArray), (⟨#[97, 110, 121, 32, 45, 62, 32, 52, 50, 57, 52, 57, 54, 55, 50, 57, 54, 10]⟩ : ByteArray), (⟨#[110, 111, 116, 32, 110, 111, 116, 32, 108, 101, 110, 32, 48, 46, 46, 49, 32, 45, 62, 32, 49, 10]⟩ : ByteArray), (⟨#[10]⟩ : ByteArray)] : List ByteArray)) := ⟨_, rfl⟩
    replace H : (stockadelaw18_RuleKnown.l0 kj2 y636 y644 (y644.length : Int) 0) = some r := by first | (rw [hy644]; with_reducible exact H) | (have H2_ := (Option.bind_some _ _).symm.trans H; rw [hy644]; with_reducible exact H2_) | (have H2_ := (Option.bind_some _ _).symm.trans H; with_reducible exact H2_) | with_reducible exact H | (rw [hy644]; exact H) | exact H
    have Ny644 := Aside0.mk hy644
    clear hy644
    have H' := Aside0.mk H
    clear H
    go_wp2_with (first | ((with_reducible refine gate_dst (N := 72) rfl ?_); refine Kd.R_lit Kd.string _ 9 ?hg (N := 72) ?hd (xs := ([(⟨#[97, 110, 121, 32, 45, 62, 32, 48, 49, 10]⟩ : ByteArray), (⟨#[108, 101, 110, 32, 53, 46, 46, 51, 32, 45, 62, 32, 49, 10]⟩ : ByteArray), (⟨#[97, 110, 121, 32, 45, 62, 32, 49]⟩ : ByteArray), (⟨#[97, 110, 121, 45, 62, 49, 10]⟩ : ByteArray), (⟨#[108, 101, 110, 32, 49, 46, 46, 50, 44, 32, 97, 110, 121, 32, 45, 62, 32, 49, 10]⟩ : ByteArray), (⟨#[117, 49, 54, 64, 50, 53, 54, 32, 48, 46, 46, 49, 32, 45, 62, 32, 49, 10]⟩ : ByteArray), (⟨#[117, 50, 52, 64, 48, 32, 48, 46, 46, 49, 32, 45, 62, 32, 49, 10]⟩ : ByteArray), (⟨#[117, 56, 64, 48, 47, 50, 53, 53, 32, 48, 46, 46, 49, 32, 45, 62, 32, 49, 10]⟩ : ByteArray), (⟨#[117, 56, 64, 48, 47, 48, 32, 48, 46, 46, 49, 32, 45, 62, 32, 49, 10]⟩ : ByteArray), (⟨#[117, 56, 64, 48, 32, 48, 46, 46, 50, 53, 54, 32, 45, 62, 32, 49, 10]⟩ : ByteArray), (⟨#[105, 110, 32, 48, 46, 46, 52, 50, 57, 52, 57, 54, 55, 50, 57, 54, 32, 45, 62, 32, 49, 10]⟩ : ByteArray), (⟨#[97, 110, 121, 32, 45, 62, 32, 52, 50, 57, 52, 57, 54, 55, 50, 57, 54, 10]⟩ : ByteArray), (⟨#[110, 111, 116, 32, 110, 111, 116, 32, 108, 101, 110, 32, 48, 46, 46, 49, 32, 45, 62, 32, 49, 10]⟩ : ByteArray), (⟨#[10]⟩ : ByteArray)] : List ByteArray)) (inner := [.string (⟨#[97, 110, 121, 32, 45, 62, 32, 48, 49, 10]⟩ : ByteArray), .string (⟨#[108, 101, 110, 32, 53, 46, 46, 51, 32, 45, 62, 32, 49, 10]⟩ : ByteArray), .string (⟨#[97, 110, 121, 32, 45, 62, 32, 49]⟩ : ByteArray), .string (⟨#[97, 110, 121, 45, 62, 49, 10]⟩ : ByteArray), .string (⟨#[108, 101, 110, 32, 49, 46, 46, 50, 44, 32, 97, 110, 121, 32, 45, 62, 32, 49, 10]⟩ : ByteArray), .string (⟨#[117, 49, 54, 64, 50, 53, 54, 32, 48, 46, 46, 49, 32, 45, 62, 32, 49, 10]⟩ : ByteArray), .string (⟨#[117, 50, 52, 64, 48, 32, 48, 46, 46, 49, 32, 45, 62, 32, 49, 10]⟩ : ByteArray), .string (⟨#[117, 56, 64, 48, 47, 50, 53, 53, 32, 48, 46, 46, 49, 32, 45, 62, 32, 49, 10]⟩ : ByteArray), .string (⟨#[117, 56, 64, 48, 47, 48, 32, 48, 46, 46, 49, 32, 45, 62, 32, 49, 10]⟩ : ByteArray), .string (⟨#[117, 56, 64, 48, 32, 48, 46, 46, 50, 53, 54, 32, 45, 62, 32, 49, 10]⟩ : ByteArray), .string (⟨#[105, 110, 32, 48, 46, 46, 52, 50, 57, 52, 57, 54, 55, 50, 57, 54, 32, 45, 62, 32, 49, 10]⟩ : ByteArray), .string (⟨#[97, 110, 121, 32, 45, 62, 32, 52, 50, 57, 52, 57, 54, 55, 50, 57, 54, 10]⟩ : ByteArray), .string (⟨#[110, 111, 116, 32, 110, 111, 116, 32, 108, 101, 110, 32, 48, 46, 46, 49, 32, 45, 62, 32, 49, 10]⟩ : ByteArray), .string (⟨#[10]⟩ : ByteArray)]) (ok := fun _ => True) (okp := fun _ => True) ?hr ?hp (fun _ hk => hk) trivial (Below.refl _ _) (Nat.le_refl _) (by simp) ?_; (case hd => rfl); (case hg => rfl); (case hr => first | (go_simp; done) | (go_simp; rfl)); (case hp => exact (Reps.one (show Kd.M Kd.string _ _ _ (⟨#[97, 110, 121, 32, 45, 62, 32, 48, 49, 10]⟩ : ByteArray) [.string (⟨#[97, 110, 121, 32, 45, 62, 32, 48, 49, 10]⟩ : ByteArray)] from rfl) (Reps.one (show Kd.M Kd.string _ _ _ (⟨#[108, 101, 110, 32, 53, 46, 46, 51, 32, 45, 62, 32, 49, 10]⟩ : ByteArray) [.string (⟨#[108, 101, 110, 32, 53, 46, 46, 51, 32, 45, 62, 32, 49, 10]⟩ : ByteArray)] from rfl) (Reps.one (show Kd.M Kd.string _ _ _ (⟨#[97, 110, 121, 32, 45, 62, 32, 49]⟩ : ByteArray) [.string (⟨#[97, 110, 121, 32, 45, 62, 32, 49]⟩ : ByteArray)] from rfl) (Reps.one (show Kd.M Kd.string _ _ _ (⟨#[97, 110, 121, 45, 62, 49, 10]⟩ : ByteArray) [.string (⟨#[97, 110, 121, 45, 62, 49, 10]⟩ : ByteArray)] from rfl) (Reps.one (show Kd.M Kd.string _ _ _ (⟨#[108, 101, 110, 32, 49, 46, 46, 50, 44, 32, 97, 110, 121, 32, 45, 62, 32, 49, 10]⟩ : ByteArray) [.string (⟨#[108, 101, 110, 32, 49, 46, 46, 50, 44, 32, 97, 110, 121, 32, 45, 62, 32, 49, 10]⟩ : ByteArray)] from rfl) (Reps.one (show Kd.M Kd.string _ _ _ (⟨#[117, 49, 54, 64, 50, 53, 54, 32, 48, 46, 46, 49, 32, 45, 62, 32, 49, 10]⟩ : ByteArray) [.string (⟨#[117, 49, 54, 64, 50, 53, 54, 32, 48, 46, 46, 49, 32, 45, 62, 32, 49, 10]⟩ : ByteArray)] from rfl) (Reps.one (show Kd.M Kd.string _ _ _ (⟨#[117, 50, 52, 64, 48, 32, 48, 46, 46, 49, 32, 45, 62, 32, 49, 10]⟩ : ByteArray) [.string (⟨#[117, 50, 52, 64, 48, 32, 48, 46, 46, 49, 32, 45, 62, 32, 49, 10]⟩ : ByteArray)] from rfl) (Reps.one (show Kd.M Kd.string _ _ _ (⟨#[117, 56, 64, 48, 47, 50, 53, 53, 32, 48, 46, 46, 49, 32, 45, 62, 32, 49, 10]⟩ : ByteArray) [.string (⟨#[117, 56, 64, 48, 47, 50, 53, 53, 32, 48, 46, 46, 49, 32, 45, 62, 32, 49, 10]⟩ : ByteArray)] from rfl) (Reps.one (show Kd.M Kd.string _ _ _ (⟨#[117, 56, 64, 48, 47, 48, 32, 48, 46, 46, 49, 32, 45, 62, 32, 49, 10]⟩ : ByteArray) [.string (⟨#[117, 56, 64, 48, 47, 48, 32, 48, 46, 46, 49, 32, 45, 62, 32, 49, 10]⟩ : ByteArray)] from rfl) (Reps.one (show Kd.M Kd.string _ _ _ (⟨#[117, 56, 64, 48, 32, 48, 46, 46, 50, 53, 54, 32, 45, 62, 32, 49, 10]⟩ : ByteArray) [.string (⟨#[117, 56, 64, 48, 32, 48, 46, 46, 50, 53, 54, 32, 45, 62, 32, 49, 10]⟩ : ByteArray)] from rfl) (Reps.one (show Kd.M Kd.string _ _ _ (⟨#[105, 110, 32, 48, 46, 46, 52, 50, 57, 52, 57, 54, 55, 50, 57, 54, 32, 45, 62, 32, 49, 10]⟩ : ByteArray) [.string (⟨#[105, 110, 32, 48, 46, 46, 52, 50, 57, 52, 57, 54, 55, 50, 57, 54, 32, 45, 62, 32, 49, 10]⟩ : ByteArray)] from rfl) (Reps.one (show Kd.M Kd.string _ _ _ (⟨#[97, 110, 121, 32, 45, 62, 32, 52, 50, 57, 52, 57, 54, 55, 50, 57, 54, 10]⟩ : ByteArray) [.string (⟨#[97, 110, 121, 32, 45, 62, 32, 52, 50, 57, 52, 57, 54, 55, 50, 57, 54, 10]⟩ : ByteArray)] from rfl) (Reps.one (show Kd.M Kd.string _ _ _ (⟨#[110, 111, 116, 32, 110, 111, 116, 32, 108, 101, 110, 32, 48, 46, 46, 49, 32, 45, 62, 32, 49, 10]⟩ : ByteArray) [.string (⟨#[110, 111, 116, 32, 110, 111, 116, 32, 108, 101, 110, 32, 48, 46, 46, 49, 32, 45, 62, 32, 49, 10]⟩ : ByteArray)] from rfl) (Reps.one (show Kd.M Kd.string _ _ _ (⟨#[10]⟩ : ByteArray) [.string (⟨#[10]⟩ : ByteArray)] from rfl) (Reps.none _ _)))))))))))))))); intro v645 w121 ho122 hb hg_ hnew_; clear hg_ hnew_; (first | rw [← Ny644.out] at ho122 | (simp only [Int.reduceToNat] at ho122; rw [← Ny644.out] at ho122)); have HO646 := Aside0.mk (Kd.R_lower ho122 (below_size b_now)); replace HO_8 := Aside0.mk (Kd.R_below (by (with_reducible repeat (first | apply Kd.R_alloc | apply Kd.R_drewN | apply Kd.R_drew)); exact HO_8.out) hb); replace BK631 := sh_k BK631 hb; replace BK632 := sh_k BK632 hb; replace BK633 := sh_k BK633 hb; replace BK634 := sh_k BK634 hb; replace BK635 := sh_k BK635 hb; replace HB := sh_b (w := w) hb; clear hb ho122; obtain ⟨Ao123, co123, eo123⟩ := Kd.R_slice HO646.out; subst eo123))
    go_loopg [74] kj2 (fun kq v74 w' => ∃ (x74_2 : Int), v74 = .int .i64 x74_2 ∧ Aside0 (stockadelaw18_RuleKnown.l0 kq y636 y644 (y644.length : Int) x74_2 = some r) ∧ Aside0 (kq ≤ kj2) ∧ Aside0 (Kd.R (Kd.int .u8) 5 w' w.heap.size (fun _ => True) v637 y636) ∧ Aside0 (Kd.R Kd.string 9 w' w.heap.size (fun _ => True) (.slice Ao123 y644.length co123) y644) ∧ Aside0 (w'.heap[gb631]? = some (.cells #[.bool false, .int .i64 1, .int .i64 0, .int .i64 0, .int .u64 0, .int .u64 3, .int .u64 5] 50 (0, 0))) ∧ Aside0 (w'.heap[gb632]? = some (.cells #[.bool true, .int .i64 1, .int .i64 0, .int .i64 0, .int .u64 0, .int .u64 3, .int .u64 5] 50 (0, 0))) ∧ Aside0 (w'.heap[gb633]? = some (.cells #[.bool true, .int .i64 9, .int .i64 0, .int .i64 0, .int .u64 0, .int .u64 0, .int .u64 0] 50 (0, 0))) ∧ Aside0 (w'.heap[gb634]? = some (.cells #[.bool false, .int .i64 3, .int .i64 3, .int .i64 2, .int .u64 65535, .int .u64 0, .int .u64 65535] 50 (0, 0))) ∧ Aside0 (w'.heap[gb635]? = some (.cells #[.bool true, .int .i64 3, .int .i64 3, .int .i64 2, .int .u64 65535, .int .u64 0, .int .u64 65535] 50 (0, 0))) ∧ Aside0 (Below w.heap.size w w'))
    case atStart => exact ⟨(0), eq_now, H', ⟨Nat.le_refl _⟩, ⟨by (with_reducible repeat (first | apply Kd.R_alloc | apply Kd.R_drewN | apply Kd.R_drew)); exact HO_8.out⟩, ⟨by (with_reducible repeat (first | apply Kd.R_alloc | apply Kd.R_drewN | apply Kd.R_drew)); exact HO646.out⟩, ⟨bk_now⟩, ⟨bk_now⟩, ⟨bk_now⟩, ⟨bk_now⟩, ⟨bk_now⟩, ⟨b_now⟩⟩
    case round =>
     clear H'
     try clear c1
     try clear c2
     try clear p2
     try clear c3
     try clear c4
     try clear c5
     try clear c6
     try clear c7
     try clear c8
     try clear c9
     try clear c10
     try clear c11
     try clear c12
     try clear c15
     try clear c18
     try clear c19
     try clear c22
     try clear c23
     try clear c24
     try clear c27
     try clear c28
     try clear c29
     try clear c30
     try clear c34
     try clear c34b0
     try clear c34b1
     try clear c35
     try clear c35b0
     try clear c35b1
     try clear c37
     try clear c39
     try clear c40
     try clear c41
     try clear c42
     try clear c43
     try clear c47
     try clear c48
     try clear c49
     try clear c53
     try clear c54
     try clear c55
     try clear c56
     try clear c57
     try clear c61
     try clear c62
     try clear c63
     try clear c66
     try clear c67
     try clear c71
     try clear c72
     try clear c73
     try clear c74
     try clear c75
     try clear c79
     try clear c80
     try clear c81
     try clear c84
     try clear c85
     try clear c88
     try clear c92
     try clear c93
     try clear c94
     try clear c95
     try clear c99
     try clear c100
     try clear c101
     try clear c104
     try clear c105
     try clear c108
     try clear c113
     try clear c114
     try clear c115
     try clear c116
     try clear c120
     try clear hcz102
     try clear hcz106
     try clear hcz109
     try clear hcz111
     try clear hcz117
     try clear hcz13
     try clear hcz16
     try clear hcz20
     try clear hcz25
     try clear hcz31
     try clear hcz44
     try clear hcz50
     try clear hcz58
     try clear hcz64
     try clear hcz68
     try clear hcz76
     try clear hcz82
     try clear hcz86
     try clear hcz89
     try clear hcz96
     try clear p2
     obtain ⟨x74_2, rfl, HA, HK2, HO_8, HO_72, BK631, BK632, BK633, BK634, BK635, HB⟩ := hrel
     cases gk with
     | zero => exact absurd HA.out (by simp [stockadelaw18_RuleKnown.l0])
     | succ k2 =>
      have H := HA.out
      clear HA
      simp only [stockadelaw18_RuleKnown.l0] at H
      by_cases c124 : x74_2 < (y644.length : Int)
      ·rw [if_pos c124] at H
       have c124b0 : decide (x74_2 < (y644.length : Int)) = true := decide_eq_true c124
       clear c124
       by_cases c125 : 0 ≤ x74_2
       ·rw [if_pos c125] at H
        have c125b0 : decide (0 ≤ x74_2) = true := decide_eq_true c125
        clear c125
        by_cases c126 : x74_2 < (y644.length : Int)
        ·rw [if_pos c126] at H
         have c126b0 : decide (x74_2 < (y644.length : Int)) = true := decide_eq_true c126
         clear c126
         replace H := Option.bind_eq_some_iff.mp H; obtain ⟨⟨t648, t649, t650⟩, A1270, H⟩ := H; try dsimp only at H
         have A127 := Aside0.mk A1270
         clear A1270
         by_cases c128 : (t648.length : Int) > 0
         ·rw [if_pos c128] at H
          have c128b0 : decide (0 < (t648.length : Int)) = true := decide_eq_true c128
          have c128b1 : decide (0 < t648.length) = true := decide_eq_true (by omega)
          clear c128
          obtain rfl := Option.some.inj H
          exact absurd HRT.out (by simp)
         ·rw [if_neg c128] at H
          have c128b0 : decide (0 < (t648.length : Int)) = false := decide_eq_false c128
          have c128b1 : decide (0 < t648.length) = false := decide_eq_false (by omega)
          clear c128
          by_cases c129 : t649 = 1
          ·rw [if_pos c129] at H
           have c129b0 : (t649 == 1) = true := beq_iff_eq.mpr c129
           have c129b1 : (t649 != 1) = false := bne_eq_false_iff_eq.mpr c129
           clear c129
           by_cases c130 : t650 = 5
           ·rw [if_pos c130] at H
            have c130b0 : (t650 == 5) = true := beq_iff_eq.mpr c130
            have c130b1 : (t650 != 5) = false := bne_eq_false_iff_eq.mpr c130
            clear c130
            have H' := Aside0.mk H
            clear H
            have p647 : 0 ≤ (x74_2 : Int) := of_decide_eq_true (by first | (with_reducible assumption) | assumption)
            have q647 : x74_2 < (y644.length : Int) := of_decide_eq_true (by first | (with_reducible assumption) | assumption)
            obtain ⟨ad647, e647, hx647_0⟩ := Kd.at_string (Kd.R_reads' HO_72.out).2.2 x74_2 p647 q647
            cases e647
            replace p647 := eq_true p647
            replace q647 := eq_true q647
            go_wp2_with (first | ((with_reducible refine gate_callee (f := 22) rfl ?_); refine sh_call (some 80) Tryd.func22 #[.string (rdOf ByteArray.empty y644 x74_2)] ?_; (with_reducible refine (rule_Parse.calls k2 (rdOf ByteArray.empty y644 x74_2) t648 t649 t650 _ ?side1 A127.out).mono ?_); (case side1 => repeat (first | exact (Kd.C_below HRG0.out HB.out) | (with_reducible refine Kd.C_alloc ?_ _) | (with_reducible refine Kd.C_drewN ?_ _) | (with_reducible refine Kd.C_drew ?_))); rintro e w131 ⟨v651, rfl, ho0, hb⟩; refine ⟨_, rfl, ?_⟩; have HO652 := Aside0.mk (Kd.N_lower (Kd.N_mono (ok' := fun k_ => some k_ ≠ (v637 : Value).ownBlock ∧ some k_ ≠ (.slice (some ad647) y644.length co123 : Value).ownBlock ∧ k_ ≠ gb631 ∧ k_ ≠ gb632 ∧ k_ ≠ gb633 ∧ k_ ≠ gb634 ∧ k_ ≠ gb635) (Kd.S_N (Kd.S_bound ho0)) (fun k_ hk_ => ⟨(Kd.fresh' (Kd.R_lt (by (with_reducible repeat (first | apply Kd.R_alloc | apply Kd.R_drewN | apply Kd.R_drew)); exact HO_8.out)) k_ hk_.2.1), (Kd.fresh' (Kd.R_lt (by (with_reducible repeat (first | apply Kd.R_alloc | apply Kd.R_drewN | apply Kd.R_drew)); exact HO_72.out)) k_ hk_.2.1), (Kd.freshB (g := gb631) (o := .cells #[.bool false, .int .i64 1, .int .i64 0, .int .i64 0, .int .u64 0, .int .u64 3, .int .u64 5] 50 (0, 0)) bk_now k_ hk_.2.1), (Kd.freshB (g := gb632) (o := .cells #[.bool true, .int .i64 1, .int .i64 0, .int .i64 0, .int .u64 0, .int .u64 3, .int .u64 5] 50 (0, 0)) bk_now k_ hk_.2.1), (Kd.freshB (g := gb633) (o := .cells #[.bool true, .int .i64 9, .int .i64 0, .int .i64 0, .int .u64 0, .int .u64 0, .int .u64 0] 50 (0, 0)) bk_now k_ hk_.2.1), (Kd.freshB (g := gb634) (o := .cells #[.bool false, .int .i64 3, .int .i64 3, .int .i64 2, .int .u64 65535, .int .u64 0, .int .u64 65535] 50 (0, 0)) bk_now k_ hk_.2.1), (Kd.freshB (g := gb635) (o := .cells #[.bool true, .int .i64 3, .int .i64 3, .int .i64 2, .int .u64 65535, .int .u64 0, .int .u64 65535] 50 (0, 0)) bk_now k_ hk_.2.1)⟩)) (below_size b_now)); replace HO_8 := Aside0.mk (Kd.R_below (by (with_reducible repeat (first | apply Kd.R_alloc | apply Kd.R_drewN | apply Kd.R_drew)); exact HO_8.out) hb); replace HO_72 := Aside0.mk (Kd.R_below (by (with_reducible repeat (first | apply Kd.R_alloc | apply Kd.R_drewN | apply Kd.R_drew)); exact HO_72.out) hb); replace BK631 := sh_k BK631 hb; replace BK632 := sh_k BK632 hb; replace BK633 := sh_k BK633 hb; replace BK634 := sh_k BK634 hb; replace BK635 := sh_k BK635 hb; replace HB := sh_b (w := w) hb; (try clear hb); (try clear hb2); (try clear hk); (try clear hi); (try clear ho0); obtain ⟨Ao132, co132, eo132⟩ := Kd.N_slice HO652.out; subst eo132))
            go_roundg k2
            case measure => have := HJ2.out; have := HK2.out; omega
            case rel => exact ⟨(wrap64 (x74_2 + 1)), eq_now, H', ⟨by have := HJ2.out; have := HK2.out; omega⟩, ⟨by (with_reducible repeat (first | apply Kd.R_alloc | apply Kd.R_drewN | apply Kd.R_drew)); exact HO_8.out⟩, ⟨by (with_reducible repeat (first | apply Kd.R_alloc | apply Kd.R_drewN | apply Kd.R_drew)); exact HO_72.out⟩, ⟨bk_now⟩, ⟨bk_now⟩, ⟨bk_now⟩, ⟨bk_now⟩, ⟨bk_now⟩, ⟨b_now⟩⟩
           ·rw [if_neg c130] at H
            have c130b0 : (t650 == 5) = false := beq_eq_false_iff_ne.mpr c130
            have c130b1 : (t650 != 5) = true := bne_iff_ne.mpr c130
            obtain rfl := Option.some.inj H
            exact absurd HRT.out (by simp)
          ·rw [if_neg c129] at H
           have c129b0 : (t649 == 1) = false := beq_eq_false_iff_ne.mpr c129
           have c129b1 : (t649 != 1) = true := bne_iff_ne.mpr c129
           obtain rfl := Option.some.inj H
           exact absurd HRT.out (by simp)
        ·rw [if_neg c126] at H
         exact absurd H (by simp)
       ·rw [if_neg c125] at H
        exact absurd H (by simp)
      ·rw [if_neg c124] at H
       have c124b0 : decide (x74_2 < (y644.length : Int)) = false := decide_eq_false c124
       clear c124
       replace H := Option.bind_eq_some_iff.mp H; obtain ⟨⟨t653, t654⟩, A1330, H⟩ := H; try dsimp only at H
       have A133 := Aside0.mk A1330
       clear A1330
       by_cases c134 : 33 ≤ 8796093022208
       ·rw [if_pos c134] at H
        have c134b0 := eq_true c134
        have c134b1 : decide (33 ≤ 8796093022208) = true := decide_eq_true c134
        clear c134
        obtain ⟨y655, hy655⟩ : ∃ y_ : List (S53), y_ = (List.replicate 33 z53) := ⟨_, rfl⟩
        replace H : ((rule_Check.f k2 y655).bind fun bt658 => (if 9 ≤ 5026338869833 then ((rule_Check.f k2 (([(⟨([] : List (S50)), 0⟩ : S53), (⟨(List.replicate 9 z50), 0⟩ : S53)] : List (S53)))).bind fun bt666 => (if 8 ≤ 5026338869833 then ((rule_Check.f k2 (([(⟨(List.replicate 8 z50), 0⟩ : S53)] : List (S53)))).bind fun bt674 => (if t653 = 0 then (if t654 = (-1) then (if bt658.2 = 3 then (if bt666.1 = 1 then (if bt666.2 = 3 then (if bt674.2 = 1 then ((stockadelaw18_wakes.f k2).bind fun t676 => (some t676)) else (some false)) else (some false)) else (some false)) else (some false)) else (some false)) else (some false))) else (none))) else (none))) = some r := by first | (rw [hy655]; with_reducible exact H) | (have H2_ := (Option.bind_some _ _).symm.trans H; rw [hy655]; with_reducible exact H2_) | (have H2_ := (Option.bind_some _ _).symm.trans H; with_reducible exact H2_) | with_reducible exact H | (rw [hy655]; exact H) | exact H
        have Ny655 := Aside0.mk hy655
        clear hy655
        replace H := Option.bind_eq_some_iff.mp H; obtain ⟨⟨t658, t659⟩, A1350, H⟩ := H; try dsimp only at H
        have A135 := Aside0.mk A1350
        clear A1350
        by_cases c136 : 9 ≤ 5026338869833
        ·rw [if_pos c136] at H
         have c136b0 := eq_true c136
         have c136b1 : decide (9 ≤ 5026338869833) = true := decide_eq_true c136
         clear c136
         obtain ⟨y660, hy660⟩ : ∃ y_ : List (S50), y_ = (List.replicate 9 z50) := ⟨_, rfl⟩
         replace H : ((rule_Check.f k2 (([(⟨([] : List (S50)), 0⟩ : S53), (⟨y660, 0⟩ : S53)] : List (S53)))).bind fun bt666 => (if 8 ≤ 5026338869833 then ((rule_Check.f k2 (([(⟨(List.replicate 8 z50), 0⟩ : S53)] : List (S53)))).bind fun bt674 => (if t653 = 0 then (if t654 = (-1) then (if t659 = 3 then (if bt666.1 = 1 then (if bt666.2 = 3 then (if bt674.2 = 1 then ((stockadelaw18_wakes.f k2).bind fun t676 => (some t676)) else (some false)) else (some false)) else (some false)) else (some false)) else (some false)) else (some false))) else (none))) = some r := by first | (rw [hy660]; with_reducible exact H) | (have H2_ := (Option.bind_some _ _).symm.trans H; rw [hy660]; with_reducible exact H2_) | (have H2_ := (Option.bind_some _ _).symm.trans H; with_reducible exact H2_) | with_reducible exact H | (rw [hy660]; exact H) | exact H
         have Ny660 := Aside0.mk hy660
         clear hy660
         obtain ⟨y663, hy663⟩ : ∃ y_ : List (S53), y_ = (([(⟨([] : List (S50)), 0⟩ : S53), (⟨y660, 0⟩ : S53)] : List (S53))) := ⟨_, rfl⟩
         replace H : ((rule_Check.f k2 y663).bind fun bt666 => (if 8 ≤ 5026338869833 then ((rule_Check.f k2 (([(⟨(List.replicate 8 z50), 0⟩ : S53)] : List (S53)))).bind fun bt674 => (if t653 = 0 then (if t654 = (-1) then (if t659 = 3 then (if bt666.1 = 1 then (if bt666.2 = 3 then (if bt674.2 = 1 then ((stockadelaw18_wakes.f k2).bind fun t676 => (some t676)) else (some false)) else (some false)) else (some false)) else (some false)) else (some false)) else (some false))) else (none))) = some r := by first | (rw [hy663]; with_reducible exact H) | (have H2_ := (Option.bind_some _ _).symm.trans H; rw [hy663]; with_reducible exact H2_) | (have H2_ := (Option.bind_some _ _).symm.trans H; with_reducible exact H2_) | with_reducible exact H | (rw [hy663]; exact H) | exact H
         have Ny663 := Aside0.mk hy663
         clear hy663
         replace H := Option.bind_eq_some_iff.mp H; obtain ⟨⟨t666, t667⟩, A1370, H⟩ := H; try dsimp only at H
         have A137 := Aside0.mk A1370
         clear A1370
         by_cases c138 : 8 ≤ 5026338869833
         ·rw [if_pos c138] at H
          have c138b0 := eq_true c138
          have c138b1 : decide (8 ≤ 5026338869833) = true := decide_eq_true c138
          clear c138
          obtain ⟨y668, hy668⟩ : ∃ y_ : List (S50), y_ = (List.replicate 8 z50) := ⟨_, rfl⟩
          replace H : ((rule_Check.f k2 (([(⟨y668, 0⟩ : S53)] : List (S53)))).bind fun bt674 => (if t653 = 0 then (if t654 = (-1) then (if t659 = 3 then (if t666 = 1 then (if t667 = 3 then (if bt674.2 = 1 then ((stockadelaw18_wakes.f k2).bind fun t676 => (some t676)) else (some false)) else (some false)) else (some false)) else (some false)) else (some false)) else (some false))) = some r := by first | (rw [hy668]; with_reducible exact H) | (have H2_ := (Option.bind_some _ _).symm.trans H; rw [hy668]; with_reducible exact H2_) | (have H2_ := (Option.bind_some _ _).symm.trans H; with_reducible exact H2_) | with_reducible exact H | (rw [hy668]; exact H) | exact H
          have Ny668 := Aside0.mk hy668
          clear hy668
          obtain ⟨y671, hy671⟩ : ∃ y_ : List (S53), y_ = (([(⟨y668, 0⟩ : S53)] : List (S53))) := ⟨_, rfl⟩
          replace H : ((rule_Check.f k2 y671).bind fun bt674 => (if t653 = 0 then (if t654 = (-1) then (if t659 = 3 then (if t666 = 1 then (if t667 = 3 then (if bt674.2 = 1 then ((stockadelaw18_wakes.f k2).bind fun t676 => (some t676)) else (some false)) else (some false)) else (some false)) else (some false)) else (some false)) else (some false))) = some r := by first | (rw [hy671]; with_reducible exact H) | (have H2_ := (Option.bind_some _ _).symm.trans H; rw [hy671]; with_reducible exact H2_) | (have H2_ := (Option.bind_some _ _).symm.trans H; with_reducible exact H2_) | with_reducible exact H | (rw [hy671]; exact H) | exact H
          have Ny671 := Aside0.mk hy671
          clear hy671
          replace H := Option.bind_eq_some_iff.mp H; obtain ⟨⟨t674, t675⟩, A1390, H⟩ := H; try dsimp only at H
          have A139 := Aside0.mk A1390
          clear A1390
          by_cases c140 : t653 = 0
          ·rw [if_pos c140] at H
           have c140b0 : (t653 == 0) = true := beq_iff_eq.mpr c140
           have c140b1 : (t653 != 0) = false := bne_eq_false_iff_eq.mpr c140
           clear c140
           by_cases c141 : t654 = (-1)
           ·rw [if_pos c141] at H
            have c141b0 : (t654 == (-1)) = true := beq_iff_eq.mpr c141
            have c141b1 : (t654 != (-1)) = false := bne_eq_false_iff_eq.mpr c141
            clear c141
            by_cases c142 : t659 = 3
            ·rw [if_pos c142] at H
             have c142b0 : (t659 == 3) = true := beq_iff_eq.mpr c142
             have c142b1 : (t659 != 3) = false := bne_eq_false_iff_eq.mpr c142
             clear c142
             by_cases c143 : t666 = 1
             ·rw [if_pos c143] at H
              have c143b0 : (t666 == 1) = true := beq_iff_eq.mpr c143
              have c143b1 : (t666 != 1) = false := bne_eq_false_iff_eq.mpr c143
              clear c143
              by_cases c144 : t667 = 3
              ·rw [if_pos c144] at H
               have c144b0 : (t667 == 3) = true := beq_iff_eq.mpr c144
               have c144b1 : (t667 != 3) = false := bne_eq_false_iff_eq.mpr c144
               clear c144
               by_cases c145 : t675 = 1
               ·rw [if_pos c145] at H
                have c145b0 : (t675 == 1) = true := beq_iff_eq.mpr c145
                have c145b1 : (t675 != 1) = false := bne_eq_false_iff_eq.mpr c145
                clear c145
                replace H := Option.bind_eq_some_iff.mp H; obtain ⟨t676, A1460, H⟩ := H; try dsimp only at H
                have A146 := Aside0.mk A1460
                clear A1460
                obtain rfl := Option.some.inj H
                obtain ⟨Ao147, co147, eo147⟩ := Kd.R_slice HO_8.out
                subst eo147
                go_wp2_with (first | ((with_reducible refine gate_callee (f := 18) rfl ?_); refine sh_call (some 98) Tryd.func18 #[.slice none 0 0, .slice Ao147 y636.length co147, .int .u32 0] ?_; (refine (rule_Judge.calls k2 _ _ ([] : List (S53)) _ _ y636 0 t653 t654 _ ?side1 ?side2 ?side3 ?side4 A133.out).mono ?_); (case side1 => exact Kd.C_nil _ _); (case side2 => exact Nat.le_refl _); (case side3 => repeat (first | exact (Kd.R_reads' HO_8.out).2.2 | (with_reducible refine Kd.C_alloc ?_ _) | (with_reducible refine Kd.C_drewN ?_ _) | (with_reducible refine Kd.C_drew ?_))); (case side4 => exact (Kd.R_reads' HO_8.out).2.1); rintro e w148 ⟨rfl, hb⟩; refine ⟨_, rfl, ?_⟩; replace HO_8 := Aside0.mk (Kd.R_below (by (with_reducible repeat (first | apply Kd.R_alloc | apply Kd.R_drewN | apply Kd.R_drew)); exact HO_8.out) hb); replace HO_72 := Aside0.mk (Kd.R_below (by (with_reducible repeat (first | apply Kd.R_alloc | apply Kd.R_drewN | apply Kd.R_drew)); exact HO_72.out) hb); replace BK631 := sh_k BK631 hb; replace BK632 := sh_k BK632 hb; replace BK633 := sh_k BK633 hb; replace BK634 := sh_k BK634 hb; replace BK635 := sh_k BK635 hb; replace HB := sh_b (w := w) hb; (try clear hb); (try clear hb2); (try clear hk); (try clear hi)) | ((with_reducible refine gate_dst (N := 102) rfl ?_); refine Kd.N_make k53 _ 53 rfl (N' := 102) rfl 25 _ _ rfl 33 rfl rfl Tryd.underlying25 (.agg #[(.slice none 0 0), (.int .u32 0)]) 32 info53 rfl (by decide) (by omega) z53 (ok := fun k_ => w148.heap.size ≤ k_) (okp := fun _ => False) (k53_mkF _ _ z53 (Nat.le_refl _) (Kd.F_nil _ _ _)) (fun _ hk => hk.elim) (Nat.le_refl _) (by omega) (by omega) (Below.refl _ _) (Nat.le_refl _) ?_; intro v656 w149 ho150 hb hg_ hnew_; clear hg_ hnew_; (first | rw [← Ny655.out] at ho150 | (simp only [Int.reduceToNat] at ho150; rw [← Ny655.out] at ho150)); have HO657 := Aside0.mk (Kd.N_lower (Kd.N_mono (ok' := fun k_ => some k_ ≠ (.slice Ao147 y636.length co147 : Value).ownBlock ∧ some k_ ≠ (.slice Ao123 y644.length co123 : Value).ownBlock ∧ k_ ≠ gb631 ∧ k_ ≠ gb632 ∧ k_ ≠ gb633 ∧ k_ ≠ gb634 ∧ k_ ≠ gb635) ho150 (fun k_ hk_ => ⟨(Kd.fresh' (Kd.R_lt (by (with_reducible repeat (first | apply Kd.R_alloc | apply Kd.R_drewN | apply Kd.R_drew)); exact HO_8.out)) k_ hk_), (Kd.fresh' (Kd.R_lt (by (with_reducible repeat (first | apply Kd.R_alloc | apply Kd.R_drewN | apply Kd.R_drew)); exact HO_72.out)) k_ hk_), (Kd.freshB (g := gb631) (o := .cells #[.bool false, .int .i64 1, .int .i64 0, .int .i64 0, .int .u64 0, .int .u64 3, .int .u64 5] 50 (0, 0)) bk_now k_ hk_), (Kd.freshB (g := gb632) (o := .cells #[.bool true, .int .i64 1, .int .i64 0, .int .i64 0, .int .u64 0, .int .u64 3, .int .u64 5] 50 (0, 0)) bk_now k_ hk_), (Kd.freshB (g := gb633) (o := .cells #[.bool true, .int .i64 9, .int .i64 0, .int .i64 0, .int .u64 0, .int .u64 0, .int .u64 0] 50 (0, 0)) bk_now k_ hk_), (Kd.freshB (g := gb634) (o := .cells #[.bool false, .int .i64 3, .int .i64 3, .int .i64 2, .int .u64 65535, .int .u64 0, .int .u64 65535] 50 (0, 0)) bk_now k_ hk_), (Kd.freshB (g := gb635) (o := .cells #[.bool true, .int .i64 3, .int .i64 3, .int .i64 2, .int .u64 65535, .int .u64 0, .int .u64 65535] 50 (0, 0)) bk_now k_ hk_)⟩)) (below_size b_now)); replace HO_8 := Aside0.mk (Kd.R_below (by (with_reducible repeat (first | apply Kd.R_alloc | apply Kd.R_drewN | apply Kd.R_drew)); exact HO_8.out) hb); replace HO_72 := Aside0.mk (Kd.R_below (by (with_reducible repeat (first | apply Kd.R_alloc | apply Kd.R_drewN | apply Kd.R_drew)); exact HO_72.out) hb); replace BK631 := sh_k BK631 hb; replace BK632 := sh_k BK632 hb; replace BK633 := sh_k BK633 hb; replace BK634 := sh_k BK634 hb; replace BK635 := sh_k BK635 hb; replace HB := sh_b (w := w) hb; clear hb ho150; obtain ⟨Ao151, co151, eo151⟩ := Kd.N_slice HO657.out; subst eo151) | ((with_reducible refine gate_callee (f := 13) rfl ?_); refine sh_call (some 103) Tryd.func13 #[.slice Ao151 y655.length co151] ?_; (with_reducible refine (rule_Check.calls k2 _ _ y655 t658 t659 _ ?side1 ?side2 A135.out).mono ?_); (case side1 => repeat (first | exact (Kd.N_reads' HO657.out).2.2 | (with_reducible refine Kd.C_alloc ?_ _) | (with_reducible refine Kd.C_drewN ?_ _) | (with_reducible refine Kd.C_drew ?_))); (case side2 => exact (Kd.N_reads' HO657.out).2.1); rintro e w152 ⟨rfl, hb⟩; refine ⟨_, rfl, ?_⟩; replace HO_8 := Aside0.mk (Kd.R_below (by (with_reducible repeat (first | apply Kd.R_alloc | apply Kd.R_drewN | apply Kd.R_drew)); exact HO_8.out) hb); replace HO_72 := Aside0.mk (Kd.R_below (by (with_reducible repeat (first | apply Kd.R_alloc | apply Kd.R_drewN | apply Kd.R_drew)); exact HO_72.out) hb); replace HO657 := Aside0.mk (Kd.N_below (by (with_reducible repeat (first | apply Kd.N_alloc | apply Kd.N_drewN | apply Kd.N_drew)); exact HO657.out) hb); replace BK631 := sh_k BK631 hb; replace BK632 := sh_k BK632 hb; replace BK633 := sh_k BK633 hb; replace BK634 := sh_k BK634 hb; replace BK635 := sh_k BK635 hb; replace HB := sh_b (w := w) hb; (try clear hb); (try clear hb2); (try clear hk); (try clear hi)) | ((with_reducible refine gate_dst (N := 108) rfl ?_); refine Kd.R_make k50 _ 50 rfl (N := 108) rfl 51 _ _ rfl 9 rfl rfl Tryd.underlying51 (.agg #[(.bool false), (.int .i64 0), (.int .i64 0), (.int .i64 0), (.int .u64 0), (.int .u64 0), (.int .u64 0)]) 56 info50 rfl (by decide) (by omega) z50 (ok := fun _ => True) (okp := fun _ => True) (k50_mkM _ _ _ z50 ) (fun _ hk => hk) trivial (by omega) (by omega) (Below.refl _ _) (Nat.le_refl _) ?_; intro v661 w153 ho154 hb hg_ hnew_; clear hg_ hnew_; (first | rw [← Ny660.out] at ho154 | (simp only [Int.reduceToNat] at ho154; rw [← Ny660.out] at ho154)); have HO662 := Aside0.mk (Kd.R_lower (Kd.R_newB (Kd.R_newB (Kd.R_newB (Kd.R_newB (Kd.R_newB ho154 (g := gb631) (o := .cells #[.bool false, .int .i64 1, .int .i64 0, .int .i64 0, .int .u64 0, .int .u64 3, .int .u64 5] 50 (0, 0)) bk_now) (g := gb632) (o := .cells #[.bool true, .int .i64 1, .int .i64 0, .int .i64 0, .int .u64 0, .int .u64 3, .int .u64 5] 50 (0, 0)) bk_now) (g := gb633) (o := .cells #[.bool true, .int .i64 9, .int .i64 0, .int .i64 0, .int .u64 0, .int .u64 0, .int .u64 0] 50 (0, 0)) bk_now) (g := gb634) (o := .cells #[.bool false, .int .i64 3, .int .i64 3, .int .i64 2, .int .u64 65535, .int .u64 0, .int .u64 65535] 50 (0, 0)) bk_now) (g := gb635) (o := .cells #[.bool true, .int .i64 3, .int .i64 3, .int .i64 2, .int .u64 65535, .int .u64 0, .int .u64 65535] 50 (0, 0)) bk_now) (below_size b_now)); replace HO_8 := Aside0.mk (Kd.R_below (by (with_reducible repeat (first | apply Kd.R_alloc | apply Kd.R_drewN | apply Kd.R_drew)); exact HO_8.out) hb); replace HO_72 := Aside0.mk (Kd.R_below (by (with_reducible repeat (first | apply Kd.R_alloc | apply Kd.R_drewN | apply Kd.R_drew)); exact HO_72.out) hb); replace HO657 := Aside0.mk (Kd.N_elder' (by (with_reducible repeat (first | apply Kd.N_alloc | apply Kd.N_drewN | apply Kd.N_drew)); exact HO657.out) (Kd.R_base ho154) hb); replace BK631 := sh_k BK631 hb; replace BK632 := sh_k BK632 hb; replace BK633 := sh_k BK633 hb; replace BK634 := sh_k BK634 hb; replace BK635 := sh_k BK635 hb; replace HB := sh_b (w := w) hb; clear hb ho154; obtain ⟨Ao155, co155, eo155⟩ := Kd.R_slice HO662.out; subst eo155) | ((with_reducible refine gate_dst (N := 110) rfl ?_); refine Kd.N_lit k53 _ 53 ?hg (N' := 110) ?hd (xs := ([(⟨([] : List (S50)), 0⟩ : S53), (⟨y660, 0⟩ : S53)] : List (S53))) (inner := [.slice none 0 0, .int .u32 0, .slice Ao155 y660.length co155, .int .u32 0]) (ok := (fun k_ => some k_ ≠ (.slice Ao147 y636.length co147 : Value).ownBlock ∧ some k_ ≠ (.slice Ao123 y644.length co123 : Value).ownBlock ∧ some k_ ≠ (.slice Ao151 y655.length co151 : Value).ownBlock ∧ k_ ≠ gb631 ∧ k_ ≠ gb632 ∧ k_ ≠ gb633 ∧ k_ ≠ gb634 ∧ k_ ≠ gb635)) (okp := (fun k_ => some k_ ≠ (.slice Ao147 y636.length co147 : Value).ownBlock ∧ some k_ ≠ (.slice Ao123 y644.length co123 : Value).ownBlock ∧ some k_ ≠ (.slice Ao151 y655.length co151 : Value).ownBlock ∧ k_ ≠ gb631 ∧ k_ ≠ gb632 ∧ k_ ≠ gb633 ∧ k_ ≠ gb634 ∧ k_ ≠ gb635)) ?hr ?hp (fun _ hk => hk) ((show ∀ k_, w153.heap.size ≤ k_ → (fun k_ => some k_ ≠ (.slice Ao147 y636.length co147 : Value).ownBlock ∧ some k_ ≠ (.slice Ao123 y644.length co123 : Value).ownBlock ∧ some k_ ≠ (.slice Ao151 y655.length co151 : Value).ownBlock ∧ k_ ≠ gb631 ∧ k_ ≠ gb632 ∧ k_ ≠ gb633 ∧ k_ ≠ gb634 ∧ k_ ≠ gb635) k_ from fun k_ hk => ⟨Kd.fresh' (Kd.R_lt (by (with_reducible repeat (first | apply Kd.R_alloc | apply Kd.R_drewN | apply Kd.R_drew)); exact HO_8.out)) k_ hk, Kd.fresh' (Kd.R_lt (by (with_reducible repeat (first | apply Kd.R_alloc | apply Kd.R_drewN | apply Kd.R_drew)); exact HO_72.out)) k_ hk, Kd.fresh' (Kd.N_lt (by (with_reducible repeat (first | apply Kd.N_alloc | apply Kd.N_drewN | apply Kd.N_drew)); exact HO657.out)) k_ hk, Kd.freshB (g := gb631) (o := .cells #[.bool false, .int .i64 1, .int .i64 0, .int .i64 0, .int .u64 0, .int .u64 3, .int .u64 5] 50 (0, 0)) bk_now k_ hk, Kd.freshB (g := gb632) (o := .cells #[.bool true, .int .i64 1, .int .i64 0, .int .i64 0, .int .u64 0, .int .u64 3, .int .u64 5] 50 (0, 0)) bk_now k_ hk, Kd.freshB (g := gb633) (o := .cells #[.bool true, .int .i64 9, .int .i64 0, .int .i64 0, .int .u64 0, .int .u64 0, .int .u64 0] 50 (0, 0)) bk_now k_ hk, Kd.freshB (g := gb634) (o := .cells #[.bool false, .int .i64 3, .int .i64 3, .int .i64 2, .int .u64 65535, .int .u64 0, .int .u64 65535] 50 (0, 0)) bk_now k_ hk, Kd.freshB (g := gb635) (o := .cells #[.bool true, .int .i64 3, .int .i64 3, .int .i64 2, .int .u64 65535, .int .u64 0, .int .u64 65535] 50 (0, 0)) bk_now k_ hk⟩) _ (Nat.le_refl _)) (Below.refl _ _) (Nat.le_refl _) (by simp) ?_; (case hd => rfl); (case hg => rfl); (case hr => first | (go_simp; done) | (go_simp; rfl)); (case hp => exact (Reps.c2 (show Kd.FK k53 _ _ (⟨([] : List (S50)), 0⟩ : S53) [.slice none 0 0, .int .u32 0] from (k53_mkF _ _ (⟨([] : List (S50)), 0⟩ : S53) (Nat.le_refl _) (Kd.F_nil _ _ _))) (Reps.c2 (show Kd.FK k53 _ _ (⟨y660, 0⟩ : S53) [.slice Ao155 y660.length co155, .int .u32 0] from (k53_mkF _ _ (⟨y660, 0⟩ : S53) (Kd.R_reads' (Kd.R_mono (ok' := (fun k_ => some k_ ≠ (.slice Ao147 y636.length co147 : Value).ownBlock ∧ some k_ ≠ (.slice Ao123 y644.length co123 : Value).ownBlock ∧ some k_ ≠ (.slice Ao151 y655.length co151 : Value).ownBlock ∧ k_ ≠ gb631 ∧ k_ ≠ gb632 ∧ k_ ≠ gb633 ∧ k_ ≠ gb634 ∧ k_ ≠ gb635)) (Kd.R_apart' (Kd.R_apart' (Kd.R_apart' (HO662.out) (Kd.R_typed HO_8.out) (by decide)) (Kd.R_typed HO_72.out) (by decide)) (Kd.N_typed HO657.out) (by decide)) (fun k_ hk => ⟨hk.1.1.2, ⟨hk.1.2, ⟨hk.2, ⟨hk.1.1.1.1.1.1.1.2, ⟨hk.1.1.1.1.1.1.2, ⟨hk.1.1.1.1.1.2, ⟨hk.1.1.1.1.2, hk.1.1.1.2⟩⟩⟩⟩⟩⟩⟩))).2.1 (Kd.R_F (Kd.R_mono (ok' := (fun k_ => some k_ ≠ (.slice Ao147 y636.length co147 : Value).ownBlock ∧ some k_ ≠ (.slice Ao123 y644.length co123 : Value).ownBlock ∧ some k_ ≠ (.slice Ao151 y655.length co151 : Value).ownBlock ∧ k_ ≠ gb631 ∧ k_ ≠ gb632 ∧ k_ ≠ gb633 ∧ k_ ≠ gb634 ∧ k_ ≠ gb635)) (Kd.R_apart' (Kd.R_apart' (Kd.R_apart' (HO662.out) (Kd.R_typed HO_8.out) (by decide)) (Kd.R_typed HO_72.out) (by decide)) (Kd.N_typed HO657.out) (by decide)) (fun k_ hk => ⟨hk.1.1.2, ⟨hk.1.2, ⟨hk.2, ⟨hk.1.1.1.1.1.1.1.2, ⟨hk.1.1.1.1.1.1.2, ⟨hk.1.1.1.1.1.2, ⟨hk.1.1.1.1.2, hk.1.1.1.2⟩⟩⟩⟩⟩⟩⟩))))) (Reps.none _ _)))); intro v664 w156 ho157 hb hg_ hnew_; clear hg_ hnew_; (first | rw [← Ny663.out] at ho157 | (simp only [Int.reduceToNat] at ho157; rw [← Ny663.out] at ho157)); have n0_ := Aside0.mk (Kd.R_below (by (with_reducible repeat (first | apply Kd.R_alloc | apply Kd.R_drewN | apply Kd.R_drew)); exact HO_8.out) hb); have n1_ := Aside0.mk (Kd.R_below (by (with_reducible repeat (first | apply Kd.R_alloc | apply Kd.R_drewN | apply Kd.R_drew)); exact HO_72.out) hb); have n2_ := Aside0.mk (Kd.N_elder' (by (with_reducible repeat (first | apply Kd.N_alloc | apply Kd.N_drewN | apply Kd.N_drew)); exact HO657.out) (Kd.N_base ho157) hb); have n3_ := Aside0.mk (Kd.N_lower ho157 (below_size b_now)); have n4_ := Aside0.mk (blk_below (g := gb631) (o := .cells #[.bool false, .int .i64 1, .int .i64 0, .int .i64 0, .int .u64 0, .int .u64 3, .int .u64 5] 50 (0, 0)) bk_now hb); have n5_ := Aside0.mk (blk_below (g := gb632) (o := .cells #[.bool true, .int .i64 1, .int .i64 0, .int .i64 0, .int .u64 0, .int .u64 3, .int .u64 5] 50 (0, 0)) bk_now hb); have n6_ := Aside0.mk (blk_below (g := gb633) (o := .cells #[.bool true, .int .i64 9, .int .i64 0, .int .i64 0, .int .u64 0, .int .u64 0, .int .u64 0] 50 (0, 0)) bk_now hb); have n7_ := Aside0.mk (blk_below (g := gb634) (o := .cells #[.bool false, .int .i64 3, .int .i64 3, .int .i64 2, .int .u64 65535, .int .u64 0, .int .u64 65535] 50 (0, 0)) bk_now hb); have n8_ := Aside0.mk (blk_below (g := gb635) (o := .cells #[.bool true, .int .i64 3, .int .i64 3, .int .i64 2, .int .u64 65535, .int .u64 0, .int .u64 65535] 50 (0, 0)) bk_now hb); have n9_ := Aside0.mk (below_step b_now hb); clear HO_8; clear HO_72; clear HO657; clear BK631; clear BK632; clear BK633; clear BK634; clear BK635; clear HB; clear HO662; have HO_8 := n0_; have HO_72 := n1_; have HO657 := n2_; have HO665 := n3_; have BK631 := n4_; have BK632 := n5_; have BK633 := n6_; have BK634 := n7_; have BK635 := n8_; have HB := n9_; clear n0_ n1_ n2_ n3_ n4_ n5_ n6_ n7_ n8_ n9_; clear hb ho157; obtain ⟨Ao158, co158, eo158⟩ := Kd.N_slice HO665.out; subst eo158) | ((with_reducible refine gate_callee (f := 13) rfl ?_); refine sh_call (some 111) Tryd.func13 #[.slice Ao158 y663.length co158] ?_; (with_reducible refine (rule_Check.calls k2 _ _ y663 t666 t667 _ ?side1 ?side2 A137.out).mono ?_); (case side1 => repeat (first | exact (Kd.N_reads' HO665.out).2.2 | (with_reducible refine Kd.C_alloc ?_ _) | (with_reducible refine Kd.C_drewN ?_ _) | (with_reducible refine Kd.C_drew ?_))); (case side2 => exact (Kd.N_reads' HO665.out).2.1); rintro e w159 ⟨rfl, hb⟩; refine ⟨_, rfl, ?_⟩; replace HO_8 := Aside0.mk (Kd.R_below (by (with_reducible repeat (first | apply Kd.R_alloc | apply Kd.R_drewN | apply Kd.R_drew)); exact HO_8.out) hb); replace HO_72 := Aside0.mk (Kd.R_below (by (with_reducible repeat (first | apply Kd.R_alloc | apply Kd.R_drewN | apply Kd.R_drew)); exact HO_72.out) hb); replace HO657 := Aside0.mk (Kd.N_below (by (with_reducible repeat (first | apply Kd.N_alloc | apply Kd.N_drewN | apply Kd.N_drew)); exact HO657.out) hb); replace HO665 := Aside0.mk (Kd.N_below (by (with_reducible repeat (first | apply Kd.N_alloc | apply Kd.N_drewN | apply Kd.N_drew)); exact HO665.out) hb); replace BK631 := sh_k BK631 hb; replace BK632 := sh_k BK632 hb; replace BK633 := sh_k BK633 hb; replace BK634 := sh_k BK634 hb; replace BK635 := sh_k BK635 hb; replace HB := sh_b (w := w) hb; (try clear hb); (try clear hb2); (try clear hk); (try clear hi)) | ((with_reducible refine gate_dst (N := 115) rfl ?_); refine Kd.R_make k50 _ 50 rfl (N := 115) rfl 51 _ _ rfl 8 rfl rfl Tryd.underlying51 (.agg #[(.bool false), (.int .i64 0), (.int .i64 0), (.int .i64 0), (.int .u64 0), (.int .u64 0), (.int .u64 0)]) 56 info50 rfl (by decide) (by omega) z50 (ok := fun _ => True) (okp := fun _ => True) (k50_mkM _ _ _ z50 ) (fun _ hk => hk) trivial (by omega) (by omega) (Below.refl _ _) (Nat.le_refl _) ?_; intro v669 w160 ho161 hb hg_ hnew_; clear hg_ hnew_; (first | rw [← Ny668.out] at ho161 | (simp only [Int.reduceToNat] at ho161; rw [← Ny668.out] at ho161)); have HO670 := Aside0.mk (Kd.R_lower (Kd.R_newB (Kd.R_newB (Kd.R_newB (Kd.R_newB (Kd.R_newB ho161 (g := gb631) (o := .cells #[.bool false, .int .i64 1, .int .i64 0, .int .i64 0, .int .u64 0, .int .u64 3, .int .u64 5] 50 (0, 0)) bk_now) (g := gb632) (o := .cells #[.bool true, .int .i64 1, .int .i64 0, .int .i64 0, .int .u64 0, .int .u64 3, .int .u64 5] 50 (0, 0)) bk_now) (g := gb633) (o := .cells #[.bool true, .int .i64 9, .int .i64 0, .int .i64 0, .int .u64 0, .int .u64 0, .int .u64 0] 50 (0, 0)) bk_now) (g := gb634) (o := .cells #[.bool false, .int .i64 3, .int .i64 3, .int .i64 2, .int .u64 65535, .int .u64 0, .int .u64 65535] 50 (0, 0)) bk_now) (g := gb635) (o := .cells #[.bool true, .int .i64 3, .int .i64 3, .int .i64 2, .int .u64 65535, .int .u64 0, .int .u64 65535] 50 (0, 0)) bk_now) (below_size b_now)); replace HO_8 := Aside0.mk (Kd.R_below (by (with_reducible repeat (first | apply Kd.R_alloc | apply Kd.R_drewN | apply Kd.R_drew)); exact HO_8.out) hb); replace HO_72 := Aside0.mk (Kd.R_below (by (with_reducible repeat (first | apply Kd.R_alloc | apply Kd.R_drewN | apply Kd.R_drew)); exact HO_72.out) hb); replace HO657 := Aside0.mk (Kd.N_elder' (by (with_reducible repeat (first | apply Kd.N_alloc | apply Kd.N_drewN | apply Kd.N_drew)); exact HO657.out) (Kd.R_base ho161) hb); replace HO665 := Aside0.mk (Kd.N_elder' (by (with_reducible repeat (first | apply Kd.N_alloc | apply Kd.N_drewN | apply Kd.N_drew)); exact HO665.out) (Kd.R_base ho161) hb); replace BK631 := sh_k BK631 hb; replace BK632 := sh_k BK632 hb; replace BK633 := sh_k BK633 hb; replace BK634 := sh_k BK634 hb; replace BK635 := sh_k BK635 hb; replace HB := sh_b (w := w) hb; clear hb ho161; obtain ⟨Ao162, co162, eo162⟩ := Kd.R_slice HO670.out; subst eo162) | ((with_reducible refine gate_dst (N := 117) rfl ?_); refine Kd.N_lit k53 _ 53 ?hg (N' := 117) ?hd (xs := ([(⟨y668, 0⟩ : S53)] : List (S53))) (inner := [.slice Ao162 y668.length co162, .int .u32 0]) (ok := (fun k_ => some k_ ≠ (.slice Ao147 y636.length co147 : Value).ownBlock ∧ some k_ ≠ (.slice Ao123 y644.length co123 : Value).ownBlock ∧ some k_ ≠ (.slice Ao151 y655.length co151 : Value).ownBlock ∧ some k_ ≠ (.slice Ao158 y663.length co158 : Value).ownBlock ∧ k_ ≠ gb631 ∧ k_ ≠ gb632 ∧ k_ ≠ gb633 ∧ k_ ≠ gb634 ∧ k_ ≠ gb635)) (okp := (fun k_ => some k_ ≠ (.slice Ao147 y636.length co147 : Value).ownBlock ∧ some k_ ≠ (.slice Ao123 y644.length co123 : Value).ownBlock ∧ some k_ ≠ (.slice Ao151 y655.length co151 : Value).ownBlock ∧ some k_ ≠ (.slice Ao158 y663.length co158 : Value).ownBlock ∧ k_ ≠ gb631 ∧ k_ ≠ gb632 ∧ k_ ≠ gb633 ∧ k_ ≠ gb634 ∧ k_ ≠ gb635)) ?hr ?hp (fun _ hk => hk) ((show ∀ k_, w160.heap.size ≤ k_ → (fun k_ => some k_ ≠ (.slice Ao147 y636.length co147 : Value).ownBlock ∧ some k_ ≠ (.slice Ao123 y644.length co123 : Value).ownBlock ∧ some k_ ≠ (.slice Ao151 y655.length co151 : Value).ownBlock ∧ some k_ ≠ (.slice Ao158 y663.length co158 : Value).ownBlock ∧ k_ ≠ gb631 ∧ k_ ≠ gb632 ∧ k_ ≠ gb633 ∧ k_ ≠ gb634 ∧ k_ ≠ gb635) k_ from fun k_ hk => ⟨Kd.fresh' (Kd.R_lt (by (with_reducible repeat (first | apply Kd.R_alloc | apply Kd.R_drewN | apply Kd.R_drew)); exact HO_8.out)) k_ hk, Kd.fresh' (Kd.R_lt (by (with_reducible repeat (first | apply Kd.R_alloc | apply Kd.R_drewN | apply Kd.R_drew)); exact HO_72.out)) k_ hk, Kd.fresh' (Kd.N_lt (by (with_reducible repeat (first | apply Kd.N_alloc | apply Kd.N_drewN | apply Kd.N_drew)); exact HO657.out)) k_ hk, Kd.fresh' (Kd.N_lt (by (with_reducible repeat (first | apply Kd.N_alloc | apply Kd.N_drewN | apply Kd.N_drew)); exact HO665.out)) k_ hk, Kd.freshB (g := gb631) (o := .cells #[.bool false, .int .i64 1, .int .i64 0, .int .i64 0, .int .u64 0, .int .u64 3, .int .u64 5] 50 (0, 0)) bk_now k_ hk, Kd.freshB (g := gb632) (o := .cells #[.bool true, .int .i64 1, .int .i64 0, .int .i64 0, .int .u64 0, .int .u64 3, .int .u64 5] 50 (0, 0)) bk_now k_ hk, Kd.freshB (g := gb633) (o := .cells #[.bool true, .int .i64 9, .int .i64 0, .int .i64 0, .int .u64 0, .int .u64 0, .int .u64 0] 50 (0, 0)) bk_now k_ hk, Kd.freshB (g := gb634) (o := .cells #[.bool false, .int .i64 3, .int .i64 3, .int .i64 2, .int .u64 65535, .int .u64 0, .int .u64 65535] 50 (0, 0)) bk_now k_ hk, Kd.freshB (g := gb635) (o := .cells #[.bool true, .int .i64 3, .int .i64 3, .int .i64 2, .int .u64 65535, .int .u64 0, .int .u64 65535] 50 (0, 0)) bk_now k_ hk⟩) _ (Nat.le_refl _)) (Below.refl _ _) (Nat.le_refl _) (by simp) ?_; (case hd => rfl); (case hg => rfl); (case hr => first | (go_simp; done) | (go_simp; rfl)); (case hp => exact (Reps.c2 (show Kd.FK k53 _ _ (⟨y668, 0⟩ : S53) [.slice Ao162 y668.length co162, .int .u32 0] from (k53_mkF _ _ (⟨y668, 0⟩ : S53) (Kd.R_reads' (Kd.R_mono (ok' := (fun k_ => some k_ ≠ (.slice Ao147 y636.length co147 : Value).ownBlock ∧ some k_ ≠ (.slice Ao123 y644.length co123 : Value).ownBlock ∧ some k_ ≠ (.slice Ao151 y655.length co151 : Value).ownBlock ∧ some k_ ≠ (.slice Ao158 y663.length co158 : Value).ownBlock ∧ k_ ≠ gb631 ∧ k_ ≠ gb632 ∧ k_ ≠ gb633 ∧ k_ ≠ gb634 ∧ k_ ≠ gb635)) (Kd.R_apart' (Kd.R_apart' (Kd.R_apart' (Kd.R_apart' (HO670.out) (Kd.R_typed HO_8.out) (by decide)) (Kd.R_typed HO_72.out) (by decide)) (Kd.N_typed HO657.out) (by decide)) (Kd.N_typed HO665.out) (by decide)) (fun k_ hk => ⟨hk.1.1.1.2, ⟨hk.1.1.2, ⟨hk.1.2, ⟨hk.2, ⟨hk.1.1.1.1.1.1.1.1.2, ⟨hk.1.1.1.1.1.1.1.2, ⟨hk.1.1.1.1.1.1.2, ⟨hk.1.1.1.1.1.2, hk.1.1.1.1.2⟩⟩⟩⟩⟩⟩⟩⟩))).2.1 (Kd.R_F (Kd.R_mono (ok' := (fun k_ => some k_ ≠ (.slice Ao147 y636.length co147 : Value).ownBlock ∧ some k_ ≠ (.slice Ao123 y644.length co123 : Value).ownBlock ∧ some k_ ≠ (.slice Ao151 y655.length co151 : Value).ownBlock ∧ some k_ ≠ (.slice Ao158 y663.length co158 : Value).ownBlock ∧ k_ ≠ gb631 ∧ k_ ≠ gb632 ∧ k_ ≠ gb633 ∧ k_ ≠ gb634 ∧ k_ ≠ gb635)) (Kd.R_apart' (Kd.R_apart' (Kd.R_apart' (Kd.R_apart' (HO670.out) (Kd.R_typed HO_8.out) (by decide)) (Kd.R_typed HO_72.out) (by decide)) (Kd.N_typed HO657.out) (by decide)) (Kd.N_typed HO665.out) (by decide)) (fun k_ hk => ⟨hk.1.1.1.2, ⟨hk.1.1.2, ⟨hk.1.2, ⟨hk.2, ⟨hk.1.1.1.1.1.1.1.1.2, ⟨hk.1.1.1.1.1.1.1.2, ⟨hk.1.1.1.1.1.1.2, ⟨hk.1.1.1.1.1.2, hk.1.1.1.1.2⟩⟩⟩⟩⟩⟩⟩⟩))))) (Reps.none _ _))); intro v672 w163 ho164 hb hg_ hnew_; clear hg_ hnew_; (first | rw [← Ny671.out] at ho164 | (simp only [Int.reduceToNat] at ho164; rw [← Ny671.out] at ho164)); have n0_ := Aside0.mk (Kd.R_below (by (with_reducible repeat (first | apply Kd.R_alloc | apply Kd.R_drewN | apply Kd.R_drew)); exact HO_8.out) hb); have n1_ := Aside0.mk (Kd.R_below (by (with_reducible repeat (first | apply Kd.R_alloc | apply Kd.R_drewN | apply Kd.R_drew)); exact HO_72.out) hb); have n2_ := Aside0.mk (Kd.N_elder' (by (with_reducible repeat (first | apply Kd.N_alloc | apply Kd.N_drewN | apply Kd.N_drew)); exact HO657.out) (Kd.N_base ho164) hb); have n3_ := Aside0.mk (Kd.N_elder' (by (with_reducible repeat (first | apply Kd.N_alloc | apply Kd.N_drewN | apply Kd.N_drew)); exact HO665.out) (Kd.N_base ho164) hb); have n4_ := Aside0.mk (Kd.N_lower ho164 (below_size b_now)); have n5_ := Aside0.mk (blk_below (g := gb631) (o := .cells #[.bool false, .int .i64 1, .int .i64 0, .int .i64 0, .int .u64 0, .int .u64 3, .int .u64 5] 50 (0, 0)) bk_now hb); have n6_ := Aside0.mk (blk_below (g := gb632) (o := .cells #[.bool true, .int .i64 1, .int .i64 0, .int .i64 0, .int .u64 0, .int .u64 3, .int .u64 5] 50 (0, 0)) bk_now hb); have n7_ := Aside0.mk (blk_below (g := gb633) (o := .cells #[.bool true, .int .i64 9, .int .i64 0, .int .i64 0, .int .u64 0, .int .u64 0, .int .u64 0] 50 (0, 0)) bk_now hb); have n8_ := Aside0.mk (blk_below (g := gb634) (o := .cells #[.bool false, .int .i64 3, .int .i64 3, .int .i64 2, .int .u64 65535, .int .u64 0, .int .u64 65535] 50 (0, 0)) bk_now hb); have n9_ := Aside0.mk (blk_below (g := gb635) (o := .cells #[.bool true, .int .i64 3, .int .i64 3, .int .i64 2, .int .u64 65535, .int .u64 0, .int .u64 65535] 50 (0, 0)) bk_now hb); have n10_ := Aside0.mk (below_step b_now hb); clear HO_8; clear HO_72; clear HO657; clear HO665; clear BK631; clear BK632; clear BK633; clear BK634; clear BK635; clear HB; clear HO670; have HO_8 := n0_; have HO_72 := n1_; have HO657 := n2_; have HO665 := n3_; have HO673 := n4_; have BK631 := n5_; have BK632 := n6_; have BK633 := n7_; have BK634 := n8_; have BK635 := n9_; have HB := n10_; clear n0_ n1_ n2_ n3_ n4_ n5_ n6_ n7_ n8_ n9_ n10_; clear hb ho164; obtain ⟨Ao165, co165, eo165⟩ := Kd.N_slice HO673.out; subst eo165) | ((with_reducible refine gate_callee (f := 13) rfl ?_); refine sh_call (some 118) Tryd.func13 #[.slice Ao165 y671.length co165] ?_; (with_reducible refine (rule_Check.calls k2 _ _ y671 t674 t675 _ ?side1 ?side2 A139.out).mono ?_); (case side1 => repeat (first | exact (Kd.N_reads' HO673.out).2.2 | (with_reducible refine Kd.C_alloc ?_ _) | (with_reducible refine Kd.C_drewN ?_ _) | (with_reducible refine Kd.C_drew ?_))); (case side2 => exact (Kd.N_reads' HO673.out).2.1); rintro e w166 ⟨rfl, hb⟩; refine ⟨_, rfl, ?_⟩; replace HO_8 := Aside0.mk (Kd.R_below (by (with_reducible repeat (first | apply Kd.R_alloc | apply Kd.R_drewN | apply Kd.R_drew)); exact HO_8.out) hb); replace HO_72 := Aside0.mk (Kd.R_below (by (with_reducible repeat (first | apply Kd.R_alloc | apply Kd.R_drewN | apply Kd.R_drew)); exact HO_72.out) hb); replace HO657 := Aside0.mk (Kd.N_below (by (with_reducible repeat (first | apply Kd.N_alloc | apply Kd.N_drewN | apply Kd.N_drew)); exact HO657.out) hb); replace HO665 := Aside0.mk (Kd.N_below (by (with_reducible repeat (first | apply Kd.N_alloc | apply Kd.N_drewN | apply Kd.N_drew)); exact HO665.out) hb); replace HO673 := Aside0.mk (Kd.N_below (by (with_reducible repeat (first | apply Kd.N_alloc | apply Kd.N_drewN | apply Kd.N_drew)); exact HO673.out) hb); replace BK631 := sh_k BK631 hb; replace BK632 := sh_k BK632 hb; replace BK633 := sh_k BK633 hb; replace BK634 := sh_k BK634 hb; replace BK635 := sh_k BK635 hb; replace HB := sh_b (w := w) hb; (try clear hb); (try clear hb2); (try clear hk); (try clear hi)) | (go_at_call 11; (with_reducible refine (stockadelaw18_wakes.calls k2  t676 _ ?side1 (by first | rfl | exact HRT.out) A146.out).mono ?_); (case side1 => repeat (first | exact (Kd.C_below HRG0.out HB.out) | (with_reducible refine Kd.C_alloc ?_ _) | (with_reducible refine Kd.C_drewN ?_ _) | (with_reducible refine Kd.C_drew ?_))); rintro e w167 ⟨rfl, hb⟩; replace HO_8 := Aside0.mk (Kd.R_below (by (with_reducible repeat (first | apply Kd.R_alloc | apply Kd.R_drewN | apply Kd.R_drew)); exact HO_8.out) hb); replace HO_72 := Aside0.mk (Kd.R_below (by (with_reducible repeat (first | apply Kd.R_alloc | apply Kd.R_drewN | apply Kd.R_drew)); exact HO_72.out) hb); replace HO657 := Aside0.mk (Kd.N_below (by (with_reducible repeat (first | apply Kd.N_alloc | apply Kd.N_drewN | apply Kd.N_drew)); exact HO657.out) hb); replace HO665 := Aside0.mk (Kd.N_below (by (with_reducible repeat (first | apply Kd.N_alloc | apply Kd.N_drewN | apply Kd.N_drew)); exact HO665.out) hb); replace HO673 := Aside0.mk (Kd.N_below (by (with_reducible repeat (first | apply Kd.N_alloc | apply Kd.N_drewN | apply Kd.N_drew)); exact HO673.out) hb); replace BK631 := sh_k BK631 hb; replace BK632 := sh_k BK632 hb; replace BK633 := sh_k BK633 hb; replace BK634 := sh_k BK634 hb; replace BK635 := sh_k BK635 hb; replace HB := sh_b (w := w) hb; (try clear hb); (try clear hb2); (try clear hk); (try clear hi)))
                go_ret
                exact ⟨ret_now, b_now⟩
               ·rw [if_neg c145] at H
                have c145b0 : (t675 == 1) = false := beq_eq_false_iff_ne.mpr c145
                have c145b1 : (t675 != 1) = true := bne_iff_ne.mpr c145
                obtain rfl := Option.some.inj H
                exact absurd HRT.out (by simp)
              ·rw [if_neg c144] at H
               have c144b0 : (t667 == 3) = false := beq_eq_false_iff_ne.mpr c144
               have c144b1 : (t667 != 3) = true := bne_iff_ne.mpr c144
               obtain rfl := Option.some.inj H
               exact absurd HRT.out (by simp)
             ·rw [if_neg c143] at H
              have c143b0 : (t666 == 1) = false := beq_eq_false_iff_ne.mpr c143
              have c143b1 : (t666 != 1) = true := bne_iff_ne.mpr c143
              obtain rfl := Option.some.inj H
              exact absurd HRT.out (by simp)
            ·rw [if_neg c142] at H
             have c142b0 : (t659 == 3) = false := beq_eq_false_iff_ne.mpr c142
             have c142b1 : (t659 != 3) = true := bne_iff_ne.mpr c142
             obtain rfl := Option.some.inj H
             exact absurd HRT.out (by simp)
           ·rw [if_neg c141] at H
            have c141b0 : (t654 == (-1)) = false := beq_eq_false_iff_ne.mpr c141
            have c141b1 : (t654 != (-1)) = true := bne_iff_ne.mpr c141
            obtain rfl := Option.some.inj H
            exact absurd HRT.out (by simp)
          ·rw [if_neg c140] at H
           have c140b0 : (t653 == 0) = false := beq_eq_false_iff_ne.mpr c140
           have c140b1 : (t653 != 0) = true := bne_iff_ne.mpr c140
           obtain rfl := Option.some.inj H
           exact absurd HRT.out (by simp)
         ·rw [if_neg c138] at H
          exact absurd H (by simp)
        ·rw [if_neg c136] at H
         exact absurd H (by simp)
       ·rw [if_neg c134] at H
        exact absurd H (by simp)

end Go.Proofs.YtighficpbplkhaaDoor.P
