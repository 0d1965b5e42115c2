/- Made by this session's driver over the kit's printer: for each Go function a Lean function with the same answers, and a proof that the Go call comes to these answers; no conditions but the ones each theorem names. -/
import Derived.Test.YtighficpbplkhaaDoorPx0
import Derived.Test.YtighficpbplkhaaDoorPx22
import Derived.Test.YtighficpbplkhaaDoorPx23
import Derived.Test.YtighficpbplkhaaDoorPx30
import Derived.Test.YtighficpbplkhaaDoorPxXXNr
namespace Go.Proofs.YtighficpbplkhaaDoor.P
open Go.RowKit Go.Proofs.YtighficpbplkhaaDoorW.PrintWords Go.Proofs.YtighficpbplkhaaDoorW.PrintLast Go.Proofs.YtighficpbplkhaaDoorW.PrintMore
attribute [local go_sem] max2_int min2_int max_two min_two max_three min_three max_four min_four   -- for this text's walks alone
set_option linter.unusedVariables false
set_option linter.unusedSimpArgs false

theorem name_any {P : Program} {c : Code} {Q : Exit → Act → World → Prop} {a : Act} {W : World} (R : World → Prop) (hR : R W) (h : ∀ W', R W' → Code.wp P c Q a W') : Code.wp P c Q a W := h W hR
/-! ### stockaderef18_reader_test: function 59 -/
mutual
def stockaderef18_reader_test.j2 : Nat → ByteArray → Int → Bool → Bool → Int → Int → Int → Int → Int → Int → Option (Bool × Int × Int × Int × Int × Int × Int × ByteArray × Int × Bool)
 | 0, _, _, _, _, _, _, _, _, _, _ => none
 | k + 1, x1000, x1001, x1002, x411000, x411001, x411002, x411003, x411004, x411005, x411006 => (stockaderef18_Full.f k 8).bind fun t461 => ((stockaderef18_reader_number.f k x1000 x1001 x1002 t461).bind fun bt462 => ((stockaderef18_reader_must.f bt462.2.1 bt462.2.2.1 bt462.2.2.2 (⟨#[46, 46]⟩ : ByteArray)).bind fun bt466 => ((stockaderef18_Full.f k 8).bind fun t469 => ((stockaderef18_reader_number.f k bt466.1 bt466.2.1 bt466.2.2 t469).bind fun bt470 => (if bt470.2.2.2 = true then (some (x411000, x411001, x411002, x411003, x411004, bt462.1, bt470.1, bt470.2.1, bt470.2.2.1, true)) else ((stockaderef18_May.f k x411000 x411001 x411002 x411003 x411004 bt462.1 bt470.1).bind fun t474 => (some (x411000, x411001, x411002, x411003, x411004, bt462.1, bt470.1, bt470.2.1, bt470.2.2.1, !t474))))))))
def stockaderef18_reader_test.j0 : Nat → ByteArray → Int → Bool → Bool → Int → Int → Int → Int → Int → Int → Option (Bool × Int × Int × Int × Int × Int × Int × ByteArray × Int × Bool)
 | 0, _, _, _, _, _, _, _, _, _, _ => none
 | k + 1, x1000, x1001, x1002, x411000, x411001, x411002, x411003, x411004, x411005, x411006 => (stockaderef18_reader_must.f x1000 x1001 x1002 (⟨#[117]⟩ : ByteArray)).bind fun bt427 => ((stockaderef18_reader_number.f k bt427.1 bt427.2.1 bt427.2.2 64).bind fun bt430 => (if bt430.2.2.2 = true then (stockaderef18_reader_test.j1 k bt430.2.1 bt430.2.2.1 true x411000 x411001 x411002 (wrap64 (IntKind.u64.wrap (Int.tdiv bt430.1 8))) x411004 x411005 x411006) else (if bt430.1 = 8 then (stockaderef18_reader_test.j1 k bt430.2.1 bt430.2.2.1 false x411000 x411001 x411002 (wrap64 (IntKind.u64.wrap (Int.tdiv bt430.1 8))) x411004 x411005 x411006) else (if bt430.1 = 16 then (stockaderef18_reader_test.j1 k bt430.2.1 bt430.2.2.1 false x411000 x411001 x411002 (wrap64 (IntKind.u64.wrap (Int.tdiv bt430.1 8))) x411004 x411005 x411006) else (if bt430.1 = 32 then (stockaderef18_reader_test.j1 k bt430.2.1 bt430.2.2.1 false x411000 x411001 x411002 (wrap64 (IntKind.u64.wrap (Int.tdiv bt430.1 8))) x411004 x411005 x411006) else (stockaderef18_reader_test.j1 k bt430.2.1 bt430.2.2.1 (bt430.1 != 64) x411000 x411001 x411002 (wrap64 (IntKind.u64.wrap (Int.tdiv bt430.1 8))) x411004 x411005 x411006))))))
def stockaderef18_reader_test.j1 : Nat → ByteArray → Int → Bool → Bool → Int → Int → Int → Int → Int → Int → Option (Bool × Int × Int × Int × Int × Int × Int × ByteArray × Int × Bool)
 | 0, _, _, _, _, _, _, _, _, _, _ => none
 | k + 1, x1000, x1001, x1002, x411000, x411001, x411002, x411003, x411004, x411005, x411006 => (stockaderef18_reader_must.f x1000 x1001 x1002 (⟨#[64]⟩ : ByteArray)).bind fun bt434 => ((stockaderef18_reader_number.f k bt434.1 bt434.2.1 bt434.2.2 255).bind fun bt437 => ((stockaderef18_Full.f k x411003).bind fun t441 => ((stockaderef18_reader_has.f bt437.2.1 bt437.2.2.1 bt437.2.2.2 (⟨#[47]⟩ : ByteArray)).bind fun bt442 => (if bt442.1 = true then ((stockaderef18_Full.f k 8).bind fun t446 => ((stockaderef18_reader_number.f k bt442.2.1 bt442.2.2.1 bt442.2.2.2 t446).bind fun bt447 => (if bt447.2.2.2 = true then ((stockaderef18_reader_must.f bt447.2.1 bt447.2.2.1 true (⟨#[32]⟩ : ByteArray)).bind fun bt451 => (stockaderef18_reader_test.j2 k bt451.1 bt451.2.1 bt451.2.2 x411000 x411001 (wrap64 (bt437.1)) x411003 bt447.1 x411005 x411006)) else ((stockaderef18_Full.f k x411003).bind fun t454 => ((stockaderef18_reader_must.f bt447.2.1 bt447.2.2.1 (decide (bt447.1 ≥ t454)) (⟨#[32]⟩ : ByteArray)).bind fun bt455 => (stockaderef18_reader_test.j2 k bt455.1 bt455.2.1 bt455.2.2 x411000 x411001 (wrap64 (bt437.1)) x411003 bt447.1 x411005 x411006)))))) else ((stockaderef18_reader_must.f bt442.2.1 bt442.2.2.1 bt442.2.2.2 (⟨#[32]⟩ : ByteArray)).bind fun bt458 => (stockaderef18_reader_test.j2 k bt458.1 bt458.2.1 bt458.2.2 x411000 x411001 (wrap64 (bt437.1)) x411003 t441 x411005 x411006))))))
end
def stockaderef18_reader_test.f (k : Nat) (s0_0 : ByteArray) (s0_1 : Int) (s0_2 : Bool) : Option (Bool × Int × Int × Int × Int × Int × Int × ByteArray × Int × Bool) := (stockaderef18_reader_has.f s0_0 s0_1 s0_2 (⟨#[110, 111, 116, 32]⟩ : ByteArray)).bind fun bt411 => ((stockaderef18_reader_has.f bt411.2.1 bt411.2.2.1 bt411.2.2.2 (⟨#[108, 101, 110, 32]⟩ : ByteArray)).bind fun bt415 => (if bt415.1 = true then (stockaderef18_reader_test.j2 k bt415.2.1 bt415.2.2.1 bt415.2.2.2 bt411.1 1 0 0 0 0 0) else ((stockaderef18_reader_has.f bt415.2.1 bt415.2.2.1 bt415.2.2.2 (⟨#[105, 110, 32]⟩ : ByteArray)).bind fun bt419 => (if bt419.1 = true then (stockaderef18_reader_test.j2 k bt419.2.1 bt419.2.2.1 bt419.2.2.2 bt411.1 2 0 0 0 0 0) else ((stockaderef18_reader_has.f bt419.2.1 bt419.2.2.1 bt419.2.2.2 (⟨#[112, 97, 115, 116, 32]⟩ : ByteArray)).bind fun bt423 => (if bt423.1 = true then (stockaderef18_reader_test.j0 k bt423.2.1 bt423.2.2.1 bt423.2.2.2 bt411.1 4 0 0 0 0 0) else (stockaderef18_reader_test.j0 k bt423.2.1 bt423.2.2.1 bt423.2.2.2 bt411.1 3 0 0 0 0 0)))))))
theorem stockaderef18_reader_test.mono_l : ∀ k, (∀ y0 y1 y2 y3 y4 y5 y6 y7 y8 y9, LeO (stockaderef18_reader_test.j2 k y0 y1 y2 y3 y4 y5 y6 y7 y8 y9) (stockaderef18_reader_test.j2 (k + 1) y0 y1 y2 y3 y4 y5 y6 y7 y8 y9)) ∧ (∀ y0 y1 y2 y3 y4 y5 y6 y7 y8 y9, LeO (stockaderef18_reader_test.j0 k y0 y1 y2 y3 y4 y5 y6 y7 y8 y9) (stockaderef18_reader_test.j0 (k + 1) y0 y1 y2 y3 y4 y5 y6 y7 y8 y9)) ∧ (∀ y0 y1 y2 y3 y4 y5 y6 y7 y8 y9, LeO (stockaderef18_reader_test.j1 k y0 y1 y2 y3 y4 y5 y6 y7 y8 y9) (stockaderef18_reader_test.j1 (k + 1) y0 y1 y2 y3 y4 y5 y6 y7 y8 y9))
 | 0 => ⟨fun _ _ _ _ _ _ _ _ _ _ r h => by simp [stockaderef18_reader_test.j2] at h, fun _ _ _ _ _ _ _ _ _ _ r h => by simp [stockaderef18_reader_test.j0] at h, fun _ _ _ _ _ _ _ _ _ _ r h => by simp [stockaderef18_reader_test.j1] at h⟩
 | k + 1 => by
  obtain ⟨ih0, ih1, ih2⟩ := stockaderef18_reader_test.mono_l k
  refine ⟨?_, ?_, ?_⟩
  ·intro y0 y1 y2 y3 y4 y5 y6 y7 y8 y9
   unfold stockaderef18_reader_test.j2
   repeat' first
   | (with_reducible exact ih0 _ _ _ _ _ _ _ _ _ _)
   | (with_reducible exact ih1 _ _ _ _ _ _ _ _ _ _)
   | (with_reducible exact ih2 _ _ _ _ _ _ _ _ _ _)
   | (with_reducible exact stockaderef18_Full.mono _ _)
   | (with_reducible exact stockaderef18_May.mono _ _ _ _ _ _ _ _)
   | (with_reducible exact stockaderef18_reader_number.mono _ _ _ _ _)
   | (with_reducible exact LeO.refl _)
   | (with_reducible exact LeO.none _)
   | (with_reducible refine LeO.ite ?_ ?_)
   | (with_reducible refine LeO.bind ?_ (fun _ => ?_))
   | exact ih0 _ _ _ _ _ _ _ _ _ _
   | exact ih1 _ _ _ _ _ _ _ _ _ _
   | exact ih2 _ _ _ _ _ _ _ _ _ _
   | exact stockaderef18_Full.mono _ _
   | exact stockaderef18_May.mono _ _ _ _ _ _ _ _
   | exact stockaderef18_reader_number.mono _ _ _ _ _
   | exact LeO.none _
   | refine LeO.ite ?_ ?_
   | refine LeO.bind ?_ (fun _ => ?_)
  ·intro y0 y1 y2 y3 y4 y5 y6 y7 y8 y9
   unfold stockaderef18_reader_test.j0
   repeat' first
   | (with_reducible exact ih0 _ _ _ _ _ _ _ _ _ _)
   | (with_reducible exact ih1 _ _ _ _ _ _ _ _ _ _)
   | (with_reducible exact ih2 _ _ _ _ _ _ _ _ _ _)
   | (with_reducible exact stockaderef18_Full.mono _ _)
   | (with_reducible exact stockaderef18_May.mono _ _ _ _ _ _ _ _)
   | (with_reducible exact stockaderef18_reader_number.mono _ _ _ _ _)
   | (with_reducible exact LeO.refl _)
   | (with_reducible exact LeO.none _)
   | (with_reducible refine LeO.ite ?_ ?_)
   | (with_reducible refine LeO.bind ?_ (fun _ => ?_))
   | exact ih0 _ _ _ _ _ _ _ _ _ _
   | exact ih1 _ _ _ _ _ _ _ _ _ _
   | exact ih2 _ _ _ _ _ _ _ _ _ _
   | exact stockaderef18_Full.mono _ _
   | exact stockaderef18_May.mono _ _ _ _ _ _ _ _
   | exact stockaderef18_reader_number.mono _ _ _ _ _
   | exact LeO.none _
   | refine LeO.ite ?_ ?_
   | refine LeO.bind ?_ (fun _ => ?_)
  ·intro y0 y1 y2 y3 y4 y5 y6 y7 y8 y9
   unfold stockaderef18_reader_test.j1
   repeat' first
   | (with_reducible exact ih0 _ _ _ _ _ _ _ _ _ _)
   | (with_reducible exact ih1 _ _ _ _ _ _ _ _ _ _)
   | (with_reducible exact ih2 _ _ _ _ _ _ _ _ _ _)
   | (with_reducible exact stockaderef18_Full.mono _ _)
   | (with_reducible exact stockaderef18_May.mono _ _ _ _ _ _ _ _)
   | (with_reducible exact stockaderef18_reader_number.mono _ _ _ _ _)
   | (with_reducible exact LeO.refl _)
   | (with_reducible exact LeO.none _)
   | (with_reducible refine LeO.ite ?_ ?_)
   | (with_reducible refine LeO.bind ?_ (fun _ => ?_))
   | exact ih0 _ _ _ _ _ _ _ _ _ _
   | exact ih1 _ _ _ _ _ _ _ _ _ _
   | exact ih2 _ _ _ _ _ _ _ _ _ _
   | exact stockaderef18_Full.mono _ _
   | exact stockaderef18_May.mono _ _ _ _ _ _ _ _
   | exact stockaderef18_reader_number.mono _ _ _ _ _
   | exact LeO.none _
   | refine LeO.ite ?_ ?_
   | refine LeO.bind ?_ (fun _ => ?_)
theorem stockaderef18_reader_test.mono : ∀ a0 a1 a2 k, LeO (stockaderef18_reader_test.f k a0 a1 a2) (stockaderef18_reader_test.f (k + 1) a0 a1 a2) := by
 intro a0 a1 a2 k
 obtain ⟨ih0, ih1, ih2⟩ := stockaderef18_reader_test.mono_l k
 unfold stockaderef18_reader_test.f
 repeat' first
   | (with_reducible exact ih0 _ _ _ _ _ _ _ _ _ _)
   | (with_reducible exact ih1 _ _ _ _ _ _ _ _ _ _)
   | (with_reducible exact ih2 _ _ _ _ _ _ _ _ _ _)
   | (with_reducible exact stockaderef18_Full.mono _ _)
   | (with_reducible exact stockaderef18_May.mono _ _ _ _ _ _ _ _)
   | (with_reducible exact stockaderef18_reader_number.mono _ _ _ _ _)
   | (with_reducible exact LeO.refl _)
   | (with_reducible exact LeO.none _)
   | (with_reducible refine LeO.ite ?_ ?_)
   | (with_reducible refine LeO.bind ?_ (fun _ => ?_))
   | exact ih0 _ _ _ _ _ _ _ _ _ _
   | exact ih1 _ _ _ _ _ _ _ _ _ _
   | exact ih2 _ _ _ _ _ _ _ _ _ _
   | exact stockaderef18_Full.mono _ _
   | exact stockaderef18_May.mono _ _ _ _ _ _ _ _
   | exact stockaderef18_reader_number.mono _ _ _ _ _
   | exact LeO.none _
   | refine LeO.ite ?_ ?_
   | refine LeO.bind ?_ (fun _ => ?_)
set_option maxHeartbeats 8000000 in
set_option maxRecDepth 100000 in
theorem stockaderef18_reader_test.calls (k : Nat) (g : Nat) (s0_0 : ByteArray) (s0_1 : Int) (s0_2 : Bool) (r1 : Bool) (r2 : Int) (r3 : Int) (r4 : Int) (r5 : Int) (r6 : Int) (r7 : Int) (r8 : ByteArray) (r9 : Int) (r10 : Bool) (w0 w : World) (hI : IsS112 w0 w g s0_0 s0_1 s0_2) (hB : Below w0.heap.size w0 w) (h : stockaderef18_reader_test.f k s0_0 s0_1 s0_2 = some (r1, r2, r3, r4, r5, r6, r7, r8, r9, r10)) :
  Calls Tryd.prog 59 #[.pointer (some ⟨g, 0, none⟩)] w fun e w' => e = .returned (.agg #[.bool r1, .int .i64 r2, .int .i64 r3, .int .i64 r4, .int .u64 r5, .int .u64 r6, .int .u64 r7]) ∧ IsS112 w0 w' g r8 r9 r10 ∧ Below w0.heap.size w0 w' ∧ KeepBut w w' g none := by
 have hu55 := Tryd.underlying55
 have HI0 := Aside0.mk hI
 have HK := Aside0.mk (KeepBut.refl w g none)
 have HL := Aside0.mk hB.size
 clear hI
 have HW0 := Aside0.mk hB.size
 have HB := Aside0.mk hB
 clear hB
 have H : ((stockaderef18_reader_has.f s0_0 s0_1 s0_2 (⟨#[110, 111, 116, 32]⟩ : ByteArray)).bind fun bt411 => ((stockaderef18_reader_has.f bt411.2.1 bt411.2.2.1 bt411.2.2.2 (⟨#[108, 101, 110, 32]⟩ : ByteArray)).bind fun bt415 => (if bt415.1 = true then (stockaderef18_reader_test.j2 k bt415.2.1 bt415.2.2.1 bt415.2.2.2 bt411.1 1 0 0 0 0 0) else ((stockaderef18_reader_has.f bt415.2.1 bt415.2.2.1 bt415.2.2.2 (⟨#[105, 110, 32]⟩ : ByteArray)).bind fun bt419 => (if bt419.1 = true then (stockaderef18_reader_test.j2 k bt419.2.1 bt419.2.2.1 bt419.2.2.2 bt411.1 2 0 0 0 0 0) else ((stockaderef18_reader_has.f bt419.2.1 bt419.2.2.1 bt419.2.2.2 (⟨#[112, 97, 115, 116, 32]⟩ : ByteArray)).bind fun bt423 => (if bt423.1 = true then (stockaderef18_reader_test.j0 k bt423.2.1 bt423.2.2.1 bt423.2.2.2 bt411.1 4 0 0 0 0 0) else (stockaderef18_reader_test.j0 k bt423.2.1 bt423.2.2.1 bt423.2.2.2 bt411.1 3 0 0 0 0 0)))))))) = some (r1, r2, r3, r4, r5, r6, r7, r8, r9, r10) := h
 clear h
 replace H := Option.bind_eq_some_iff.mp H; obtain ⟨⟨t411, t412, t413, t414⟩, A20, H⟩ := H; try dsimp only at H
 have A2 := Aside0.mk A20
 clear A20
 replace H := Option.bind_eq_some_iff.mp H; obtain ⟨⟨t415, t416, t417, t418⟩, A30, H⟩ := H; try dsimp only at H
 have A3 := Aside0.mk A30
 clear A30
 have HC4 := Aside0.mk H
 clear H
 go_enter Tryd.func59, Tryd.ntmps59
 go_upto_if 10 with (first | ((with_reducible refine gate_dst (N := 2) rfl ?_); refine sh_box 2 #[.bool false, .int .i64 0, .int .i64 0, .int .i64 0, .int .u64 0, .int .u64 0, .int .u64 0] 55 ?_; intro gb409 hg w5 hbox hb; have n0_ := Aside0.mk (IsS112.below (is_now) hb); have n1_ := Aside0.mk (KeepBut.trans (ik_now (w := w)) (KeepBut.of_below hb g none) (.inl rfl)); have n2_ := Aside0.mk (below_step (ib_now) hb); have n3_ := Aside0.mk (hbox); have n4_ := Aside0.mk ((by rw [hg]; exact (keep_size (w := w) (g := g) (row := none) (ik_now (w := w))) : w.heap.size ≤ gb409)); have n5_ := Aside0.mk ((Nat.le_trans HW0.out (by rw [hg]; exact (keep_size (w := w) (g := g) (row := none) (ik_now (w := w))) : w.heap.size ≤ gb409) : w0.heap.size ≤ gb409)); have n6_ := Aside0.mk ((by rw [hg]; exact Nat.ne_of_lt (IsS112.lt (show IsS112 w0 _ g s0_0 s0_1 s0_2 from is_now)) : g ≠ gb409)); have n7_ := Aside0.mk ((by rw [hg]; exact Nat.ne_of_gt (IsS112.lt (show IsS112 w0 _ g s0_0 s0_1 s0_2 from is_now)) : gb409 ≠ g)); clear HI0; clear HK; clear HB; have HI0 := n0_; have HK := n1_; have HB := n2_; have BK409 := n3_; have GW409 := n4_; have GE409 := n5_; have NB0_409 := n6_; have NB409_0 := n7_; clear n0_ n1_ n2_ n3_ n4_ n5_ n6_ n7_; clear hb hbox hg) | ((with_reducible refine gate_dst (N := 3) rfl ?_); refine sh_box 3 #[.bool false, .int .i64 0, .int .i64 0, .int .i64 0, .int .u64 0, .int .u64 0, .int .u64 0] 55 ?_; intro gb410 hg w6 hbox hb; have n0_ := Aside0.mk (IsS112.below (is_now) hb); have n1_ := Aside0.mk (blk_below (g := gb409) (o := .cells #[.bool false, .int .i64 0, .int .i64 0, .int .i64 0, .int .u64 0, .int .u64 0, .int .u64 0] 55 (0, 0)) bk_now hb); have n2_ := Aside0.mk (KeepBut.trans (ik_now (w := w)) (KeepBut.of_below hb g none) (.inl rfl)); have n3_ := Aside0.mk (below_step (ib_now) hb); have n4_ := Aside0.mk (hbox); have n5_ := Aside0.mk ((by rw [hg]; exact (keep_size (w := w) (g := g) (row := none) (ik_now (w := w))) : w.heap.size ≤ gb410)); have n6_ := Aside0.mk ((Nat.le_trans HW0.out (by rw [hg]; exact (keep_size (w := w) (g := g) (row := none) (ik_now (w := w))) : w.heap.size ≤ gb410) : w0.heap.size ≤ gb410)); have n7_ := Aside0.mk ((by rw [hg]; exact Nat.ne_of_lt (blk_lt (g := gb409) (o := .cells #[.bool false, .int .i64 0, .int .i64 0, .int .i64 0, .int .u64 0, .int .u64 0, .int .u64 0] 55 (0, 0)) bk_now) : gb409 ≠ gb410)); have n8_ := Aside0.mk ((by rw [hg]; exact Nat.ne_of_gt (blk_lt (g := gb409) (o := .cells #[.bool false, .int .i64 0, .int .i64 0, .int .i64 0, .int .u64 0, .int .u64 0, .int .u64 0] 55 (0, 0)) bk_now) : gb410 ≠ gb409)); have n9_ := Aside0.mk ((by rw [hg]; exact Nat.ne_of_lt (IsS112.lt (show IsS112 w0 _ g s0_0 s0_1 s0_2 from is_now)) : g ≠ gb410)); have n10_ := Aside0.mk ((by rw [hg]; exact Nat.ne_of_gt (IsS112.lt (show IsS112 w0 _ g s0_0 s0_1 s0_2 from is_now)) : gb410 ≠ g)); clear HI0; clear BK409; clear HK; clear HB; have HI0 := n0_; have BK409 := n1_; have HK := n2_; have HB := n3_; have BK410 := n4_; have GW410 := n5_; have GE410 := n6_; have NB409_410 := n7_; have NB410_409 := n8_; have NB0_410 := n9_; have NB410_0 := n10_; clear n0_ n1_ n2_ n3_ n4_ n5_ n6_ n7_ n8_ n9_ n10_; clear hb hbox hg; have hnb7 := NB410_409.out; have hnc7 := NB409_410.out; have hnb8 := NB410_0.out; have hnc8 := NB0_410.out; have hcz9 := blk_all7 BK410.out) | ((with_reducible refine gate_callee (f := 58) rfl ?_); refine sh_call (some 7) Tryd.func58 #[.pointer (some ⟨g, 0, none⟩), .string (⟨#[110, 111, 116, 32]⟩ : ByteArray)] ?_; (with_reducible refine (stockaderef18_reader_has.calls g s0_0 s0_1 s0_2 (⟨#[110, 111, 116, 32]⟩ : ByteArray) t411 t412 t413 t414 w0 _ ?side1 ?side2 A2.out).mono ?_); (case side1 => exact is_now); (case side2 => exact ib_now); rintro e w10 ⟨rfl, hi, hb, hk⟩; refine ⟨_, rfl, ?_⟩; replace BK409 := Aside0.mk (KeepBut.blk hk (g' := gb409) (o := .cells #[.bool false, .int .i64 0, .int .i64 0, .int .i64 0, .int .u64 0, .int .u64 0, .int .u64 0] 55 (0, 0)) bk_now NB409_0.out (by simp)); replace BK410 := Aside0.mk (KeepBut.blk hk (g' := gb410) (o := .cells #[.bool false, .int .i64 0, .int .i64 0, .int .i64 0, .int .u64 0, .int .u64 0, .int .u64 0] 55 (0, 0)) bk_now NB410_0.out (by simp)); replace HK := Aside0.mk (KeepBut.trans (ik_now (w := w)) hk (.inl rfl)); replace HI0 := Aside0.mk (hi); replace HB := Aside0.mk (hb); (try clear hb); (try clear hb2); (try clear hk); (try clear hi); have hcz11 := blk_all7 BK410.out) | ((with_reducible refine gate_callee (f := 58) rfl ?_); refine sh_call (some 10) Tryd.func58 #[.pointer (some ⟨g, 0, none⟩), .string (⟨#[108, 101, 110, 32]⟩ : ByteArray)] ?_; (with_reducible refine (stockaderef18_reader_has.calls g t412 t413 t414 (⟨#[108, 101, 110, 32]⟩ : ByteArray) t415 t416 t417 t418 w0 _ ?side1 ?side2 A3.out).mono ?_); (case side1 => exact is_now); (case side2 => exact ib_now); rintro e w12 ⟨rfl, hi, hb, hk⟩; refine ⟨_, rfl, ?_⟩; replace BK409 := Aside0.mk (KeepBut.blk hk (g' := gb409) (o := .cells #[.bool false, .int .i64 0, .int .i64 0, .int .i64 0, .int .u64 0, .int .u64 0, .int .u64 0] 55 (0, 0)) bk_now NB409_0.out (by simp)); replace BK410 := Aside0.mk (KeepBut.blk hk (g' := gb410) (o := .cells #[.bool t411, .int .i64 0, .int .i64 0, .int .i64 0, .int .u64 0, .int .u64 0, .int .u64 0] 55 (0, 0)) bk_now NB410_0.out (by simp)); replace HK := Aside0.mk (KeepBut.trans (ik_now (w := w)) hk (.inl rfl)); replace HI0 := Aside0.mk (hi); replace HB := Aside0.mk (hb); (try clear hb); (try clear hb2); (try clear hk); (try clear hi)))
 (try simp only [Act.put, List.setIfInBounds_toArray, List.set_cons_zero, List.set_cons_succ])
 go_cut [] (fun wc => ∃ (kq : Nat) (x1000_3 : ByteArray) (x1001_3 : Int) (x1002_3 : Bool) (x411001_3 : Int) (x411002_3 : Int) (x411003_3 : Int) (x411004_3 : Int), Aside0 (stockaderef18_reader_test.j2 kq x1000_3 x1001_3 x1002_3 t411 x411001_3 x411002_3 x411003_3 x411004_3 0 0 = some (r1, r2, r3, r4, r5, r6, r7, r8, r9, r10)) ∧ Aside0 (kq ≤ k) ∧ Aside0 (wc.heap[gb409]? = some (.cells #[.bool false, .int .i64 0, .int .i64 0, .int .i64 0, .int .u64 0, .int .u64 0, .int .u64 0] 55 (0, 0))) ∧ Aside0 (wc.heap[gb410]? = some (.cells #[.bool t411, .int .i64 x411001_3, .int .i64 x411002_3, .int .i64 x411003_3, .int .u64 x411004_3, .int .u64 0, .int .u64 0] 55 (0, 0))) ∧ Aside0 (IsS112 w0 wc g x1000_3 x1001_3 x1002_3) ∧ Aside0 (KeepBut w wc g none) ∧ Aside0 (Below w0.heap.size w0 wc))
 case first =>
  have H := HC4.out
  clear HC4
  by_cases c13 : t415 = true
  ·subst c13
   replace H := sh_t H
   have H' := Aside0.mk H
   clear H
   have hnb14 := NB410_409.out
   have hnc14 := NB409_410.out
   have hnb15 := NB410_0.out
   have hnc15 := NB0_410.out
   have hcz16 := blk_all7 BK410.out
   go_wp2
   go_meet
   case rel => exact ⟨_, (t416), (t417), (t418), (1), (0), (0), (0), H', ⟨by first | omega | exact Nat.le_refl _⟩, ⟨bk_now⟩, ⟨bk_now⟩, ⟨is_now⟩, ⟨ik_now (w := w)⟩, ⟨ib_now⟩⟩
  ·replace c13 := Bool.eq_false_iff.mpr c13
   subst c13
   replace H := sh_f H
   replace H := Option.bind_eq_some_iff.mp H; obtain ⟨⟨t419, t420, t421, t422⟩, A170, H⟩ := H; try dsimp only at H
   have A17 := Aside0.mk A170
   clear A170
   by_cases c18 : t419 = true
   ·subst c18
    replace H := sh_t H
    have H' := Aside0.mk H
    clear H
    go_wp2_with (first | ((with_reducible refine gate_callee (f := 58) rfl ?_); refine sh_call (some 13) Tryd.func58 #[.pointer (some ⟨g, 0, none⟩), .string (⟨#[105, 110, 32]⟩ : ByteArray)] ?_; (with_reducible refine (stockaderef18_reader_has.calls g t416 t417 t418 (⟨#[105, 110, 32]⟩ : ByteArray) true t420 t421 t422 w0 _ ?side1 ?side2 A17.out).mono ?_); (case side1 => exact is_now); (case side2 => exact ib_now); rintro e w19 ⟨rfl, hi, hb, hk⟩; refine ⟨_, rfl, ?_⟩; replace BK409 := Aside0.mk (KeepBut.blk hk (g' := gb409) (o := .cells #[.bool false, .int .i64 0, .int .i64 0, .int .i64 0, .int .u64 0, .int .u64 0, .int .u64 0] 55 (0, 0)) bk_now NB409_0.out (by simp)); replace BK410 := Aside0.mk (KeepBut.blk hk (g' := gb410) (o := .cells #[.bool t411, .int .i64 0, .int .i64 0, .int .i64 0, .int .u64 0, .int .u64 0, .int .u64 0] 55 (0, 0)) bk_now NB410_0.out (by simp)); replace HK := Aside0.mk (KeepBut.trans (ik_now (w := w)) hk (.inl rfl)); replace HI0 := Aside0.mk (hi); replace HB := Aside0.mk (hb); (try clear hb); (try clear hb2); (try clear hk); (try clear hi); have hnb20 := NB410_409.out; have hnc20 := NB409_410.out; have hnb21 := NB410_0.out; have hnc21 := NB0_410.out; have hcz22 := blk_all7 BK410.out))
    go_meet
    case rel => exact ⟨_, (t420), (t421), (t422), (2), (0), (0), (0), H', ⟨by first | omega | exact Nat.le_refl _⟩, ⟨bk_now⟩, ⟨bk_now⟩, ⟨is_now⟩, ⟨ik_now (w := w)⟩, ⟨ib_now⟩⟩
   ·replace c18 := Bool.eq_false_iff.mpr c18
    subst c18
    replace H := sh_f H
    replace H := Option.bind_eq_some_iff.mp H; obtain ⟨⟨t423, t424, t425, t426⟩, A230, H⟩ := H; try dsimp only at H
    have A23 := Aside0.mk A230
    clear A230
    have HC24 := Aside0.mk H
    clear H
    go_upto_if 17 with (first | ((with_reducible refine gate_callee (f := 58) rfl ?_); refine sh_call (some 13) Tryd.func58 #[.pointer (some ⟨g, 0, none⟩), .string (⟨#[105, 110, 32]⟩ : ByteArray)] ?_; (with_reducible refine (stockaderef18_reader_has.calls g t416 t417 t418 (⟨#[105, 110, 32]⟩ : ByteArray) false t420 t421 t422 w0 _ ?side1 ?side2 A17.out).mono ?_); (case side1 => exact is_now); (case side2 => exact ib_now); rintro e w25 ⟨rfl, hi, hb, hk⟩; refine ⟨_, rfl, ?_⟩; replace BK409 := Aside0.mk (KeepBut.blk hk (g' := gb409) (o := .cells #[.bool false, .int .i64 0, .int .i64 0, .int .i64 0, .int .u64 0, .int .u64 0, .int .u64 0] 55 (0, 0)) bk_now NB409_0.out (by simp)); replace BK410 := Aside0.mk (KeepBut.blk hk (g' := gb410) (o := .cells #[.bool t411, .int .i64 0, .int .i64 0, .int .i64 0, .int .u64 0, .int .u64 0, .int .u64 0] 55 (0, 0)) bk_now NB410_0.out (by simp)); replace HK := Aside0.mk (KeepBut.trans (ik_now (w := w)) hk (.inl rfl)); replace HI0 := Aside0.mk (hi); replace HB := Aside0.mk (hb); (try clear hb); (try clear hb2); (try clear hk); (try clear hi); have hnb26 := NB410_409.out; have hnc26 := NB409_410.out; have hnb27 := NB410_0.out; have hnc27 := NB0_410.out; have hcz28 := blk_all7 BK410.out) | ((with_reducible refine gate_callee (f := 58) rfl ?_); refine sh_call (some 17) Tryd.func58 #[.pointer (some ⟨g, 0, none⟩), .string (⟨#[112, 97, 115, 116, 32]⟩ : ByteArray)] ?_; (with_reducible refine (stockaderef18_reader_has.calls g t420 t421 t422 (⟨#[112, 97, 115, 116, 32]⟩ : ByteArray) t423 t424 t425 t426 w0 _ ?side1 ?side2 A23.out).mono ?_); (case side1 => exact is_now); (case side2 => exact ib_now); rintro e w29 ⟨rfl, hi, hb, hk⟩; refine ⟨_, rfl, ?_⟩; replace BK409 := Aside0.mk (KeepBut.blk hk (g' := gb409) (o := .cells #[.bool false, .int .i64 0, .int .i64 0, .int .i64 0, .int .u64 0, .int .u64 0, .int .u64 0] 55 (0, 0)) bk_now NB409_0.out (by simp)); replace BK410 := Aside0.mk (KeepBut.blk hk (g' := gb410) (o := .cells #[.bool t411, .int .i64 3, .int .i64 0, .int .i64 0, .int .u64 0, .int .u64 0, .int .u64 0] 55 (0, 0)) bk_now NB410_0.out (by simp)); replace HK := Aside0.mk (KeepBut.trans (ik_now (w := w)) hk (.inl rfl)); replace HI0 := Aside0.mk (hi); replace HB := Aside0.mk (hb); (try clear hb); (try clear hb2); (try clear hk); (try clear hi)))
    (try simp only [Act.put, List.setIfInBounds_toArray, List.set_cons_zero, List.set_cons_succ])
    go_cut [] (fun wc => ∃ (kq : Nat) (x411001_23 : Int), Aside0 (stockaderef18_reader_test.j0 kq t424 t425 t426 t411 x411001_23 0 0 0 0 0 = some (r1, r2, r3, r4, r5, r6, r7, r8, r9, r10)) ∧ Aside0 (kq ≤ k) ∧ Aside0 (wc.heap[gb409]? = some (.cells #[.bool false, .int .i64 0, .int .i64 0, .int .i64 0, .int .u64 0, .int .u64 0, .int .u64 0] 55 (0, 0))) ∧ Aside0 (wc.heap[gb410]? = some (.cells #[.bool t411, .int .i64 x411001_23, .int .i64 0, .int .i64 0, .int .u64 0, .int .u64 0, .int .u64 0] 55 (0, 0))) ∧ Aside0 (IsS112 w0 wc g t424 t425 t426) ∧ Aside0 (KeepBut w wc g none) ∧ Aside0 (Below w0.heap.size w0 wc))
    case first =>
     have H := HC24.out
     clear HC24
     by_cases c30 : t423 = true
     ·subst c30
      replace H := sh_t H
      have H' := Aside0.mk H
      clear H
      have hnb31 := NB410_409.out
      have hnc31 := NB409_410.out
      have hnb32 := NB410_0.out
      have hnc32 := NB0_410.out
      have hcz33 := blk_all7 BK410.out
      go_wp2
      go_meet
      case rel => exact ⟨_, (4), H', ⟨by first | omega | exact Nat.le_refl _⟩, ⟨bk_now⟩, ⟨bk_now⟩, ⟨is_now⟩, ⟨ik_now (w := w)⟩, ⟨ib_now⟩⟩
     ·replace c30 := Bool.eq_false_iff.mpr c30
      subst c30
      replace H := sh_f H
      have H' := Aside0.mk H
      clear H
      go_wp2
      go_meet
      case rel => exact ⟨_, (3), H', ⟨by first | omega | exact Nat.le_refl _⟩, ⟨bk_now⟩, ⟨bk_now⟩, ⟨is_now⟩, ⟨ik_now (w := w)⟩, ⟨ib_now⟩⟩
    case rest =>
     clear HC24
     clear hcz11 hcz28 hcz9
     obtain ⟨kq, x411001_23, HA, HJ23, BK409, BK410, HI0, HK, HB⟩ := hcut
     cases kq with
     | zero => exact absurd HA.out (by simp [stockaderef18_reader_test.j0])
     | succ kj23 =>
      have H := HA.out
      clear HA
      simp only [stockaderef18_reader_test.j0] at H
      replace H := Option.bind_eq_some_iff.mp H; obtain ⟨⟨t427, t428, t429⟩, A340, H⟩ := H; try dsimp only at H
      have A34 := Aside0.mk A340
      clear A340
      replace H := Option.bind_eq_some_iff.mp H; obtain ⟨⟨t430, t431, t432, t433⟩, A350, H⟩ := H; try dsimp only at H
      have A35 := Aside0.mk A350
      clear A350
      have HC36 := Aside0.mk H
      clear H
      go_upto_region 13 with (first | ((with_reducible refine gate_callee (f := 60) rfl ?_); refine sh_call (some 20) Tryd.func60 #[.pointer (some ⟨g, 0, none⟩), .string (⟨#[117]⟩ : ByteArray)] ?_; (with_reducible refine (stockaderef18_reader_must.calls g t424 t425 t426 (⟨#[117]⟩ : ByteArray) t427 t428 t429 w0 _ ?side1 ?side2 A34.out).mono ?_); (case side1 => exact is_now); (case side2 => exact ib_now); rintro e w37 ⟨rfl, hi, hb, hk⟩; refine ⟨_, rfl, ?_⟩; replace BK409 := Aside0.mk (KeepBut.blk hk (g' := gb409) (o := .cells #[.bool false, .int .i64 0, .int .i64 0, .int .i64 0, .int .u64 0, .int .u64 0, .int .u64 0] 55 (0, 0)) bk_now NB409_0.out (by simp)); replace BK410 := Aside0.mk (KeepBut.blk hk (g' := gb410) (o := .cells #[.bool t411, .int .i64 x411001_23, .int .i64 0, .int .i64 0, .int .u64 0, .int .u64 0, .int .u64 0] 55 (0, 0)) bk_now NB410_0.out (by simp)); replace HK := Aside0.mk (KeepBut.trans (ik_now (w := w)) hk (.inl rfl)); replace HI0 := Aside0.mk (hi); replace HB := Aside0.mk (hb); (try clear hb); (try clear hb2); (try clear hk); (try clear hi)) | ((with_reducible refine gate_callee (f := 61) rfl ?_); refine sh_call (some 22) Tryd.func61 #[.pointer (some ⟨g, 0, none⟩), .int .u64 64] ?_; (with_reducible refine (stockaderef18_reader_number.calls kj23 g t427 t428 t429 64 t430 t431 t432 t433 w0 _ ?side1 ?side2 A35.out).mono ?_); (case side1 => exact is_now); (case side2 => exact ib_now); rintro e w38 ⟨rfl, hi, hb, hk⟩; refine ⟨_, rfl, ?_⟩; replace BK409 := Aside0.mk (KeepBut.blk hk (g' := gb409) (o := .cells #[.bool false, .int .i64 0, .int .i64 0, .int .i64 0, .int .u64 0, .int .u64 0, .int .u64 0] 55 (0, 0)) bk_now NB409_0.out (by simp)); replace BK410 := Aside0.mk (KeepBut.blk hk (g' := gb410) (o := .cells #[.bool t411, .int .i64 x411001_23, .int .i64 0, .int .i64 0, .int .u64 0, .int .u64 0, .int .u64 0] 55 (0, 0)) bk_now NB410_0.out (by simp)); replace HK := Aside0.mk (KeepBut.trans (ik_now (w := w)) hk (.inl rfl)); replace HI0 := Aside0.mk (hi); replace HB := Aside0.mk (hb); (try clear hb); (try clear hb2); (try clear hk); (try clear hi); have hnb39 := NB410_409.out; have hnc39 := NB409_410.out; have hnb40 := NB410_0.out; have hnc40 := NB0_410.out; have hcz41 := blk_all7 BK410.out))
      (try simp only [Act.put, List.setIfInBounds_toArray, List.set_cons_zero, List.set_cons_succ])
      go_cut [] (fun wc => ∃ (kq : Nat) (x1002_35 : Bool), Aside0 (stockaderef18_reader_test.j1 kq t431 t432 x1002_35 t411 x411001_23 0 (wrap64 (IntKind.u64.wrap (Int.tdiv t430 8))) 0 0 0 = some (r1, r2, r3, r4, r5, r6, r7, r8, r9, r10)) ∧ Aside0 (kq ≤ kj23) ∧ Aside0 (wc.heap[gb409]? = some (.cells #[.bool false, .int .i64 0, .int .i64 0, .int .i64 0, .int .u64 0, .int .u64 0, .int .u64 0] 55 (0, 0))) ∧ Aside0 (wc.heap[gb410]? = some (.cells #[.bool t411, .int .i64 x411001_23, .int .i64 0, .int .i64 (wrap64 (IntKind.u64.wrap (Int.tdiv t430 8))), .int .u64 0, .int .u64 0, .int .u64 0] 55 (0, 0))) ∧ Aside0 (IsS112 w0 wc g t431 t432 x1002_35) ∧ Aside0 (KeepBut w wc g none) ∧ Aside0 (Below w0.heap.size w0 wc))
      case first =>
       have H := HC36.out
       clear HC36
       by_cases c42 : t433 = true
       ·subst c42
        replace H := sh_t H
        have H' := Aside0.mk H
        clear H
        obtain ⟨HGz43, hgz43⟩ := HI0.out
        have hcz43_0 := cellS112_0 HGz43
        have hcz43_1 := cellS112_1 HGz43
        have hcz43_2 := cellS112_2 HGz43
        have hfz43_0 := blk_frozen HGz43 0
        have hfz43_1 := blk_frozen HGz43 1
        have hfz43_2 := blk_frozen HGz43 2
        clear HGz43 hgz43
        go_wp2
        go_meet
        case rel => exact ⟨_, (true), H', ⟨by have := HJ23.out; first | omega | exact Nat.le_refl _⟩, ⟨bk_now⟩, ⟨bk_now⟩, ⟨by first | exact IsS112.set_2 (IsS112.far HI0.out NB0_410.out _) _ | repeat (first | (with_reducible first | exact HI0.out | apply IsS112.alloc | apply IsS112.drewN | apply IsS112.drew | apply IsS112.set_0 | apply IsS112.set_1 | apply IsS112.set_2 | refine IsS112.far ?_ NB0_409.out _ | refine IsS112.far ?_ NB0_410.out _) | exact HI0.out)⟩, ⟨ik_now (w := w)⟩, ⟨ib_now⟩⟩
       ·replace c42 := Bool.eq_false_iff.mpr c42
        subst c42
        replace H := sh_f H
        by_cases c44 : t430 = 8
        ·rw [if_pos c44] at H
         have c44b0 : (t430 == 8) = true := beq_iff_eq.mpr c44
         have c44b1 : (t430 != 8) = false := bne_eq_false_iff_eq.mpr c44
         clear c44
         (first | rw [c44b0] | (simp only [i64_w, i32_w]; rw [c44b0]) | skip)
         have H' := Aside0.mk H
         clear H
         obtain ⟨HGz45, hgz45⟩ := HI0.out
         have hcz45_0 := cellS112_0 HGz45
         have hcz45_1 := cellS112_1 HGz45
         have hcz45_2 := cellS112_2 HGz45
         have hfz45_0 := blk_frozen HGz45 0
         have hfz45_1 := blk_frozen HGz45 1
         have hfz45_2 := blk_frozen HGz45 2
         clear HGz45 hgz45
         go_wp2
         go_meet
         case rel => exact ⟨_, (false), H', ⟨by have := HJ23.out; first | omega | exact Nat.le_refl _⟩, ⟨bk_now⟩, ⟨bk_now⟩, ⟨by first | exact IsS112.set_2 (IsS112.far HI0.out NB0_410.out _) _ | repeat (first | (with_reducible first | exact HI0.out | apply IsS112.alloc | apply IsS112.drewN | apply IsS112.drew | apply IsS112.set_0 | apply IsS112.set_1 | apply IsS112.set_2 | refine IsS112.far ?_ NB0_409.out _ | refine IsS112.far ?_ NB0_410.out _) | exact HI0.out)⟩, ⟨ik_now (w := w)⟩, ⟨ib_now⟩⟩
        ·rw [if_neg c44] at H
         have c44b0 : (t430 == 8) = false := beq_eq_false_iff_ne.mpr c44
         have c44b1 : (t430 != 8) = true := bne_iff_ne.mpr c44
         (first | rw [c44b0] | (simp only [i64_w, i32_w]; rw [c44b0]) | skip)
         by_cases c46 : t430 = 16
         ·rw [if_pos c46] at H
          have c46b0 : (t430 == 16) = true := beq_iff_eq.mpr c46
          have c46b1 : (t430 != 16) = false := bne_eq_false_iff_eq.mpr c46
          clear c46
          have H' := Aside0.mk H
          clear H
          obtain ⟨HGz47, hgz47⟩ := HI0.out
          have hcz47_0 := cellS112_0 HGz47
          have hcz47_1 := cellS112_1 HGz47
          have hcz47_2 := cellS112_2 HGz47
          have hfz47_0 := blk_frozen HGz47 0
          have hfz47_1 := blk_frozen HGz47 1
          have hfz47_2 := blk_frozen HGz47 2
          clear HGz47 hgz47
          go_wp2
          go_meet
          case rel => exact ⟨_, (false), H', ⟨by have := HJ23.out; first | omega | exact Nat.le_refl _⟩, ⟨bk_now⟩, ⟨bk_now⟩, ⟨by first | exact IsS112.set_2 (IsS112.far HI0.out NB0_410.out _) _ | repeat (first | (with_reducible first | exact HI0.out | apply IsS112.alloc | apply IsS112.drewN | apply IsS112.drew | apply IsS112.set_0 | apply IsS112.set_1 | apply IsS112.set_2 | refine IsS112.far ?_ NB0_409.out _ | refine IsS112.far ?_ NB0_410.out _) | exact HI0.out)⟩, ⟨ik_now (w := w)⟩, ⟨ib_now⟩⟩
         ·rw [if_neg c46] at H
          have c46b0 : (t430 == 16) = false := beq_eq_false_iff_ne.mpr c46
          have c46b1 : (t430 != 16) = true := bne_iff_ne.mpr c46
          by_cases c48 : t430 = 32
          ·rw [if_pos c48] at H
           have c48b0 : (t430 == 32) = true := beq_iff_eq.mpr c48
           have c48b1 : (t430 != 32) = false := bne_eq_false_iff_eq.mpr c48
           clear c48
           have H' := Aside0.mk H
           clear H
           obtain ⟨HGz49, hgz49⟩ := HI0.out
           have hcz49_0 := cellS112_0 HGz49
           have hcz49_1 := cellS112_1 HGz49
           have hcz49_2 := cellS112_2 HGz49
           have hfz49_0 := blk_frozen HGz49 0
           have hfz49_1 := blk_frozen HGz49 1
           have hfz49_2 := blk_frozen HGz49 2
           clear HGz49 hgz49
           go_wp2
           go_meet
           case rel => exact ⟨_, (false), H', ⟨by have := HJ23.out; first | omega | exact Nat.le_refl _⟩, ⟨bk_now⟩, ⟨bk_now⟩, ⟨by first | exact IsS112.set_2 (IsS112.far HI0.out NB0_410.out _) _ | repeat (first | (with_reducible first | exact HI0.out | apply IsS112.alloc | apply IsS112.drewN | apply IsS112.drew | apply IsS112.set_0 | apply IsS112.set_1 | apply IsS112.set_2 | refine IsS112.far ?_ NB0_409.out _ | refine IsS112.far ?_ NB0_410.out _) | exact HI0.out)⟩, ⟨ik_now (w := w)⟩, ⟨ib_now⟩⟩
          ·rw [if_neg c48] at H
           have c48b0 : (t430 == 32) = false := beq_eq_false_iff_ne.mpr c48
           have c48b1 : (t430 != 32) = true := bne_iff_ne.mpr c48
           have H' := Aside0.mk H
           clear H
           obtain ⟨HGz50, hgz50⟩ := HI0.out
           have hcz50_0 := cellS112_0 HGz50
           have hcz50_1 := cellS112_1 HGz50
           have hcz50_2 := cellS112_2 HGz50
           have hfz50_0 := blk_frozen HGz50 0
           have hfz50_1 := blk_frozen HGz50 1
           have hfz50_2 := blk_frozen HGz50 2
           clear HGz50 hgz50
           go_wp2
           go_meet
           case rel => exact ⟨_, ((t430 != 64)), H', ⟨by have := HJ23.out; first | omega | exact Nat.le_refl _⟩, ⟨bk_now⟩, ⟨bk_now⟩, ⟨by first | exact IsS112.set_2 (IsS112.far HI0.out NB0_410.out _) _ | repeat (first | (with_reducible first | exact HI0.out | apply IsS112.alloc | apply IsS112.drewN | apply IsS112.drew | apply IsS112.set_0 | apply IsS112.set_1 | apply IsS112.set_2 | refine IsS112.far ?_ NB0_409.out _ | refine IsS112.far ?_ NB0_410.out _) | exact HI0.out)⟩, ⟨ik_now (w := w)⟩, ⟨ib_now⟩⟩
      case rest =>
       clear HC36
       clear hcz41
       obtain ⟨kq, x1002_35, HA, HJ35, BK409, BK410, HI0, HK, HB⟩ := hcut
       cases kq with
       | zero => exact absurd HA.out (by simp [stockaderef18_reader_test.j1])
       | succ kj35 =>
        have H := HA.out
        clear HA
        simp only [stockaderef18_reader_test.j1] at H
        replace H := Option.bind_eq_some_iff.mp H; obtain ⟨⟨t434, t435, t436⟩, A510, H⟩ := H; try dsimp only at H
        have A51 := Aside0.mk A510
        clear A510
        replace H := Option.bind_eq_some_iff.mp H; obtain ⟨⟨t437, t438, t439, t440⟩, A520, H⟩ := H; try dsimp only at H
        have A52 := Aside0.mk A520
        clear A520
        replace H := Option.bind_eq_some_iff.mp H; obtain ⟨t441, A530, H⟩ := H; try dsimp only at H
        have A53 := Aside0.mk A530
        clear A530
        replace H := Option.bind_eq_some_iff.mp H; obtain ⟨⟨t442, t443, t444, t445⟩, A540, H⟩ := H; try dsimp only at H
        have A54 := Aside0.mk A540
        clear A540
        by_cases c55 : t442 = true
        ·subst c55
         replace H := sh_t H
         replace H := Option.bind_eq_some_iff.mp H; obtain ⟨t446, A560, H⟩ := H; try dsimp only at H
         have A56 := Aside0.mk A560
         clear A560
         replace H := Option.bind_eq_some_iff.mp H; obtain ⟨⟨t447, t448, t449, t450⟩, A570, H⟩ := H; try dsimp only at H
         have A57 := Aside0.mk A570
         clear A570
         by_cases c58 : t450 = true
         ·subst c58
          replace H := sh_t H
          replace H := Option.bind_eq_some_iff.mp H; obtain ⟨⟨t451, t452, t453⟩, A590, H⟩ := H; try dsimp only at H
          have A59 := Aside0.mk A590
          clear A590
          have H' := Aside0.mk H
          clear H
          go_upto_region 19 with (first | ((with_reducible refine gate_callee (f := 60) rfl ?_); refine sh_call (some 51) Tryd.func60 #[.pointer (some ⟨g, 0, none⟩), .string (⟨#[64]⟩ : ByteArray)] ?_; (with_reducible refine (stockaderef18_reader_must.calls g t431 t432 x1002_35 (⟨#[64]⟩ : ByteArray) t434 t435 t436 w0 _ ?side1 ?side2 A51.out).mono ?_); (case side1 => exact is_now); (case side2 => exact ib_now); rintro e w60 ⟨rfl, hi, hb, hk⟩; refine ⟨_, rfl, ?_⟩; replace BK409 := Aside0.mk (KeepBut.blk hk (g' := gb409) (o := .cells #[.bool false, .int .i64 0, .int .i64 0, .int .i64 0, .int .u64 0, .int .u64 0, .int .u64 0] 55 (0, 0)) bk_now NB409_0.out (by simp)); replace BK410 := Aside0.mk (KeepBut.blk hk (g' := gb410) (o := .cells #[.bool t411, .int .i64 x411001_23, .int .i64 0, .int .i64 (wrap64 (IntKind.u64.wrap (Int.tdiv t430 8))), .int .u64 0, .int .u64 0, .int .u64 0] 55 (0, 0)) bk_now NB410_0.out (by simp)); replace HK := Aside0.mk (KeepBut.trans (ik_now (w := w)) hk (.inl rfl)); replace HI0 := Aside0.mk (hi); replace HB := Aside0.mk (hb); (try clear hb); (try clear hb2); (try clear hk); (try clear hi)) | ((with_reducible refine gate_callee (f := 61) rfl ?_); refine sh_call (some 53) Tryd.func61 #[.pointer (some ⟨g, 0, none⟩), .int .u64 255] ?_; (with_reducible refine (stockaderef18_reader_number.calls kj35 g t434 t435 t436 255 t437 t438 t439 t440 w0 _ ?side1 ?side2 A52.out).mono ?_); (case side1 => exact is_now); (case side2 => exact ib_now); rintro e w61 ⟨rfl, hi, hb, hk⟩; refine ⟨_, rfl, ?_⟩; replace BK409 := Aside0.mk (KeepBut.blk hk (g' := gb409) (o := .cells #[.bool false, .int .i64 0, .int .i64 0, .int .i64 0, .int .u64 0, .int .u64 0, .int .u64 0] 55 (0, 0)) bk_now NB409_0.out (by simp)); replace BK410 := Aside0.mk (KeepBut.blk hk (g' := gb410) (o := .cells #[.bool t411, .int .i64 x411001_23, .int .i64 0, .int .i64 (wrap64 (IntKind.u64.wrap (Int.tdiv t430 8))), .int .u64 0, .int .u64 0, .int .u64 0] 55 (0, 0)) bk_now NB410_0.out (by simp)); replace HK := Aside0.mk (KeepBut.trans (ik_now (w := w)) hk (.inl rfl)); replace HI0 := Aside0.mk (hi); replace HB := Aside0.mk (hb); (try clear hb); (try clear hb2); (try clear hk); (try clear hi); have hnb62 := NB410_409.out; have hnc62 := NB409_410.out; have hnb63 := NB410_0.out; have hnc63 := NB0_410.out; have hcz64 := blk_all7 BK410.out) | ((with_reducible refine gate_callee (f := 43) rfl ?_); refine sh_call (some 58) Tryd.func43 #[.int .i64 (wrap64 (IntKind.u64.wrap (Int.tdiv t430 8)))] ?_; (with_reducible refine (stockaderef18_Full.calls kj35 (wrap64 (IntKind.u64.wrap (Int.tdiv t430 8))) t441 _ A53.out).mono ?_); rintro e w' ⟨rfl, ⟨nd, rfl⟩⟩; refine ⟨_, rfl, ?_⟩) | ((with_reducible refine gate_callee (f := 58) rfl ?_); refine sh_call (some 61) Tryd.func58 #[.pointer (some ⟨g, 0, none⟩), .string (⟨#[47]⟩ : ByteArray)] ?_; (with_reducible refine (stockaderef18_reader_has.calls g t438 t439 t440 (⟨#[47]⟩ : ByteArray) true t443 t444 t445 w0 _ ?side1 ?side2 A54.out).mono ?_); (case side1 => exact is_now); (case side2 => exact ib_now); rintro e w65 ⟨rfl, hi, hb, hk⟩; refine ⟨_, rfl, ?_⟩; replace BK409 := Aside0.mk (KeepBut.blk hk (g' := gb409) (o := .cells #[.bool false, .int .i64 0, .int .i64 0, .int .i64 0, .int .u64 0, .int .u64 0, .int .u64 0] 55 (0, 0)) bk_now NB409_0.out (by simp)); replace BK410 := Aside0.mk (KeepBut.blk hk (g' := gb410) (o := .cells #[.bool t411, .int .i64 x411001_23, .int .i64 (wrap64 (t437)), .int .i64 (wrap64 (IntKind.u64.wrap (Int.tdiv t430 8))), .int .u64 t441, .int .u64 0, .int .u64 0] 55 (0, 0)) bk_now NB410_0.out (by simp)); replace HK := Aside0.mk (KeepBut.trans (ik_now (w := w)) hk (.inl rfl)); replace HI0 := Aside0.mk (hi); replace HB := Aside0.mk (hb); (try clear hb); (try clear hb2); (try clear hk); (try clear hi)) | ((with_reducible refine gate_callee (f := 43) rfl ?_); refine sh_call (some 63) Tryd.func43 #[.int .i64 8] ?_; (with_reducible refine (stockaderef18_Full.calls kj35 8 t446 _ A56.out).mono ?_); rintro e w' ⟨rfl, ⟨nd, rfl⟩⟩; refine ⟨_, rfl, ?_⟩; (try (rw [drewN_self w65]; generalize hq_ : World.drewN w65 _ = w65; have n0_ : Aside0 (w65.heap[gb409]? = some (.cells #[.bool false, .int .i64 0, .int .i64 0, .int .i64 0, .int .u64 0, .int .u64 0, .int .u64 0] 55 (0, 0))) := ⟨by rw [← hq_]; exact bk_now⟩; have n1_ : Aside0 (w65.heap[gb410]? = some (.cells #[.bool t411, .int .i64 x411001_23, .int .i64 (wrap64 (t437)), .int .i64 (wrap64 (IntKind.u64.wrap (Int.tdiv t430 8))), .int .u64 t441, .int .u64 0, .int .u64 0] 55 (0, 0))) := ⟨by rw [← hq_]; exact bk_now⟩; have n2_ : Aside0 (IsS112 w0 w65 g t443 t444 t445) := ⟨by rw [← hq_]; exact (is_now)⟩; have n3_ : Aside0 (KeepBut w w65 g none) := ⟨by rw [← hq_]; exact (ik_now (w := w))⟩; have n4_ : Aside0 (Below w0.heap.size w0 w65) := ⟨by rw [← hq_]; exact (ib_now)⟩; clear BK409 BK410 HI0 HK HB hq_; have BK409 := n0_; have BK410 := n1_; have HI0 := n2_; have HK := n3_; have HB := n4_; clear n0_ n1_ n2_ n3_ n4_))) | ((with_reducible refine gate_callee (f := 61) rfl ?_); refine sh_call (some 64) Tryd.func61 #[.pointer (some ⟨g, 0, none⟩), .int .u64 t446] ?_; (with_reducible refine (stockaderef18_reader_number.calls kj35 g t443 t444 t445 t446 t447 t448 t449 true w0 _ ?side1 ?side2 A57.out).mono ?_); (case side1 => exact is_now); (case side2 => exact ib_now); rintro e w66 ⟨rfl, hi, hb, hk⟩; refine ⟨_, rfl, ?_⟩; replace BK409 := Aside0.mk (KeepBut.blk hk (g' := gb409) (o := .cells #[.bool false, .int .i64 0, .int .i64 0, .int .i64 0, .int .u64 0, .int .u64 0, .int .u64 0] 55 (0, 0)) bk_now NB409_0.out (by simp)); replace BK410 := Aside0.mk (KeepBut.blk hk (g' := gb410) (o := .cells #[.bool t411, .int .i64 x411001_23, .int .i64 (wrap64 (t437)), .int .i64 (wrap64 (IntKind.u64.wrap (Int.tdiv t430 8))), .int .u64 t441, .int .u64 0, .int .u64 0] 55 (0, 0)) bk_now NB410_0.out (by simp)); replace HK := Aside0.mk (KeepBut.trans (ik_now (w := w)) hk (.inl rfl)); replace HI0 := Aside0.mk (hi); replace HB := Aside0.mk (hb); (try clear hb); (try clear hb2); (try clear hk); (try clear hi); have hcz67 := blk_all7 BK410.out; obtain ⟨HGz68, hgz68⟩ := HI0.out; have hcz68_0 := cellS112_0 HGz68; have hcz68_1 := cellS112_1 HGz68; have hcz68_2 := cellS112_2 HGz68; have hfz68_0 := blk_frozen HGz68 0; have hfz68_1 := blk_frozen HGz68 1; have hfz68_2 := blk_frozen HGz68 2; clear HGz68 hgz68) | ((with_reducible refine gate_callee (f := 60) rfl ?_); refine sh_call (some 82) Tryd.func60 #[.pointer (some ⟨g, 0, none⟩), .string (⟨#[32]⟩ : ByteArray)] ?_; (with_reducible refine (stockaderef18_reader_must.calls g t448 t449 true (⟨#[32]⟩ : ByteArray) t451 t452 t453 w0 _ ?side1 ?side2 A59.out).mono ?_); (case side1 => exact is_now); (case side2 => exact ib_now); rintro e w69 ⟨rfl, hi, hb, hk⟩; refine ⟨_, rfl, ?_⟩; replace BK409 := Aside0.mk (KeepBut.blk hk (g' := gb409) (o := .cells #[.bool false, .int .i64 0, .int .i64 0, .int .i64 0, .int .u64 0, .int .u64 0, .int .u64 0] 55 (0, 0)) bk_now NB409_0.out (by simp)); replace BK410 := Aside0.mk (KeepBut.blk hk (g' := gb410) (o := .cells #[.bool t411, .int .i64 x411001_23, .int .i64 (wrap64 (t437)), .int .i64 (wrap64 (IntKind.u64.wrap (Int.tdiv t430 8))), .int .u64 t447, .int .u64 0, .int .u64 0] 55 (0, 0)) bk_now NB410_0.out (by simp)); replace HK := Aside0.mk (KeepBut.trans (ik_now (w := w)) hk (.inl rfl)); replace HI0 := Aside0.mk (hi); replace HB := Aside0.mk (hb); (try clear hb); (try clear hb2); (try clear hk); (try clear hi)))
          refine name_any (fun W => W.heap[gb409]? = some (.cells #[.bool false, .int .i64 0, .int .i64 0, .int .i64 0, .int .u64 0, .int .u64 0, .int .u64 0] 55 (0, 0)) ∧ W.heap[gb410]? = some (.cells #[.bool t411, .int .i64 x411001_23, .int .i64 (wrap64 (t437)), .int .i64 (wrap64 (IntKind.u64.wrap (Int.tdiv t430 8))), .int .u64 t447, .int .u64 0, .int .u64 0] 55 (0, 0)) ∧ IsS112 w0 W g t448 t449 true ∧ KeepBut w W g none ∧ Below w0.heap.size w0 W) ⟨bk_now, bk_now, is_now, ik_now (w := w), ib_now⟩ ?_
          clear BK409 BK410 HI0 HK HB
          rintro wz427 ⟨k_0, k_1, k_2, k_3, k_4⟩
          have BK409 := Aside0.mk k_0
          have BK410 := Aside0.mk k_1
          have HI0 := Aside0.mk k_2
          have HK := Aside0.mk k_3
          have HB := Aside0.mk k_4
          clear k_0 k_1 k_2 k_3 k_4
          refine start_ (n := 16) (S := (fun w' => w'.cell? ⟨g, 2, none⟩ = some (.bool true) ∧ w'.cell? ⟨gb410, 3, none⟩ = some (.int .i64 (wrap64 (IntKind.u64.wrap (Int.tdiv t430 8)))) ∧ w'.cell? ⟨gb410, 4, none⟩ = some (.int .u64 t447))) (ds := [15]) (fl 0 16) (by kernel_rfl) rfl rfl ⟨(blk_cell (blk_drew HI0.out.1) 2).trans rfl, (blk_cell (blk_drew BK410.out) 3).trans rfl, (blk_cell (blk_drew BK410.out) 4).trans rfl⟩ (fun hHeld => ?_)
          have BK409 := Aside0.mk (blk_drew BK409.out)
          have BK410 := Aside0.mk (blk_drew BK410.out)
          have HI0 := Aside0.mk (IsS112.drew HI0.out)
          have HK := Aside0.mk (keep_drew HK.out)
          have HB := Aside0.mk (below_drew1 HB.out)
          generalize wz427.drew = wz427a at BK409 BK410 HI0 HK HB hHeld ⊢
          refine pure_ (i := 0) (N := some 66) (v := ?_) (a' := ?_) (fl 1 15) rfl rfl (by kernel_rfl) (fun _ _ _ h => h) (Or.inl ⟨by rfl, ?_⟩) ?_ ?_
          rotate_left; exact ga_; rotate_left; exact gb_
          refine pure_ (i := 1) (N := some 67) (v := ?_) (a' := ?_) (fl 2 14) rfl rfl (by kernel_rfl) (fun _ _ _ h => h) (Or.inl ⟨by rfl, ?_⟩) ?_ ?_
          rotate_left; exact ga_; rotate_left; exact gb_
          refine pure_ (i := 2) (N := some 68) (v := ?_) (a' := ?_) (fl 3 13) rfl rfl (by kernel_rfl) (fun _ _ _ h => h) (Or.inl ⟨by rfl, ?_⟩) ?_ ?_
          rotate_left; exact ga_; rotate_left; exact gb_
          refine pure_ (i := 3) (N := some 69) (v := ?_) (a' := ?_) (fl 4 12) rfl rfl (by kernel_rfl) (fun _ _ _ h => h) (Or.inl ⟨by rfl, ?_⟩) ?_ ?_
          rotate_left; exact ga_; rotate_left; exact gb_
          refine take_ (i := 4) (N := some 70) (v := ?_) (a' := ?_) (fl 5 11) rfl rfl (by kernel_rfl) (fun _ _ _ h => h) (Or.inl ⟨by rfl, ?_⟩) hHeld ?_ ?_
          rotate_left; exact ga3_; rotate_left; exact gb_
          refine pure_ (i := 5) (N := some 71) (v := ?_) (a' := ?_) (fl 6 10) rfl rfl (by kernel_rfl) (fun _ _ _ h => h) (Or.inl ⟨by rfl, ?_⟩) ?_ ?_
          rotate_left; exact ga_; rotate_left; exact gb_
          refine pure_ (i := 6) (N := some 72) (v := undef) (a' := ?_) (fl 7 9) rfl rfl (by kernel_rfl) (fun _ _ _ h => h) (Or.inr ⟨by rfl, rfl⟩) ?_ ?_
          rotate_left
          ·simp only [Act.put, List.setIfInBounds_toArray, List.set_cons_zero, List.set_cons_succ, i64_w, i32_w]
           rfl
          refine pure_ (i := 7) (N := some 73) (v := undef) (a' := ?_) (fl 8 8) rfl rfl (by kernel_rfl) (fun _ _ _ h => h) (Or.inr ⟨by rfl, rfl⟩) ?_ ?_
          rotate_left
          ·simp only [Act.put, List.setIfInBounds_toArray, List.set_cons_zero, List.set_cons_succ, i64_w, i32_w]
           rfl
          refine pure_ (i := 8) (N := some 74) (v := undef) (a' := ?_) (fl 9 7) rfl rfl (by kernel_rfl) (fun _ _ _ h => h) (Or.inr ⟨by rfl, rfl⟩) ?_ ?_
          rotate_left
          ·simp only [Act.put, List.setIfInBounds_toArray, List.set_cons_zero, List.set_cons_succ, i64_w, i32_w]
           rfl
          refine pure_ (i := 9) (N := some 75) (v := undef) (a' := ?_) (fl 10 6) rfl rfl (by kernel_rfl) (fun _ _ _ h => h) (Or.inr ⟨by rfl, rfl⟩) ?_ ?_
          rotate_left
          ·simp only [Act.put, List.setIfInBounds_toArray, List.set_cons_zero, List.set_cons_succ, i64_w, i32_w]
           rfl
          refine pure_ (i := 10) (N := some 76) (v := undef) (a' := ?_) (fl 11 5) rfl rfl (by kernel_rfl) (fun _ _ _ h => h) (Or.inr ⟨by rfl, rfl⟩) ?_ ?_
          rotate_left
          ·simp only [Act.put, List.setIfInBounds_toArray, List.set_cons_zero, List.set_cons_succ, i64_w, i32_w]
           rfl
          refine pure_ (i := 11) (N := some 77) (v := undef) (a' := ?_) (fl 12 4) rfl rfl (by kernel_rfl) (fun _ _ _ h => h) (Or.inr ⟨by rfl, rfl⟩) ?_ ?_
          rotate_left
          ·simp only [Act.put, List.setIfInBounds_toArray, List.set_cons_zero, List.set_cons_succ, i64_w, i32_w]
           rfl
          refine pure_ (i := 12) (N := some 78) (v := ?_) (a' := ?_) (fl 13 3) rfl rfl (by kernel_rfl) (fun _ _ _ h => h) (Or.inl ⟨by rfl, ?_⟩) ?_ ?_
          rotate_left; exact ga_; rotate_left; exact gb_
          refine pure_ (i := 13) (N := some 79) (v := ?_) (a' := ?_) (fl 14 2) rfl rfl (by kernel_rfl) (fun _ _ _ h => h) (Or.inl ⟨by rfl, ?_⟩) ?_ ?_
          rotate_left; exact ga_; rotate_left; exact gb_
          refine pure_ (i := 14) (N := some 80) (v := ?_) (a' := ?_) (fl 15 1) rfl rfl (by kernel_rfl) (fun _ _ _ h => h) (Or.inl ⟨by rfl, ?_⟩) ?_ ?_
          rotate_left; exact ga_; rotate_left; exact gb_
          refine last_ (i := 15) (N := none) (fl 16 0) rfl rfl (by kernel_rfl) (by decide) (fun K hK => ?_)
          have zs := blk_all3 HI0.out.1
          refine skip_ (w1 := ?_) (by rfl) rfl ?_ ?_
          rotate_left
          ·go_simp
           rfl
          refine hK.out _ _ ?_
          clear hK K zs
          refine done_ (by kernel_rfl) ?_
          go_wp2_with (first | ((with_reducible refine gate_callee (f := 60) rfl ?_); refine sh_call (some 51) Tryd.func60 #[.pointer (some ⟨g, 0, none⟩), .string (⟨#[64]⟩ : ByteArray)] ?_; (with_reducible refine (stockaderef18_reader_must.calls g t431 t432 x1002_35 (⟨#[64]⟩ : ByteArray) t434 t435 t436 w0 _ ?side1 ?side2 A51.out).mono ?_); (case side1 => exact is_now); (case side2 => exact ib_now); rintro e w60 ⟨rfl, hi, hb, hk⟩; refine ⟨_, rfl, ?_⟩; replace BK409 := Aside0.mk (KeepBut.blk hk (g' := gb409) (o := .cells #[.bool false, .int .i64 0, .int .i64 0, .int .i64 0, .int .u64 0, .int .u64 0, .int .u64 0] 55 (0, 0)) bk_now NB409_0.out (by simp)); replace BK410 := Aside0.mk (KeepBut.blk hk (g' := gb410) (o := .cells #[.bool t411, .int .i64 x411001_23, .int .i64 0, .int .i64 (wrap64 (IntKind.u64.wrap (Int.tdiv t430 8))), .int .u64 0, .int .u64 0, .int .u64 0] 55 (0, 0)) bk_now NB410_0.out (by simp)); replace HK := Aside0.mk (KeepBut.trans (ik_now (w := w)) hk (.inl rfl)); replace HI0 := Aside0.mk (hi); replace HB := Aside0.mk (hb); (try clear hb); (try clear hb2); (try clear hk); (try clear hi)) | ((with_reducible refine gate_callee (f := 61) rfl ?_); refine sh_call (some 53) Tryd.func61 #[.pointer (some ⟨g, 0, none⟩), .int .u64 255] ?_; (with_reducible refine (stockaderef18_reader_number.calls kj35 g t434 t435 t436 255 t437 t438 t439 t440 w0 _ ?side1 ?side2 A52.out).mono ?_); (case side1 => exact is_now); (case side2 => exact ib_now); rintro e w61 ⟨rfl, hi, hb, hk⟩; refine ⟨_, rfl, ?_⟩; replace BK409 := Aside0.mk (KeepBut.blk hk (g' := gb409) (o := .cells #[.bool false, .int .i64 0, .int .i64 0, .int .i64 0, .int .u64 0, .int .u64 0, .int .u64 0] 55 (0, 0)) bk_now NB409_0.out (by simp)); replace BK410 := Aside0.mk (KeepBut.blk hk (g' := gb410) (o := .cells #[.bool t411, .int .i64 x411001_23, .int .i64 0, .int .i64 (wrap64 (IntKind.u64.wrap (Int.tdiv t430 8))), .int .u64 0, .int .u64 0, .int .u64 0] 55 (0, 0)) bk_now NB410_0.out (by simp)); replace HK := Aside0.mk (KeepBut.trans (ik_now (w := w)) hk (.inl rfl)); replace HI0 := Aside0.mk (hi); replace HB := Aside0.mk (hb); (try clear hb); (try clear hb2); (try clear hk); (try clear hi); have hnb62 := NB410_409.out; have hnc62 := NB409_410.out; have hnb63 := NB410_0.out; have hnc63 := NB0_410.out; have hcz64 := blk_all7 BK410.out) | ((with_reducible refine gate_callee (f := 43) rfl ?_); refine sh_call (some 58) Tryd.func43 #[.int .i64 (wrap64 (IntKind.u64.wrap (Int.tdiv t430 8)))] ?_; (with_reducible refine (stockaderef18_Full.calls kj35 (wrap64 (IntKind.u64.wrap (Int.tdiv t430 8))) t441 _ A53.out).mono ?_); rintro e w' ⟨rfl, ⟨nd, rfl⟩⟩; refine ⟨_, rfl, ?_⟩) | ((with_reducible refine gate_callee (f := 58) rfl ?_); refine sh_call (some 61) Tryd.func58 #[.pointer (some ⟨g, 0, none⟩), .string (⟨#[47]⟩ : ByteArray)] ?_; (with_reducible refine (stockaderef18_reader_has.calls g t438 t439 t440 (⟨#[47]⟩ : ByteArray) true t443 t444 t445 w0 _ ?side1 ?side2 A54.out).mono ?_); (case side1 => exact is_now); (case side2 => exact ib_now); rintro e w65 ⟨rfl, hi, hb, hk⟩; refine ⟨_, rfl, ?_⟩; replace BK409 := Aside0.mk (KeepBut.blk hk (g' := gb409) (o := .cells #[.bool false, .int .i64 0, .int .i64 0, .int .i64 0, .int .u64 0, .int .u64 0, .int .u64 0] 55 (0, 0)) bk_now NB409_0.out (by simp)); replace BK410 := Aside0.mk (KeepBut.blk hk (g' := gb410) (o := .cells #[.bool t411, .int .i64 x411001_23, .int .i64 (wrap64 (t437)), .int .i64 (wrap64 (IntKind.u64.wrap (Int.tdiv t430 8))), .int .u64 t441, .int .u64 0, .int .u64 0] 55 (0, 0)) bk_now NB410_0.out (by simp)); replace HK := Aside0.mk (KeepBut.trans (ik_now (w := w)) hk (.inl rfl)); replace HI0 := Aside0.mk (hi); replace HB := Aside0.mk (hb); (try clear hb); (try clear hb2); (try clear hk); (try clear hi)) | ((with_reducible refine gate_callee (f := 43) rfl ?_); refine sh_call (some 63) Tryd.func43 #[.int .i64 8] ?_; (with_reducible refine (stockaderef18_Full.calls kj35 8 t446 _ A56.out).mono ?_); rintro e w' ⟨rfl, ⟨nd, rfl⟩⟩; refine ⟨_, rfl, ?_⟩; (try (rw [drewN_self w65]; generalize hq_ : World.drewN w65 _ = w65; have n0_ : Aside0 (w65.heap[gb409]? = some (.cells #[.bool false, .int .i64 0, .int .i64 0, .int .i64 0, .int .u64 0, .int .u64 0, .int .u64 0] 55 (0, 0))) := ⟨by rw [← hq_]; exact bk_now⟩; have n1_ : Aside0 (w65.heap[gb410]? = some (.cells #[.bool t411, .int .i64 x411001_23, .int .i64 (wrap64 (t437)), .int .i64 (wrap64 (IntKind.u64.wrap (Int.tdiv t430 8))), .int .u64 t441, .int .u64 0, .int .u64 0] 55 (0, 0))) := ⟨by rw [← hq_]; exact bk_now⟩; have n2_ : Aside0 (IsS112 w0 w65 g t443 t444 t445) := ⟨by rw [← hq_]; exact (is_now)⟩; have n3_ : Aside0 (KeepBut w w65 g none) := ⟨by rw [← hq_]; exact (ik_now (w := w))⟩; have n4_ : Aside0 (Below w0.heap.size w0 w65) := ⟨by rw [← hq_]; exact (ib_now)⟩; clear BK409 BK410 HI0 HK HB hq_; have BK409 := n0_; have BK410 := n1_; have HI0 := n2_; have HK := n3_; have HB := n4_; clear n0_ n1_ n2_ n3_ n4_))) | ((with_reducible refine gate_callee (f := 61) rfl ?_); refine sh_call (some 64) Tryd.func61 #[.pointer (some ⟨g, 0, none⟩), .int .u64 t446] ?_; (with_reducible refine (stockaderef18_reader_number.calls kj35 g t443 t444 t445 t446 t447 t448 t449 true w0 _ ?side1 ?side2 A57.out).mono ?_); (case side1 => exact is_now); (case side2 => exact ib_now); rintro e w66 ⟨rfl, hi, hb, hk⟩; refine ⟨_, rfl, ?_⟩; replace BK409 := Aside0.mk (KeepBut.blk hk (g' := gb409) (o := .cells #[.bool false, .int .i64 0, .int .i64 0, .int .i64 0, .int .u64 0, .int .u64 0, .int .u64 0] 55 (0, 0)) bk_now NB409_0.out (by simp)); replace BK410 := Aside0.mk (KeepBut.blk hk (g' := gb410) (o := .cells #[.bool t411, .int .i64 x411001_23, .int .i64 (wrap64 (t437)), .int .i64 (wrap64 (IntKind.u64.wrap (Int.tdiv t430 8))), .int .u64 t441, .int .u64 0, .int .u64 0] 55 (0, 0)) bk_now NB410_0.out (by simp)); replace HK := Aside0.mk (KeepBut.trans (ik_now (w := w)) hk (.inl rfl)); replace HI0 := Aside0.mk (hi); replace HB := Aside0.mk (hb); (try clear hb); (try clear hb2); (try clear hk); (try clear hi); have hcz67 := blk_all7 BK410.out; obtain ⟨HGz68, hgz68⟩ := HI0.out; have hcz68_0 := cellS112_0 HGz68; have hcz68_1 := cellS112_1 HGz68; have hcz68_2 := cellS112_2 HGz68; have hfz68_0 := blk_frozen HGz68 0; have hfz68_1 := blk_frozen HGz68 1; have hfz68_2 := blk_frozen HGz68 2; clear HGz68 hgz68) | ((with_reducible refine gate_callee (f := 60) rfl ?_); refine sh_call (some 82) Tryd.func60 #[.pointer (some ⟨g, 0, none⟩), .string (⟨#[32]⟩ : ByteArray)] ?_; (with_reducible refine (stockaderef18_reader_must.calls g t448 t449 true (⟨#[32]⟩ : ByteArray) t451 t452 t453 w0 _ ?side1 ?side2 A59.out).mono ?_); (case side1 => exact is_now); (case side2 => exact ib_now); rintro e w69 ⟨rfl, hi, hb, hk⟩; refine ⟨_, rfl, ?_⟩; replace BK409 := Aside0.mk (KeepBut.blk hk (g' := gb409) (o := .cells #[.bool false, .int .i64 0, .int .i64 0, .int .i64 0, .int .u64 0, .int .u64 0, .int .u64 0] 55 (0, 0)) bk_now NB409_0.out (by simp)); replace BK410 := Aside0.mk (KeepBut.blk hk (g' := gb410) (o := .cells #[.bool t411, .int .i64 x411001_23, .int .i64 (wrap64 (t437)), .int .i64 (wrap64 (IntKind.u64.wrap (Int.tdiv t430 8))), .int .u64 t447, .int .u64 0, .int .u64 0] 55 (0, 0)) bk_now NB410_0.out (by simp)); replace HK := Aside0.mk (KeepBut.trans (ik_now (w := w)) hk (.inl rfl)); replace HI0 := Aside0.mk (hi); replace HB := Aside0.mk (hb); (try clear hb); (try clear hb2); (try clear hk); (try clear hi)))
          go_meet
          case rel => exact ⟨_, (t451), (t452), (t453), (x411001_23), (wrap64 (t437)), ((wrap64 (IntKind.u64.wrap (Int.tdiv t430 8)))), (t447), H', ⟨by have := HJ23.out; have := HJ35.out; first | omega | exact Nat.le_refl _⟩, ⟨bk_now⟩, ⟨bk_now⟩, ⟨is_now⟩, ⟨ik_now (w := w)⟩, ⟨ib_now⟩⟩
         ·replace c58 := Bool.eq_false_iff.mpr c58
          subst c58
          replace H := sh_f H
          replace H := Option.bind_eq_some_iff.mp H; obtain ⟨t454, A700, H⟩ := H; try dsimp only at H
          have A70 := Aside0.mk A700
          clear A700
          replace H := Option.bind_eq_some_iff.mp H; obtain ⟨⟨t455, t456, t457⟩, A710, H⟩ := H; try dsimp only at H
          have A71 := Aside0.mk A710
          clear A710
          have H' := Aside0.mk H
          clear H
          go_upto_region 19 with (first | ((with_reducible refine gate_callee (f := 60) rfl ?_); refine sh_call (some 51) Tryd.func60 #[.pointer (some ⟨g, 0, none⟩), .string (⟨#[64]⟩ : ByteArray)] ?_; (with_reducible refine (stockaderef18_reader_must.calls g t431 t432 x1002_35 (⟨#[64]⟩ : ByteArray) t434 t435 t436 w0 _ ?side1 ?side2 A51.out).mono ?_); (case side1 => exact is_now); (case side2 => exact ib_now); rintro e w72 ⟨rfl, hi, hb, hk⟩; refine ⟨_, rfl, ?_⟩; replace BK409 := Aside0.mk (KeepBut.blk hk (g' := gb409) (o := .cells #[.bool false, .int .i64 0, .int .i64 0, .int .i64 0, .int .u64 0, .int .u64 0, .int .u64 0] 55 (0, 0)) bk_now NB409_0.out (by simp)); replace BK410 := Aside0.mk (KeepBut.blk hk (g' := gb410) (o := .cells #[.bool t411, .int .i64 x411001_23, .int .i64 0, .int .i64 (wrap64 (IntKind.u64.wrap (Int.tdiv t430 8))), .int .u64 0, .int .u64 0, .int .u64 0] 55 (0, 0)) bk_now NB410_0.out (by simp)); replace HK := Aside0.mk (KeepBut.trans (ik_now (w := w)) hk (.inl rfl)); replace HI0 := Aside0.mk (hi); replace HB := Aside0.mk (hb); (try clear hb); (try clear hb2); (try clear hk); (try clear hi)) | ((with_reducible refine gate_callee (f := 61) rfl ?_); refine sh_call (some 53) Tryd.func61 #[.pointer (some ⟨g, 0, none⟩), .int .u64 255] ?_; (with_reducible refine (stockaderef18_reader_number.calls kj35 g t434 t435 t436 255 t437 t438 t439 t440 w0 _ ?side1 ?side2 A52.out).mono ?_); (case side1 => exact is_now); (case side2 => exact ib_now); rintro e w73 ⟨rfl, hi, hb, hk⟩; refine ⟨_, rfl, ?_⟩; replace BK409 := Aside0.mk (KeepBut.blk hk (g' := gb409) (o := .cells #[.bool false, .int .i64 0, .int .i64 0, .int .i64 0, .int .u64 0, .int .u64 0, .int .u64 0] 55 (0, 0)) bk_now NB409_0.out (by simp)); replace BK410 := Aside0.mk (KeepBut.blk hk (g' := gb410) (o := .cells #[.bool t411, .int .i64 x411001_23, .int .i64 0, .int .i64 (wrap64 (IntKind.u64.wrap (Int.tdiv t430 8))), .int .u64 0, .int .u64 0, .int .u64 0] 55 (0, 0)) bk_now NB410_0.out (by simp)); replace HK := Aside0.mk (KeepBut.trans (ik_now (w := w)) hk (.inl rfl)); replace HI0 := Aside0.mk (hi); replace HB := Aside0.mk (hb); (try clear hb); (try clear hb2); (try clear hk); (try clear hi); have hnb74 := NB410_409.out; have hnc74 := NB409_410.out; have hnb75 := NB410_0.out; have hnc75 := NB0_410.out; have hcz76 := blk_all7 BK410.out) | ((with_reducible refine gate_callee (f := 43) rfl ?_); refine sh_call (some 58) Tryd.func43 #[.int .i64 (wrap64 (IntKind.u64.wrap (Int.tdiv t430 8)))] ?_; (with_reducible refine (stockaderef18_Full.calls kj35 (wrap64 (IntKind.u64.wrap (Int.tdiv t430 8))) t441 _ A53.out).mono ?_); rintro e w' ⟨rfl, ⟨nd, rfl⟩⟩; refine ⟨_, rfl, ?_⟩) | ((with_reducible refine gate_callee (f := 58) rfl ?_); refine sh_call (some 61) Tryd.func58 #[.pointer (some ⟨g, 0, none⟩), .string (⟨#[47]⟩ : ByteArray)] ?_; (with_reducible refine (stockaderef18_reader_has.calls g t438 t439 t440 (⟨#[47]⟩ : ByteArray) true t443 t444 t445 w0 _ ?side1 ?side2 A54.out).mono ?_); (case side1 => exact is_now); (case side2 => exact ib_now); rintro e w77 ⟨rfl, hi, hb, hk⟩; refine ⟨_, rfl, ?_⟩; replace BK409 := Aside0.mk (KeepBut.blk hk (g' := gb409) (o := .cells #[.bool false, .int .i64 0, .int .i64 0, .int .i64 0, .int .u64 0, .int .u64 0, .int .u64 0] 55 (0, 0)) bk_now NB409_0.out (by simp)); replace BK410 := Aside0.mk (KeepBut.blk hk (g' := gb410) (o := .cells #[.bool t411, .int .i64 x411001_23, .int .i64 (wrap64 (t437)), .int .i64 (wrap64 (IntKind.u64.wrap (Int.tdiv t430 8))), .int .u64 t441, .int .u64 0, .int .u64 0] 55 (0, 0)) bk_now NB410_0.out (by simp)); replace HK := Aside0.mk (KeepBut.trans (ik_now (w := w)) hk (.inl rfl)); replace HI0 := Aside0.mk (hi); replace HB := Aside0.mk (hb); (try clear hb); (try clear hb2); (try clear hk); (try clear hi)) | ((with_reducible refine gate_callee (f := 43) rfl ?_); refine sh_call (some 63) Tryd.func43 #[.int .i64 8] ?_; (with_reducible refine (stockaderef18_Full.calls kj35 8 t446 _ A56.out).mono ?_); rintro e w' ⟨rfl, ⟨nd, rfl⟩⟩; refine ⟨_, rfl, ?_⟩; (try (rw [drewN_self w77]; generalize hq_ : World.drewN w77 _ = w77; have n0_ : Aside0 (w77.heap[gb409]? = some (.cells #[.bool false, .int .i64 0, .int .i64 0, .int .i64 0, .int .u64 0, .int .u64 0, .int .u64 0] 55 (0, 0))) := ⟨by rw [← hq_]; exact bk_now⟩; have n1_ : Aside0 (w77.heap[gb410]? = some (.cells #[.bool t411, .int .i64 x411001_23, .int .i64 (wrap64 (t437)), .int .i64 (wrap64 (IntKind.u64.wrap (Int.tdiv t430 8))), .int .u64 t441, .int .u64 0, .int .u64 0] 55 (0, 0))) := ⟨by rw [← hq_]; exact bk_now⟩; have n2_ : Aside0 (IsS112 w0 w77 g t443 t444 t445) := ⟨by rw [← hq_]; exact (is_now)⟩; have n3_ : Aside0 (KeepBut w w77 g none) := ⟨by rw [← hq_]; exact (ik_now (w := w))⟩; have n4_ : Aside0 (Below w0.heap.size w0 w77) := ⟨by rw [← hq_]; exact (ib_now)⟩; clear BK409 BK410 HI0 HK HB hq_; have BK409 := n0_; have BK410 := n1_; have HI0 := n2_; have HK := n3_; have HB := n4_; clear n0_ n1_ n2_ n3_ n4_))) | ((with_reducible refine gate_callee (f := 61) rfl ?_); refine sh_call (some 64) Tryd.func61 #[.pointer (some ⟨g, 0, none⟩), .int .u64 t446] ?_; (with_reducible refine (stockaderef18_reader_number.calls kj35 g t443 t444 t445 t446 t447 t448 t449 false w0 _ ?side1 ?side2 A57.out).mono ?_); (case side1 => exact is_now); (case side2 => exact ib_now); rintro e w78 ⟨rfl, hi, hb, hk⟩; refine ⟨_, rfl, ?_⟩; replace BK409 := Aside0.mk (KeepBut.blk hk (g' := gb409) (o := .cells #[.bool false, .int .i64 0, .int .i64 0, .int .i64 0, .int .u64 0, .int .u64 0, .int .u64 0] 55 (0, 0)) bk_now NB409_0.out (by simp)); replace BK410 := Aside0.mk (KeepBut.blk hk (g' := gb410) (o := .cells #[.bool t411, .int .i64 x411001_23, .int .i64 (wrap64 (t437)), .int .i64 (wrap64 (IntKind.u64.wrap (Int.tdiv t430 8))), .int .u64 t441, .int .u64 0, .int .u64 0] 55 (0, 0)) bk_now NB410_0.out (by simp)); replace HK := Aside0.mk (KeepBut.trans (ik_now (w := w)) hk (.inl rfl)); replace HI0 := Aside0.mk (hi); replace HB := Aside0.mk (hb); (try clear hb); (try clear hb2); (try clear hk); (try clear hi); have hcz79 := blk_all7 BK410.out; obtain ⟨HGz80, hgz80⟩ := HI0.out; have hcz80_0 := cellS112_0 HGz80; have hcz80_1 := cellS112_1 HGz80; have hcz80_2 := cellS112_2 HGz80; have hfz80_0 := blk_frozen HGz80 0; have hfz80_1 := blk_frozen HGz80 1; have hfz80_2 := blk_frozen HGz80 2; clear HGz80 hgz80) | (go_at_call 43; (with_reducible refine (stockaderef18_Full.calls kj35 (wrap64 (IntKind.u64.wrap (Int.tdiv t430 8))) t454 _ A70.out).mono ?_); rintro e w' ⟨rfl, ⟨nd, rfl⟩⟩) | ((with_reducible refine gate_callee (f := 60) rfl ?_); refine sh_call (some 82) Tryd.func60 #[.pointer (some ⟨g, 0, none⟩), .string (⟨#[32]⟩ : ByteArray)] ?_; (with_reducible refine (stockaderef18_reader_must.calls g t448 t449 (decide (t447 ≥ t454)) (⟨#[32]⟩ : ByteArray) t455 t456 t457 w0 _ ?side1 ?side2 A71.out).mono ?_); (case side1 => exact is_now); (case side2 => exact ib_now); rintro e w81 ⟨rfl, hi, hb, hk⟩; refine ⟨_, rfl, ?_⟩; replace BK409 := Aside0.mk (KeepBut.blk hk (g' := gb409) (o := .cells #[.bool false, .int .i64 0, .int .i64 0, .int .i64 0, .int .u64 0, .int .u64 0, .int .u64 0] 55 (0, 0)) bk_now NB409_0.out (by simp)); replace BK410 := Aside0.mk (KeepBut.blk hk (g' := gb410) (o := .cells #[.bool t411, .int .i64 x411001_23, .int .i64 (wrap64 (t437)), .int .i64 (wrap64 (IntKind.u64.wrap (Int.tdiv t430 8))), .int .u64 t447, .int .u64 0, .int .u64 0] 55 (0, 0)) bk_now NB410_0.out (by simp)); replace HK := Aside0.mk (KeepBut.trans (ik_now (w := w)) hk (.inl rfl)); replace HI0 := Aside0.mk (hi); replace HB := Aside0.mk (hb); (try clear hb); (try clear hb2); (try clear hk); (try clear hi)))
          refine name_any (fun W => W.heap[gb409]? = some (.cells #[.bool false, .int .i64 0, .int .i64 0, .int .i64 0, .int .u64 0, .int .u64 0, .int .u64 0] 55 (0, 0)) ∧ W.heap[gb410]? = some (.cells #[.bool t411, .int .i64 x411001_23, .int .i64 (wrap64 (t437)), .int .i64 (wrap64 (IntKind.u64.wrap (Int.tdiv t430 8))), .int .u64 t447, .int .u64 0, .int .u64 0] 55 (0, 0)) ∧ IsS112 w0 W g t448 t449 false ∧ KeepBut w W g none ∧ Below w0.heap.size w0 W) ⟨bk_now, bk_now, is_now, ik_now (w := w), ib_now⟩ ?_
          clear BK409 BK410 HI0 HK HB
          rintro wz441 ⟨k_0, k_1, k_2, k_3, k_4⟩
          have BK409 := Aside0.mk k_0
          have BK410 := Aside0.mk k_1
          have HI0 := Aside0.mk k_2
          have HK := Aside0.mk k_3
          have HB := Aside0.mk k_4
          clear k_0 k_1 k_2 k_3 k_4
          refine start_ (n := 16) (S := (fun w' => w'.cell? ⟨g, 2, none⟩ = some (.bool false) ∧ w'.cell? ⟨gb410, 3, none⟩ = some (.int .i64 (wrap64 (IntKind.u64.wrap (Int.tdiv t430 8)))) ∧ w'.cell? ⟨gb410, 4, none⟩ = some (.int .u64 t447))) (ds := [15]) (fl 0 16) (by kernel_rfl) rfl rfl ⟨(blk_cell (blk_drew HI0.out.1) 2).trans rfl, (blk_cell (blk_drew BK410.out) 3).trans rfl, (blk_cell (blk_drew BK410.out) 4).trans rfl⟩ (fun hHeld => ?_)
          have BK409 := Aside0.mk (blk_drew BK409.out)
          have BK410 := Aside0.mk (blk_drew BK410.out)
          have HI0 := Aside0.mk (IsS112.drew HI0.out)
          have HK := Aside0.mk (keep_drew HK.out)
          have HB := Aside0.mk (below_drew1 HB.out)
          generalize wz441.drew = wz441a at BK409 BK410 HI0 HK HB hHeld ⊢
          refine pure_ (i := 0) (N := some 66) (v := ?_) (a' := ?_) (fl 1 15) rfl rfl (by kernel_rfl) (fun _ _ _ h => h) (Or.inl ⟨by rfl, ?_⟩) ?_ ?_
          rotate_left; exact ga_; rotate_left; exact gb_
          refine pure_ (i := 1) (N := some 67) (v := ?_) (a' := ?_) (fl 2 14) rfl rfl (by kernel_rfl) (fun _ _ _ h => h) (Or.inl ⟨by rfl, ?_⟩) ?_ ?_
          rotate_left; exact ga_; rotate_left; exact gb_
          refine pure_ (i := 2) (N := some 68) (v := ?_) (a' := ?_) (fl 3 13) rfl rfl (by kernel_rfl) (fun _ _ _ h => h) (Or.inl ⟨by rfl, ?_⟩) ?_ ?_
          rotate_left; exact ga_; rotate_left; exact gb_
          refine pure_ (i := 3) (N := some 69) (v := ?_) (a' := ?_) (fl 4 12) rfl rfl (by kernel_rfl) (fun _ _ _ h => h) (Or.inl ⟨by rfl, ?_⟩) ?_ ?_
          rotate_left; exact ga_; rotate_left; exact gb_
          refine take_ (i := 4) (N := some 70) (v := ?_) (a' := ?_) (fl 5 11) rfl rfl (by kernel_rfl) (fun _ _ _ h => h) (Or.inl ⟨by rfl, ?_⟩) hHeld ?_ ?_
          rotate_left; exact ga3_; rotate_left; exact gb_
          refine pure_ (i := 5) (N := some 71) (v := ?_) (a' := ?_) (fl 6 10) rfl rfl (by kernel_rfl) (fun _ _ _ h => h) (Or.inl ⟨by rfl, ?_⟩) ?_ ?_
          rotate_left; exact ga_; rotate_left; exact gb_
          refine pure_ (i := 6) (N := some 72) (v := ?_) (a' := ?_) (fl 7 9) rfl rfl (by kernel_rfl) (fun _ _ _ h => h) (Or.inl ⟨by rfl, ?_⟩) ?_ ?_
          rotate_left; exact ga_; rotate_left; exact gb_
          refine take_ (i := 7) (N := some 73) (v := ?_) (a' := ?_) (fl 8 8) rfl rfl (by kernel_rfl) (fun _ _ _ h => h) (Or.inl ⟨by rfl, ?_⟩) hHeld ?_ ?_
          rotate_left; exact ga3_; rotate_left; exact gb_
          refine pure_ (i := 8) (N := some 74) (v := ?_) (a' := ?_) (fl 9 7) rfl rfl (by kernel_rfl) (fun _ _ _ h => h) (Or.inl ⟨by rfl, ?_⟩) ?_ ?_
          rotate_left; exact ga_; rotate_left; exact gb_
          refine take_ (i := 9) (N := some 75) (v := ?_) (a' := ?_) (fl 10 6) rfl rfl (by kernel_rfl) (fun _ _ _ h => h) (Or.inl ⟨by rfl, ?_⟩) hHeld ?_ ?_
          rotate_left; exact ga3_; rotate_left; exact gb_
          refine one_ (i := 10) (N := some 76) (fl 11 5) rfl rfl (by kernel_rfl) (by decide) (fun K hK => ?_)
          refine goes_ Tryd.func43 (by kernel_rfl) rfl #[.int .i64 (wrap64 (IntKind.u64.wrap (Int.tdiv t430 8)))] (by rfl) rfl rfl (by (try simp only [List.map_toArray, List.map_cons, List.map_nil]); first | done | rfl) ?_
          with_reducible refine (stockaderef18_Full.calls kj35 (wrap64 (IntKind.u64.wrap (Int.tdiv t430 8))) t454 _ A70.out).mono ?_
          rintro e w' ⟨rfl, ⟨nd, rfl⟩⟩
          refine ⟨_, rfl, ?_⟩
          have BK409 := Aside0.mk (blk_drewN BK409.out nd)
          have BK410 := Aside0.mk (blk_drewN BK410.out nd)
          have HI0 := Aside0.mk (IsS112.drewN HI0.out nd)
          have HK := Aside0.mk (keep_drewN HK.out nd)
          have HB := Aside0.mk (pw_below_drewN HB.out nd)
          generalize World.drewN wz441a nd = wz441b at BK409 BK410 HI0 HK HB ⊢
          refine hK.out _ _ ⟨(blk_cell HI0.out.1 2).trans rfl, (blk_cell BK410.out 3).trans rfl, (blk_cell BK410.out 4).trans rfl⟩ (fun hHeld => ?_)
          clear hK K
          refine norm_ (a' := ?_) ?_ ?_
          rotate_left
          ·show Act.put _ (some 76) _ = _
           simp only [Act.put, List.setIfInBounds_toArray, List.set_cons_zero, List.set_cons_succ, i64_w, i32_w]
           rfl
          refine pure_ (i := 11) (N := some 77) (v := ?_) (a' := ?_) (fl 12 4) rfl rfl (by kernel_rfl) (fun _ _ _ h => h) (Or.inl ⟨by rfl, ?_⟩) ?_ ?_
          rotate_left; exact ga_; rotate_left; exact gb_
          refine pure_ (i := 12) (N := some 78) (v := ?_) (a' := ?_) (fl 13 3) rfl rfl (by kernel_rfl) (fun _ _ _ h => h) (Or.inl ⟨by rfl, ?_⟩) ?_ ?_
          rotate_left; exact ga_; rotate_left; exact gb_
          refine pure_ (i := 13) (N := some 79) (v := ?_) (a' := ?_) (fl 14 2) rfl rfl (by kernel_rfl) (fun _ _ _ h => h) (Or.inl ⟨by rfl, ?_⟩) ?_ ?_
          rotate_left; exact ga_; rotate_left; exact gb_
          refine pure_ (i := 14) (N := some 80) (v := ?_) (a' := ?_) (fl 15 1) rfl rfl (by kernel_rfl) (fun _ _ _ h => h) (Or.inl ⟨by rfl, ?_⟩) ?_ ?_
          rotate_left; exact ga_; rotate_left; exact gb_
          refine last_ (i := 15) (N := none) (fl 16 0) rfl rfl (by kernel_rfl) (by decide) (fun K hK => ?_)
          have zs := blk_all3 HI0.out.1
          refine skip_ (w1 := ?_) (by rfl) rfl ?_ ?_
          rotate_left
          ·go_simp
           rfl
          refine hK.out _ _ ?_
          clear hK K zs
          refine done_ (by kernel_rfl) ?_
          go_wp2_with (first | ((with_reducible refine gate_callee (f := 60) rfl ?_); refine sh_call (some 51) Tryd.func60 #[.pointer (some ⟨g, 0, none⟩), .string (⟨#[64]⟩ : ByteArray)] ?_; (with_reducible refine (stockaderef18_reader_must.calls g t431 t432 x1002_35 (⟨#[64]⟩ : ByteArray) t434 t435 t436 w0 _ ?side1 ?side2 A51.out).mono ?_); (case side1 => exact is_now); (case side2 => exact ib_now); rintro e w72 ⟨rfl, hi, hb, hk⟩; refine ⟨_, rfl, ?_⟩; replace BK409 := Aside0.mk (KeepBut.blk hk (g' := gb409) (o := .cells #[.bool false, .int .i64 0, .int .i64 0, .int .i64 0, .int .u64 0, .int .u64 0, .int .u64 0] 55 (0, 0)) bk_now NB409_0.out (by simp)); replace BK410 := Aside0.mk (KeepBut.blk hk (g' := gb410) (o := .cells #[.bool t411, .int .i64 x411001_23, .int .i64 0, .int .i64 (wrap64 (IntKind.u64.wrap (Int.tdiv t430 8))), .int .u64 0, .int .u64 0, .int .u64 0] 55 (0, 0)) bk_now NB410_0.out (by simp)); replace HK := Aside0.mk (KeepBut.trans (ik_now (w := w)) hk (.inl rfl)); replace HI0 := Aside0.mk (hi); replace HB := Aside0.mk (hb); (try clear hb); (try clear hb2); (try clear hk); (try clear hi)) | ((with_reducible refine gate_callee (f := 61) rfl ?_); refine sh_call (some 53) Tryd.func61 #[.pointer (some ⟨g, 0, none⟩), .int .u64 255] ?_; (with_reducible refine (stockaderef18_reader_number.calls kj35 g t434 t435 t436 255 t437 t438 t439 t440 w0 _ ?side1 ?side2 A52.out).mono ?_); (case side1 => exact is_now); (case side2 => exact ib_now); rintro e w73 ⟨rfl, hi, hb, hk⟩; refine ⟨_, rfl, ?_⟩; replace BK409 := Aside0.mk (KeepBut.blk hk (g' := gb409) (o := .cells #[.bool false, .int .i64 0, .int .i64 0, .int .i64 0, .int .u64 0, .int .u64 0, .int .u64 0] 55 (0, 0)) bk_now NB409_0.out (by simp)); replace BK410 := Aside0.mk (KeepBut.blk hk (g' := gb410) (o := .cells #[.bool t411, .int .i64 x411001_23, .int .i64 0, .int .i64 (wrap64 (IntKind.u64.wrap (Int.tdiv t430 8))), .int .u64 0, .int .u64 0, .int .u64 0] 55 (0, 0)) bk_now NB410_0.out (by simp)); replace HK := Aside0.mk (KeepBut.trans (ik_now (w := w)) hk (.inl rfl)); replace HI0 := Aside0.mk (hi); replace HB := Aside0.mk (hb); (try clear hb); (try clear hb2); (try clear hk); (try clear hi); have hnb74 := NB410_409.out; have hnc74 := NB409_410.out; have hnb75 := NB410_0.out; have hnc75 := NB0_410.out; have hcz76 := blk_all7 BK410.out) | ((with_reducible refine gate_callee (f := 43) rfl ?_); refine sh_call (some 58) Tryd.func43 #[.int .i64 (wrap64 (IntKind.u64.wrap (Int.tdiv t430 8)))] ?_; (with_reducible refine (stockaderef18_Full.calls kj35 (wrap64 (IntKind.u64.wrap (Int.tdiv t430 8))) t441 _ A53.out).mono ?_); rintro e w' ⟨rfl, ⟨nd, rfl⟩⟩; refine ⟨_, rfl, ?_⟩) | ((with_reducible refine gate_callee (f := 58) rfl ?_); refine sh_call (some 61) Tryd.func58 #[.pointer (some ⟨g, 0, none⟩), .string (⟨#[47]⟩ : ByteArray)] ?_; (with_reducible refine (stockaderef18_reader_has.calls g t438 t439 t440 (⟨#[47]⟩ : ByteArray) true t443 t444 t445 w0 _ ?side1 ?side2 A54.out).mono ?_); (case side1 => exact is_now); (case side2 => exact ib_now); rintro e w77 ⟨rfl, hi, hb, hk⟩; refine ⟨_, rfl, ?_⟩; replace BK409 := Aside0.mk (KeepBut.blk hk (g' := gb409) (o := .cells #[.bool false, .int .i64 0, .int .i64 0, .int .i64 0, .int .u64 0, .int .u64 0, .int .u64 0] 55 (0, 0)) bk_now NB409_0.out (by simp)); replace BK410 := Aside0.mk (KeepBut.blk hk (g' := gb410) (o := .cells #[.bool t411, .int .i64 x411001_23, .int .i64 (wrap64 (t437)), .int .i64 (wrap64 (IntKind.u64.wrap (Int.tdiv t430 8))), .int .u64 t441, .int .u64 0, .int .u64 0] 55 (0, 0)) bk_now NB410_0.out (by simp)); replace HK := Aside0.mk (KeepBut.trans (ik_now (w := w)) hk (.inl rfl)); replace HI0 := Aside0.mk (hi); replace HB := Aside0.mk (hb); (try clear hb); (try clear hb2); (try clear hk); (try clear hi)) | ((with_reducible refine gate_callee (f := 43) rfl ?_); refine sh_call (some 63) Tryd.func43 #[.int .i64 8] ?_; (with_reducible refine (stockaderef18_Full.calls kj35 8 t446 _ A56.out).mono ?_); rintro e w' ⟨rfl, ⟨nd, rfl⟩⟩; refine ⟨_, rfl, ?_⟩; (try (rw [drewN_self w77]; generalize hq_ : World.drewN w77 _ = w77; have n0_ : Aside0 (w77.heap[gb409]? = some (.cells #[.bool false, .int .i64 0, .int .i64 0, .int .i64 0, .int .u64 0, .int .u64 0, .int .u64 0] 55 (0, 0))) := ⟨by rw [← hq_]; exact bk_now⟩; have n1_ : Aside0 (w77.heap[gb410]? = some (.cells #[.bool t411, .int .i64 x411001_23, .int .i64 (wrap64 (t437)), .int .i64 (wrap64 (IntKind.u64.wrap (Int.tdiv t430 8))), .int .u64 t441, .int .u64 0, .int .u64 0] 55 (0, 0))) := ⟨by rw [← hq_]; exact bk_now⟩; have n2_ : Aside0 (IsS112 w0 w77 g t443 t444 t445) := ⟨by rw [← hq_]; exact (is_now)⟩; have n3_ : Aside0 (KeepBut w w77 g none) := ⟨by rw [← hq_]; exact (ik_now (w := w))⟩; have n4_ : Aside0 (Below w0.heap.size w0 w77) := ⟨by rw [← hq_]; exact (ib_now)⟩; clear BK409 BK410 HI0 HK HB hq_; have BK409 := n0_; have BK410 := n1_; have HI0 := n2_; have HK := n3_; have HB := n4_; clear n0_ n1_ n2_ n3_ n4_))) | ((with_reducible refine gate_callee (f := 61) rfl ?_); refine sh_call (some 64) Tryd.func61 #[.pointer (some ⟨g, 0, none⟩), .int .u64 t446] ?_; (with_reducible refine (stockaderef18_reader_number.calls kj35 g t443 t444 t445 t446 t447 t448 t449 false w0 _ ?side1 ?side2 A57.out).mono ?_); (case side1 => exact is_now); (case side2 => exact ib_now); rintro e w78 ⟨rfl, hi, hb, hk⟩; refine ⟨_, rfl, ?_⟩; replace BK409 := Aside0.mk (KeepBut.blk hk (g' := gb409) (o := .cells #[.bool false, .int .i64 0, .int .i64 0, .int .i64 0, .int .u64 0, .int .u64 0, .int .u64 0] 55 (0, 0)) bk_now NB409_0.out (by simp)); replace BK410 := Aside0.mk (KeepBut.blk hk (g' := gb410) (o := .cells #[.bool t411, .int .i64 x411001_23, .int .i64 (wrap64 (t437)), .int .i64 (wrap64 (IntKind.u64.wrap (Int.tdiv t430 8))), .int .u64 t441, .int .u64 0, .int .u64 0] 55 (0, 0)) bk_now NB410_0.out (by simp)); replace HK := Aside0.mk (KeepBut.trans (ik_now (w := w)) hk (.inl rfl)); replace HI0 := Aside0.mk (hi); replace HB := Aside0.mk (hb); (try clear hb); (try clear hb2); (try clear hk); (try clear hi); have hcz79 := blk_all7 BK410.out; obtain ⟨HGz80, hgz80⟩ := HI0.out; have hcz80_0 := cellS112_0 HGz80; have hcz80_1 := cellS112_1 HGz80; have hcz80_2 := cellS112_2 HGz80; have hfz80_0 := blk_frozen HGz80 0; have hfz80_1 := blk_frozen HGz80 1; have hfz80_2 := blk_frozen HGz80 2; clear HGz80 hgz80) | (go_at_call 43; (with_reducible refine (stockaderef18_Full.calls kj35 (wrap64 (IntKind.u64.wrap (Int.tdiv t430 8))) t454 _ A70.out).mono ?_); rintro e w' ⟨rfl, ⟨nd, rfl⟩⟩) | ((with_reducible refine gate_callee (f := 60) rfl ?_); refine sh_call (some 82) Tryd.func60 #[.pointer (some ⟨g, 0, none⟩), .string (⟨#[32]⟩ : ByteArray)] ?_; (with_reducible refine (stockaderef18_reader_must.calls g t448 t449 (decide (t447 ≥ t454)) (⟨#[32]⟩ : ByteArray) t455 t456 t457 w0 _ ?side1 ?side2 A71.out).mono ?_); (case side1 => exact is_now); (case side2 => exact ib_now); rintro e w81 ⟨rfl, hi, hb, hk⟩; refine ⟨_, rfl, ?_⟩; replace BK409 := Aside0.mk (KeepBut.blk hk (g' := gb409) (o := .cells #[.bool false, .int .i64 0, .int .i64 0, .int .i64 0, .int .u64 0, .int .u64 0, .int .u64 0] 55 (0, 0)) bk_now NB409_0.out (by simp)); replace BK410 := Aside0.mk (KeepBut.blk hk (g' := gb410) (o := .cells #[.bool t411, .int .i64 x411001_23, .int .i64 (wrap64 (t437)), .int .i64 (wrap64 (IntKind.u64.wrap (Int.tdiv t430 8))), .int .u64 t447, .int .u64 0, .int .u64 0] 55 (0, 0)) bk_now NB410_0.out (by simp)); replace HK := Aside0.mk (KeepBut.trans (ik_now (w := w)) hk (.inl rfl)); replace HI0 := Aside0.mk (hi); replace HB := Aside0.mk (hb); (try clear hb); (try clear hb2); (try clear hk); (try clear hi)))
          go_meet
          case rel => exact ⟨_, (t455), (t456), (t457), (x411001_23), (wrap64 (t437)), ((wrap64 (IntKind.u64.wrap (Int.tdiv t430 8)))), (t447), H', ⟨by have := HJ23.out; have := HJ35.out; first | omega | exact Nat.le_refl _⟩, ⟨bk_now⟩, ⟨bk_now⟩, ⟨is_now⟩, ⟨ik_now (w := w)⟩, ⟨ib_now⟩⟩
        ·replace c55 := Bool.eq_false_iff.mpr c55
         subst c55
         replace H := sh_f H
         replace H := Option.bind_eq_some_iff.mp H; obtain ⟨⟨t458, t459, t460⟩, A820, H⟩ := H; try dsimp only at H
         have A82 := Aside0.mk A820
         clear A820
         have H' := Aside0.mk H
         clear H
         go_wp2_with (first | ((with_reducible refine gate_callee (f := 60) rfl ?_); refine sh_call (some 51) Tryd.func60 #[.pointer (some ⟨g, 0, none⟩), .string (⟨#[64]⟩ : ByteArray)] ?_; (with_reducible refine (stockaderef18_reader_must.calls g t431 t432 x1002_35 (⟨#[64]⟩ : ByteArray) t434 t435 t436 w0 _ ?side1 ?side2 A51.out).mono ?_); (case side1 => exact is_now); (case side2 => exact ib_now); rintro e w83 ⟨rfl, hi, hb, hk⟩; refine ⟨_, rfl, ?_⟩; replace BK409 := Aside0.mk (KeepBut.blk hk (g' := gb409) (o := .cells #[.bool false, .int .i64 0, .int .i64 0, .int .i64 0, .int .u64 0, .int .u64 0, .int .u64 0] 55 (0, 0)) bk_now NB409_0.out (by simp)); replace BK410 := Aside0.mk (KeepBut.blk hk (g' := gb410) (o := .cells #[.bool t411, .int .i64 x411001_23, .int .i64 0, .int .i64 (wrap64 (IntKind.u64.wrap (Int.tdiv t430 8))), .int .u64 0, .int .u64 0, .int .u64 0] 55 (0, 0)) bk_now NB410_0.out (by simp)); replace HK := Aside0.mk (KeepBut.trans (ik_now (w := w)) hk (.inl rfl)); replace HI0 := Aside0.mk (hi); replace HB := Aside0.mk (hb); (try clear hb); (try clear hb2); (try clear hk); (try clear hi)) | ((with_reducible refine gate_callee (f := 61) rfl ?_); refine sh_call (some 53) Tryd.func61 #[.pointer (some ⟨g, 0, none⟩), .int .u64 255] ?_; (with_reducible refine (stockaderef18_reader_number.calls kj35 g t434 t435 t436 255 t437 t438 t439 t440 w0 _ ?side1 ?side2 A52.out).mono ?_); (case side1 => exact is_now); (case side2 => exact ib_now); rintro e w84 ⟨rfl, hi, hb, hk⟩; refine ⟨_, rfl, ?_⟩; replace BK409 := Aside0.mk (KeepBut.blk hk (g' := gb409) (o := .cells #[.bool false, .int .i64 0, .int .i64 0, .int .i64 0, .int .u64 0, .int .u64 0, .int .u64 0] 55 (0, 0)) bk_now NB409_0.out (by simp)); replace BK410 := Aside0.mk (KeepBut.blk hk (g' := gb410) (o := .cells #[.bool t411, .int .i64 x411001_23, .int .i64 0, .int .i64 (wrap64 (IntKind.u64.wrap (Int.tdiv t430 8))), .int .u64 0, .int .u64 0, .int .u64 0] 55 (0, 0)) bk_now NB410_0.out (by simp)); replace HK := Aside0.mk (KeepBut.trans (ik_now (w := w)) hk (.inl rfl)); replace HI0 := Aside0.mk (hi); replace HB := Aside0.mk (hb); (try clear hb); (try clear hb2); (try clear hk); (try clear hi); have hnb85 := NB410_409.out; have hnc85 := NB409_410.out; have hnb86 := NB410_0.out; have hnc86 := NB0_410.out; have hcz87 := blk_all7 BK410.out) | ((with_reducible refine gate_callee (f := 43) rfl ?_); refine sh_call (some 58) Tryd.func43 #[.int .i64 (wrap64 (IntKind.u64.wrap (Int.tdiv t430 8)))] ?_; (with_reducible refine (stockaderef18_Full.calls kj35 (wrap64 (IntKind.u64.wrap (Int.tdiv t430 8))) t441 _ A53.out).mono ?_); rintro e w' ⟨rfl, ⟨nd, rfl⟩⟩; refine ⟨_, rfl, ?_⟩) | ((with_reducible refine gate_callee (f := 58) rfl ?_); refine sh_call (some 61) Tryd.func58 #[.pointer (some ⟨g, 0, none⟩), .string (⟨#[47]⟩ : ByteArray)] ?_; (with_reducible refine (stockaderef18_reader_has.calls g t438 t439 t440 (⟨#[47]⟩ : ByteArray) false t443 t444 t445 w0 _ ?side1 ?side2 A54.out).mono ?_); (case side1 => exact is_now); (case side2 => exact ib_now); rintro e w88 ⟨rfl, hi, hb, hk⟩; refine ⟨_, rfl, ?_⟩; replace BK409 := Aside0.mk (KeepBut.blk hk (g' := gb409) (o := .cells #[.bool false, .int .i64 0, .int .i64 0, .int .i64 0, .int .u64 0, .int .u64 0, .int .u64 0] 55 (0, 0)) bk_now NB409_0.out (by simp)); replace BK410 := Aside0.mk (KeepBut.blk hk (g' := gb410) (o := .cells #[.bool t411, .int .i64 x411001_23, .int .i64 (wrap64 (t437)), .int .i64 (wrap64 (IntKind.u64.wrap (Int.tdiv t430 8))), .int .u64 t441, .int .u64 0, .int .u64 0] 55 (0, 0)) bk_now NB410_0.out (by simp)); replace HK := Aside0.mk (KeepBut.trans (ik_now (w := w)) hk (.inl rfl)); replace HI0 := Aside0.mk (hi); replace HB := Aside0.mk (hb); (try clear hb); (try clear hb2); (try clear hk); (try clear hi)) | ((with_reducible refine gate_callee (f := 60) rfl ?_); refine sh_call (some 82) Tryd.func60 #[.pointer (some ⟨g, 0, none⟩), .string (⟨#[32]⟩ : ByteArray)] ?_; (with_reducible refine (stockaderef18_reader_must.calls g t443 t444 t445 (⟨#[32]⟩ : ByteArray) t458 t459 t460 w0 _ ?side1 ?side2 A82.out).mono ?_); (case side1 => exact is_now); (case side2 => exact ib_now); rintro e w89 ⟨rfl, hi, hb, hk⟩; refine ⟨_, rfl, ?_⟩; replace BK409 := Aside0.mk (KeepBut.blk hk (g' := gb409) (o := .cells #[.bool false, .int .i64 0, .int .i64 0, .int .i64 0, .int .u64 0, .int .u64 0, .int .u64 0] 55 (0, 0)) bk_now NB409_0.out (by simp)); replace BK410 := Aside0.mk (KeepBut.blk hk (g' := gb410) (o := .cells #[.bool t411, .int .i64 x411001_23, .int .i64 (wrap64 (t437)), .int .i64 (wrap64 (IntKind.u64.wrap (Int.tdiv t430 8))), .int .u64 t441, .int .u64 0, .int .u64 0] 55 (0, 0)) bk_now NB410_0.out (by simp)); replace HK := Aside0.mk (KeepBut.trans (ik_now (w := w)) hk (.inl rfl)); replace HI0 := Aside0.mk (hi); replace HB := Aside0.mk (hb); (try clear hb); (try clear hb2); (try clear hk); (try clear hi)))
         go_meet
         case rel => exact ⟨_, (t458), (t459), (t460), (x411001_23), (wrap64 (t437)), ((wrap64 (IntKind.u64.wrap (Int.tdiv t430 8)))), (t441), H', ⟨by have := HJ23.out; have := HJ35.out; first | omega | exact Nat.le_refl _⟩, ⟨bk_now⟩, ⟨bk_now⟩, ⟨is_now⟩, ⟨ik_now (w := w)⟩, ⟨ib_now⟩⟩
 case rest =>
  clear HC4
  clear hcz11 hcz9
  obtain ⟨kq, x1000_3, x1001_3, x1002_3, x411001_3, x411002_3, x411003_3, x411004_3, HA, HJ3, BK409, BK410, HI0, HK, HB⟩ := hcut
  cases kq with
  | zero => exact absurd HA.out (by simp [stockaderef18_reader_test.j2])
  | succ kj3 =>
   have H := HA.out
   clear HA
   simp only [stockaderef18_reader_test.j2] at H
   replace H := Option.bind_eq_some_iff.mp H; obtain ⟨t461, A900, H⟩ := H; try dsimp only at H
   have A90 := Aside0.mk A900
   clear A900
   replace H := Option.bind_eq_some_iff.mp H; obtain ⟨⟨t462, t463, t464, t465⟩, A910, H⟩ := H; try dsimp only at H
   have A91 := Aside0.mk A910
   clear A910
   replace H := Option.bind_eq_some_iff.mp H; obtain ⟨⟨t466, t467, t468⟩, A920, H⟩ := H; try dsimp only at H
   have A92 := Aside0.mk A920
   clear A920
   replace H := Option.bind_eq_some_iff.mp H; obtain ⟨t469, A930, H⟩ := H; try dsimp only at H
   have A93 := Aside0.mk A930
   clear A930
   replace H := Option.bind_eq_some_iff.mp H; obtain ⟨⟨t470, t471, t472, t473⟩, A940, H⟩ := H; try dsimp only at H
   have A94 := Aside0.mk A940
   clear A940
   by_cases c95 : t473 = true
   ·subst c95
    replace H := sh_t H
    simp only [Option.some.injEq, Prod.mk.injEq] at H
    obtain ⟨rfl, rfl, rfl, rfl, rfl, rfl, rfl, rfl, rfl, rfl⟩ := H
    go_wp2_with (first | ((with_reducible refine gate_callee (f := 43) rfl ?_); refine sh_call (some 84) Tryd.func43 #[.int .i64 8] ?_; (with_reducible refine (stockaderef18_Full.calls kj3 8 t461 _ A90.out).mono ?_); rintro e w' ⟨rfl, ⟨nd, rfl⟩⟩; refine ⟨_, rfl, ?_⟩; (try (rw [drewN_self wc]; generalize hq_ : World.drewN wc _ = wc; have n0_ : Aside0 (wc.heap[gb409]? = some (.cells #[.bool false, .int .i64 0, .int .i64 0, .int .i64 0, .int .u64 0, .int .u64 0, .int .u64 0] 55 (0, 0))) := ⟨by rw [← hq_]; exact bk_now⟩; have n1_ : Aside0 (wc.heap[gb410]? = some (.cells #[.bool t411, .int .i64 x411001_3, .int .i64 x411002_3, .int .i64 x411003_3, .int .u64 x411004_3, .int .u64 0, .int .u64 0] 55 (0, 0))) := ⟨by rw [← hq_]; exact bk_now⟩; have n2_ : Aside0 (IsS112 w0 wc g x1000_3 x1001_3 x1002_3) := ⟨by rw [← hq_]; exact (is_now)⟩; have n3_ : Aside0 (KeepBut w wc g none) := ⟨by rw [← hq_]; exact (ik_now (w := w))⟩; have n4_ : Aside0 (Below w0.heap.size w0 wc) := ⟨by rw [← hq_]; exact (ib_now)⟩; clear BK409 BK410 HI0 HK HB hq_; have BK409 := n0_; have BK410 := n1_; have HI0 := n2_; have HK := n3_; have HB := n4_; clear n0_ n1_ n2_ n3_ n4_))) | ((with_reducible refine gate_callee (f := 61) rfl ?_); refine sh_call (some 85) Tryd.func61 #[.pointer (some ⟨g, 0, none⟩), .int .u64 t461] ?_; (with_reducible refine (stockaderef18_reader_number.calls kj3 g x1000_3 x1001_3 x1002_3 t461 t462 t463 t464 t465 w0 _ ?side1 ?side2 A91.out).mono ?_); (case side1 => exact is_now); (case side2 => exact ib_now); rintro e w96 ⟨rfl, hi, hb, hk⟩; refine ⟨_, rfl, ?_⟩; replace BK409 := Aside0.mk (KeepBut.blk hk (g' := gb409) (o := .cells #[.bool false, .int .i64 0, .int .i64 0, .int .i64 0, .int .u64 0, .int .u64 0, .int .u64 0] 55 (0, 0)) bk_now NB409_0.out (by simp)); replace BK410 := Aside0.mk (KeepBut.blk hk (g' := gb410) (o := .cells #[.bool t411, .int .i64 x411001_3, .int .i64 x411002_3, .int .i64 x411003_3, .int .u64 x411004_3, .int .u64 0, .int .u64 0] 55 (0, 0)) bk_now NB410_0.out (by simp)); replace HK := Aside0.mk (KeepBut.trans (ik_now (w := w)) hk (.inl rfl)); replace HI0 := Aside0.mk (hi); replace HB := Aside0.mk (hb); (try clear hb); (try clear hb2); (try clear hk); (try clear hi); have hnb97 := NB410_409.out; have hnc97 := NB409_410.out; have hnb98 := NB410_0.out; have hnc98 := NB0_410.out; have hcz99 := blk_all7 BK410.out) | ((with_reducible refine gate_callee (f := 60) rfl ?_); refine sh_call (some 88) Tryd.func60 #[.pointer (some ⟨g, 0, none⟩), .string (⟨#[46, 46]⟩ : ByteArray)] ?_; (with_reducible refine (stockaderef18_reader_must.calls g t463 t464 t465 (⟨#[46, 46]⟩ : ByteArray) t466 t467 t468 w0 _ ?side1 ?side2 A92.out).mono ?_); (case side1 => exact is_now); (case side2 => exact ib_now); rintro e w100 ⟨rfl, hi, hb, hk⟩; refine ⟨_, rfl, ?_⟩; replace BK409 := Aside0.mk (KeepBut.blk hk (g' := gb409) (o := .cells #[.bool false, .int .i64 0, .int .i64 0, .int .i64 0, .int .u64 0, .int .u64 0, .int .u64 0] 55 (0, 0)) bk_now NB409_0.out (by simp)); replace BK410 := Aside0.mk (KeepBut.blk hk (g' := gb410) (o := .cells #[.bool t411, .int .i64 x411001_3, .int .i64 x411002_3, .int .i64 x411003_3, .int .u64 x411004_3, .int .u64 t462, .int .u64 0] 55 (0, 0)) bk_now NB410_0.out (by simp)); replace HK := Aside0.mk (KeepBut.trans (ik_now (w := w)) hk (.inl rfl)); replace HI0 := Aside0.mk (hi); replace HB := Aside0.mk (hb); (try clear hb); (try clear hb2); (try clear hk); (try clear hi)) | ((with_reducible refine gate_callee (f := 43) rfl ?_); refine sh_call (some 90) Tryd.func43 #[.int .i64 8] ?_; (with_reducible refine (stockaderef18_Full.calls kj3 8 t469 _ A93.out).mono ?_); rintro e w' ⟨rfl, ⟨nd, rfl⟩⟩; refine ⟨_, rfl, ?_⟩; (try (rw [drewN_self w100]; generalize hq_ : World.drewN w100 _ = w100; have n0_ : Aside0 (w100.heap[gb409]? = some (.cells #[.bool false, .int .i64 0, .int .i64 0, .int .i64 0, .int .u64 0, .int .u64 0, .int .u64 0] 55 (0, 0))) := ⟨by rw [← hq_]; exact bk_now⟩; have n1_ : Aside0 (w100.heap[gb410]? = some (.cells #[.bool t411, .int .i64 x411001_3, .int .i64 x411002_3, .int .i64 x411003_3, .int .u64 x411004_3, .int .u64 t462, .int .u64 0] 55 (0, 0))) := ⟨by rw [← hq_]; exact bk_now⟩; have n2_ : Aside0 (IsS112 w0 w100 g t466 t467 t468) := ⟨by rw [← hq_]; exact (is_now)⟩; have n3_ : Aside0 (KeepBut w w100 g none) := ⟨by rw [← hq_]; exact (ik_now (w := w))⟩; have n4_ : Aside0 (Below w0.heap.size w0 w100) := ⟨by rw [← hq_]; exact (ib_now)⟩; clear BK409 BK410 HI0 HK HB hq_; have BK409 := n0_; have BK410 := n1_; have HI0 := n2_; have HK := n3_; have HB := n4_; clear n0_ n1_ n2_ n3_ n4_))) | ((with_reducible refine gate_callee (f := 61) rfl ?_); refine sh_call (some 91) Tryd.func61 #[.pointer (some ⟨g, 0, none⟩), .int .u64 t469] ?_; (with_reducible refine (stockaderef18_reader_number.calls kj3 g t466 t467 t468 t469 t470 t471 t472 true w0 _ ?side1 ?side2 A94.out).mono ?_); (case side1 => exact is_now); (case side2 => exact ib_now); rintro e w101 ⟨rfl, hi, hb, hk⟩; refine ⟨_, rfl, ?_⟩; replace BK409 := Aside0.mk (KeepBut.blk hk (g' := gb409) (o := .cells #[.bool false, .int .i64 0, .int .i64 0, .int .i64 0, .int .u64 0, .int .u64 0, .int .u64 0] 55 (0, 0)) bk_now NB409_0.out (by simp)); replace BK410 := Aside0.mk (KeepBut.blk hk (g' := gb410) (o := .cells #[.bool t411, .int .i64 x411001_3, .int .i64 x411002_3, .int .i64 x411003_3, .int .u64 x411004_3, .int .u64 t462, .int .u64 0] 55 (0, 0)) bk_now NB410_0.out (by simp)); replace HK := Aside0.mk (KeepBut.trans (ik_now (w := w)) hk (.inl rfl)); replace HI0 := Aside0.mk (hi); replace HB := Aside0.mk (hb); (try clear hb); (try clear hb2); (try clear hk); (try clear hi); have hcz102 := blk_all7 BK410.out; obtain ⟨HGz103, hgz103⟩ := HI0.out; have hcz103_0 := cellS112_0 HGz103; have hcz103_1 := cellS112_1 HGz103; have hcz103_2 := cellS112_2 HGz103; have hfz103_0 := blk_frozen HGz103 0; have hfz103_1 := blk_frozen HGz103 1; have hfz103_2 := blk_frozen HGz103 2; clear HGz103 hgz103; have hnb104 := NB409_0.out; have hnc104 := NB0_409.out; have hcz105 := blk_all7 BK409.out))
    refine bodyPost_ret (results_cell_row rfl _ _ gb409 55 #[.bool t411, .int .i64 x411001_3, .int .i64 x411002_3, .int .i64 x411003_3, .int .u64 x411004_3, .int .u64 t462, .int .u64 t470] (0, 0) _ rfl bk_now Tryd.underlying55 rfl (by kernel_rfl)) rfl ?_
    exact ⟨ret_now, by repeat (first | (with_reducible first | exact HI0.out | refine IsS112.far (p := ⟨gb409, _, none⟩) ?_ NB0_409.out _ | exact IsS112.set_2 (IsS112.far (p := ⟨gb410, _, none⟩) HI0.out NB0_410.out _) _ | apply IsS112.alloc | apply IsS112.drewN | apply IsS112.drew | apply IsS112.set_0 | apply IsS112.set_1 | apply IsS112.set_2 | refine IsS112.far ?_ NB0_409.out _ | refine IsS112.far ?_ NB0_410.out _) | exact HI0.out), ib_now, ik_now (w := w)⟩
   ·replace c95 := Bool.eq_false_iff.mpr c95
    subst c95
    replace H := sh_f H
    replace H := Option.bind_eq_some_iff.mp H; obtain ⟨t474, A1060, H⟩ := H; try dsimp only at H
    have A106 := Aside0.mk A1060
    clear A1060
    simp only [Option.some.injEq, Prod.mk.injEq] at H
    obtain ⟨rfl, rfl, rfl, rfl, rfl, rfl, rfl, rfl, rfl, rfl⟩ := H
    go_wp2_with (first | ((with_reducible refine gate_callee (f := 43) rfl ?_); refine sh_call (some 84) Tryd.func43 #[.int .i64 8] ?_; (with_reducible refine (stockaderef18_Full.calls kj3 8 t461 _ A90.out).mono ?_); rintro e w' ⟨rfl, ⟨nd, rfl⟩⟩; refine ⟨_, rfl, ?_⟩; (try (rw [drewN_self wc]; generalize hq_ : World.drewN wc _ = wc; have n0_ : Aside0 (wc.heap[gb409]? = some (.cells #[.bool false, .int .i64 0, .int .i64 0, .int .i64 0, .int .u64 0, .int .u64 0, .int .u64 0] 55 (0, 0))) := ⟨by rw [← hq_]; exact bk_now⟩; have n1_ : Aside0 (wc.heap[gb410]? = some (.cells #[.bool t411, .int .i64 x411001_3, .int .i64 x411002_3, .int .i64 x411003_3, .int .u64 x411004_3, .int .u64 0, .int .u64 0] 55 (0, 0))) := ⟨by rw [← hq_]; exact bk_now⟩; have n2_ : Aside0 (IsS112 w0 wc g x1000_3 x1001_3 x1002_3) := ⟨by rw [← hq_]; exact (is_now)⟩; have n3_ : Aside0 (KeepBut w wc g none) := ⟨by rw [← hq_]; exact (ik_now (w := w))⟩; have n4_ : Aside0 (Below w0.heap.size w0 wc) := ⟨by rw [← hq_]; exact (ib_now)⟩; clear BK409 BK410 HI0 HK HB hq_; have BK409 := n0_; have BK410 := n1_; have HI0 := n2_; have HK := n3_; have HB := n4_; clear n0_ n1_ n2_ n3_ n4_))) | ((with_reducible refine gate_callee (f := 61) rfl ?_); refine sh_call (some 85) Tryd.func61 #[.pointer (some ⟨g, 0, none⟩), .int .u64 t461] ?_; (with_reducible refine (stockaderef18_reader_number.calls kj3 g x1000_3 x1001_3 x1002_3 t461 t462 t463 t464 t465 w0 _ ?side1 ?side2 A91.out).mono ?_); (case side1 => exact is_now); (case side2 => exact ib_now); rintro e w107 ⟨rfl, hi, hb, hk⟩; refine ⟨_, rfl, ?_⟩; replace BK409 := Aside0.mk (KeepBut.blk hk (g' := gb409) (o := .cells #[.bool false, .int .i64 0, .int .i64 0, .int .i64 0, .int .u64 0, .int .u64 0, .int .u64 0] 55 (0, 0)) bk_now NB409_0.out (by simp)); replace BK410 := Aside0.mk (KeepBut.blk hk (g' := gb410) (o := .cells #[.bool t411, .int .i64 x411001_3, .int .i64 x411002_3, .int .i64 x411003_3, .int .u64 x411004_3, .int .u64 0, .int .u64 0] 55 (0, 0)) bk_now NB410_0.out (by simp)); replace HK := Aside0.mk (KeepBut.trans (ik_now (w := w)) hk (.inl rfl)); replace HI0 := Aside0.mk (hi); replace HB := Aside0.mk (hb); (try clear hb); (try clear hb2); (try clear hk); (try clear hi); have hnb108 := NB410_409.out; have hnc108 := NB409_410.out; have hnb109 := NB410_0.out; have hnc109 := NB0_410.out; have hcz110 := blk_all7 BK410.out) | ((with_reducible refine gate_callee (f := 60) rfl ?_); refine sh_call (some 88) Tryd.func60 #[.pointer (some ⟨g, 0, none⟩), .string (⟨#[46, 46]⟩ : ByteArray)] ?_; (with_reducible refine (stockaderef18_reader_must.calls g t463 t464 t465 (⟨#[46, 46]⟩ : ByteArray) t466 t467 t468 w0 _ ?side1 ?side2 A92.out).mono ?_); (case side1 => exact is_now); (case side2 => exact ib_now); rintro e w111 ⟨rfl, hi, hb, hk⟩; refine ⟨_, rfl, ?_⟩; replace BK409 := Aside0.mk (KeepBut.blk hk (g' := gb409) (o := .cells #[.bool false, .int .i64 0, .int .i64 0, .int .i64 0, .int .u64 0, .int .u64 0, .int .u64 0] 55 (0, 0)) bk_now NB409_0.out (by simp)); replace BK410 := Aside0.mk (KeepBut.blk hk (g' := gb410) (o := .cells #[.bool t411, .int .i64 x411001_3, .int .i64 x411002_3, .int .i64 x411003_3, .int .u64 x411004_3, .int .u64 t462, .int .u64 0] 55 (0, 0)) bk_now NB410_0.out (by simp)); replace HK := Aside0.mk (KeepBut.trans (ik_now (w := w)) hk (.inl rfl)); replace HI0 := Aside0.mk (hi); replace HB := Aside0.mk (hb); (try clear hb); (try clear hb2); (try clear hk); (try clear hi)) | ((with_reducible refine gate_callee (f := 43) rfl ?_); refine sh_call (some 90) Tryd.func43 #[.int .i64 8] ?_; (with_reducible refine (stockaderef18_Full.calls kj3 8 t469 _ A93.out).mono ?_); rintro e w' ⟨rfl, ⟨nd, rfl⟩⟩; refine ⟨_, rfl, ?_⟩; (try (rw [drewN_self w111]; generalize hq_ : World.drewN w111 _ = w111; have n0_ : Aside0 (w111.heap[gb409]? = some (.cells #[.bool false, .int .i64 0, .int .i64 0, .int .i64 0, .int .u64 0, .int .u64 0, .int .u64 0] 55 (0, 0))) := ⟨by rw [← hq_]; exact bk_now⟩; have n1_ : Aside0 (w111.heap[gb410]? = some (.cells #[.bool t411, .int .i64 x411001_3, .int .i64 x411002_3, .int .i64 x411003_3, .int .u64 x411004_3, .int .u64 t462, .int .u64 0] 55 (0, 0))) := ⟨by rw [← hq_]; exact bk_now⟩; have n2_ : Aside0 (IsS112 w0 w111 g t466 t467 t468) := ⟨by rw [← hq_]; exact (is_now)⟩; have n3_ : Aside0 (KeepBut w w111 g none) := ⟨by rw [← hq_]; exact (ik_now (w := w))⟩; have n4_ : Aside0 (Below w0.heap.size w0 w111) := ⟨by rw [← hq_]; exact (ib_now)⟩; clear BK409 BK410 HI0 HK HB hq_; have BK409 := n0_; have BK410 := n1_; have HI0 := n2_; have HK := n3_; have HB := n4_; clear n0_ n1_ n2_ n3_ n4_))) | ((with_reducible refine gate_callee (f := 61) rfl ?_); refine sh_call (some 91) Tryd.func61 #[.pointer (some ⟨g, 0, none⟩), .int .u64 t469] ?_; (with_reducible refine (stockaderef18_reader_number.calls kj3 g t466 t467 t468 t469 t470 t471 t472 false w0 _ ?side1 ?side2 A94.out).mono ?_); (case side1 => exact is_now); (case side2 => exact ib_now); rintro e w112 ⟨rfl, hi, hb, hk⟩; refine ⟨_, rfl, ?_⟩; replace BK409 := Aside0.mk (KeepBut.blk hk (g' := gb409) (o := .cells #[.bool false, .int .i64 0, .int .i64 0, .int .i64 0, .int .u64 0, .int .u64 0, .int .u64 0] 55 (0, 0)) bk_now NB409_0.out (by simp)); replace BK410 := Aside0.mk (KeepBut.blk hk (g' := gb410) (o := .cells #[.bool t411, .int .i64 x411001_3, .int .i64 x411002_3, .int .i64 x411003_3, .int .u64 x411004_3, .int .u64 t462, .int .u64 0] 55 (0, 0)) bk_now NB410_0.out (by simp)); replace HK := Aside0.mk (KeepBut.trans (ik_now (w := w)) hk (.inl rfl)); replace HI0 := Aside0.mk (hi); replace HB := Aside0.mk (hb); (try clear hb); (try clear hb2); (try clear hk); (try clear hi); have hcz113 := blk_all7 BK410.out; obtain ⟨HGz114, hgz114⟩ := HI0.out; have hcz114_0 := cellS112_0 HGz114; have hcz114_1 := cellS112_1 HGz114; have hcz114_2 := cellS112_2 HGz114; have hfz114_0 := blk_frozen HGz114 0; have hfz114_1 := blk_frozen HGz114 1; have hfz114_2 := blk_frozen HGz114 2; clear HGz114 hgz114) | (go_at_call 29; (with_reducible refine (stockaderef18_May.calls kj3 t411 x411001_3 x411002_3 x411003_3 x411004_3 t462 t470 t474 _ A106.out).mono ?_); rintro e w115 ⟨rfl, hb⟩; have n0_ := Aside0.mk (blk_below (g := gb409) (o := .cells #[.bool false, .int .i64 0, .int .i64 0, .int .i64 0, .int .u64 0, .int .u64 0, .int .u64 0] 55 (0, 0)) bk_now hb); have n1_ := Aside0.mk (blk_below (g := gb410) (o := .cells #[.bool t411, .int .i64 x411001_3, .int .i64 x411002_3, .int .i64 x411003_3, .int .u64 x411004_3, .int .u64 t462, .int .u64 t470] 55 (0, 0)) bk_now hb); have n2_ := Aside0.mk (IsS112.below (show IsS112 w0 (w112.setCell ⟨gb410, 6, none⟩ (.int .u64 t470)) g t471 t472 false from is_now) hb); have n3_ := Aside0.mk (KeepBut.trans (ik_now (w := w)) (KeepBut.of_below hb g none) (.inl rfl)); have n4_ := Aside0.mk (below_step (ib_now) hb); clear BK409; clear BK410; clear HI0; clear HK; clear HB; have BK409 := n0_; have BK410 := n1_; have HI0 := n2_; have HK := n3_; have HB := n4_; clear n0_ n1_ n2_ n3_ n4_; (try clear hb); (try clear hb2); (try clear hk); (try clear hi); obtain ⟨HGz116, hgz116⟩ := HI0.out; have hcz116_0 := cellS112_0 HGz116; have hcz116_1 := cellS112_1 HGz116; have hcz116_2 := cellS112_2 HGz116; have hfz116_0 := blk_frozen HGz116 0; have hfz116_1 := blk_frozen HGz116 1; have hfz116_2 := blk_frozen HGz116 2; clear HGz116 hgz116; have hcz117 := blk_all7 BK410.out; have hnb118 := NB409_0.out; have hnc118 := NB0_409.out; have hcz119 := blk_all7 BK409.out))
    refine bodyPost_ret (results_cell_row rfl _ _ gb409 55 #[.bool t411, .int .i64 x411001_3, .int .i64 x411002_3, .int .i64 x411003_3, .int .u64 x411004_3, .int .u64 t462, .int .u64 t470] (0, 0) _ rfl bk_now Tryd.underlying55 rfl (by kernel_rfl)) rfl ?_
    exact ⟨ret_now, by repeat (first | (with_reducible first | exact HI0.out | refine IsS112.far (p := ⟨gb409, _, none⟩) ?_ NB0_409.out _ | exact IsS112.set_2 (IsS112.far (p := ⟨gb410, _, none⟩) HI0.out NB0_410.out _) _ | apply IsS112.alloc | apply IsS112.drewN | apply IsS112.drew | apply IsS112.set_0 | apply IsS112.set_1 | apply IsS112.set_2 | refine IsS112.far ?_ NB0_409.out _ | refine IsS112.far ?_ NB0_410.out _) | exact HI0.out), ib_now, ik_now (w := w)⟩

/-! ### stockaderef18_Read: function 39 -/
mutual
def stockaderef18_Read.j2 : Nat → ByteArray → ByteArray → Int → Bool → List (S55) → Int → Option ((List (S55)) × Int × Bool)
 | 0, _, _, _, _, _, _ => none
 | k + 1, x0, x480000, x480001, x480002, x481000, x481001 => (stockaderef18_reader_must.f x480000 x480001 x480002 (⟨#[32, 45, 62, 32]⟩ : ByteArray)).bind fun bt503 => ((stockaderef18_reader_number.f k bt503.1 bt503.2.1 bt503.2.2 4294967295).bind fun bt506 => (if bt506.2.2.2 = true then (some (([] : List (S55)), 0, false)) else (if bt506.2.2.1 = (x0.size : Int) then (if (x481000.length : Int) > 8 then (some (([] : List (S55)), 0, false)) else (some (x481000, (bt506.1) % 4294967296, true))) else (some (([] : List (S55)), 0, false)))))
def stockaderef18_Read.l0 : Nat → ByteArray → Bool → ByteArray → Int → Bool → List (S55) → Int → Option ((List (S55)) × Int × Bool)
 | 0, _, _, _, _, _, _, _ => none
 | k + 1, x0, x6, x480000, x480001, x480002, x481000, x481001 => if x6 = true then (stockaderef18_Read.j1 k x0 (!x480002) x480000 x480001 x480002 x481000 x481001) else (stockaderef18_Read.j1 k x0 false x480000 x480001 x480002 x481000 x481001)
def stockaderef18_Read.j1 : Nat → ByteArray → Bool → ByteArray → Int → Bool → List (S55) → Int → Option ((List (S55)) × Int × Bool)
 | 0, _, _, _, _, _, _, _ => none
 | k + 1, x0, x23, x480000, x480001, x480002, x481000, x481001 => if x23 = true then ((stockaderef18_reader_test.f k x480000 x480001 x480002).bind fun bt485 => (if x481000.length < 2513169434916 then ((stockaderef18_reader_has.f bt485.2.2.2.2.2.2.2.1 bt485.2.2.2.2.2.2.2.2.1 bt485.2.2.2.2.2.2.2.2.2 (⟨#[44, 32]⟩ : ByteArray)).bind fun bt499 => (stockaderef18_Read.l0 k x0 bt499.1 bt499.2.1 bt499.2.2.1 bt499.2.2.2 (x481000 ++ [(⟨bt485.1, bt485.2.1, bt485.2.2.1, bt485.2.2.2.1, bt485.2.2.2.2.1, bt485.2.2.2.2.2.1, bt485.2.2.2.2.2.2.1⟩ : S55)]) x481001)) else (none))) else (stockaderef18_Read.j2 k x0 x480000 x480001 x480002 x481000 x481001)
end
def stockaderef18_Read.f (k : Nat) (a0 : ByteArray) : Option ((List (S55)) × Int × Bool) := (strconv_baseError.f a0).bind fun bt476 => ((stockaderef18_reader_has.f bt476.1 bt476.2.1 bt476.2.2 (⟨#[97, 110, 121]⟩ : ByteArray)).bind fun bt481 => (if bt481.1 = true then (stockaderef18_Read.j2 k a0 bt481.2.1 bt481.2.2.1 bt481.2.2.2 ([] : List (S55)) 0) else (stockaderef18_Read.l0 k a0 true bt481.2.1 bt481.2.2.1 bt481.2.2.2 ([] : List (S55)) 0)))
theorem stockaderef18_Read.mono_l : ∀ k, (∀ y0 y1 y2 y3 y4 y5, LeO (stockaderef18_Read.j2 k y0 y1 y2 y3 y4 y5) (stockaderef18_Read.j2 (k + 1) y0 y1 y2 y3 y4 y5)) ∧ (∀ y0 y1 y2 y3 y4 y5 y6, LeO (stockaderef18_Read.l0 k y0 y1 y2 y3 y4 y5 y6) (stockaderef18_Read.l0 (k + 1) y0 y1 y2 y3 y4 y5 y6)) ∧ (∀ y0 y1 y2 y3 y4 y5 y6, LeO (stockaderef18_Read.j1 k y0 y1 y2 y3 y4 y5 y6) (stockaderef18_Read.j1 (k + 1) y0 y1 y2 y3 y4 y5 y6))
 | 0 => ⟨fun _ _ _ _ _ _ r h => by simp [stockaderef18_Read.j2] at h, fun _ _ _ _ _ _ _ r h => by simp [stockaderef18_Read.l0] at h, fun _ _ _ _ _ _ _ r h => by simp [stockaderef18_Read.j1] at h⟩
 | k + 1 => by
  obtain ⟨ih0, ih1, ih2⟩ := stockaderef18_Read.mono_l k
  refine ⟨?_, ?_, ?_⟩
  ·intro y0 y1 y2 y3 y4 y5
   unfold stockaderef18_Read.j2
   repeat' first
   | (with_reducible exact ih0 _ _ _ _ _ _)
   | (with_reducible exact ih1 _ _ _ _ _ _ _)
   | (with_reducible exact ih2 _ _ _ _ _ _ _)
   | (with_reducible exact stockaderef18_reader_number.mono _ _ _ _ _)
   | (with_reducible exact stockaderef18_reader_test.mono _ _ _ _)
   | (with_reducible exact LeO.refl _)
   | (with_reducible exact LeO.none _)
   | (with_reducible refine LeO.ite ?_ ?_)
   | (with_reducible refine LeO.bind ?_ (fun _ => ?_))
   | exact ih0 _ _ _ _ _ _
   | exact ih1 _ _ _ _ _ _ _
   | exact ih2 _ _ _ _ _ _ _
   | exact stockaderef18_reader_number.mono _ _ _ _ _
   | exact stockaderef18_reader_test.mono _ _ _ _
   | exact LeO.none _
   | refine LeO.ite ?_ ?_
   | refine LeO.bind ?_ (fun _ => ?_)
  ·intro y0 y1 y2 y3 y4 y5 y6
   unfold stockaderef18_Read.l0
   repeat' first
   | (with_reducible exact ih0 _ _ _ _ _ _)
   | (with_reducible exact ih1 _ _ _ _ _ _ _)
   | (with_reducible exact ih2 _ _ _ _ _ _ _)
   | (with_reducible exact stockaderef18_reader_number.mono _ _ _ _ _)
   | (with_reducible exact stockaderef18_reader_test.mono _ _ _ _)
   | (with_reducible exact LeO.refl _)
   | (with_reducible exact LeO.none _)
   | (with_reducible refine LeO.ite ?_ ?_)
   | (with_reducible refine LeO.bind ?_ (fun _ => ?_))
   | exact ih0 _ _ _ _ _ _
   | exact ih1 _ _ _ _ _ _ _
   | exact ih2 _ _ _ _ _ _ _
   | exact stockaderef18_reader_number.mono _ _ _ _ _
   | exact stockaderef18_reader_test.mono _ _ _ _
   | exact LeO.none _
   | refine LeO.ite ?_ ?_
   | refine LeO.bind ?_ (fun _ => ?_)
  ·intro y0 y1 y2 y3 y4 y5 y6
   unfold stockaderef18_Read.j1
   repeat' first
   | (with_reducible exact ih0 _ _ _ _ _ _)
   | (with_reducible exact ih1 _ _ _ _ _ _ _)
   | (with_reducible exact ih2 _ _ _ _ _ _ _)
   | (with_reducible exact stockaderef18_reader_number.mono _ _ _ _ _)
   | (with_reducible exact stockaderef18_reader_test.mono _ _ _ _)
   | (with_reducible exact LeO.refl _)
   | (with_reducible exact LeO.none _)
   | (with_reducible refine LeO.ite ?_ ?_)
   | (with_reducible refine LeO.bind ?_ (fun _ => ?_))
   | exact ih0 _ _ _ _ _ _
   | exact ih1 _ _ _ _ _ _ _
   | exact ih2 _ _ _ _ _ _ _
   | exact stockaderef18_reader_number.mono _ _ _ _ _
   | exact stockaderef18_reader_test.mono _ _ _ _
   | exact LeO.none _
   | refine LeO.ite ?_ ?_
   | refine LeO.bind ?_ (fun _ => ?_)
theorem stockaderef18_Read.mono : ∀ a0 k, LeO (stockaderef18_Read.f k a0) (stockaderef18_Read.f (k + 1) a0) := by
 intro a0 k
 obtain ⟨ih0, ih1, ih2⟩ := stockaderef18_Read.mono_l k
 unfold stockaderef18_Read.f
 repeat' first
   | (with_reducible exact ih0 _ _ _ _ _ _)
   | (with_reducible exact ih1 _ _ _ _ _ _ _)
   | (with_reducible exact ih2 _ _ _ _ _ _ _)
   | (with_reducible exact stockaderef18_reader_number.mono _ _ _ _ _)
   | (with_reducible exact stockaderef18_reader_test.mono _ _ _ _)
   | (with_reducible exact LeO.refl _)
   | (with_reducible exact LeO.none _)
   | (with_reducible refine LeO.ite ?_ ?_)
   | (with_reducible refine LeO.bind ?_ (fun _ => ?_))
   | exact ih0 _ _ _ _ _ _
   | exact ih1 _ _ _ _ _ _ _
   | exact ih2 _ _ _ _ _ _ _
   | exact stockaderef18_reader_number.mono _ _ _ _ _
   | exact stockaderef18_reader_test.mono _ _ _ _
   | exact LeO.none _
   | refine LeO.ite ?_ ?_
   | refine LeO.bind ?_ (fun _ => ?_)
set_option maxHeartbeats 8000000 in
set_option maxRecDepth 100000 in
theorem stockaderef18_Read.calls (k : Nat) (a0 : ByteArray) (r1 : List (S55)) (r2 : Int) (r3 : Bool) (w : World) (h : stockaderef18_Read.f k a0 = some (r1, r2, r3)) :
  Calls Tryd.prog 39 #[.string a0] w fun e w' => ∃ v0_ : Value, e = .returned (.tuple #[.agg #[v0_, .int .u32 r2], .bool r3]) ∧ Kd.R k55 55 w' w.heap.size (fun _ => True) v0_ r1 ∧ Below w.heap.size w w' := by
 have hu46 := Tryd.underlying46
 have hu55 := Tryd.underlying55
 have HB := Aside0.mk (Below.refl w.heap.size w)
 have H : ((strconv_baseError.f a0).bind fun bt476 => ((stockaderef18_reader_has.f bt476.1 bt476.2.1 bt476.2.2 (⟨#[97, 110, 121]⟩ : ByteArray)).bind fun bt481 => (if bt481.1 = true then (stockaderef18_Read.j2 k a0 bt481.2.1 bt481.2.2.1 bt481.2.2.2 ([] : List (S55)) 0) else (stockaderef18_Read.l0 k a0 true bt481.2.1 bt481.2.2.1 bt481.2.2.2 ([] : List (S55)) 0)))) = some (r1, r2, r3) := h
 clear h
 replace H := Option.bind_eq_some_iff.mp H; obtain ⟨⟨t476, t477, t478⟩, A20, H⟩ := H; try dsimp only at H
 have A2 := Aside0.mk A20
 clear A20
 replace H := Option.bind_eq_some_iff.mp H; obtain ⟨⟨t481, t482, t483, t484⟩, A30, H⟩ := H; try dsimp only at H
 have A3 := Aside0.mk A30
 clear A30
 have HC4 := Aside0.mk H
 clear H
 go_enter Tryd.func39, Tryd.ntmps39
 go_upto_if 15 with (first | ((with_reducible refine gate_dst (N := 2) rfl ?_); (try (refine gate_guard (by rfl) ?_; dsimp only)); refine sh_box 2 #[.slice none 0 0, .int .u32 0] 46 ?_; intro gb475 hg w5 hbox hb; have GE475 := sh_z (w := w) hg; replace HB := sh_b (w := w) hb; have BK475 := Aside0.mk (hbox); clear hb hbox hg) | ((with_reducible refine gate_dst (N := 11) rfl ?_); refine sh_box 11 #[.string a0, .int .i64 0, .bool false] 112 ?_; intro g479 hg w6 hbox hb2; have GE479 := sh_z (w := w) hg; replace hbox : w6.heap[g479]? = some (.cells #[.string t476, .int .i64 t477, .bool t478] 112 (0, 0)) := (by rw [hbox]; have e_ := A2.out; simp only [strconv_baseError.f, Option.some.injEq, Prod.mk.injEq] at e_; rw [← e_.1, ← e_.2.1, ← e_.2.2]); have hi : IsS112 w w6 g479 t476 t477 t478 := ⟨hbox, GE479.out⟩; have hb : Below w.heap.size w w6 := (sh_b (w := w) hb2).out; clear hg hbox; have HI479 := Aside0.mk (hi); have NB479_475 := Aside0.mk (IsS112.ne_blk hi (blk_below (g := gb475) (o := .cells #[.slice none 0 0, .int .u32 0] 46 (0, 0)) bk_now hb2) (by decide)); have NB475_479 := Aside0.mk (Ne.symm (IsS112.ne_blk hi (blk_below (g := gb475) (o := .cells #[.slice none 0 0, .int .u32 0] 46 (0, 0)) bk_now hb2) (by decide))); replace BK475 := Aside0.mk (blk_below (g := gb475) (o := .cells #[.slice none 0 0, .int .u32 0] 46 (0, 0)) bk_now hb2); replace HB := Aside0.mk (hb); (try clear hb); (try clear hb2); (try clear hk); (try clear hi)) | ((with_reducible refine gate_dst (N := 5) rfl ?_); (try (refine gate_guard (by rfl) ?_; dsimp only)); refine sh_box 5 #[.slice none 0 0, .int .u32 0] 46 ?_; intro gb480 hg w7 hbox hb; have n0_ := Aside0.mk (blk_below (g := gb475) (o := .cells #[.slice none 0 0, .int .u32 0] 46 (0, 0)) bk_now hb); have n1_ := Aside0.mk (IsS112.below (show IsS112 w _ g479 t476 t477 t478 from by repeat (first | (with_reducible first | exact HI479.out | apply IsS112.alloc | apply IsS112.drewN | apply IsS112.drew | apply IsS112.set_0 | apply IsS112.set_1 | apply IsS112.set_2 | refine IsS112.far ?_ NB479_475.out _) | exact HI479.out)) hb); have n2_ := Aside0.mk (below_step (by repeat (first | (with_reducible first | exact HB.out | apply below_alloc | apply pw_below_drewN | apply below_drew1 | refine below_set ?_ (IsS112.ge HI479.out) | refine below_set ?_ GE475.out) | exact HB.out)) hb); have n3_ := Aside0.mk (hbox); have n4_ := Aside0.mk ((by rw [hg]; exact (below_size (by repeat (first | (with_reducible first | exact HB.out | apply below_alloc | apply pw_below_drewN | apply below_drew1 | refine below_set ?_ (IsS112.ge HI479.out) | refine below_set ?_ GE475.out) | exact HB.out))) : w.heap.size ≤ gb480)); have n5_ := Aside0.mk ((by rw [hg]; exact (below_size (by repeat (first | (with_reducible first | exact HB.out | apply below_alloc | apply pw_below_drewN | apply below_drew1 | refine below_set ?_ (IsS112.ge HI479.out) | refine below_set ?_ GE475.out) | exact HB.out))) : w.heap.size ≤ gb480)); have n6_ := Aside0.mk ((by rw [hg]; exact Nat.ne_of_lt (blk_lt (g := gb475) (o := .cells #[.slice none 0 0, .int .u32 0] 46 (0, 0)) bk_now) : gb475 ≠ gb480)); have n7_ := Aside0.mk ((by rw [hg]; exact Nat.ne_of_gt (blk_lt (g := gb475) (o := .cells #[.slice none 0 0, .int .u32 0] 46 (0, 0)) bk_now) : gb480 ≠ gb475)); have n8_ := Aside0.mk ((by rw [hg]; exact Nat.ne_of_lt (IsS112.lt (show IsS112 w _ g479 t476 t477 t478 from by repeat (first | (with_reducible first | exact HI479.out | apply IsS112.alloc | apply IsS112.drewN | apply IsS112.drew | apply IsS112.set_0 | apply IsS112.set_1 | apply IsS112.set_2 | refine IsS112.far ?_ NB479_475.out _) | exact HI479.out))) : g479 ≠ gb480)); have n9_ := Aside0.mk ((by rw [hg]; exact Nat.ne_of_gt (IsS112.lt (show IsS112 w _ g479 t476 t477 t478 from by repeat (first | (with_reducible first | exact HI479.out | apply IsS112.alloc | apply IsS112.drewN | apply IsS112.drew | apply IsS112.set_0 | apply IsS112.set_1 | apply IsS112.set_2 | refine IsS112.far ?_ NB479_475.out _) | exact HI479.out))) : gb480 ≠ g479)); clear BK475; clear HI479; clear HB; have BK475 := n0_; have HI479 := n1_; have HB := n2_; have BK480 := n3_; have GW480 := n4_; have GE480 := n5_; have NB475_480 := n6_; have NB480_475 := n7_; have NB479_480 := n8_; have NB480_479 := n9_; clear n0_ n1_ n2_ n3_ n4_ n5_ n6_ n7_ n8_ n9_; clear hb hbox hg; have hnb8 := NB480_475.out; have hnc8 := NB475_480.out; have hnb9 := NB480_479.out; have hnc9 := NB479_480.out; have hcz10 := blk_all2 BK480.out) | ((with_reducible refine gate_callee (f := 58) rfl ?_); refine sh_call (some 14) Tryd.func58 #[.pointer (some ⟨g479, 0, none⟩), .string (⟨#[97, 110, 121]⟩ : ByteArray)] ?_; (with_reducible refine (stockaderef18_reader_has.calls g479 t476 t477 t478 (⟨#[97, 110, 121]⟩ : ByteArray) t481 t482 t483 t484 w _ ?side1 ?side2 A3.out).mono ?_); (case side1 => repeat (first | (with_reducible first | exact HI479.out | apply IsS112.alloc | apply IsS112.drewN | apply IsS112.drew | apply IsS112.set_0 | apply IsS112.set_1 | apply IsS112.set_2 | refine IsS112.far ?_ NB479_475.out _ | refine IsS112.far ?_ NB479_480.out _) | exact HI479.out)); (case side2 => repeat (first | (with_reducible first | exact HB.out | apply below_alloc | apply pw_below_drewN | apply below_drew1 | refine below_set ?_ (IsS112.ge HI479.out) | refine below_set ?_ GE475.out | refine below_set ?_ GE480.out) | exact HB.out)); rintro e w11 ⟨rfl, hi, hb, hk⟩; refine ⟨_, rfl, ?_⟩; replace BK475 := Aside0.mk (KeepBut.blk hk (g' := gb475) (o := .cells #[.slice none 0 0, .int .u32 0] 46 (0, 0)) bk_now NB475_479.out (by simp)); replace BK480 := Aside0.mk (KeepBut.blk hk (g' := gb480) (o := .cells #[.slice none 0 0, .int .u32 0] 46 (0, 0)) bk_now NB480_479.out (by simp)); replace HI479 := Aside0.mk (hi); replace HB := Aside0.mk (hb); (try clear hb); (try clear hb2); (try clear hk); (try clear hi)))
 (try simp only [Act.put, List.setIfInBounds_toArray, List.set_cons_zero, List.set_cons_succ])
 go_cut [] (fun wc => ∃ (kq : Nat) (x480000_3 : ByteArray) (x480001_3 : Int) (x480002_3 : Bool) (x481000_3 : List (S55)) (u481000 : Value), Aside0 (stockaderef18_Read.j2 kq a0 x480000_3 x480001_3 x480002_3 x481000_3 0 = some (r1, r2, r3)) ∧ Aside0 (kq ≤ k) ∧ Aside0 (Kd.R k55 55 wc w.heap.size (fun _ => True) u481000 x481000_3) ∧ Aside0 (wc.heap[gb475]? = some (.cells #[(.slice none 0 0), .int .u32 0] 46 (0, 0))) ∧ Aside0 (wc.heap[gb480]? = some (.cells #[u481000, .int .u32 0] 46 (0, 0))) ∧ Aside0 (IsS112 w wc g479 x480000_3 x480001_3 x480002_3) ∧ Aside0 (Below w.heap.size w wc))
 case first =>
  have H := HC4.out
  clear HC4
  by_cases c12 : t481 = true
  ·subst c12
   replace H := sh_t H
   have H' := Aside0.mk H
   clear H
   go_wp2
   go_meet
   case rel => exact ⟨_, (t482), (t483), (t484), (([] : List (S55))), (.slice none 0 0), H', ⟨by first | omega | exact Nat.le_refl _⟩, ⟨by first | exact Kd.R_nil _ _ _ _ _ | exact Kd.N_nil _ _ _ _ _ | exact Kd.V_nil _ _ _ _ _ | exact Kd.Q_nil _ _ _ _ _ | exact Kd.S_nil _ _ _ _ _⟩, ⟨bk_now⟩, ⟨bk_now⟩, ⟨by repeat (first | (with_reducible first | exact HI479.out | apply IsS112.alloc | apply IsS112.drewN | apply IsS112.drew | apply IsS112.set_0 | apply IsS112.set_1 | apply IsS112.set_2 | refine IsS112.far ?_ NB479_475.out _ | refine IsS112.far ?_ NB479_480.out _) | exact HI479.out)⟩, ⟨by repeat (first | (with_reducible first | exact HB.out | apply below_alloc | apply pw_below_drewN | apply below_drew1 | refine below_set ?_ (IsS112.ge HI479.out) | refine below_set ?_ GE475.out | refine below_set ?_ GE480.out) | exact HB.out)⟩⟩
  ·replace c12 := Bool.eq_false_iff.mpr c12
   subst c12
   replace H := sh_f H
   have H' := Aside0.mk H
   clear H
   go_wp2
   go_loopg [6] k (fun kq v6 w' => ∃ (x6_1 : Bool) (x480000_1 : ByteArray) (x480001_1 : Int) (x480002_1 : Bool) (x481000_1 : List (S55)) (u481000 : Value), v6 = .bool x6_1 ∧ Aside0 (stockaderef18_Read.l0 kq a0 x6_1 x480000_1 x480001_1 x480002_1 x481000_1 0 = some (r1, r2, r3)) ∧ Aside0 (kq ≤ k) ∧ Aside0 (Kd.R k55 55 w' w.heap.size (fun _ => True) u481000 x481000_1) ∧ Aside0 (w'.heap[gb475]? = some (.cells #[(.slice none 0 0), .int .u32 0] 46 (0, 0))) ∧ Aside0 (w'.heap[gb480]? = some (.cells #[u481000, .int .u32 0] 46 (0, 0))) ∧ Aside0 (IsS112 w w' g479 x480000_1 x480001_1 x480002_1) ∧ Aside0 (Below w.heap.size w w'))
   case atStart => exact ⟨(true), (t482), (t483), (t484), (([] : List (S55))), (.slice none 0 0), eq_now, H', ⟨Nat.le_refl _⟩, ⟨by first | exact Kd.R_nil _ _ _ _ _ | exact Kd.N_nil _ _ _ _ _ | exact Kd.V_nil _ _ _ _ _ | exact Kd.Q_nil _ _ _ _ _ | exact Kd.S_nil _ _ _ _ _⟩, ⟨bk_now⟩, ⟨bk_now⟩, ⟨by repeat (first | (with_reducible first | exact HI479.out | apply IsS112.alloc | apply IsS112.drewN | apply IsS112.drew | apply IsS112.set_0 | apply IsS112.set_1 | apply IsS112.set_2 | refine IsS112.far ?_ NB479_475.out _ | refine IsS112.far ?_ NB479_480.out _) | exact HI479.out)⟩, ⟨by repeat (first | (with_reducible first | exact HB.out | apply below_alloc | apply pw_below_drewN | apply below_drew1 | refine below_set ?_ (IsS112.ge HI479.out) | refine below_set ?_ GE475.out | refine below_set ?_ GE480.out) | exact HB.out)⟩⟩
   case round =>
    clear H'
    clear hcz10
    obtain ⟨x6_1, x480000_1, x480001_1, x480002_1, x481000_1, u481000, rfl, HA, HK1, HO_481000, BK475, BK480, HI479, HB⟩ := hrel
    cases gk with
    | zero => exact absurd HA.out (by simp [stockaderef18_Read.l0])
    | succ k1 =>
     have H := HA.out
     clear HA
     simp only [stockaderef18_Read.l0] at H
     have HC13 := Aside0.mk H
     clear H
     go_upto_region 5 with (fail)
     go_cut [23] (fun v23 wc => ∃ (kq : Nat) (x23_12 : Bool), v23 = .bool x23_12 ∧ Aside0 (stockaderef18_Read.j1 kq a0 x23_12 x480000_1 x480001_1 x480002_1 x481000_1 0 = some (r1, r2, r3)) ∧ Aside0 (kq ≤ k1) ∧ Aside0 (Kd.R k55 55 wc w.heap.size (fun _ => True) u481000 x481000_1) ∧ Aside0 (wc.heap[gb475]? = some (.cells #[(.slice none 0 0), .int .u32 0] 46 (0, 0))) ∧ Aside0 (wc.heap[gb480]? = some (.cells #[u481000, .int .u32 0] 46 (0, 0))) ∧ Aside0 (IsS112 w wc g479 x480000_1 x480001_1 x480002_1) ∧ Aside0 (Below w.heap.size w wc))
     case first =>
      have H := HC13.out
      clear HC13
      by_cases c14 : x6_1 = true
      ·subst c14
       replace H := sh_t H
       have H' := Aside0.mk H
       clear H
       obtain ⟨HGz15, hgz15⟩ := HI479.out
       have hcz15_0 := cellS112_0 HGz15
       have hcz15_1 := cellS112_1 HGz15
       have hcz15_2 := cellS112_2 HGz15
       have hfz15_0 := blk_frozen HGz15 0
       have hfz15_1 := blk_frozen HGz15 1
       have hfz15_2 := blk_frozen HGz15 2
       clear HGz15 hgz15
       go_wp2
       go_meet
       case rel => exact ⟨_, (!x480002_1), eq_now, H', ⟨by have := HK1.out; first | omega | exact Nat.le_refl _⟩, ⟨by (with_reducible repeat (first | apply Kd.R_alloc | apply Kd.R_drewN | apply Kd.R_drew)); exact HO_481000.out⟩, ⟨bk_now⟩, ⟨bk_now⟩, ⟨by repeat (first | (with_reducible first | exact HI479.out | apply IsS112.alloc | apply IsS112.drewN | apply IsS112.drew | apply IsS112.set_0 | apply IsS112.set_1 | apply IsS112.set_2 | refine IsS112.far ?_ NB479_475.out _ | refine IsS112.far ?_ NB479_480.out _) | exact HI479.out)⟩, ⟨by repeat (first | (with_reducible first | exact HB.out | apply below_alloc | apply pw_below_drewN | apply below_drew1 | refine below_set ?_ (IsS112.ge HI479.out) | refine below_set ?_ GE475.out | refine below_set ?_ GE480.out) | exact HB.out)⟩⟩
      ·replace c14 := Bool.eq_false_iff.mpr c14
       subst c14
       replace H := sh_f H
       have H' := Aside0.mk H
       clear H
       go_wp2
       go_meet
       case rel => exact ⟨_, (false), eq_now, H', ⟨by have := HK1.out; first | omega | exact Nat.le_refl _⟩, ⟨by (with_reducible repeat (first | apply Kd.R_alloc | apply Kd.R_drewN | apply Kd.R_drew)); exact HO_481000.out⟩, ⟨bk_now⟩, ⟨bk_now⟩, ⟨by repeat (first | (with_reducible first | exact HI479.out | apply IsS112.alloc | apply IsS112.drewN | apply IsS112.drew | apply IsS112.set_0 | apply IsS112.set_1 | apply IsS112.set_2 | refine IsS112.far ?_ NB479_475.out _ | refine IsS112.far ?_ NB479_480.out _) | exact HI479.out)⟩, ⟨by repeat (first | (with_reducible first | exact HB.out | apply below_alloc | apply pw_below_drewN | apply below_drew1 | refine below_set ?_ (IsS112.ge HI479.out) | refine below_set ?_ GE475.out | refine below_set ?_ GE480.out) | exact HB.out)⟩⟩
     case rest =>
      clear HC13
      obtain ⟨kq, x23_12, rfl, HA, HJ12, HO_481000, BK475, BK480, HI479, HB⟩ := hcut
      cases kq with
      | zero => exact absurd HA.out (by simp [stockaderef18_Read.j1])
      | succ kj12 =>
       have H := HA.out
       clear HA
       simp only [stockaderef18_Read.j1] at H
       by_cases c16 : x23_12 = true
       ·subst c16
        replace H := sh_t H
        replace H := Option.bind_eq_some_iff.mp H; obtain ⟨⟨t485, t486, t487, t488, t489, t490, t491, t492, t493, t494⟩, A170, H⟩ := H; try dsimp only at H
        have A17 := Aside0.mk A170
        clear A170
        by_cases c18 : x481000_1.length < 2513169434916
        ·rw [if_pos c18] at H
         have LMc18 := Aside0.mk c18
         clear c18
         obtain ⟨y496, hy496⟩ : ∃ y_ : List (S55), y_ = (x481000_1 ++ [(⟨t485, t486, t487, t488, t489, t490, t491⟩ : S55)]) := ⟨_, rfl⟩
         replace H : ((stockaderef18_reader_has.f t492 t493 t494 (⟨#[44, 32]⟩ : ByteArray)).bind fun bt499 => (stockaderef18_Read.l0 kj12 a0 bt499.1 bt499.2.1 bt499.2.2.1 bt499.2.2.2 y496 0)) = some (r1, r2, r3) := by first | (rw [hy496]; with_reducible exact H) | (have H2_ := (Option.bind_some _ _).symm.trans H; rw [hy496]; with_reducible exact H2_) | (have H2_ := (Option.bind_some _ _).symm.trans H; with_reducible exact H2_) | with_reducible exact H | (rw [hy496]; exact H) | exact H
         have Ny496 := Aside0.mk hy496
         clear hy496
         replace H := Option.bind_eq_some_iff.mp H; obtain ⟨⟨t499, t500, t501, t502⟩, A190, H⟩ := H; try dsimp only at H
         have A19 := Aside0.mk A190
         clear A190
         have H' := Aside0.mk H
         clear H
         go_wp2_with (first | ((with_reducible refine gate_callee (f := 59) rfl ?_); refine sh_call (some 25) Tryd.func59 #[.pointer (some ⟨g479, 0, none⟩)] ?_; (with_reducible refine (stockaderef18_reader_test.calls kj12 g479 x480000_1 x480001_1 x480002_1 t485 t486 t487 t488 t489 t490 t491 t492 t493 t494 w _ ?side1 ?side2 A17.out).mono ?_); (case side1 => repeat (first | (with_reducible first | exact HI479.out | apply IsS112.alloc | apply IsS112.drewN | apply IsS112.drew | apply IsS112.set_0 | apply IsS112.set_1 | apply IsS112.set_2 | refine IsS112.far ?_ NB479_475.out _ | refine IsS112.far ?_ NB479_480.out _) | exact HI479.out)); (case side2 => repeat (first | (with_reducible first | exact HB.out | apply below_alloc | apply pw_below_drewN | apply below_drew1 | refine below_set ?_ (IsS112.ge HI479.out) | refine below_set ?_ GE475.out | refine below_set ?_ GE480.out) | exact HB.out)); rintro e w20 ⟨rfl, hi, hb, hk⟩; refine ⟨_, rfl, ?_⟩; replace HO_481000 := Aside0.mk (Kd.R_mono (Kd.R_keep (IsS112.apart (show IsS112 w _ g479 x480000_1 x480001_1 x480002_1 from by repeat (first | (with_reducible first | exact HI479.out | apply IsS112.alloc | apply IsS112.drewN | apply IsS112.drew | apply IsS112.set_0 | apply IsS112.set_1 | apply IsS112.set_2 | refine IsS112.far ?_ NB479_475.out _ | refine IsS112.far ?_ NB479_480.out _) | exact HI479.out)) (by (with_reducible repeat (first | apply Kd.R_alloc | apply Kd.R_drewN | apply Kd.R_drew)); exact HO_481000.out) (by decide)) hk (fun _ h => h.2)) (fun _ h => h.1)); replace BK475 := Aside0.mk (KeepBut.blk hk (g' := gb475) (o := .cells #[.slice none 0 0, .int .u32 0] 46 (0, 0)) bk_now NB475_479.out (by simp)); replace BK480 := Aside0.mk (KeepBut.blk hk (g' := gb480) (o := .cells #[u481000, .int .u32 0] 46 (0, 0)) bk_now NB480_479.out (by simp)); replace HI479 := Aside0.mk (hi); replace HB := Aside0.mk (hb); (try clear hb); (try clear hb2); (try clear hk); (try clear hi)) | ((with_reducible refine gate_dst (N := 7) rfl ?_); (try (refine gate_guard (by rfl) ?_; dsimp only)); refine sh_box 7 #[.bool false, .int .i64 0, .int .i64 0, .int .i64 0, .int .u64 0, .int .u64 0, .int .u64 0] 55 ?_; intro gb495 hg w21 hbox hb; have n0_ := Aside0.mk (Kd.R_below (Kd.R_elderB (by (with_reducible repeat (first | apply Kd.R_alloc | apply Kd.R_drewN | apply Kd.R_drew)); exact HO_481000.out) gb495 (Nat.le_of_eq hg.symm)) hb); have n1_ := Aside0.mk (blk_below (g := gb475) (o := .cells #[.slice none 0 0, .int .u32 0] 46 (0, 0)) bk_now hb); have n2_ := Aside0.mk (blk_below (g := gb480) (o := .cells #[u481000, .int .u32 0] 46 (0, 0)) bk_now hb); have n3_ := Aside0.mk (IsS112.below (show IsS112 w _ g479 t492 t493 t494 from by repeat (first | (with_reducible first | exact HI479.out | apply IsS112.alloc | apply IsS112.drewN | apply IsS112.drew | apply IsS112.set_0 | apply IsS112.set_1 | apply IsS112.set_2 | refine IsS112.far ?_ NB479_475.out _ | refine IsS112.far ?_ NB479_480.out _) | exact HI479.out)) hb); have n4_ := Aside0.mk (below_step (by repeat (first | (with_reducible first | exact HB.out | apply below_alloc | apply pw_below_drewN | apply below_drew1 | refine below_set ?_ (IsS112.ge HI479.out) | refine below_set ?_ GE475.out | refine below_set ?_ GE480.out) | exact HB.out)) hb); have n5_ := Aside0.mk (hbox); have n6_ := Aside0.mk ((by rw [hg]; exact (below_size (by repeat (first | (with_reducible first | exact HB.out | apply below_alloc | apply pw_below_drewN | apply below_drew1 | refine below_set ?_ (IsS112.ge HI479.out) | refine below_set ?_ GE475.out | refine below_set ?_ GE480.out) | exact HB.out))) : w.heap.size ≤ gb495)); have n7_ := Aside0.mk ((by rw [hg]; exact (below_size (by repeat (first | (with_reducible first | exact HB.out | apply below_alloc | apply pw_below_drewN | apply below_drew1 | refine below_set ?_ (IsS112.ge HI479.out) | refine below_set ?_ GE475.out | refine below_set ?_ GE480.out) | exact HB.out))) : w.heap.size ≤ gb495)); have n8_ := Aside0.mk ((by rw [hg]; exact Nat.ne_of_lt (blk_lt (g := gb475) (o := .cells #[.slice none 0 0, .int .u32 0] 46 (0, 0)) bk_now) : gb475 ≠ gb495)); have n9_ := Aside0.mk ((by rw [hg]; exact Nat.ne_of_gt (blk_lt (g := gb475) (o := .cells #[.slice none 0 0, .int .u32 0] 46 (0, 0)) bk_now) : gb495 ≠ gb475)); have n10_ := Aside0.mk ((by rw [hg]; exact Nat.ne_of_lt (blk_lt (g := gb480) (o := .cells #[u481000, .int .u32 0] 46 (0, 0)) bk_now) : gb480 ≠ gb495)); have n11_ := Aside0.mk ((by rw [hg]; exact Nat.ne_of_gt (blk_lt (g := gb480) (o := .cells #[u481000, .int .u32 0] 46 (0, 0)) bk_now) : gb495 ≠ gb480)); have n12_ := Aside0.mk ((by rw [hg]; exact Nat.ne_of_lt (IsS112.lt (show IsS112 w _ g479 t492 t493 t494 from by repeat (first | (with_reducible first | exact HI479.out | apply IsS112.alloc | apply IsS112.drewN | apply IsS112.drew | apply IsS112.set_0 | apply IsS112.set_1 | apply IsS112.set_2 | refine IsS112.far ?_ NB479_475.out _ | refine IsS112.far ?_ NB479_480.out _) | exact HI479.out))) : g479 ≠ gb495)); have n13_ := Aside0.mk ((by rw [hg]; exact Nat.ne_of_gt (IsS112.lt (show IsS112 w _ g479 t492 t493 t494 from by repeat (first | (with_reducible first | exact HI479.out | apply IsS112.alloc | apply IsS112.drewN | apply IsS112.drew | apply IsS112.set_0 | apply IsS112.set_1 | apply IsS112.set_2 | refine IsS112.far ?_ NB479_475.out _ | refine IsS112.far ?_ NB479_480.out _) | exact HI479.out))) : gb495 ≠ g479)); clear HO_481000; clear BK475; clear BK480; clear HI479; clear HB; have HO_481000 := n0_; have BK475 := n1_; have BK480 := n2_; have HI479 := n3_; have HB := n4_; have BK495 := n5_; have GW495 := n6_; have GE495 := n7_; have NB475_495 := n8_; have NB495_475 := n9_; have NB480_495 := n10_; have NB495_480 := n11_; have NB479_495 := n12_; have NB495_479 := n13_; clear n0_ n1_ n2_ n3_ n4_ n5_ n6_ n7_ n8_ n9_ n10_ n11_ n12_ n13_; clear hb hbox hg; have hnb22 := NB495_475.out; have hnc22 := NB475_495.out; have hnb23 := NB495_480.out; have hnc23 := NB480_495.out; have hnb24 := NB495_479.out; have hnc24 := NB479_495.out; have hcz25 := blk_all7 BK495.out; have hnb26 := NB480_475.out; have hnc26 := NB475_480.out; have hnb27 := NB480_479.out; have hnc27 := NB479_480.out; have hcz28 := blk_all2 BK480.out) | ((with_reducible refine gate_builtin (b := .append) (xs := #[.tmp 27, .tmp 29]) rfl ?_); (try (refine gate_guard (by rfl) ?_; dsimp only)); at_builtin; refine Kd.R_append k55 (w0 := w) w.heap.size rfl (.tmp 27) (.tmp 29) 44 55 (.agg #[(.bool false), (.int .i64 0), (.int .i64 0), (.int .i64 0), (.int .u64 0), (.int .u64 0), (.int .u64 0)]) 56 rfl Tryd.underlying44 info55 rfl (by decide) (by omega) u481000 x481000_1 (⟨t485, t486, t487, t488, t489, t490, t491⟩ : S55) [.bool t485, .int .i64 t486, .int .i64 t487, .int .i64 t488, .int .u64 t489, .int .u64 t490, .int .u64 t491] (fun k_ => k_ ≠ gb495) (fun _ => False) rfl (by first | (go_simp; done) | (go_simp; rfl)) ?aP (fun _ hk => hk.elim) ?aF ?aO ?aB ?aS ?aL ?_; (case aP => exact k55_mkM _ _ _ (⟨t485, t486, t487, t488, t489, t490, t491⟩ : S55)); (case aB => exact (by repeat (first | (with_reducible first | exact HB.out | apply below_alloc | apply pw_below_drewN | apply below_drew1 | refine below_set ?_ (IsS112.ge HI479.out) | refine below_set ?_ GE475.out | refine below_set ?_ GE480.out | refine below_set ?_ GE495.out) | exact HB.out))); (case aF => exact (fun k_ hk => Kd.freshB (g := gb495) (o := .cells #[.bool t485, .int .i64 t486, .int .i64 t487, .int .i64 t488, .int .u64 t489, .int .u64 t490, .int .u64 t491] 55 (0, 0)) bk_now k_ hk)); (case aO => exact (by (with_reducible repeat (first | apply Kd.R_alloc | apply Kd.R_drewN | apply Kd.R_drew)); exact Kd.R_mono (Kd.R_far (p := ⟨gb495, 6, none⟩) (Kd.R_far (p := ⟨gb495, 5, none⟩) (Kd.R_far (p := ⟨gb495, 4, none⟩) (Kd.R_far (p := ⟨gb495, 3, none⟩) (Kd.R_far (p := ⟨gb495, 2, none⟩) (Kd.R_far (p := ⟨gb495, 1, none⟩) (Kd.R_far (p := ⟨gb495, 0, none⟩) (Kd.R_mono HO_481000.out (fun k_ hk => (⟨hk, hk.2⟩ : _ ∧ k_ ≠ gb495))) (fun _ hk => hk.2) (.bool t485)) (fun _ hk => hk.2) (.int .i64 t486)) (fun _ hk => hk.2) (.int .i64 t487)) (fun _ hk => hk.2) (.int .i64 t488)) (fun _ hk => hk.2) (.int .u64 t489)) (fun _ hk => hk.2) (.int .u64 t490)) (fun _ hk => hk.2) (.int .u64 t491)) (fun _ hk => hk.1.2))); (case aS => exact (below_size (by repeat (first | (with_reducible first | exact HB.out | apply below_alloc | apply pw_below_drewN | apply below_drew1 | refine below_set ?_ (IsS112.ge HI479.out) | refine below_set ?_ GE475.out | refine below_set ?_ GE480.out | refine below_set ?_ GE495.out) | exact HB.out)))); (case aL => have := LMc18.out; omega); intro v497 w29 ho hb hg hat; rw [← Ny496.out] at ho; have n0_ := Aside0.mk (blk_grown (g := gb475) (o := .cells #[.slice none 0 0, .int .u32 0] 46 (0, 0)) bk_now hg (Kd.R_ne HO_481000.out BK475.out (by decide))); have n1_ := Aside0.mk (blk_grown (g := gb480) (o := .cells #[u481000, .int .u32 0] 46 (0, 0)) bk_now hg (Kd.R_ne HO_481000.out BK480.out (by decide))); have n2_ := Aside0.mk (IsS112.grown (show IsS112 w _ g479 t492 t493 t494 from by repeat (first | (with_reducible first | exact HI479.out | apply IsS112.alloc | apply IsS112.drewN | apply IsS112.drew | apply IsS112.set_0 | apply IsS112.set_1 | apply IsS112.set_2 | refine IsS112.far ?_ NB479_475.out _ | refine IsS112.far ?_ NB479_480.out _ | refine IsS112.far ?_ NB479_495.out _) | exact HI479.out)) hg (IsS112.own_ne HI479.out HO_481000.out (by decide))); have n3_ := Aside0.mk (blk_grown (g := gb495) (o := .cells #[.bool t485, .int .i64 t486, .int .i64 t487, .int .i64 t488, .int .u64 t489, .int .u64 t490, .int .u64 t491] 55 (0, 0)) bk_now hg (Kd.R_away HO_481000.out (fun _ hk => hk.2))); have n4_ := Aside0.mk (hb); have n5_ := Aside0.mk (ho); clear BK475; clear BK480; clear HI479; clear BK495; clear HB; clear HO_481000; have BK475 := n0_; have BK480 := n1_; have HI479 := n2_; have BK495 := n3_; have HB := n4_; have HO498 := n5_; clear n0_ n1_ n2_ n3_ n4_ n5_; clear ho hb hg hat; obtain ⟨Ao30, co30, eo30⟩ := Kd.R_slice HO498.out; subst eo30; have hcz31 := blk_all2 BK480.out) | ((with_reducible refine gate_callee (f := 58) rfl ?_); refine sh_call (some 33) Tryd.func58 #[.pointer (some ⟨g479, 0, none⟩), .string (⟨#[44, 32]⟩ : ByteArray)] ?_; (with_reducible refine (stockaderef18_reader_has.calls g479 t492 t493 t494 (⟨#[44, 32]⟩ : ByteArray) t499 t500 t501 t502 w _ ?side1 ?side2 A19.out).mono ?_); (case side1 => repeat (first | (with_reducible first | exact HI479.out | apply IsS112.alloc | apply IsS112.drewN | apply IsS112.drew | apply IsS112.set_0 | apply IsS112.set_1 | apply IsS112.set_2 | refine IsS112.far ?_ NB479_475.out _ | refine IsS112.far ?_ NB479_480.out _ | refine IsS112.far ?_ NB479_495.out _) | exact HI479.out)); (case side2 => repeat (first | (with_reducible first | exact HB.out | apply below_alloc | apply pw_below_drewN | apply below_drew1 | refine below_set ?_ (IsS112.ge HI479.out) | refine below_set ?_ GE475.out | refine below_set ?_ GE480.out | refine below_set ?_ GE495.out) | exact HB.out)); rintro e w32 ⟨rfl, hi, hb, hk⟩; refine ⟨_, rfl, ?_⟩; have n0_ := Aside0.mk (KeepBut.blk hk (g' := gb475) (o := .cells #[.slice none 0 0, .int .u32 0] 46 (0, 0)) bk_now NB475_479.out (by simp)); have n1_ := Aside0.mk (KeepBut.blk hk (g' := gb480) (o := .cells #[.slice Ao30 y496.length co30, .int .u32 0] 46 (0, 0)) bk_now NB480_479.out (by simp)); have n2_ := Aside0.mk (KeepBut.blk hk (g' := gb495) (o := .cells #[.bool t485, .int .i64 t486, .int .i64 t487, .int .i64 t488, .int .u64 t489, .int .u64 t490, .int .u64 t491] 55 (0, 0)) bk_now NB495_479.out (by simp)); have n3_ := Aside0.mk (Kd.R_mono (Kd.R_keep (IsS112.apart (show IsS112 w _ g479 t492 t493 t494 from by repeat (first | (with_reducible first | exact HI479.out | apply IsS112.alloc | apply IsS112.drewN | apply IsS112.drew | apply IsS112.set_0 | apply IsS112.set_1 | apply IsS112.set_2 | refine IsS112.far ?_ NB479_475.out _ | refine IsS112.far ?_ NB479_480.out _ | refine IsS112.far ?_ NB479_495.out _) | exact HI479.out)) (by (with_reducible repeat (first | apply Kd.R_alloc | apply Kd.R_drewN | apply Kd.R_drew)); exact (Kd.R_mono (Kd.R_far (p := ⟨gb480, 0, none⟩) (Kd.R_types HO498.out BK480.out (by decide)) (fun _ hk => hk.2) (.slice Ao30 y496.length co30)) (fun _ h_ => h_.1))) (by decide)) hk (fun _ h => h.2)) (fun _ h => h.1)); have n4_ := Aside0.mk (hb); have n5_ := Aside0.mk (hi); clear BK475; clear BK480; clear BK495; clear HO498; clear HB; clear HI479; have BK475 := n0_; have BK480 := n1_; have BK495 := n2_; have HO498 := n3_; have HB := n4_; have HI479 := n5_; clear n0_ n1_ n2_ n3_ n4_ n5_; (try clear hb); (try clear hb2); (try clear hk); (try clear hi)))
         go_roundg kj12
         case measure => have := HK1.out; have := HJ12.out; omega
         case rel => exact ⟨(t499), (t500), (t501), (t502), (y496), (.slice Ao30 y496.length co30), eq_now, H', ⟨by have := HK1.out; have := HJ12.out; omega⟩, ⟨by (with_reducible repeat (first | apply Kd.R_alloc | apply Kd.R_drewN | apply Kd.R_drew)); exact Kd.R_mono HO498.out (fun _ hk => trivial)⟩, ⟨bk_now⟩, ⟨bk_now⟩, ⟨by repeat (first | (with_reducible first | exact HI479.out | apply IsS112.alloc | apply IsS112.drewN | apply IsS112.drew | apply IsS112.set_0 | apply IsS112.set_1 | apply IsS112.set_2 | refine IsS112.far ?_ NB479_475.out _ | refine IsS112.far ?_ NB479_480.out _ | refine IsS112.far ?_ NB479_495.out _) | exact HI479.out)⟩, ⟨by repeat (first | (with_reducible first | exact HB.out | apply below_alloc | apply pw_below_drewN | apply below_drew1 | refine below_set ?_ (IsS112.ge HI479.out) | refine below_set ?_ GE475.out | refine below_set ?_ GE480.out | refine below_set ?_ GE495.out) | exact HB.out)⟩⟩
        ·rw [if_neg c18] at H
         exact absurd H (by simp)
       ·replace c16 := Bool.eq_false_iff.mpr c16
        subst c16
        replace H := sh_f H
        have H' := Aside0.mk H
        clear H
        go_wp2
        go_meet
        case rel => exact ⟨_, (x480000_1), (x480001_1), (x480002_1), (x481000_1), (u481000), H', ⟨by have := HK1.out; have := HJ12.out; first | omega | exact Nat.le_refl _⟩, ⟨by (with_reducible repeat (first | apply Kd.R_alloc | apply Kd.R_drewN | apply Kd.R_drew)); exact HO_481000.out⟩, ⟨bk_now⟩, ⟨bk_now⟩, ⟨by repeat (first | (with_reducible first | exact HI479.out | apply IsS112.alloc | apply IsS112.drewN | apply IsS112.drew | apply IsS112.set_0 | apply IsS112.set_1 | apply IsS112.set_2 | refine IsS112.far ?_ NB479_475.out _ | refine IsS112.far ?_ NB479_480.out _) | exact HI479.out)⟩, ⟨by repeat (first | (with_reducible first | exact HB.out | apply below_alloc | apply pw_below_drewN | apply below_drew1 | refine below_set ?_ (IsS112.ge HI479.out) | refine below_set ?_ GE475.out | refine below_set ?_ GE480.out) | exact HB.out)⟩⟩
 case rest =>
  clear HC4
  clear hcz10
  obtain ⟨kq, x480000_3, x480001_3, x480002_3, x481000_3, u481000, HA, HJ3, HO_481000, BK475, BK480, HI479, HB⟩ := hcut
  cases kq with
  | zero => exact absurd HA.out (by simp [stockaderef18_Read.j2])
  | succ kj3 =>
   have H := HA.out
   clear HA
   simp only [stockaderef18_Read.j2] at H
   replace H := Option.bind_eq_some_iff.mp H; obtain ⟨⟨t503, t504, t505⟩, A330, H⟩ := H; try dsimp only at H
   have A33 := Aside0.mk A330
   clear A330
   replace H := Option.bind_eq_some_iff.mp H; obtain ⟨⟨t506, t507, t508, t509⟩, A340, H⟩ := H; try dsimp only at H
   have A34 := Aside0.mk A340
   clear A340
   by_cases c35 : t509 = true
   ·subst c35
    replace H := sh_t H
    simp only [Option.some.injEq, Prod.mk.injEq] at H
    obtain ⟨rfl, rfl, rfl⟩ := H
    go_wp2_with (first | ((with_reducible refine gate_callee (f := 60) rfl ?_); refine sh_call (some 35) Tryd.func60 #[.pointer (some ⟨g479, 0, none⟩), .string (⟨#[32, 45, 62, 32]⟩ : ByteArray)] ?_; (with_reducible refine (stockaderef18_reader_must.calls g479 x480000_3 x480001_3 x480002_3 (⟨#[32, 45, 62, 32]⟩ : ByteArray) t503 t504 t505 w _ ?side1 ?side2 A33.out).mono ?_); (case side1 => repeat (first | (with_reducible first | exact HI479.out | apply IsS112.alloc | apply IsS112.drewN | apply IsS112.drew | apply IsS112.set_0 | apply IsS112.set_1 | apply IsS112.set_2 | refine IsS112.far ?_ NB479_475.out _ | refine IsS112.far ?_ NB479_480.out _) | exact HI479.out)); (case side2 => repeat (first | (with_reducible first | exact HB.out | apply below_alloc | apply pw_below_drewN | apply below_drew1 | refine below_set ?_ (IsS112.ge HI479.out) | refine below_set ?_ GE475.out | refine below_set ?_ GE480.out) | exact HB.out)); rintro e w36 ⟨rfl, hi, hb, hk⟩; refine ⟨_, rfl, ?_⟩; replace HO_481000 := Aside0.mk (Kd.R_mono (Kd.R_keep (IsS112.apart (show IsS112 w _ g479 x480000_3 x480001_3 x480002_3 from by repeat (first | (with_reducible first | exact HI479.out | apply IsS112.alloc | apply IsS112.drewN | apply IsS112.drew | apply IsS112.set_0 | apply IsS112.set_1 | apply IsS112.set_2 | refine IsS112.far ?_ NB479_475.out _ | refine IsS112.far ?_ NB479_480.out _) | exact HI479.out)) (by (with_reducible repeat (first | apply Kd.R_alloc | apply Kd.R_drewN | apply Kd.R_drew)); exact HO_481000.out) (by decide)) hk (fun _ h => h.2)) (fun _ h => h.1)); replace BK475 := Aside0.mk (KeepBut.blk hk (g' := gb475) (o := .cells #[.slice none 0 0, .int .u32 0] 46 (0, 0)) bk_now NB475_479.out (by simp)); replace BK480 := Aside0.mk (KeepBut.blk hk (g' := gb480) (o := .cells #[u481000, .int .u32 0] 46 (0, 0)) bk_now NB480_479.out (by simp)); replace HI479 := Aside0.mk (hi); replace HB := Aside0.mk (hb); (try clear hb); (try clear hb2); (try clear hk); (try clear hi)) | ((with_reducible refine gate_callee (f := 61) rfl ?_); refine sh_call (some 37) Tryd.func61 #[.pointer (some ⟨g479, 0, none⟩), .int .u64 4294967295] ?_; (with_reducible refine (stockaderef18_reader_number.calls kj3 g479 t503 t504 t505 4294967295 t506 t507 t508 true w _ ?side1 ?side2 A34.out).mono ?_); (case side1 => repeat (first | (with_reducible first | exact HI479.out | apply IsS112.alloc | apply IsS112.drewN | apply IsS112.drew | apply IsS112.set_0 | apply IsS112.set_1 | apply IsS112.set_2 | refine IsS112.far ?_ NB479_475.out _ | refine IsS112.far ?_ NB479_480.out _) | exact HI479.out)); (case side2 => repeat (first | (with_reducible first | exact HB.out | apply below_alloc | apply pw_below_drewN | apply below_drew1 | refine below_set ?_ (IsS112.ge HI479.out) | refine below_set ?_ GE475.out | refine below_set ?_ GE480.out) | exact HB.out)); rintro e w37 ⟨rfl, hi, hb, hk⟩; refine ⟨_, rfl, ?_⟩; replace HO_481000 := Aside0.mk (Kd.R_mono (Kd.R_keep (IsS112.apart (show IsS112 w _ g479 t503 t504 t505 from by repeat (first | (with_reducible first | exact HI479.out | apply IsS112.alloc | apply IsS112.drewN | apply IsS112.drew | apply IsS112.set_0 | apply IsS112.set_1 | apply IsS112.set_2 | refine IsS112.far ?_ NB479_475.out _ | refine IsS112.far ?_ NB479_480.out _) | exact HI479.out)) (by (with_reducible repeat (first | apply Kd.R_alloc | apply Kd.R_drewN | apply Kd.R_drew)); exact HO_481000.out) (by decide)) hk (fun _ h => h.2)) (fun _ h => h.1)); replace BK475 := Aside0.mk (KeepBut.blk hk (g' := gb475) (o := .cells #[.slice none 0 0, .int .u32 0] 46 (0, 0)) bk_now NB475_479.out (by simp)); replace BK480 := Aside0.mk (KeepBut.blk hk (g' := gb480) (o := .cells #[u481000, .int .u32 0] 46 (0, 0)) bk_now NB480_479.out (by simp)); replace HI479 := Aside0.mk (hi); replace HB := Aside0.mk (hb); (try clear hb); (try clear hb2); (try clear hk); (try clear hi); have hnb38 := NB480_475.out; have hnc38 := NB475_480.out; have hnb39 := NB480_479.out; have hnc39 := NB479_480.out; have hcz40 := blk_all2 BK480.out; obtain ⟨HGz41, hgz41⟩ := HI479.out; have hcz41_0 := cellS112_0 HGz41; have hcz41_1 := cellS112_1 HGz41; have hcz41_2 := cellS112_2 HGz41; have hfz41_0 := blk_frozen HGz41 0; have hfz41_1 := blk_frozen HGz41 1; have hfz41_2 := blk_frozen HGz41 2; clear HGz41 hgz41; have hnb42 := NB475_479.out; have hnc42 := NB479_475.out; have hcz43 := blk_all2 BK475.out))
    refine bodyPost_ret (results_ct rfl _ _ gb475 46 #[.slice none 0 0, .int .u32 0] (0, 0) _ rfl bk_now Tryd.underlying46 rfl (by kernel_rfl)) rfl ?_
    exact ⟨_, ret_now, by first | exact Kd.R_nil _ _ _ _ _ | exact Kd.N_nil _ _ _ _ _ | exact Kd.V_nil _ _ _ _ _ | exact Kd.Q_nil _ _ _ _ _ | exact Kd.S_nil _ _ _ _ _, by repeat (first | (with_reducible first | exact HB.out | apply below_alloc | apply pw_below_drewN | apply below_drew1 | refine below_set ?_ (IsS112.ge HI479.out) | refine below_set ?_ GE475.out | refine below_set ?_ GE480.out) | exact HB.out)⟩
   ·replace c35 := Bool.eq_false_iff.mpr c35
    subst c35
    replace H := sh_f H
    by_cases c44 : t508 = (a0.size : Int)
    ·rw [if_pos c44] at H
     have c44b0 : (t508 == (a0.size : Int)) = true := beq_iff_eq.mpr c44
     have c44b1 : (t508 != (a0.size : Int)) = false := bne_eq_false_iff_eq.mpr c44
     clear c44
     by_cases c45 : (x481000_3.length : Int) > 8
     ·rw [if_pos c45] at H
      have c45b0 : decide (8 < (x481000_3.length : Int)) = true := decide_eq_true c45
      have c45b1 : decide (8 < x481000_3.length) = true := decide_eq_true (by omega)
      clear c45
      simp only [Option.some.injEq, Prod.mk.injEq] at H
      obtain ⟨rfl, rfl, rfl⟩ := H
      go_wp2_with (first | ((with_reducible refine gate_callee (f := 60) rfl ?_); refine sh_call (some 35) Tryd.func60 #[.pointer (some ⟨g479, 0, none⟩), .string (⟨#[32, 45, 62, 32]⟩ : ByteArray)] ?_; (with_reducible refine (stockaderef18_reader_must.calls g479 x480000_3 x480001_3 x480002_3 (⟨#[32, 45, 62, 32]⟩ : ByteArray) t503 t504 t505 w _ ?side1 ?side2 A33.out).mono ?_); (case side1 => repeat (first | (with_reducible first | exact HI479.out | apply IsS112.alloc | apply IsS112.drewN | apply IsS112.drew | apply IsS112.set_0 | apply IsS112.set_1 | apply IsS112.set_2 | refine IsS112.far ?_ NB479_475.out _ | refine IsS112.far ?_ NB479_480.out _) | exact HI479.out)); (case side2 => repeat (first | (with_reducible first | exact HB.out | apply below_alloc | apply pw_below_drewN | apply below_drew1 | refine below_set ?_ (IsS112.ge HI479.out) | refine below_set ?_ GE475.out | refine below_set ?_ GE480.out) | exact HB.out)); rintro e w46 ⟨rfl, hi, hb, hk⟩; refine ⟨_, rfl, ?_⟩; replace HO_481000 := Aside0.mk (Kd.R_mono (Kd.R_keep (IsS112.apart (show IsS112 w _ g479 x480000_3 x480001_3 x480002_3 from by repeat (first | (with_reducible first | exact HI479.out | apply IsS112.alloc | apply IsS112.drewN | apply IsS112.drew | apply IsS112.set_0 | apply IsS112.set_1 | apply IsS112.set_2 | refine IsS112.far ?_ NB479_475.out _ | refine IsS112.far ?_ NB479_480.out _) | exact HI479.out)) (by (with_reducible repeat (first | apply Kd.R_alloc | apply Kd.R_drewN | apply Kd.R_drew)); exact HO_481000.out) (by decide)) hk (fun _ h => h.2)) (fun _ h => h.1)); replace BK475 := Aside0.mk (KeepBut.blk hk (g' := gb475) (o := .cells #[.slice none 0 0, .int .u32 0] 46 (0, 0)) bk_now NB475_479.out (by simp)); replace BK480 := Aside0.mk (KeepBut.blk hk (g' := gb480) (o := .cells #[u481000, .int .u32 0] 46 (0, 0)) bk_now NB480_479.out (by simp)); replace HI479 := Aside0.mk (hi); replace HB := Aside0.mk (hb); (try clear hb); (try clear hb2); (try clear hk); (try clear hi)) | ((with_reducible refine gate_callee (f := 61) rfl ?_); refine sh_call (some 37) Tryd.func61 #[.pointer (some ⟨g479, 0, none⟩), .int .u64 4294967295] ?_; (with_reducible refine (stockaderef18_reader_number.calls kj3 g479 t503 t504 t505 4294967295 t506 t507 t508 false w _ ?side1 ?side2 A34.out).mono ?_); (case side1 => repeat (first | (with_reducible first | exact HI479.out | apply IsS112.alloc | apply IsS112.drewN | apply IsS112.drew | apply IsS112.set_0 | apply IsS112.set_1 | apply IsS112.set_2 | refine IsS112.far ?_ NB479_475.out _ | refine IsS112.far ?_ NB479_480.out _) | exact HI479.out)); (case side2 => repeat (first | (with_reducible first | exact HB.out | apply below_alloc | apply pw_below_drewN | apply below_drew1 | refine below_set ?_ (IsS112.ge HI479.out) | refine below_set ?_ GE475.out | refine below_set ?_ GE480.out) | exact HB.out)); rintro e w47 ⟨rfl, hi, hb, hk⟩; refine ⟨_, rfl, ?_⟩; replace HO_481000 := Aside0.mk (Kd.R_mono (Kd.R_keep (IsS112.apart (show IsS112 w _ g479 t503 t504 t505 from by repeat (first | (with_reducible first | exact HI479.out | apply IsS112.alloc | apply IsS112.drewN | apply IsS112.drew | apply IsS112.set_0 | apply IsS112.set_1 | apply IsS112.set_2 | refine IsS112.far ?_ NB479_475.out _ | refine IsS112.far ?_ NB479_480.out _) | exact HI479.out)) (by (with_reducible repeat (first | apply Kd.R_alloc | apply Kd.R_drewN | apply Kd.R_drew)); exact HO_481000.out) (by decide)) hk (fun _ h => h.2)) (fun _ h => h.1)); replace BK475 := Aside0.mk (KeepBut.blk hk (g' := gb475) (o := .cells #[.slice none 0 0, .int .u32 0] 46 (0, 0)) bk_now NB475_479.out (by simp)); replace BK480 := Aside0.mk (KeepBut.blk hk (g' := gb480) (o := .cells #[u481000, .int .u32 0] 46 (0, 0)) bk_now NB480_479.out (by simp)); replace HI479 := Aside0.mk (hi); replace HB := Aside0.mk (hb); (try clear hb); (try clear hb2); (try clear hk); (try clear hi); have hnb48 := NB480_475.out; have hnc48 := NB475_480.out; have hnb49 := NB480_479.out; have hnc49 := NB479_480.out; have hcz50 := blk_all2 BK480.out; obtain ⟨HGz51, hgz51⟩ := HI479.out; have hcz51_0 := cellS112_0 HGz51; have hcz51_1 := cellS112_1 HGz51; have hcz51_2 := cellS112_2 HGz51; have hfz51_0 := blk_frozen HGz51 0; have hfz51_1 := blk_frozen HGz51 1; have hfz51_2 := blk_frozen HGz51 2; clear HGz51 hgz51; obtain ⟨Ao52, co52, eo52⟩ := Kd.R_slice HO_481000.out; subst eo52; have hnb53 := NB475_479.out; have hnc53 := NB479_475.out; have hcz54 := blk_all2 BK475.out))
      refine bodyPost_ret (results_ct rfl _ _ gb475 46 #[.slice none 0 0, .int .u32 0] (0, 0) _ rfl bk_now Tryd.underlying46 rfl (by kernel_rfl)) rfl ?_
      exact ⟨_, ret_now, by first | exact Kd.R_nil _ _ _ _ _ | exact Kd.N_nil _ _ _ _ _ | exact Kd.V_nil _ _ _ _ _ | exact Kd.Q_nil _ _ _ _ _ | exact Kd.S_nil _ _ _ _ _, by repeat (first | (with_reducible first | exact HB.out | apply below_alloc | apply pw_below_drewN | apply below_drew1 | refine below_set ?_ (IsS112.ge HI479.out) | refine below_set ?_ GE475.out | refine below_set ?_ GE480.out) | exact HB.out)⟩
     ·rw [if_neg c45] at H
      have c45b0 : decide (8 < (x481000_3.length : Int)) = false := decide_eq_false c45
      have c45b1 : decide (8 < x481000_3.length) = false := decide_eq_false (by omega)
      clear c45
      simp only [Option.some.injEq, Prod.mk.injEq] at H
      obtain ⟨rfl, rfl, rfl⟩ := H
      go_wp2_with (first | ((with_reducible refine gate_callee (f := 60) rfl ?_); refine sh_call (some 35) Tryd.func60 #[.pointer (some ⟨g479, 0, none⟩), .string (⟨#[32, 45, 62, 32]⟩ : ByteArray)] ?_; (with_reducible refine (stockaderef18_reader_must.calls g479 x480000_3 x480001_3 x480002_3 (⟨#[32, 45, 62, 32]⟩ : ByteArray) t503 t504 t505 w _ ?side1 ?side2 A33.out).mono ?_); (case side1 => repeat (first | (with_reducible first | exact HI479.out | apply IsS112.alloc | apply IsS112.drewN | apply IsS112.drew | apply IsS112.set_0 | apply IsS112.set_1 | apply IsS112.set_2 | refine IsS112.far ?_ NB479_475.out _ | refine IsS112.far ?_ NB479_480.out _) | exact HI479.out)); (case side2 => repeat (first | (with_reducible first | exact HB.out | apply below_alloc | apply pw_below_drewN | apply below_drew1 | refine below_set ?_ (IsS112.ge HI479.out) | refine below_set ?_ GE475.out | refine below_set ?_ GE480.out) | exact HB.out)); rintro e w55 ⟨rfl, hi, hb, hk⟩; refine ⟨_, rfl, ?_⟩; replace HO_481000 := Aside0.mk (Kd.R_mono (Kd.R_keep (IsS112.apart (show IsS112 w _ g479 x480000_3 x480001_3 x480002_3 from by repeat (first | (with_reducible first | exact HI479.out | apply IsS112.alloc | apply IsS112.drewN | apply IsS112.drew | apply IsS112.set_0 | apply IsS112.set_1 | apply IsS112.set_2 | refine IsS112.far ?_ NB479_475.out _ | refine IsS112.far ?_ NB479_480.out _) | exact HI479.out)) (by (with_reducible repeat (first | apply Kd.R_alloc | apply Kd.R_drewN | apply Kd.R_drew)); exact HO_481000.out) (by decide)) hk (fun _ h => h.2)) (fun _ h => h.1)); replace BK475 := Aside0.mk (KeepBut.blk hk (g' := gb475) (o := .cells #[.slice none 0 0, .int .u32 0] 46 (0, 0)) bk_now NB475_479.out (by simp)); replace BK480 := Aside0.mk (KeepBut.blk hk (g' := gb480) (o := .cells #[u481000, .int .u32 0] 46 (0, 0)) bk_now NB480_479.out (by simp)); replace HI479 := Aside0.mk (hi); replace HB := Aside0.mk (hb); (try clear hb); (try clear hb2); (try clear hk); (try clear hi)) | ((with_reducible refine gate_callee (f := 61) rfl ?_); refine sh_call (some 37) Tryd.func61 #[.pointer (some ⟨g479, 0, none⟩), .int .u64 4294967295] ?_; (with_reducible refine (stockaderef18_reader_number.calls kj3 g479 t503 t504 t505 4294967295 t506 t507 t508 false w _ ?side1 ?side2 A34.out).mono ?_); (case side1 => repeat (first | (with_reducible first | exact HI479.out | apply IsS112.alloc | apply IsS112.drewN | apply IsS112.drew | apply IsS112.set_0 | apply IsS112.set_1 | apply IsS112.set_2 | refine IsS112.far ?_ NB479_475.out _ | refine IsS112.far ?_ NB479_480.out _) | exact HI479.out)); (case side2 => repeat (first | (with_reducible first | exact HB.out | apply below_alloc | apply pw_below_drewN | apply below_drew1 | refine below_set ?_ (IsS112.ge HI479.out) | refine below_set ?_ GE475.out | refine below_set ?_ GE480.out) | exact HB.out)); rintro e w56 ⟨rfl, hi, hb, hk⟩; refine ⟨_, rfl, ?_⟩; replace HO_481000 := Aside0.mk (Kd.R_mono (Kd.R_keep (IsS112.apart (show IsS112 w _ g479 t503 t504 t505 from by repeat (first | (with_reducible first | exact HI479.out | apply IsS112.alloc | apply IsS112.drewN | apply IsS112.drew | apply IsS112.set_0 | apply IsS112.set_1 | apply IsS112.set_2 | refine IsS112.far ?_ NB479_475.out _ | refine IsS112.far ?_ NB479_480.out _) | exact HI479.out)) (by (with_reducible repeat (first | apply Kd.R_alloc | apply Kd.R_drewN | apply Kd.R_drew)); exact HO_481000.out) (by decide)) hk (fun _ h => h.2)) (fun _ h => h.1)); replace BK475 := Aside0.mk (KeepBut.blk hk (g' := gb475) (o := .cells #[.slice none 0 0, .int .u32 0] 46 (0, 0)) bk_now NB475_479.out (by simp)); replace BK480 := Aside0.mk (KeepBut.blk hk (g' := gb480) (o := .cells #[u481000, .int .u32 0] 46 (0, 0)) bk_now NB480_479.out (by simp)); replace HI479 := Aside0.mk (hi); replace HB := Aside0.mk (hb); (try clear hb); (try clear hb2); (try clear hk); (try clear hi); have hnb57 := NB480_475.out; have hnc57 := NB475_480.out; have hnb58 := NB480_479.out; have hnc58 := NB479_480.out; have hcz59 := blk_all2 BK480.out; obtain ⟨HGz60, hgz60⟩ := HI479.out; have hcz60_0 := cellS112_0 HGz60; have hcz60_1 := cellS112_1 HGz60; have hcz60_2 := cellS112_2 HGz60; have hfz60_0 := blk_frozen HGz60 0; have hfz60_1 := blk_frozen HGz60 1; have hfz60_2 := blk_frozen HGz60 2; clear HGz60 hgz60; obtain ⟨Ao61, co61, eo61⟩ := Kd.R_slice HO_481000.out; subst eo61; have hnb62 := NB475_479.out; have hnc62 := NB479_475.out; have hcz63 := blk_all2 BK475.out))
      refine bodyPost_ret (results_ct rfl _ _ gb475 46 #[.slice Ao61 x481000_3.length co61, .int .u32 ((t506) % 4294967296)] (0, 0) _ rfl bk_now Tryd.underlying46 rfl (by kernel_rfl)) rfl ?_
      exact ⟨_, ret_now, by (with_reducible repeat (first | apply Kd.R_alloc | apply Kd.R_drewN | apply Kd.R_drew)); exact Kd.R_mono (Kd.R_far (p := ⟨gb475, 1, none⟩) (Kd.R_far (p := ⟨gb475, 0, none⟩) (Kd.R_far (p := ⟨gb480, 1, none⟩) (Kd.R_types (Kd.R_types HO_481000.out BK480.out (by decide)) BK475.out (by decide)) (fun _ hk => hk.1.2) (.int .u32 ((t506) % 4294967296))) (fun _ hk => hk.2) (.slice Ao61 x481000_3.length co61)) (fun _ hk => hk.2) (.int .u32 ((t506) % 4294967296))) (fun _ hk => trivial), by repeat (first | (with_reducible first | exact HB.out | apply below_alloc | apply pw_below_drewN | apply below_drew1 | refine below_set ?_ (IsS112.ge HI479.out) | refine below_set ?_ GE475.out | refine below_set ?_ GE480.out) | exact HB.out)⟩
    ·rw [if_neg c44] at H
     have c44b0 : (t508 == (a0.size : Int)) = false := beq_eq_false_iff_ne.mpr c44
     have c44b1 : (t508 != (a0.size : Int)) = true := bne_iff_ne.mpr c44
     simp only [Option.some.injEq, Prod.mk.injEq] at H
     obtain ⟨rfl, rfl, rfl⟩ := H
     go_wp2_with (first | ((with_reducible refine gate_callee (f := 60) rfl ?_); refine sh_call (some 35) Tryd.func60 #[.pointer (some ⟨g479, 0, none⟩), .string (⟨#[32, 45, 62, 32]⟩ : ByteArray)] ?_; (with_reducible refine (stockaderef18_reader_must.calls g479 x480000_3 x480001_3 x480002_3 (⟨#[32, 45, 62, 32]⟩ : ByteArray) t503 t504 t505 w _ ?side1 ?side2 A33.out).mono ?_); (case side1 => repeat (first | (with_reducible first | exact HI479.out | apply IsS112.alloc | apply IsS112.drewN | apply IsS112.drew | apply IsS112.set_0 | apply IsS112.set_1 | apply IsS112.set_2 | refine IsS112.far ?_ NB479_475.out _ | refine IsS112.far ?_ NB479_480.out _) | exact HI479.out)); (case side2 => repeat (first | (with_reducible first | exact HB.out | apply below_alloc | apply pw_below_drewN | apply below_drew1 | refine below_set ?_ (IsS112.ge HI479.out) | refine below_set ?_ GE475.out | refine below_set ?_ GE480.out) | exact HB.out)); rintro e w64 ⟨rfl, hi, hb, hk⟩; refine ⟨_, rfl, ?_⟩; replace HO_481000 := Aside0.mk (Kd.R_mono (Kd.R_keep (IsS112.apart (show IsS112 w _ g479 x480000_3 x480001_3 x480002_3 from by repeat (first | (with_reducible first | exact HI479.out | apply IsS112.alloc | apply IsS112.drewN | apply IsS112.drew | apply IsS112.set_0 | apply IsS112.set_1 | apply IsS112.set_2 | refine IsS112.far ?_ NB479_475.out _ | refine IsS112.far ?_ NB479_480.out _) | exact HI479.out)) (by (with_reducible repeat (first | apply Kd.R_alloc | apply Kd.R_drewN | apply Kd.R_drew)); exact HO_481000.out) (by decide)) hk (fun _ h => h.2)) (fun _ h => h.1)); replace BK475 := Aside0.mk (KeepBut.blk hk (g' := gb475) (o := .cells #[.slice none 0 0, .int .u32 0] 46 (0, 0)) bk_now NB475_479.out (by simp)); replace BK480 := Aside0.mk (KeepBut.blk hk (g' := gb480) (o := .cells #[u481000, .int .u32 0] 46 (0, 0)) bk_now NB480_479.out (by simp)); replace HI479 := Aside0.mk (hi); replace HB := Aside0.mk (hb); (try clear hb); (try clear hb2); (try clear hk); (try clear hi)) | ((with_reducible refine gate_callee (f := 61) rfl ?_); refine sh_call (some 37) Tryd.func61 #[.pointer (some ⟨g479, 0, none⟩), .int .u64 4294967295] ?_; (with_reducible refine (stockaderef18_reader_number.calls kj3 g479 t503 t504 t505 4294967295 t506 t507 t508 false w _ ?side1 ?side2 A34.out).mono ?_); (case side1 => repeat (first | (with_reducible first | exact HI479.out | apply IsS112.alloc | apply IsS112.drewN | apply IsS112.drew | apply IsS112.set_0 | apply IsS112.set_1 | apply IsS112.set_2 | refine IsS112.far ?_ NB479_475.out _ | refine IsS112.far ?_ NB479_480.out _) | exact HI479.out)); (case side2 => repeat (first | (with_reducible first | exact HB.out | apply below_alloc | apply pw_below_drewN | apply below_drew1 | refine below_set ?_ (IsS112.ge HI479.out) | refine below_set ?_ GE475.out | refine below_set ?_ GE480.out) | exact HB.out)); rintro e w65 ⟨rfl, hi, hb, hk⟩; refine ⟨_, rfl, ?_⟩; replace HO_481000 := Aside0.mk (Kd.R_mono (Kd.R_keep (IsS112.apart (show IsS112 w _ g479 t503 t504 t505 from by repeat (first | (with_reducible first | exact HI479.out | apply IsS112.alloc | apply IsS112.drewN | apply IsS112.drew | apply IsS112.set_0 | apply IsS112.set_1 | apply IsS112.set_2 | refine IsS112.far ?_ NB479_475.out _ | refine IsS112.far ?_ NB479_480.out _) | exact HI479.out)) (by (with_reducible repeat (first | apply Kd.R_alloc | apply Kd.R_drewN | apply Kd.R_drew)); exact HO_481000.out) (by decide)) hk (fun _ h => h.2)) (fun _ h => h.1)); replace BK475 := Aside0.mk (KeepBut.blk hk (g' := gb475) (o := .cells #[.slice none 0 0, .int .u32 0] 46 (0, 0)) bk_now NB475_479.out (by simp)); replace BK480 := Aside0.mk (KeepBut.blk hk (g' := gb480) (o := .cells #[u481000, .int .u32 0] 46 (0, 0)) bk_now NB480_479.out (by simp)); replace HI479 := Aside0.mk (hi); replace HB := Aside0.mk (hb); (try clear hb); (try clear hb2); (try clear hk); (try clear hi); have hnb66 := NB480_475.out; have hnc66 := NB475_480.out; have hnb67 := NB480_479.out; have hnc67 := NB479_480.out; have hcz68 := blk_all2 BK480.out; obtain ⟨HGz69, hgz69⟩ := HI479.out; have hcz69_0 := cellS112_0 HGz69; have hcz69_1 := cellS112_1 HGz69; have hcz69_2 := cellS112_2 HGz69; have hfz69_0 := blk_frozen HGz69 0; have hfz69_1 := blk_frozen HGz69 1; have hfz69_2 := blk_frozen HGz69 2; clear HGz69 hgz69; have hnb70 := NB475_479.out; have hnc70 := NB479_475.out; have hcz71 := blk_all2 BK475.out))
     refine bodyPost_ret (results_ct rfl _ _ gb475 46 #[.slice none 0 0, .int .u32 0] (0, 0) _ rfl bk_now Tryd.underlying46 rfl (by kernel_rfl)) rfl ?_
     exact ⟨_, ret_now, by first | exact Kd.R_nil _ _ _ _ _ | exact Kd.N_nil _ _ _ _ _ | exact Kd.V_nil _ _ _ _ _ | exact Kd.Q_nil _ _ _ _ _ | exact Kd.S_nil _ _ _ _ _, by repeat (first | (with_reducible first | exact HB.out | apply below_alloc | apply pw_below_drewN | apply below_drew1 | refine below_set ?_ (IsS112.ge HI479.out) | refine below_set ?_ GE475.out | refine below_set ?_ GE480.out) | exact HB.out)⟩

end Go.Proofs.YtighficpbplkhaaDoor.P
