/- Made by this session's driver over the kit's printer: for each Go function a Lean function with the same answers, and a proof that the Go call comes to these answers; no conditions but the ones each theorem names. -/
import Derived.Test.YtkojjjdeacdabaaDoorPx0
import Derived.Test.YtkojjjdeacdabaaDoorPx3
import Derived.Test.YtkojjjdeacdabaaDoorPx7
import Derived.Test.YtkojjjdeacdabaaDoorPx9
namespace Go.Proofs.YtkojjjdeacdabaaDoor.P
open Go.RowKit Go.Proofs.YtkojjjdeacdabaaDoorW.PrintWords Go.Proofs.YtkojjjdeacdabaaDoorW.PrintLast Go.Proofs.YtkojjjdeacdabaaDoorW.PrintMore
attribute [local go_sem] max2_int min2_int max_two min_two max_three min_three max_four min_four   -- for this text's walks alone
set_option linter.unusedVariables false
set_option linter.unusedSimpArgs false

attribute [local go_sem high] eqA30
/-! ### stockadelaw02_what: function 22 -/
def stockadelaw02_what.f (a0_0 : Int) (a0_1 : Int) (a0_2 : Int) (a0_3 : Bool) (a0_4 : Bool) : Option (Int × Int × Int × Bool × Bool) := some (a0_0, a0_1, a0_2, a0_3, a0_4)
set_option maxHeartbeats 8000000 in
set_option maxRecDepth 100000 in
theorem stockadelaw02_what.calls (a0_0 : Int) (a0_1 : Int) (a0_2 : Int) (a0_3 : Bool) (a0_4 : Bool) (r1 : Int) (r2 : Int) (r3 : Int) (r4 : Bool) (r5 : Bool) (w : World) (h : stockadelaw02_what.f a0_0 a0_1 a0_2 a0_3 a0_4 = some (r1, r2, r3, r4, r5)) :
  Calls Tryd.prog 22 #[.agg #[.int .i64 a0_0, .int .i64 a0_1, .int .i64 a0_2, .bool a0_3, .bool a0_4]] w fun e w' => e = .returned (.agg #[.int .i64 r1, .int .i64 r2, .int .i64 r3, .bool r4, .bool r5]) ∧ Below w.heap.size w w' := by
 have hu30 := Tryd.underlying30
 have hu26 := Tryd.underlying26
 have HB := Aside0.mk (Below.refl w.heap.size w)
 have H : (some (a0_0, a0_1, a0_2, a0_3, a0_4)) = some (r1, r2, r3, r4, r5) := h
 clear h
 simp only [Option.some.injEq, Prod.mk.injEq] at H
 obtain ⟨rfl, rfl, rfl, rfl, rfl⟩ := H
 go_enter Tryd.func22, Tryd.ntmps22
 go_wp2_with (first | ((with_reducible refine gate_dst (N := 1) rfl ?_); refine sh_box 1 #[.int .i64 a0_0, .int .i64 a0_1, .int .i64 a0_2, .bool a0_3, .bool a0_4] 30 ?_; intro gb389 hg w2 hbox hb; have GE389 := sh_z (w := w) hg; replace HB := sh_b (w := w) hb; have BK389 := Aside0.mk (hbox); clear hb hbox hg) | ((with_reducible refine gate_dst (N := 2) rfl ?_); refine sh_box 2 #[.int .i64 0, .int .i64 0, .int .i64 0, .bool false, .bool false] 26 ?_; intro gb390 hg w3 hbox hb; have GE390 := sh_z (w := w) hg; have NB389_390 := sh_n BK389 hg; have NB390_389 := sh_s NB389_390; replace BK389 := sh_k BK389 hb; replace HB := sh_b (w := w) hb; have BK390 := Aside0.mk (hbox); clear hb hbox hg; have hnb4 := NB389_390.out; have hnc4 := NB390_389.out; have hcz5 := blk_all5 BK389.out; have hcz6 := blk_all5 BK390.out))
 refine bodyPost_ret (results_cell_row rfl _ _ gb390 26 #[.int .i64 a0_0, .int .i64 a0_1, .int .i64 a0_2, .bool a0_3, .bool a0_4] (0, 0) _ rfl bk_now Tryd.underlying26 rfl (by kernel_rfl)) rfl ?_
 exact ⟨ret_now, b_now⟩

/-! ### stockaderef02_Make: function 23 -/
mutual
def stockaderef02_Make.l0 : Nat → List (S65) → Int → Int → Int → Int → Bool → Bool → Int → Int → Int → Int → Int → Option (Int × Int × Int × Int × Int × Int)
 | 0, _, _, _, _, _, _, _, _, _, _, _, _ => none
 | k + 1, x6, x7, x392000, x392001, x392002, x392003, x392004, x393000, x393001, x393002, x393003, x393004 => if x7 < (x6.length : Int) then (if 0 ≤ x7 then (if (!(((rd_T65 x6 x7).f1.f0) == x392000) || (!(((rd_T65 x6 x7).f1.f1) == x392001) || (!(((rd_T65 x6 x7).f1.f2) == x392002) || (!(((rd_T65 x6 x7).f1.f3) == x392003) || (!(((rd_T65 x6 x7).f1.f4) == x392004)))))) = true then (stockaderef02_Make.l0 k x6 (wrap64 (x7 + 1)) x392000 x392001 x392002 x392003 x392004 x393000 x393001 x393002 x393003 x393004) else (if ((rd_T65 x6 x7).f5) = 4 then (stockaderef02_Make.j1 k x6 x7 ((rd_T65 x6 x7).f0) x393001 x393002 x393003 (wrap32 ((rd_T65 x6 x7).f6))) else (stockaderef02_Make.j1 k x6 x7 ((rd_T65 x6 x7).f0) x393001 x393002 x393003 x393004))) else (none)) else (some (0, 0, 0, 0, 0, 1))
def stockaderef02_Make.j1 : Nat → List (S65) → Int → Int → Int → Int → Int → Int → Option (Int × Int × Int × Int × Int × Int)
 | 0, _, _, _, _, _, _, _ => none
 | k + 1, x6, x7, x393000, x393001, x393002, x393003, x393004 => if 0 ≤ x7 then (if x7 < (x6.length : Int) then (if ((rd_T65 x6 x7).f3) = 4 then ((stockaderef02_Of.f k x393000 x393001 (((rd_T65 x6 x7).f6) % 256) x393003 x393004).bind fun bt403 => (if bt403.2.2.2.2.2 = 0 then (some (x393000, x393001, ((rd_T65 x6 x7).f6) % 256, x393003, x393004, 0)) else (some (0, 0, 0, 0, 0, bt403.2.2.2.2.2)))) else ((stockaderef02_Of.f k x393000 x393001 x393002 x393003 x393004).bind fun bt410 => (if bt410.2.2.2.2.2 = 0 then (some (x393000, x393001, x393002, x393003, x393004, 0)) else (some (0, 0, 0, 0, 0, bt410.2.2.2.2.2))))) else (none)) else (none)
end
def stockaderef02_Make.f (k : Nat) (a0_0 : Int) (a0_1 : Int) (a0_2 : Int) (a0_3 : Bool) (a0_4 : Bool) (a1_0 : Int) (a1_1 : Int) (a1_2 : Int) (a1_3 : Int) (a1_4 : Int) : Option (Int × Int × Int × Int × Int × Int) := (stockaderef02_Rows.f k).bind fun t394 => (stockaderef02_Make.l0 k t394 0 a0_0 a0_1 a0_2 a0_3 a0_4 a1_0 a1_1 a1_2 a1_3 a1_4)
theorem stockaderef02_Make.mono_l : ∀ k, (∀ y0 y1 y2 y3 y4 y5 y6 y7 y8 y9 y10 y11, LeO (stockaderef02_Make.l0 k y0 y1 y2 y3 y4 y5 y6 y7 y8 y9 y10 y11) (stockaderef02_Make.l0 (k + 1) y0 y1 y2 y3 y4 y5 y6 y7 y8 y9 y10 y11)) ∧ (∀ y0 y1 y2 y3 y4 y5 y6, LeO (stockaderef02_Make.j1 k y0 y1 y2 y3 y4 y5 y6) (stockaderef02_Make.j1 (k + 1) y0 y1 y2 y3 y4 y5 y6))
 | 0 => ⟨fun _ _ _ _ _ _ _ _ _ _ _ _ r h => by simp [stockaderef02_Make.l0] at h, fun _ _ _ _ _ _ _ r h => by simp [stockaderef02_Make.j1] at h⟩
 | k + 1 => by
  obtain ⟨ih0, ih1⟩ := stockaderef02_Make.mono_l k
  refine ⟨?_, ?_⟩
  ·intro y0 y1 y2 y3 y4 y5 y6 y7 y8 y9 y10 y11
   unfold stockaderef02_Make.l0
   repeat' first
   | (with_reducible exact ih0 _ _ _ _ _ _ _ _ _ _ _ _)
   | (with_reducible exact ih1 _ _ _ _ _ _ _)
   | (with_reducible exact stockaderef02_Of.mono _ _ _ _ _ _)
   | (with_reducible exact stockaderef02_Rows.mono _)
   | (with_reducible exact LeO.refl _)
   | (with_reducible exact LeO.none _)
   | (with_reducible refine LeO.ite ?_ ?_)
   | (with_reducible refine LeO.bind ?_ (fun _ => ?_))
   | exact ih0 _ _ _ _ _ _ _ _ _ _ _ _
   | exact ih1 _ _ _ _ _ _ _
   | exact stockaderef02_Of.mono _ _ _ _ _ _
   | exact stockaderef02_Rows.mono _
   | exact LeO.none _
   | refine LeO.ite ?_ ?_
   | refine LeO.bind ?_ (fun _ => ?_)
  ·intro y0 y1 y2 y3 y4 y5 y6
   unfold stockaderef02_Make.j1
   repeat' first
   | (with_reducible exact ih0 _ _ _ _ _ _ _ _ _ _ _ _)
   | (with_reducible exact ih1 _ _ _ _ _ _ _)
   | (with_reducible exact stockaderef02_Of.mono _ _ _ _ _ _)
   | (with_reducible exact stockaderef02_Rows.mono _)
   | (with_reducible exact LeO.refl _)
   | (with_reducible exact LeO.none _)
   | (with_reducible refine LeO.ite ?_ ?_)
   | (with_reducible refine LeO.bind ?_ (fun _ => ?_))
   | exact ih0 _ _ _ _ _ _ _ _ _ _ _ _
   | exact ih1 _ _ _ _ _ _ _
   | exact stockaderef02_Of.mono _ _ _ _ _ _
   | exact stockaderef02_Rows.mono _
   | exact LeO.none _
   | refine LeO.ite ?_ ?_
   | refine LeO.bind ?_ (fun _ => ?_)
theorem stockaderef02_Make.mono : ∀ a0 a1 a2 a3 a4 a5 a6 a7 a8 a9 k, LeO (stockaderef02_Make.f k a0 a1 a2 a3 a4 a5 a6 a7 a8 a9) (stockaderef02_Make.f (k + 1) a0 a1 a2 a3 a4 a5 a6 a7 a8 a9) := by
 intro a0 a1 a2 a3 a4 a5 a6 a7 a8 a9 k
 obtain ⟨ih0, ih1⟩ := stockaderef02_Make.mono_l k
 unfold stockaderef02_Make.f
 repeat' first
   | (with_reducible exact ih0 _ _ _ _ _ _ _ _ _ _ _ _)
   | (with_reducible exact ih1 _ _ _ _ _ _ _)
   | (with_reducible exact stockaderef02_Of.mono _ _ _ _ _ _)
   | (with_reducible exact stockaderef02_Rows.mono _)
   | (with_reducible exact LeO.refl _)
   | (with_reducible exact LeO.none _)
   | (with_reducible refine LeO.ite ?_ ?_)
   | (with_reducible refine LeO.bind ?_ (fun _ => ?_))
   | exact ih0 _ _ _ _ _ _ _ _ _ _ _ _
   | exact ih1 _ _ _ _ _ _ _
   | exact stockaderef02_Of.mono _ _ _ _ _ _
   | exact stockaderef02_Rows.mono _
   | exact LeO.none _
   | refine LeO.ite ?_ ?_
   | refine LeO.bind ?_ (fun _ => ?_)
set_option maxHeartbeats 8000000 in
set_option maxRecDepth 100000 in
theorem stockaderef02_Make.calls (k : Nat) (a0_0 : Int) (a0_1 : Int) (a0_2 : Int) (a0_3 : Bool) (a0_4 : Bool) (a1_0 : Int) (a1_1 : Int) (a1_2 : Int) (a1_3 : Int) (a1_4 : Int) (r1 : Int) (r2 : Int) (r3 : Int) (r4 : Int) (r5 : Int) (r6 : Int) (w : World) (h : stockaderef02_Make.f k a0_0 a0_1 a0_2 a0_3 a0_4 a1_0 a1_1 a1_2 a1_3 a1_4 = some (r1, r2, r3, r4, r5, r6)) :
  Calls Tryd.prog 23 #[.agg #[.int .i64 a0_0, .int .i64 a0_1, .int .i64 a0_2, .bool a0_3, .bool a0_4], .agg #[.int .u8 a1_0, .int .u8 a1_1, .int .u8 a1_2, .int .i16 a1_3, .int .i32 a1_4]] w fun e w' => e = .returned (.tuple #[.agg #[.int .u8 r1, .int .u8 r2, .int .u8 r3, .int .i16 r4, .int .i32 r5], .int .i64 r6]) ∧ Below w.heap.size w w' := by
 have hu30 := Tryd.underlying30
 have hu24 := Tryd.underlying24
 have HB := Aside0.mk (Below.refl w.heap.size w)
 have H : ((stockaderef02_Rows.f k).bind fun t394 => (stockaderef02_Make.l0 k t394 0 a0_0 a0_1 a0_2 a0_3 a0_4 a1_0 a1_1 a1_2 a1_3 a1_4)) = some (r1, r2, r3, r4, r5, r6) := h
 clear h
 replace H := Option.bind_eq_some_iff.mp H; obtain ⟨t394, A30, H⟩ := H; try dsimp only at H
 have A3 := Aside0.mk A30
 clear A30
 have H' := Aside0.mk H
 clear H
 go_enter Tryd.func23, Tryd.ntmps23
 go_wp2_with (first | ((with_reducible refine gate_dst (N := 2) rfl ?_); refine sh_box 2 #[.int .i64 a0_0, .int .i64 a0_1, .int .i64 a0_2, .bool a0_3, .bool a0_4] 30 ?_; intro gb391 hg w4 hbox hb; have GE391 := sh_z (w := w) hg; replace HB := sh_b (w := w) hb; have BK391 := Aside0.mk (hbox); clear hb hbox hg) | ((with_reducible refine gate_dst (N := 3) rfl ?_); refine sh_box 3 #[.int .u8 a1_0, .int .u8 a1_1, .int .u8 a1_2, .int .i16 a1_3, .int .i32 a1_4] 24 ?_; intro gb392 hg w5 hbox hb; have GE392 := sh_z (w := w) hg; have NB391_392 := sh_n BK391 hg; have NB392_391 := sh_s NB391_392; replace BK391 := sh_k BK391 hb; replace HB := sh_b (w := w) hb; have BK392 := Aside0.mk (hbox); clear hb hbox hg) | ((with_reducible refine gate_dst (N := 4) rfl ?_); refine sh_box 4 #[.int .u8 0, .int .u8 0, .int .u8 0, .int .i16 0, .int .i32 0] 24 ?_; intro gb393 hg w6 hbox hb; have GE393 := sh_z (w := w) hg; have NB391_393 := sh_n BK391 hg; have NB392_393 := sh_n BK392 hg; have NB393_391 := sh_s NB391_393; have NB393_392 := sh_s NB392_393; replace BK391 := sh_k BK391 hb; replace BK392 := sh_k BK392 hb; replace HB := sh_b (w := w) hb; have BK393 := Aside0.mk (hbox); clear hb hbox hg) | (go_at_call 34; (with_reducible refine (stockaderef02_Rows.calls k  t394 _ A3.out).mono ?_); rintro e w7 ⟨v395, rfl, ho0, hb⟩; have HO396 := Aside0.mk (Kd.R_lower ho0 (below_size b_now)); replace BK391 := sh_k BK391 hb; replace BK392 := sh_k BK392 hb; replace BK393 := sh_k BK393 hb; replace HB := sh_b (w := w) hb; (try clear hb); (try clear hb2); (try clear hk); (try clear hi); (try clear ho0)))
 repeat (go_quiet (first | ((with_reducible refine gate_dst (N := 2) rfl ?_); refine sh_box 2 #[.int .i64 a0_0, .int .i64 a0_1, .int .i64 a0_2, .bool a0_3, .bool a0_4] 30 ?_; intro gb391 hg w4 hbox hb; have GE391 := sh_z (w := w) hg; replace HB := sh_b (w := w) hb; have BK391 := Aside0.mk (hbox); clear hb hbox hg) | ((with_reducible refine gate_dst (N := 3) rfl ?_); refine sh_box 3 #[.int .u8 a1_0, .int .u8 a1_1, .int .u8 a1_2, .int .i16 a1_3, .int .i32 a1_4] 24 ?_; intro gb392 hg w5 hbox hb; have GE392 := sh_z (w := w) hg; have NB391_392 := sh_n BK391 hg; have NB392_391 := sh_s NB391_392; replace BK391 := sh_k BK391 hb; replace HB := sh_b (w := w) hb; have BK392 := Aside0.mk (hbox); clear hb hbox hg) | ((with_reducible refine gate_dst (N := 4) rfl ?_); refine sh_box 4 #[.int .u8 0, .int .u8 0, .int .u8 0, .int .i16 0, .int .i32 0] 24 ?_; intro gb393 hg w6 hbox hb; have GE393 := sh_z (w := w) hg; have NB391_393 := sh_n BK391 hg; have NB392_393 := sh_n BK392 hg; have NB393_391 := sh_s NB391_393; have NB393_392 := sh_s NB392_393; replace BK391 := sh_k BK391 hb; replace BK392 := sh_k BK392 hb; replace HB := sh_b (w := w) hb; have BK393 := Aside0.mk (hbox); clear hb hbox hg) | (go_at_call 34; (with_reducible refine (stockaderef02_Rows.calls k  t394 _ A3.out).mono ?_); rintro e w7 ⟨v395, rfl, ho0, hb⟩; have HO396 := Aside0.mk (Kd.R_lower ho0 (below_size b_now)); replace BK391 := sh_k BK391 hb; replace BK392 := sh_k BK392 hb; replace BK393 := sh_k BK393 hb; replace HB := sh_b (w := w) hb; (try clear hb); (try clear hb2); (try clear hk); (try clear hi); (try clear ho0))); try go_wp2_with (first | ((with_reducible refine gate_dst (N := 2) rfl ?_); refine sh_box 2 #[.int .i64 a0_0, .int .i64 a0_1, .int .i64 a0_2, .bool a0_3, .bool a0_4] 30 ?_; intro gb391 hg w4 hbox hb; have GE391 := sh_z (w := w) hg; replace HB := sh_b (w := w) hb; have BK391 := Aside0.mk (hbox); clear hb hbox hg) | ((with_reducible refine gate_dst (N := 3) rfl ?_); refine sh_box 3 #[.int .u8 a1_0, .int .u8 a1_1, .int .u8 a1_2, .int .i16 a1_3, .int .i32 a1_4] 24 ?_; intro gb392 hg w5 hbox hb; have GE392 := sh_z (w := w) hg; have NB391_392 := sh_n BK391 hg; have NB392_391 := sh_s NB391_392; replace BK391 := sh_k BK391 hb; replace HB := sh_b (w := w) hb; have BK392 := Aside0.mk (hbox); clear hb hbox hg) | ((with_reducible refine gate_dst (N := 4) rfl ?_); refine sh_box 4 #[.int .u8 0, .int .u8 0, .int .u8 0, .int .i16 0, .int .i32 0] 24 ?_; intro gb393 hg w6 hbox hb; have GE393 := sh_z (w := w) hg; have NB391_393 := sh_n BK391 hg; have NB392_393 := sh_n BK392 hg; have NB393_391 := sh_s NB391_393; have NB393_392 := sh_s NB392_393; replace BK391 := sh_k BK391 hb; replace BK392 := sh_k BK392 hb; replace HB := sh_b (w := w) hb; have BK393 := Aside0.mk (hbox); clear hb hbox hg) | (go_at_call 34; (with_reducible refine (stockaderef02_Rows.calls k  t394 _ A3.out).mono ?_); rintro e w7 ⟨v395, rfl, ho0, hb⟩; have HO396 := Aside0.mk (Kd.R_lower ho0 (below_size b_now)); replace BK391 := sh_k BK391 hb; replace BK392 := sh_k BK392 hb; replace BK393 := sh_k BK393 hb; replace HB := sh_b (w := w) hb; (try clear hb); (try clear hb2); (try clear hk); (try clear hi); (try clear ho0))))
 go_loopg [7] k (fun kq v7 w' => ∃ (x7_1 : Int) (x393000_1 : Int) (x393002_1 : Int) (x393004_1 : Int) (x394000_1 : Int) (x394001_1 : Int) (x394002_1 : Int) (x394003_1 : Int) (x394004_1 : Int), v7 = .int .i64 x7_1 ∧ Aside0 (stockaderef02_Make.l0 kq t394 x7_1 a0_0 a0_1 a0_2 a0_3 a0_4 x393000_1 a1_1 x393002_1 a1_3 x393004_1 = some (r1, r2, r3, r4, r5, r6)) ∧ Aside0 (kq ≤ k) ∧ Aside0 (Kd.R k65 65 w' w.heap.size (fun _ => True) v395 t394) ∧ Aside0 (w'.heap[gb391]? = some (.cells #[.int .i64 a0_0, .int .i64 a0_1, .int .i64 a0_2, .bool a0_3, .bool a0_4] 30 (0, 0))) ∧ Aside0 (w'.heap[gb392]? = some (.cells #[.int .u8 x393000_1, .int .u8 a1_1, .int .u8 x393002_1, .int .i16 a1_3, .int .i32 x393004_1] 24 (0, 0))) ∧ Aside0 (w'.heap[gb393]? = some (.cells #[.int .u8 x394000_1, .int .u8 x394001_1, .int .u8 x394002_1, .int .i16 x394003_1, .int .i32 x394004_1] 24 (0, 0))) ∧ Aside0 (Below w.heap.size w w'))
 case atStart => exact ⟨(0), (a1_0), (a1_2), (a1_4), (0), (0), (0), (0), (0), eq_now, H', ⟨Nat.le_refl _⟩, ⟨by (with_reducible repeat (first | apply Kd.R_alloc | apply Kd.R_drewN | apply Kd.R_drew)); exact HO396.out⟩, ⟨bk_now⟩, ⟨bk_now⟩, ⟨bk_now⟩, ⟨b_now⟩⟩
 case round =>
  clear H'
  try clear c2
  try clear p2
  obtain ⟨x7_1, x393000_1, x393002_1, x393004_1, x394000_1, x394001_1, x394002_1, x394003_1, x394004_1, rfl, HA, HK1, HO_6, BK391, BK392, BK393, HB⟩ := hrel
  cases gk with
  | zero => exact absurd HA.out (by simp [stockaderef02_Make.l0])
  | succ k1 =>
   have H := HA.out
   clear HA
   simp only [stockaderef02_Make.l0] at H
   by_cases c8 : x7_1 < (t394.length : Int)
   ·rw [if_pos c8] at H
    have c8b0 : decide (x7_1 < (t394.length : Int)) = true := decide_eq_true c8
    clear c8
    by_cases c9 : 0 ≤ x7_1
    ·rw [if_pos c9] at H
     have c9b0 : decide (0 ≤ x7_1) = true := decide_eq_true c9
     clear c9
     by_cases c10 : (!(((rd_T65 t394 x7_1).f1.f0) == a0_0) || (!(((rd_T65 t394 x7_1).f1.f1) == a0_1) || (!(((rd_T65 t394 x7_1).f1.f2) == a0_2) || (!(((rd_T65 t394 x7_1).f1.f3) == a0_3) || (!(((rd_T65 t394 x7_1).f1.f4) == a0_4)))))) = true
     ·rw [if_pos c10] at H
      have c10b0 : (!(((rd_T65 t394 x7_1).f1.f0) == a0_0) || (!(((rd_T65 t394 x7_1).f1.f1) == a0_1) || (!(((rd_T65 t394 x7_1).f1.f2) == a0_2) || (!(((rd_T65 t394 x7_1).f1.f3) == a0_3) || (!(((rd_T65 t394 x7_1).f1.f4) == a0_4)))))) = true := c10
      clear c10
      have H' := Aside0.mk H
      clear H
      obtain ⟨Ao11, co11, eo11⟩ := Kd.R_slice HO_6.out
      subst eo11
      have p397 : 0 ≤ (x7_1 : Int) := of_decide_eq_true (by first | (with_reducible assumption) | assumption)
      have q397 : x7_1 < (t394.length : Int) := of_decide_eq_true (by first | (with_reducible assumption) | assumption)
      obtain ⟨ad397, e397, hx397_0, hx397_1, hx397_2, hx397_3, hx397_4, hx397_5, hx397_6, hx397_7, hx397_8, hx397_9, hx397_10⟩ := at_T65 (Kd.R_reads' HO_6.out).2.2 x7_1 p397 q397
      cases e397
      replace p397 := eq_true p397
      replace q397 := eq_true q397
      have hnb12 := NB391_392.out
      have hnc12 := NB392_391.out
      have hnb13 := NB391_393.out
      have hnc13 := NB393_391.out
      have hcz14 := blk_all5 BK391.out
      go_wp2
      repeat (go_quiet (fail); try go_wp2)
      go_roundg k1
      case measure => have := HK1.out; omega
      case rel => exact ⟨(wrap64 (x7_1 + 1)), (x393000_1), (x393002_1), (x393004_1), (x394000_1), (x394001_1), (x394002_1), (x394003_1), (x394004_1), eq_now, H', ⟨by have := HK1.out; omega⟩, ⟨by (with_reducible repeat (first | apply Kd.R_alloc | apply Kd.R_drewN | apply Kd.R_drew)); exact HO_6.out⟩, ⟨bk_now⟩, ⟨bk_now⟩, ⟨bk_now⟩, ⟨b_now⟩⟩
     ·rw [if_neg c10] at H
      have c10b0 : (!(((rd_T65 t394 x7_1).f1.f0) == a0_0) || (!(((rd_T65 t394 x7_1).f1.f1) == a0_1) || (!(((rd_T65 t394 x7_1).f1.f2) == a0_2) || (!(((rd_T65 t394 x7_1).f1.f3) == a0_3) || (!(((rd_T65 t394 x7_1).f1.f4) == a0_4)))))) = false := by simpa using c10
      clear c10
      have HC15 := Aside0.mk H
      clear H
      obtain ⟨Ao16, co16, eo16⟩ := Kd.R_slice HO_6.out
      subst eo16
      have p397 : 0 ≤ (x7_1 : Int) := of_decide_eq_true (by first | (with_reducible assumption) | assumption)
      have q397 : x7_1 < (t394.length : Int) := of_decide_eq_true (by first | (with_reducible assumption) | assumption)
      obtain ⟨ad397, e397, hx397_0, hx397_1, hx397_2, hx397_3, hx397_4, hx397_5, hx397_6, hx397_7, hx397_8, hx397_9, hx397_10⟩ := at_T65 (Kd.R_reads' HO_6.out).2.2 x7_1 p397 q397
      cases e397
      replace p397 := eq_true p397
      replace q397 := eq_true q397
      have hnb17 := NB391_392.out
      have hnc17 := NB392_391.out
      have hnb18 := NB391_393.out
      have hnc18 := NB393_391.out
      have hcz19 := blk_all5 BK391.out
      have p398 : 0 ≤ (x7_1 : Int) := of_decide_eq_true (by first | (with_reducible assumption) | assumption)
      have q398 : x7_1 < (t394.length : Int) := of_decide_eq_true (by first | (with_reducible assumption) | assumption)
      obtain ⟨ad398, e398, hx398_0, hx398_1, hx398_2, hx398_3, hx398_4, hx398_5, hx398_6, hx398_7, hx398_8, hx398_9, hx398_10⟩ := at_T65 (Kd.R_reads' HO_6.out).2.2 x7_1 p398 q398
      obtain rfl : ad397 = ad398 := (by injection e398)
      replace p398 := eq_true p398
      replace q398 := eq_true q398
      have hnb20 := NB392_393.out
      have hnc20 := NB393_392.out
      have hcz21 := blk_all5 BK392.out
      have p399 : 0 ≤ (x7_1 : Int) := of_decide_eq_true (by first | (with_reducible assumption) | assumption)
      have q399 : x7_1 < (t394.length : Int) := of_decide_eq_true (by first | (with_reducible assumption) | assumption)
      obtain ⟨ad399, e399, hx399_0, hx399_1, hx399_2, hx399_3, hx399_4, hx399_5, hx399_6, hx399_7, hx399_8, hx399_9, hx399_10⟩ := at_T65 (Kd.R_reads' HO_6.out).2.2 x7_1 p399 q399
      obtain rfl : ad397 = ad399 := (by injection e399)
      have hn399_0 : ad397.block ≠ gb392 := Kd.own_blk (Kd.R_ne HO_6.out BK392.out (by decide))
      replace hx399_0 := (cell_far (p := ⟨gb392, 0, none⟩) (by first | (rw [add_block]; exact hn399_0) | (show (Addr.add _ _).block ≠ _; rw [add_block]; exact hn399_0) | exact hn399_0) (.int .u8 ((rd_T65 t394 x7_1).f0))).trans hx399_0
      replace hx399_1 := (cell_far (p := ⟨gb392, 0, none⟩) (by first | (rw [add_block]; exact hn399_0) | (show (Addr.add _ _).block ≠ _; rw [add_block]; exact hn399_0) | exact hn399_0) (.int .u8 ((rd_T65 t394 x7_1).f0))).trans hx399_1
      replace hx399_2 := (cell_far (p := ⟨gb392, 0, none⟩) (by first | (rw [add_block]; exact hn399_0) | (show (Addr.add _ _).block ≠ _; rw [add_block]; exact hn399_0) | exact hn399_0) (.int .u8 ((rd_T65 t394 x7_1).f0))).trans hx399_2
      replace hx399_3 := (cell_far (p := ⟨gb392, 0, none⟩) (by first | (rw [add_block]; exact hn399_0) | (show (Addr.add _ _).block ≠ _; rw [add_block]; exact hn399_0) | exact hn399_0) (.int .u8 ((rd_T65 t394 x7_1).f0))).trans hx399_3
      replace hx399_4 := (cell_far (p := ⟨gb392, 0, none⟩) (by first | (rw [add_block]; exact hn399_0) | (show (Addr.add _ _).block ≠ _; rw [add_block]; exact hn399_0) | exact hn399_0) (.int .u8 ((rd_T65 t394 x7_1).f0))).trans hx399_4
      replace hx399_5 := (cell_far (p := ⟨gb392, 0, none⟩) (by first | (rw [add_block]; exact hn399_0) | (show (Addr.add _ _).block ≠ _; rw [add_block]; exact hn399_0) | exact hn399_0) (.int .u8 ((rd_T65 t394 x7_1).f0))).trans hx399_5
      replace hx399_6 := (cell_far (p := ⟨gb392, 0, none⟩) (by first | (rw [add_block]; exact hn399_0) | (show (Addr.add _ _).block ≠ _; rw [add_block]; exact hn399_0) | exact hn399_0) (.int .u8 ((rd_T65 t394 x7_1).f0))).trans hx399_6
      replace hx399_7 := (cell_far (p := ⟨gb392, 0, none⟩) (by first | (rw [add_block]; exact hn399_0) | (show (Addr.add _ _).block ≠ _; rw [add_block]; exact hn399_0) | exact hn399_0) (.int .u8 ((rd_T65 t394 x7_1).f0))).trans hx399_7
      replace hx399_8 := (cell_far (p := ⟨gb392, 0, none⟩) (by first | (rw [add_block]; exact hn399_0) | (show (Addr.add _ _).block ≠ _; rw [add_block]; exact hn399_0) | exact hn399_0) (.int .u8 ((rd_T65 t394 x7_1).f0))).trans hx399_8
      replace hx399_9 := (cell_far (p := ⟨gb392, 0, none⟩) (by first | (rw [add_block]; exact hn399_0) | (show (Addr.add _ _).block ≠ _; rw [add_block]; exact hn399_0) | exact hn399_0) (.int .u8 ((rd_T65 t394 x7_1).f0))).trans hx399_9
      replace hx399_10 := (cell_far (p := ⟨gb392, 0, none⟩) (by first | (rw [add_block]; exact hn399_0) | (show (Addr.add _ _).block ≠ _; rw [add_block]; exact hn399_0) | exact hn399_0) (.int .u8 ((rd_T65 t394 x7_1).f0))).trans hx399_10
      (try have hy399_0 := fun (n_ : Nat) => (show (((wr.drewN n_).setCell ⟨gb392, 0, none⟩ (.int .u8 ((rd_T65 t394 x7_1).f0)))).cell? _ = some _ from hx399_0))
      (try have hy399_1 := fun (n_ : Nat) => (show (((wr.drewN n_).setCell ⟨gb392, 0, none⟩ (.int .u8 ((rd_T65 t394 x7_1).f0)))).cell? _ = some _ from hx399_1))
      (try have hy399_2 := fun (n_ : Nat) => (show (((wr.drewN n_).setCell ⟨gb392, 0, none⟩ (.int .u8 ((rd_T65 t394 x7_1).f0)))).cell? _ = some _ from hx399_2))
      (try have hy399_3 := fun (n_ : Nat) => (show (((wr.drewN n_).setCell ⟨gb392, 0, none⟩ (.int .u8 ((rd_T65 t394 x7_1).f0)))).cell? _ = some _ from hx399_3))
      (try have hy399_4 := fun (n_ : Nat) => (show (((wr.drewN n_).setCell ⟨gb392, 0, none⟩ (.int .u8 ((rd_T65 t394 x7_1).f0)))).cell? _ = some _ from hx399_4))
      (try have hy399_5 := fun (n_ : Nat) => (show (((wr.drewN n_).setCell ⟨gb392, 0, none⟩ (.int .u8 ((rd_T65 t394 x7_1).f0)))).cell? _ = some _ from hx399_5))
      (try have hy399_6 := fun (n_ : Nat) => (show (((wr.drewN n_).setCell ⟨gb392, 0, none⟩ (.int .u8 ((rd_T65 t394 x7_1).f0)))).cell? _ = some _ from hx399_6))
      (try have hy399_7 := fun (n_ : Nat) => (show (((wr.drewN n_).setCell ⟨gb392, 0, none⟩ (.int .u8 ((rd_T65 t394 x7_1).f0)))).cell? _ = some _ from hx399_7))
      (try have hy399_8 := fun (n_ : Nat) => (show (((wr.drewN n_).setCell ⟨gb392, 0, none⟩ (.int .u8 ((rd_T65 t394 x7_1).f0)))).cell? _ = some _ from hx399_8))
      (try have hy399_9 := fun (n_ : Nat) => (show (((wr.drewN n_).setCell ⟨gb392, 0, none⟩ (.int .u8 ((rd_T65 t394 x7_1).f0)))).cell? _ = some _ from hx399_9))
      (try have hy399_10 := fun (n_ : Nat) => (show (((wr.drewN n_).setCell ⟨gb392, 0, none⟩ (.int .u8 ((rd_T65 t394 x7_1).f0)))).cell? _ = some _ from hx399_10))
      clear hn399_0
      replace p399 := eq_true p399
      replace q399 := eq_true q399
      go_upto_if 35 with (fail)
      repeat (go_quiet (fail); go_upto_if 35 with (fail))
      go_cut [] (fun wc => ∃ (kq : Nat) (x393004_14 : Int), Aside0 (stockaderef02_Make.j1 kq t394 x7_1 ((rd_T65 t394 x7_1).f0) a1_1 x393002_1 a1_3 x393004_14 = some (r1, r2, r3, r4, r5, r6)) ∧ Aside0 (kq ≤ k1) ∧ Aside0 (Kd.R k65 65 wc w.heap.size (fun _ => True) (.slice (some ad397) t394.length co16) t394) ∧ Aside0 (wc.heap[gb391]? = some (.cells #[.int .i64 a0_0, .int .i64 a0_1, .int .i64 a0_2, .bool a0_3, .bool a0_4] 30 (0, 0))) ∧ Aside0 (wc.heap[gb392]? = some (.cells #[.int .u8 ((rd_T65 t394 x7_1).f0), .int .u8 a1_1, .int .u8 x393002_1, .int .i16 a1_3, .int .i32 x393004_14] 24 (0, 0))) ∧ Aside0 (wc.heap[gb393]? = some (.cells #[.int .u8 x394000_1, .int .u8 x394001_1, .int .u8 x394002_1, .int .i16 x394003_1, .int .i32 x394004_1] 24 (0, 0))) ∧ Aside0 (Below w.heap.size w wc))
      case first =>
       have H := HC15.out
       clear HC15
       by_cases c22 : ((rd_T65 t394 x7_1).f5) = 4
       ·rw [if_pos c22] at H
        have c22b0 : (((rd_T65 t394 x7_1).f5) == 4) = true := beq_iff_eq.mpr c22
        have c22b1 : (((rd_T65 t394 x7_1).f5) != 4) = false := bne_eq_false_iff_eq.mpr c22
        clear c22
        (first | rw [c22b0] | (simp only [i64_w, i32_w]; rw [c22b0]) | skip)
        have H' := Aside0.mk H
        clear H
        have p400 : 0 ≤ (x7_1 : Int) := of_decide_eq_true (by first | (with_reducible assumption) | assumption)
        have q400 : x7_1 < (t394.length : Int) := of_decide_eq_true (by first | (with_reducible assumption) | assumption)
        obtain ⟨ad400, e400, hx400_0, hx400_1, hx400_2, hx400_3, hx400_4, hx400_5, hx400_6, hx400_7, hx400_8, hx400_9, hx400_10⟩ := at_T65 (Kd.R_reads' HO_6.out).2.2 x7_1 p400 q400
        obtain rfl : ad397 = ad400 := (by injection e400)
        have hn400_0 : ad397.block ≠ gb392 := Kd.own_blk (Kd.R_ne HO_6.out BK392.out (by decide))
        replace hx400_0 := (cell_far (p := ⟨gb392, 0, none⟩) (by first | (rw [add_block]; exact hn400_0) | (show (Addr.add _ _).block ≠ _; rw [add_block]; exact hn400_0) | exact hn400_0) (.int .u8 ((rd_T65 t394 x7_1).f0))).trans hx400_0
        replace hx400_1 := (cell_far (p := ⟨gb392, 0, none⟩) (by first | (rw [add_block]; exact hn400_0) | (show (Addr.add _ _).block ≠ _; rw [add_block]; exact hn400_0) | exact hn400_0) (.int .u8 ((rd_T65 t394 x7_1).f0))).trans hx400_1
        replace hx400_2 := (cell_far (p := ⟨gb392, 0, none⟩) (by first | (rw [add_block]; exact hn400_0) | (show (Addr.add _ _).block ≠ _; rw [add_block]; exact hn400_0) | exact hn400_0) (.int .u8 ((rd_T65 t394 x7_1).f0))).trans hx400_2
        replace hx400_3 := (cell_far (p := ⟨gb392, 0, none⟩) (by first | (rw [add_block]; exact hn400_0) | (show (Addr.add _ _).block ≠ _; rw [add_block]; exact hn400_0) | exact hn400_0) (.int .u8 ((rd_T65 t394 x7_1).f0))).trans hx400_3
        replace hx400_4 := (cell_far (p := ⟨gb392, 0, none⟩) (by first | (rw [add_block]; exact hn400_0) | (show (Addr.add _ _).block ≠ _; rw [add_block]; exact hn400_0) | exact hn400_0) (.int .u8 ((rd_T65 t394 x7_1).f0))).trans hx400_4
        replace hx400_5 := (cell_far (p := ⟨gb392, 0, none⟩) (by first | (rw [add_block]; exact hn400_0) | (show (Addr.add _ _).block ≠ _; rw [add_block]; exact hn400_0) | exact hn400_0) (.int .u8 ((rd_T65 t394 x7_1).f0))).trans hx400_5
        replace hx400_6 := (cell_far (p := ⟨gb392, 0, none⟩) (by first | (rw [add_block]; exact hn400_0) | (show (Addr.add _ _).block ≠ _; rw [add_block]; exact hn400_0) | exact hn400_0) (.int .u8 ((rd_T65 t394 x7_1).f0))).trans hx400_6
        replace hx400_7 := (cell_far (p := ⟨gb392, 0, none⟩) (by first | (rw [add_block]; exact hn400_0) | (show (Addr.add _ _).block ≠ _; rw [add_block]; exact hn400_0) | exact hn400_0) (.int .u8 ((rd_T65 t394 x7_1).f0))).trans hx400_7
        replace hx400_8 := (cell_far (p := ⟨gb392, 0, none⟩) (by first | (rw [add_block]; exact hn400_0) | (show (Addr.add _ _).block ≠ _; rw [add_block]; exact hn400_0) | exact hn400_0) (.int .u8 ((rd_T65 t394 x7_1).f0))).trans hx400_8
        replace hx400_9 := (cell_far (p := ⟨gb392, 0, none⟩) (by first | (rw [add_block]; exact hn400_0) | (show (Addr.add _ _).block ≠ _; rw [add_block]; exact hn400_0) | exact hn400_0) (.int .u8 ((rd_T65 t394 x7_1).f0))).trans hx400_9
        replace hx400_10 := (cell_far (p := ⟨gb392, 0, none⟩) (by first | (rw [add_block]; exact hn400_0) | (show (Addr.add _ _).block ≠ _; rw [add_block]; exact hn400_0) | exact hn400_0) (.int .u8 ((rd_T65 t394 x7_1).f0))).trans hx400_10
        (try have hy400_0 := fun (n_ : Nat) => (show (((wr.drewN n_).setCell ⟨gb392, 0, none⟩ (.int .u8 ((rd_T65 t394 x7_1).f0)))).cell? _ = some _ from hx400_0))
        (try have hy400_1 := fun (n_ : Nat) => (show (((wr.drewN n_).setCell ⟨gb392, 0, none⟩ (.int .u8 ((rd_T65 t394 x7_1).f0)))).cell? _ = some _ from hx400_1))
        (try have hy400_2 := fun (n_ : Nat) => (show (((wr.drewN n_).setCell ⟨gb392, 0, none⟩ (.int .u8 ((rd_T65 t394 x7_1).f0)))).cell? _ = some _ from hx400_2))
        (try have hy400_3 := fun (n_ : Nat) => (show (((wr.drewN n_).setCell ⟨gb392, 0, none⟩ (.int .u8 ((rd_T65 t394 x7_1).f0)))).cell? _ = some _ from hx400_3))
        (try have hy400_4 := fun (n_ : Nat) => (show (((wr.drewN n_).setCell ⟨gb392, 0, none⟩ (.int .u8 ((rd_T65 t394 x7_1).f0)))).cell? _ = some _ from hx400_4))
        (try have hy400_5 := fun (n_ : Nat) => (show (((wr.drewN n_).setCell ⟨gb392, 0, none⟩ (.int .u8 ((rd_T65 t394 x7_1).f0)))).cell? _ = some _ from hx400_5))
        (try have hy400_6 := fun (n_ : Nat) => (show (((wr.drewN n_).setCell ⟨gb392, 0, none⟩ (.int .u8 ((rd_T65 t394 x7_1).f0)))).cell? _ = some _ from hx400_6))
        (try have hy400_7 := fun (n_ : Nat) => (show (((wr.drewN n_).setCell ⟨gb392, 0, none⟩ (.int .u8 ((rd_T65 t394 x7_1).f0)))).cell? _ = some _ from hx400_7))
        (try have hy400_8 := fun (n_ : Nat) => (show (((wr.drewN n_).setCell ⟨gb392, 0, none⟩ (.int .u8 ((rd_T65 t394 x7_1).f0)))).cell? _ = some _ from hx400_8))
        (try have hy400_9 := fun (n_ : Nat) => (show (((wr.drewN n_).setCell ⟨gb392, 0, none⟩ (.int .u8 ((rd_T65 t394 x7_1).f0)))).cell? _ = some _ from hx400_9))
        (try have hy400_10 := fun (n_ : Nat) => (show (((wr.drewN n_).setCell ⟨gb392, 0, none⟩ (.int .u8 ((rd_T65 t394 x7_1).f0)))).cell? _ = some _ from hx400_10))
        clear hn400_0
        replace p400 := eq_true p400
        replace q400 := eq_true q400
        have hnb23 := NB392_391.out
        have hnc23 := NB391_392.out
        have hnb24 := NB392_393.out
        have hnc24 := NB393_392.out
        have hcz25 := blk_all5 BK392.out
        go_wp2
        repeat (go_quiet (fail); try go_wp2)
        go_meet
        case rel => exact ⟨_, (wrap32 ((rd_T65 t394 x7_1).f6)), H', ⟨by have := HK1.out; first | omega | exact Nat.le_refl _⟩, ⟨by (with_reducible repeat (first | apply Kd.R_alloc | apply Kd.R_drewN | apply Kd.R_drew)); exact Kd.R_mono (Kd.R_far (p := ⟨gb392, 4, none⟩) (Kd.R_far (p := ⟨gb392, 0, none⟩) (Kd.R_types HO_6.out BK392.out (by decide)) (fun _ hk => hk.2) (.int .u8 ((rd_T65 t394 x7_1).f0))) (fun _ hk => hk.2) (.int .i32 (wrap32 ((rd_T65 t394 x7_1).f6)))) (fun _ hk => trivial)⟩, ⟨bk_now⟩, ⟨bk_now⟩, ⟨bk_now⟩, ⟨b_now⟩⟩
       ·rw [if_neg c22] at H
        have c22b0 : (((rd_T65 t394 x7_1).f5) == 4) = false := beq_eq_false_iff_ne.mpr c22
        have c22b1 : (((rd_T65 t394 x7_1).f5) != 4) = true := bne_iff_ne.mpr c22
        (first | rw [c22b0] | (simp only [i64_w, i32_w]; rw [c22b0]) | skip)
        have H' := Aside0.mk H
        clear H
        go_wp2
        repeat (go_quiet (fail); try go_wp2)
        go_meet
        case rel => exact ⟨_, (x393004_1), H', ⟨by have := HK1.out; first | omega | exact Nat.le_refl _⟩, ⟨by (with_reducible repeat (first | apply Kd.R_alloc | apply Kd.R_drewN | apply Kd.R_drew)); exact Kd.R_mono (Kd.R_far (p := ⟨gb392, 0, none⟩) (Kd.R_types HO_6.out BK392.out (by decide)) (fun _ hk => hk.2) (.int .u8 ((rd_T65 t394 x7_1).f0))) (fun _ hk => trivial)⟩, ⟨bk_now⟩, ⟨bk_now⟩, ⟨bk_now⟩, ⟨b_now⟩⟩
      case rest =>
       clear HC15
       try clear c1
       try clear c2
       try clear p2
       try clear p3
       try clear q3
       try clear hx3
       try clear p4
       try clear q4
       try clear hx4
       try clear p6
       try clear c8
       try clear c8b0
       try clear c9
       try clear c9b0
       try clear c10
       try clear c10b0
       try clear c12
       try clear c13
       try clear c17
       try clear c18
       try clear c20
       try clear c22
       try clear c22b0
       try clear c22b1
       try clear c23
       try clear c24
       try clear hcz14
       try clear hcz19
       try clear hcz21
       try clear hcz25
       try clear hx397_0
       try clear hx397_1
       try clear hx397_10
       try clear hx397_2
       try clear hx397_3
       try clear hx397_4
       try clear hx397_5
       try clear hx397_6
       try clear hx397_7
       try clear hx397_8
       try clear hx397_9
       try clear hx398_0
       try clear hx398_1
       try clear hx398_10
       try clear hx398_2
       try clear hx398_3
       try clear hx398_4
       try clear hx398_5
       try clear hx398_6
       try clear hx398_7
       try clear hx398_8
       try clear hx398_9
       try clear hx399_0
       try clear hx399_1
       try clear hx399_10
       try clear hx399_2
       try clear hx399_3
       try clear hx399_4
       try clear hx399_5
       try clear hx399_6
       try clear hx399_7
       try clear hx399_8
       try clear hx399_9
       try clear hx400_0
       try clear hx400_1
       try clear hx400_10
       try clear hx400_2
       try clear hx400_3
       try clear hx400_4
       try clear hx400_5
       try clear hx400_6
       try clear hx400_7
       try clear hx400_8
       try clear hx400_9
       try clear p2
       try clear p397
       try clear p398
       try clear p399
       try clear p400
       try clear q397
       try clear q398
       try clear q399
       try clear q400
       obtain ⟨kq, x393004_14, HA, HJ14, HO_6, BK391, BK392, BK393, HB⟩ := hcut
       cases kq with
       | zero => exact absurd HA.out (by simp [stockaderef02_Make.j1])
       | succ kj14 =>
        have H := HA.out
        clear HA
        simp only [stockaderef02_Make.j1] at H
        by_cases c26 : 0 ≤ x7_1
        ·rw [if_pos c26] at H
         have c26b0 : decide (0 ≤ x7_1) = true := decide_eq_true c26
         clear c26
         by_cases c27 : x7_1 < (t394.length : Int)
         ·rw [if_pos c27] at H
          have c27b0 : decide (x7_1 < (t394.length : Int)) = true := decide_eq_true c27
          clear c27
          by_cases c28 : ((rd_T65 t394 x7_1).f3) = 4
          ·rw [if_pos c28] at H
           have c28b0 : (((rd_T65 t394 x7_1).f3) == 4) = true := beq_iff_eq.mpr c28
           have c28b1 : (((rd_T65 t394 x7_1).f3) != 4) = false := bne_eq_false_iff_eq.mpr c28
           clear c28
           replace H := Option.bind_eq_some_iff.mp H; obtain ⟨⟨t403, t404, t405, t406, t407, t408⟩, A290, H⟩ := H; try dsimp only at H
           have A29 := Aside0.mk A290
           clear A290
           by_cases c30 : t408 = 0
           ·rw [if_pos c30] at H
            have c30b0 : (t408 == 0) = true := beq_iff_eq.mpr c30
            have c30b1 : (t408 != 0) = false := bne_eq_false_iff_eq.mpr c30
            clear c30
            simp only [Option.some.injEq, Prod.mk.injEq] at H
            obtain ⟨rfl, rfl, rfl, rfl, rfl, rfl⟩ := H
            have p401 : 0 ≤ (x7_1 : Int) := of_decide_eq_true (by first | (with_reducible assumption) | assumption)
            have q401 : x7_1 < (t394.length : Int) := of_decide_eq_true (by first | (with_reducible assumption) | assumption)
            obtain ⟨ad401, e401, hx401_0, hx401_1, hx401_2, hx401_3, hx401_4, hx401_5, hx401_6, hx401_7, hx401_8, hx401_9, hx401_10⟩ := at_T65 (Kd.R_reads' HO_6.out).2.2 x7_1 p401 q401
            obtain rfl : ad397 = ad401 := (by injection e401)
            replace p401 := eq_true p401
            replace q401 := eq_true q401
            have p402 : 0 ≤ (x7_1 : Int) := of_decide_eq_true (by first | (with_reducible assumption) | assumption)
            have q402 : x7_1 < (t394.length : Int) := of_decide_eq_true (by first | (with_reducible assumption) | assumption)
            obtain ⟨ad402, e402, hx402_0, hx402_1, hx402_2, hx402_3, hx402_4, hx402_5, hx402_6, hx402_7, hx402_8, hx402_9, hx402_10⟩ := at_T65 (Kd.R_reads' HO_6.out).2.2 x7_1 p402 q402
            obtain rfl : ad397 = ad402 := (by injection e402)
            replace p402 := eq_true p402
            replace q402 := eq_true q402
            have hnb31 := NB392_391.out
            have hnc31 := NB391_392.out
            have hnb32 := NB392_393.out
            have hnc32 := NB393_392.out
            have hcz33 := blk_all5 BK392.out
            go_wp2_with (first | (go_at_call 13; (with_reducible refine (stockaderef02_Of.calls kj14 ((rd_T65 t394 x7_1).f0) a1_1 (((rd_T65 t394 x7_1).f6) % 256) a1_3 x393004_14 t403 t404 t405 t406 t407 t408 _ A29.out).mono ?_); rintro e w34 ⟨rfl, hb⟩; replace HO_6 := Aside0.mk (Kd.R_below (by (with_reducible repeat (first | apply Kd.R_alloc | apply Kd.R_drewN | apply Kd.R_drew)); exact (Kd.R_mono (Kd.R_far (p := ⟨gb392, 2, none⟩) (Kd.R_types HO_6.out BK392.out (by decide)) (fun _ hk => hk.2) (.int .u8 (((rd_T65 t394 x7_1).f6) % 256))) (fun _ h_ => h_.1))) hb); replace BK391 := sh_kp (g := gb391) (t := 30) #[.int .i64 a0_0, .int .i64 a0_1, .int .i64 a0_2, .bool a0_3, .bool a0_4] hb; replace BK392 := sh_kp (g := gb392) (t := 24) #[.int .u8 ((rd_T65 t394 x7_1).f0), .int .u8 a1_1, .int .u8 (((rd_T65 t394 x7_1).f6) % 256), .int .i16 a1_3, .int .i32 x393004_14] hb; replace BK393 := sh_kp (g := gb393) (t := 24) #[.int .u8 x394000_1, .int .u8 x394001_1, .int .u8 x394002_1, .int .i16 x394003_1, .int .i32 x394004_1] hb; replace HB := sh_b (w := w) hb; (try clear hb); (try clear hb2); (try clear hk); (try clear hi)) | ((with_reducible refine gate_dst (N := 8) rfl ?_); refine sh_box 8 #[.int .i64 0, .int .i64 0, .int .i64 0, .bool false, .bool false] 30 ?_; intro gb409 hg w35 hbox hb; have GE409 := sh_z (w := w) hg; have NB391_409 := sh_n BK391 hg; have NB392_409 := sh_n BK392 hg; have NB393_409 := sh_n BK393 hg; have NB409_391 := sh_s NB391_409; have NB409_392 := sh_s NB392_409; have NB409_393 := sh_s NB393_409; replace HO_6 := Aside0.mk (Kd.R_below (by (with_reducible repeat (first | apply Kd.R_alloc | apply Kd.R_drewN | apply Kd.R_drew)); exact HO_6.out) hb); replace BK391 := sh_k BK391 hb; replace BK392 := sh_k BK392 hb; replace BK393 := sh_k BK393 hb; replace HB := sh_b (w := w) hb; have BK409 := Aside0.mk (hbox); clear hb hbox hg; have hnb36 := NB409_391.out; have hnc36 := NB391_409.out; have hnb37 := NB409_392.out; have hnc37 := NB392_409.out; have hnb38 := NB409_393.out; have hnc38 := NB393_409.out; have hcz39 := blk_all5 BK409.out; have hcz40 := blk_all5 BK392.out; have hnb41 := NB393_391.out; have hnc41 := NB391_393.out; have hcz42 := blk_all5 BK393.out))
            repeat (go_quiet (first | (go_at_call 13; (with_reducible refine (stockaderef02_Of.calls kj14 ((rd_T65 t394 x7_1).f0) a1_1 (((rd_T65 t394 x7_1).f6) % 256) a1_3 x393004_14 t403 t404 t405 t406 t407 t408 _ A29.out).mono ?_); rintro e w34 ⟨rfl, hb⟩; replace HO_6 := Aside0.mk (Kd.R_below (by (with_reducible repeat (first | apply Kd.R_alloc | apply Kd.R_drewN | apply Kd.R_drew)); exact (Kd.R_mono (Kd.R_far (p := ⟨gb392, 2, none⟩) (Kd.R_types HO_6.out BK392.out (by decide)) (fun _ hk => hk.2) (.int .u8 (((rd_T65 t394 x7_1).f6) % 256))) (fun _ h_ => h_.1))) hb); replace BK391 := sh_kp (g := gb391) (t := 30) #[.int .i64 a0_0, .int .i64 a0_1, .int .i64 a0_2, .bool a0_3, .bool a0_4] hb; replace BK392 := sh_kp (g := gb392) (t := 24) #[.int .u8 ((rd_T65 t394 x7_1).f0), .int .u8 a1_1, .int .u8 (((rd_T65 t394 x7_1).f6) % 256), .int .i16 a1_3, .int .i32 x393004_14] hb; replace BK393 := sh_kp (g := gb393) (t := 24) #[.int .u8 x394000_1, .int .u8 x394001_1, .int .u8 x394002_1, .int .i16 x394003_1, .int .i32 x394004_1] hb; replace HB := sh_b (w := w) hb; (try clear hb); (try clear hb2); (try clear hk); (try clear hi)) | ((with_reducible refine gate_dst (N := 8) rfl ?_); refine sh_box 8 #[.int .i64 0, .int .i64 0, .int .i64 0, .bool false, .bool false] 30 ?_; intro gb409 hg w35 hbox hb; have GE409 := sh_z (w := w) hg; have NB391_409 := sh_n BK391 hg; have NB392_409 := sh_n BK392 hg; have NB393_409 := sh_n BK393 hg; have NB409_391 := sh_s NB391_409; have NB409_392 := sh_s NB392_409; have NB409_393 := sh_s NB393_409; replace HO_6 := Aside0.mk (Kd.R_below (by (with_reducible repeat (first | apply Kd.R_alloc | apply Kd.R_drewN | apply Kd.R_drew)); exact HO_6.out) hb); replace BK391 := sh_k BK391 hb; replace BK392 := sh_k BK392 hb; replace BK393 := sh_k BK393 hb; replace HB := sh_b (w := w) hb; have BK409 := Aside0.mk (hbox); clear hb hbox hg; have hnb36 := NB409_391.out; have hnc36 := NB391_409.out; have hnb37 := NB409_392.out; have hnc37 := NB392_409.out; have hnb38 := NB409_393.out; have hnc38 := NB393_409.out; have hcz39 := blk_all5 BK409.out; have hcz40 := blk_all5 BK392.out; have hnb41 := NB393_391.out; have hnc41 := NB391_393.out; have hcz42 := blk_all5 BK393.out)); try go_wp2_with (first | (go_at_call 13; (with_reducible refine (stockaderef02_Of.calls kj14 ((rd_T65 t394 x7_1).f0) a1_1 (((rd_T65 t394 x7_1).f6) % 256) a1_3 x393004_14 t403 t404 t405 t406 t407 t408 _ A29.out).mono ?_); rintro e w34 ⟨rfl, hb⟩; replace HO_6 := Aside0.mk (Kd.R_below (by (with_reducible repeat (first | apply Kd.R_alloc | apply Kd.R_drewN | apply Kd.R_drew)); exact (Kd.R_mono (Kd.R_far (p := ⟨gb392, 2, none⟩) (Kd.R_types HO_6.out BK392.out (by decide)) (fun _ hk => hk.2) (.int .u8 (((rd_T65 t394 x7_1).f6) % 256))) (fun _ h_ => h_.1))) hb); replace BK391 := sh_kp (g := gb391) (t := 30) #[.int .i64 a0_0, .int .i64 a0_1, .int .i64 a0_2, .bool a0_3, .bool a0_4] hb; replace BK392 := sh_kp (g := gb392) (t := 24) #[.int .u8 ((rd_T65 t394 x7_1).f0), .int .u8 a1_1, .int .u8 (((rd_T65 t394 x7_1).f6) % 256), .int .i16 a1_3, .int .i32 x393004_14] hb; replace BK393 := sh_kp (g := gb393) (t := 24) #[.int .u8 x394000_1, .int .u8 x394001_1, .int .u8 x394002_1, .int .i16 x394003_1, .int .i32 x394004_1] hb; replace HB := sh_b (w := w) hb; (try clear hb); (try clear hb2); (try clear hk); (try clear hi)) | ((with_reducible refine gate_dst (N := 8) rfl ?_); refine sh_box 8 #[.int .i64 0, .int .i64 0, .int .i64 0, .bool false, .bool false] 30 ?_; intro gb409 hg w35 hbox hb; have GE409 := sh_z (w := w) hg; have NB391_409 := sh_n BK391 hg; have NB392_409 := sh_n BK392 hg; have NB393_409 := sh_n BK393 hg; have NB409_391 := sh_s NB391_409; have NB409_392 := sh_s NB392_409; have NB409_393 := sh_s NB393_409; replace HO_6 := Aside0.mk (Kd.R_below (by (with_reducible repeat (first | apply Kd.R_alloc | apply Kd.R_drewN | apply Kd.R_drew)); exact HO_6.out) hb); replace BK391 := sh_k BK391 hb; replace BK392 := sh_k BK392 hb; replace BK393 := sh_k BK393 hb; replace HB := sh_b (w := w) hb; have BK409 := Aside0.mk (hbox); clear hb hbox hg; have hnb36 := NB409_391.out; have hnc36 := NB391_409.out; have hnb37 := NB409_392.out; have hnc37 := NB392_409.out; have hnb38 := NB409_393.out; have hnc38 := NB393_409.out; have hcz39 := blk_all5 BK409.out; have hcz40 := blk_all5 BK392.out; have hnb41 := NB393_391.out; have hnc41 := NB391_393.out; have hcz42 := blk_all5 BK393.out)))
            refine bodyPost_ret (results_ct rfl _ _ gb393 24 #[.int .u8 ((rd_T65 t394 x7_1).f0), .int .u8 a1_1, .int .u8 (((rd_T65 t394 x7_1).f6) % 256), .int .i16 a1_3, .int .i32 x393004_14] (0, 0) _ rfl bk_now Tryd.underlying24 rfl (by kernel_rfl)) rfl ?_
            exact ⟨ret_now, b_now⟩
           ·rw [if_neg c30] at H
            have c30b0 : (t408 == 0) = false := beq_eq_false_iff_ne.mpr c30
            have c30b1 : (t408 != 0) = true := bne_iff_ne.mpr c30
            simp only [Option.some.injEq, Prod.mk.injEq] at H
            obtain ⟨rfl, rfl, rfl, rfl, rfl, rfl⟩ := H
            have p401 : 0 ≤ (x7_1 : Int) := of_decide_eq_true (by first | (with_reducible assumption) | assumption)
            have q401 : x7_1 < (t394.length : Int) := of_decide_eq_true (by first | (with_reducible assumption) | assumption)
            obtain ⟨ad401, e401, hx401_0, hx401_1, hx401_2, hx401_3, hx401_4, hx401_5, hx401_6, hx401_7, hx401_8, hx401_9, hx401_10⟩ := at_T65 (Kd.R_reads' HO_6.out).2.2 x7_1 p401 q401
            obtain rfl : ad397 = ad401 := (by injection e401)
            replace p401 := eq_true p401
            replace q401 := eq_true q401
            have p402 : 0 ≤ (x7_1 : Int) := of_decide_eq_true (by first | (with_reducible assumption) | assumption)
            have q402 : x7_1 < (t394.length : Int) := of_decide_eq_true (by first | (with_reducible assumption) | assumption)
            obtain ⟨ad402, e402, hx402_0, hx402_1, hx402_2, hx402_3, hx402_4, hx402_5, hx402_6, hx402_7, hx402_8, hx402_9, hx402_10⟩ := at_T65 (Kd.R_reads' HO_6.out).2.2 x7_1 p402 q402
            obtain rfl : ad397 = ad402 := (by injection e402)
            replace p402 := eq_true p402
            replace q402 := eq_true q402
            have hnb43 := NB392_391.out
            have hnc43 := NB391_392.out
            have hnb44 := NB392_393.out
            have hnc44 := NB393_392.out
            have hcz45 := blk_all5 BK392.out
            go_wp2_with (first | (go_at_call 13; (with_reducible refine (stockaderef02_Of.calls kj14 ((rd_T65 t394 x7_1).f0) a1_1 (((rd_T65 t394 x7_1).f6) % 256) a1_3 x393004_14 t403 t404 t405 t406 t407 t408 _ A29.out).mono ?_); rintro e w46 ⟨rfl, hb⟩; replace HO_6 := Aside0.mk (Kd.R_below (by (with_reducible repeat (first | apply Kd.R_alloc | apply Kd.R_drewN | apply Kd.R_drew)); exact (Kd.R_mono (Kd.R_far (p := ⟨gb392, 2, none⟩) (Kd.R_types HO_6.out BK392.out (by decide)) (fun _ hk => hk.2) (.int .u8 (((rd_T65 t394 x7_1).f6) % 256))) (fun _ h_ => h_.1))) hb); replace BK391 := sh_kp (g := gb391) (t := 30) #[.int .i64 a0_0, .int .i64 a0_1, .int .i64 a0_2, .bool a0_3, .bool a0_4] hb; replace BK392 := sh_kp (g := gb392) (t := 24) #[.int .u8 ((rd_T65 t394 x7_1).f0), .int .u8 a1_1, .int .u8 (((rd_T65 t394 x7_1).f6) % 256), .int .i16 a1_3, .int .i32 x393004_14] hb; replace BK393 := sh_kp (g := gb393) (t := 24) #[.int .u8 x394000_1, .int .u8 x394001_1, .int .u8 x394002_1, .int .i16 x394003_1, .int .i32 x394004_1] hb; replace HB := sh_b (w := w) hb; (try clear hb); (try clear hb2); (try clear hk); (try clear hi)) | ((with_reducible refine gate_dst (N := 8) rfl ?_); refine sh_box 8 #[.int .i64 0, .int .i64 0, .int .i64 0, .bool false, .bool false] 30 ?_; intro gb409 hg w47 hbox hb; have GE409 := sh_z (w := w) hg; have NB391_409 := sh_n BK391 hg; have NB392_409 := sh_n BK392 hg; have NB393_409 := sh_n BK393 hg; have NB409_391 := sh_s NB391_409; have NB409_392 := sh_s NB392_409; have NB409_393 := sh_s NB393_409; replace HO_6 := Aside0.mk (Kd.R_below (by (with_reducible repeat (first | apply Kd.R_alloc | apply Kd.R_drewN | apply Kd.R_drew)); exact HO_6.out) hb); replace BK391 := sh_k BK391 hb; replace BK392 := sh_k BK392 hb; replace BK393 := sh_k BK393 hb; replace HB := sh_b (w := w) hb; have BK409 := Aside0.mk (hbox); clear hb hbox hg; have hnb48 := NB409_391.out; have hnc48 := NB391_409.out; have hnb49 := NB409_392.out; have hnc49 := NB392_409.out; have hnb50 := NB409_393.out; have hnc50 := NB393_409.out; have hcz51 := blk_all5 BK409.out; have hnb52 := NB393_391.out; have hnc52 := NB391_393.out; have hcz53 := blk_all5 BK393.out))
            repeat (go_quiet (first | (go_at_call 13; (with_reducible refine (stockaderef02_Of.calls kj14 ((rd_T65 t394 x7_1).f0) a1_1 (((rd_T65 t394 x7_1).f6) % 256) a1_3 x393004_14 t403 t404 t405 t406 t407 t408 _ A29.out).mono ?_); rintro e w46 ⟨rfl, hb⟩; replace HO_6 := Aside0.mk (Kd.R_below (by (with_reducible repeat (first | apply Kd.R_alloc | apply Kd.R_drewN | apply Kd.R_drew)); exact (Kd.R_mono (Kd.R_far (p := ⟨gb392, 2, none⟩) (Kd.R_types HO_6.out BK392.out (by decide)) (fun _ hk => hk.2) (.int .u8 (((rd_T65 t394 x7_1).f6) % 256))) (fun _ h_ => h_.1))) hb); replace BK391 := sh_kp (g := gb391) (t := 30) #[.int .i64 a0_0, .int .i64 a0_1, .int .i64 a0_2, .bool a0_3, .bool a0_4] hb; replace BK392 := sh_kp (g := gb392) (t := 24) #[.int .u8 ((rd_T65 t394 x7_1).f0), .int .u8 a1_1, .int .u8 (((rd_T65 t394 x7_1).f6) % 256), .int .i16 a1_3, .int .i32 x393004_14] hb; replace BK393 := sh_kp (g := gb393) (t := 24) #[.int .u8 x394000_1, .int .u8 x394001_1, .int .u8 x394002_1, .int .i16 x394003_1, .int .i32 x394004_1] hb; replace HB := sh_b (w := w) hb; (try clear hb); (try clear hb2); (try clear hk); (try clear hi)) | ((with_reducible refine gate_dst (N := 8) rfl ?_); refine sh_box 8 #[.int .i64 0, .int .i64 0, .int .i64 0, .bool false, .bool false] 30 ?_; intro gb409 hg w47 hbox hb; have GE409 := sh_z (w := w) hg; have NB391_409 := sh_n BK391 hg; have NB392_409 := sh_n BK392 hg; have NB393_409 := sh_n BK393 hg; have NB409_391 := sh_s NB391_409; have NB409_392 := sh_s NB392_409; have NB409_393 := sh_s NB393_409; replace HO_6 := Aside0.mk (Kd.R_below (by (with_reducible repeat (first | apply Kd.R_alloc | apply Kd.R_drewN | apply Kd.R_drew)); exact HO_6.out) hb); replace BK391 := sh_k BK391 hb; replace BK392 := sh_k BK392 hb; replace BK393 := sh_k BK393 hb; replace HB := sh_b (w := w) hb; have BK409 := Aside0.mk (hbox); clear hb hbox hg; have hnb48 := NB409_391.out; have hnc48 := NB391_409.out; have hnb49 := NB409_392.out; have hnc49 := NB392_409.out; have hnb50 := NB409_393.out; have hnc50 := NB393_409.out; have hcz51 := blk_all5 BK409.out; have hnb52 := NB393_391.out; have hnc52 := NB391_393.out; have hcz53 := blk_all5 BK393.out)); try go_wp2_with (first | (go_at_call 13; (with_reducible refine (stockaderef02_Of.calls kj14 ((rd_T65 t394 x7_1).f0) a1_1 (((rd_T65 t394 x7_1).f6) % 256) a1_3 x393004_14 t403 t404 t405 t406 t407 t408 _ A29.out).mono ?_); rintro e w46 ⟨rfl, hb⟩; replace HO_6 := Aside0.mk (Kd.R_below (by (with_reducible repeat (first | apply Kd.R_alloc | apply Kd.R_drewN | apply Kd.R_drew)); exact (Kd.R_mono (Kd.R_far (p := ⟨gb392, 2, none⟩) (Kd.R_types HO_6.out BK392.out (by decide)) (fun _ hk => hk.2) (.int .u8 (((rd_T65 t394 x7_1).f6) % 256))) (fun _ h_ => h_.1))) hb); replace BK391 := sh_kp (g := gb391) (t := 30) #[.int .i64 a0_0, .int .i64 a0_1, .int .i64 a0_2, .bool a0_3, .bool a0_4] hb; replace BK392 := sh_kp (g := gb392) (t := 24) #[.int .u8 ((rd_T65 t394 x7_1).f0), .int .u8 a1_1, .int .u8 (((rd_T65 t394 x7_1).f6) % 256), .int .i16 a1_3, .int .i32 x393004_14] hb; replace BK393 := sh_kp (g := gb393) (t := 24) #[.int .u8 x394000_1, .int .u8 x394001_1, .int .u8 x394002_1, .int .i16 x394003_1, .int .i32 x394004_1] hb; replace HB := sh_b (w := w) hb; (try clear hb); (try clear hb2); (try clear hk); (try clear hi)) | ((with_reducible refine gate_dst (N := 8) rfl ?_); refine sh_box 8 #[.int .i64 0, .int .i64 0, .int .i64 0, .bool false, .bool false] 30 ?_; intro gb409 hg w47 hbox hb; have GE409 := sh_z (w := w) hg; have NB391_409 := sh_n BK391 hg; have NB392_409 := sh_n BK392 hg; have NB393_409 := sh_n BK393 hg; have NB409_391 := sh_s NB391_409; have NB409_392 := sh_s NB392_409; have NB409_393 := sh_s NB393_409; replace HO_6 := Aside0.mk (Kd.R_below (by (with_reducible repeat (first | apply Kd.R_alloc | apply Kd.R_drewN | apply Kd.R_drew)); exact HO_6.out) hb); replace BK391 := sh_k BK391 hb; replace BK392 := sh_k BK392 hb; replace BK393 := sh_k BK393 hb; replace HB := sh_b (w := w) hb; have BK409 := Aside0.mk (hbox); clear hb hbox hg; have hnb48 := NB409_391.out; have hnc48 := NB391_409.out; have hnb49 := NB409_392.out; have hnc49 := NB392_409.out; have hnb50 := NB409_393.out; have hnc50 := NB393_409.out; have hcz51 := blk_all5 BK409.out; have hnb52 := NB393_391.out; have hnc52 := NB391_393.out; have hcz53 := blk_all5 BK393.out)))
            refine bodyPost_ret (results_ct rfl _ _ gb393 24 #[.int .u8 0, .int .u8 0, .int .u8 0, .int .i16 0, .int .i32 0] (0, 0) _ rfl bk_now Tryd.underlying24 rfl (by kernel_rfl)) rfl ?_
            exact ⟨ret_now, b_now⟩
          ·rw [if_neg c28] at H
           have c28b0 : (((rd_T65 t394 x7_1).f3) == 4) = false := beq_eq_false_iff_ne.mpr c28
           have c28b1 : (((rd_T65 t394 x7_1).f3) != 4) = true := bne_iff_ne.mpr c28
           replace H := Option.bind_eq_some_iff.mp H; obtain ⟨⟨t410, t411, t412, t413, t414, t415⟩, A540, H⟩ := H; try dsimp only at H
           have A54 := Aside0.mk A540
           clear A540
           by_cases c55 : t415 = 0
           ·rw [if_pos c55] at H
            have c55b0 : (t415 == 0) = true := beq_iff_eq.mpr c55
            have c55b1 : (t415 != 0) = false := bne_eq_false_iff_eq.mpr c55
            clear c55
            simp only [Option.some.injEq, Prod.mk.injEq] at H
            obtain ⟨rfl, rfl, rfl, rfl, rfl, rfl⟩ := H
            have p401 : 0 ≤ (x7_1 : Int) := of_decide_eq_true (by first | (with_reducible assumption) | assumption)
            have q401 : x7_1 < (t394.length : Int) := of_decide_eq_true (by first | (with_reducible assumption) | assumption)
            obtain ⟨ad401, e401, hx401_0, hx401_1, hx401_2, hx401_3, hx401_4, hx401_5, hx401_6, hx401_7, hx401_8, hx401_9, hx401_10⟩ := at_T65 (Kd.R_reads' HO_6.out).2.2 x7_1 p401 q401
            obtain rfl : ad397 = ad401 := (by injection e401)
            replace p401 := eq_true p401
            replace q401 := eq_true q401
            have hnb56 := NB392_391.out
            have hnc56 := NB391_392.out
            have hnb57 := NB392_393.out
            have hnc57 := NB393_392.out
            have hcz58 := blk_all5 BK392.out
            go_wp2_with (first | (go_at_call 13; (with_reducible refine (stockaderef02_Of.calls kj14 ((rd_T65 t394 x7_1).f0) a1_1 x393002_1 a1_3 x393004_14 t410 t411 t412 t413 t414 t415 _ A54.out).mono ?_); rintro e w59 ⟨rfl, hb⟩; replace HO_6 := Aside0.mk (Kd.R_below (by (with_reducible repeat (first | apply Kd.R_alloc | apply Kd.R_drewN | apply Kd.R_drew)); exact HO_6.out) hb); replace BK391 := sh_k BK391 hb; replace BK392 := sh_k BK392 hb; replace BK393 := sh_k BK393 hb; replace HB := sh_b (w := w) hb; (try clear hb); (try clear hb2); (try clear hk); (try clear hi)) | ((with_reducible refine gate_dst (N := 8) rfl ?_); refine sh_box 8 #[.int .i64 0, .int .i64 0, .int .i64 0, .bool false, .bool false] 30 ?_; intro gb416 hg w60 hbox hb; have GE416 := sh_z (w := w) hg; have NB391_416 := sh_n BK391 hg; have NB392_416 := sh_n BK392 hg; have NB393_416 := sh_n BK393 hg; have NB416_391 := sh_s NB391_416; have NB416_392 := sh_s NB392_416; have NB416_393 := sh_s NB393_416; replace HO_6 := Aside0.mk (Kd.R_below (by (with_reducible repeat (first | apply Kd.R_alloc | apply Kd.R_drewN | apply Kd.R_drew)); exact HO_6.out) hb); replace BK391 := sh_k BK391 hb; replace BK392 := sh_k BK392 hb; replace BK393 := sh_k BK393 hb; replace HB := sh_b (w := w) hb; have BK416 := Aside0.mk (hbox); clear hb hbox hg; have hnb61 := NB416_391.out; have hnc61 := NB391_416.out; have hnb62 := NB416_392.out; have hnc62 := NB392_416.out; have hnb63 := NB416_393.out; have hnc63 := NB393_416.out; have hcz64 := blk_all5 BK416.out; have hcz65 := blk_all5 BK392.out; have hnb66 := NB393_391.out; have hnc66 := NB391_393.out; have hcz67 := blk_all5 BK393.out))
            repeat (go_quiet (first | (go_at_call 13; (with_reducible refine (stockaderef02_Of.calls kj14 ((rd_T65 t394 x7_1).f0) a1_1 x393002_1 a1_3 x393004_14 t410 t411 t412 t413 t414 t415 _ A54.out).mono ?_); rintro e w59 ⟨rfl, hb⟩; replace HO_6 := Aside0.mk (Kd.R_below (by (with_reducible repeat (first | apply Kd.R_alloc | apply Kd.R_drewN | apply Kd.R_drew)); exact HO_6.out) hb); replace BK391 := sh_k BK391 hb; replace BK392 := sh_k BK392 hb; replace BK393 := sh_k BK393 hb; replace HB := sh_b (w := w) hb; (try clear hb); (try clear hb2); (try clear hk); (try clear hi)) | ((with_reducible refine gate_dst (N := 8) rfl ?_); refine sh_box 8 #[.int .i64 0, .int .i64 0, .int .i64 0, .bool false, .bool false] 30 ?_; intro gb416 hg w60 hbox hb; have GE416 := sh_z (w := w) hg; have NB391_416 := sh_n BK391 hg; have NB392_416 := sh_n BK392 hg; have NB393_416 := sh_n BK393 hg; have NB416_391 := sh_s NB391_416; have NB416_392 := sh_s NB392_416; have NB416_393 := sh_s NB393_416; replace HO_6 := Aside0.mk (Kd.R_below (by (with_reducible repeat (first | apply Kd.R_alloc | apply Kd.R_drewN | apply Kd.R_drew)); exact HO_6.out) hb); replace BK391 := sh_k BK391 hb; replace BK392 := sh_k BK392 hb; replace BK393 := sh_k BK393 hb; replace HB := sh_b (w := w) hb; have BK416 := Aside0.mk (hbox); clear hb hbox hg; have hnb61 := NB416_391.out; have hnc61 := NB391_416.out; have hnb62 := NB416_392.out; have hnc62 := NB392_416.out; have hnb63 := NB416_393.out; have hnc63 := NB393_416.out; have hcz64 := blk_all5 BK416.out; have hcz65 := blk_all5 BK392.out; have hnb66 := NB393_391.out; have hnc66 := NB391_393.out; have hcz67 := blk_all5 BK393.out)); try go_wp2_with (first | (go_at_call 13; (with_reducible refine (stockaderef02_Of.calls kj14 ((rd_T65 t394 x7_1).f0) a1_1 x393002_1 a1_3 x393004_14 t410 t411 t412 t413 t414 t415 _ A54.out).mono ?_); rintro e w59 ⟨rfl, hb⟩; replace HO_6 := Aside0.mk (Kd.R_below (by (with_reducible repeat (first | apply Kd.R_alloc | apply Kd.R_drewN | apply Kd.R_drew)); exact HO_6.out) hb); replace BK391 := sh_k BK391 hb; replace BK392 := sh_k BK392 hb; replace BK393 := sh_k BK393 hb; replace HB := sh_b (w := w) hb; (try clear hb); (try clear hb2); (try clear hk); (try clear hi)) | ((with_reducible refine gate_dst (N := 8) rfl ?_); refine sh_box 8 #[.int .i64 0, .int .i64 0, .int .i64 0, .bool false, .bool false] 30 ?_; intro gb416 hg w60 hbox hb; have GE416 := sh_z (w := w) hg; have NB391_416 := sh_n BK391 hg; have NB392_416 := sh_n BK392 hg; have NB393_416 := sh_n BK393 hg; have NB416_391 := sh_s NB391_416; have NB416_392 := sh_s NB392_416; have NB416_393 := sh_s NB393_416; replace HO_6 := Aside0.mk (Kd.R_below (by (with_reducible repeat (first | apply Kd.R_alloc | apply Kd.R_drewN | apply Kd.R_drew)); exact HO_6.out) hb); replace BK391 := sh_k BK391 hb; replace BK392 := sh_k BK392 hb; replace BK393 := sh_k BK393 hb; replace HB := sh_b (w := w) hb; have BK416 := Aside0.mk (hbox); clear hb hbox hg; have hnb61 := NB416_391.out; have hnc61 := NB391_416.out; have hnb62 := NB416_392.out; have hnc62 := NB392_416.out; have hnb63 := NB416_393.out; have hnc63 := NB393_416.out; have hcz64 := blk_all5 BK416.out; have hcz65 := blk_all5 BK392.out; have hnb66 := NB393_391.out; have hnc66 := NB391_393.out; have hcz67 := blk_all5 BK393.out)))
            refine bodyPost_ret (results_ct rfl _ _ gb393 24 #[.int .u8 ((rd_T65 t394 x7_1).f0), .int .u8 a1_1, .int .u8 x393002_1, .int .i16 a1_3, .int .i32 x393004_14] (0, 0) _ rfl bk_now Tryd.underlying24 rfl (by kernel_rfl)) rfl ?_
            exact ⟨ret_now, b_now⟩
           ·rw [if_neg c55] at H
            have c55b0 : (t415 == 0) = false := beq_eq_false_iff_ne.mpr c55
            have c55b1 : (t415 != 0) = true := bne_iff_ne.mpr c55
            simp only [Option.some.injEq, Prod.mk.injEq] at H
            obtain ⟨rfl, rfl, rfl, rfl, rfl, rfl⟩ := H
            have p401 : 0 ≤ (x7_1 : Int) := of_decide_eq_true (by first | (with_reducible assumption) | assumption)
            have q401 : x7_1 < (t394.length : Int) := of_decide_eq_true (by first | (with_reducible assumption) | assumption)
            obtain ⟨ad401, e401, hx401_0, hx401_1, hx401_2, hx401_3, hx401_4, hx401_5, hx401_6, hx401_7, hx401_8, hx401_9, hx401_10⟩ := at_T65 (Kd.R_reads' HO_6.out).2.2 x7_1 p401 q401
            obtain rfl : ad397 = ad401 := (by injection e401)
            replace p401 := eq_true p401
            replace q401 := eq_true q401
            have hnb68 := NB392_391.out
            have hnc68 := NB391_392.out
            have hnb69 := NB392_393.out
            have hnc69 := NB393_392.out
            have hcz70 := blk_all5 BK392.out
            go_wp2_with (first | (go_at_call 13; (with_reducible refine (stockaderef02_Of.calls kj14 ((rd_T65 t394 x7_1).f0) a1_1 x393002_1 a1_3 x393004_14 t410 t411 t412 t413 t414 t415 _ A54.out).mono ?_); rintro e w71 ⟨rfl, hb⟩; replace HO_6 := Aside0.mk (Kd.R_below (by (with_reducible repeat (first | apply Kd.R_alloc | apply Kd.R_drewN | apply Kd.R_drew)); exact HO_6.out) hb); replace BK391 := sh_k BK391 hb; replace BK392 := sh_k BK392 hb; replace BK393 := sh_k BK393 hb; replace HB := sh_b (w := w) hb; (try clear hb); (try clear hb2); (try clear hk); (try clear hi)) | ((with_reducible refine gate_dst (N := 8) rfl ?_); refine sh_box 8 #[.int .i64 0, .int .i64 0, .int .i64 0, .bool false, .bool false] 30 ?_; intro gb416 hg w72 hbox hb; have GE416 := sh_z (w := w) hg; have NB391_416 := sh_n BK391 hg; have NB392_416 := sh_n BK392 hg; have NB393_416 := sh_n BK393 hg; have NB416_391 := sh_s NB391_416; have NB416_392 := sh_s NB392_416; have NB416_393 := sh_s NB393_416; replace HO_6 := Aside0.mk (Kd.R_below (by (with_reducible repeat (first | apply Kd.R_alloc | apply Kd.R_drewN | apply Kd.R_drew)); exact HO_6.out) hb); replace BK391 := sh_k BK391 hb; replace BK392 := sh_k BK392 hb; replace BK393 := sh_k BK393 hb; replace HB := sh_b (w := w) hb; have BK416 := Aside0.mk (hbox); clear hb hbox hg; have hnb73 := NB416_391.out; have hnc73 := NB391_416.out; have hnb74 := NB416_392.out; have hnc74 := NB392_416.out; have hnb75 := NB416_393.out; have hnc75 := NB393_416.out; have hcz76 := blk_all5 BK416.out; have hnb77 := NB393_391.out; have hnc77 := NB391_393.out; have hcz78 := blk_all5 BK393.out))
            repeat (go_quiet (first | (go_at_call 13; (with_reducible refine (stockaderef02_Of.calls kj14 ((rd_T65 t394 x7_1).f0) a1_1 x393002_1 a1_3 x393004_14 t410 t411 t412 t413 t414 t415 _ A54.out).mono ?_); rintro e w71 ⟨rfl, hb⟩; replace HO_6 := Aside0.mk (Kd.R_below (by (with_reducible repeat (first | apply Kd.R_alloc | apply Kd.R_drewN | apply Kd.R_drew)); exact HO_6.out) hb); replace BK391 := sh_k BK391 hb; replace BK392 := sh_k BK392 hb; replace BK393 := sh_k BK393 hb; replace HB := sh_b (w := w) hb; (try clear hb); (try clear hb2); (try clear hk); (try clear hi)) | ((with_reducible refine gate_dst (N := 8) rfl ?_); refine sh_box 8 #[.int .i64 0, .int .i64 0, .int .i64 0, .bool false, .bool false] 30 ?_; intro gb416 hg w72 hbox hb; have GE416 := sh_z (w := w) hg; have NB391_416 := sh_n BK391 hg; have NB392_416 := sh_n BK392 hg; have NB393_416 := sh_n BK393 hg; have NB416_391 := sh_s NB391_416; have NB416_392 := sh_s NB392_416; have NB416_393 := sh_s NB393_416; replace HO_6 := Aside0.mk (Kd.R_below (by (with_reducible repeat (first | apply Kd.R_alloc | apply Kd.R_drewN | apply Kd.R_drew)); exact HO_6.out) hb); replace BK391 := sh_k BK391 hb; replace BK392 := sh_k BK392 hb; replace BK393 := sh_k BK393 hb; replace HB := sh_b (w := w) hb; have BK416 := Aside0.mk (hbox); clear hb hbox hg; have hnb73 := NB416_391.out; have hnc73 := NB391_416.out; have hnb74 := NB416_392.out; have hnc74 := NB392_416.out; have hnb75 := NB416_393.out; have hnc75 := NB393_416.out; have hcz76 := blk_all5 BK416.out; have hnb77 := NB393_391.out; have hnc77 := NB391_393.out; have hcz78 := blk_all5 BK393.out)); try go_wp2_with (first | (go_at_call 13; (with_reducible refine (stockaderef02_Of.calls kj14 ((rd_T65 t394 x7_1).f0) a1_1 x393002_1 a1_3 x393004_14 t410 t411 t412 t413 t414 t415 _ A54.out).mono ?_); rintro e w71 ⟨rfl, hb⟩; replace HO_6 := Aside0.mk (Kd.R_below (by (with_reducible repeat (first | apply Kd.R_alloc | apply Kd.R_drewN | apply Kd.R_drew)); exact HO_6.out) hb); replace BK391 := sh_k BK391 hb; replace BK392 := sh_k BK392 hb; replace BK393 := sh_k BK393 hb; replace HB := sh_b (w := w) hb; (try clear hb); (try clear hb2); (try clear hk); (try clear hi)) | ((with_reducible refine gate_dst (N := 8) rfl ?_); refine sh_box 8 #[.int .i64 0, .int .i64 0, .int .i64 0, .bool false, .bool false] 30 ?_; intro gb416 hg w72 hbox hb; have GE416 := sh_z (w := w) hg; have NB391_416 := sh_n BK391 hg; have NB392_416 := sh_n BK392 hg; have NB393_416 := sh_n BK393 hg; have NB416_391 := sh_s NB391_416; have NB416_392 := sh_s NB392_416; have NB416_393 := sh_s NB393_416; replace HO_6 := Aside0.mk (Kd.R_below (by (with_reducible repeat (first | apply Kd.R_alloc | apply Kd.R_drewN | apply Kd.R_drew)); exact HO_6.out) hb); replace BK391 := sh_k BK391 hb; replace BK392 := sh_k BK392 hb; replace BK393 := sh_k BK393 hb; replace HB := sh_b (w := w) hb; have BK416 := Aside0.mk (hbox); clear hb hbox hg; have hnb73 := NB416_391.out; have hnc73 := NB391_416.out; have hnb74 := NB416_392.out; have hnc74 := NB392_416.out; have hnb75 := NB416_393.out; have hnc75 := NB393_416.out; have hcz76 := blk_all5 BK416.out; have hnb77 := NB393_391.out; have hnc77 := NB391_393.out; have hcz78 := blk_all5 BK393.out)))
            refine bodyPost_ret (results_ct rfl _ _ gb393 24 #[.int .u8 0, .int .u8 0, .int .u8 0, .int .i16 0, .int .i32 0] (0, 0) _ rfl bk_now Tryd.underlying24 rfl (by kernel_rfl)) rfl ?_
            exact ⟨ret_now, b_now⟩
         ·rw [if_neg c27] at H
          exact absurd H (by simp)
        ·rw [if_neg c26] at H
         exact absurd H (by simp)
    ·rw [if_neg c9] at H
     exact absurd H (by simp)
   ·rw [if_neg c8] at H
    have c8b0 : decide (x7_1 < (t394.length : Int)) = false := decide_eq_false c8
    clear c8
    simp only [Option.some.injEq, Prod.mk.injEq] at H
    obtain ⟨rfl, rfl, rfl, rfl, rfl, rfl⟩ := H
    obtain ⟨Ao79, co79, eo79⟩ := Kd.R_slice HO_6.out
    subst eo79
    have hnb80 := NB393_391.out
    have hnc80 := NB391_393.out
    have hnb81 := NB393_392.out
    have hnc81 := NB392_393.out
    have hcz82 := blk_all5 BK393.out
    go_wp2
    repeat (go_quiet (fail); try go_wp2)
    refine bodyPost_ret (results_ct rfl _ _ gb393 24 #[.int .u8 0, .int .u8 0, .int .u8 0, .int .i16 0, .int .i32 0] (0, 0) _ rfl bk_now Tryd.underlying24 rfl (by kernel_rfl)) rfl ?_
    exact ⟨ret_now, b_now⟩

end Go.Proofs.YtkojjjdeacdabaaDoor.P
