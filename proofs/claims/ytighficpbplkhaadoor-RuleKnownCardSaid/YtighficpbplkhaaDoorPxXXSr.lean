/- Chapter 18: rule.Src at the address and the bits that the chapter's rows name. -/
import Derived.Test.YtighficpbplkhaaDoorPx0
import Derived.Test.YtighficpbplkhaaDoorPx5
namespace Go.Proofs.YtighficpbplkhaaDoor.P
open Go.RowKit Go.Proofs.YtighficpbplkhaaDoorW.PrintWords Go.Proofs.YtighficpbplkhaaDoorW.PrintLast Go.Proofs.YtighficpbplkhaaDoorW.PrintMore
attribute [local go_sem] max2_int min2_int max_two min_two max_three min_three max_four min_four   -- for this text's walks alone
set_option linter.unusedVariables false
set_option linter.unusedSimpArgs false
def rule_Src.f (k : Nat) (u : Unit) (a1 : Int) : Option (Bool × Int × Int × Int × Int × Int × Int) := if a1 = 8 then (rule_number.f k [10, 1, 2, 3] 0 4).bind fun t => some (false, 3, 26, 4, 4278190080, Go.bits .and .u64 t.1 4278190080, Go.bits .and .u64 t.1 4278190080) else none
theorem rule_Src.mono : ∀ u a1 k, LeO (rule_Src.f k u a1) (rule_Src.f (k + 1) u a1) := by
 intro u a1 k
 unfold rule_Src.f
 repeat' first
   | (with_reducible exact LeO.refl _)
   | (with_reducible exact LeO.none _)
   | (with_reducible exact rule_number.mono _ _ _ _)
   | (with_reducible refine LeO.ite ?_ ?_)
   | (with_reducible refine LeO.bind ?_ (fun _ => ?_))
set_option maxHeartbeats 2000000 in
set_option maxRecDepth 100000 in
theorem prefix_calls (k : Nat) (n : Int) (b : Bool) (w : World) (h : rule_number.f k [10, 1, 2, 3] 0 4 = some (n, b)) :
  Calls Tryd.prog 40 #[.int .i64 26, .agg #[.int .u8 10, .int .u8 1, .int .u8 2, .int .u8 3], .int .i64 8] w fun e w' => e = .returned (.agg #[.bool false, .int .i64 3, .int .i64 26, .int .i64 4, .int .u64 4278190080, .int .u64 (Go.bits .and .u64 n 4278190080), .int .u64 (Go.bits .and .u64 n 4278190080)]) ∧ Below w.heap.size w w' := by
 have HH := Aside0.mk h
 clear h
 have HB := Aside0.mk (Below.refl w.heap.size w)
 go_enter Tryd.func40, Tryd.ntmps40
 go_upto_region 3 with (first
   | ((with_reducible refine gate_dst (N := 4) rfl ?_); refine sh_box 4 #[.int .u8 10, .int .u8 1, .int .u8 2, .int .u8 3] 67 ?_; intro g4 hg w1 hbox hb; have GE4 := sh_z (w := w) hg; replace HB := sh_b (w := w) hb; have BK4 := Aside0.mk hbox; clear hb hbox hg)
   | ((with_reducible refine gate_dst (N := 6) rfl ?_); refine sh_box 6 #[.bool false, .int .i64 0, .int .i64 0, .int .i64 0, .int .u64 0, .int .u64 0, .int .u64 0] 50 ?_; intro g6 hg w2 hbox hb; have GE6 := sh_z (w := w) hg; have N46 := sh_n BK4 hg; replace BK4 := sh_k BK4 hb; replace HB := sh_b (w := w) hb; have BK6 := Aside0.mk hbox; clear hb hbox hg))
 have hr : Kd.C (Kd.int .u8) w2 (some ⟨g4, 0, none⟩) 4 [10, 1, 2, 3] := by
  obtain ⟨h0, h1, h2, h3, _⟩ := blk_all4 BK4.out
  refine Kd.C_of_reads (d := 0) ⟨rfl, by decide, fun _ => ⟨_, rfl, fun j hj => ?_⟩⟩
  match j, hj with
  | 0, _ => exact h0
  | 1, _ => exact h1
  | 2, _ => exact h2
  | 3, _ => exact h3
 have HR := Aside0.mk hr
 clear hr
 have hc : Calls Tryd.prog 52 #[.slice (some ⟨g4, 0, none⟩) 4 4, .int .i64 0, .int .i64 4] w2 fun e w' => e = .returned (.tuple #[.int .u64 n, .bool b]) ∧ Drawn0 w2 w' := rule_number.calls k (some ⟨g4, 0, none⟩) 4 [10, 1, 2, 3] 0 4 n b w2 HR.out (Nat.le_refl 4) HH.out
 have HC := Aside0.mk hc
 clear hc HR HH
 go_upto_region 4 with (go_loud (go_at_call 52; refine HC.out.mono ?_; rintro e w' ⟨rfl, ⟨nd, rfl⟩⟩))
 clear BK4 HC
 have hcz6 := blk_all7 (blk_drewN BK6.out nd)
 rw [show bits .and .u64 72057594021150720 4294967295 = 4278190080 by kernel_rfl]
 go_wp2
 refine bodyPost_ret (results_cell_row rfl _ _ g6 50 #[.bool false, .int .i64 3, .int .i64 26, .int .i64 4, .int .u64 4278190080, .int .u64 (Go.bits .and .u64 n 4278190080), .int .u64 (Go.bits .and .u64 n 4278190080)] (0, 0) _ rfl bk_now Tryd.underlying50 rfl (by kernel_rfl)) rfl ?_
 exact ⟨ret_now, b_now⟩
set_option maxHeartbeats 2000000 in
set_option maxRecDepth 100000 in
theorem rule_Src.calls (k : Nat) (u : Unit) (a1 : Int) (r1 : Bool) (r2 r3 r4 r5 r6 r7 : Int) (w : World) (h : rule_Src.f k u a1 = some (r1, r2, r3, r4, r5, r6, r7)) :
  Calls Tryd.prog 24 #[.agg #[.int .u8 10, .int .u8 1, .int .u8 2, .int .u8 3], .int .i64 a1] w fun e w' => e = .returned (.agg #[.bool r1, .int .i64 r2, .int .i64 r3, .int .i64 r4, .int .u64 r5, .int .u64 r6, .int .u64 r7]) ∧ Below w.heap.size w w' := by
 unfold rule_Src.f at h
 by_cases ha : a1 = 8
 · subst ha
   rw [if_pos rfl] at h
   obtain ⟨⟨n, b⟩, h1, h2⟩ := Option.bind_eq_some_iff.mp h
   simp only [Option.some.injEq, Prod.mk.injEq] at h2
   obtain ⟨rfl, rfl, rfl, rfl, rfl, rfl, rfl⟩ := h2
   have HH := Aside0.mk h1
   clear h h1
   have HB := Aside0.mk (Below.refl w.heap.size w)
   go_enter Tryd.func24, Tryd.ntmps24
   go_upto_region 1 with (first
     | ((with_reducible refine gate_dst (N := 2) rfl ?_); refine sh_box 2 #[.int .u8 10, .int .u8 1, .int .u8 2, .int .u8 3] 67 ?_; intro g4 hg w1 hbox hb; have GE4 := sh_z (w := w) hg; replace HB := sh_b (w := w) hb; have BK4 := Aside0.mk hbox; clear hb hbox hg)
     | ((with_reducible refine gate_dst (N := 4) rfl ?_); refine sh_box 4 #[.bool false, .int .i64 0, .int .i64 0, .int .i64 0, .int .u64 0, .int .u64 0, .int .u64 0] 50 ?_; intro g6 hg w2 hbox hb; have GE6 := sh_z (w := w) hg; have N46 := sh_n BK4 hg; replace BK4 := sh_k BK4 hb; replace HB := sh_b (w := w) hb; have BK6 := Aside0.mk hbox; clear hb hbox hg))
   have hcz4 := blk_all4 BK4.out
   go_wp2_with (go_loud (go_at_call 40; refine (prefix_calls k n b _ HH.out).mono ?_; rintro e w' ⟨rfl, hb⟩; replace BK6 := sh_k BK6 hb; replace HB := sh_b (w := w) hb; clear hb; have hcz6 := blk_all7 BK6.out))
   refine bodyPost_ret (results_cell_row rfl _ _ g6 50 #[.bool false, .int .i64 3, .int .i64 26, .int .i64 4, .int .u64 4278190080, .int .u64 (Go.bits .and .u64 n 4278190080), .int .u64 (Go.bits .and .u64 n 4278190080)] (0, 0) _ rfl bk_now Tryd.underlying50 rfl (by kernel_rfl)) rfl ?_
   exact ⟨ret_now, b_now⟩
 · rw [if_neg ha] at h
   exact absurd h (by simp)
end Go.Proofs.YtighficpbplkhaaDoor.P
