/- Chapter 01: the Go function WordOrders answers true, given what its callees answer (a walk by hand: it has a local array). -/
import Derived.Test.YtgmgnlmhfhdfgaaPx3
import Derived.Test.YtgmgnlmhfhdfgaaPx4
import Derived.Test.YtgmgnlmhfhdfgaaPx5
import Derived.LoopN
namespace Go.Proofs.Ytgmgnlmhfhdfgaa.P
open Go.RowKit Go.Proofs.YtgmgnlmhfhdfgaaW.PrintWords Go.Proofs.YtgmgnlmhfhdfgaaW.PrintLast Go.Proofs.YtgmgnlmhfhdfgaaW.PrintMore
attribute [local go_sem] max2_int min2_int max_two min_two max_three min_three max_four min_four
set_option linter.unusedVariables false
set_option linter.unusedSimpArgs false

theorem gen_w {R : World → Prop} {W : World} (F : World → Prop) (hF : F W) (h : ∀ wg, F wg → R wg) : R W := h _ hF
set_option maxHeartbeats 4000000 in
set_option maxRecDepth 100000 in
theorem orders_calls (k : Nat) (wide : Bool) (a b : Int) (w : World) (c1 c2 c3 c4 c5 c6 c7 c10 c11 c12 c13 : Bool) (n fa : Int) (ha : stockadelaw01_awake.f k = some true) (h1 : stockadelaw01_holds.f k 1 wide a b = some (c1, true)) (h2 : stockadelaw01_holds.f k 2 wide a b = some (c2, true)) (h3 : stockadelaw01_holds.f k 3 wide a b = some (c3, true)) (h4 : stockadelaw01_holds.f k 4 wide a b = some (c4, true)) (h5 : stockadelaw01_holds.f k 5 wide a b = some (c5, true)) (h6 : stockadelaw01_holds.f k 6 wide a b = some (c6, true)) (h7 : stockadelaw01_holds.f k 7 wide a b = some (c7, true)) (h10 : stockadelaw01_holds.f k 10 wide a b = some (c10, true)) (h11 : stockadelaw01_holds.f k 11 wide a b = some (c11, true)) (h12 : stockadelaw01_holds.f k 12 wide a b = some (c12, true)) (h13 : stockadelaw01_holds.f k 13 wide a b = some (c13, true))
    (hb : c1 = true ∧ c2 = false ∧ c10 = false ∧ c6 = false ∧ c12 = false ∨ c1 = false ∧ c2 = (!c10) ∧ c6 = (!c12)) (e3 : c3 = (!c10)) (e5 : c5 = (!c1)) (e7 : c7 = (!c12)) (e11 : c11 = (!c2)) (e13 : c13 = (!c6)) (hless : stockadelaw01_holds.f k 10 wide (Go.bits .xor .u64 a (IntKind.u64.wrap (2 ^ min (IntKind.u64.wrap (n - 1)).toNat 64))) (Go.bits .xor .u64 b (IntKind.u64.wrap (2 ^ min (IntKind.u64.wrap (n - 1)).toNat 64))) = some (c12, true)) (e4 : c4 = (Go.bits .and .u64 fa b != 0))
    (hsz : stockadelaw01_size.f wide = some n) (hfa : stockadelaw01_fit.f wide a = some fa) :
    Calls Try.prog 10 #[.bool wide, .int .u64 a, .int .u64 b] w fun e w' => e = .returned (.bool true) ∧ Below w.heap.size w w' := by
  have hu48 := Try.underlying48
  have hu49 := Try.underlying49
  have hu52 := Try.underlying52
  have HB := Aside0.mk (Below.refl w.heap.size w)
  replace h1 := Aside0.mk h1
  replace h2 := Aside0.mk h2
  replace h3 := Aside0.mk h3
  replace h4 := Aside0.mk h4
  replace h5 := Aside0.mk h5
  replace h6 := Aside0.mk h6
  replace h7 := Aside0.mk h7
  replace h10 := Aside0.mk h10
  replace h11 := Aside0.mk h11
  replace h12 := Aside0.mk h12
  replace h13 := Aside0.mk h13
  replace ha := Aside0.mk ha
  replace hsz := Aside0.mk hsz
  replace hfa := Aside0.mk hfa
  obtain ⟨i3_, hi3_⟩ : ∃ i, Try.prog.info? 3 = some i := Option.isSome_iff_exists.1 (by kernel_rfl)
  obtain ⟨i4_, hi4_⟩ : ∃ i, Try.prog.info? 4 = some i := Option.isSome_iff_exists.1 (by kernel_rfl)
  have ix0 : ∀ W_ : World, (Instr.index 49 (.agg #[.int .i64 1, .int .i64 2, .int .i64 3, .int .i64 4, .int .i64 5, .int .i64 6, .int .i64 7, .int .i64 10, .int .i64 11, .int .i64 12, .int .i64 13]) (.int .i64 0)).run Try.prog W_ = .ok (.int .i64 1) W_ := fun W_ => run_index_enc (Value.int .i64) (0 : Int) ([1, 2, 3, 4, 5, 6, 7, 10, 11, 12, 13] : List Int) 0 W_ Try.underlying49 (fun W_ => by kernel_rfl) hi3_ (by kernel_rfl) (by omega) (by omega) rfl
  have ix1 : ∀ W_ : World, (Instr.index 49 (.agg #[.int .i64 1, .int .i64 2, .int .i64 3, .int .i64 4, .int .i64 5, .int .i64 6, .int .i64 7, .int .i64 10, .int .i64 11, .int .i64 12, .int .i64 13]) (.int .i64 1)).run Try.prog W_ = .ok (.int .i64 2) W_ := fun W_ => run_index_enc (Value.int .i64) (0 : Int) ([1, 2, 3, 4, 5, 6, 7, 10, 11, 12, 13] : List Int) 1 W_ Try.underlying49 (fun W_ => by kernel_rfl) hi3_ (by kernel_rfl) (by omega) (by omega) rfl
  have ix2 : ∀ W_ : World, (Instr.index 49 (.agg #[.int .i64 1, .int .i64 2, .int .i64 3, .int .i64 4, .int .i64 5, .int .i64 6, .int .i64 7, .int .i64 10, .int .i64 11, .int .i64 12, .int .i64 13]) (.int .i64 2)).run Try.prog W_ = .ok (.int .i64 3) W_ := fun W_ => run_index_enc (Value.int .i64) (0 : Int) ([1, 2, 3, 4, 5, 6, 7, 10, 11, 12, 13] : List Int) 2 W_ Try.underlying49 (fun W_ => by kernel_rfl) hi3_ (by kernel_rfl) (by omega) (by omega) rfl
  have ix3 : ∀ W_ : World, (Instr.index 49 (.agg #[.int .i64 1, .int .i64 2, .int .i64 3, .int .i64 4, .int .i64 5, .int .i64 6, .int .i64 7, .int .i64 10, .int .i64 11, .int .i64 12, .int .i64 13]) (.int .i64 3)).run Try.prog W_ = .ok (.int .i64 4) W_ := fun W_ => run_index_enc (Value.int .i64) (0 : Int) ([1, 2, 3, 4, 5, 6, 7, 10, 11, 12, 13] : List Int) 3 W_ Try.underlying49 (fun W_ => by kernel_rfl) hi3_ (by kernel_rfl) (by omega) (by omega) rfl
  have ix4 : ∀ W_ : World, (Instr.index 49 (.agg #[.int .i64 1, .int .i64 2, .int .i64 3, .int .i64 4, .int .i64 5, .int .i64 6, .int .i64 7, .int .i64 10, .int .i64 11, .int .i64 12, .int .i64 13]) (.int .i64 4)).run Try.prog W_ = .ok (.int .i64 5) W_ := fun W_ => run_index_enc (Value.int .i64) (0 : Int) ([1, 2, 3, 4, 5, 6, 7, 10, 11, 12, 13] : List Int) 4 W_ Try.underlying49 (fun W_ => by kernel_rfl) hi3_ (by kernel_rfl) (by omega) (by omega) rfl
  have ix5 : ∀ W_ : World, (Instr.index 49 (.agg #[.int .i64 1, .int .i64 2, .int .i64 3, .int .i64 4, .int .i64 5, .int .i64 6, .int .i64 7, .int .i64 10, .int .i64 11, .int .i64 12, .int .i64 13]) (.int .i64 5)).run Try.prog W_ = .ok (.int .i64 6) W_ := fun W_ => run_index_enc (Value.int .i64) (0 : Int) ([1, 2, 3, 4, 5, 6, 7, 10, 11, 12, 13] : List Int) 5 W_ Try.underlying49 (fun W_ => by kernel_rfl) hi3_ (by kernel_rfl) (by omega) (by omega) rfl
  have ix6 : ∀ W_ : World, (Instr.index 49 (.agg #[.int .i64 1, .int .i64 2, .int .i64 3, .int .i64 4, .int .i64 5, .int .i64 6, .int .i64 7, .int .i64 10, .int .i64 11, .int .i64 12, .int .i64 13]) (.int .i64 6)).run Try.prog W_ = .ok (.int .i64 7) W_ := fun W_ => run_index_enc (Value.int .i64) (0 : Int) ([1, 2, 3, 4, 5, 6, 7, 10, 11, 12, 13] : List Int) 6 W_ Try.underlying49 (fun W_ => by kernel_rfl) hi3_ (by kernel_rfl) (by omega) (by omega) rfl
  have ix7 : ∀ W_ : World, (Instr.index 49 (.agg #[.int .i64 1, .int .i64 2, .int .i64 3, .int .i64 4, .int .i64 5, .int .i64 6, .int .i64 7, .int .i64 10, .int .i64 11, .int .i64 12, .int .i64 13]) (.int .i64 7)).run Try.prog W_ = .ok (.int .i64 10) W_ := fun W_ => run_index_enc (Value.int .i64) (0 : Int) ([1, 2, 3, 4, 5, 6, 7, 10, 11, 12, 13] : List Int) 7 W_ Try.underlying49 (fun W_ => by kernel_rfl) hi3_ (by kernel_rfl) (by omega) (by omega) rfl
  have ix8 : ∀ W_ : World, (Instr.index 49 (.agg #[.int .i64 1, .int .i64 2, .int .i64 3, .int .i64 4, .int .i64 5, .int .i64 6, .int .i64 7, .int .i64 10, .int .i64 11, .int .i64 12, .int .i64 13]) (.int .i64 8)).run Try.prog W_ = .ok (.int .i64 11) W_ := fun W_ => run_index_enc (Value.int .i64) (0 : Int) ([1, 2, 3, 4, 5, 6, 7, 10, 11, 12, 13] : List Int) 8 W_ Try.underlying49 (fun W_ => by kernel_rfl) hi3_ (by kernel_rfl) (by omega) (by omega) rfl
  have ix9 : ∀ W_ : World, (Instr.index 49 (.agg #[.int .i64 1, .int .i64 2, .int .i64 3, .int .i64 4, .int .i64 5, .int .i64 6, .int .i64 7, .int .i64 10, .int .i64 11, .int .i64 12, .int .i64 13]) (.int .i64 9)).run Try.prog W_ = .ok (.int .i64 12) W_ := fun W_ => run_index_enc (Value.int .i64) (0 : Int) ([1, 2, 3, 4, 5, 6, 7, 10, 11, 12, 13] : List Int) 9 W_ Try.underlying49 (fun W_ => by kernel_rfl) hi3_ (by kernel_rfl) (by omega) (by omega) rfl
  have ix10 : ∀ W_ : World, (Instr.index 49 (.agg #[.int .i64 1, .int .i64 2, .int .i64 3, .int .i64 4, .int .i64 5, .int .i64 6, .int .i64 7, .int .i64 10, .int .i64 11, .int .i64 12, .int .i64 13]) (.int .i64 10)).run Try.prog W_ = .ok (.int .i64 13) W_ := fun W_ => run_index_enc (Value.int .i64) (0 : Int) ([1, 2, 3, 4, 5, 6, 7, 10, 11, 12, 13] : List Int) 10 W_ Try.underlying49 (fun W_ => by kernel_rfl) hi3_ (by kernel_rfl) (by omega) (by omega) rfl
  have iy0 : ∀ (x y z : Bool) (W_ : World), (Instr.index 52 (.agg #[.bool x, .bool y, .bool z]) (.int .i64 0)).run Try.prog W_ = .ok (.bool x) W_ := fun x y z W_ => run_index_enc Value.bool false [x, y, z] 0 W_ Try.underlying52 (fun W_ => by kernel_rfl) hi4_ (by kernel_rfl) (by omega) (by omega) rfl
  have iy1 : ∀ (x y z : Bool) (W_ : World), (Instr.index 52 (.agg #[.bool x, .bool y, .bool z]) (.int .i64 1)).run Try.prog W_ = .ok (.bool y) W_ := fun x y z W_ => run_index_enc Value.bool false [x, y, z] 1 W_ Try.underlying52 (fun W_ => by kernel_rfl) hi4_ (by kernel_rfl) (by omega) (by omega) rfl
  have iy2 : ∀ (x y z : Bool) (W_ : World), (Instr.index 52 (.agg #[.bool x, .bool y, .bool z]) (.int .i64 2)).run Try.prog W_ = .ok (.bool z) W_ := fun x y z W_ => run_index_enc Value.bool false [x, y, z] 2 W_ Try.underlying52 (fun W_ => by kernel_rfl) hi4_ (by kernel_rfl) (by omega) (by omega) rfl
  go_enter Try.func10, Try.ntmps10
  go_wp2_with (first
    | (go_at_call 15; (with_reducible refine (stockadelaw01_awake.calls k true _ ha.out).mono ?_); rintro e w' ⟨rfl, ⟨nd, rfl⟩⟩)
    | ((with_reducible refine gate_dst (N := 7) rfl ?_); refine sh_box 7 #[.bool false, .bool false, .bool false, .bool false, .bool false, .bool false, .bool false, .bool false, .bool false, .bool false, .bool false, .bool false, .bool false, .bool false] 48 ?_; intro g hg w1 hbox hb; have GE := sh_z (w := w) hg; replace HB := sh_b (w := w) hb; have BK := Aside0.mk (hbox); clear hb hbox hg; have hcz := blk_all14 BK.out))
  refine wp_loop_rounds 12 ?_
  rw [rounds_succ]
  go_wp2_with (first | (go_at_call 26; (with_reducible refine (stockadelaw01_holds.calls k 1 wide a b c1 true _ h1.out).mono ?_); rintro e w' ⟨rfl, ⟨nd, rfl⟩⟩))
  refine gen_w (R := fun wg => Code.rounds _ _ _ _ _ wg) (fun wg => Aside0 (wg.heap[g]? = some (.cells #[.bool false, .bool c1, .bool false, .bool false, .bool false, .bool false, .bool false, .bool false, .bool false, .bool false, .bool false, .bool false, .bool false, .bool false] 48 (0, 0))) ∧ Aside0 (Below w.heap.size w wg)) ⟨⟨bk_now⟩, ⟨b_now⟩⟩ ?_
  clear BK HB hcz
  rintro wg1 ⟨BK, HB⟩
  have hcz := blk_all14 BK.out
  rw [rounds_succ]
  go_wp2_with (first | (go_at_call 26; (with_reducible refine (stockadelaw01_holds.calls k 2 wide a b c2 true _ h2.out).mono ?_); rintro e w' ⟨rfl, ⟨nd, rfl⟩⟩))
  refine gen_w (R := fun wg => Code.rounds _ _ _ _ _ wg) (fun wg => Aside0 (wg.heap[g]? = some (.cells #[.bool false, .bool c1, .bool c2, .bool false, .bool false, .bool false, .bool false, .bool false, .bool false, .bool false, .bool false, .bool false, .bool false, .bool false] 48 (0, 0))) ∧ Aside0 (Below w.heap.size w wg)) ⟨⟨bk_now⟩, ⟨b_now⟩⟩ ?_
  clear BK HB hcz
  rintro wg2 ⟨BK, HB⟩
  have hcz := blk_all14 BK.out
  rw [rounds_succ]
  go_wp2_with (first | (go_at_call 26; (with_reducible refine (stockadelaw01_holds.calls k 3 wide a b c3 true _ h3.out).mono ?_); rintro e w' ⟨rfl, ⟨nd, rfl⟩⟩))
  refine gen_w (R := fun wg => Code.rounds _ _ _ _ _ wg) (fun wg => Aside0 (wg.heap[g]? = some (.cells #[.bool false, .bool c1, .bool c2, .bool c3, .bool false, .bool false, .bool false, .bool false, .bool false, .bool false, .bool false, .bool false, .bool false, .bool false] 48 (0, 0))) ∧ Aside0 (Below w.heap.size w wg)) ⟨⟨bk_now⟩, ⟨b_now⟩⟩ ?_
  clear BK HB hcz
  rintro wg3 ⟨BK, HB⟩
  have hcz := blk_all14 BK.out
  rw [rounds_succ]
  go_wp2_with (first | (go_at_call 26; (with_reducible refine (stockadelaw01_holds.calls k 4 wide a b c4 true _ h4.out).mono ?_); rintro e w' ⟨rfl, ⟨nd, rfl⟩⟩))
  refine gen_w (R := fun wg => Code.rounds _ _ _ _ _ wg) (fun wg => Aside0 (wg.heap[g]? = some (.cells #[.bool false, .bool c1, .bool c2, .bool c3, .bool c4, .bool false, .bool false, .bool false, .bool false, .bool false, .bool false, .bool false, .bool false, .bool false] 48 (0, 0))) ∧ Aside0 (Below w.heap.size w wg)) ⟨⟨bk_now⟩, ⟨b_now⟩⟩ ?_
  clear BK HB hcz
  rintro wg4 ⟨BK, HB⟩
  have hcz := blk_all14 BK.out
  rw [rounds_succ]
  go_wp2_with (first | (go_at_call 26; (with_reducible refine (stockadelaw01_holds.calls k 5 wide a b c5 true _ h5.out).mono ?_); rintro e w' ⟨rfl, ⟨nd, rfl⟩⟩))
  refine gen_w (R := fun wg => Code.rounds _ _ _ _ _ wg) (fun wg => Aside0 (wg.heap[g]? = some (.cells #[.bool false, .bool c1, .bool c2, .bool c3, .bool c4, .bool c5, .bool false, .bool false, .bool false, .bool false, .bool false, .bool false, .bool false, .bool false] 48 (0, 0))) ∧ Aside0 (Below w.heap.size w wg)) ⟨⟨bk_now⟩, ⟨b_now⟩⟩ ?_
  clear BK HB hcz
  rintro wg5 ⟨BK, HB⟩
  have hcz := blk_all14 BK.out
  rw [rounds_succ]
  go_wp2_with (first | (go_at_call 26; (with_reducible refine (stockadelaw01_holds.calls k 6 wide a b c6 true _ h6.out).mono ?_); rintro e w' ⟨rfl, ⟨nd, rfl⟩⟩))
  refine gen_w (R := fun wg => Code.rounds _ _ _ _ _ wg) (fun wg => Aside0 (wg.heap[g]? = some (.cells #[.bool false, .bool c1, .bool c2, .bool c3, .bool c4, .bool c5, .bool c6, .bool false, .bool false, .bool false, .bool false, .bool false, .bool false, .bool false] 48 (0, 0))) ∧ Aside0 (Below w.heap.size w wg)) ⟨⟨bk_now⟩, ⟨b_now⟩⟩ ?_
  clear BK HB hcz
  rintro wg6 ⟨BK, HB⟩
  have hcz := blk_all14 BK.out
  rw [rounds_succ]
  go_wp2_with (first | (go_at_call 26; (with_reducible refine (stockadelaw01_holds.calls k 7 wide a b c7 true _ h7.out).mono ?_); rintro e w' ⟨rfl, ⟨nd, rfl⟩⟩))
  refine gen_w (R := fun wg => Code.rounds _ _ _ _ _ wg) (fun wg => Aside0 (wg.heap[g]? = some (.cells #[.bool false, .bool c1, .bool c2, .bool c3, .bool c4, .bool c5, .bool c6, .bool c7, .bool false, .bool false, .bool false, .bool false, .bool false, .bool false] 48 (0, 0))) ∧ Aside0 (Below w.heap.size w wg)) ⟨⟨bk_now⟩, ⟨b_now⟩⟩ ?_
  clear BK HB hcz
  rintro wg7 ⟨BK, HB⟩
  have hcz := blk_all14 BK.out
  rw [rounds_succ]
  go_wp2_with (first | (go_at_call 26; (with_reducible refine (stockadelaw01_holds.calls k 10 wide a b c10 true _ h10.out).mono ?_); rintro e w' ⟨rfl, ⟨nd, rfl⟩⟩))
  refine gen_w (R := fun wg => Code.rounds _ _ _ _ _ wg) (fun wg => Aside0 (wg.heap[g]? = some (.cells #[.bool false, .bool c1, .bool c2, .bool c3, .bool c4, .bool c5, .bool c6, .bool c7, .bool false, .bool false, .bool c10, .bool false, .bool false, .bool false] 48 (0, 0))) ∧ Aside0 (Below w.heap.size w wg)) ⟨⟨bk_now⟩, ⟨b_now⟩⟩ ?_
  clear BK HB hcz
  rintro wg8 ⟨BK, HB⟩
  have hcz := blk_all14 BK.out
  rw [rounds_succ]
  go_wp2_with (first | (go_at_call 26; (with_reducible refine (stockadelaw01_holds.calls k 11 wide a b c11 true _ h11.out).mono ?_); rintro e w' ⟨rfl, ⟨nd, rfl⟩⟩))
  refine gen_w (R := fun wg => Code.rounds _ _ _ _ _ wg) (fun wg => Aside0 (wg.heap[g]? = some (.cells #[.bool false, .bool c1, .bool c2, .bool c3, .bool c4, .bool c5, .bool c6, .bool c7, .bool false, .bool false, .bool c10, .bool c11, .bool false, .bool false] 48 (0, 0))) ∧ Aside0 (Below w.heap.size w wg)) ⟨⟨bk_now⟩, ⟨b_now⟩⟩ ?_
  clear BK HB hcz
  rintro wg9 ⟨BK, HB⟩
  have hcz := blk_all14 BK.out
  rw [rounds_succ]
  go_wp2_with (first | (go_at_call 26; (with_reducible refine (stockadelaw01_holds.calls k 12 wide a b c12 true _ h12.out).mono ?_); rintro e w' ⟨rfl, ⟨nd, rfl⟩⟩))
  refine gen_w (R := fun wg => Code.rounds _ _ _ _ _ wg) (fun wg => Aside0 (wg.heap[g]? = some (.cells #[.bool false, .bool c1, .bool c2, .bool c3, .bool c4, .bool c5, .bool c6, .bool c7, .bool false, .bool false, .bool c10, .bool c11, .bool c12, .bool false] 48 (0, 0))) ∧ Aside0 (Below w.heap.size w wg)) ⟨⟨bk_now⟩, ⟨b_now⟩⟩ ?_
  clear BK HB hcz
  rintro wg10 ⟨BK, HB⟩
  have hcz := blk_all14 BK.out
  rw [rounds_succ]
  go_wp2_with (first | (go_at_call 26; (with_reducible refine (stockadelaw01_holds.calls k 13 wide a b c13 true _ h13.out).mono ?_); rintro e w' ⟨rfl, ⟨nd, rfl⟩⟩))
  refine gen_w (R := fun wg => Code.rounds _ _ _ _ _ wg) (fun wg => Aside0 (wg.heap[g]? = some (.cells #[.bool false, .bool c1, .bool c2, .bool c3, .bool c4, .bool c5, .bool c6, .bool c7, .bool false, .bool false, .bool c10, .bool c11, .bool c12, .bool c13] 48 (0, 0))) ∧ Aside0 (Below w.heap.size w wg)) ⟨⟨bk_now⟩, ⟨b_now⟩⟩ ?_
  clear BK HB hcz
  rintro wg11 ⟨BK, HB⟩
  have hcz := blk_all14 BK.out
  rw [rounds_succ]
  go_upto_region 12 with (fail)
  replace hless := Aside0.mk hless
  subst e3 e5 e7 e11 e13 e4
  rcases hb with ⟨rfl, rfl, rfl, rfl, rfl⟩ | ⟨rfl, rfl, rfl⟩
  · simp only [Bool.not_true, Bool.not_false] at *
    clear ix0 ix1 ix2 ix3 ix4 ix5 ix6 ix7 ix8 ix9 ix10
    go_wp2
    refine wp_loop_rounds 4 ?_
    rw [rounds_succ]
    go_wp2
    rw [rounds_succ]
    go_wp2
    rw [rounds_succ]
    go_wp2
    rw [rounds_succ]
    go_wp2
    refine wp_loop_rounds 4 ?_
    rw [rounds_succ]
    go_wp2
    rw [rounds_succ]
    go_wp2
    rw [rounds_succ]
    go_wp2
    rw [rounds_succ]
    go_wp2_with (first
      | (go_at_call 24; (with_reducible refine (stockadelaw01_size.calls wide n _ hsz.out).mono ?_); rintro e w' ⟨rfl, ⟨nd, rfl⟩⟩)
      | (go_at_call 26; (with_reducible refine (stockadelaw01_holds.calls k 10 wide _ _ _ true _ hless.out).mono ?_); rintro e w' ⟨rfl, ⟨nd, rfl⟩⟩)
      | (go_at_call 23; (with_reducible refine (stockadelaw01_fit.calls wide a fa _ hfa.out).mono ?_); rintro e w' ⟨rfl, ⟨nd, rfl⟩⟩))
    go_quiet (first | (go_at_call 23; (with_reducible refine (stockadelaw01_fit.calls wide a fa _ hfa.out).mono ?_); rintro e w' ⟨rfl, ⟨nd, rfl⟩⟩; (try first | exact ⟨rfl, _, World.drewN_drewN _ _ _⟩ | exact ⟨rfl, _, Eq.trans (World.drewN_drewN _ _ _) (congrArg (World.drewN _) (Nat.add_assoc _ _ _))⟩)))
    try go_wp2
    go_ret
    exact ⟨ret_now, b_now⟩
  cases c10 <;> cases c12
  · simp only [Bool.not_true, Bool.not_false] at *
    clear ix0 ix1 ix2 ix3 ix4 ix5 ix6 ix7 ix8 ix9 ix10
    go_wp2
    refine wp_loop_rounds 4 ?_
    rw [rounds_succ]
    go_wp2
    rw [rounds_succ]
    go_wp2
    rw [rounds_succ]
    go_wp2
    rw [rounds_succ]
    go_wp2
    refine wp_loop_rounds 4 ?_
    rw [rounds_succ]
    go_wp2
    rw [rounds_succ]
    go_wp2
    rw [rounds_succ]
    go_wp2
    rw [rounds_succ]
    go_wp2_with (first
      | (go_at_call 24; (with_reducible refine (stockadelaw01_size.calls wide n _ hsz.out).mono ?_); rintro e w' ⟨rfl, ⟨nd, rfl⟩⟩)
      | (go_at_call 26; (with_reducible refine (stockadelaw01_holds.calls k 10 wide _ _ _ true _ hless.out).mono ?_); rintro e w' ⟨rfl, ⟨nd, rfl⟩⟩)
      | (go_at_call 23; (with_reducible refine (stockadelaw01_fit.calls wide a fa _ hfa.out).mono ?_); rintro e w' ⟨rfl, ⟨nd, rfl⟩⟩))
    go_quiet (first | (go_at_call 23; (with_reducible refine (stockadelaw01_fit.calls wide a fa _ hfa.out).mono ?_); rintro e w' ⟨rfl, ⟨nd, rfl⟩⟩; (try first | exact ⟨rfl, _, World.drewN_drewN _ _ _⟩ | exact ⟨rfl, _, Eq.trans (World.drewN_drewN _ _ _) (congrArg (World.drewN _) (Nat.add_assoc _ _ _))⟩)))
    try go_wp2
    go_ret
    exact ⟨ret_now, b_now⟩
  · simp only [Bool.not_true, Bool.not_false] at *
    clear ix0 ix1 ix2 ix3 ix4 ix5 ix6 ix7 ix8 ix9 ix10
    go_wp2
    refine wp_loop_rounds 4 ?_
    rw [rounds_succ]
    go_wp2
    rw [rounds_succ]
    go_wp2
    rw [rounds_succ]
    go_wp2
    rw [rounds_succ]
    go_wp2
    refine wp_loop_rounds 4 ?_
    rw [rounds_succ]
    go_wp2
    rw [rounds_succ]
    go_wp2
    rw [rounds_succ]
    go_wp2
    rw [rounds_succ]
    go_wp2_with (first
      | (go_at_call 24; (with_reducible refine (stockadelaw01_size.calls wide n _ hsz.out).mono ?_); rintro e w' ⟨rfl, ⟨nd, rfl⟩⟩)
      | (go_at_call 26; (with_reducible refine (stockadelaw01_holds.calls k 10 wide _ _ _ true _ hless.out).mono ?_); rintro e w' ⟨rfl, ⟨nd, rfl⟩⟩)
      | (go_at_call 23; (with_reducible refine (stockadelaw01_fit.calls wide a fa _ hfa.out).mono ?_); rintro e w' ⟨rfl, ⟨nd, rfl⟩⟩))
    go_quiet (first | (go_at_call 23; (with_reducible refine (stockadelaw01_fit.calls wide a fa _ hfa.out).mono ?_); rintro e w' ⟨rfl, ⟨nd, rfl⟩⟩; (try first | exact ⟨rfl, _, World.drewN_drewN _ _ _⟩ | exact ⟨rfl, _, Eq.trans (World.drewN_drewN _ _ _) (congrArg (World.drewN _) (Nat.add_assoc _ _ _))⟩)))
    try go_wp2
    go_ret
    exact ⟨ret_now, b_now⟩
  · simp only [Bool.not_true, Bool.not_false] at *
    clear ix0 ix1 ix2 ix3 ix4 ix5 ix6 ix7 ix8 ix9 ix10
    go_wp2
    refine wp_loop_rounds 4 ?_
    rw [rounds_succ]
    go_wp2
    rw [rounds_succ]
    go_wp2
    rw [rounds_succ]
    go_wp2
    rw [rounds_succ]
    go_wp2
    refine wp_loop_rounds 4 ?_
    rw [rounds_succ]
    go_wp2
    rw [rounds_succ]
    go_wp2
    rw [rounds_succ]
    go_wp2
    rw [rounds_succ]
    go_wp2_with (first
      | (go_at_call 24; (with_reducible refine (stockadelaw01_size.calls wide n _ hsz.out).mono ?_); rintro e w' ⟨rfl, ⟨nd, rfl⟩⟩)
      | (go_at_call 26; (with_reducible refine (stockadelaw01_holds.calls k 10 wide _ _ _ true _ hless.out).mono ?_); rintro e w' ⟨rfl, ⟨nd, rfl⟩⟩)
      | (go_at_call 23; (with_reducible refine (stockadelaw01_fit.calls wide a fa _ hfa.out).mono ?_); rintro e w' ⟨rfl, ⟨nd, rfl⟩⟩))
    go_quiet (first | (go_at_call 23; (with_reducible refine (stockadelaw01_fit.calls wide a fa _ hfa.out).mono ?_); rintro e w' ⟨rfl, ⟨nd, rfl⟩⟩; (try first | exact ⟨rfl, _, World.drewN_drewN _ _ _⟩ | exact ⟨rfl, _, Eq.trans (World.drewN_drewN _ _ _) (congrArg (World.drewN _) (Nat.add_assoc _ _ _))⟩)))
    try go_wp2
    go_ret
    exact ⟨ret_now, b_now⟩
  · simp only [Bool.not_true, Bool.not_false] at *
    clear ix0 ix1 ix2 ix3 ix4 ix5 ix6 ix7 ix8 ix9 ix10
    go_wp2
    refine wp_loop_rounds 4 ?_
    rw [rounds_succ]
    go_wp2
    rw [rounds_succ]
    go_wp2
    rw [rounds_succ]
    go_wp2
    rw [rounds_succ]
    go_wp2
    refine wp_loop_rounds 4 ?_
    rw [rounds_succ]
    go_wp2
    rw [rounds_succ]
    go_wp2
    rw [rounds_succ]
    go_wp2
    rw [rounds_succ]
    go_wp2_with (first
      | (go_at_call 24; (with_reducible refine (stockadelaw01_size.calls wide n _ hsz.out).mono ?_); rintro e w' ⟨rfl, ⟨nd, rfl⟩⟩)
      | (go_at_call 26; (with_reducible refine (stockadelaw01_holds.calls k 10 wide _ _ _ true _ hless.out).mono ?_); rintro e w' ⟨rfl, ⟨nd, rfl⟩⟩)
      | (go_at_call 23; (with_reducible refine (stockadelaw01_fit.calls wide a fa _ hfa.out).mono ?_); rintro e w' ⟨rfl, ⟨nd, rfl⟩⟩))
    go_quiet (first | (go_at_call 23; (with_reducible refine (stockadelaw01_fit.calls wide a fa _ hfa.out).mono ?_); rintro e w' ⟨rfl, ⟨nd, rfl⟩⟩; (try first | exact ⟨rfl, _, World.drewN_drewN _ _ _⟩ | exact ⟨rfl, _, Eq.trans (World.drewN_drewN _ _ _) (congrArg (World.drewN _) (Nat.add_assoc _ _ _))⟩)))
    try go_wp2
    go_ret
    exact ⟨ret_now, b_now⟩
end Go.Proofs.Ytgmgnlmhfhdfgaa.P
