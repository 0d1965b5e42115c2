/- Made by this session's driver over the kit's printer: for each Go function a Lean function with the same answers, and a proof that the Go call comes to these answers; no conditions but the ones each theorem names. -/
import Derived.Test.YtondogoepcndiaaDoorPx0
import Derived.Test.YtondogoepcndiaaDoorV
import Derived.Test.YtondogoepcndiaaDoorNu
import Derived.Defers
import Derived.Recover
import Derived.Test.YtondogoepcndiaaDoorPx6
import Derived.Test.YtondogoepcndiaaDoorPx9
import Derived.Test.YtondogoepcndiaaDoorPx10
import Derived.Test.YtondogoepcndiaaDoorPx19
import Derived.Test.YtondogoepcndiaaDoorPx20
import Derived.Test.YtondogoepcndiaaDoorPxXXCu
import Derived.Test.YtondogoepcndiaaDoorPxXXNi
namespace Go.Proofs.YtondogoepcndiaaDoor.P
open Go.RowKit Go.Proofs.YtondogoepcndiaaDoorW.PrintWords Go.Proofs.YtondogoepcndiaaDoorW.PrintLast Go.Proofs.YtondogoepcndiaaDoorW.PrintMore
attribute [local go_sem] max2_int min2_int max_two min_two max_three min_three max_four min_four   -- for this text's walks alone
set_option linter.unusedVariables false
set_option linter.unusedSimpArgs false

/-! ### insn_Places: function 41 -/
def insn_Places.f (k : Nat) (a0_0 : Int) (a0_1 : Int) (a0_2 : Int) (a0_3 : Int) (a0_4 : Int) : Option (Int) := (insn_Of.f k a0_0 a0_1 a0_2 a0_3 a0_4).bind fun bt287 => (if bt287.2.2.2.2.2 = 0 then (if bt287.1 = 10 then (some 2) else (if bt287.1 = 11 then (some 2) else (some 1))) else (some 0))
theorem insn_Places.mono : ∀ a0 a1 a2 a3 a4 k, LeO (insn_Places.f k a0 a1 a2 a3 a4) (insn_Places.f (k + 1) a0 a1 a2 a3 a4) := by
 intro a0 a1 a2 a3 a4 k
 unfold insn_Places.f
 repeat' first
   | (with_reducible exact insn_Of.mono _ _ _ _ _ _)
   | (with_reducible exact LeO.refl _)
   | (with_reducible exact LeO.none _)
   | (with_reducible refine LeO.ite ?_ ?_)
   | (with_reducible refine LeO.bind ?_ (fun _ => ?_))
   | refine LeO.ite ?_ ?_
   | refine LeO.bind ?_ (fun _ => ?_)
set_option maxHeartbeats 8000000 in
set_option maxRecDepth 100000 in
theorem insn_Places.calls (k : Nat) (a0_0 : Int) (a0_1 : Int) (a0_2 : Int) (a0_3 : Int) (a0_4 : Int) (r : Int) (w : World) (hrG2 : Kd.C (Kd.int .i64) w (some ⟨2, 0, none⟩) gl2.length gl2) (h : insn_Places.f k a0_0 a0_1 a0_2 a0_3 a0_4 = some r) :
  Calls Tryd.prog 41 #[.agg #[.int .u8 a0_0, .int .u8 a0_1, .int .u8 a0_2, .int .i16 a0_3, .int .i32 a0_4]] w fun e w' => e = .returned (.int .i64 r) ∧ Below w.heap.size w w' := by
 have hu37 := Tryd.underlying37
 have hu49 := Tryd.underlying49
 have HRG2 := Aside0.mk hrG2
 clear hrG2
 have HB := Aside0.mk (Below.refl w.heap.size w)
 have H : ((insn_Of.f k a0_0 a0_1 a0_2 a0_3 a0_4).bind fun bt287 => (if bt287.2.2.2.2.2 = 0 then (if bt287.1 = 10 then (some 2) else (if bt287.1 = 11 then (some 2) else (some 1))) else (some 0))) = some r := h
 clear h
 obtain ⟨⟨t287, t288, t289, t290, t291, t292⟩, A2, H⟩ := bs_ H; try dsimp only at H
 by_cases c3 : t292 = 0
 ·rw [if_pos c3] at H
  obtain ⟨c3b0, c3b1⟩ := eqT c3
  clear c3
  by_cases c4 : t287 = 10
  ·rw [if_pos c4] at H
   obtain ⟨c4b0, c4b1⟩ := eqT c4
   clear c4
   obtain rfl := Option.some.inj H
   go_enter Tryd.func41, Tryd.ntmps41
   go_wp2_with (first | ((with_reducible refine gate_dst (N := 1) rfl ?_); refine sh_box 1 #[.int .u8 a0_0, .int .u8 a0_1, .int .u8 a0_2, .int .i16 a0_3, .int .i32 a0_4] 37 ?_; intro gb286 hg w5 hbox hb; have GE286 := sh_z (w := w) hg; replace HB := sh_b (w := w) hb; have BK286 := Aside0.mk (hbox); clear hb hbox hg; have hcz6 := blk_all5 BK286.out) | ((with_reducible refine gate_callee (f := 14) rfl ?_); refine sh_call (some 7) Tryd.func14 #[.agg #[.int .u8 a0_0, .int .u8 a0_1, .int .u8 a0_2, .int .i16 a0_3, .int .i32 a0_4]] ?_; (with_reducible refine (insn_Of.calls k a0_0 a0_1 a0_2 a0_3 a0_4 t287 t288 t289 t290 t291 t292 _ ?side1 A2.out).mono ?_); (case side1 => repeat (first | exact (Kd.C_below HRG2.out HB.out) | (with_reducible refine Kd.C_alloc ?_ _) | (with_reducible refine Kd.C_drewN ?_ _) | (with_reducible refine Kd.C_drew ?_))); rintro e w7 ⟨rfl, hb⟩; refine ⟨_, rfl, ?_⟩; replace BK286 := sh_k BK286 hb; replace HB := sh_b (w := w) hb; (try clear hb); (try clear hb2); (try clear hk); (try clear hi)) | ((with_reducible refine gate_dst (N := 3) rfl ?_); refine sh_box 3 #[.int .i64 0, .int .i64 0, .int .i64 0, .bool false, .bool false] 49 ?_; intro gb293 hg w8 hbox hb; have GE293 := sh_z (w := w) hg; have NB286_293 := sh_n BK286 hg; have NB293_286 := sh_s NB286_293; replace BK286 := sh_k BK286 hb; replace HB := sh_b (w := w) hb; have BK293 := Aside0.mk (hbox); clear hb hbox hg; obtain ⟨hnb9, hnc9⟩ := nb_ NB293_286; have hcz10 := blk_all5 BK293.out))
   go_ret
   exact ⟨ret_now, b_now⟩
  ·rw [if_neg c4] at H
   obtain ⟨c4b0, c4b1⟩ := eqF c4
   by_cases c11 : t287 = 11
   ·rw [if_pos c11] at H
    obtain ⟨c11b0, c11b1⟩ := eqT c11
    clear c11
    obtain rfl := Option.some.inj H
    go_enter Tryd.func41, Tryd.ntmps41
    go_wp2_with (first | ((with_reducible refine gate_dst (N := 1) rfl ?_); refine sh_box 1 #[.int .u8 a0_0, .int .u8 a0_1, .int .u8 a0_2, .int .i16 a0_3, .int .i32 a0_4] 37 ?_; intro gb286 hg w12 hbox hb; have GE286 := sh_z (w := w) hg; replace HB := sh_b (w := w) hb; have BK286 := Aside0.mk (hbox); clear hb hbox hg; have hcz13 := blk_all5 BK286.out) | ((with_reducible refine gate_callee (f := 14) rfl ?_); refine sh_call (some 7) Tryd.func14 #[.agg #[.int .u8 a0_0, .int .u8 a0_1, .int .u8 a0_2, .int .i16 a0_3, .int .i32 a0_4]] ?_; (with_reducible refine (insn_Of.calls k a0_0 a0_1 a0_2 a0_3 a0_4 t287 t288 t289 t290 t291 t292 _ ?side1 A2.out).mono ?_); (case side1 => repeat (first | exact (Kd.C_below HRG2.out HB.out) | (with_reducible refine Kd.C_alloc ?_ _) | (with_reducible refine Kd.C_drewN ?_ _) | (with_reducible refine Kd.C_drew ?_))); rintro e w14 ⟨rfl, hb⟩; refine ⟨_, rfl, ?_⟩; replace BK286 := sh_k BK286 hb; replace HB := sh_b (w := w) hb; (try clear hb); (try clear hb2); (try clear hk); (try clear hi)) | ((with_reducible refine gate_dst (N := 3) rfl ?_); refine sh_box 3 #[.int .i64 0, .int .i64 0, .int .i64 0, .bool false, .bool false] 49 ?_; intro gb293 hg w15 hbox hb; have GE293 := sh_z (w := w) hg; have NB286_293 := sh_n BK286 hg; have NB293_286 := sh_s NB286_293; replace BK286 := sh_k BK286 hb; replace HB := sh_b (w := w) hb; have BK293 := Aside0.mk (hbox); clear hb hbox hg; obtain ⟨hnb16, hnc16⟩ := nb_ NB293_286; have hcz17 := blk_all5 BK293.out))
    go_ret
    exact ⟨ret_now, b_now⟩
   ·rw [if_neg c11] at H
    obtain ⟨c11b0, c11b1⟩ := eqF c11
    obtain rfl := Option.some.inj H
    go_enter Tryd.func41, Tryd.ntmps41
    go_wp2_with (first | ((with_reducible refine gate_dst (N := 1) rfl ?_); refine sh_box 1 #[.int .u8 a0_0, .int .u8 a0_1, .int .u8 a0_2, .int .i16 a0_3, .int .i32 a0_4] 37 ?_; intro gb286 hg w18 hbox hb; have GE286 := sh_z (w := w) hg; replace HB := sh_b (w := w) hb; have BK286 := Aside0.mk (hbox); clear hb hbox hg; have hcz19 := blk_all5 BK286.out) | ((with_reducible refine gate_callee (f := 14) rfl ?_); refine sh_call (some 7) Tryd.func14 #[.agg #[.int .u8 a0_0, .int .u8 a0_1, .int .u8 a0_2, .int .i16 a0_3, .int .i32 a0_4]] ?_; (with_reducible refine (insn_Of.calls k a0_0 a0_1 a0_2 a0_3 a0_4 t287 t288 t289 t290 t291 t292 _ ?side1 A2.out).mono ?_); (case side1 => repeat (first | exact (Kd.C_below HRG2.out HB.out) | (with_reducible refine Kd.C_alloc ?_ _) | (with_reducible refine Kd.C_drewN ?_ _) | (with_reducible refine Kd.C_drew ?_))); rintro e w20 ⟨rfl, hb⟩; refine ⟨_, rfl, ?_⟩; replace BK286 := sh_k BK286 hb; replace HB := sh_b (w := w) hb; (try clear hb); (try clear hb2); (try clear hk); (try clear hi)) | ((with_reducible refine gate_dst (N := 3) rfl ?_); refine sh_box 3 #[.int .i64 0, .int .i64 0, .int .i64 0, .bool false, .bool false] 49 ?_; intro gb293 hg w21 hbox hb; have GE293 := sh_z (w := w) hg; have NB286_293 := sh_n BK286 hg; have NB293_286 := sh_s NB286_293; replace BK286 := sh_k BK286 hb; replace HB := sh_b (w := w) hb; have BK293 := Aside0.mk (hbox); clear hb hbox hg; obtain ⟨hnb22, hnc22⟩ := nb_ NB293_286; have hcz23 := blk_all5 BK293.out))
    go_ret
    exact ⟨ret_now, b_now⟩
 ·rw [if_neg c3] at H
  obtain ⟨c3b0, c3b1⟩ := eqF c3
  obtain rfl := Option.some.inj H
  go_enter Tryd.func41, Tryd.ntmps41
  go_wp2_with (first | ((with_reducible refine gate_dst (N := 1) rfl ?_); refine sh_box 1 #[.int .u8 a0_0, .int .u8 a0_1, .int .u8 a0_2, .int .i16 a0_3, .int .i32 a0_4] 37 ?_; intro gb286 hg w24 hbox hb; have GE286 := sh_z (w := w) hg; replace HB := sh_b (w := w) hb; have BK286 := Aside0.mk (hbox); clear hb hbox hg; have hcz25 := blk_all5 BK286.out) | ((with_reducible refine gate_callee (f := 14) rfl ?_); refine sh_call (some 7) Tryd.func14 #[.agg #[.int .u8 a0_0, .int .u8 a0_1, .int .u8 a0_2, .int .i16 a0_3, .int .i32 a0_4]] ?_; (with_reducible refine (insn_Of.calls k a0_0 a0_1 a0_2 a0_3 a0_4 t287 t288 t289 t290 t291 t292 _ ?side1 A2.out).mono ?_); (case side1 => repeat (first | exact (Kd.C_below HRG2.out HB.out) | (with_reducible refine Kd.C_alloc ?_ _) | (with_reducible refine Kd.C_drewN ?_ _) | (with_reducible refine Kd.C_drew ?_))); rintro e w26 ⟨rfl, hb⟩; refine ⟨_, rfl, ?_⟩; replace BK286 := sh_k BK286 hb; replace HB := sh_b (w := w) hb; (try clear hb); (try clear hb2); (try clear hk); (try clear hi)) | ((with_reducible refine gate_dst (N := 3) rfl ?_); refine sh_box 3 #[.int .i64 0, .int .i64 0, .int .i64 0, .bool false, .bool false] 49 ?_; intro gb293 hg w27 hbox hb; have GE293 := sh_z (w := w) hg; have NB286_293 := sh_n BK286 hg; have NB293_286 := sh_s NB286_293; replace BK286 := sh_k BK286 hb; replace HB := sh_b (w := w) hb; have BK293 := Aside0.mk (hbox); clear hb hbox hg; obtain ⟨hnb28, hnc28⟩ := nb_ NB293_286; have hcz29 := blk_all5 BK293.out))
  go_ret
  exact ⟨ret_now, b_now⟩

/-! ### asm_one: function 23 -/
def asm_one.j0 : Nat → Int → Bool → Int → Int → Int → Int → Int → Option ((List (S37)))
 | 0, _, _, _, _, _, _, _ => none
 | k + 1, x5, x29, x307000, x307001, x307002, x307003, x307004 => if x29 = true then (some ([] : List (S37))) else ((insn_Places.f k x307000 x307001 x307002 x307003 x307004).bind fun t314 => (if t314 = 2 then (some (([(⟨x307000, x307001, x307002, x307003, x307004⟩ : S37), (⟨0, 0, 0, 0, x5⟩ : S37)] : List (S37)))) else (some (([(⟨x307000, x307001, x307002, x307003, x307004⟩ : S37)] : List (S37))))))
def asm_one.f (k : Nat) (a0 : ByteArray) : Option ((List (S37))) := (asm_read.f k a0).bind fun bt294 => (if bt294.1 = (-1) then (some ([] : List (S37))) else ((insn_Make.f k bt294.1 bt294.2.1 bt294.2.2.1 bt294.2.2.2.1 bt294.2.2.2.2.1 bt294.2.2.2.2.2.1 bt294.2.2.2.2.2.2.1 bt294.2.2.2.2.2.2.2.1 bt294.2.2.2.2.2.2.2.2.1 bt294.2.2.2.2.2.2.2.2.2.1).bind fun bt307 => (if bt307.2.2.2.2.2 = 0 then ((asm_line.f k bt294.1 bt294.2.1 bt294.2.2.1 bt294.2.2.2.1 bt294.2.2.2.2.1 bt307.1 bt307.2.1 bt307.2.2.1 bt307.2.2.2.1 bt307.2.2.2.2.1 bt294.2.2.2.2.2.2.2.2.2.2).bind fun t313 => (asm_one.j0 k bt294.2.2.2.2.2.2.2.2.2.2 (t313.toList != a0.toList) bt307.1 bt307.2.1 bt307.2.2.1 bt307.2.2.2.1 bt307.2.2.2.2.1)) else (asm_one.j0 k bt294.2.2.2.2.2.2.2.2.2.2 true bt307.1 bt307.2.1 bt307.2.2.1 bt307.2.2.2.1 bt307.2.2.2.2.1))))
theorem asm_one.mono_l : ∀ k, (∀ y0 y1 y2 y3 y4 y5 y6, LeO (asm_one.j0 k y0 y1 y2 y3 y4 y5 y6) (asm_one.j0 (k + 1) y0 y1 y2 y3 y4 y5 y6))
 | 0 => fun _ _ _ _ _ _ _ r h => by simp [asm_one.j0] at h
 | k + 1 => by
  have ih0 := asm_one.mono_l k
  ·intro y0 y1 y2 y3 y4 y5 y6
   unfold asm_one.j0
   repeat' first
   | (with_reducible exact ih0 _ _ _ _ _ _ _)
   | (with_reducible exact asm_line.mono _ _ _ _ _ _ _ _ _ _ _ _)
   | (with_reducible exact asm_read.mono _ _)
   | (with_reducible exact insn_Make.mono _ _ _ _ _ _ _ _ _ _ _)
   | (with_reducible exact insn_Places.mono _ _ _ _ _ _)
   | (with_reducible exact LeO.refl _)
   | (with_reducible exact LeO.none _)
   | (with_reducible refine LeO.ite ?_ ?_)
   | (with_reducible refine LeO.bind ?_ (fun _ => ?_))
   | refine LeO.ite ?_ ?_
   | refine LeO.bind ?_ (fun _ => ?_)
theorem asm_one.mono : ∀ a0 k, LeO (asm_one.f k a0) (asm_one.f (k + 1) a0) := by
 intro a0 k
 have ih0 := asm_one.mono_l k
 unfold asm_one.f
 repeat' first
   | (with_reducible exact ih0 _ _ _ _ _ _ _)
   | (with_reducible exact asm_line.mono _ _ _ _ _ _ _ _ _ _ _ _)
   | (with_reducible exact asm_read.mono _ _)
   | (with_reducible exact insn_Make.mono _ _ _ _ _ _ _ _ _ _ _)
   | (with_reducible exact insn_Places.mono _ _ _ _ _ _)
   | (with_reducible exact LeO.refl _)
   | (with_reducible exact LeO.none _)
   | (with_reducible refine LeO.ite ?_ ?_)
   | (with_reducible refine LeO.bind ?_ (fun _ => ?_))
   | refine LeO.ite ?_ ?_
   | refine LeO.bind ?_ (fun _ => ?_)
theorem rec38_panicking (p : Addr) (x : Value) (u : TypeId) (pv : Value) (older : List PanicEntry) (w : World) (hc : w.cell? p = some x) (hz : w.frozen? p = false) :
  CallsD Tryd.prog 38 #[.pointer (some p)] (.panicking ({ v := .iface u pv, recovered := false } :: older)) w fun e u' w' =>
   e = .returned (.tuple #[]) ∧ u' = .panicking ({ v := .iface u pv, recovered := true } :: older) ∧ w' = w.setCell p (.slice none 0 0) := by
 refine callsD_of_wpS Tryd.func38 rfl fun c₀ cs hu => ?_
 apply wpS_seq
 apply wpS_region
 simp [wpOpsS, go_sem, recoverD, hu, Tryd.ntmps38, Exit.thenS]
 refine wpS_cond (t := true) (by simp [Act.eval, Array.replicate]) ?_
 simp only [if_true]
 apply wpS_region
 simp [wpOpsS, go_sem, hc, hz, bodyPostS, results, Tryd.results38]
theorem rec38_idle (p : Addr) (w : World) :
  CallsD Tryd.prog 38 #[.pointer (some p)] .returning w fun e u' w' => e = .returned (.tuple #[]) ∧ u' = .returning ∧ w' = w := by
 refine callsD_of_wpS Tryd.func38 rfl fun c₀ cs hu => ?_
 apply wpS_seq
 apply wpS_region
 simp [wpOpsS, go_sem, recoverD, hu, Tryd.ntmps38, Exit.thenS]
 refine wpS_cond (t := false) (by simp [Act.eval, Array.replicate]) ?_
 simp only [Bool.false_eq_true, if_false]
 refine wpS_of_wp (wp_skip ?_)
 cases c₀
 simp_all [bodyPostS, results, Tryd.results38]
abbrev OneR (w : World) (r : List S37) (e : Ending) (w' : World) : Prop := ∃ v0_ : Value, e = .returned (v0_) ∧ Kd.R k37 37 w' w.heap.size (fun _ => True) v0_ r ∧ Below w.heap.size w w' ∧ ((r = [] → v0_ = .slice none 0 0) ∧ (r ≠ [] → ∃ ad_ c_, v0_ = .slice (some ad_) r.length c_))
theorem one_panic {w W : World} {tmps : Array Value} {gb2 : Nat} {R : Ending → World → Prop} (hg : w.heap.size ≤ gb2) (hb : W.heap[gb2]? = some (.cells #[.slice none 0 0] 22 (0, 0))) (hB : Below w.heap.size w W) (ht : tmps[2]? = some (.pointer (some ⟨gb2, 0, none⟩))) (hR : ∀ W', Below w.heap.size w W' → R (.returned (.slice none 0 0)) W') :
  Leaves Tryd.prog Tryd.f23 tmps R [{ target := .fn (.func 38) #[.pointer (some ⟨gb2, 0, none⟩)], args := #[] }] (.panicking [{ v := wrongV, recovered := false }]) W := by
 have hcz1 := blk_all1 hb
 have hcz2 := hcz1.2 0
 refine leaves_cons (f := 38) (args := #[.pointer (some ⟨gb2, 0, none⟩)]) (by simp) (by simp [go_sem]) ?_
 refine (rec38_panicking ⟨gb2, 0, none⟩ (.slice none 0 0) _ _ [] _ hcz1.1 hcz2).mono ?_
 rintro e u' w'' ⟨rfl, rfl, rfl⟩
 refine ⟨.slice none 0 0, ?_, hR _ (below_set hB hg)⟩
 simp [results, Tryd.results23, go_sem, ht, hcz1.1]
theorem one_ret {w W : World} {tmps : Array Value} {gb2 : Nat} {v : Value} {r : List S37} (hb : W.heap[gb2]? = some (.cells #[v] 22 (0, 0))) (hB : Below w.heap.size w W) (ht : tmps[2]? = some (.pointer (some ⟨gb2, 0, none⟩))) (hR : Kd.R k37 37 W w.heap.size (fun _ => True) v r) (hn : r ≠ []) (hs : ∃ ad_ c_, v = .slice (some ad_) r.length c_) :
  Leaves Tryd.prog Tryd.f23 tmps (OneR w r) [{ target := .fn (.func 38) #[.pointer (some ⟨gb2, 0, none⟩)], args := #[] }] .returning W := by
 have hcz1 := blk_all1 hb
 refine leaves_cons (f := 38) (args := #[.pointer (some ⟨gb2, 0, none⟩)]) (by simp) (by simp [go_sem]) ?_
 refine (rec38_idle ⟨gb2, 0, none⟩ _).mono ?_
 rintro e u' w'' ⟨rfl, rfl, rfl⟩
 refine ⟨v, ?_, v, rfl, hR, hB, fun h => absurd h hn, fun _ => hs⟩
 simp [results, Tryd.results23, go_sem, ht, hcz1.1]
set_option maxHeartbeats 8000000 in
set_option maxRecDepth 100000 in
theorem asm_one.calls2 (k : Nat) (a0 : ByteArray) (r : List (S37)) (w : World) (hrG0 : Kd.C Kd.string w (some ⟨0, 0, none⟩) gl0.length gl0) (hrG1 : Kd.C Kd.string w (some ⟨1, 0, none⟩) gl1.length gl1) (hrG2 : Kd.C (Kd.int .i64) w (some ⟨2, 0, none⟩) gl2.length gl2) (hrG3 : Kd.C kGF w (some ⟨3, 0, none⟩) gl3.length gl3) (h : asm_one.f k a0 = some r) :
  Calls Tryd.prog 23 #[.string a0] w fun e w' => ∃ v0_ : Value, e = .returned (v0_) ∧ Kd.R k37 37 w' w.heap.size (fun _ => True) v0_ r ∧ Below w.heap.size w w' ∧ ((r = [] → v0_ = .slice none 0 0) ∧ (r ≠ [] → ∃ ad_ c_, v0_ = .slice (some ad_) r.length c_)) := by
 have hmf : ∀ (fn : Fn) (first cap : Array Value) (w : World), (Instr.makeFunc fn first cap).run Tryd.prog w = .ok (.func fn first cap) w := fun _ _ _ _ => rfl
 have hu22 := Tryd.underlying22
 have hu49 := Tryd.underlying49
 have hu37 := Tryd.underlying37
 have HRG0 := Aside0.mk hrG0
 clear hrG0
 have HRG1 := Aside0.mk hrG1
 clear hrG1
 have HRG2 := Aside0.mk hrG2
 clear hrG2
 have HRG3 := Aside0.mk hrG3
 clear hrG3
 have HB := Aside0.mk (Below.refl w.heap.size w)
 have H : ((asm_read.f k a0).bind fun bt294 => (if bt294.1 = (-1) then (some ([] : List (S37))) else ((insn_Make.f k bt294.1 bt294.2.1 bt294.2.2.1 bt294.2.2.2.1 bt294.2.2.2.2.1 bt294.2.2.2.2.2.1 bt294.2.2.2.2.2.2.1 bt294.2.2.2.2.2.2.2.1 bt294.2.2.2.2.2.2.2.2.1 bt294.2.2.2.2.2.2.2.2.2.1).bind fun bt307 => (if bt307.2.2.2.2.2 = 0 then ((asm_line.f k bt294.1 bt294.2.1 bt294.2.2.1 bt294.2.2.2.1 bt294.2.2.2.2.1 bt307.1 bt307.2.1 bt307.2.2.1 bt307.2.2.2.1 bt307.2.2.2.2.1 bt294.2.2.2.2.2.2.2.2.2.2).bind fun t313 => (asm_one.j0 k bt294.2.2.2.2.2.2.2.2.2.2 (t313.toList != a0.toList) bt307.1 bt307.2.1 bt307.2.2.1 bt307.2.2.2.1 bt307.2.2.2.2.1)) else (asm_one.j0 k bt294.2.2.2.2.2.2.2.2.2.2 true bt307.1 bt307.2.1 bt307.2.2.1 bt307.2.2.2.1 bt307.2.2.2.2.1))))) = some r := h
 clear h
 obtain ⟨⟨t294, t295, t296, t297, t298, t299, t300, t301, t302, t303, t304⟩, A2, H⟩ := bs_ H; try dsimp only at H
 by_cases c3 : t294 = (-1)
 ·rw [if_pos c3] at H
  obtain ⟨c3b0, c3b1⟩ := eqT c3
  clear c3
  obtain rfl := Option.some.inj H
  go_enter_defers Tryd.func23, Tryd.ntmps23
  go_wp2_with (first | ((with_reducible refine gate_dst (N := 2) rfl ?_); refine sh_box 2 #[.slice none 0 0] 22 ?_; intro gb2 hg w2 hbox hb; have GE2 := sh_z (w := w) hg; replace HB := sh_b (w := w) hb; have BK2 := Aside0.mk (hbox); clear hb hbox hg) | ((with_reducible refine gate_callee (f := 39) rfl ?_); refine sh_callX Tryd.func39 #[.string a0] ?_; (with_reducible refine (asm_read.bad k a0 t294 t295 t296 t297 t298 t299 t300 t301 t302 t303 t304 _ ?side1 ?side2 ?side3 A2.out (beq_iff_eq.mp c3b0)).mono ?_); (case side1 => exact Kd.C_below HRG0.out b_now); (case side2 => exact Kd.C_below HRG1.out b_now); (case side3 => exact Kd.C_below HRG3.out b_now); rintro e w4 ⟨hbad, hb⟩; refine ⟨_, hbad, ?_⟩; replace BK2 := sh_kp (g := gb2) (t := 22) #[.slice none 0 0] hb; replace HB := sh_b (w := w) hb))
  refine (show Leaves Tryd.prog Tryd.f23 _ _ _ (.panicking [{ v := wrongV, recovered := false }]) _ from ?_)
  exact one_panic GE2.out bk_now b_now rfl (fun W' hB' => ⟨.slice none 0 0, rfl, Kd.R_nil _ _ _ _ _, hB', by simp⟩)

 ·rw [if_neg c3] at H
  obtain ⟨c3b0, c3b1⟩ := eqF c3
  obtain ⟨⟨t307, t308, t309, t310, t311, t312⟩, A10, H⟩ := bs_ H; try dsimp only at H
  have HC11 := Aside0.mk H
  clear H
  go_enter_defers Tryd.func23, Tryd.ntmps23
  go_upto_region 4 with (first | ((with_reducible refine gate_dst (N := 2) rfl ?_); refine sh_box 2 #[.slice none 0 0] 22 ?_; intro gb2 hg w2 hbox hb; have GE2 := sh_z (w := w) hg; replace HB := sh_b (w := w) hb; have BK2 := Aside0.mk (hbox); clear hb hbox hg) | ((with_reducible refine gate_callee (f := 39) rfl ?_); refine sh_call (some 10) Tryd.func39 #[.string a0] ?_; (with_reducible refine (asm_read.calls k a0 t294 t295 t296 t297 t298 t299 t300 t301 t302 t303 t304 _ ?side1 ?side2 ?side3 A2.out).mono ?_); (case side1 => exact Kd.C_below HRG0.out b_now); (case side2 => exact Kd.C_below HRG1.out b_now); (case side3 => exact Kd.C_below HRG3.out b_now); rintro e w12 ⟨rfl, hb⟩; refine ⟨_, rfl, ?_⟩; replace BK2 := sh_kp (g := gb2) (t := 22) #[.slice none 0 0] hb; replace HB := sh_b (w := w) hb; (try clear hb); (try clear hb2); (try clear hk); (try clear hi)) | ((with_reducible refine gate_dst (N := 3) rfl ?_); refine sh_box 3 #[.int .i64 0, .int .i64 0, .int .i64 0, .bool false, .bool false] 49 ?_; intro gb305 hg w13 hbox hb; have GE305 := sh_z (w := w) hg; have NB2_305 := sh_n BK2 hg; have NB305_2 := sh_s NB2_305; replace BK2 := sh_kp (g := gb2) (t := 22) #[.slice none 0 0] hb; replace HB := sh_b (w := w) hb; have BK305 := Aside0.mk (hbox); clear hb hbox hg) | ((with_reducible refine gate_dst (N := 4) rfl ?_); refine sh_box 4 #[.int .u8 0, .int .u8 0, .int .u8 0, .int .i16 0, .int .i32 0] 37 ?_; intro gb306 hg w14 hbox hb; have GE306 := sh_z (w := w) hg; have NB2_306 := sh_n BK2 hg; have NB306_2 := sh_s NB2_306; have NB305_306 := sh_n BK305 hg; have NB306_305 := sh_s NB305_306; replace BK305 := sh_k BK305 hb; replace BK2 := sh_kp (g := gb2) (t := 22) #[.slice none 0 0] hb; replace HB := sh_b (w := w) hb; have BK306 := Aside0.mk (hbox); clear hb hbox hg; obtain ⟨hnb15, hnc15⟩ := nb_ NB305_306; have hcz16 := blk_all5 BK305.out; have hcz17 := blk_all5 BK306.out) | ((with_reducible refine gate_callee (f := 40) rfl ?_); refine sh_call (some 17) Tryd.func40 #[.agg #[.int .i64 t294, .int .i64 t295, .int .i64 t296, .bool t297, .bool t298], .agg #[.int .u8 t299, .int .u8 t300, .int .u8 t301, .int .i16 t302, .int .i32 t303]] ?_; (with_reducible refine (insn_Make.calls k t294 t295 t296 t297 t298 t299 t300 t301 t302 t303 t307 t308 t309 t310 t311 t312 _ ?side1 A10.out).mono ?_); (case side1 => exact Kd.C_below HRG2.out b_now); rintro e w18 ⟨rfl, hb⟩; refine ⟨_, rfl, ?_⟩; replace BK305 := sh_kp (g := gb305) (t := 49) #[.int .i64 t294, .int .i64 t295, .int .i64 t296, .bool t297, .bool t298] hb; replace BK306 := sh_kp (g := gb306) (t := 37) #[.int .u8 t299, .int .u8 t300, .int .u8 t301, .int .i16 t302, .int .i32 t303] hb; replace BK2 := sh_kp (g := gb2) (t := 22) #[.slice none 0 0] hb; replace HB := sh_b (w := w) hb; (try clear hb); (try clear hb2); (try clear hk); (try clear hi); have hcz19 := blk_all5 BK306.out))
  (try simp only [Act.put, List.setIfInBounds_toArray, List.set_cons_zero, List.set_cons_succ])
  go_cut [29] from 7 to 40 (fun v29 wc => ∃ (kq : Nat) (x29_10 : Bool), v29 = .bool x29_10 ∧ Aside0 (asm_one.j0 kq t304 x29_10 t307 t308 t309 t310 t311 = some r) ∧ Aside0 (kq ≤ k) ∧ Aside0 (wc.heap[gb305]? = some (.cells #[.int .i64 t294, .int .i64 t295, .int .i64 t296, .bool t297, .bool t298] 49 (0, 0))) ∧ Aside0 (wc.heap[gb306]? = some (.cells #[.int .u8 t307, .int .u8 t308, .int .u8 t309, .int .i16 t310, .int .i32 t311] 37 (0, 0))) ∧ Aside0 (wc.heap[gb2]? = some (.cells #[.slice none 0 0] 22 (0, 0))) ∧ Aside0 (Below w.heap.size w wc))
  case first =>
   have H := HC11.out
   clear HC11
   by_cases c20 : t312 = 0
   ·rw [if_pos c20] at H
    obtain ⟨c20b0, c20b1⟩ := eqT c20
    clear c20
    (first | rw [c20b0] | (simp only [i64_w, i32_w]; rw [c20b0]) | skip)
    obtain ⟨t313, A21, H⟩ := bs_ H; try dsimp only at H
    have H' := Aside0.mk H
    clear H
    obtain ⟨hnb22, hnc22⟩ := nb_ NB305_306
    have hcz23 := blk_all5 BK305.out
    have hcz24 := blk_all5 BK306.out
    go_wp2_with (first | (go_at_call 16; (with_reducible refine (asm_line.calls k t294 t295 t296 t297 t298 t307 t308 t309 t310 t311 t304 t313 _ ?side1 ?side2 ?side3 A21.out).mono ?_); (case side1 => exact Kd.C_below HRG0.out b_now); (case side2 => exact Kd.C_below HRG1.out b_now); (case side3 => exact Kd.C_below HRG3.out b_now); rintro e w25 ⟨rfl, hb⟩; replace BK305 := sh_kp (g := gb305) (t := 49) #[.int .i64 t294, .int .i64 t295, .int .i64 t296, .bool t297, .bool t298] hb; replace BK306 := sh_kp (g := gb306) (t := 37) #[.int .u8 t307, .int .u8 t308, .int .u8 t309, .int .i16 t310, .int .i32 t311] hb; replace BK2 := sh_kp (g := gb2) (t := 22) #[.slice none 0 0] hb; replace HB := sh_b (w := w) hb; (try clear hb); (try clear hb2); (try clear hk); (try clear hi)))
    go_meet
    case rel => exact ⟨_, ((t313.toList != a0.toList)), eq_now, H', ⟨by first | omega | exact Nat.le_refl _⟩, ⟨bk_now⟩, ⟨bk_now⟩, ⟨bk_now⟩, ⟨b_now⟩⟩
   ·rw [if_neg c20] at H
    obtain ⟨c20b0, c20b1⟩ := eqF c20
    (first | rw [c20b0] | (simp only [i64_w, i32_w]; rw [c20b0]) | skip)
    have H' := Aside0.mk H
    clear H
    go_wp2
    go_meet
    case rel => exact ⟨_, (true), eq_now, H', ⟨by first | omega | exact Nat.le_refl _⟩, ⟨bk_now⟩, ⟨bk_now⟩, ⟨bk_now⟩, ⟨b_now⟩⟩
  case rest =>
   clear HC11
   clear c3 c3b0 c3b1 hcz16 hcz17 hcz19
   clear BK2
   obtain ⟨kq, x29_10, rfl, HA, HJ10, BK305, BK306, BK2, HB⟩ := hcut
   have hne1 := NB305_2.out
   have hne2 := NB306_2.out
   have hne3 := NB2_305.out
   have hne4 := NB2_306.out
   cases kq with
   | zero => exact absurd HA.out (by simp [asm_one.j0])
   | succ kj10 =>
    have H := HA.out
    clear HA
    simp only [asm_one.j0] at H
    by_cases c26 : x29_10 = true
    ·subst c26
     replace H := sh_t H
     obtain rfl := Option.some.inj H
     go_wp2
     refine (show Leaves Tryd.prog Tryd.f23 _ _ _ (.panicking [{ v := wrongV, recovered := false }]) _ from ?_)
     exact one_panic GE2.out bk_now b_now rfl (fun W' hB' => ⟨.slice none 0 0, rfl, Kd.R_nil _ _ _ _ _, hB', by simp⟩)

    ·replace c26 := Bool.eq_false_iff.mpr c26
     subst c26
     replace H := sh_f H
     obtain ⟨t314, A27, H⟩ := bs_ H; try dsimp only at H
     by_cases c28 : t314 = 2
     ·rw [if_pos c28] at H
      obtain ⟨c28b0, c28b1⟩ := eqT c28
      clear c28
      obtain ⟨y315, hy315⟩ : ∃ y_ : List (S37), y_ = (([(⟨t307, t308, t309, t310, t311⟩ : S37), (⟨0, 0, 0, 0, t304⟩ : S37)] : List (S37))) := ⟨_, rfl⟩
      replace H : (some y315) = some r := by first | (rw [hy315]; with_reducible exact H) | (have H2_ := (Option.bind_some _ _).symm.trans H; rw [hy315]; with_reducible exact H2_) | (have H2_ := (Option.bind_some _ _).symm.trans H; with_reducible exact H2_) | with_reducible exact H | (rw [hy315]; exact H) | exact H
      have Ny315 := Aside0.mk hy315
      clear hy315
      obtain rfl := Option.some.inj H
      obtain ⟨hnb29, hnc29⟩ := nb_ NB306_305
      have hcz30 := blk_all5 BK306.out
      go_wp2_with (first | ((with_reducible refine gate_callee (f := 41) rfl ?_); refine sh_call (some 33) Tryd.func41 #[.agg #[.int .u8 t307, .int .u8 t308, .int .u8 t309, .int .i16 t310, .int .i32 t311]] ?_; (with_reducible refine (insn_Places.calls kj10 t307 t308 t309 t310 t311 t314 _ ?side1 A27.out).mono ?_); (case side1 => repeat (first | exact (Kd.C_below HRG2.out HB.out) | (with_reducible refine Kd.C_alloc ?_ _) | (with_reducible refine Kd.C_drewN ?_ _) | (with_reducible refine Kd.C_drew ?_))); rintro e w31 ⟨rfl, hb⟩; refine ⟨_, rfl, ?_⟩; replace BK305 := sh_k BK305 hb; replace BK306 := sh_k BK306 hb; replace BK2 := sh_kp (g := gb2) (t := 22) #[.slice none 0 0] hb; replace HB := sh_b (w := w) hb; (try clear hb); (try clear hb2); (try clear hk); (try clear hi); have hcz32 := blk_all5 BK306.out) | ((with_reducible refine gate_dst (N := 38) rfl ?_); refine Kd.R_lit k37 _ 37 ?hg (N := 38) ?hd (xs := ([(⟨t307, t308, t309, t310, t311⟩ : S37), (⟨0, 0, 0, 0, t304⟩ : S37)] : List (S37))) (inner := [.int .u8 t307, .int .u8 t308, .int .u8 t309, .int .i16 t310, .int .i32 t311, .int .u8 0, .int .u8 0, .int .u8 0, .int .i16 0, .int .i32 t304]) (ok := fun _ => True) (okp := fun _ => True) ?hr ?hp (fun _ hk => hk) trivial (Below.refl _ _) (Nat.le_refl _) (by simp) ?_; (case hd => rfl); (case hg => rfl); (case hr => first | (go_simp; done) | (go_simp; rfl)); (case hp => exact (Reps.c5 (show Kd.M k37 _ _ _ (⟨t307, t308, t309, t310, t311⟩ : S37) [.int .u8 t307, .int .u8 t308, .int .u8 t309, .int .i16 t310, .int .i32 t311] from (k37_mkM _ _ _ (⟨t307, t308, t309, t310, t311⟩ : S37) )) (Reps.c5 (show Kd.M k37 _ _ _ (⟨0, 0, 0, 0, t304⟩ : S37) [.int .u8 0, .int .u8 0, .int .u8 0, .int .i16 0, .int .i32 t304] from (k37_mkM _ _ _ (⟨0, 0, 0, 0, t304⟩ : S37) )) (Reps.none _ _)))); intro v316 w33 ho34 hb hg_ hnew_; clear hg_ hnew_; (first | rw [← Ny315.out] at ho34 | (simp only [Int.reduceToNat] at ho34; rw [← Ny315.out] at ho34)); have HO317 := Aside0.mk (Kd.R_lower (Kd.R_newB ho34 (g := gb306) (o := .cells #[.int .u8 t307, .int .u8 t308, .int .u8 t309, .int .i16 t310, .int .i32 t311] 37 (0, 0)) bk_now) (below_size b_now)); replace BK305 := sh_k BK305 hb; replace BK306 := sh_k BK306 hb; replace BK2 := sh_kp (g := gb2) (t := 22) #[.slice none 0 0] hb; replace HB := sh_b (w := w) hb; clear hb ho34; obtain ⟨ad_, c_, hv_⟩ := Kd.R_slice1 HO317.out (by rw [Ny315.out]; exact Nat.succ_pos _); subst hv_; have hcy2 := blk_all1 BK2.out))
      refine (show Leaves Tryd.prog Tryd.f23 _ (OneR w _) _ _ _ from ?_)
      exact one_ret (gb2 := gb2) bk_now b_now rfl (Kd.R_mono (Kd.R_set HO317.out BK2.out (by intro q hq; rw [List.mem_singleton.1 hq]; decide) 0 _) (fun _ _ => trivial)) (by rw [Ny315.out]; simp) ⟨_, _, rfl⟩

     ·rw [if_neg c28] at H
      obtain ⟨c28b0, c28b1⟩ := eqF c28
      obtain ⟨y318, hy318⟩ : ∃ y_ : List (S37), y_ = (([(⟨t307, t308, t309, t310, t311⟩ : S37)] : List (S37))) := ⟨_, rfl⟩
      replace H : (some y318) = some r := by first | (rw [hy318]; with_reducible exact H) | (have H2_ := (Option.bind_some _ _).symm.trans H; rw [hy318]; with_reducible exact H2_) | (have H2_ := (Option.bind_some _ _).symm.trans H; with_reducible exact H2_) | with_reducible exact H | (rw [hy318]; exact H) | exact H
      have Ny318 := Aside0.mk hy318
      clear hy318
      obtain rfl := Option.some.inj H
      obtain ⟨hnb35, hnc35⟩ := nb_ NB306_305
      have hcz36 := blk_all5 BK306.out
      go_wp2_with (first | ((with_reducible refine gate_callee (f := 41) rfl ?_); refine sh_call (some 33) Tryd.func41 #[.agg #[.int .u8 t307, .int .u8 t308, .int .u8 t309, .int .i16 t310, .int .i32 t311]] ?_; (with_reducible refine (insn_Places.calls kj10 t307 t308 t309 t310 t311 t314 _ ?side1 A27.out).mono ?_); (case side1 => repeat (first | exact (Kd.C_below HRG2.out HB.out) | (with_reducible refine Kd.C_alloc ?_ _) | (with_reducible refine Kd.C_drewN ?_ _) | (with_reducible refine Kd.C_drew ?_))); rintro e w37 ⟨rfl, hb⟩; refine ⟨_, rfl, ?_⟩; replace BK305 := sh_k BK305 hb; replace BK306 := sh_k BK306 hb; replace BK2 := sh_kp (g := gb2) (t := 22) #[.slice none 0 0] hb; replace HB := sh_b (w := w) hb; (try clear hb); (try clear hb2); (try clear hk); (try clear hi); have hcz38 := blk_all5 BK306.out) | ((with_reducible refine gate_dst (N := 40) rfl ?_); refine Kd.R_lit k37 _ 37 ?hg (N := 40) ?hd (xs := ([(⟨t307, t308, t309, t310, t311⟩ : S37)] : List (S37))) (inner := [.int .u8 t307, .int .u8 t308, .int .u8 t309, .int .i16 t310, .int .i32 t311]) (ok := fun _ => True) (okp := fun _ => True) ?hr ?hp (fun _ hk => hk) trivial (Below.refl _ _) (Nat.le_refl _) (by simp) ?_; (case hd => rfl); (case hg => rfl); (case hr => first | (go_simp; done) | (go_simp; rfl)); (case hp => exact (Reps.c5 (show Kd.M k37 _ _ _ (⟨t307, t308, t309, t310, t311⟩ : S37) [.int .u8 t307, .int .u8 t308, .int .u8 t309, .int .i16 t310, .int .i32 t311] from (k37_mkM _ _ _ (⟨t307, t308, t309, t310, t311⟩ : S37) )) (Reps.none _ _))); intro v319 w39 ho40 hb hg_ hnew_; clear hg_ hnew_; (first | rw [← Ny318.out] at ho40 | (simp only [Int.reduceToNat] at ho40; rw [← Ny318.out] at ho40)); have HO320 := Aside0.mk (Kd.R_lower (Kd.R_newB ho40 (g := gb306) (o := .cells #[.int .u8 t307, .int .u8 t308, .int .u8 t309, .int .i16 t310, .int .i32 t311] 37 (0, 0)) bk_now) (below_size b_now)); replace BK305 := sh_k BK305 hb; replace BK306 := sh_k BK306 hb; replace BK2 := sh_kp (g := gb2) (t := 22) #[.slice none 0 0] hb; replace HB := sh_b (w := w) hb; clear hb ho40; obtain ⟨ad_, c_, hv_⟩ := Kd.R_slice1 HO320.out (by rw [Ny318.out]; exact Nat.succ_pos _); subst hv_; have hcy2 := blk_all1 BK2.out))
      refine (show Leaves Tryd.prog Tryd.f23 _ (OneR w _) _ _ _ from ?_)
      exact one_ret (gb2 := gb2) bk_now b_now rfl (Kd.R_mono (Kd.R_set HO320.out BK2.out (by intro q hq; rw [List.mem_singleton.1 hq]; decide) 0 _) (fun _ _ => trivial)) (by rw [Ny318.out]; simp) ⟨_, _, rfl⟩


/-! ### asm_Parse: function 12 -/
mutual
def asm_Parse.l0 : Nat → ByteArray → List (S37) → Int → Option ((List (S37)) × Int × Int)
 | 0, _, _, _ => none
 | k + 1, x0, x5, x6 => if x0.toList = ([] : List UInt8) then (some (x5, 0, 0)) else ((strings_Cut.f x0 (⟨#[10]⟩ : ByteArray)).bind fun bt321 => ((asm_one.f k bt321.1).bind fun t324 => ((stringslite_Clone.f t324).bind fun t327 => (if t327 = true then (asm_Parse.j1 k x5 x6 bt321.2.1 t324 true) else (asm_Parse.j1 k x5 x6 bt321.2.1 t324 (!bt321.2.2))))))
def asm_Parse.j1 : Nat → List (S37) → Int → ByteArray → List (S37) → Bool → Option ((List (S37)) × Int × Int)
 | 0, _, _, _, _, _ => none
 | k + 1, x5, x6, x8, x10, x31 => if x31 = true then (some (([] : List (S37)), x6, 5)) else (if x5.length + x10.length < 11728124029610 then ((some (x5 ++ x10 : List (S37))).bind fun y328 => (if (y328.length : Int) > 512 then (some (([] : List (S37)), x6, 3)) else (asm_Parse.l0 k x8 y328 (wrap64 (x6 + 1))))) else (none))
end
def asm_Parse.f (k : Nat) (a0 : ByteArray) : Option ((List (S37)) × Int × Int) := if (a0.size : Int) > 65536 then (some (([] : List (S37)), 0, 3)) else (asm_Parse.l0 k a0 ([] : List (S37)) 1)
theorem asm_Parse.mono_l : ∀ k, (∀ y0 y1 y2, LeO (asm_Parse.l0 k y0 y1 y2) (asm_Parse.l0 (k + 1) y0 y1 y2)) ∧ (∀ y0 y1 y2 y3 y4, LeO (asm_Parse.j1 k y0 y1 y2 y3 y4) (asm_Parse.j1 (k + 1) y0 y1 y2 y3 y4))
 | 0 => ⟨fun _ _ _ r h => by simp [asm_Parse.l0] at h, fun _ _ _ _ _ r h => by simp [asm_Parse.j1] at h⟩
 | k + 1 => by
  obtain ⟨ih0, ih1⟩ := asm_Parse.mono_l k
  refine ⟨?_, ?_⟩
  ·intro y0 y1 y2
   unfold asm_Parse.l0
   repeat' first
   | (with_reducible exact ih0 _ _ _)
   | (with_reducible exact ih1 _ _ _ _ _)
   | (with_reducible exact asm_one.mono _ _)
   | (with_reducible exact LeO.refl _)
   | (with_reducible exact LeO.none _)
   | (with_reducible refine LeO.ite ?_ ?_)
   | (with_reducible refine LeO.bind ?_ (fun _ => ?_))
   | refine LeO.ite ?_ ?_
   | refine LeO.bind ?_ (fun _ => ?_)
  ·intro y0 y1 y2 y3 y4
   unfold asm_Parse.j1
   repeat' first
   | (with_reducible exact ih0 _ _ _)
   | (with_reducible exact ih1 _ _ _ _ _)
   | (with_reducible exact asm_one.mono _ _)
   | (with_reducible exact LeO.refl _)
   | (with_reducible exact LeO.none _)
   | (with_reducible refine LeO.ite ?_ ?_)
   | (with_reducible refine LeO.bind ?_ (fun _ => ?_))
   | refine LeO.ite ?_ ?_
   | refine LeO.bind ?_ (fun _ => ?_)
theorem asm_Parse.mono : ∀ a0 k, LeO (asm_Parse.f k a0) (asm_Parse.f (k + 1) a0) := by
 intro a0 k
 obtain ⟨ih0, ih1⟩ := asm_Parse.mono_l k
 unfold asm_Parse.f
 repeat' first
   | (with_reducible exact ih0 _ _ _)
   | (with_reducible exact ih1 _ _ _ _ _)
   | (with_reducible exact asm_one.mono _ _)
   | (with_reducible exact LeO.refl _)
   | (with_reducible exact LeO.none _)
   | (with_reducible refine LeO.ite ?_ ?_)
   | (with_reducible refine LeO.bind ?_ (fun _ => ?_))
   | refine LeO.ite ?_ ?_
   | refine LeO.bind ?_ (fun _ => ?_)
set_option maxHeartbeats 8000000 in
set_option maxRecDepth 100000 in
theorem asm_Parse.calls (k : Nat) (a0 : ByteArray) (r1 : List (S37)) (r2 : Int) (r3 : Int) (w : World) (hrG0 : Kd.C Kd.string w (some ⟨0, 0, none⟩) gl0.length gl0) (hrG1 : Kd.C Kd.string w (some ⟨1, 0, none⟩) gl1.length gl1) (hrG2 : Kd.C (Kd.int .i64) w (some ⟨2, 0, none⟩) gl2.length gl2) (hrG3 : Kd.C kGF w (some ⟨3, 0, none⟩) gl3.length gl3) (h : asm_Parse.f k a0 = some (r1, r2, r3)) :
  Calls Tryd.prog 12 #[.string a0] w fun e w' => ∃ v0_ : Value, e = .returned (.tuple #[v0_, .int .i64 r2, .int .i64 r3]) ∧ Kd.R k37 37 w' w.heap.size (fun _ => True) v0_ r1 ∧ Below w.heap.size w w' := by
 have HRG0 := Aside0.mk hrG0
 clear hrG0
 have HRG1 := Aside0.mk hrG1
 clear hrG1
 have HRG2 := Aside0.mk hrG2
 clear hrG2
 have HRG3 := Aside0.mk hrG3
 clear hrG3
 have HB := Aside0.mk (Below.refl w.heap.size w)
 have H : (if (a0.size : Int) > 65536 then (some (([] : List (S37)), 0, 3)) else (asm_Parse.l0 k a0 ([] : List (S37)) 1)) = some (r1, r2, r3) := h
 clear h
 by_cases c2 : (a0.size : Int) > 65536
 ·rw [if_pos c2] at H
  have c2b0 : decide (65536 < (a0.size : Int)) = true := decide_eq_true c2
  have c2b1 : decide (65536 < a0.size) = true := decide_eq_true (by omega)
  clear c2
  obtain ⟨rfl, rfl, rfl⟩ := pi3 H
  go_enter Tryd.func12, Tryd.ntmps12
  go_wp2
  go_ret3
  exact ⟨_, ret_now, by first | exact Kd.R_nil _ _ _ _ _ | exact Kd.N_nil _ _ _ _ _ | exact Kd.V_nil _ _ _ _ _ | exact Kd.Q_nil _ _ _ _ _ | exact Kd.S_nil _ _ _ _ _, b_now⟩
 ·rw [if_neg c2] at H
  have c2b0 : decide (65536 < (a0.size : Int)) = false := decide_eq_false c2
  have c2b1 : decide (65536 < a0.size) = false := decide_eq_false (by omega)
  clear c2
  have H' := Aside0.mk H
  clear H
  go_enter Tryd.func12, Tryd.ntmps12
  go_wp2
  go_loopg [0, 5, 6] k (fun kq v0 v5 v6 w' => ∃ (x0_1 : ByteArray) (x5_1 : List (S37)) (x6_1 : Int), v0 = .string x0_1 ∧ v6 = .int .i64 x6_1 ∧ Aside0 (asm_Parse.l0 kq x0_1 x5_1 x6_1 = some (r1, r2, r3)) ∧ Aside0 (kq ≤ k) ∧ Aside0 (Kd.R k37 37 w' w.heap.size (fun _ => True) v5 x5_1) ∧ Aside0 (Below w.heap.size w w'))
  case atStart => exact ⟨(a0), (([] : List (S37))), (1), eq_now, eq_now, H', ⟨Nat.le_refl _⟩, ⟨by first | exact Kd.R_nil _ _ _ _ _ | exact Kd.N_nil _ _ _ _ _ | exact Kd.V_nil _ _ _ _ _ | exact Kd.Q_nil _ _ _ _ _ | exact Kd.S_nil _ _ _ _ _⟩, ⟨b_now⟩⟩
  case round =>
   clear H'
   clear c2b0 c2b1
   obtain ⟨x0_1, x5_1, x6_1, rfl, rfl, HA, HK1, HO_5, HB⟩ := hrel
   cases gk with
   | zero => exact absurd HA.out (by simp [asm_Parse.l0])
   | succ k1 =>
    have H := HA.out
    clear HA
    simp only [asm_Parse.l0] at H
    by_cases c3 : x0_1.toList = ([] : List UInt8)
    ·rw [if_pos c3] at H
     obtain ⟨c3b0, c3b1⟩ := eqT c3
     clear c3
     obtain ⟨rfl, rfl, rfl⟩ := pi3 H
     go_wp2
     go_ret3
     exact ⟨_, ret_now, by (with_reducible repeat (first | apply Kd.R_alloc | apply Kd.R_drewN | apply Kd.R_drew)); exact HO_5.out, b_now⟩
    ·rw [if_neg c3] at H
     obtain ⟨c3b0, c3b1⟩ := eqF c3
     obtain ⟨⟨t321, t322, t323⟩, A4, H⟩ := bs_ H; try dsimp only at H
     obtain ⟨t324, A5, H⟩ := bs_ H; try dsimp only at H
     have HC6 := Aside0.mk H
     clear H
     go_upto_region 9 with (first | ((with_reducible refine gate_callee (f := 22) rfl ?_); refine sh_call (some 20) Tryd.func22 #[.string x0_1, .string (⟨#[10]⟩ : ByteArray)] ?_; (with_reducible refine (strings_Cut.calls x0_1 (⟨#[10]⟩ : ByteArray) t321 t322 t323 _ ?side1 A4.out).mono ?_); (case side1 => repeat (first | exact (Kd.C_below HRG3.out HB.out) | (with_reducible refine Kd.C_alloc ?_ _) | (with_reducible refine Kd.C_drewN ?_ _) | (with_reducible refine Kd.C_drew ?_))); rintro e w' ⟨rfl, ⟨nd, rfl⟩⟩; refine ⟨_, rfl, ?_⟩) | ((with_reducible refine gate_callee (f := 23) rfl ?_); refine sh_call (some 25) Tryd.func23 #[.string t321] ?_; (with_reducible refine (asm_one.calls2 k1 t321 t324 _ ?side1 ?side2 ?side3 ?side4 A5.out).mono ?_); (case side1 => repeat (first | exact (Kd.C_below HRG0.out b_now) | (with_reducible refine Kd.C_alloc ?_ _) | (with_reducible refine Kd.C_drewN ?_ _) | (with_reducible refine Kd.C_drew ?_))); (case side2 => repeat (first | exact (Kd.C_below HRG1.out b_now) | (with_reducible refine Kd.C_alloc ?_ _) | (with_reducible refine Kd.C_drewN ?_ _) | (with_reducible refine Kd.C_drew ?_))); (case side3 => repeat (first | exact (Kd.C_below HRG2.out b_now) | (with_reducible refine Kd.C_alloc ?_ _) | (with_reducible refine Kd.C_drewN ?_ _) | (with_reducible refine Kd.C_drew ?_))); (case side4 => repeat (first | exact (Kd.C_below HRG3.out b_now) | (with_reducible refine Kd.C_alloc ?_ _) | (with_reducible refine Kd.C_drewN ?_ _) | (with_reducible refine Kd.C_drew ?_))); rintro e w7 ⟨v325, rfl, ho0, hb, hn_⟩; refine ⟨_, rfl, ?_⟩; have HN := Aside0.mk hn_; clear hn_; have HO326 := Aside0.mk (Kd.R_lower (Kd.R_new' ho0 (Kd.R_lt (by (with_reducible repeat (first | apply Kd.R_alloc | apply Kd.R_drewN | apply Kd.R_drew)); exact HO_5.out))) (below_size b_now)); replace HO_5 := Aside0.mk (Kd.R_elder' (by (with_reducible repeat (first | apply Kd.R_alloc | apply Kd.R_drewN | apply Kd.R_drew)); exact HO_5.out) (Kd.R_base ho0) hb); replace HB := sh_b (w := w) hb; (try clear hb); (try clear hb2); (try clear hk); (try clear hi); (try clear ho0)))
     (try simp only [Act.put, List.setIfInBounds_toArray, List.set_cons_zero, List.set_cons_succ])
     go_cut [31] (fun v31 wc => ∃ (kq : Nat) (x31_5 : Bool), v31 = .bool x31_5 ∧ Aside0 (asm_Parse.j1 kq x5_1 x6_1 t322 t324 x31_5 = some (r1, r2, r3)) ∧ Aside0 (kq ≤ k1) ∧ Aside0 (Kd.R k37 37 wc w.heap.size (fun k_ => some k_ ≠ (v325 : Value).ownBlock) u5 x5_1) ∧ Aside0 (Kd.R k37 37 wc w.heap.size (fun k_ => some k_ ≠ (u5 : Value).ownBlock) v325 t324) ∧ Aside0 (Below w.heap.size w wc))
     case first =>
      have H := HC6.out
      clear HC6
      obtain ⟨t327, A8, H⟩ := bs_ H; try dsimp only at H
      by_cases c9 : t327 = true
      ·subst c9
       replace H := sh_t H
       have H' := Aside0.mk H
       clear H
       obtain ⟨Ao10, co10, eo10⟩ := Kd.R_slice HO326.out
       subst eo10
       have ht_ : t324 = [] := of_decide_eq_true (Option.some.inj A8.out)
       obtain ⟨eA_, eC_⟩ : Ao10 = none ∧ co10 = 0 := by have e_ := HN.out.1 ht_; injection e_ with e1 e2 e3; exact ⟨e1, e3⟩
       subst eA_ eC_
       have hq_ : ∀ (W : World) (n c : Nat), (binOp BinOp.eql 22 (Value.slice none n c) (Value.slice none 0 0)).run Tryd.prog W = .ok (.bool true) W := by intro W n c; first | (go_simp; done) | (go_simp; rfl) | rfl
       go_wp2
       go_meet
       case rel => exact ⟨_, (true), eq_now, H', ⟨by have := HK1.out; first | omega | exact Nat.le_refl _⟩, ⟨by (with_reducible repeat (first | apply Kd.R_alloc | apply Kd.R_drewN | apply Kd.R_drew)); exact Kd.R_mono HO_5.out (fun _ hk => hk.2)⟩, ⟨by (with_reducible repeat (first | apply Kd.R_alloc | apply Kd.R_drewN | apply Kd.R_drew)); exact Kd.R_mono HO326.out (fun _ hk => hk.2)⟩, ⟨b_now⟩⟩
      ·replace c9 := Bool.eq_false_iff.mpr c9
       subst c9
       replace H := sh_f H
       have H' := Aside0.mk H
       clear H
       obtain ⟨Ao11, co11, eo11⟩ := Kd.R_slice HO326.out
       subst eo11
       have ht_ : t324 ≠ [] := of_decide_eq_false (Option.some.inj A8.out)
       obtain ⟨aA_, cA_, eA_⟩ := HN.out.2 ht_
       obtain rfl : Ao11 = some aA_ := by injection eA_
       have hq_ : ∀ (W : World) (n c : Nat), (binOp BinOp.eql 22 (Value.slice (some aA_) n c) (Value.slice none 0 0)).run Tryd.prog W = .ok (.bool false) W := by intro W n c; first | (go_simp; done) | (go_simp; rfl) | rfl
       go_wp2
       go_meet
       case rel => exact ⟨_, (!t323), eq_now, H', ⟨by have := HK1.out; first | omega | exact Nat.le_refl _⟩, ⟨by (with_reducible repeat (first | apply Kd.R_alloc | apply Kd.R_drewN | apply Kd.R_drew)); exact Kd.R_mono HO_5.out (fun _ hk => hk.2)⟩, ⟨by (with_reducible repeat (first | apply Kd.R_alloc | apply Kd.R_drewN | apply Kd.R_drew)); exact Kd.R_mono HO326.out (fun _ hk => hk.2)⟩, ⟨b_now⟩⟩
     case rest =>
      clear HC6
      clear c3 c3b0 c3b1
      obtain ⟨kq, x31_5, rfl, HA, HJ5, HO_5, HO_10, HB⟩ := hcut
      cases kq with
      | zero => exact absurd HA.out (by simp [asm_Parse.j1])
      | succ kj5 =>
       have H := HA.out
       clear HA
       simp only [asm_Parse.j1] at H
       by_cases c12 : x31_5 = true
       ·subst c12
        replace H := sh_t H
        obtain ⟨rfl, rfl, rfl⟩ := pi3 H
        go_wp2
        go_ret3
        exact ⟨_, ret_now, by first | exact Kd.R_nil _ _ _ _ _ | exact Kd.N_nil _ _ _ _ _ | exact Kd.V_nil _ _ _ _ _ | exact Kd.Q_nil _ _ _ _ _ | exact Kd.S_nil _ _ _ _ _, b_now⟩
       ·replace c12 := Bool.eq_false_iff.mpr c12
        subst c12
        replace H := sh_f H
        by_cases c13 : x5_1.length + t324.length < 11728124029610
        ·rw [if_pos c13] at H
         have LMc13 := Aside0.mk c13
         clear c13
         obtain ⟨y328, hy328⟩ : ∃ y_ : List (S37), y_ = (x5_1 ++ t324) := ⟨_, rfl⟩
         replace H : (if (y328.length : Int) > 512 then (some (([] : List (S37)), x6_1, 3)) else (asm_Parse.l0 kj5 t322 y328 (wrap64 (x6_1 + 1)))) = some (r1, r2, r3) := by first | (rw [hy328]; with_reducible exact H) | (have H2_ := (Option.bind_some _ _).symm.trans H; rw [hy328]; with_reducible exact H2_) | (have H2_ := (Option.bind_some _ _).symm.trans H; with_reducible exact H2_) | with_reducible exact H | (rw [hy328]; exact H) | exact H
         have Ny328 := Aside0.mk hy328
         clear hy328
         by_cases c14 : (y328.length : Int) > 512
         ·rw [if_pos c14] at H
          have c14b0 : decide (512 < (y328.length : Int)) = true := decide_eq_true c14
          have c14b1 : decide (512 < y328.length) = true := decide_eq_true (by omega)
          clear c14
          obtain ⟨rfl, rfl, rfl⟩ := pi3 H
          obtain ⟨Ao16, co16, eo16⟩ := Kd.R_slice HO_10.out
          subst eo16
          go_wp2_with (first | ((with_reducible refine gate_builtin (b := .append) (xs := #[.tmp 33, .tmp 34]) rfl ?_); at_builtin; refine Kd.R_append_rows k37 (w0 := w) w.heap.size rfl (.tmp 33) (.tmp 34) 22 37 (.agg #[(.int .u8 0), (.int .u8 0), (.int .u8 0), (.int .i16 0), (.int .i32 0)]) 12 rfl Tryd.underlying22 info37 rfl (by decide) (by omega) u5 x5_1 t324 _ _ _ (fun k_ => some k_ ≠ (.slice Ao16 t324.length co16 : Value).ownBlock) (fun _ => False) rfl rfl ?aO ?aR (fun _ _ h => h) (fun _ h => h.elim) ?aF ?aB ?aS ?aL ?_; (case aR => repeat (first | exact (Kd.R_reads' HO_10.out).2.2 | (with_reducible refine Kd.C_alloc ?_ _) | (with_reducible refine Kd.C_drewN ?_ _) | (with_reducible refine Kd.C_drew ?_))); (case aB => exact b_now); (case aF => exact (fun k_ hk => Kd.fresh' (Kd.R_lt (by (with_reducible repeat (first | apply Kd.R_alloc | apply Kd.R_drewN | apply Kd.R_drew)); exact HO_10.out)) k_ hk)); (case aO => exact (by (with_reducible repeat (first | apply Kd.R_alloc | apply Kd.R_drewN | apply Kd.R_drew)); exact HO_5.out)); (case aS => exact (below_size b_now)); (case aL => have := LMc13.out; omega); intro v329 w15 ho hb hg hat; rw [← Ny328.out] at ho; have n0_ := Aside0.mk (Kd.R_after (ok := (fun _ => True)) (by (with_reducible repeat (first | apply Kd.R_alloc | apply Kd.R_drewN | apply Kd.R_drew)); exact Kd.R_mono HO_10.out (fun _ hk => ⟨trivial, hk⟩)) hg hat); have n1_ := Aside0.mk (hb); have n2_ := Aside0.mk (ho); clear HO_10; clear HB; clear HO_5; have HO_10 := n0_; have HB := n1_; have HO330 := n2_; clear n0_ n1_ n2_; clear ho hb hg hat; obtain ⟨Ao17, co17, eo17⟩ := Kd.R_slice HO330.out; subst eo17))
          go_ret3
          exact ⟨_, ret_now, by first | exact Kd.R_nil _ _ _ _ _ | exact Kd.N_nil _ _ _ _ _ | exact Kd.V_nil _ _ _ _ _ | exact Kd.Q_nil _ _ _ _ _ | exact Kd.S_nil _ _ _ _ _, b_now⟩
         ·rw [if_neg c14] at H
          have c14b0 : decide (512 < (y328.length : Int)) = false := decide_eq_false c14
          have c14b1 : decide (512 < y328.length) = false := decide_eq_false (by omega)
          clear c14
          have H' := Aside0.mk H
          clear H
          obtain ⟨Ao19, co19, eo19⟩ := Kd.R_slice HO_10.out
          subst eo19
          go_wp2_with (first | ((with_reducible refine gate_builtin (b := .append) (xs := #[.tmp 33, .tmp 34]) rfl ?_); at_builtin; refine Kd.R_append_rows k37 (w0 := w) w.heap.size rfl (.tmp 33) (.tmp 34) 22 37 (.agg #[(.int .u8 0), (.int .u8 0), (.int .u8 0), (.int .i16 0), (.int .i32 0)]) 12 rfl Tryd.underlying22 info37 rfl (by decide) (by omega) u5 x5_1 t324 _ _ _ (fun k_ => some k_ ≠ (.slice Ao19 t324.length co19 : Value).ownBlock) (fun _ => False) rfl rfl ?aO ?aR (fun _ _ h => h) (fun _ h => h.elim) ?aF ?aB ?aS ?aL ?_; (case aR => repeat (first | exact (Kd.R_reads' HO_10.out).2.2 | (with_reducible refine Kd.C_alloc ?_ _) | (with_reducible refine Kd.C_drewN ?_ _) | (with_reducible refine Kd.C_drew ?_))); (case aB => exact b_now); (case aF => exact (fun k_ hk => Kd.fresh' (Kd.R_lt (by (with_reducible repeat (first | apply Kd.R_alloc | apply Kd.R_drewN | apply Kd.R_drew)); exact HO_10.out)) k_ hk)); (case aO => exact (by (with_reducible repeat (first | apply Kd.R_alloc | apply Kd.R_drewN | apply Kd.R_drew)); exact HO_5.out)); (case aS => exact (below_size b_now)); (case aL => have := LMc13.out; omega); intro v329 w18 ho hb hg hat; rw [← Ny328.out] at ho; have n0_ := Aside0.mk (Kd.R_after (ok := (fun _ => True)) (by (with_reducible repeat (first | apply Kd.R_alloc | apply Kd.R_drewN | apply Kd.R_drew)); exact Kd.R_mono HO_10.out (fun _ hk => ⟨trivial, hk⟩)) hg hat); have n1_ := Aside0.mk (hb); have n2_ := Aside0.mk (ho); clear HO_10; clear HB; clear HO_5; have HO_10 := n0_; have HB := n1_; have HO330 := n2_; clear n0_ n1_ n2_; clear ho hb hg hat; obtain ⟨Ao20, co20, eo20⟩ := Kd.R_slice HO330.out; subst eo20))
          go_roundg kj5
          case measure => have := HK1.out; have := HJ5.out; omega
          case rel => exact ⟨(t322), (y328), (wrap64 (x6_1 + 1)), eq_now, eq_now, H', ⟨by have := HK1.out; have := HJ5.out; omega⟩, ⟨by (with_reducible repeat (first | apply Kd.R_alloc | apply Kd.R_drewN | apply Kd.R_drew)); exact Kd.R_mono HO330.out (fun _ hk => trivial)⟩, ⟨b_now⟩⟩
        ·rw [if_neg c13] at H
         exact absurd H (by simp)

/-! ### stockadelaw03_wakes: function 8 -/
def stockadelaw03_wakes.f (k : Nat)  : Option (Bool) := (asm_Print.f k (([(⟨183, 1, 0, 0, (-5)⟩ : S37), (⟨24, 1, 0, 0, (-1)⟩ : S37), (⟨0, 0, 0, 0, 1⟩ : S37), (⟨97, 1, 2, 4, 0⟩ : S37)] : List (S37)))).bind fun bt334 => ((asm_Parse.f k (⟨#[106, 101, 113, 54, 52, 32, 114, 49, 44, 32, 48, 44, 32, 43, 51, 10, 115, 116, 111, 114, 101, 56, 32, 114, 49, 48, 45, 56, 44, 32, 114, 49, 10]⟩ : ByteArray)).bind fun bt336 => ((asm_Parse.f k (⟨#[101, 120, 105, 116, 10, 10]⟩ : ByteArray)).bind fun bt341 => (if bt334.2 = 0 then (if bt334.1.toList = ([109, 111, 118, 54, 52, 32, 114, 49, 44, 32, 45, 53, 10, 99, 111, 110, 115, 116, 32, 114, 49, 44, 32, 56, 53, 56, 57, 57, 51, 52, 53, 57, 49, 10, 108, 111, 97, 100, 51, 50, 32, 114, 49, 44, 32, 114, 50, 43, 52, 10] : List UInt8) then (if bt336.2.2 = 0 then (if bt336.2.1 = 0 then ((stockadelaw03_same.f k bt336.1 (([(⟨21, 1, 0, 3, 0⟩ : S37), (⟨115, 10, 1, (-8), 0⟩ : S37)] : List (S37)))).bind fun t349 => (if t349 = true then (if bt341.2.2 = 5 then (some (bt341.2.1 == 2)) else (some false)) else (some false))) else (some false)) else (some false)) else (some false)) else (some false))))
theorem stockadelaw03_wakes.mono : ∀ k, LeO (stockadelaw03_wakes.f k ) (stockadelaw03_wakes.f (k + 1) ) := by
 intro  k
 unfold stockadelaw03_wakes.f
 repeat' first
   | (with_reducible exact asm_Parse.mono _ _)
   | (with_reducible exact asm_Print.mono _ _)
   | (with_reducible exact stockadelaw03_same.mono _ _ _)
   | (with_reducible exact LeO.refl _)
   | (with_reducible exact LeO.none _)
   | (with_reducible refine LeO.ite ?_ ?_)
   | (with_reducible refine LeO.bind ?_ (fun _ => ?_))
   | refine LeO.ite ?_ ?_
   | refine LeO.bind ?_ (fun _ => ?_)
set_option maxHeartbeats 8000000 in
set_option maxRecDepth 100000 in
theorem stockadelaw03_wakes.calls (k : Nat)  (r : Bool) (w : World) (hrG0 : Kd.C Kd.string w (some ⟨0, 0, none⟩) gl0.length gl0) (hrG1 : Kd.C Kd.string w (some ⟨1, 0, none⟩) gl1.length gl1) (hrG2 : Kd.C (Kd.int .i64) w (some ⟨2, 0, none⟩) gl2.length gl2) (hrG3 : Kd.C kGF w (some ⟨3, 0, none⟩) gl3.length gl3) (hr_ : r = true) (h : stockadelaw03_wakes.f k  = some r) :
  Calls Tryd.prog 8 #[] w fun e w' => e = .returned (.bool r) ∧ Below w.heap.size w w' := by
 have hu37 := Tryd.underlying37
 have HRG0 := Aside0.mk hrG0
 clear hrG0
 have HRG1 := Aside0.mk hrG1
 clear hrG1
 have HRG2 := Aside0.mk hrG2
 clear hrG2
 have HRG3 := Aside0.mk hrG3
 clear hrG3
 have HRT := Aside0.mk hr_
 clear hr_
 have HB := Aside0.mk (Below.refl w.heap.size w)
 have H : ((asm_Print.f k (([(⟨183, 1, 0, 0, (-5)⟩ : S37), (⟨24, 1, 0, 0, (-1)⟩ : S37), (⟨0, 0, 0, 0, 1⟩ : S37), (⟨97, 1, 2, 4, 0⟩ : S37)] : List (S37)))).bind fun bt334 => ((asm_Parse.f k (⟨#[106, 101, 113, 54, 52, 32, 114, 49, 44, 32, 48, 44, 32, 43, 51, 10, 115, 116, 111, 114, 101, 56, 32, 114, 49, 48, 45, 56, 44, 32, 114, 49, 10]⟩ : ByteArray)).bind fun bt336 => ((asm_Parse.f k (⟨#[101, 120, 105, 116, 10, 10]⟩ : ByteArray)).bind fun bt341 => (if bt334.2 = 0 then (if bt334.1.toList = ([109, 111, 118, 54, 52, 32, 114, 49, 44, 32, 45, 53, 10, 99, 111, 110, 115, 116, 32, 114, 49, 44, 32, 56, 53, 56, 57, 57, 51, 52, 53, 57, 49, 10, 108, 111, 97, 100, 51, 50, 32, 114, 49, 44, 32, 114, 50, 43, 52, 10] : List UInt8) then (if bt336.2.2 = 0 then (if bt336.2.1 = 0 then ((stockadelaw03_same.f k bt336.1 (([(⟨21, 1, 0, 3, 0⟩ : S37), (⟨115, 10, 1, (-8), 0⟩ : S37)] : List (S37)))).bind fun t349 => (if t349 = true then (if bt341.2.2 = 5 then (some (bt341.2.1 == 2)) else (some false)) else (some false))) else (some false)) else (some false)) else (some false)) else (some false))))) = some r := h
 clear h
 obtain ⟨y331, hy331⟩ : ∃ y_ : List (S37), y_ = (([(⟨183, 1, 0, 0, (-5)⟩ : S37), (⟨24, 1, 0, 0, (-1)⟩ : S37), (⟨0, 0, 0, 0, 1⟩ : S37), (⟨97, 1, 2, 4, 0⟩ : S37)] : List (S37))) := ⟨_, rfl⟩
 replace H : ((asm_Print.f k y331).bind fun bt334 => ((asm_Parse.f k (⟨#[106, 101, 113, 54, 52, 32, 114, 49, 44, 32, 48, 44, 32, 43, 51, 10, 115, 116, 111, 114, 101, 56, 32, 114, 49, 48, 45, 56, 44, 32, 114, 49, 10]⟩ : ByteArray)).bind fun bt336 => ((asm_Parse.f k (⟨#[101, 120, 105, 116, 10, 10]⟩ : ByteArray)).bind fun bt341 => (if bt334.2 = 0 then (if bt334.1.toList = ([109, 111, 118, 54, 52, 32, 114, 49, 44, 32, 45, 53, 10, 99, 111, 110, 115, 116, 32, 114, 49, 44, 32, 56, 53, 56, 57, 57, 51, 52, 53, 57, 49, 10, 108, 111, 97, 100, 51, 50, 32, 114, 49, 44, 32, 114, 50, 43, 52, 10] : List UInt8) then (if bt336.2.2 = 0 then (if bt336.2.1 = 0 then ((stockadelaw03_same.f k bt336.1 (([(⟨21, 1, 0, 3, 0⟩ : S37), (⟨115, 10, 1, (-8), 0⟩ : S37)] : List (S37)))).bind fun t349 => (if t349 = true then (if bt341.2.2 = 5 then (some (bt341.2.1 == 2)) else (some false)) else (some false))) else (some false)) else (some false)) else (some false)) else (some false))))) = some r := by first | (rw [hy331]; with_reducible exact H) | (have H2_ := (Option.bind_some _ _).symm.trans H; rw [hy331]; with_reducible exact H2_) | (have H2_ := (Option.bind_some _ _).symm.trans H; with_reducible exact H2_) | with_reducible exact H | (rw [hy331]; exact H) | exact H
 have Ny331 := Aside0.mk hy331
 clear hy331
 obtain ⟨⟨t334, t335⟩, A1, H⟩ := bs_ H; try dsimp only at H
 obtain ⟨⟨t336, t337, t338⟩, A2, H⟩ := bs_ H; try dsimp only at H
 obtain ⟨⟨t341, t342, t343⟩, A3, H⟩ := bs_ H; try dsimp only at H
 by_cases c4 : t335 = 0
 ·rw [if_pos c4] at H
  obtain ⟨c4b0, c4b1⟩ := eqT c4
  clear c4
  by_cases c5 : t334.toList = ([109, 111, 118, 54, 52, 32, 114, 49, 44, 32, 45, 53, 10, 99, 111, 110, 115, 116, 32, 114, 49, 44, 32, 56, 53, 56, 57, 57, 51, 52, 53, 57, 49, 10, 108, 111, 97, 100, 51, 50, 32, 114, 49, 44, 32, 114, 50, 43, 52, 10] : List UInt8)
  ·rw [if_pos c5] at H
   obtain ⟨c5b0, c5b1⟩ := eqT c5
   clear c5
   by_cases c6 : t338 = 0
   ·rw [if_pos c6] at H
    obtain ⟨c6b0, c6b1⟩ := eqT c6
    clear c6
    by_cases c7 : t337 = 0
    ·rw [if_pos c7] at H
     obtain ⟨c7b0, c7b1⟩ := eqT c7
     clear c7
     obtain ⟨y346, hy346⟩ : ∃ y_ : List (S37), y_ = (([(⟨21, 1, 0, 3, 0⟩ : S37), (⟨115, 10, 1, (-8), 0⟩ : S37)] : List (S37))) := ⟨_, rfl⟩
     replace H : ((stockadelaw03_same.f k t336 y346).bind fun t349 => (if t349 = true then (if t343 = 5 then (some (t342 == 2)) else (some false)) else (some false))) = some r := by first | (rw [hy346]; with_reducible exact H) | (have H2_ := (Option.bind_some _ _).symm.trans H; rw [hy346]; with_reducible exact H2_) | (have H2_ := (Option.bind_some _ _).symm.trans H; with_reducible exact H2_) | with_reducible exact H | (rw [hy346]; exact H) | exact H
     have Ny346 := Aside0.mk hy346
     clear hy346
     obtain ⟨t349, A8, H⟩ := bs_ H; try dsimp only at H
     by_cases c9 : t349 = true
     ·subst c9
      replace H := sh_t H
      by_cases c10 : t343 = 5
      ·rw [if_pos c10] at H
       obtain ⟨c10b0, c10b1⟩ := eqT c10
       clear c10
       obtain rfl := Option.some.inj H
       go_enter Tryd.func8, Tryd.ntmps8
       go_wp2_with (first | ((with_reducible refine gate_dst (N := 14) rfl ?_); (try (refine gate_guard (by rfl) ?_; dsimp only)); refine Kd.R_lit k37 _ 37 ?hg (N := 14) ?hd (xs := ([(⟨183, 1, 0, 0, (-5)⟩ : S37), (⟨24, 1, 0, 0, (-1)⟩ : S37), (⟨0, 0, 0, 0, 1⟩ : S37), (⟨97, 1, 2, 4, 0⟩ : S37)] : List (S37))) (inner := [.int .u8 183, .int .u8 1, .int .u8 0, .int .i16 0, .int .i32 (-5), .int .u8 24, .int .u8 1, .int .u8 0, .int .i16 0, .int .i32 (-1), .int .u8 0, .int .u8 0, .int .u8 0, .int .i16 0, .int .i32 1, .int .u8 97, .int .u8 1, .int .u8 2, .int .i16 4, .int .i32 0]) (ok := fun _ => True) (okp := fun _ => True) ?hr ?hp (fun _ hk => hk) trivial (Below.refl _ _) (Nat.le_refl _) (by simp) ?_; (case hd => rfl); (case hg => rfl); (case hr => first | (go_simp; done) | (go_simp; rfl)); (case hp => exact (Reps.c5 (show Kd.M k37 _ _ _ (⟨183, 1, 0, 0, (-5)⟩ : S37) [.int .u8 183, .int .u8 1, .int .u8 0, .int .i16 0, .int .i32 (-5)] from (k37_mkM _ _ _ (⟨183, 1, 0, 0, (-5)⟩ : S37) )) (Reps.c5 (show Kd.M k37 _ _ _ (⟨24, 1, 0, 0, (-1)⟩ : S37) [.int .u8 24, .int .u8 1, .int .u8 0, .int .i16 0, .int .i32 (-1)] from (k37_mkM _ _ _ (⟨24, 1, 0, 0, (-1)⟩ : S37) )) (Reps.c5 (show Kd.M k37 _ _ _ (⟨0, 0, 0, 0, 1⟩ : S37) [.int .u8 0, .int .u8 0, .int .u8 0, .int .i16 0, .int .i32 1] from (k37_mkM _ _ _ (⟨0, 0, 0, 0, 1⟩ : S37) )) (Reps.c5 (show Kd.M k37 _ _ _ (⟨97, 1, 2, 4, 0⟩ : S37) [.int .u8 97, .int .u8 1, .int .u8 2, .int .i16 4, .int .i32 0] from (k37_mkM _ _ _ (⟨97, 1, 2, 4, 0⟩ : S37) )) (Reps.none _ _)))))); intro v332 w11 ho12 hb hg_ hnew_; clear hg_ hnew_; (first | rw [← Ny331.out] at ho12 | (simp only [Int.reduceToNat] at ho12; rw [← Ny331.out] at ho12)); have HO333 := Aside0.mk (Kd.R_lower ho12 (below_size b_now)); replace HB := sh_b (w := w) hb; clear hb ho12; obtain ⟨Ao13, co13, eo13⟩ := Kd.R_slice HO333.out; subst eo13) | ((with_reducible refine gate_callee (f := 9) rfl ?_); refine sh_call (some 15) Tryd.func9 #[.slice Ao13 y331.length co13] ?_; (with_reducible refine (asm_Print.calls k _ _ y331 t334 t335 _ ?side1 ?side2 ?side3 ?side4 ?side5 ?side6 A1.out).mono ?_); (case side1 => repeat (first | exact (Kd.R_reads' HO333.out).2.2 | (with_reducible refine Kd.C_alloc ?_ _) | (with_reducible refine Kd.C_drewN ?_ _) | (with_reducible refine Kd.C_drew ?_))); (case side2 => exact (Kd.R_reads' HO333.out).2.1); (case side3 => repeat (first | exact (Kd.C_below HRG0.out HB.out) | (with_reducible refine Kd.C_alloc ?_ _) | (with_reducible refine Kd.C_drewN ?_ _) | (with_reducible refine Kd.C_drew ?_))); (case side4 => repeat (first | exact (Kd.C_below HRG1.out HB.out) | (with_reducible refine Kd.C_alloc ?_ _) | (with_reducible refine Kd.C_drewN ?_ _) | (with_reducible refine Kd.C_drew ?_))); (case side5 => repeat (first | exact (Kd.C_below HRG2.out HB.out) | (with_reducible refine Kd.C_alloc ?_ _) | (with_reducible refine Kd.C_drewN ?_ _) | (with_reducible refine Kd.C_drew ?_))); (case side6 => repeat (first | exact (Kd.C_below HRG3.out HB.out) | (with_reducible refine Kd.C_alloc ?_ _) | (with_reducible refine Kd.C_drewN ?_ _) | (with_reducible refine Kd.C_drew ?_))); rintro e w14 ⟨rfl, hb⟩; refine ⟨_, rfl, ?_⟩; replace HO333 := Aside0.mk (Kd.R_below (by (with_reducible repeat (first | apply Kd.R_alloc | apply Kd.R_drewN | apply Kd.R_drew)); exact HO333.out) hb); replace HB := sh_b (w := w) hb; (try clear hb); (try clear hb2); (try clear hk); (try clear hi)) | ((with_reducible refine gate_callee (f := 12) rfl ?_); refine sh_call (some 19) Tryd.func12 #[.string (⟨#[106, 101, 113, 54, 52, 32, 114, 49, 44, 32, 48, 44, 32, 43, 51, 10, 115, 116, 111, 114, 101, 56, 32, 114, 49, 48, 45, 56, 44, 32, 114, 49, 10]⟩ : ByteArray)] ?_; (with_reducible refine (asm_Parse.calls k (⟨#[106, 101, 113, 54, 52, 32, 114, 49, 44, 32, 48, 44, 32, 43, 51, 10, 115, 116, 111, 114, 101, 56, 32, 114, 49, 48, 45, 56, 44, 32, 114, 49, 10]⟩ : ByteArray) t336 t337 t338 _ ?side1 ?side2 ?side3 ?side4 A2.out).mono ?_); (case side1 => repeat (first | exact (Kd.C_below HRG0.out HB.out) | (with_reducible refine Kd.C_alloc ?_ _) | (with_reducible refine Kd.C_drewN ?_ _) | (with_reducible refine Kd.C_drew ?_))); (case side2 => repeat (first | exact (Kd.C_below HRG1.out HB.out) | (with_reducible refine Kd.C_alloc ?_ _) | (with_reducible refine Kd.C_drewN ?_ _) | (with_reducible refine Kd.C_drew ?_))); (case side3 => repeat (first | exact (Kd.C_below HRG2.out HB.out) | (with_reducible refine Kd.C_alloc ?_ _) | (with_reducible refine Kd.C_drewN ?_ _) | (with_reducible refine Kd.C_drew ?_))); (case side4 => repeat (first | exact (Kd.C_below HRG3.out HB.out) | (with_reducible refine Kd.C_alloc ?_ _) | (with_reducible refine Kd.C_drewN ?_ _) | (with_reducible refine Kd.C_drew ?_))); rintro e w15 ⟨v339, rfl, ho0, hb⟩; refine ⟨_, rfl, ?_⟩; have HO340 := Aside0.mk (Kd.R_lower (Kd.R_new' ho0 (Kd.R_lt (by (with_reducible repeat (first | apply Kd.R_alloc | apply Kd.R_drewN | apply Kd.R_drew)); exact HO333.out))) (below_size b_now)); replace HO333 := Aside0.mk (Kd.R_elder' (by (with_reducible repeat (first | apply Kd.R_alloc | apply Kd.R_drewN | apply Kd.R_drew)); exact HO333.out) (Kd.R_base ho0) hb); replace HB := sh_b (w := w) hb; (try clear hb); (try clear hb2); (try clear hk); (try clear hi); (try clear ho0)) | ((with_reducible refine gate_callee (f := 12) rfl ?_); refine sh_call (some 24) Tryd.func12 #[.string (⟨#[101, 120, 105, 116, 10, 10]⟩ : ByteArray)] ?_; (with_reducible refine (asm_Parse.calls k (⟨#[101, 120, 105, 116, 10, 10]⟩ : ByteArray) t341 t342 t343 _ ?side1 ?side2 ?side3 ?side4 A3.out).mono ?_); (case side1 => repeat (first | exact (Kd.C_below HRG0.out HB.out) | (with_reducible refine Kd.C_alloc ?_ _) | (with_reducible refine Kd.C_drewN ?_ _) | (with_reducible refine Kd.C_drew ?_))); (case side2 => repeat (first | exact (Kd.C_below HRG1.out HB.out) | (with_reducible refine Kd.C_alloc ?_ _) | (with_reducible refine Kd.C_drewN ?_ _) | (with_reducible refine Kd.C_drew ?_))); (case side3 => repeat (first | exact (Kd.C_below HRG2.out HB.out) | (with_reducible refine Kd.C_alloc ?_ _) | (with_reducible refine Kd.C_drewN ?_ _) | (with_reducible refine Kd.C_drew ?_))); (case side4 => repeat (first | exact (Kd.C_below HRG3.out HB.out) | (with_reducible refine Kd.C_alloc ?_ _) | (with_reducible refine Kd.C_drewN ?_ _) | (with_reducible refine Kd.C_drew ?_))); rintro e w16 ⟨v344, rfl, ho0, hb⟩; refine ⟨_, rfl, ?_⟩; have HO345 := Aside0.mk (Kd.R_lower (Kd.R_new' (Kd.R_new' ho0 (Kd.R_lt (by (with_reducible repeat (first | apply Kd.R_alloc | apply Kd.R_drewN | apply Kd.R_drew)); exact HO333.out))) (Kd.R_lt (by (with_reducible repeat (first | apply Kd.R_alloc | apply Kd.R_drewN | apply Kd.R_drew)); exact HO340.out))) (below_size b_now)); replace HO333 := Aside0.mk (Kd.R_elder' (by (with_reducible repeat (first | apply Kd.R_alloc | apply Kd.R_drewN | apply Kd.R_drew)); exact HO333.out) (Kd.R_base ho0) hb); replace HO340 := Aside0.mk (Kd.R_elder' (by (with_reducible repeat (first | apply Kd.R_alloc | apply Kd.R_drewN | apply Kd.R_drew)); exact HO340.out) (Kd.R_base ho0) hb); replace HB := sh_b (w := w) hb; (try clear hb); (try clear hb2); (try clear hk); (try clear hi); (try clear ho0)) | ((with_reducible refine gate_dst (N := 46) rfl ?_); (try (refine gate_guard (by rfl) ?_; dsimp only)); refine Kd.R_lit k37 _ 37 ?hg (N := 46) ?hd (xs := ([(⟨21, 1, 0, 3, 0⟩ : S37), (⟨115, 10, 1, (-8), 0⟩ : S37)] : List (S37))) (inner := [.int .u8 21, .int .u8 1, .int .u8 0, .int .i16 3, .int .i32 0, .int .u8 115, .int .u8 10, .int .u8 1, .int .i16 (-8), .int .i32 0]) (ok := fun _ => True) (okp := fun _ => True) ?hr ?hp (fun _ hk => hk) trivial (Below.refl _ _) (Nat.le_refl _) (by simp) ?_; (case hd => rfl); (case hg => rfl); (case hr => first | (go_simp; done) | (go_simp; rfl)); (case hp => exact (Reps.c5 (show Kd.M k37 _ _ _ (⟨21, 1, 0, 3, 0⟩ : S37) [.int .u8 21, .int .u8 1, .int .u8 0, .int .i16 3, .int .i32 0] from (k37_mkM _ _ _ (⟨21, 1, 0, 3, 0⟩ : S37) )) (Reps.c5 (show Kd.M k37 _ _ _ (⟨115, 10, 1, (-8), 0⟩ : S37) [.int .u8 115, .int .u8 10, .int .u8 1, .int .i16 (-8), .int .i32 0] from (k37_mkM _ _ _ (⟨115, 10, 1, (-8), 0⟩ : S37) )) (Reps.none _ _)))); intro v347 w17 ho18 hb hg_ hnew_; clear hg_ hnew_; (first | rw [← Ny346.out] at ho18 | (simp only [Int.reduceToNat] at ho18; rw [← Ny346.out] at ho18)); have HO348 := Aside0.mk (Kd.R_lower (Kd.R_new' (Kd.R_new' (Kd.R_new' ho18 (Kd.R_lt (by (with_reducible repeat (first | apply Kd.R_alloc | apply Kd.R_drewN | apply Kd.R_drew)); exact HO333.out))) (Kd.R_lt (by (with_reducible repeat (first | apply Kd.R_alloc | apply Kd.R_drewN | apply Kd.R_drew)); exact HO340.out))) (Kd.R_lt (by (with_reducible repeat (first | apply Kd.R_alloc | apply Kd.R_drewN | apply Kd.R_drew)); exact HO345.out))) (below_size b_now)); replace HO333 := Aside0.mk (Kd.R_elder' (by (with_reducible repeat (first | apply Kd.R_alloc | apply Kd.R_drewN | apply Kd.R_drew)); exact HO333.out) (Kd.R_base ho18) hb); replace HO340 := Aside0.mk (Kd.R_elder' (by (with_reducible repeat (first | apply Kd.R_alloc | apply Kd.R_drewN | apply Kd.R_drew)); exact HO340.out) (Kd.R_base ho18) hb); replace HO345 := Aside0.mk (Kd.R_elder' (by (with_reducible repeat (first | apply Kd.R_alloc | apply Kd.R_drewN | apply Kd.R_drew)); exact HO345.out) (Kd.R_base ho18) hb); replace HB := sh_b (w := w) hb; clear hb ho18; obtain ⟨Ao19, co19, eo19⟩ := Kd.R_slice HO340.out; subst eo19; obtain ⟨Ao20, co20, eo20⟩ := Kd.R_slice HO348.out; subst eo20) | (go_at_call 11; (with_reducible refine (stockadelaw03_same.calls k _ _ t336 _ _ y346 true _ ?side1 ?side2 ?side3 ?side4 A8.out).mono ?_); (case side1 => repeat (first | exact (Kd.R_reads' HO340.out).2.2 | (with_reducible refine Kd.C_alloc ?_ _) | (with_reducible refine Kd.C_drewN ?_ _) | (with_reducible refine Kd.C_drew ?_))); (case side2 => exact (Kd.R_reads' HO340.out).2.1); (case side3 => repeat (first | exact (Kd.R_reads' HO348.out).2.2 | (with_reducible refine Kd.C_alloc ?_ _) | (with_reducible refine Kd.C_drewN ?_ _) | (with_reducible refine Kd.C_drew ?_))); (case side4 => exact (Kd.R_reads' HO348.out).2.1); rintro e w' ⟨rfl, ⟨nd, rfl⟩⟩))
       go_ret
       exact ⟨ret_now, b_now⟩
      ·rw [if_neg c10] at H
       obtain ⟨c10b0, c10b1⟩ := eqF c10
       obtain rfl := Option.some.inj H
       exact absurd HRT.out (by simp)
     ·replace c9 := Bool.eq_false_iff.mpr c9
      subst c9
      replace H := sh_f H
      obtain rfl := Option.some.inj H
      exact absurd HRT.out (by simp)
    ·rw [if_neg c7] at H
     obtain ⟨c7b0, c7b1⟩ := eqF c7
     obtain rfl := Option.some.inj H
     exact absurd HRT.out (by simp)
   ·rw [if_neg c6] at H
    obtain ⟨c6b0, c6b1⟩ := eqF c6
    obtain rfl := Option.some.inj H
    exact absurd HRT.out (by simp)
  ·rw [if_neg c5] at H
   obtain ⟨c5b0, c5b1⟩ := eqF c5
   obtain rfl := Option.some.inj H
   exact absurd HRT.out (by simp)
 ·rw [if_neg c4] at H
  obtain ⟨c4b0, c4b1⟩ := eqF c4
  obtain rfl := Option.some.inj H
  exact absurd HRT.out (by simp)

end Go.Proofs.YtondogoepcndiaaDoor.P
