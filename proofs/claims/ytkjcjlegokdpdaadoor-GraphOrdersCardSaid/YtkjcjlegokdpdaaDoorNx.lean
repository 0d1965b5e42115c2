/- Chapter 05: graph.next (walked by hand): to what a place of code leads. -/
import Derived.Test.YtkjcjlegokdpdaaDoorPx6
import Derived.Test.YtkjcjlegokdpdaaDoorPx5
namespace Go.Proofs.YtkjcjlegokdpdaaDoor.P
open Go.RowKit Go.Proofs.YtkjcjlegokdpdaaDoorW.PrintWords Go.Proofs.YtkjcjlegokdpdaaDoorW.PrintLast Go.Proofs.YtkjcjlegokdpdaaDoorW.PrintMore
set_option linter.unusedVariables false
set_option linter.unusedSimpArgs false

attribute [local go_sem] max2_int min2_int max_two min_two max_three min_three max_four min_four

/-- A place is put behind a list, if a start is there and it is not in it yet. -/
def addP (n : Nat) (s : List Bool) (l : List Int) (t : Int) : Prop := 0 ≤ t ∧ t < (n : Int) ∧ rdOf false s t = true ∧ slices_Contains_int_int.f 40 l t = some false
instance (n : Nat) (s : List Bool) (l : List Int) (t : Int) : Decidable (addP n s l t) := by unfold addP; infer_instance
def addV (n : Nat) (s : List Bool) (l : List Int) (t : Int) : List Int := if addP n s l t then l ++ [t] else l

theorem index_l0 (l : List Int) (t : Int) (hl : l.length < 30) : ∀ (m i k : Nat), l.length - i = m → i ≤ l.length → ∃ r, slices_Index_int_int.l0 (m + 1 + k) l t (l.length : Int) (i : Int) = some r ∧ (r ≥ 0 ↔ ∃ j, i ≤ j ∧ j < l.length ∧ rd l (j : Int) = t)
  | 0, i, k, hm, hi => ⟨-1, by
      rw [show 0 + 1 + k = k + 1 by omega]
      unfold slices_Index_int_int.l0
      rw [if_neg (by omega)], by
      constructor
      · intro h; omega
      · rintro ⟨j, h1, h2, _⟩; omega⟩
  | m + 1, i, k, hm, hi => by
    have hw : wrap64 ((i : Int) + 1) = ((i + 1 : Nat) : Int) := by unfold wrap64; omega
    obtain ⟨r, hr, hr2⟩ := index_l0 l t hl m (i + 1) k (by omega) (by omega)
    rw [show m + 1 + 1 + k = (m + 1 + k) + 1 by omega]
    unfold slices_Index_int_int.l0
    rw [if_pos (by omega), if_pos (by omega), if_pos (by omega)]
    by_cases c : t = rd l (i : Int)
    · refine ⟨(i : Int), by rw [if_pos c], ?_⟩
      exact ⟨fun _ => ⟨i, Nat.le_refl _, by omega, c.symm⟩, fun _ => by omega⟩
    · refine ⟨r, by rw [if_neg c, hw]; exact hr, ?_⟩
      rw [hr2]
      constructor
      · rintro ⟨j, h1, h2, h3⟩; exact ⟨j, by omega, h2, h3⟩
      · rintro ⟨j, h1, h2, h3⟩
        by_cases e : j = i
        · subst e; exact absurd h3.symm c
        · exact ⟨j, by omega, h2, h3⟩
theorem contains_some (l : List Int) (t : Int) (hl : l.length < 30) : ∃ b, slices_Contains_int_int.f 40 l t = some b := by
  obtain ⟨r, hr, _⟩ := index_l0 l t hl l.length 0 (39 - l.length) (by omega) (by omega)
  rw [show l.length + 1 + (39 - l.length) = 40 by omega] at hr
  refine ⟨decide (r ≥ 0), ?_⟩
  unfold slices_Contains_int_int.f slices_Index_int_int.f
  rw [show ((0 : Nat) : Int) = 0 from rfl] at hr
  rw [hr]; rfl

set_option maxHeartbeats 2000000 in
set_option maxRecDepth 100000 in
theorem add_calls (base : Nat) (A0 : Option Addr) (c0 : Nat) (C : List S44) (A1 : Option Addr) (c1 : Nat) (s : List Bool) (l : List Int) (t : Int) (v : Value) (w : World) (g3 g4 g5 : Nat)
    (hs : s.length = C.length) (hl : l.length < 30)
    (h1 : Kd.C Kd.bool w A1 s.length s)
    (b3 : w.heap[g3]? = some (.cells #[.slice A0 C.length c0] 22 (0, 0))) (b4 : w.heap[g4]? = some (.cells #[.slice A1 s.length c1] 46 (0, 0))) (b5 : w.heap[g5]? = some (.cells #[v] 25 (0, 0)))
    (hb5 : base ≤ g5) (hn : base ≤ w.heap.size) (hR : Kd.R (Kd.int .i64) 3 w base (fun _ => True) v l) :
    Calls Tryd.prog 35 #[.int .i64 t, .pointer (some ⟨g3, 0, none⟩), .pointer (some ⟨g4, 0, none⟩), .pointer (some ⟨g5, 0, none⟩)] w fun e w' => e = .returned (.tuple #[]) ∧
      ∃ v', Kd.R (Kd.int .i64) 3 w' base (fun _ => True) v' (addV C.length s l t) ∧ w'.heap[g5]? = some (.cells #[v'] 25 (0, 0)) ∧ Below base w w' ∧ w'.heap[g3]? = some (.cells #[.slice A0 C.length c0] 22 (0, 0)) ∧ w'.heap[g4]? = some (.cells #[.slice A1 s.length c1] 46 (0, 0)) := by
  have z3 := blk_all1 b3
  have z4 := blk_all1 b4
  have z5 := blk_all1 b5
  by_cases k0 : t < 0
  · have e : addV C.length s l t = l := if_neg (fun h => by have := h.1; omega)
    have k0' : ¬ (t ≥ 0) := by omega
    rw [e]
    go_enter Tryd.func35, Tryd.ntmps35
    go_wp2
    go_end0
    exact ⟨rfl, v, hR, b5, Below.refl _ _, b3, by simpa only [hs] using b4⟩
  have k0' : t ≥ 0 := by omega
  by_cases k1 : t < (C.length : Int)
  rotate_left
  · have e : addV C.length s l t = l := if_neg (fun h => k1 h.2.1)
    rw [e]
    go_enter Tryd.func35, Tryd.ntmps35
    go_wp2
    go_end0
    exact ⟨rfl, v, hR, b5, Below.refl _ _, b3, by simpa only [hs] using b4⟩
  have k1' : t < (s.length : Int) := by omega
  obtain ⟨ad, ea, hx⟩ := Kd.at_bool h1 t k0' k1'
  subst ea
  by_cases k2 : rdOf false s t = true
  rotate_left
  · have e : addV C.length s l t = l := if_neg (fun h => k2 h.2.2.1)
    have k2' : rdOf false s t = false := by simpa using k2
    rw [k2'] at hx
    rw [e]
    go_enter Tryd.func35, Tryd.ntmps35
    go_wp2
    go_end0
    exact ⟨rfl, v, hR, b5, Below.refl _ _, b3, by simpa only [hs] using b4⟩
  rw [k2] at hx
  obtain ⟨Al, cl, ev⟩ := Kd.R_slice hR
  subst ev
  have hcl := Kd.R_reads' hR
  obtain ⟨b, hb⟩ := contains_some l t hl
  cases b with
  | true =>
    have e : addV C.length s l t = l := if_neg (fun h => absurd (hb.symm.trans h.2.2.2) (by simp))
    rw [e]
    go_enter Tryd.func35, Tryd.ntmps35
    go_wp2_with (go_at_call 36; refine (slices_Contains_int_int.calls 40 _ _ l t true _ ?side1 hcl.2.1 hb).mono ?_; (case side1 => exact hcl.2.2); rintro e w2 ⟨rfl, ⟨nd, rfl⟩⟩)
    go_end0
    exact ⟨rfl, _, Kd.R_drewN hR nd, blk_drewN b5 nd, pw_below_drewN (Below.refl _ _) nd, blk_drewN b3 nd, by simpa only [hs] using blk_drewN b4 nd⟩
  | false =>
    have e : addV C.length s l t = l ++ [t] := if_pos ⟨k0', k1, k2, hb⟩
    rw [e]
    go_enter Tryd.func35, Tryd.ntmps35
    go_wp2_with (first
      | (go_at_call 36; refine (slices_Contains_int_int.calls 40 _ _ l t false _ ?side1 hcl.2.1 hb).mono ?_; (case side1 => exact hcl.2.2); rintro e w2 ⟨rfl, ⟨nd, rfl⟩⟩)
      | ((with_reducible refine gate_builtin (b := .append) (xs := #[.tmp 25, .tmp 27]) rfl ?_); at_builtin; refine Kd.R_append (Kd.int .i64) (w0 := w) base rfl (.tmp 25) (.tmp 27) 25 3 (.int .i64 0) 8 rfl Tryd.underlying25 info3 rfl (by decide) (by omega) (.slice Al l.length cl) l t [.int .i64 t] (fun _ => True) (fun _ => False) rfl rfl rfl (fun _ hk => hk.elim) (fun _ _ => trivial) ?aO ?aB ?aS ?aL ?_; (case aO => exact Kd.R_drewN hR nd); (case aB => exact pw_below_drewN (Below.refl _ _) nd); (case aS => exact Nat.le_trans hn (pw_below_drewN (Below.refl w.heap.size w) nd).size); (case aL => omega); intro v2 w3 ho hb hg hat; obtain ⟨Ao, co, eo⟩ := Kd.R_slice ho; subst eo
         have q3 := blk_grown (blk_drewN b3 nd) hg (Kd.R_ne hR b3 (by decide))
         have q4 := blk_grown (blk_drewN b4 nd) hg (Kd.R_ne hR b4 (by decide))
         have q5 := blk_grown (blk_drewN b5 nd) hg (Kd.R_ne hR b5 (by decide))
         have y5 := blk_all1 q5))
    go_end0
    have n35 : g3 ≠ g5 := fun e => by rw [e, b5] at b3; simp at b3
    have n45 : g4 ≠ g5 := fun e => by rw [e, b5] at b4; simp at b4
    refine ⟨rfl, _, Kd.R_set ho q5 (by decide) 0 _, ?_, hb.setCell (p := ⟨g5, 0, none⟩) hb5 _, blk_far q3 (p := ⟨g5, 0, none⟩) n35 _, by simpa only [hs] using blk_far q4 (p := ⟨g5, 0, none⟩) n45 _⟩
    rw [List.length_append]
    exact blk_put q5 0 _ rfl
theorem addV_len (n : Nat) (s : List Bool) (l : List Int) (t : Int) : (addV n s l t).length ≤ l.length + 1 := by
  unfold addV; split <;> simp
def farV (C : List S44) (a : Int) : Int := wrap64 (wrap64 (a + 1) + wrap64 ((rd_T44 C a).f3))
/-- To what a place leads, by its instruction's class. -/
def nextV (C : List S44) (s : List Bool) (a c : Int) : List Int :=
  if c = 9 then [] else if c = 7 then addV C.length s [] (farV C a)
  else if c = 6 then addV C.length s (addV C.length s [] (mn (wrap64 (a + 1)) (farV C a))) (mx (wrap64 (a + 1)) (farV C a))
  else if c = 10 ∨ c = 11 then addV C.length s [] (wrap64 (a + 2)) else addV C.length s [] (wrap64 (a + 1))
def nextK (k : Nat) (C : List S44) (s : List Bool) (a : Int) : Option (List Int) :=
  if s.length = C.length then
    if a < 0 then some [] else if a ≥ (C.length : Int) then some [] else if rdOf false s a = true then
      (insn_Of.f k (rd_T44 C a).f0 (rd_T44 C a).f1 (rd_T44 C a).f2 (rd_T44 C a).f3 (rd_T44 C a).f4).bind fun b => if b.2.2.2.2.2 = 0 then some (nextV C s a b.1) else some []
    else some []
  else none
set_option maxHeartbeats 4000000 in
set_option maxRecDepth 100000 in
theorem nextK_calls (k : Nat) (A0 : Option Addr) (c0 : Nat) (l0 : List S44) (A1 : Option Addr) (c1 : Nat) (l1 : List Bool) (a2 : Int) (r : List Int) (w : World) (hr0 : Kd.C k44 w A0 l0.length l0) (hc0 : l0.length ≤ c0) (hr1 : Kd.C Kd.bool w A1 l1.length l1) (hc1 : l1.length ≤ c1)
    (hrG0 : Kd.C (Kd.int .i64) w (some ⟨0, 0, none⟩) gl0.length gl0) (h : nextK k l0 l1 a2 = some r) :
    Calls Tryd.prog 27 #[.slice A0 l0.length c0, .slice A1 l1.length c1, .int .i64 a2] w fun e w' => ∃ v0_ : Value, e = .returned v0_ ∧ Kd.R (Kd.int .i64) 3 w' w.heap.size (fun _ => True) v0_ r ∧ Below w.heap.size w w' := by
  have hu44 := Tryd.underlying44
  have hu63 := Tryd.underlying63
  unfold nextK at h
  by_cases hs : l1.length = l0.length
  rotate_left
  · rw [if_neg hs] at h; exact absurd h (by simp)
  rw [if_pos hs] at h
  have HB := Aside0.mk (Below.refl w.heap.size w)
  by_cases k0 : a2 < 0
  · rw [if_pos k0] at h
    obtain rfl := Option.some.inj h
    go_enter Tryd.func27, Tryd.ntmps27
    go_wp2_with (first
      | ((with_reducible refine gate_dst (N := 3) rfl ?_); refine sh_box 3 #[.slice A0 l0.length c0] 22 ?_; intro g3 hg w1 hbox hb; have GE3 := sh_z (w := w) hg; replace HB := sh_b (w := w) hb; have BK3 := Aside0.mk (hbox); have z3 := blk_all1 BK3.out; clear hb hbox hg)
      | ((with_reducible refine gate_dst (N := 4) rfl ?_); refine sh_box 4 #[.slice A1 l1.length c1] 46 ?_; intro g4 hg w2 hbox hb; have GE4 := sh_z (w := w) hg; clear z3; replace BK3 := sh_k BK3 hb; replace HB := sh_b (w := w) hb; have BK4 := Aside0.mk (hbox); have z3 := blk_all1 BK3.out; have z4 := blk_all1 BK4.out; clear hb hbox hg))
    go_ret
    exact ⟨_, rfl, Kd.R_nil _ _ _ _ _, HB.out⟩
  rw [if_neg k0] at h
  by_cases k1 : a2 ≥ (l0.length : Int)
  · rw [if_pos k1] at h
    obtain rfl := Option.some.inj h
    have k0' : 0 ≤ a2 := by omega
    go_enter Tryd.func27, Tryd.ntmps27
    go_wp2_with (first
      | ((with_reducible refine gate_dst (N := 3) rfl ?_); refine sh_box 3 #[.slice A0 l0.length c0] 22 ?_; intro g3 hg w1 hbox hb; have GE3 := sh_z (w := w) hg; replace HB := sh_b (w := w) hb; have BK3 := Aside0.mk (hbox); have z3 := blk_all1 BK3.out; clear hb hbox hg)
      | ((with_reducible refine gate_dst (N := 4) rfl ?_); refine sh_box 4 #[.slice A1 l1.length c1] 46 ?_; intro g4 hg w2 hbox hb; have GE4 := sh_z (w := w) hg; clear z3; replace BK3 := sh_k BK3 hb; replace HB := sh_b (w := w) hb; have BK4 := Aside0.mk (hbox); have z3 := blk_all1 BK3.out; have z4 := blk_all1 BK4.out; clear hb hbox hg))
    go_ret
    exact ⟨_, rfl, Kd.R_nil _ _ _ _ _, HB.out⟩
  rw [if_neg k1] at h
  have k0' : 0 ≤ a2 := by omega
  have k1' : a2 < (l0.length : Int) := by omega
  have k1'' : a2 < (l1.length : Int) := by omega
  have HS := Aside0.mk hr1
  have HC := Aside0.mk hr0
  obtain ⟨ad, ea, hx⟩ := Kd.at_bool hr1 a2 k0' k1''
  subst ea
  by_cases k2 : rdOf false l1 a2 = true
  rotate_left
  · have k2' : rdOf false l1 a2 = false := by simpa using k2
    rw [if_neg k2] at h
    obtain rfl := Option.some.inj h
    rw [k2'] at hx
    go_enter Tryd.func27, Tryd.ntmps27
    go_wp2_with (first
      | ((with_reducible refine gate_dst (N := 3) rfl ?_); refine sh_box 3 #[.slice A0 l0.length c0] 22 ?_; intro g3 hg w1 hbox hb; have GE3 := sh_z (w := w) hg; replace HB := sh_b (w := w) hb; have BK3 := Aside0.mk (hbox); have z3 := blk_all1 BK3.out; clear hb hbox hg)
      | ((with_reducible refine gate_dst (N := 4) rfl ?_); refine sh_box 4 #[.slice (some ad) l1.length c1] 46 ?_; intro g4 hg w2 hbox hb; have GE4 := sh_z (w := w) hg; clear z3; replace BK3 := sh_k BK3 hb; replace HB := sh_b (w := w) hb; have BK4 := Aside0.mk (hbox); have z3 := blk_all1 BK3.out; have z4 := blk_all1 BK4.out; clear hb hbox hg; (try replace hx := (HB.out.cell (World.block_lt_of_cell? w _ hx)).trans hx); (try replace hx0 := (HB.out.cell (World.block_lt_of_cell? w _ hx0)).trans hx0); (try replace hx1 := (HB.out.cell (World.block_lt_of_cell? w _ hx1)).trans hx1); (try replace hx2 := (HB.out.cell (World.block_lt_of_cell? w _ hx2)).trans hx2); (try replace hx3 := (HB.out.cell (World.block_lt_of_cell? w _ hx3)).trans hx3); (try replace hx4 := (HB.out.cell (World.block_lt_of_cell? w _ hx4)).trans hx4)))
    go_ret
    exact ⟨_, rfl, Kd.R_nil _ _ _ _ _, HB.out⟩
  rw [if_pos k2] at h
  rw [k2] at hx
  obtain ⟨ad0, ea, hx0, hx1, hx2, hx3, hx4⟩ := at_T44 hr0 a2 k0' k1'
  subst ea
  obtain ⟨b, hb0, h⟩ := Option.bind_eq_some_iff.1 h
  obtain ⟨b1, b2, b3, b4, b5, b6⟩ := b
  dsimp only at h
  have HOF := Aside0.mk hb0
  clear hb0
  by_cases k3 : b6 = 0
  rotate_left
  · rw [if_neg k3] at h
    obtain rfl := Option.some.inj h
    go_enter Tryd.func27, Tryd.ntmps27
    go_wp2_with (first
      | ((with_reducible refine gate_dst (N := 3) rfl ?_); refine sh_box 3 #[.slice (some ad0) l0.length c0] 22 ?_; intro g3 hg w1 hbox hb; have GE3 := sh_z (w := w) hg; replace HB := sh_b (w := w) hb; have BK3 := Aside0.mk (hbox); have z3 := blk_all1 BK3.out; clear hb hbox hg)
      | ((with_reducible refine gate_dst (N := 4) rfl ?_); refine sh_box 4 #[.slice (some ad) l1.length c1] 46 ?_; intro g4 hg w2 hbox hb; have GE4 := sh_z (w := w) hg; clear z3; replace BK3 := sh_k BK3 hb; replace HB := sh_b (w := w) hb; have BK4 := Aside0.mk (hbox); have z3 := blk_all1 BK3.out; have z4 := blk_all1 BK4.out; clear hb hbox hg; (try replace hx := (HB.out.cell (World.block_lt_of_cell? w _ hx)).trans hx); (try replace hx0 := (HB.out.cell (World.block_lt_of_cell? w _ hx0)).trans hx0); (try replace hx1 := (HB.out.cell (World.block_lt_of_cell? w _ hx1)).trans hx1); (try replace hx2 := (HB.out.cell (World.block_lt_of_cell? w _ hx2)).trans hx2); (try replace hx3 := (HB.out.cell (World.block_lt_of_cell? w _ hx3)).trans hx3); (try replace hx4 := (HB.out.cell (World.block_lt_of_cell? w _ hx4)).trans hx4))
      | (go_at_call 34; refine (insn_Of.calls k _ _ _ _ _ b1 b2 b3 b4 b5 b6 _ ?side1 HOF.out).mono ?_; (case side1 => exact Kd.C_below hrG0 HB.out); rintro e w3 ⟨rfl, hb⟩; clear z3 z4; replace BK3 := sh_k BK3 hb; replace BK4 := sh_k BK4 hb; replace HB := sh_b (w := w) hb; have z3 := blk_all1 BK3.out; have z4 := blk_all1 BK4.out; clear hb)
      | ((with_reducible refine gate_dst (N := 7) rfl ?_); refine sh_box 7 #[.int .i64 0, .int .i64 0, .int .i64 0, .bool false, .bool false] 63 ?_; intro g7 hg w4 hbox hb; have GE7 := sh_z (w := w) hg; have NB3_7 := sh_n BK3 hg; have NB4_7 := sh_n BK4 hg; clear z3 z4; replace BK3 := sh_k BK3 hb; replace BK4 := sh_k BK4 hb; replace HB := sh_b (w := w) hb; have BK7 := Aside0.mk (hbox); have z3 := blk_all1 BK3.out; have z4 := blk_all1 BK4.out; have z7 := blk_all5 BK7.out; clear hb hbox hg))
    go_ret
    exact ⟨_, rfl, Kd.R_nil _ _ _ _ _, b_now⟩
  rw [if_pos k3] at h
  subst k3
  obtain rfl := Option.some.inj h
  clear h
  have hw1 : wrap64 (a2 + 1) = wrap64 (a2 + 1) := rfl
  by_cases e9 : b1 = 9
  · subst e9
    rw [show nextV l0 l1 a2 9 = [] from rfl]
    go_enter Tryd.func27, Tryd.ntmps27
    go_wp2_with (first
      | ((with_reducible refine gate_dst (N := 3) rfl ?_); refine sh_box 3 #[.slice (some ad0) l0.length c0] 22 ?_; intro g3 hg w1 hbox hb; have GE3 := sh_z (w := w) hg; replace HB := sh_b (w := w) hb; have BK3 := Aside0.mk (hbox); have z3 := blk_all1 BK3.out; clear hb hbox hg)
      | ((with_reducible refine gate_dst (N := 4) rfl ?_); refine sh_box 4 #[.slice (some ad) l1.length c1] 46 ?_; intro g4 hg w2 hbox hb; have GE4 := sh_z (w := w) hg; clear z3; replace BK3 := sh_k BK3 hb; replace HB := sh_b (w := w) hb; have BK4 := Aside0.mk (hbox); have z3 := blk_all1 BK3.out; have z4 := blk_all1 BK4.out; clear hb hbox hg; (try replace hx := (HB.out.cell (World.block_lt_of_cell? w _ hx)).trans hx); (try replace hx0 := (HB.out.cell (World.block_lt_of_cell? w _ hx0)).trans hx0); (try replace hx1 := (HB.out.cell (World.block_lt_of_cell? w _ hx1)).trans hx1); (try replace hx2 := (HB.out.cell (World.block_lt_of_cell? w _ hx2)).trans hx2); (try replace hx3 := (HB.out.cell (World.block_lt_of_cell? w _ hx3)).trans hx3); (try replace hx4 := (HB.out.cell (World.block_lt_of_cell? w _ hx4)).trans hx4))
      | (go_at_call 34; refine (insn_Of.calls k _ _ _ _ _ 9 b2 b3 b4 b5 0 _ ?side1 HOF.out).mono ?_; (case side1 => exact Kd.C_below hrG0 HB.out); rintro e w3 ⟨rfl, hb⟩; clear z3 z4; replace BK3 := sh_k BK3 hb; replace BK4 := sh_k BK4 hb; replace HB := sh_b (w := w) hb; have z3 := blk_all1 BK3.out; have z4 := blk_all1 BK4.out; clear hb)
      | ((with_reducible refine gate_dst (N := 7) rfl ?_); refine sh_box 7 #[.int .i64 0, .int .i64 0, .int .i64 0, .bool false, .bool false] 63 ?_; intro g7 hg w4 hbox hb; have GE7 := sh_z (w := w) hg; have NB3_7 := sh_n BK3 hg; have NB4_7 := sh_n BK4 hg; clear z3 z4; replace BK3 := sh_k BK3 hb; replace BK4 := sh_k BK4 hb; replace HB := sh_b (w := w) hb; have BK7 := Aside0.mk (hbox); have z3 := blk_all1 BK3.out; have z4 := blk_all1 BK4.out; have z7 := blk_all5 BK7.out; clear hb hbox hg)
      | ((with_reducible refine gate_dst (N := 9) rfl ?_); refine sh_box 9 #[.slice none 0 0] 25 ?_; intro g9 hg w5 hbox hb; have GE9 := sh_z (w := w) hg; clear z3 z4 z7; replace BK3 := sh_kp (g := g3) (t := 22) #[.slice (some ad0) l0.length c0] hb; replace BK4 := sh_kp (g := g4) (t := 46) #[.slice (some ad) l1.length c1] hb; replace BK7 := sh_kp (g := g7) (t := 63) #[.int .i64 9, .int .i64 b2, .int .i64 b3, .bool b4, .bool b5] hb; replace HB := sh_b (w := w) hb; have BK9 := Aside0.mk (hbox); have z3 := blk_all1 BK3.out; have z4 := blk_all1 BK4.out; have z7 := blk_all5 BK7.out; have z9 := blk_all1 BK9.out; clear hx hx0 hx1 hx2 hx3 hx4; obtain ⟨ad0', ea, hx0, hx1, hx2, hx3, hx4⟩ := at_T44 (Kd.C_below HC.out HB.out) a2 k0' k1'; obtain rfl : ad0 = ad0' := Option.some.inj ea; clear ea; have HR := Aside0.mk (Kd.R_nil (Kd.int .i64) 3 w5 w.heap.size (fun _ => True)); clear hb hbox hg))
    go_ret
    exact ⟨_, rfl, HR.out, b_now⟩
  by_cases e7 : b1 = 7
  · subst e7
    rw [show nextV l0 l1 a2 7 = addV l0.length l1 [] (farV l0 a2) from rfl]
    go_enter Tryd.func27, Tryd.ntmps27
    go_wp2_with (first
      | ((with_reducible refine gate_dst (N := 3) rfl ?_); refine sh_box 3 #[.slice (some ad0) l0.length c0] 22 ?_; intro g3 hg w1 hbox hb; have GE3 := sh_z (w := w) hg; replace HB := sh_b (w := w) hb; have BK3 := Aside0.mk (hbox); have z3 := blk_all1 BK3.out; clear hb hbox hg)
      | ((with_reducible refine gate_dst (N := 4) rfl ?_); refine sh_box 4 #[.slice (some ad) l1.length c1] 46 ?_; intro g4 hg w2 hbox hb; have GE4 := sh_z (w := w) hg; clear z3; replace BK3 := sh_k BK3 hb; replace HB := sh_b (w := w) hb; have BK4 := Aside0.mk (hbox); have z3 := blk_all1 BK3.out; have z4 := blk_all1 BK4.out; clear hb hbox hg; (try replace hx := (HB.out.cell (World.block_lt_of_cell? w _ hx)).trans hx); (try replace hx0 := (HB.out.cell (World.block_lt_of_cell? w _ hx0)).trans hx0); (try replace hx1 := (HB.out.cell (World.block_lt_of_cell? w _ hx1)).trans hx1); (try replace hx2 := (HB.out.cell (World.block_lt_of_cell? w _ hx2)).trans hx2); (try replace hx3 := (HB.out.cell (World.block_lt_of_cell? w _ hx3)).trans hx3); (try replace hx4 := (HB.out.cell (World.block_lt_of_cell? w _ hx4)).trans hx4))
      | (go_at_call 34; refine (insn_Of.calls k _ _ _ _ _ 7 b2 b3 b4 b5 0 _ ?side1 HOF.out).mono ?_; (case side1 => exact Kd.C_below hrG0 HB.out); rintro e w3 ⟨rfl, hb⟩; clear z3 z4; replace BK3 := sh_k BK3 hb; replace BK4 := sh_k BK4 hb; replace HB := sh_b (w := w) hb; have z3 := blk_all1 BK3.out; have z4 := blk_all1 BK4.out; clear hb)
      | ((with_reducible refine gate_dst (N := 7) rfl ?_); refine sh_box 7 #[.int .i64 0, .int .i64 0, .int .i64 0, .bool false, .bool false] 63 ?_; intro g7 hg w4 hbox hb; have GE7 := sh_z (w := w) hg; have NB3_7 := sh_n BK3 hg; have NB4_7 := sh_n BK4 hg; clear z3 z4; replace BK3 := sh_k BK3 hb; replace BK4 := sh_k BK4 hb; replace HB := sh_b (w := w) hb; have BK7 := Aside0.mk (hbox); have z3 := blk_all1 BK3.out; have z4 := blk_all1 BK4.out; have z7 := blk_all5 BK7.out; clear hb hbox hg)
      | ((with_reducible refine gate_dst (N := 9) rfl ?_); refine sh_box 9 #[.slice none 0 0] 25 ?_; intro g9 hg w5 hbox hb; have GE9 := sh_z (w := w) hg; clear z3 z4 z7; replace BK3 := sh_kp (g := g3) (t := 22) #[.slice (some ad0) l0.length c0] hb; replace BK4 := sh_kp (g := g4) (t := 46) #[.slice (some ad) l1.length c1] hb; replace BK7 := sh_kp (g := g7) (t := 63) #[.int .i64 7, .int .i64 b2, .int .i64 b3, .bool b4, .bool b5] hb; replace HB := sh_b (w := w) hb; have BK9 := Aside0.mk (hbox); have z3 := blk_all1 BK3.out; have z4 := blk_all1 BK4.out; have z7 := blk_all5 BK7.out; have z9 := blk_all1 BK9.out; clear hx hx0 hx1 hx2 hx3 hx4; obtain ⟨ad0', ea, hx0, hx1, hx2, hx3, hx4⟩ := at_T44 (Kd.C_below HC.out HB.out) a2 k0' k1'; obtain rfl : ad0 = ad0' := Option.some.inj ea; clear ea; have HR := Aside0.mk (Kd.R_nil (Kd.int .i64) 3 w5 w.heap.size (fun _ => True)); clear hb hbox hg)
      | (go_at_call 35; refine (add_calls w.heap.size (some ad0) c0 l0 (some ad) c1 l1 ([]) (farV l0 a2) _ _ g3 g4 g9 hs (by first | decide | (have := addV_len l0.length l1 [] (mn (wrap64 (a2 + 1)) (farV l0 a2)); simp at this; omega)) (Kd.C_below HS.out HB.out) BK3.out BK4.out BK9.out GE9.out HB.out.size HR.out).mono ?_; rintro e w6 ⟨rfl, v6, hR, q9, hb, q3, q4⟩; clear z3 z4 z9; (try clear z7); replace HB := Aside0.mk (HB.out.trans hb); replace BK3 := Aside0.mk q3; replace BK4 := Aside0.mk q4; replace BK9 := Aside0.mk q9; replace HR := Aside0.mk hR; have z3 := blk_all1 BK3.out; have z4 := blk_all1 BK4.out; have z9 := blk_all1 BK9.out; clear hR q9 hb q3 q4))
    go_ret
    exact ⟨_, rfl, HR.out, b_now⟩
  by_cases e6 : b1 = 6
  · subst e6
    by_cases cm : farV l0 a2 < wrap64 (a2 + 1)
    · have cn : ¬ (wrap64 (a2 + 1) < farV l0 a2) := by omega
      have cm' : (wrap64 (wrap64 (a2 + 1) + wrap64 (rd_T44 l0 a2).f3) < wrap64 (a2 + 1)) := cm
      have cn' : ¬ (wrap64 (a2 + 1) < wrap64 (wrap64 (a2 + 1) + wrap64 (rd_T44 l0 a2).f3)) := cn
      rw [show nextV l0 l1 a2 6 = addV l0.length l1 (addV l0.length l1 [] (farV l0 a2)) (wrap64 (a2 + 1)) from by show addV l0.length l1 (addV l0.length l1 [] (mn (wrap64 (a2 + 1)) (farV l0 a2))) (mx (wrap64 (a2 + 1)) (farV l0 a2)) = _; unfold mn mx; first | rw [if_pos cm, if_neg cn] | rw [if_neg cm, if_pos cn] | rw [if_neg cm, if_neg cn]]
      go_enter Tryd.func27, Tryd.ntmps27
      go_wp2_with (first
        | ((with_reducible refine gate_dst (N := 3) rfl ?_); refine sh_box 3 #[.slice (some ad0) l0.length c0] 22 ?_; intro g3 hg w1 hbox hb; have GE3 := sh_z (w := w) hg; replace HB := sh_b (w := w) hb; have BK3 := Aside0.mk (hbox); have z3 := blk_all1 BK3.out; clear hb hbox hg)
        | ((with_reducible refine gate_dst (N := 4) rfl ?_); refine sh_box 4 #[.slice (some ad) l1.length c1] 46 ?_; intro g4 hg w2 hbox hb; have GE4 := sh_z (w := w) hg; clear z3; replace BK3 := sh_k BK3 hb; replace HB := sh_b (w := w) hb; have BK4 := Aside0.mk (hbox); have z3 := blk_all1 BK3.out; have z4 := blk_all1 BK4.out; clear hb hbox hg; (try replace hx := (HB.out.cell (World.block_lt_of_cell? w _ hx)).trans hx); (try replace hx0 := (HB.out.cell (World.block_lt_of_cell? w _ hx0)).trans hx0); (try replace hx1 := (HB.out.cell (World.block_lt_of_cell? w _ hx1)).trans hx1); (try replace hx2 := (HB.out.cell (World.block_lt_of_cell? w _ hx2)).trans hx2); (try replace hx3 := (HB.out.cell (World.block_lt_of_cell? w _ hx3)).trans hx3); (try replace hx4 := (HB.out.cell (World.block_lt_of_cell? w _ hx4)).trans hx4))
        | (go_at_call 34; refine (insn_Of.calls k _ _ _ _ _ 6 b2 b3 b4 b5 0 _ ?side1 HOF.out).mono ?_; (case side1 => exact Kd.C_below hrG0 HB.out); rintro e w3 ⟨rfl, hb⟩; clear z3 z4; replace BK3 := sh_k BK3 hb; replace BK4 := sh_k BK4 hb; replace HB := sh_b (w := w) hb; have z3 := blk_all1 BK3.out; have z4 := blk_all1 BK4.out; clear hb)
        | ((with_reducible refine gate_dst (N := 7) rfl ?_); refine sh_box 7 #[.int .i64 0, .int .i64 0, .int .i64 0, .bool false, .bool false] 63 ?_; intro g7 hg w4 hbox hb; have GE7 := sh_z (w := w) hg; have NB3_7 := sh_n BK3 hg; have NB4_7 := sh_n BK4 hg; clear z3 z4; replace BK3 := sh_k BK3 hb; replace BK4 := sh_k BK4 hb; replace HB := sh_b (w := w) hb; have BK7 := Aside0.mk (hbox); have z3 := blk_all1 BK3.out; have z4 := blk_all1 BK4.out; have z7 := blk_all5 BK7.out; clear hb hbox hg)
        | ((with_reducible refine gate_dst (N := 9) rfl ?_); refine sh_box 9 #[.slice none 0 0] 25 ?_; intro g9 hg w5 hbox hb; have GE9 := sh_z (w := w) hg; clear z3 z4 z7; replace BK3 := sh_kp (g := g3) (t := 22) #[.slice (some ad0) l0.length c0] hb; replace BK4 := sh_kp (g := g4) (t := 46) #[.slice (some ad) l1.length c1] hb; replace BK7 := sh_kp (g := g7) (t := 63) #[.int .i64 6, .int .i64 b2, .int .i64 b3, .bool b4, .bool b5] hb; replace HB := sh_b (w := w) hb; have BK9 := Aside0.mk (hbox); have z3 := blk_all1 BK3.out; have z4 := blk_all1 BK4.out; have z7 := blk_all5 BK7.out; have z9 := blk_all1 BK9.out; clear hx hx0 hx1 hx2 hx3 hx4; obtain ⟨ad0', ea, hx0, hx1, hx2, hx3, hx4⟩ := at_T44 (Kd.C_below HC.out HB.out) a2 k0' k1'; obtain rfl : ad0 = ad0' := Option.some.inj ea; clear ea; have HR := Aside0.mk (Kd.R_nil (Kd.int .i64) 3 w5 w.heap.size (fun _ => True)); clear hb hbox hg)
        | (go_at_call 35; refine (add_calls w.heap.size (some ad0) c0 l0 (some ad) c1 l1 ([]) (farV l0 a2) (.slice none 0 0) _ g3 g4 g9 hs (by first | decide | (have := addV_len l0.length l1 [] (farV l0 a2); simp at this; omega)) (Kd.C_below HS.out HB.out) BK3.out BK4.out BK9.out GE9.out HB.out.size HR.out).mono ?_; rintro e w6 ⟨rfl, v6, hR, q9, hb, q3, q4⟩; clear z3 z4 z9; (try clear z7); replace HB := Aside0.mk (HB.out.trans hb); replace BK3 := Aside0.mk q3; replace BK4 := Aside0.mk q4; replace BK9 := Aside0.mk q9; replace HR := Aside0.mk hR; have z3 := blk_all1 BK3.out; have z4 := blk_all1 BK4.out; have z9 := blk_all1 BK9.out; clear hR q9 hb q3 q4)
        | (go_at_call 35; refine (add_calls w.heap.size (some ad0) c0 l0 (some ad) c1 l1 (addV l0.length l1 [] (farV l0 a2)) (wrap64 (a2 + 1)) _ _ g3 g4 g9 hs (by first | decide | (have := addV_len l0.length l1 [] (farV l0 a2); simp at this; omega)) (Kd.C_below HS.out HB.out) BK3.out BK4.out BK9.out GE9.out HB.out.size HR.out).mono ?_; rintro e w7 ⟨rfl, v7, hR, q9, hb, q3, q4⟩; clear z3 z4 z9; (try clear z7); replace HB := Aside0.mk (HB.out.trans hb); replace BK3 := Aside0.mk q3; replace BK4 := Aside0.mk q4; replace BK9 := Aside0.mk q9; replace HR := Aside0.mk hR; have z3 := blk_all1 BK3.out; have z4 := blk_all1 BK4.out; have z9 := blk_all1 BK9.out; clear hR q9 hb q3 q4))
      go_ret
      exact ⟨_, rfl, HR.out, b_now⟩
    by_cases cn : wrap64 (a2 + 1) < farV l0 a2
    · have cm' : ¬ (wrap64 (wrap64 (a2 + 1) + wrap64 (rd_T44 l0 a2).f3) < wrap64 (a2 + 1)) := cm
      have cn' : (wrap64 (a2 + 1) < wrap64 (wrap64 (a2 + 1) + wrap64 (rd_T44 l0 a2).f3)) := cn
      rw [show nextV l0 l1 a2 6 = addV l0.length l1 (addV l0.length l1 [] (wrap64 (a2 + 1))) (farV l0 a2) from by show addV l0.length l1 (addV l0.length l1 [] (mn (wrap64 (a2 + 1)) (farV l0 a2))) (mx (wrap64 (a2 + 1)) (farV l0 a2)) = _; unfold mn mx; first | rw [if_pos cm, if_neg cn] | rw [if_neg cm, if_pos cn] | rw [if_neg cm, if_neg cn]]
      go_enter Tryd.func27, Tryd.ntmps27
      go_wp2_with (first
        | ((with_reducible refine gate_dst (N := 3) rfl ?_); refine sh_box 3 #[.slice (some ad0) l0.length c0] 22 ?_; intro g3 hg w1 hbox hb; have GE3 := sh_z (w := w) hg; replace HB := sh_b (w := w) hb; have BK3 := Aside0.mk (hbox); have z3 := blk_all1 BK3.out; clear hb hbox hg)
        | ((with_reducible refine gate_dst (N := 4) rfl ?_); refine sh_box 4 #[.slice (some ad) l1.length c1] 46 ?_; intro g4 hg w2 hbox hb; have GE4 := sh_z (w := w) hg; clear z3; replace BK3 := sh_k BK3 hb; replace HB := sh_b (w := w) hb; have BK4 := Aside0.mk (hbox); have z3 := blk_all1 BK3.out; have z4 := blk_all1 BK4.out; clear hb hbox hg; (try replace hx := (HB.out.cell (World.block_lt_of_cell? w _ hx)).trans hx); (try replace hx0 := (HB.out.cell (World.block_lt_of_cell? w _ hx0)).trans hx0); (try replace hx1 := (HB.out.cell (World.block_lt_of_cell? w _ hx1)).trans hx1); (try replace hx2 := (HB.out.cell (World.block_lt_of_cell? w _ hx2)).trans hx2); (try replace hx3 := (HB.out.cell (World.block_lt_of_cell? w _ hx3)).trans hx3); (try replace hx4 := (HB.out.cell (World.block_lt_of_cell? w _ hx4)).trans hx4))
        | (go_at_call 34; refine (insn_Of.calls k _ _ _ _ _ 6 b2 b3 b4 b5 0 _ ?side1 HOF.out).mono ?_; (case side1 => exact Kd.C_below hrG0 HB.out); rintro e w3 ⟨rfl, hb⟩; clear z3 z4; replace BK3 := sh_k BK3 hb; replace BK4 := sh_k BK4 hb; replace HB := sh_b (w := w) hb; have z3 := blk_all1 BK3.out; have z4 := blk_all1 BK4.out; clear hb)
        | ((with_reducible refine gate_dst (N := 7) rfl ?_); refine sh_box 7 #[.int .i64 0, .int .i64 0, .int .i64 0, .bool false, .bool false] 63 ?_; intro g7 hg w4 hbox hb; have GE7 := sh_z (w := w) hg; have NB3_7 := sh_n BK3 hg; have NB4_7 := sh_n BK4 hg; clear z3 z4; replace BK3 := sh_k BK3 hb; replace BK4 := sh_k BK4 hb; replace HB := sh_b (w := w) hb; have BK7 := Aside0.mk (hbox); have z3 := blk_all1 BK3.out; have z4 := blk_all1 BK4.out; have z7 := blk_all5 BK7.out; clear hb hbox hg)
        | ((with_reducible refine gate_dst (N := 9) rfl ?_); refine sh_box 9 #[.slice none 0 0] 25 ?_; intro g9 hg w5 hbox hb; have GE9 := sh_z (w := w) hg; clear z3 z4 z7; replace BK3 := sh_kp (g := g3) (t := 22) #[.slice (some ad0) l0.length c0] hb; replace BK4 := sh_kp (g := g4) (t := 46) #[.slice (some ad) l1.length c1] hb; replace BK7 := sh_kp (g := g7) (t := 63) #[.int .i64 6, .int .i64 b2, .int .i64 b3, .bool b4, .bool b5] hb; replace HB := sh_b (w := w) hb; have BK9 := Aside0.mk (hbox); have z3 := blk_all1 BK3.out; have z4 := blk_all1 BK4.out; have z7 := blk_all5 BK7.out; have z9 := blk_all1 BK9.out; clear hx hx0 hx1 hx2 hx3 hx4; obtain ⟨ad0', ea, hx0, hx1, hx2, hx3, hx4⟩ := at_T44 (Kd.C_below HC.out HB.out) a2 k0' k1'; obtain rfl : ad0 = ad0' := Option.some.inj ea; clear ea; have HR := Aside0.mk (Kd.R_nil (Kd.int .i64) 3 w5 w.heap.size (fun _ => True)); clear hb hbox hg)
        | (go_at_call 35; refine (add_calls w.heap.size (some ad0) c0 l0 (some ad) c1 l1 ([]) (wrap64 (a2 + 1)) (.slice none 0 0) _ g3 g4 g9 hs (by first | decide | (have := addV_len l0.length l1 [] (wrap64 (a2 + 1)); simp at this; omega)) (Kd.C_below HS.out HB.out) BK3.out BK4.out BK9.out GE9.out HB.out.size HR.out).mono ?_; rintro e w6 ⟨rfl, v6, hR, q9, hb, q3, q4⟩; clear z3 z4 z9; (try clear z7); replace HB := Aside0.mk (HB.out.trans hb); replace BK3 := Aside0.mk q3; replace BK4 := Aside0.mk q4; replace BK9 := Aside0.mk q9; replace HR := Aside0.mk hR; have z3 := blk_all1 BK3.out; have z4 := blk_all1 BK4.out; have z9 := blk_all1 BK9.out; clear hR q9 hb q3 q4)
        | (go_at_call 35; refine (add_calls w.heap.size (some ad0) c0 l0 (some ad) c1 l1 (addV l0.length l1 [] (wrap64 (a2 + 1))) (farV l0 a2) _ _ g3 g4 g9 hs (by first | decide | (have := addV_len l0.length l1 [] (wrap64 (a2 + 1)); simp at this; omega)) (Kd.C_below HS.out HB.out) BK3.out BK4.out BK9.out GE9.out HB.out.size HR.out).mono ?_; rintro e w7 ⟨rfl, v7, hR, q9, hb, q3, q4⟩; clear z3 z4 z9; (try clear z7); replace HB := Aside0.mk (HB.out.trans hb); replace BK3 := Aside0.mk q3; replace BK4 := Aside0.mk q4; replace BK9 := Aside0.mk q9; replace HR := Aside0.mk hR; have z3 := blk_all1 BK3.out; have z4 := blk_all1 BK4.out; have z9 := blk_all1 BK9.out; clear hR q9 hb q3 q4))
      go_ret
      exact ⟨_, rfl, HR.out, b_now⟩
    have cm' : ¬ (wrap64 (wrap64 (a2 + 1) + wrap64 (rd_T44 l0 a2).f3) < wrap64 (a2 + 1)) := cm
    have cn' : ¬ (wrap64 (a2 + 1) < wrap64 (wrap64 (a2 + 1) + wrap64 (rd_T44 l0 a2).f3)) := cn
    rw [show nextV l0 l1 a2 6 = addV l0.length l1 (addV l0.length l1 [] (wrap64 (a2 + 1))) (wrap64 (a2 + 1)) from by show addV l0.length l1 (addV l0.length l1 [] (mn (wrap64 (a2 + 1)) (farV l0 a2))) (mx (wrap64 (a2 + 1)) (farV l0 a2)) = _; unfold mn mx; first | rw [if_pos cm, if_neg cn] | rw [if_neg cm, if_pos cn] | rw [if_neg cm, if_neg cn]]
    go_enter Tryd.func27, Tryd.ntmps27
    go_wp2_with (first
      | ((with_reducible refine gate_dst (N := 3) rfl ?_); refine sh_box 3 #[.slice (some ad0) l0.length c0] 22 ?_; intro g3 hg w1 hbox hb; have GE3 := sh_z (w := w) hg; replace HB := sh_b (w := w) hb; have BK3 := Aside0.mk (hbox); have z3 := blk_all1 BK3.out; clear hb hbox hg)
      | ((with_reducible refine gate_dst (N := 4) rfl ?_); refine sh_box 4 #[.slice (some ad) l1.length c1] 46 ?_; intro g4 hg w2 hbox hb; have GE4 := sh_z (w := w) hg; clear z3; replace BK3 := sh_k BK3 hb; replace HB := sh_b (w := w) hb; have BK4 := Aside0.mk (hbox); have z3 := blk_all1 BK3.out; have z4 := blk_all1 BK4.out; clear hb hbox hg; (try replace hx := (HB.out.cell (World.block_lt_of_cell? w _ hx)).trans hx); (try replace hx0 := (HB.out.cell (World.block_lt_of_cell? w _ hx0)).trans hx0); (try replace hx1 := (HB.out.cell (World.block_lt_of_cell? w _ hx1)).trans hx1); (try replace hx2 := (HB.out.cell (World.block_lt_of_cell? w _ hx2)).trans hx2); (try replace hx3 := (HB.out.cell (World.block_lt_of_cell? w _ hx3)).trans hx3); (try replace hx4 := (HB.out.cell (World.block_lt_of_cell? w _ hx4)).trans hx4))
      | (go_at_call 34; refine (insn_Of.calls k _ _ _ _ _ 6 b2 b3 b4 b5 0 _ ?side1 HOF.out).mono ?_; (case side1 => exact Kd.C_below hrG0 HB.out); rintro e w3 ⟨rfl, hb⟩; clear z3 z4; replace BK3 := sh_k BK3 hb; replace BK4 := sh_k BK4 hb; replace HB := sh_b (w := w) hb; have z3 := blk_all1 BK3.out; have z4 := blk_all1 BK4.out; clear hb)
      | ((with_reducible refine gate_dst (N := 7) rfl ?_); refine sh_box 7 #[.int .i64 0, .int .i64 0, .int .i64 0, .bool false, .bool false] 63 ?_; intro g7 hg w4 hbox hb; have GE7 := sh_z (w := w) hg; have NB3_7 := sh_n BK3 hg; have NB4_7 := sh_n BK4 hg; clear z3 z4; replace BK3 := sh_k BK3 hb; replace BK4 := sh_k BK4 hb; replace HB := sh_b (w := w) hb; have BK7 := Aside0.mk (hbox); have z3 := blk_all1 BK3.out; have z4 := blk_all1 BK4.out; have z7 := blk_all5 BK7.out; clear hb hbox hg)
      | ((with_reducible refine gate_dst (N := 9) rfl ?_); refine sh_box 9 #[.slice none 0 0] 25 ?_; intro g9 hg w5 hbox hb; have GE9 := sh_z (w := w) hg; clear z3 z4 z7; replace BK3 := sh_kp (g := g3) (t := 22) #[.slice (some ad0) l0.length c0] hb; replace BK4 := sh_kp (g := g4) (t := 46) #[.slice (some ad) l1.length c1] hb; replace BK7 := sh_kp (g := g7) (t := 63) #[.int .i64 6, .int .i64 b2, .int .i64 b3, .bool b4, .bool b5] hb; replace HB := sh_b (w := w) hb; have BK9 := Aside0.mk (hbox); have z3 := blk_all1 BK3.out; have z4 := blk_all1 BK4.out; have z7 := blk_all5 BK7.out; have z9 := blk_all1 BK9.out; clear hx hx0 hx1 hx2 hx3 hx4; obtain ⟨ad0', ea, hx0, hx1, hx2, hx3, hx4⟩ := at_T44 (Kd.C_below HC.out HB.out) a2 k0' k1'; obtain rfl : ad0 = ad0' := Option.some.inj ea; clear ea; have HR := Aside0.mk (Kd.R_nil (Kd.int .i64) 3 w5 w.heap.size (fun _ => True)); clear hb hbox hg)
      | (go_at_call 35; refine (add_calls w.heap.size (some ad0) c0 l0 (some ad) c1 l1 ([]) (wrap64 (a2 + 1)) (.slice none 0 0) _ g3 g4 g9 hs (by first | decide | (have := addV_len l0.length l1 [] (wrap64 (a2 + 1)); simp at this; omega)) (Kd.C_below HS.out HB.out) BK3.out BK4.out BK9.out GE9.out HB.out.size HR.out).mono ?_; rintro e w6 ⟨rfl, v6, hR, q9, hb, q3, q4⟩; clear z3 z4 z9; (try clear z7); replace HB := Aside0.mk (HB.out.trans hb); replace BK3 := Aside0.mk q3; replace BK4 := Aside0.mk q4; replace BK9 := Aside0.mk q9; replace HR := Aside0.mk hR; have z3 := blk_all1 BK3.out; have z4 := blk_all1 BK4.out; have z9 := blk_all1 BK9.out; clear hR q9 hb q3 q4)
      | (go_at_call 35; refine (add_calls w.heap.size (some ad0) c0 l0 (some ad) c1 l1 (addV l0.length l1 [] (wrap64 (a2 + 1))) (wrap64 (a2 + 1)) _ _ g3 g4 g9 hs (by first | decide | (have := addV_len l0.length l1 [] (wrap64 (a2 + 1)); simp at this; omega)) (Kd.C_below HS.out HB.out) BK3.out BK4.out BK9.out GE9.out HB.out.size HR.out).mono ?_; rintro e w7 ⟨rfl, v7, hR, q9, hb, q3, q4⟩; clear z3 z4 z9; (try clear z7); replace HB := Aside0.mk (HB.out.trans hb); replace BK3 := Aside0.mk q3; replace BK4 := Aside0.mk q4; replace BK9 := Aside0.mk q9; replace HR := Aside0.mk hR; have z3 := blk_all1 BK3.out; have z4 := blk_all1 BK4.out; have z9 := blk_all1 BK9.out; clear hR q9 hb q3 q4))
    go_ret
    exact ⟨_, rfl, HR.out, b_now⟩
  by_cases e10 : b1 = 10
  · subst e10
    rw [show nextV l0 l1 a2 10 = addV l0.length l1 [] (wrap64 (a2 + 2)) from rfl]
    go_enter Tryd.func27, Tryd.ntmps27
    go_wp2_with (first
      | ((with_reducible refine gate_dst (N := 3) rfl ?_); refine sh_box 3 #[.slice (some ad0) l0.length c0] 22 ?_; intro g3 hg w1 hbox hb; have GE3 := sh_z (w := w) hg; replace HB := sh_b (w := w) hb; have BK3 := Aside0.mk (hbox); have z3 := blk_all1 BK3.out; clear hb hbox hg)
      | ((with_reducible refine gate_dst (N := 4) rfl ?_); refine sh_box 4 #[.slice (some ad) l1.length c1] 46 ?_; intro g4 hg w2 hbox hb; have GE4 := sh_z (w := w) hg; clear z3; replace BK3 := sh_k BK3 hb; replace HB := sh_b (w := w) hb; have BK4 := Aside0.mk (hbox); have z3 := blk_all1 BK3.out; have z4 := blk_all1 BK4.out; clear hb hbox hg; (try replace hx := (HB.out.cell (World.block_lt_of_cell? w _ hx)).trans hx); (try replace hx0 := (HB.out.cell (World.block_lt_of_cell? w _ hx0)).trans hx0); (try replace hx1 := (HB.out.cell (World.block_lt_of_cell? w _ hx1)).trans hx1); (try replace hx2 := (HB.out.cell (World.block_lt_of_cell? w _ hx2)).trans hx2); (try replace hx3 := (HB.out.cell (World.block_lt_of_cell? w _ hx3)).trans hx3); (try replace hx4 := (HB.out.cell (World.block_lt_of_cell? w _ hx4)).trans hx4))
      | (go_at_call 34; refine (insn_Of.calls k _ _ _ _ _ 10 b2 b3 b4 b5 0 _ ?side1 HOF.out).mono ?_; (case side1 => exact Kd.C_below hrG0 HB.out); rintro e w3 ⟨rfl, hb⟩; clear z3 z4; replace BK3 := sh_k BK3 hb; replace BK4 := sh_k BK4 hb; replace HB := sh_b (w := w) hb; have z3 := blk_all1 BK3.out; have z4 := blk_all1 BK4.out; clear hb)
      | ((with_reducible refine gate_dst (N := 7) rfl ?_); refine sh_box 7 #[.int .i64 0, .int .i64 0, .int .i64 0, .bool false, .bool false] 63 ?_; intro g7 hg w4 hbox hb; have GE7 := sh_z (w := w) hg; have NB3_7 := sh_n BK3 hg; have NB4_7 := sh_n BK4 hg; clear z3 z4; replace BK3 := sh_k BK3 hb; replace BK4 := sh_k BK4 hb; replace HB := sh_b (w := w) hb; have BK7 := Aside0.mk (hbox); have z3 := blk_all1 BK3.out; have z4 := blk_all1 BK4.out; have z7 := blk_all5 BK7.out; clear hb hbox hg)
      | ((with_reducible refine gate_dst (N := 9) rfl ?_); refine sh_box 9 #[.slice none 0 0] 25 ?_; intro g9 hg w5 hbox hb; have GE9 := sh_z (w := w) hg; clear z3 z4 z7; replace BK3 := sh_kp (g := g3) (t := 22) #[.slice (some ad0) l0.length c0] hb; replace BK4 := sh_kp (g := g4) (t := 46) #[.slice (some ad) l1.length c1] hb; replace BK7 := sh_kp (g := g7) (t := 63) #[.int .i64 10, .int .i64 b2, .int .i64 b3, .bool b4, .bool b5] hb; replace HB := sh_b (w := w) hb; have BK9 := Aside0.mk (hbox); have z3 := blk_all1 BK3.out; have z4 := blk_all1 BK4.out; have z7 := blk_all5 BK7.out; have z9 := blk_all1 BK9.out; clear hx hx0 hx1 hx2 hx3 hx4; obtain ⟨ad0', ea, hx0, hx1, hx2, hx3, hx4⟩ := at_T44 (Kd.C_below HC.out HB.out) a2 k0' k1'; obtain rfl : ad0 = ad0' := Option.some.inj ea; clear ea; have HR := Aside0.mk (Kd.R_nil (Kd.int .i64) 3 w5 w.heap.size (fun _ => True)); clear hb hbox hg)
      | (go_at_call 35; refine (add_calls w.heap.size (some ad0) c0 l0 (some ad) c1 l1 ([]) (wrap64 (a2 + 2)) _ _ g3 g4 g9 hs (by first | decide | (have := addV_len l0.length l1 [] (mn (wrap64 (a2 + 1)) (farV l0 a2)); simp at this; omega)) (Kd.C_below HS.out HB.out) BK3.out BK4.out BK9.out GE9.out HB.out.size HR.out).mono ?_; rintro e w6 ⟨rfl, v6, hR, q9, hb, q3, q4⟩; clear z3 z4 z9; (try clear z7); replace HB := Aside0.mk (HB.out.trans hb); replace BK3 := Aside0.mk q3; replace BK4 := Aside0.mk q4; replace BK9 := Aside0.mk q9; replace HR := Aside0.mk hR; have z3 := blk_all1 BK3.out; have z4 := blk_all1 BK4.out; have z9 := blk_all1 BK9.out; clear hR q9 hb q3 q4))
    go_ret
    exact ⟨_, rfl, HR.out, b_now⟩
  by_cases e11 : b1 = 11
  · subst e11
    rw [show nextV l0 l1 a2 11 = addV l0.length l1 [] (wrap64 (a2 + 2)) from rfl]
    go_enter Tryd.func27, Tryd.ntmps27
    go_wp2_with (first
      | ((with_reducible refine gate_dst (N := 3) rfl ?_); refine sh_box 3 #[.slice (some ad0) l0.length c0] 22 ?_; intro g3 hg w1 hbox hb; have GE3 := sh_z (w := w) hg; replace HB := sh_b (w := w) hb; have BK3 := Aside0.mk (hbox); have z3 := blk_all1 BK3.out; clear hb hbox hg)
      | ((with_reducible refine gate_dst (N := 4) rfl ?_); refine sh_box 4 #[.slice (some ad) l1.length c1] 46 ?_; intro g4 hg w2 hbox hb; have GE4 := sh_z (w := w) hg; clear z3; replace BK3 := sh_k BK3 hb; replace HB := sh_b (w := w) hb; have BK4 := Aside0.mk (hbox); have z3 := blk_all1 BK3.out; have z4 := blk_all1 BK4.out; clear hb hbox hg; (try replace hx := (HB.out.cell (World.block_lt_of_cell? w _ hx)).trans hx); (try replace hx0 := (HB.out.cell (World.block_lt_of_cell? w _ hx0)).trans hx0); (try replace hx1 := (HB.out.cell (World.block_lt_of_cell? w _ hx1)).trans hx1); (try replace hx2 := (HB.out.cell (World.block_lt_of_cell? w _ hx2)).trans hx2); (try replace hx3 := (HB.out.cell (World.block_lt_of_cell? w _ hx3)).trans hx3); (try replace hx4 := (HB.out.cell (World.block_lt_of_cell? w _ hx4)).trans hx4))
      | (go_at_call 34; refine (insn_Of.calls k _ _ _ _ _ 11 b2 b3 b4 b5 0 _ ?side1 HOF.out).mono ?_; (case side1 => exact Kd.C_below hrG0 HB.out); rintro e w3 ⟨rfl, hb⟩; clear z3 z4; replace BK3 := sh_k BK3 hb; replace BK4 := sh_k BK4 hb; replace HB := sh_b (w := w) hb; have z3 := blk_all1 BK3.out; have z4 := blk_all1 BK4.out; clear hb)
      | ((with_reducible refine gate_dst (N := 7) rfl ?_); refine sh_box 7 #[.int .i64 0, .int .i64 0, .int .i64 0, .bool false, .bool false] 63 ?_; intro g7 hg w4 hbox hb; have GE7 := sh_z (w := w) hg; have NB3_7 := sh_n BK3 hg; have NB4_7 := sh_n BK4 hg; clear z3 z4; replace BK3 := sh_k BK3 hb; replace BK4 := sh_k BK4 hb; replace HB := sh_b (w := w) hb; have BK7 := Aside0.mk (hbox); have z3 := blk_all1 BK3.out; have z4 := blk_all1 BK4.out; have z7 := blk_all5 BK7.out; clear hb hbox hg)
      | ((with_reducible refine gate_dst (N := 9) rfl ?_); refine sh_box 9 #[.slice none 0 0] 25 ?_; intro g9 hg w5 hbox hb; have GE9 := sh_z (w := w) hg; clear z3 z4 z7; replace BK3 := sh_kp (g := g3) (t := 22) #[.slice (some ad0) l0.length c0] hb; replace BK4 := sh_kp (g := g4) (t := 46) #[.slice (some ad) l1.length c1] hb; replace BK7 := sh_kp (g := g7) (t := 63) #[.int .i64 11, .int .i64 b2, .int .i64 b3, .bool b4, .bool b5] hb; replace HB := sh_b (w := w) hb; have BK9 := Aside0.mk (hbox); have z3 := blk_all1 BK3.out; have z4 := blk_all1 BK4.out; have z7 := blk_all5 BK7.out; have z9 := blk_all1 BK9.out; clear hx hx0 hx1 hx2 hx3 hx4; obtain ⟨ad0', ea, hx0, hx1, hx2, hx3, hx4⟩ := at_T44 (Kd.C_below HC.out HB.out) a2 k0' k1'; obtain rfl : ad0 = ad0' := Option.some.inj ea; clear ea; have HR := Aside0.mk (Kd.R_nil (Kd.int .i64) 3 w5 w.heap.size (fun _ => True)); clear hb hbox hg)
      | (go_at_call 35; refine (add_calls w.heap.size (some ad0) c0 l0 (some ad) c1 l1 ([]) (wrap64 (a2 + 2)) _ _ g3 g4 g9 hs (by first | decide | (have := addV_len l0.length l1 [] (mn (wrap64 (a2 + 1)) (farV l0 a2)); simp at this; omega)) (Kd.C_below HS.out HB.out) BK3.out BK4.out BK9.out GE9.out HB.out.size HR.out).mono ?_; rintro e w6 ⟨rfl, v6, hR, q9, hb, q3, q4⟩; clear z3 z4 z9; (try clear z7); replace HB := Aside0.mk (HB.out.trans hb); replace BK3 := Aside0.mk q3; replace BK4 := Aside0.mk q4; replace BK9 := Aside0.mk q9; replace HR := Aside0.mk hR; have z3 := blk_all1 BK3.out; have z4 := blk_all1 BK4.out; have z9 := blk_all1 BK9.out; clear hR q9 hb q3 q4))
    go_ret
    exact ⟨_, rfl, HR.out, b_now⟩
  rw [show nextV l0 l1 a2 b1 = addV l0.length l1 [] (wrap64 (a2 + 1)) from by unfold nextV; rw [if_neg e9, if_neg e7, if_neg e6, if_neg (fun x => x.elim e10 e11)]]
  go_enter Tryd.func27, Tryd.ntmps27
  go_wp2_with (first
    | ((with_reducible refine gate_dst (N := 3) rfl ?_); refine sh_box 3 #[.slice (some ad0) l0.length c0] 22 ?_; intro g3 hg w1 hbox hb; have GE3 := sh_z (w := w) hg; replace HB := sh_b (w := w) hb; have BK3 := Aside0.mk (hbox); have z3 := blk_all1 BK3.out; clear hb hbox hg)
    | ((with_reducible refine gate_dst (N := 4) rfl ?_); refine sh_box 4 #[.slice (some ad) l1.length c1] 46 ?_; intro g4 hg w2 hbox hb; have GE4 := sh_z (w := w) hg; clear z3; replace BK3 := sh_k BK3 hb; replace HB := sh_b (w := w) hb; have BK4 := Aside0.mk (hbox); have z3 := blk_all1 BK3.out; have z4 := blk_all1 BK4.out; clear hb hbox hg; (try replace hx := (HB.out.cell (World.block_lt_of_cell? w _ hx)).trans hx); (try replace hx0 := (HB.out.cell (World.block_lt_of_cell? w _ hx0)).trans hx0); (try replace hx1 := (HB.out.cell (World.block_lt_of_cell? w _ hx1)).trans hx1); (try replace hx2 := (HB.out.cell (World.block_lt_of_cell? w _ hx2)).trans hx2); (try replace hx3 := (HB.out.cell (World.block_lt_of_cell? w _ hx3)).trans hx3); (try replace hx4 := (HB.out.cell (World.block_lt_of_cell? w _ hx4)).trans hx4))
    | (go_at_call 34; refine (insn_Of.calls k _ _ _ _ _ b1 b2 b3 b4 b5 0 _ ?side1 HOF.out).mono ?_; (case side1 => exact Kd.C_below hrG0 HB.out); rintro e w3 ⟨rfl, hb⟩; clear z3 z4; replace BK3 := sh_k BK3 hb; replace BK4 := sh_k BK4 hb; replace HB := sh_b (w := w) hb; have z3 := blk_all1 BK3.out; have z4 := blk_all1 BK4.out; clear hb)
    | ((with_reducible refine gate_dst (N := 7) rfl ?_); refine sh_box 7 #[.int .i64 0, .int .i64 0, .int .i64 0, .bool false, .bool false] 63 ?_; intro g7 hg w4 hbox hb; have GE7 := sh_z (w := w) hg; have NB3_7 := sh_n BK3 hg; have NB4_7 := sh_n BK4 hg; clear z3 z4; replace BK3 := sh_k BK3 hb; replace BK4 := sh_k BK4 hb; replace HB := sh_b (w := w) hb; have BK7 := Aside0.mk (hbox); have z3 := blk_all1 BK3.out; have z4 := blk_all1 BK4.out; have z7 := blk_all5 BK7.out; clear hb hbox hg)
    | ((with_reducible refine gate_dst (N := 9) rfl ?_); refine sh_box 9 #[.slice none 0 0] 25 ?_; intro g9 hg w5 hbox hb; have GE9 := sh_z (w := w) hg; clear z3 z4 z7; replace BK3 := sh_kp (g := g3) (t := 22) #[.slice (some ad0) l0.length c0] hb; replace BK4 := sh_kp (g := g4) (t := 46) #[.slice (some ad) l1.length c1] hb; replace BK7 := sh_kp (g := g7) (t := 63) #[.int .i64 b1, .int .i64 b2, .int .i64 b3, .bool b4, .bool b5] hb; replace HB := sh_b (w := w) hb; have BK9 := Aside0.mk (hbox); have z3 := blk_all1 BK3.out; have z4 := blk_all1 BK4.out; have z7 := blk_all5 BK7.out; have z9 := blk_all1 BK9.out; clear hx hx0 hx1 hx2 hx3 hx4; obtain ⟨ad0', ea, hx0, hx1, hx2, hx3, hx4⟩ := at_T44 (Kd.C_below HC.out HB.out) a2 k0' k1'; obtain rfl : ad0 = ad0' := Option.some.inj ea; clear ea; have HR := Aside0.mk (Kd.R_nil (Kd.int .i64) 3 w5 w.heap.size (fun _ => True)); clear hb hbox hg)
    | (go_at_call 35; refine (add_calls w.heap.size (some ad0) c0 l0 (some ad) c1 l1 ([]) (wrap64 (a2 + 1)) _ _ g3 g4 g9 hs (by first | decide | (have := addV_len l0.length l1 [] (mn (wrap64 (a2 + 1)) (farV l0 a2)); simp at this; omega)) (Kd.C_below HS.out HB.out) BK3.out BK4.out BK9.out GE9.out HB.out.size HR.out).mono ?_; rintro e w6 ⟨rfl, v6, hR, q9, hb, q3, q4⟩; clear z3 z4 z9; (try clear z7); replace HB := Aside0.mk (HB.out.trans hb); replace BK3 := Aside0.mk q3; replace BK4 := Aside0.mk q4; replace BK9 := Aside0.mk q9; replace HR := Aside0.mk hR; have z3 := blk_all1 BK3.out; have z4 := blk_all1 BK4.out; have z9 := blk_all1 BK9.out; clear hR q9 hb q3 q4))
  go_ret
  exact ⟨_, rfl, HR.out, b_now⟩
end Go.Proofs.YtkjcjlegokdpdaaDoor.P
