/- Chapter 05: graph.reached (walked by hand): which starts are reached, and of each place how many of these lead to it. -/
import Derived.Test.YtkjcjlegokdpdaaDoorNx
import Derived.Deep.DeepCutAuto
import Derived.Deep.CutBlock
namespace Go.Proofs.YtkjcjlegokdpdaaDoor.P
open Go.RowKit Go.Proofs.YtkjcjlegokdpdaaDoorW.PrintWords Go.Proofs.YtkjcjlegokdpdaaDoorW.PrintLast Go.Proofs.YtkjcjlegokdpdaaDoorW.PrintMore
set_option linter.unusedVariables false
set_option linter.unusedSimpArgs false

attribute [local go_sem] max2_int min2_int max_two min_two max_three min_three max_four min_four

def takeI (I : List Bool) (t : Int) : List Bool := if rdOf false I t = true then I else I.set t.toNat true
def takeL (I : List Bool) (L : List Int) (t : Int) : List Int := if rdOf false I t = true then L else L ++ [t]
theorem takeI_len (I : List Bool) (t : Int) : (takeI I t).length = I.length := by unfold takeI; split <;> simp
/-- What a call of take leaves of the rows of whole numbers that are not 'left'. -/
def FR (base : Nat) (w w' : World) (vl vl' : Value) : Prop := ∀ (ok : Nat → Prop) (v : Value) (xs : List Int), Kd.R (Kd.int .i64) 3 w base (fun k => ok k ∧ some k ≠ vl.ownBlock) v xs → Kd.R (Kd.int .i64) 3 w' base (fun k => ok k ∧ some k ≠ vl'.ownBlock) v xs
set_option maxHeartbeats 2000000 in
set_option maxRecDepth 100000 in
theorem take_calls (base : Nat) (I : List Bool) (L : List Int) (t : Int) (ci : Nat) (vi vl : Value) (okL : Nat → Prop) (w : World) (g6 g8 : Nat)
    (b6 : w.heap[g6]? = some (.cells #[vi] 46 (0, 0))) (b8 : w.heap[g8]? = some (.cells #[vl] 25 (0, 0))) (hb8 : base ≤ g8) (hn : base ≤ w.heap.size)
    (hI : Kd.R Kd.bool 4 w base (fun _ => True) vi I) (hL : Kd.R (Kd.int .i64) 3 w base okL vl L) (hfr : ∀ k, w.heap.size ≤ k → okL k) (h0 : 0 ≤ t) (h1 : t < (I.length : Int)) (hl : L.length < 1000000) :
    Calls Tryd.prog 39 #[.int .i64 t, .pointer (some ⟨g6, 0, none⟩), .pointer (some ⟨g8, 0, none⟩)] w fun e w' => e = .returned (.tuple #[]) ∧
      ∃ vl', Kd.R Kd.bool 4 w' base (fun _ => True) vi (takeI I t) ∧ Kd.R (Kd.int .i64) 3 w' base okL vl' (takeL I L t) ∧ w'.heap[g6]? = some (.cells #[vi] 46 (0, 0)) ∧ w'.heap[g8]? = some (.cells #[vl'] 25 (0, 0)) ∧
        Below base w w' ∧ FR base w w' vl vl' := by
  have z6 := blk_all1 b6
  have z8 := blk_all1 b8
  obtain ⟨gi, ci, ev, hgi, hgl, ce, hce⟩ := Kd.R_form hI (by omega)
  subst ev
  obtain ⟨hx, hfx⟩ := Kd.R_cell false hI t h0 h1
  by_cases k : rdOf false I t = true
  · have e1 : takeI I t = I := if_pos k
    have e2 : takeL I L t = L := if_pos k
    rw [e1, e2]
    rw [k] at hx
    go_enter Tryd.func39, Tryd.ntmps39
    go_wp2
    go_end0
    exact ⟨rfl, vl, hI, hL, b6, b8, Below.refl _ _, fun ok v xs h => h⟩
  · have e1 : takeI I t = I.set t.toNat true := if_neg k
    have e2 : takeL I L t = L ++ [t] := if_neg k
    rw [e1, e2]
    have k' : rdOf false I t = false := by simpa using k
    rw [k'] at hx
    obtain ⟨Al, cl, ev⟩ := Kd.R_slice hL
    subst ev
    obtain ⟨hput, hgr⟩ := Kd.R_put hI t true
    have n6 : g6 ≠ gi := fun e => by rw [e, hce] at b6; simp at b6
    have n8 : g8 ≠ gi := fun e => by rw [e, hce] at b8; simp at b8
    have c6 := blk_far b6 (p := ⟨gi, t.toNat, none⟩) n6 (.bool true)
    have c8 := blk_far b8 (p := ⟨gi, t.toNat, none⟩) n8 (.bool true)
    have zc8 := blk_all1 c8
    have hL1 := Kd.R_set hL hce (by decide) t.toNat (.bool true)
    go_enter Tryd.func39, Tryd.ntmps39
    go_wp2_with (first
      | ((with_reducible refine gate_builtin (b := .append) (xs := #[.tmp 12, .tmp 14]) rfl ?_); at_builtin; refine Kd.R_append (Kd.int .i64) (w0 := w) base rfl (.tmp 12) (.tmp 14) 25 3 (.int .i64 0) 8 rfl Tryd.underlying25 info3 rfl (by decide) (by omega) (.slice Al L.length cl) L t [.int .i64 t] okL (fun _ => False) rfl (by first | (go_simp; done) | (go_simp; rfl)) rfl (fun _ hk => hk.elim) ?aF ?aO ?aB ?aS ?aL ?_; (case aF => intro k hk; exact hfr k (by simpa using hk)); (case aO => exact hL1); (case aB => exact (Below.refl _ w).setCell (p := ⟨gi, t.toNat, none⟩) hgi _); (case aS => simpa using hn); (case aL => omega); intro v2 w3 ho hb hg hat; obtain ⟨Ao, co, eo⟩ := Kd.R_slice ho; subst eo
         have q6 := blk_grown c6 hg (Kd.R_ne hL1 c6 (by decide))
         have q8 := blk_grown c8 hg (Kd.R_ne hL1 c8 (by decide))
         have y8 := blk_all1 q8
         have hI3 := Kd.R_over' hput (Kd.R_typed hL1) (by decide) hg))
    go_end0
    have n68 : g6 ≠ g8 := fun e => by rw [e, b8] at b6; simp at b6
    have el : (L ++ [t]).length = L.length + 1 := by simp
    rw [el] at ho hat
    exact ⟨rfl, _, Kd.R_set hI3 q8 (by decide) 0 _, Kd.R_set ho q8 (by decide) 0 _, blk_far q6 (p := ⟨g8, 0, none⟩) n68 _, blk_put q8 0 _ rfl, hb.setCell (p := ⟨g8, 0, none⟩) hb8 _,
      fun ok v xs h => Kd.R_set (Kd.R_after (Kd.R_set h hce (by decide) t.toNat (.bool true)) hg hat) q8 (by decide) 0 _⟩
def rinK : List Int → List Bool → List Int → List Int → Option (List Bool × List Int × List Int)
  | [], I, F, L => some (I, F, L)
  | t :: r, I, F, L => if 0 ≤ t ∧ t < (F.length : Int) ∧ t < (I.length : Int) ∧ L.length < 1000000 then rinK r (takeI I t) (F.set t.toNat (wrap64 (rd F t + 1))) (takeL I L t) else none
def routK (k : Nat) (C : List S44) (s : List Bool) : Nat → List Bool → List Int → List Int → Option (List Bool × List Int)
  | 0, _, _, _ => none
  | n + 1, I, F, L => if L = [] then some (I, F) else (nextK k C s (rd L ((L.length - 1 : Nat) : Int))).bind fun l => (rinK l I F (L.take (L.length - 1))).bind fun x => routK k C s n x.1 x.2.1 x.2.2
def reachedK (k n : Nat) (C : List S44) (s : List Bool) : Option (List Bool × List Int) :=
  if C.length ≤ 1000000 then
    if C.length = 0 then routK k C s n [] [] [] else routK k C s n (takeI (List.replicate C.length false) 0) (List.replicate C.length 0) (takeL (List.replicate C.length false) [] 0)
  else none
set_option maxHeartbeats 4000000 in
set_option maxRecDepth 100000 in
theorem reachedK_calls (k n : Nat) (A0 : Option Addr) (c0 : Nat) (l0 : List S44) (A1 : Option Addr) (c1 : Nat) (l1 : List Bool) (r1 : List Bool) (r2 : List Int) (w : World) (hr0 : Kd.C k44 w A0 l0.length l0) (hc0 : l0.length ≤ c0) (hr1 : Kd.C Kd.bool w A1 l1.length l1) (hc1 : l1.length ≤ c1)
    (hrG0 : Kd.C (Kd.int .i64) w (some ⟨0, 0, none⟩) gl0.length gl0) (h : reachedK k n l0 l1 = some (r1, r2)) :
    Calls Tryd.prog 30 #[.slice A0 l0.length c0, .slice A1 l1.length c1] w fun e w' => ∃ v0_ v1_ : Value, e = .returned (.tuple #[v0_, v1_]) ∧ Kd.R Kd.bool 4 w' w.heap.size (fun _ => True) v0_ r1 ∧ Kd.R (Kd.int .i64) 3 w' w.heap.size (fun _ => True) v1_ r2 ∧ Below w.heap.size w w' := by
  unfold reachedK at h
  by_cases hlen : l0.length ≤ 1000000
  rotate_left
  · rw [if_neg hlen] at h; exact absurd h (by simp)
  rw [if_pos hlen] at h
  have HB := Aside0.mk (Below.refl w.heap.size w)
  have HR0 := Aside0.mk hr0
  have HR1 := Aside0.mk hr1
  have HG0 := Aside0.mk hrG0
  have H := Aside0.mk h
  clear hr0 hr1 hrG0 h
  -- up to the loop
  have key : ∃ (I : List Bool) (F L : List Int), routK k l0 l1 n I F L = some (r1, r2) ∧ I.length = l0.length ∧ F = List.replicate l0.length 0 ∧ ((l0.length = 0 ∧ I = List.replicate l0.length false ∧ L = []) ∨ (0 < l0.length ∧ I = takeI (List.replicate l0.length false) 0 ∧ L = takeL (List.replicate l0.length false) [] 0)) := by
    have h := H.out
    by_cases c : l0.length = 0
    · rw [if_pos c] at h
      exact ⟨[], [], [], h, by rw [c]; rfl, by rw [c]; rfl, .inl ⟨c, by rw [c]; rfl, rfl⟩⟩
    · rw [if_neg c] at h
      exact ⟨_, _, _, h, by rw [takeI_len]; simp, rfl, .inr ⟨by omega, rfl, rfl⟩⟩
  obtain ⟨I0, F0, L0, hK, hI0, hF0, hcase⟩ := key
  go_enter Tryd.func30, Tryd.ntmps30
  go_upto_if 22 with (first
    | ((with_reducible refine gate_dst (N := 15) rfl ?_); refine Kd.R_make Kd.bool (w0 := w) w.heap.size 4 rfl (N := 15) rfl 46 _ _ rfl (l0.length : Int) rfl rfl Tryd.underlying46 (.bool false) 1 info4 rfl (by decide) (by omega) false (ok := fun _ => True) (okp := fun _ => True) rfl (fun _ hk => hk) trivial (by omega) (by omega) (Below.refl _ _) (Nat.le_refl _) ?_; intro v1 w1 ho hb hg_ hnew_; simp only [Int.toNat_natCast] at ho; replace HB := sh_b (w := w) hb; have HI := Aside0.mk ho; clear ho hb hg_ hnew_; obtain ⟨Ai, ci, eo⟩ := Kd.R_slice HI.out; simp only [List.length_replicate] at eo; subst eo)
    | ((with_reducible refine gate_dst (N := 6) rfl ?_); refine sh_box 6 #[.slice none 0 0] 46 ?_; intro g6 hg w2 hbox hb; have GE6 := sh_z (w := w) hg; replace HB := sh_b (w := w) hb; have BK6 := Aside0.mk (hbox); have BK6e := Aside0.mk (hbox); have z6 := blk_all1 BK6.out; replace HI := Aside0.mk (Kd.R_below HI.out hb); clear hb hbox hg)
    | ((with_reducible refine gate_dst (N := 18) rfl ?_); refine Kd.R_make (Kd.int .i64) _ 3 rfl (N := 18) rfl 25 _ _ rfl (l0.length : Int) rfl rfl Tryd.underlying25 (.int .i64 0) 8 info3 rfl (by decide) (by omega) (0 : Int) (ok := fun _ => True) (okp := fun _ => True) rfl (fun _ hk => hk) trivial (by omega) (by omega) (Below.refl _ _) (Nat.le_refl _) ?_; intro v3 w3 ho hb hg_ hnew_; simp only [Int.toNat_natCast] at ho; clear z6; replace BK6 := sh_kp (g := g6) (t := 46) #[.slice Ai l0.length ci] hb; have z6 := blk_all1 BK6.out; replace HI := Aside0.mk (Kd.R_below (Kd.R_set HI.out BK6e.out (by decide) 0 (.slice Ai l0.length ci)) hb); have HF := Aside0.mk (Kd.R_lower ho (below_size b_now)); replace HB := sh_b (w := w) hb; clear ho hb hg_ hnew_; obtain ⟨Af, cf, eo⟩ := Kd.R_slice HF.out; simp only [List.length_replicate] at eo; subst eo)
    | ((with_reducible refine gate_dst (N := 8) rfl ?_); refine sh_box 8 #[.slice none 0 0] 25 ?_; intro g8 hg w4 hbox hb; have GE8 := sh_z (w := w) hg; have NB6_8 := sh_n BK6 hg; clear z6; replace BK6 := sh_k BK6 hb; replace HB := sh_b (w := w) hb; have BK8 := Aside0.mk (hbox); have z6 := blk_all1 BK6.out; have z8 := blk_all1 BK8.out; replace HI := Aside0.mk (Kd.R_below HI.out hb); replace HF := Aside0.mk (Kd.R_below HF.out hb); clear hb hbox hg))
  (try simp only [Act.put, List.setIfInBounds_toArray, List.set_cons_zero, List.set_cons_succ])
  go_cut [] (fun wc => ∃ (vl : Value), Aside0 (wc.heap[g6]? = some (.cells #[.slice Ai l0.length ci] 46 (0, 0))) ∧ Aside0 (wc.heap[g8]? = some (.cells #[vl] 25 (0, 0))) ∧ Aside0 (Kd.R Kd.bool 4 wc w.heap.size (fun _ => True) (.slice Ai l0.length ci) I0) ∧
    Aside0 (Kd.R (Kd.int .i64) 3 wc w.heap.size (fun k => some k ≠ (Value.slice Af l0.length cf).ownBlock) vl L0) ∧ Aside0 (Kd.R (Kd.int .i64) 3 wc w.heap.size (fun k => True ∧ some k ≠ vl.ownBlock) (.slice Af l0.length cf) F0) ∧ Aside0 (Below w.heap.size w wc))
  case first =>
    rcases hcase with ⟨c, rfl, rfl⟩ | ⟨c, rfl, rfl⟩
    · have c' : ¬ (0 < l0.length) := by omega
      go_wp2
      go_meet
      case rel => exact ⟨.slice none 0 0, ⟨BK6.out⟩, ⟨BK8.out⟩, ⟨HI.out⟩, ⟨Kd.R_nil _ _ _ _ _⟩, ⟨by rw [hF0]; exact Kd.R_mono HF.out (fun k hk => ⟨trivial, by simp [Value.ownBlock]⟩)⟩, ⟨HB.out⟩⟩
    · have hfr := Kd.R_lt HF.out
      go_wp2_with (go_at_call 39; refine (take_calls w.heap.size (List.replicate l0.length false) [] 0 ci (.slice Ai l0.length ci) (.slice none 0 0) (fun k => some k ≠ (Value.slice Af l0.length cf).ownBlock) _ g6 g8 BK6.out BK8.out GE8.out HB.out.size HI.out (Kd.R_nil _ _ _ _ _) (fun k hk e => by have := hfr k e.symm; omega) (by omega) (by simp; omega) (by simp)).mono ?_; rintro e w' ⟨rfl, vl', hI', hL', q6, q8, hb, hFR⟩)
      go_meet
      case rel => exact ⟨vl', ⟨q6⟩, ⟨q8⟩, ⟨hI'⟩, ⟨hL'⟩, ⟨by rw [hF0]; exact hFR (fun _ => True) _ _ (Kd.R_mono HF.out (fun k hk => ⟨trivial, by simp [Value.ownBlock]⟩))⟩, ⟨HB.out.trans hb⟩⟩
  case rest =>
    obtain ⟨vl, BK6, BK8, HI, HL, HF, HB⟩ := hcut
    have H := Aside0.mk hK
    clear hK hcase hF0
    go_wp2
    go_loopg [] n (fun kq wr => ∃ (I : List Bool) (F L : List Int) (vl : Value), Aside0 (routK k l0 l1 kq I F L = some (r1, r2)) ∧ Aside0 (wr.heap[g6]? = some (.cells #[.slice Ai l0.length ci] 46 (0, 0))) ∧ Aside0 (wr.heap[g8]? = some (.cells #[vl] 25 (0, 0))) ∧ Aside0 (Kd.R Kd.bool 4 wr w.heap.size (fun _ => True) (.slice Ai l0.length ci) I) ∧
      Aside0 (Kd.R (Kd.int .i64) 3 wr w.heap.size (fun k => some k ≠ (Value.slice Af l0.length cf).ownBlock) vl L) ∧ Aside0 (Kd.R (Kd.int .i64) 3 wr w.heap.size (fun k => True ∧ some k ≠ vl.ownBlock) (.slice Af l0.length cf) F) ∧ Aside0 (Below w.heap.size w wr))
    case atStart => exact ⟨I0, F0, L0, vl, H, BK6, BK8, HI, HL, HF, HB⟩
    case round =>
      obtain ⟨I, F, L, vl, H, BK6, BK8, HI, HL, HF, HB⟩ := hrel
      have h := H.out
      obtain ⟨Al, cl, ev⟩ := Kd.R_slice HL.out
      subst ev
      have z8 := blk_all1 BK8.out
      have z6 := blk_all1 BK6.out
      cases gk with
      | zero => simp only [routK] at h; exact absurd h (by simp)
      | succ k1 =>
      simp only [routK] at h
      by_cases hL : L = []
      · subst hL
        rw [if_pos rfl] at h
        simp only [Option.some.injEq, Prod.mk.injEq] at h
        obtain ⟨rfl, rfl⟩ := h
        simp only [List.length_nil] at z8
        go_wp2
        go_ret2
        exact ⟨_, _, rfl, HI.out, Kd.R_mono HF.out (fun _ _ => trivial), HB.out⟩
      · rw [if_neg hL] at h
        have hpos : 0 < L.length := List.length_pos_iff.2 hL
        obtain ⟨X, hX, h⟩ := Option.bind_eq_some_iff.1 h
        obtain ⟨⟨I2, F2, L2⟩, hin, h⟩ := Option.bind_eq_some_iff.1 h
        dsimp only at h
        have HX0 := Aside0.mk hX
        have HIN := Aside0.mk hin
        have HO := Aside0.mk h
        clear hX hin h H
        obtain ⟨gl, cl', ev, hgl, hglt, cel, hcel⟩ := Kd.R_form HL.out hpos
        injection ev with ea en ec
        subst ea
        subst ec
        have hcap := (Kd.R_reads' HL.out).2.1
        have hmax := (Kd.R_reads' HL.out).2.2.2.1
        have hw : wrap64 ((L.length : Int) - 1) = ((L.length - 1 : Nat) : Int) := by unfold wrap64; omega
        obtain ⟨hx, _⟩ := Kd.R_cell (0 : Int) HL.out ((L.length - 1 : Nat) : Int) (by omega) (by omega)
        simp only [Int.toNat_natCast] at hx
        go_wp2_with (go_at_call 27; refine (nextK_calls k A0 c0 l0 A1 c1 l1 (rd L ((L.length - 1 : Nat) : Int)) X _ ?s1 hc0 ?s2 hc1 ?s3 HX0.out).mono ?_; (case s1 => exact Kd.C_below HR0.out b_now); (case s2 => exact Kd.C_below HR1.out b_now); (case s3 => exact Kd.C_below HG0.out b_now); rintro e w5 ⟨vx, rfl, hx', hb⟩; obtain ⟨Ax, cx, ex⟩ := Kd.R_slice hx'; subst ex; have hltF := Kd.R_lt HF.out; have hltL := Kd.R_lt HL.out; have HX := Aside0.mk (Kd.R_lower (Kd.R_new' (u := .slice (some ⟨gl, 0, none⟩) (L.length - 1) cl) (Kd.R_new' (u := .slice Af l0.length cf) hx' (fun k e => by simpa using hltF k e)) (fun k e => by simpa using hltL k e)) (show w.heap.size ≤ _ from below_size b_now)); have HI5 := Aside0.mk (Kd.R_below (Kd.R_set HI.out BK8.out (by decide) 0 (.slice (some ⟨gl, 0, none⟩) (L.length - 1) cl)) hb); have HL5 := Aside0.mk (Kd.R_below (Kd.R_set (Kd.R_take HL.out (show L.length - 1 ≤ L.length by omega)) BK8.out (by decide) 0 (.slice (some ⟨gl, 0, none⟩) (L.length - 1) cl)) hb); have HF5 := Aside0.mk (Kd.R_mono (ok' := fun k => True ∧ some k ≠ (Value.slice (some ⟨gl, 0, none⟩) (L.length - 1) cl).ownBlock) (Kd.R_below (Kd.R_set HF.out BK8.out (by decide) 0 (.slice (some ⟨gl, 0, none⟩) (L.length - 1) cl)) hb) (fun k hk => ⟨trivial, hk.2⟩)); have BK6' := sh_kp (g := g6) (t := 46) #[.slice Ai l0.length ci] hb; have BK8' := sh_kp (g := g8) (t := 25) #[.slice (some ⟨gl, 0, none⟩) (L.length - 1) cl] hb; have HB5 := sh_b (w := w) hb; clear hx' hb hltF hltL HI HL HF BK6 BK8 HB z6 z8 hx hcel)
        have hmX := (Kd.R_reads' HX.out).2.2.2.1
        go_loopg [45] X.length (fun kq v45 wr => ∃ (j : Nat) (I : List Bool) (F L : List Int) (vl : Value), v45 = .int .i64 (j : Int) ∧ j + kq = X.length ∧ Aside0 (rinK (X.drop j) I F L = some (I2, F2, L2)) ∧ Aside0 (wr.heap[g6]? = some (.cells #[.slice Ai l0.length ci] 46 (0, 0))) ∧ Aside0 (wr.heap[g8]? = some (.cells #[vl] 25 (0, 0))) ∧ Aside0 (Kd.R Kd.bool 4 wr w.heap.size (fun _ => True) (.slice Ai l0.length ci) I) ∧
          Aside0 (Kd.R (Kd.int .i64) 3 wr w.heap.size (fun k => some k ≠ (Value.slice Af l0.length cf).ownBlock) vl L) ∧ Aside0 (Kd.R (Kd.int .i64) 3 wr w.heap.size (fun k => True ∧ some k ≠ vl.ownBlock) (.slice Af l0.length cf) F) ∧ Aside0 (Kd.R (Kd.int .i64) 3 wr w.heap.size (fun k => (True ∧ some k ≠ (Value.slice Af l0.length cf).ownBlock) ∧ some k ≠ vl.ownBlock) (.slice Ax X.length cx) X) ∧ Aside0 (Below w.heap.size w wr))
        case atStart => exact ⟨0, I, F, L.take (L.length - 1), _, rfl, by omega, ⟨by rw [List.drop_zero]; exact HIN.out⟩, BK6', BK8', HI5, HL5, HF5, HX, HB5⟩
        case round =>
          clear HI5 HL5 HF5 HX BK6' BK8' HB5 HIN
          obtain ⟨j, I, F, L, vl, rfl, hj, HIN, BK6, BK8, HI, HL, HF, HX, HB⟩ := hrel
          have hin := HIN.out
          have hltF := Kd.R_lt HF.out
          have hmX' := hmX
          by_cases c : j < X.length
          · rw [List.drop_eq_getElem_cons c] at hin
            simp only [rinK] at hin
            have hrd : rdOf (0 : Int) X (j : Int) = X[j] := by unfold rdOf; rw [Int.toNat_natCast, List.getD_eq_getElem?_getD, List.getElem?_eq_getElem c]; rfl
            obtain ⟨t, ht⟩ : ∃ t, t = X[j] := ⟨_, rfl⟩
            rw [← ht] at hin hrd
            by_cases g : 0 ≤ t ∧ t < (F.length : Int) ∧ t < (I.length : Int) ∧ L.length < 1000000
            · rw [if_pos g] at hin
              obtain ⟨t0, tF, tI, tL⟩ := g
              have HIN1 := Aside0.mk hin
              clear hin HIN
              obtain ⟨gx, cx', ev, hgx, hgxl, cex, hcex⟩ := Kd.R_form HX.out (by omega)
              injection ev with ea en ec
              subst ea
              subst ec
              clear en
              have hFl := (Kd.R_reads' HF.out).1
              obtain ⟨gf, cf', ev, hgf, hgfl, cef, hcef⟩ := Kd.R_form HF.out (by omega)
              injection ev with ea en ec
              subst ea
              subst ec
              clear en
              have hF0 : Kd.R (Kd.int .i64) 3 wr w.heap.size (fun k => True ∧ some k ≠ vl.ownBlock) (.slice (some ⟨gf, 0, none⟩) F.length cf) F := by rw [← hFl]; exact HF.out
              obtain ⟨hfx, hff⟩ := Kd.R_cell (0 : Int) hF0 t t0 tF
              obtain ⟨hput, hgr⟩ := Kd.R_put hF0 t (wrap64 (rd F t + 1))
              rw [← hFl] at hput
              obtain ⟨hx, _⟩ := Kd.R_cell (0 : Int) HX.out (j : Int) (by omega) (by omega)
              have hX1 := Kd.R_grown HX.out hgr (fun k hk => hk.1.2)
              obtain ⟨hx1, _⟩ := Kd.R_cell (0 : Int) hX1 (j : Int) (by omega) (by omega)
              have hL1 := Kd.R_grown HL.out hgr (fun k hk => hk)
              have hI1 := Kd.R_set HI.out hcef (by decide) t.toNat (.int .i64 (wrap64 (rd F t + 1)))
              have n6 : g6 ≠ gf := fun e => by have := BK6.out; rw [e, hcef] at this; simp at this
              have n8 : g8 ≠ gf := fun e => by have := BK8.out; rw [e, hcef] at this; simp at this
              have c6 := blk_far BK6.out (p := ⟨gf, t.toNat, none⟩) n6 (.int .i64 (wrap64 (rd F t + 1)))
              have c8 := blk_far BK8.out (p := ⟨gf, t.toNat, none⟩) n8 (.int .i64 (wrap64 (rd F t + 1)))
              have hB1 := HB.out.setCell (p := ⟨gf, t.toNat, none⟩) hgf (.int .i64 (wrap64 (rd F t + 1)))
              simp only [Int.toNat_natCast, hrd] at hx hx1
              have ewj : wrap64 ((j : Int) + 1) = ((j + 1 : Nat) : Int) := by unfold wrap64; omega
              have tF' : t < (l0.length : Int) := by omega
              have HFl := Aside0.mk hFl
              clear ht hrd hFl hcef hcex
              replace hfx : wr.cell? ⟨gf, t.toNat, none⟩ = some (.int .i64 (rd F t)) := hfx
              go_wp2_with (go_at_call 39; refine (take_calls w.heap.size I L t ci (.slice Ai l0.length ci) vl (fun k => some k ≠ (Value.slice (some ⟨gf, 0, none⟩) l0.length cf).ownBlock) _ g6 g8 c6 c8 GE8.out hB1.size hI1 hL1 (fun k hk e => by have := hltF k e.symm; simp at hk; omega) t0 tI tL).mono ?_; rintro e w7 ⟨rfl, vl', hI', hL', q6, q8, hb, hFR⟩)
              go_roundg (gk - 1)
              case measure => omega
              case rel => exact ⟨j + 1, takeI I t, F.set t.toNat (wrap64 (rd F t + 1)), takeL I L t, vl', congrArg (Value.int .i64) ewj, by omega, HIN1, ⟨q6⟩, ⟨q8⟩, ⟨hI'⟩, ⟨hL'⟩, ⟨hFR (fun _ => True) _ _ hput⟩, ⟨hFR (fun k => True ∧ some k ≠ (Value.slice (some ⟨gf, 0, none⟩) l0.length cf).ownBlock) _ _ hX1⟩, ⟨hB1.trans hb⟩⟩
            · rw [if_neg g] at hin; exact absurd hin (by simp)
          · obtain rfl : j = X.length := by omega
            rw [List.drop_length] at hin
            simp only [rinK, Option.some.injEq, Prod.mk.injEq] at hin
            obtain ⟨rfl, rfl, rfl⟩ := hin
            go_wp2
            go_roundg k1
            case measure => omega
            case rel => exact ⟨I, F, L, vl, HO, BK6, BK8, HI, HL, HF, HB⟩
end Go.Proofs.YtkjcjlegokdpdaaDoor.P
