/- Chapter 05: graph.Order (walked by hand). -/
import Derived.WalkMore
import Derived.Deep.CutRange
import Derived.Test.YtkjcjlegokdpdaaDoorRe
import Derived.Test.YtkjcjlegokdpdaaDoorIn
import Derived.Test.YtkjcjlegokdpdaaDoorPx7
import Derived.Test.YtkjcjlegokdpdaaDoorPx8
namespace Go.Proofs.YtkjcjlegokdpdaaDoor.P
open Go.RowKit Go.Proofs.YtkjcjlegokdpdaaDoorW.PrintWords Go.Proofs.YtkjcjlegokdpdaaDoorW.PrintLast Go.Proofs.YtkjcjlegokdpdaaDoorW.PrintMore
set_option linter.unusedVariables false
set_option linter.unusedSimpArgs false

attribute [local go_sem] max2_int min2_int max_two min_two max_three min_three max_four min_four

def cntT (I : List Bool) (j : Nat) : Nat := ((I.take j).filter id).length
theorem cntT_le (I : List Bool) (j : Nat) : cntT I j ≤ j := Nat.le_trans (List.length_filter_le _ _) (by rw [List.length_take]; omega)
theorem cntT_succ {I : List Bool} {j : Nat} (h : j < I.length) : cntT I (j + 1) = cntT I j + if rdOf false I (j : Int) = true then 1 else 0 := by
  unfold cntT rdOf
  rw [List.take_succ_eq_append_getElem h, List.filter_append, List.length_append, Int.toNat_natCast, List.getD_eq_getElem?_getD, List.getElem?_eq_getElem h]
  simp only [Option.getD_some]
  cases I[j] <;> simp
theorem wrap_succ {q m : Nat} (h : q ≤ m) (hm : m ≤ 1000000) : wrap64 ((q : Int) + 1) = ((q + 1 : Nat) : Int) := by unfold wrap64; omega
def oinK (k : Nat) : List Int → List Int → List Int → Option (List Int × List Int)
  | [], F, R => some (F, R)
  | t :: X, F, R => if 0 ≤ t ∧ t < (F.length : Int) ∧ R.length < 1000000 then
      if wrap64 (rd F t - 1) = 0 then (slices_BinarySearch_int_int.f k R t).bind fun p => if 0 ≤ p.1 ∧ p.1 ≤ (R.length : Int) then oinK k X (F.set t.toNat (wrap64 (rd F t - 1))) (insAt R p.1.toNat t) else none
      else oinK k X (F.set t.toNat (wrap64 (rd F t - 1))) R
    else none
def ordK (k : Nat) (C : List S44) (s : List Bool) : Nat → List Int → List Int → List Int → Option (List Int)
  | 0, _, _, _ => none
  | n + 1, F, R, row => if R = [] then some row else if row.length < 1000000 ∧ R.length < 1000000 then (nextK k C s (rd R 0)).bind fun X => (oinK k X F (R.drop 1)).bind fun p => ordK k C s n p.1 p.2 (row ++ [rd R 0]) else none
def orderK (k n : Nat) (C : List S44) : Option (List Int × Int) :=
  (graph_starts.f k C).bind fun s => (reachedK k n C s).bind fun p =>
    if p.1.length = C.length ∧ p.2.length = C.length ∧ C.length ≤ 1000000 then
      (ordK k C s n p.2 (if cntT p.1 C.length > 0 ∧ rd p.2 0 = 0 then [0] else []) []).bind fun row => if row.length < cntT p.1 C.length then some ([], 28) else some (row, 0)
    else none
set_option maxHeartbeats 4000000 in
set_option maxRecDepth 100000 in
theorem orderK_calls (k n : Nat) (A0 : Option Addr) (c0 : Nat) (l0 : List S44) (r1 : List Int) (r2 : Int) (w : World) (hr0 : Kd.C k44 w A0 l0.length l0) (hc0 : l0.length ≤ c0) (hrG0 : Kd.C (Kd.int .i64) w (some ⟨0, 0, none⟩) gl0.length gl0) (h : orderK k n l0 = some (r1, r2)) :
    Calls Tryd.prog 16 #[.slice A0 l0.length c0] w fun e w' => ∃ v0_ : Value, e = .returned (.tuple #[v0_, .int .i64 r2]) ∧ Kd.R (Kd.int .i64) 3 w' w.heap.size (fun _ => True) v0_ r1 ∧ Below w.heap.size w w' := by
  unfold orderK at h
  have HB := Aside0.mk (Below.refl w.heap.size w)
  have HR0 := Aside0.mk hr0
  have HG0 := Aside0.mk hrG0
  clear hr0 hrG0
  obtain ⟨s, hs, h1⟩ := Option.bind_eq_some_iff.1 h
  clear h
  obtain ⟨⟨I, F⟩, hre, h⟩ := Option.bind_eq_some_iff.1 h1
  clear h1
  dsimp only at h
  by_cases hg : I.length = l0.length ∧ F.length = l0.length ∧ l0.length ≤ 1000000
  rotate_left
  · rw [if_neg hg] at h; exact absurd h (by simp)
  rw [if_pos hg] at h
  obtain ⟨hI, hF, hlen⟩ := hg
  obtain ⟨row, hrow, h1⟩ := Option.bind_eq_some_iff.1 h
  clear h
  have h := h1
  clear h1
  have HST := Aside0.mk hs
  have HRE := Aside0.mk hre
  have HOR := Aside0.mk hrow
  have H := Aside0.mk h
  clear hs hre hrow h
  go_enter Tryd.func16, Tryd.ntmps16
  go_wp2
  go_step3
  go_wp2_with (first
    | (go_at_call 28; refine (graph_starts.calls k A0 c0 l0 s _ ?s1 hc0 ?s2 HST.out).mono ?_; (case s1 => exact Kd.C_below HR0.out b_now); (case s2 => exact Kd.C_below HG0.out b_now); rintro e w1 ⟨vs, rfl, ho, hb⟩; have HS := Aside0.mk (Kd.R_lower ho (show w.heap.size ≤ _ from below_size b_now)); replace HB := sh_b (w := w) hb; clear ho hb; obtain ⟨As, cs, eo⟩ := Kd.R_slice HS.out; subst eo)
    | (go_at_call 30; refine (reachedK_calls k n A0 c0 l0 As cs s I F _ ?s1 hc0 ?s2 ?s4 ?s3 HRE.out).mono ?_; (case s1 => exact Kd.C_below HR0.out b_now); (case s2 => exact (Kd.R_reads' HS.out).2.2); (case s4 => exact (Kd.R_reads' HS.out).2.1); (case s3 => exact Kd.C_below HG0.out b_now); rintro e w2 ⟨vi, vf, rfl, hi, hf, hb⟩; have hltS := Kd.R_lt HS.out; have HI := Aside0.mk (Kd.R_lower (Kd.R_new' hi hltS) (show w.heap.size ≤ _ from below_size b_now)); have HF := Aside0.mk (Kd.R_lower hf (show w.heap.size ≤ _ from below_size b_now)); replace HS := Aside0.mk (Kd.R_below HS.out hb); replace HB := sh_b (w := w) hb; clear hi hf hb hltS; obtain ⟨Ai, ci, eo⟩ := Kd.R_slice HI.out; subst eo; obtain ⟨Af, cf, eo⟩ := Kd.R_slice HF.out; subst eo))
  have hmx : l0.length ≤ 1000000 := hlen
  have HIL := Aside0.mk hI
  have HFL := Aside0.mk hF
  rw [hI] at HI
  rw [hF] at HF
  clear hI hF hlen
  go_loopg [7, 26] l0.length (fun kq v7 v26 wr => ∃ (j : Nat), v7 = .int .i64 (cntT I j : Int) ∧ v26 = .int .i64 (j : Int) ∧ j + kq = l0.length ∧ Aside0 (Kd.R Kd.bool 4 wr w.heap.size (fun k => True ∧ some k ≠ (Value.slice As s.length cs).ownBlock) (.slice Ai l0.length ci) I) ∧ Aside0 (Kd.R (Kd.int .i64) 3 wr w.heap.size (fun _ => True) (.slice Af l0.length cf) F) ∧ Aside0 (Kd.R Kd.bool 4 wr w.heap.size (fun _ => True) (.slice As s.length cs) s) ∧ Aside0 (Below w.heap.size w wr))
  case atStart => exact ⟨0, by simp [cntT], rfl, by omega, HI, HF, HS, HB⟩
  case round =>
    clear HI HF HS HB
    obtain ⟨j, rfl, rfl, hj, HI, HF, HS, HB⟩ := hrel
    by_cases c : j < l0.length
    · have hI := HIL.out
      have cI : (j : Int) < (I.length : Int) := by omega
      obtain ⟨gi, ci', ev, hgi, hgl, ce, hce⟩ := Kd.R_form HI.out (by omega)
      injection ev with ea en ec
      subst ea
      subst ec
      clear en
      have HI0 := HI.out
      rw [← hI] at HI0
      obtain ⟨hx, _⟩ := Kd.R_cell false HI0 (j : Int) (by omega) cI
      have hjI : j < I.length := by omega
      have hj' : j ≤ 1000000 := by omega
      simp only [Int.toNat_natCast] at hx
      have ewj : wrap64 ((j : Int) + 1) = ((j + 1 : Nat) : Int) := by unfold wrap64; omega
      have hj2 : j + 1 + (gk - 1) = l0.length := by omega
      have hgk : gk - 1 < gk := by omega
      have hsc := cntT_succ hjI
      have hcl := cntT_le I j
      have ewc := wrap_succ hcl hj'
      clear hce hI HI0 cI
      generalize hq1 : cntT I (j + 1) = q1 at hsc
      generalize hq : cntT I j = q at hsc ewc hcl ⊢
      have HQ1 := Aside0.mk hq1
      clear hq hq1 hcl hjI
      cases hb : rdOf false I (j : Int) with
      | true =>
        rw [hb] at hx hsc
        rw [if_pos rfl] at hsc
        go_wp2
        go_roundg (gk - 1)
        case measure => exact hgk
        case rel => exact ⟨j + 1, by rw [HQ1.out, hsc]; exact congrArg (Value.int .i64) (by omega), congrArg (Value.int .i64) (by omega), hj2, HI, HF, HS, HB⟩
      | false =>
        rw [hb] at hx hsc
        rw [if_neg (by simp)] at hsc
        go_wp2
        go_roundg (gk - 1)
        case measure => exact hgk
        case rel => exact ⟨j + 1, by rw [HQ1.out, hsc]; rfl, congrArg (Value.int .i64) (by omega), hj2, HI, HF, HS, HB⟩
    · obtain rfl : j = l0.length := by omega
      have hml := cntT_le I l0.length
      have hF := HFL.out
      generalize hm : cntT I l0.length = m at hml HOR H ⊢
      clear hm
      obtain ⟨R0, hR0⟩ : ∃ R0 : List Int, R0 = if m > 0 ∧ rd F 0 = 0 then [0] else [] := ⟨_, rfl⟩
      have HO := HOR.out
      rw [← hR0] at HO
      have HOR' := Aside0.mk HO
      clear HO HOR
      go_upto_region 11 with fail
      go_cut [43] (fun v43 wc => v43 = .bool (decide (m > 0 ∧ rd F 0 = 0)) ∧ Aside0 (Kd.R (Kd.int .i64) 3 wc w.heap.size (fun _ => True) (.slice Af l0.length cf) F) ∧ Aside0 (Kd.R Kd.bool 4 wc w.heap.size (fun _ => True) (.slice As s.length cs) s) ∧ Aside0 (Below w.heap.size w wc))
      case first =>
        by_cases m0 : m > 0
        · obtain ⟨gf, cf', ev, hgf, hgfl, cef, hcef⟩ := Kd.R_form HF.out (by omega)
          injection ev with ea en ec
          subst ea
          subst ec
          clear en hcef
          have hF0 := HF.out
          rw [← hF] at hF0
          obtain ⟨hx, _⟩ := Kd.R_cell (0 : Int) hF0 0 (by omega) (by omega)
          replace hx : wr.cell? ⟨gf, 0, none⟩ = some (.int .i64 (rd F 0)) := hx
          have hl0 : 0 < l0.length := by omega
          clear hF0
          by_cases e0 : rd F 0 = 0
          · rw [e0] at hx
            have ed : decide (m > 0 ∧ rd F 0 = 0) = true := decide_eq_true ⟨m0, e0⟩
            clear hF
            go_wp2
            go_meet
            case rel => exact ⟨by first | (rw [ed]; done) | (rw [ed]; simp [e0]), HF, HS, HB⟩
          · have ed : decide (m > 0 ∧ rd F 0 = 0) = false := decide_eq_false (fun h => e0 h.2)
            clear hF
            go_wp2
            go_meet
            case rel => exact ⟨by first | (rw [ed]; done) | (rw [ed]; simp [e0]), HF, HS, HB⟩
        · have ed : decide (m > 0 ∧ rd F 0 = 0) = false := decide_eq_false (fun h => m0 h.1)
          clear hF
          go_wp2
          go_meet
          case rel => exact ⟨by first | (rw [ed]; done) | (rw [ed]; simp [e0]), HF, HS, HB⟩
      case rest =>
        clear HF HS HB HI
        obtain ⟨rfl, HF, HS, HB⟩ := hcut
        go_upto_if 43 with fail
        go_cut [8] (fun v8 wc => Aside0 (Kd.Q (Kd.int .i64) 3 wc w.heap.size (fun k => some k ≠ (Value.slice Af l0.length cf).ownBlock) v8 R0) ∧ Aside0 (Kd.R (Kd.int .i64) 3 wc w.heap.size (fun k => True ∧ some k ≠ v8.ownBlock) (.slice Af l0.length cf) F) ∧ Aside0 (Kd.R Kd.bool 4 wc w.heap.size (fun _ => True) (.slice As s.length cs) s) ∧ Aside0 (Below w.heap.size w wc))
        case first =>
          have hnil : Kd.R (Kd.int .i64) 3 wc w.heap.size (fun k => True ∧ some k ≠ (Value.slice none 0 0).ownBlock) (.slice Af l0.length cf) F := Kd.R_mono HF.out (fun k hk => ⟨trivial, by simp [Value.ownBlock]⟩)
          by_cases e0 : m > 0 ∧ rd F 0 = 0
          · rw [if_pos e0] at hR0
            have ed : decide (m > 0 ∧ rd F 0 = 0) = true := decide_eq_true e0
            rw [ed]
            clear hF e0
            have hltF := Kd.R_lt HF.out
            have hsz := HB.out.size
            go_wp2_with ((with_reducible refine gate_builtin (b := .append) (xs := #[.tmp 44, .tmp 45]) rfl ?_); at_builtin; refine Kd.R_append (Kd.int .i64) (w0 := w) w.heap.size rfl (.tmp 44) (.tmp 45) 25 3 (.int .i64 0) 8 rfl Tryd.underlying25 info3 rfl (by decide) (by omega) (.slice none 0 0) [] 0 [.int .i64 0] (fun k => some k ≠ (Value.slice Af l0.length cf).ownBlock) (fun _ => False) rfl rfl rfl (fun _ hk => hk.elim) ?aF ?aO ?aB ?aS ?aL ?_; (case aF => exact fun k hk e => absurd (hltF k e.symm) (Nat.not_lt.2 hk)); (case aO => exact Kd.R_nil _ _ _ _ _); (case aB => exact HB.out); (case aS => exact hsz); (case aL => decide); intro v2 w3 ho hb hg hat; have HQ3 := Aside0.mk (Kd.Q_of_R ho); have HF3 := Aside0.mk (Kd.R_after hnil hg hat); have HS3 := Aside0.mk (Kd.R_over' HS.out (fun k hk => by simp [Value.ownBlock] at hk) (e' := 3) (by decide) (v := .slice none 0 0) hg); have HB3 := Aside0.mk hb; clear ho hb hg hat)
            go_meet
            case rel => exact ⟨by rw [hR0]; exact HQ3, HF3, HS3, HB3⟩
          · rw [if_neg e0] at hR0
            have ed : decide (m > 0 ∧ rd F 0 = 0) = false := decide_eq_false e0
            rw [ed]
            clear hF e0
            go_wp2
            go_meet
            case rel => exact ⟨⟨by rw [hR0]; exact Kd.Q_nil _ _ _ _ _⟩, ⟨hnil⟩, HS, HB⟩
        case rest =>
          clear HF HS HB
          obtain ⟨HQ, HF, HS, HB⟩ := hcut
          clear hF hR0 hml
          go_wp2
          go_step3
          go_wp2
          go_loopg [8, 9] n (fun kq v8 v9 wr => ∃ (F R row' : List Int), Aside0 (ordK k l0 s kq F R row' = some row) ∧ Aside0 (l0.length = F.length) ∧ Aside0 (Kd.Q (Kd.int .i64) 3 wr w.heap.size (fun k => some k ≠ (Value.slice Af l0.length cf).ownBlock ∧ some k ≠ v9.ownBlock) v8 R) ∧ Aside0 (Kd.R (Kd.int .i64) 3 wr w.heap.size (fun k => some k ≠ v9.ownBlock ∧ some k ≠ v8.ownBlock) (.slice Af l0.length cf) F) ∧ Aside0 (Kd.R (Kd.int .i64) 3 wr w.heap.size (fun k => some k ≠ (Value.slice Af l0.length cf).ownBlock ∧ some k ≠ v8.ownBlock) v9 row') ∧ Aside0 (Kd.R Kd.bool 4 wr w.heap.size (fun _ => True) (.slice As s.length cs) s) ∧ Aside0 (Below w.heap.size w wr))
          case atStart => exact ⟨F, R0, [], HOR', ⟨HFL.out.symm⟩, ⟨Kd.Q_mono HQ.out (fun k hk => ⟨hk, by simp [Value.ownBlock]⟩)⟩, ⟨Kd.R_mono HF.out (fun k hk => ⟨by simp [Value.ownBlock], hk.2⟩)⟩, ⟨Kd.R_nil _ _ _ _ _⟩, HS, HB⟩
          case round =>
            clear HQ HF HS HB HOR' HFL HIL
            obtain ⟨F, R, row', HO, HFL, HQ, HF, HW, HS, HB⟩ := hrel
            have h := HO.out
            obtain ⟨Aq, cq, ev, hcq⟩ := Kd.Q_slice HQ.out
            subst ev
            obtain ⟨Aw, cw, ev⟩ := Kd.R_slice HW.out
            subst ev
            cases gk with
            | zero => simp only [ordK] at h; exact absurd h (by simp)
            | succ k1 =>
            simp only [ordK] at h
            by_cases hR : R = []
            · subst hR
              rw [if_pos rfl] at h
              obtain rfl := Option.some.inj h
              have hh := H.out
              simp only [List.length_nil]
              by_cases hm : row'.length < m
              · rw [if_pos hm] at hh
                simp only [Option.some.injEq, Prod.mk.injEq] at hh
                obtain ⟨rfl, rfl⟩ := hh
                go_wp2
                try rw [Exit.noGoto_ret]
                go_ret2
                exact ⟨_, rfl, Kd.R_nil _ _ _ _ _, HB.out⟩
              · rw [if_neg hm] at hh
                simp only [Option.some.injEq, Prod.mk.injEq] at hh
                obtain ⟨rfl, rfl⟩ := hh
                go_wp2
                try rw [Exit.noGoto_ret]
                go_ret2
                exact ⟨_, rfl, Kd.R_mono HW.out (fun _ _ => trivial), HB.out⟩
            · rw [if_neg hR] at h
              by_cases hlim : row'.length < 1000000 ∧ R.length < 1000000
              rotate_left
              · rw [if_neg hlim] at h; exact absurd h (by simp)
              rw [if_pos hlim] at h
              obtain ⟨hlw, hlr⟩ := hlim
              have hpos : 0 < R.length := List.length_pos_iff.2 hR
              obtain ⟨X, hX, h1⟩ := Option.bind_eq_some_iff.1 h
              clear h
              obtain ⟨⟨F2, R2⟩, hin, h⟩ := Option.bind_eq_some_iff.1 h1
              clear h1
              dsimp only at h
              have HX0 := Aside0.mk hX
              have HIN := Aside0.mk hin
              have HOR := Aside0.mk h
              clear hX hin h HO
              obtain ⟨gq, oq, cq', ev, hgq, hgqt, cel, hcel⟩ := Kd.Q_form HQ.out hpos
              injection ev with ea en ec
              subst ea
              subst ec
              clear en
              obtain ⟨hx, _⟩ := Kd.Q_cell (0 : Int) HQ.out 0 (by omega) (by omega)
              replace hx : wr.cell? ⟨gq, oq, none⟩ = some (.int .i64 (rd R 0)) := hx
              have hR1 : (1 : Nat) ≤ R.length := hpos
              have hD := Kd.Q_drop HQ.out hR1
              clear hcel
              go_upto_region 15 with fail
              go_cut [8] from 47 to 102 (fun v8 wx => v8.ownBlock = some gq ∧ Aside0 (Kd.Q (Kd.int .i64) 3 wx w.heap.size (fun k => some k ≠ (Value.slice Af l0.length cf).ownBlock ∧ some k ≠ (Value.slice Aw row'.length cw).ownBlock) v8 (R.drop 1)) ∧ Aside0 (Kd.R (Kd.int .i64) 3 wx w.heap.size (fun k => some k ≠ v8.ownBlock ∧ some k ≠ (Value.slice Aw row'.length cw).ownBlock) (.slice Af l0.length cf) F) ∧ Aside0 (Kd.R (Kd.int .i64) 3 wx w.heap.size (fun k => some k ≠ (Value.slice Af l0.length cf).ownBlock ∧ some k ≠ v8.ownBlock) (.slice Aw row'.length cw) row') ∧ Aside0 (Kd.R Kd.bool 4 wx w.heap.size (fun _ => True) (.slice As s.length cs) s) ∧ Aside0 (Below w.heap.size w wx))
              case first =>
                have HD := Aside0.mk hD
                clear hD
                by_cases hc1 : cq = 1
                · have hD := HD.out
                  rw [if_pos hc1] at hD
                  have HD1 := Aside0.mk hD
                  clear hD HD
                  subst hc1
                  go_wp2
                  go_meet
                  case rel => exact ⟨by simp [Value.ownBlock], ⟨by have h1 := HD1.out; rw [show R.length - 1 = 0 by omega] at h1; exact h1⟩, ⟨Kd.R_mono HF.out (fun k hk => ⟨by have := hk.2; simpa [Value.ownBlock] using this, hk.1⟩)⟩, ⟨Kd.R_mono HW.out (fun k hk => ⟨hk.1, by have := hk.2; simpa [Value.ownBlock] using this⟩)⟩, HS, HB⟩
                · have hD := HD.out
                  rw [if_neg hc1] at hD
                  have HD1 := Aside0.mk hD
                  clear hD HD
                  go_wp2
                  go_meet
                  case rel => exact ⟨by simp [Value.ownBlock], ⟨by have h1 := HD1.out; rw [show (some ⟨gq, oq, none⟩ : Option Addr).map (fun x => x.add (1 * (Kd.int .i64).sz)) = some ⟨gq, oq + 1, none⟩ from congrArg some (add_at gq oq 1)] at h1; exact h1⟩, ⟨Kd.R_mono HF.out (fun k hk => ⟨by have := hk.2; simpa [Value.ownBlock] using this, hk.1⟩)⟩, ⟨Kd.R_mono HW.out (fun k hk => ⟨hk.1, by have := hk.2; simpa [Value.ownBlock] using this⟩)⟩, HS, HB⟩
              case rest =>
                clear HF HS HB HW HQ hD hx
                obtain ⟨hown, HQ, HF, HW, HS, HB⟩ := hcut
                clear hown
                generalize hR1 : List.drop 1 R = R1 at HQ HIN
                obtain ⟨x0, hx0⟩ : ∃ x0, x0 = rd R 0 := ⟨_, rfl⟩
                rw [← hx0] at HX0 HOR ⊢
                clear hx0
                clear hR1
                obtain ⟨Aq, cq, ev, hcq⟩ := Kd.Q_slice HQ.out
                subst ev
                go_wp2_with (first
                  | ((with_reducible refine gate_builtin (b := .append) (xs := #[.tmp 55, .tmp 57]) rfl ?_); at_builtin; refine Kd.R_append (Kd.int .i64) (w0 := w) w.heap.size rfl (.tmp 55) (.tmp 57) 25 3 (.int .i64 0) 8 rfl Tryd.underlying25 info3 rfl (by decide) (by omega) (.slice Aw row'.length cw) row' x0 [.int .i64 x0] (fun k => some k ≠ (Value.slice Af l0.length cf).ownBlock ∧ some k ≠ (Value.slice Aq R1.length cq).ownBlock) (fun _ => False) rfl rfl rfl (fun _ hk => hk.elim) ?aF ?aO ?aB ?aS ?aL ?_; (case aF => exact fun k hk => ⟨fun e => absurd (Kd.R_lt HF.out k e.symm) (Nat.not_lt.2 hk), fun e => absurd (Kd.Q_lt HQ.out k e.symm) (Nat.not_lt.2 hk)⟩); (case aO => exact HW.out); (case aB => exact HB.out); (case aS => exact HB.out.size); (case aL => omega); intro v9 w3 ho hb hg hat; have HQ3 := Aside0.mk (Kd.Q_after HQ.out hg hat); have HF3 := Aside0.mk (Kd.R_after HF.out hg hat); have HS3 := Aside0.mk (Kd.R_over' HS.out (Kd.R_typed HW.out) (by decide) hg); have HW3 := Aside0.mk ho; have HB3 := Aside0.mk hb; clear ho hb hg hat HQ HF HS HW HB; obtain ⟨Av, cv, eo⟩ := Kd.R_slice HW3.out; rw [show (row' ++ [x0]).length = row'.length + 1 by simp] at eo; subst eo)
                  | (go_at_call 27; refine (nextK_calls k A0 c0 l0 As cs s x0 X _ ?s1 hc0 ?s2 ?s4 ?s3 HX0.out).mono ?_; (case s1 => exact Kd.C_below HR0.out HB3.out); (case s2 => exact (Kd.R_reads' HS3.out).2.2); (case s4 => exact (Kd.R_reads' HS3.out).2.1); (case s3 => exact Kd.C_below HG0.out HB3.out); rintro e w4 ⟨vx, rfl, hx', hb⟩; have HX := Aside0.mk (Kd.R_lower (Kd.R_new' (Kd.R_new' hx' (Kd.R_lt HF3.out)) (Kd.Q_lt HQ3.out)) HB3.out.size); have HQ := Aside0.mk (Kd.Q_below HQ3.out hb); have HF := Aside0.mk (Kd.R_below HF3.out hb); have HW := Aside0.mk (Kd.R_below HW3.out hb); have HS := Aside0.mk (Kd.R_below HS3.out hb); have HB := sh_b (w := w) hb HB3.out; clear hx' hb HQ3 HF3 HW3 HS3 HB3; obtain ⟨Ax, cx, eo⟩ := Kd.R_slice HX.out; subst eo))
                have hmX := (Kd.R_reads' HX.out).2.2.2.1
                go_loopg [8, 65] X.length (fun kq v8 v65 wr => ∃ (j : Nat) (F R : List Int), v65 = .int .i64 (j : Int) ∧ j + kq = X.length ∧ Aside0 (oinK k (X.drop j) F R = some (F2, R2)) ∧ Aside0 (l0.length = F.length) ∧ Aside0 (Kd.Q (Kd.int .i64) 3 wr w.heap.size (fun k => some k ≠ (Value.slice Af l0.length cf).ownBlock ∧ some k ≠ (Value.slice Av (row'.length + 1) cv).ownBlock) v8 R) ∧ Aside0 (Kd.R (Kd.int .i64) 3 wr w.heap.size (fun k => some k ≠ (Value.slice Av (row'.length + 1) cv).ownBlock ∧ some k ≠ v8.ownBlock) (.slice Af l0.length cf) F) ∧ Aside0 (Kd.R (Kd.int .i64) 3 wr w.heap.size (fun k => some k ≠ (Value.slice Af l0.length cf).ownBlock ∧ some k ≠ v8.ownBlock) (.slice Av (row'.length + 1) cv) (row' ++ [x0])) ∧ Aside0 (Kd.R (Kd.int .i64) 3 wr w.heap.size (fun k => some k ≠ (Value.slice Af l0.length cf).ownBlock ∧ some k ≠ v8.ownBlock) (.slice Ax X.length cx) X) ∧ Aside0 (Kd.R Kd.bool 4 wr w.heap.size (fun _ => True) (.slice As s.length cs) s) ∧ Aside0 (Below w.heap.size w wr))
                case atStart => exact ⟨0, F, R1, rfl, by omega, ⟨by rw [List.drop_zero]; exact HIN.out⟩, HFL, HQ, ⟨Kd.R_mono HF.out (fun k hk => ⟨hk.2, hk.1⟩)⟩, HW, ⟨Kd.R_mono HX.out (fun k hk => ⟨hk.1.2, hk.2⟩)⟩, HS, HB⟩
                case round =>
                  clear HQ HF HW HX HS HB HIN HFL
                  obtain ⟨j, F, R, rfl, hj, HIN, HFL, HQ, HF, HW, HX, HS, HB⟩ := hrel
                  have hin := HIN.out
                  by_cases c : j < X.length
                  · rw [List.drop_eq_getElem_cons c] at hin
                    simp only [oinK] at hin
                    have hrd : rdOf (0 : Int) X (j : Int) = X[j] := by unfold rdOf; rw [Int.toNat_natCast, List.getD_eq_getElem?_getD, List.getElem?_eq_getElem c]; rfl
                    obtain ⟨t, ht⟩ : ∃ t, t = X[j] := ⟨_, rfl⟩
                    rw [← ht] at hin hrd
                    by_cases g : 0 ≤ t ∧ t < (F.length : Int) ∧ R.length < 1000000
                    rotate_left
                    · rw [if_neg g] at hin; exact absurd hin (by simp)
                    rw [if_pos g] at hin
                    obtain ⟨t0, tF, tR⟩ := g
                    have HIN1 := Aside0.mk hin
                    clear hin HIN
                    have hFl := HFL.out
                    obtain ⟨gx, cx', ev, hgx, hgxl, cex, hcex⟩ := Kd.R_form HX.out (by omega)
                    injection ev with ea en ec
                    subst ea
                    subst ec
                    clear en hcex
                    obtain ⟨gf, cf', ev, hgf, hgfl, cef, hcef⟩ := Kd.R_form HF.out (by omega)
                    injection ev with ea en ec
                    subst ea
                    subst ec
                    clear en
                    obtain ⟨Aq', cq', ev, hcq'⟩ := Kd.Q_slice HQ.out
                    subst ev
                    have hF0 : Kd.R (Kd.int .i64) 3 wr w.heap.size (fun k => some k ≠ (Value.slice Av (row'.length + 1) cv).ownBlock ∧ some k ≠ (Value.slice Aq' R.length cq').ownBlock) (.slice (some ⟨gf, 0, none⟩) F.length cf) F := by rw [← hFl]; exact HF.out
                    obtain ⟨v0, hv0⟩ : ∃ v0, v0 = wrap64 (rd F t - 1) := ⟨_, rfl⟩
                    obtain ⟨hfx, hff⟩ := Kd.R_cell (0 : Int) hF0 t t0 tF
                    replace hfx : wr.cell? ⟨gf, t.toNat, none⟩ = some (.int .i64 (rd F t)) := hfx
                    obtain ⟨hput, hgr⟩ := Kd.R_put hF0 t v0
                    obtain ⟨hfx1, _⟩ := Kd.R_cell (0 : Int) (xs := F.set t.toNat v0) (by rw [List.length_set]; exact hput) t t0 (by rw [List.length_set]; exact tF)
                    have hset : rdOf (0 : Int) (F.set t.toNat v0) t = v0 := by unfold rdOf; rw [List.getD_eq_getElem?_getD, List.getElem?_set_self (by omega)]; rfl
                    rw [hset] at hfx1
                    rw [← hFl] at hput
                    obtain ⟨hx, _⟩ := Kd.R_cell (0 : Int) HX.out (j : Int) (by omega) (by omega)
                    have HX1 := Aside0.mk (Kd.R_grown HX.out hgr (fun k hk => hk.1))
                    obtain ⟨hx1, _⟩ := Kd.R_cell (0 : Int) HX1.out (j : Int) (by omega) (by omega)
                    have HW1 := Aside0.mk (Kd.R_grown HW.out hgr (fun k hk => hk.1))
                    have HQ1 := Aside0.mk (Kd.Q_grown HQ.out hgr (fun k hk => hk.1))
                    have HF1 := Aside0.mk hput
                    have HS1 := Aside0.mk (Kd.R_set HS.out hcef (by decide) t.toNat (.int .i64 v0))
                    have HB1 := Aside0.mk (HB.out.setCell (p := ⟨gf, t.toNat, none⟩) hgf (.int .i64 v0))
                    simp only [Int.toNat_natCast, hrd] at hx hx1
                    have tF' : t < (l0.length : Int) := by omega
                    have hFL1 : l0.length = (F.set t.toNat v0).length := by rw [List.length_set]; exact hFl
                    have HFL1 := Aside0.mk hFL1
                    have hgk : gk - 1 < gk := by omega
                    have hj2 : j + 1 + (gk - 1) = X.length := by omega
                    rw [← hv0] at HIN1
                    clear ht hrd hFl hFL1 hcef hF0 hput hgr hset HX HW HQ HF HS HB
                    by_cases hz : v0 = 0
                    · have h := HIN1.out
                      rw [if_pos hz] at h
                      obtain ⟨⟨p1, p2⟩, hbs, h2⟩ := Option.bind_eq_some_iff.1 h
                      clear h
                      dsimp only at h2
                      by_cases hp : 0 ≤ p1 ∧ p1 ≤ (R.length : Int)
                      rotate_left
                      · rw [if_neg hp] at h2; exact absurd h2 (by simp)
                      rw [if_pos hp] at h2
                      obtain ⟨i, rfl⟩ := Int.eq_ofNat_of_zero_le hp.1
                      have hi : i ≤ R.length := by omega
                      rw [Int.toNat_natCast] at h2
                      have HIN2 := Aside0.mk h2
                      have HBS := Aside0.mk hbs
                      clear h2 hbs hp HIN1
                      subst hz
                      have hz' := hv0.symm
                      clear hv0
                      go_wp2_with (first
                        | (go_at_call 31; refine (slices_BinarySearch_int_int.calls k Aq' cq' R t (i : Int) p2 _ (Kd.Q_reads' HQ1.out).2.2 (Kd.Q_reads' HQ1.out).2.1 HBS.out).mono ?_; rintro e w6 ⟨rfl, ⟨nd, rfl⟩⟩)
                        | (go_at_call 32; refine (insert_q w.heap.size (fun k => some k ≠ (Value.slice (some ⟨gf, 0, none⟩) l0.length cf).ownBlock ∧ some k ≠ (Value.slice Av (row'.length + 1) cv).ownBlock) R i t (.slice Aq' R.length cq') _ wr.heap.size (Kd.Q_alloc (Kd.Q_drewN HQ1.out nd) (.cells #[.int .i64 t] 3 (0, 0))) hi tR ?hvb ?hne ?hb ?hfr).mono ?_; (case hvb => have h9 := blk_new ((wr.setCell ⟨gf, t.toNat, none⟩ (.int .i64 0)).drewN nd) (.cells #[.int .i64 t] 3 (0, 0)); simpa using h9); (case hne => exact fun e => absurd (Kd.Q_lt HQ1.out _ e.symm) (by simp)); (case hb => have h9 := HB1.out.size; simp at h9 ⊢; omega); (case hfr => exact fun k hk => ⟨fun e => absurd (Kd.R_lt HF1.out k e.symm) (by simp at hk ⊢; omega), fun e => absurd (Kd.R_lt HW1.out k e.symm) (by simp at hk ⊢; omega)⟩); rintro e w8 ⟨v8, rfl, hq8, hg8, hat8⟩))
                      go_roundg (gk - 1)
                      case measure => exact hgk
                      case rel =>
                        have mv : ∀ {ok : Nat → Prop} {v : Value} {ys : List Int}, Kd.R (Kd.int .i64) 3 (wr.setCell ⟨gf, t.toNat, none⟩ (.int .i64 0)) w.heap.size ok v ys → Kd.R (Kd.int .i64) 3 (((wr.setCell ⟨gf, t.toNat, none⟩ (.int .i64 0)).drewN nd).alloc (.cells #[.int .i64 t] 3 (0, 0))) w.heap.size ok v ys := fun h => Kd.R_alloc (Kd.R_drewN h nd) _
                        have hB2 : Below w.heap.size w (((wr.setCell ⟨gf, t.toNat, none⟩ (.int .i64 0)).drewN nd).alloc (.cells #[.int .i64 t] 3 (0, 0))) := below_alloc (pw_below_drewN HB1.out nd) _
                        have hQ2 := Kd.Q_alloc (Kd.Q_drewN HQ1.out nd) (.cells #[.int .i64 t] 3 (0, 0))
                        exact ⟨j + 1, _, insAt R i t, congrArg (Value.int .i64) (by omega), hj2, HIN2, HFL1, ⟨hq8⟩, ⟨Kd.R_after (mv HF1.out) hg8 hat8⟩, ⟨Kd.R_after (mv HW1.out) hg8 hat8⟩, ⟨Kd.R_after (mv HX1.out) hg8 hat8⟩, ⟨Kd.R_over' (Kd.R_alloc (Kd.R_drewN HS1.out nd) _) (Kd.Q_typed hQ2) (by decide) hg8⟩, ⟨hB2.grown hg8 hB2.size (Kd.Q_base hQ2)⟩⟩
                    · have h := HIN1.out
                      rw [if_neg hz] at h
                      have HIN2 := Aside0.mk h
                      clear h HIN1
                      have hz' : ¬ (wrap64 (rd F t - 1) = 0) := by rw [← hv0]; exact hz
                      subst hv0
                      go_wp2
                      go_roundg (gk - 1)
                      case measure => exact hgk
                      case rel => exact ⟨j + 1, _, R, congrArg (Value.int .i64) (by omega), hj2, HIN2, HFL1, HQ1, HF1, HW1, HX1, HS1, HB1⟩
                  · obtain rfl : j = X.length := by omega
                    rw [List.drop_length] at hin
                    simp only [oinK, Option.some.injEq, Prod.mk.injEq] at hin
                    obtain ⟨rfl, rfl⟩ := hin
                    go_wp2
                    go_roundg k1
                    case measure => omega
                    case rel => exact ⟨F, R, _, HOR, HFL, HQ, HF, HW, HS, HB⟩
end Go.Proofs.YtkjcjlegokdpdaaDoor.P
