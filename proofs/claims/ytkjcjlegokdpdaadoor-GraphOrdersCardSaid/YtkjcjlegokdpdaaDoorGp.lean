/- Chapter 05: what the program's reached comes to. -/
import Derived.Test.YtkjcjlegokdpdaaDoorGn
import Derived.Test.YtkjcjlegokdpdaaDoorRe
namespace Go.Proofs.YtkjcjlegokdpdaaDoor.Pure
open Go.RowKit Go.Proofs.YtkjcjlegokdpdaaDoorW.PrintWords Go.Proofs.YtkjcjlegokdpdaaDoorW.PrintLast Go.Proofs.YtkjcjlegokdpdaaDoorW.PrintMore Go.Proofs.YtkjcjlegokdpdaaDoor.P Go.Proofs.YtkjcjlegokdpdaaDoor.Opening
set_option linter.unusedVariables false
set_option linter.unusedSimpArgs false

/-- Reached from 0. -/
def Rch (N : Nat → List Nat) (i : Nat) : Prop := ∀ S : Nat → Prop, S 0 → (∀ a b, S a → b ∈ N a → S b) → S i
theorem Rch.zero {N : Nat → List Nat} : Rch N 0 := fun S h _ => h
theorem Rch.step {N : Nat → List Nat} {a b : Nat} (h : Rch N a) (hb : b ∈ N a) : Rch N b := fun S h0 hs => hs a b (h S h0 hs) hb
theorem cnt_true {l : List Bool} {i : Nat} (hi : i < l.length) (h : at_ l i = false) : cnt (l.set i true) = cnt l + 1 := by
  have h1 : at_ (l.set i true) i = true := by rw [at_set hi, if_pos rfl]
  have h2 := cnt_set h1
  rw [List.set_set] at h2
  have : l.set i false = l := by
    refine at_ext (by rw [List.length_set]) fun j _ => ?_
    rw [at_set hi]
    by_cases e : j = i
    · rw [if_pos e, e, h]
    · rw [if_neg e]
  rw [this] at h2
  omega
theorem rd_set {F : List Int} {i : Nat} {v : Int} (h : i < F.length) (j : Nat) : rd (F.set i v) (j : Int) = if j = i then v else rd F (j : Int) := by
  unfold rd
  rw [Int.toNat_natCast, List.getD_eq_getElem?_getD, List.getD_eq_getElem?_getD]
  by_cases e : j = i
  · subst e; rw [if_pos rfl, List.getElem?_set_self h]; rfl
  · rw [if_neg e, List.getElem?_set_ne (Ne.symm e)]
theorem takeI_at {I : List Bool} {t : Nat} (h : t < I.length) (j : Nat) : at_ (takeI I (t : Int)) j = (at_ I j || decide (j = t)) := by
  unfold takeI
  rw [rdOf_at]
  by_cases c : at_ I t = true
  · rw [if_pos c]
    by_cases e : j = t
    · rw [e, c]; rfl
    · rw [decide_eq_false e, Bool.or_false]
  · rw [if_neg c, Int.toNat_natCast, at_set h]
    by_cases e : j = t
    · rw [if_pos e, decide_eq_true e, Bool.or_true]
    · rw [if_neg e, decide_eq_false e, Bool.or_false]
theorem toI_append (l m : List Nat) : toI (l ++ m) = toI l ++ toI m := by unfold toI; rw [List.map_append]
theorem toI_len (l : List Nat) : (toI l).length = l.length := by unfold toI; rw [List.length_map]
theorem rd_toI {l : List Nat} {i : Nat} (h : i < l.length) : rd (toI l) (i : Int) = (l[i] : Int) := by
  unfold rd toI
  rw [Int.toNat_natCast, List.getD_eq_getElem?_getD, List.getElem?_map, List.getElem?_eq_getElem h]; rfl
/-- A round over what a place leads to. -/
theorem rinK_eq {n : Nat} (hn : n ≤ 100000) : ∀ (M : List Nat) (I : List Bool) (F : List Int) (LN : List Nat), (∀ b ∈ M, b < n) → M.Nodup → I.length = n → F.length = n → LN.length ≤ cnt I → (∀ t, t < n → 0 ≤ rd F (t : Int) ∧ rd F (t : Int) + (M.length : Int) ≤ 100000) →
    ∃ I' F', rinK (toI M) I F (toI LN) = some (I', F', toI (LN ++ M.filter fun b => !(at_ I b))) ∧ I'.length = n ∧ F'.length = n ∧ (∀ j, at_ I' j = (at_ I j || decide (j ∈ M))) ∧ (∀ t, t < n → rd F' (t : Int) = rd F (t : Int) + if t ∈ M then 1 else 0) ∧ cnt I' = cnt I + (M.filter fun b => !(at_ I b)).length
  | [], I, F, LN, hM, hd, hI, hF, hL, hB => ⟨I, F, by simp [rinK, toI], hI, hF, fun j => by simp, fun t ht => by simp, by simp⟩
  | m :: M, I, F, LN, hM, hd, hI, hF, hL, hB => by
    have hm : m < n := hM m List.mem_cons_self
    obtain ⟨hnd, hd'⟩ := List.nodup_cons.1 hd
    have hcn : cnt I ≤ n := by have := cnt_le I; omega
    obtain ⟨b0, b1⟩ := hB m hm
    rw [List.length_cons] at hB b1
    have hw : wrap64 (rd F (m : Int) + 1) = rd F (m : Int) + 1 := by unfold wrap64; omega
    have hLl := toI_len LN
    have hI1 : (takeI I (m : Int)).length = n := by rw [takeI_len]; exact hI
    have hat : ∀ j, at_ (takeI I (m : Int)) j = (at_ I j || decide (j = m)) := takeI_at (by omega)
    have hfil : (M.filter fun b => !(at_ (takeI I (m : Int)) b)) = M.filter fun b => !(at_ I b) := by
      refine List.filter_congr fun b hb => ?_
      have : b ≠ m := fun e => hnd (by rw [← e]; exact hb)
      rw [hat, decide_eq_false this, Bool.or_false]
    have hcond : 0 ≤ (m : Int) ∧ (m : Int) < (F.length : Int) ∧ (m : Int) < (I.length : Int) ∧ (toI LN).length < 1000000 := by omega
    have hF1 : ∀ t, t < n → 0 ≤ rd (F.set m (rd F (m : Int) + 1)) (t : Int) ∧ rd (F.set m (rd F (m : Int) + 1)) (t : Int) + (M.length : Int) ≤ 100000 := fun t ht => by
      rw [rd_set (by omega)]; have := hB t ht; split <;> omega
    have step : ∀ LN1 : List Nat, takeL I (toI LN) (m : Int) = toI LN1 → LN1.length ≤ cnt (takeI I (m : Int)) →
        ∃ I' F', rinK (toI (m :: M)) I F (toI LN) = some (I', F', toI (LN1 ++ M.filter fun b => !(at_ I b))) ∧ I'.length = n ∧ F'.length = n ∧ (∀ j, at_ I' j = (at_ I j || decide (j ∈ m :: M))) ∧ (∀ t, t < n → rd F' (t : Int) = rd F (t : Int) + if t ∈ m :: M then 1 else 0) ∧ cnt I' = cnt (takeI I (m : Int)) + (M.filter fun b => !(at_ I b)).length := by
      intro LN1 e1 e2
      obtain ⟨I', F', hr, a1, a2, a3, a4, a5⟩ := rinK_eq hn M (takeI I (m : Int)) (F.set m (rd F (m : Int) + 1)) LN1 (fun b hb => hM b (List.mem_cons_of_mem _ hb)) hd' hI1 (by rw [List.length_set]; exact hF) e2 hF1
      rw [hfil] at hr a5
      refine ⟨I', F', ?_, a1, a2, fun j => ?_, fun t ht => ?_, a5⟩
      · show rinK ((m : Int) :: toI M) I F (toI LN) = _
        rw [rinK, if_pos hcond, hw, Int.toNat_natCast, e1]; exact hr
      · rw [a3, hat]
        by_cases c1 : j = m <;> by_cases c2 : j ∈ M <;> simp [c1, c2]
      · rw [a4 t ht, rd_set (by omega)]
        by_cases c1 : t = m
        · subst c1; simp [hnd]
        · simp [c1]
    have hfc : ((m :: M).filter fun b => !(at_ I b)) = if at_ I m = true then M.filter (fun b => !(at_ I b)) else m :: M.filter (fun b => !(at_ I b)) := by
      rw [List.filter_cons]; cases at_ I m <;> rfl
    by_cases c : at_ I m = true
    · have hT : takeI I (m : Int) = I := by unfold takeI; rw [rdOf_at, if_pos c]
      have hTL : takeL I (toI LN) (m : Int) = toI LN := by unfold takeL; rw [rdOf_at, if_pos c]
      rw [hfc, if_pos c]
      have h := step LN hTL (by rw [hT]; exact hL)
      rw [hT] at h
      exact h
    · have hT : takeI I (m : Int) = I.set m true := by unfold takeI; rw [rdOf_at, if_neg c, Int.toNat_natCast]
      have hTL : takeL I (toI LN) (m : Int) = toI (LN ++ [m]) := by unfold takeL; rw [rdOf_at, if_neg c, toI_append]; rfl
      rw [hfc, if_neg c]
      have hc1 : cnt (I.set m true) = cnt I + 1 := cnt_true (by omega) (by simpa using c)
      have h := step (LN ++ [m]) hTL (by rw [hT, hc1, List.length_append]; simpa using hL)
      rw [hT, hc1, List.append_assoc] at h
      obtain ⟨I', F', h1, h2, h3, h4, h5, h6⟩ := h
      exact ⟨I', F', h1, h2, h3, h4, h5, by rw [h6, List.length_cons]; omega⟩
theorem inD_le (N : Nat → List Nat) (n : Nat) (l : List Bool) (t : Nat) : inD N n l t ≤ n := Nat.le_trans (List.length_filter_le _ _) (by rw [List.length_range]; exact Nat.le_refl _)
theorem up_nodup {l : List Nat} (h : Up l) : l.Nodup := List.Pairwise.imp (fun h => Nat.ne_of_lt h) h
theorem nxt_len (C : List S44) (i : Nat) : (nxt C i).length ≤ C.length := by
  unfold nxt
  split
  · exact Nat.le_trans (List.length_filter_le _ _) (by rw [List.length_range]; exact Nat.le_refl _)
  · exact Nat.zero_le _
theorem rout_eq {C : List S44} (hC : ∀ z ∈ C, ok44 z) (hl : C.length ≤ 1000) (k : Nat) : ∀ (m : Nat) (I : List Bool) (F : List Int) (LN : List Nat) (Pd : List Bool), I.length = C.length → F.length = C.length → Pd.length = C.length → LN.Nodup → (∀ i ∈ LN, at_ I i = true) → (∀ i, at_ Pd i = (at_ I i && !decide (i ∈ LN))) → LN.length + cnt Pd = cnt I → (∀ a, at_ Pd a = true → ∀ b ∈ nxt C a, at_ I b = true) → (∀ i, at_ I i = true → Rch (nxt C) i) → (∀ t, t < C.length → rd F (t : Int) = (inD (nxt C) C.length Pd t : Int)) → C.length < m + cnt Pd →
    ∃ V F', routK (k + 4) C (stC C) m I F (toI LN) = some (V, F') ∧ V.length = C.length ∧ F'.length = C.length ∧ (∀ i, at_ V i = true → Rch (nxt C) i) ∧ (∀ i, at_ I i = true → at_ V i = true) ∧ (∀ a, at_ V a = true → ∀ b ∈ nxt C a, at_ V b = true) ∧ ∀ t, t < C.length → rd F' (t : Int) = (inD (nxt C) C.length V t : Int)
  | 0, I, F, LN, Pd, hI, hF, hP, hnd, hin, hpd, hct, hsu, hrc, hfr, hfu => by have := cnt_le Pd; omega
  | m + 1, I, F, LN, Pd, hI, hF, hP, hnd, hin, hpd, hct, hsu, hrc, hfr, hfu => by
    rcases List.eq_nil_or_concat LN with e | ⟨LN', a, e⟩
    · subst e
      have hPI : Pd = I := at_ext (by omega) fun i _ => by rw [hpd]; simp
      subst hPI
      exact ⟨Pd, F, by rw [routK, if_pos (by rfl)], hI, hF, hrc, fun i h => h, hsu, hfr⟩
    · rw [List.concat_eq_append] at e
      subst e
      have ha : at_ I a = true := hin a (by simp)
      have han : a < C.length := by have := at_lt ha; omega
      obtain ⟨hnd1, _, hnd2⟩ := List.nodup_append.1 hnd
      have hna : a ∉ LN' := fun h => hnd2 a h a (by simp) rfl
      have hpa : at_ Pd a = false := by rw [hpd]; simp
      have hne : toI (LN' ++ [a]) ≠ [] := by unfold toI; simp
      have hlen : (toI (LN' ++ [a])).length - 1 = LN'.length := by rw [toI_len, List.length_append]; rfl
      have hrd : rd (toI (LN' ++ [a])) (((toI (LN' ++ [a])).length - 1 : Nat) : Int) = (a : Int) := by
        rw [hlen, rd_toI (by rw [List.length_append]; simp)]; simp
      have htk : (toI (LN' ++ [a])).take ((toI (LN' ++ [a])).length - 1) = toI LN' := by
        rw [hlen, toI_append, List.take_append_of_le_length (by rw [toI_len]; exact Nat.le_refl _), List.take_of_length_le (by rw [toI_len]; exact Nat.le_refl _)]
      have hLc : LN'.length ≤ cnt I := by rw [List.length_append] at hct; omega
      have hml := nxt_len C a
      obtain ⟨I', F', hr, b1, b2, b3, b4, b5⟩ := rinK_eq (n := C.length) (by omega) (nxt C a) I F LN' (fun b hb => nxt_lt hb) (up_nodup (nxt_up C a)) hI hF hLc (fun t ht => by have h1 := hfr t ht; have h2 := inD_le (nxt C) C.length Pd t; omega)
      have hset : (Pd.set a true).set a false = Pd := by
        refine at_ext (by simp) fun j _ => ?_
        rw [at_set (by rw [List.length_set]; omega), at_set (by omega)]
        by_cases e : j = a
        · rw [if_pos e, e, hpa]
        · rw [if_neg e, if_neg e]
      have hpt : cnt (Pd.set a true) = cnt Pd + 1 := cnt_true (by omega) hpa
      obtain ⟨V, F'', hv, c1, c2, c3, c4, c5, c6⟩ := rout_eq hC hl k m I' F' (LN' ++ (nxt C a).filter fun b => !(at_ I b)) (Pd.set a true) b1 b2 (by rw [List.length_set]; exact hP)
        (by
          refine List.nodup_append.2 ⟨hnd1, List.Pairwise.filter _ (up_nodup (nxt_up C a)), fun x hx y hy e => ?_⟩
          subst e
          have h1 := hin x (by simp [hx])
          have h2 := (List.mem_filter.1 hy).2
          rw [h1] at h2; exact absurd h2 (by decide))
        (fun i hi => by
          rw [b3]
          rcases List.mem_append.1 hi with h | h
          · rw [hin i (by simp [h]), Bool.true_or]
          · rw [decide_eq_true (List.mem_filter.1 h).1, Bool.or_true])
        (fun i => by
          rw [at_set (by omega), b3]
          by_cases e : i = a
          · rw [if_pos e, e, ha]
            simp [hna, ha]
          · rw [if_neg e, hpd]
            cases h : at_ I i
            · by_cases c : i ∈ nxt C a <;> simp [c, h]
            · simp [h, e])
        (by rw [List.length_append] at hct ⊢; rw [hpt, b5]; simp at hct; omega)
        (fun x hx b hb => by
          rw [at_set (by omega)] at hx
          rw [b3]
          by_cases e : x = a
          · subst e; rw [decide_eq_true hb, Bool.or_true]
          · rw [if_neg e] at hx; rw [hsu x hx b hb, Bool.true_or])
        (fun i hi => by
          rw [b3] at hi
          rcases Bool.or_eq_true_iff.1 hi with h | h
          · exact hrc i h
          · exact (hrc a ha).step (of_decide_eq_true h))
        (fun t ht => by
          have h1 := inD_set (N := nxt C) (n := C.length) (l := Pd.set a true) (a := a) (t := t) (by rw [List.length_set]; exact hP) (by rw [at_set (by omega), if_pos rfl])
          rw [hset] at h1
          rw [b4 t ht, hfr t ht, ← h1]
          split <;> simp)
        (by omega)
      refine ⟨V, F'', ?_, c1, c2, c3, fun i hi => c4 i (by rw [b3, hi, Bool.true_or]), c5, c6⟩
      rw [routK, if_neg hne, hrd, nextK_eq hC (by omega), Option.bind_some, htk, hr]
      exact hv
/-- What the program's reached comes to: what is reached, and how many of it lead to each. -/
theorem reachedK_eq {C : List S44} (hC : ∀ z ∈ C, ok44 z) (hl : C.length ≤ 1000) (k m : Nat) (hm : C.length < m) : ∃ V F, reachedK (k + 4) m C (stC C) = some (V, F) ∧ V.length = C.length ∧ F.length = C.length ∧ (∀ i, i < C.length → (at_ V i = true ↔ Rch (nxt C) i)) ∧ ∀ t, t < C.length → rd F (t : Int) = (inD (nxt C) C.length V t : Int) := by
  unfold reachedK
  rw [if_pos (by omega)]
  have hat0 : ∀ n i, at_ (List.replicate n false) i = false := fun n i => by unfold at_; rw [List.getD_eq_getElem?_getD, List.getElem?_replicate]; split <;> rfl
  have hcr : ∀ n, cnt (List.replicate n false) = 0 := fun n => cnt_of_none (hat0 n)
  by_cases h0 : C.length = 0
  · rw [if_pos h0]
    cases m with
    | zero => omega
    | succ m => exact ⟨[], [], by rw [routK, if_pos rfl], h0.symm, h0.symm, fun i hi => by omega, fun t ht => by omega⟩
  · rw [if_neg h0]
    have hI0 : takeI (List.replicate C.length false) 0 = (List.replicate C.length false).set 0 true := by
      unfold takeI
      rw [show (0 : Int) = ((0 : Nat) : Int) from rfl, rdOf_at, hat0, if_neg (by decide), Int.toNat_natCast]
    have hL0 : takeL (List.replicate C.length false) [] 0 = toI [0] := by
      unfold takeL
      rw [show (0 : Int) = ((0 : Nat) : Int) from rfl, rdOf_at, hat0, if_neg (by decide)]; rfl
    rw [hI0, hL0]
    have hat1 : ∀ i, at_ ((List.replicate C.length false).set 0 true) i = decide (i = 0) := fun i => by
      rw [at_set (by rw [List.length_replicate]; omega), hat0]
      by_cases e : i = 0 <;> simp [e]
    obtain ⟨V, F, hv, c1, c2, c3, c4, c5, c6⟩ := rout_eq hC hl k m ((List.replicate C.length false).set 0 true) (List.replicate C.length 0) [0] (List.replicate C.length false) (by simp) (by simp) (by simp) (by simp)
      (fun i hi => by rw [hat1]; simpa using hi)
      (fun i => by rw [hat0, hat1]; by_cases e : i = 0 <;> simp [e])
      (by rw [hcr, cnt_true (by rw [List.length_replicate]; omega) (hat0 _ _), hcr]; rfl)
      (fun a ha => by rw [hat0] at ha; exact absurd ha (by decide))
      (fun i hi => by rw [hat1] at hi; rw [of_decide_eq_true hi]; exact Rch.zero)
      (fun t ht => by
        rw [(inD_zero t).2 (fun a _ ha => by rw [hat0] at ha; exact absurd ha (by decide))]
        unfold rd
        rw [Int.toNat_natCast, List.getD_eq_getElem?_getD, List.getElem?_replicate, if_pos ht]; rfl)
      (by rw [hcr]; omega)
    refine ⟨V, F, hv, c1, c2, fun i _ => ⟨c3 i, fun h => h (fun i => at_ V i = true) (c4 0 (by rw [hat1]; rfl)) (fun a b ha hb => c5 a ha b hb)⟩, c6⟩
end Go.Proofs.YtkjcjlegokdpdaaDoor.Pure
