/- Chapter 18, plain: what the document's tests ask, which hold, which rule matches. No conditions but the ones each theorem names. -/
import Derived.Test.YtighficpbplkhaaDoorQc
import Derived.Test.YtighficpbplkhaaDoorQr
import Derived.Test.YtighficpbplkhaaDoorPx28
namespace Go.Proofs.YtighficpbplkhaaDoor.Pure
open Go.RowKit Go.Proofs.YtighficpbplkhaaDoorW.PrintWords Go.Proofs.YtighficpbplkhaaDoorW.PrintLast Go.Proofs.YtighficpbplkhaaDoorW.PrintMore Go.Proofs.YtighficpbplkhaaDoor.P
set_option linter.unusedVariables false
set_option linter.unusedSimpArgs false

/-! the document's -/
theorem numV_lt : ∀ (L : List Int) (x : Int), (∀ b ∈ L, 0 ≤ b ∧ b ≤ 255) → 0 ≤ x → x < 18446744073709551616 → 0 ≤ numV L x ∧ numV L x < 18446744073709551616 := by
  intro L
  induction L with
  | nil => intro x _ h0 h1; exact ⟨h0, h1⟩
  | cons b L ih =>
    intro x hb h0 h1
    have := hb b List.mem_cons_self
    exact ih _ (fun c hc => hb c (List.mem_cons_of_mem _ hc)) (by omega) (by omega)
theorem sub_cons {p : List Int} {a s i : Nat} (hi : i < s) (hl : a + i < p.length) : (p.take (a + s)).drop (a + i) = p[a + i] :: (p.take (a + s)).drop (a + (i + 1)) := by
  have h : a + i < (p.take (a + s)).length := by rw [List.length_take]; omega
  rw [List.drop_eq_getElem_cons h, List.getElem_take]
  rfl
theorem refAsked_l0 (p : List Int) (hp : Bytes p) (a s : Nat) (ha : a ≤ 1000) (hs : s ≤ 8) (hs1 : 1 ≤ s) (m : Int) (b0 : Bool) (b1 b2 b5 b6 : Int) :
    ∀ (n i : Nat) (x : Int), i + n = s → 0 ≤ x → x < 18446744073709551616 → (i = 0 ∨ a + i ≤ p.length) →
      Ev (fun k => stockaderef18_Asked.l0 k p a x i b0 b1 b2 s m b5 b6) (if a + s > p.length then (0, false) else (Go.bits .and .u64 (numV ((p.take (a + s)).drop (a + i)) x) m, true)) := by
  intro n
  have hpl := hp.1
  induction n with
  | zero =>
    intro i x hi h0 h1 hal
    obtain rfl : i = s := by omega
    refine Ev.step_ (g := fun _ => some (Go.bits .and .u64 x m, true)) (fun K => ?_) ?_
    · rw [stockaderef18_Asked.l0, if_neg (by omega)]
    · rw [if_neg (by omega), List.drop_eq_nil_of_le (by rw [List.length_take]; omega)]; exact Ev.pure
  | succ n ih =>
    intro i x hi h0 h1 hal
    have e : wrap64 ((a : Int) + (i : Int)) = ((a + i : Nat) : Int) := by unfold wrap64; omega
    by_cases c : a + i < p.length
    · have hbi := hp.2 p[a + i] (List.getElem_mem c)
      rw [sub_cons (by omega) c, numV]
      have e2 : IntKind.u64.wrap ((IntKind.u64.wrap (256 * x)) + (IntKind.u64.wrap p[a + i])) = x * 256 % 18446744073709551616 + p[a + i] := by
        rw [wu64, wu64, wu64]; omega
      refine Ev.step_ (fun K => ?_) (ih (i + 1) _ (by omega) (by omega) (by omega) (.inr (by omega)))
      rw [stockaderef18_Asked.l0, if_pos (by omega), e, if_neg (by omega), if_pos (by omega), if_pos (by omega), rd_get c, e2, ws (by omega)]
    · rw [if_pos (by omega)]
      refine Ev.step_ (g := fun _ => some (0, false)) (fun K => ?_) Ev.pure
      rw [stockaderef18_Asked.l0, if_pos (by omega), e, if_pos (by omega)]
theorem refAsk_num (p : List Int) (hp : Bytes p) (a s : Nat) (ha : a ≤ 1000) (hs : s ≤ 8) (hs1 : 1 ≤ s) (m : Int) (b0 : Bool) (b1 b2 b5 b6 : Int) :
    ∃ v, Ev (fun k => stockaderef18_Asked.j0 k p a b0 b1 b2 s m b5 b6) (v, (numO p a s m).isSome) ∧ ∀ n, numO p a s m = some n → v = n := by
  have h := refAsked_l0 p hp a s ha hs hs1 m b0 b1 b2 b5 b6 s 0 0 (by omega) (by omega) (by omega) (.inl rfl)
  have h' : Ev (fun k => stockaderef18_Asked.j0 k p a b0 b1 b2 s m b5 b6) (if a + s > p.length then (0, false) else (Go.bits .and .u64 (numV ((p.take (a + s)).drop (a + 0)) 0) m, true)) :=
    Ev.step_ (fun K => by rw [stockaderef18_Asked.j0]; rfl) h
  by_cases c : a + s > p.length
  · rw [if_pos c] at h'
    exact ⟨0, by unfold numO; rw [if_pos c]; exact h', fun n hn => by unfold numO at hn; rw [if_pos c] at hn; simp at hn⟩
  · rw [if_neg c] at h'
    exact ⟨_, by unfold numO; rw [if_neg c]; exact h', fun n hn => by unfold numO at hn; rw [if_neg c] at hn; exact Option.some.inj hn⟩
theorem refAsk_ev (t : S50) (p : List Int) (port : Int) (hm : MayP t) (hp : Bytes p) (h0 : 0 ≤ port) (h1 : port < 4294967296) :
    ∃ v, Ev (fun k => stockaderef18_Asked.f k t.f0 t.f1 t.f2 t.f3 t.f4 t.f5 t.f6 p port) (v, (askO t p port).isSome) ∧ ∀ n, askO t p port = some n → v = n := by
  have hl := hp.1
  unfold askO
  by_cases c1 : t.f1 = 1
  · rw [if_pos c1]
    refine ⟨p.length, Ev.eqn (g := fun _ => some ((p.length : Int), true)) (fun K => ?_) Ev.pure, fun n hn => Option.some.inj hn⟩
    unfold stockaderef18_Asked.f
    rw [if_pos c1, wu64, Int.emod_eq_of_lt (by omega) (by omega)]
  · rw [if_neg c1]
    by_cases c2 : t.f1 = 2
    · rw [if_pos c2]
      refine ⟨port, Ev.eqn (g := fun _ => some (port, true)) (fun K => ?_) Ev.pure, fun n hn => Option.some.inj hn⟩
      unfold stockaderef18_Asked.f
      rw [if_neg c1, if_pos c2, wu64, Int.emod_eq_of_lt (by omega) (by omega)]
    · rw [if_neg c2]
      obtain ⟨h34, ha, hb, hc, hd⟩ := may_sizes hm c1 c2
      have e2 : ((t.f2.toNat : Nat) : Int) = t.f2 := by omega
      have e3 : ((t.f3.toNat : Nat) : Int) = t.f3 := by omega
      by_cases c3 : t.f1 = 3
      · rw [if_pos c3]
        obtain ⟨v, hv, hn⟩ := refAsk_num p hp t.f2.toNat t.f3.toNat (by omega) (by omega) (by omega) t.f4 t.f0 t.f1 t.f2 t.f5 t.f6
        refine ⟨v, Ev.eqn (fun K => ?_) hv, hn⟩
        unfold stockaderef18_Asked.f
        rw [if_neg c1, if_neg c2, if_neg (by omega), e2, e3]
      · rw [if_neg c3]
        have c5 : t.f1 = 4 := by omega
        by_cases c4 : p.length ≤ 14
        · rw [if_pos c4]
          refine ⟨0, Ev.eqn (g := fun _ => some (0, false)) (fun K => ?_) Ev.pure, fun n hn => by simp at hn⟩
          unfold stockaderef18_Asked.f
          rw [if_neg c1, if_neg c2, if_pos c5, if_pos (by omega)]
        · rw [if_neg c4]
          have hb14 : 0 ≤ rd p 14 ∧ rd p 14 ≤ 255 := by
            have := rd_get (p := p) (i := 14) (by omega)
            rw [show (14 : Int) = ((14 : Nat) : Int) from rfl, this]
            exact hp.2 _ (List.getElem_mem _)
          obtain ⟨v, hv, hn⟩ := refAsk_num p hp (14 + 4 * (rd p 14 % 16).toNat + t.f2.toNat) t.f3.toNat (by omega) (by omega) (by omega) t.f4 t.f0 t.f1 t.f2 t.f5 t.f6
          refine ⟨v, Ev.eqn (fun K => ?_) hv, hn⟩
          unfold stockaderef18_Asked.f
          have e16 : Int.tmod (rd p 14) 16 = rd p 14 % 16 := Int.tmod_eq_emod_of_nonneg hb14.1
          have e4 : wrap64 ((wrap64 (t.f2 + 14)) + (wrap64 (4 * (wrap64 (rd p 14 % 16))))) = ((14 + 4 * (rd p 14 % 16).toNat + t.f2.toNat : Nat) : Int) := by unfold wrap64; omega
          rw [if_neg c1, if_neg c2, if_pos c5, if_neg (by omega), if_pos (by omega), e16, e4, e3]
theorem refHolds_ev (t : S50) (p : List Int) (port : Int) (hp : Bytes p) (h0 : 0 ≤ port) (h1 : port < 4294967296) : Ev (fun k => stockaderef18_Holds.f k t.f0 t.f1 t.f2 t.f3 t.f4 t.f5 t.f6 p port) (holdsV t p port) := by
  unfold stockaderef18_Holds.f
  refine Ev.bind_ (refMay_ev t) ?_
  unfold holdsV
  cases hm : mayB t with
  | false => simpa using Ev.pure
  | true =>
    obtain ⟨v, hv, hn⟩ := refAsk_ev t p port (mayP hm) hp h0 h1
    simp only [if_true, Bool.true_and]
    refine Ev.bind_ hv ?_
    cases ha : askO t p port with
    | none => cases hb : t.f0 <;> simpa [innB] using Ev.pure
    | some n =>
      obtain rfl := hn n ha
      simp only [Option.isSome_some, if_true]
      by_cases c : t.f5 ≤ v
      · have c' : v ≥ t.f5 := c
        cases hb : t.f0 <;> simpa [innB, c, c'] using Ev.pure
      · have c' : ¬ v ≥ t.f5 := c
        cases hb : t.f0 <;> simpa [innB, c, c'] using Ev.pure

theorem refJudge_l1 (l : List S46) (hl : l.length < 4611686018427387904) (p : List Int) (port : Int) (hp : Bytes p) (h0 : 0 ≤ port) (h1 : port < 4294967296) (i : Nat) (hi : i < l.length) (hts : l[i].f0.length < 4611686018427387904) (r : Int × Int)
    (hr : Ev (fun k => stockaderef18_Judge.l0 k l p port (wrap64 ((i : Int) + 1))) r) :
    ∀ (n j : Nat) (b : Bool), j + n = l[i].f0.length → Ev (fun k => stockaderef18_Judge.l1 k l p port i b j) (if (b && ((l[i].f0.drop j).map tt).all (fun t => holdsV t p port)) = true then (l[i].f1, (i : Int)) else r) := by
  intro n
  induction n with
  | zero =>
    intro j b hj
    rw [List.drop_eq_nil_of_le (by omega)]
    cases b with
    | true =>
      refine Ev.step_ (g := fun k => some (l[i].f1, (i : Int))) (fun K => ?_) (by simpa using Ev.pure)
      rw [stockaderef18_Judge.l1, if_pos (by omega), if_pos (by omega), rd46 hi, if_neg (by omega), if_pos rfl]
    | false =>
      refine Ev.step_ (fun K => ?_) (by simpa using hr)
      rw [stockaderef18_Judge.l1, if_pos (by omega), if_pos (by omega), rd46 hi, if_neg (by omega), if_neg (by simp)]
  | succ n ih =>
    intro j b hj
    have hjl : j < l[i].f0.length := by omega
    rw [drop_get hjl, List.map_cons, List.all_cons]
    cases b with
    | true =>
      have h := ih (j + 1) (holdsV (tt l[i].f0[j]) p port) (by omega)
      refine Ev.step_ (g := fun k => (stockaderef18_Holds.f k l[i].f0[j].f0 l[i].f0[j].f1 l[i].f0[j].f2 l[i].f0[j].f3 l[i].f0[j].f4 l[i].f0[j].f5 l[i].f0[j].f6 p port).bind fun t => stockaderef18_Judge.l1 k l p port i t ((j + 1 : Nat) : Int)) (fun K => ?_) (Ev.bind_ (refHolds_ev (tt l[i].f0[j]) p port hp h0 h1) (by simpa using h))
      rw [stockaderef18_Judge.l1, if_pos (by omega), if_pos (by omega), rd46 hi, if_pos (by omega), if_pos rfl, if_pos (by omega), rd55 hjl, ws (by omega)]
    | false =>
      have h := ih (j + 1) false (by omega)
      refine Ev.step_ (fun K => ?_) (by simpa using h)
      rw [stockaderef18_Judge.l1, if_pos (by omega), if_pos (by omega), rd46 hi, if_pos (by omega), if_neg (by simp), ws (by omega)]
      rfl
theorem refJudge_l0 (l : List S46) (hl : l.length < 4611686018427387904) (hz : ∀ z ∈ l, z.f0.length < 4611686018427387904) (p : List Int) (port : Int) (hp : Bytes p) (h0 : 0 ≤ port) (h1 : port < 4294967296) : ∀ (n i : Nat), i + n = l.length → Ev (fun k => stockaderef18_Judge.l0 k l p port i) (judgeV p port ((l.drop i).map tr) i) := by
  intro n
  induction n with
  | zero =>
    intro i hi
    refine Ev.step_ (g := fun _ => some (0, -1)) (fun K => ?_) ?_
    · rw [stockaderef18_Judge.l0, if_neg (by omega)]
    · rw [List.drop_eq_nil_of_le (by omega)]; exact Ev.pure
  | succ n ih =>
    intro i hi
    have hil : i < l.length := by omega
    have h := ih (i + 1) (by omega)
    rw [drop_get hil, List.map_cons, judgeV]
    have h' : Ev (fun k => stockaderef18_Judge.l0 k l p port (wrap64 ((i : Int) + 1))) (judgeV p port ((l.drop (i + 1)).map tr) ((i : Int) + 1)) := by
      rw [ws (by omega)]; simpa using h
    refine Ev.step_ (g := fun k => stockaderef18_Judge.l1 k l p port i true 0) (fun K => ?_) ?_
    · rw [stockaderef18_Judge.l0, if_pos (by omega)]
    · have := refJudge_l1 l hl p port hp h0 h1 i hil (hz _ (List.getElem_mem hil)) _ h' l[i].f0.length 0 true (by omega)
      simpa [tr] using this
theorem refJudge_ev (l : List S46) (hl : l.length < 4611686018427387904) (hz : ∀ z ∈ l, z.f0.length < 4611686018427387904) (p : List Int) (port : Int) (hp : Bytes p) (h0 : 0 ≤ port) (h1 : port < 4294967296) : Ev (fun k => stockaderef18_Judge.f k l p port) (judgeV p port (l.map tr) 0) := by
  have := refJudge_l0 l hl hz p port hp h0 h1 l.length 0 (by omega)
  exact Ev.eqn (fun K => rfl) this
end Go.Proofs.YtighficpbplkhaaDoor.Pure
