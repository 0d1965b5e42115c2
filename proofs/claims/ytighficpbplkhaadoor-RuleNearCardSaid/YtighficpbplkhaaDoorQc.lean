/- Chapter 18, plain: which tests hold, which rule matches. No conditions but the ones each theorem names. -/
import Derived.Test.YtighficpbplkhaaDoorQb
import Derived.Test.YtighficpbplkhaaDoorPx11
namespace Go.Proofs.YtighficpbplkhaaDoor.Pure
open Go.RowKit Go.Proofs.YtighficpbplkhaaDoorW.PrintWords Go.Proofs.YtighficpbplkhaaDoorW.PrintLast Go.Proofs.YtighficpbplkhaaDoorW.PrintMore Go.Proofs.YtighficpbplkhaaDoor.P
set_option linter.unusedVariables false
set_option linter.unusedSimpArgs false

/-! numbers of bytes -/
def Bytes (p : List Int) : Prop := p.length ≤ 140737488351232 ∧ ∀ b ∈ p, 0 ≤ b ∧ b ≤ 255
theorem wu64 (n : Int) : IntKind.u64.wrap n = n % 18446744073709551616 := by simp [IntKind.wrap, IntKind.bits, IntKind.signed]
def numV : List Int → Int → Int
  | [], x => x
  | b :: l, x => numV l (x * 256 % 18446744073709551616 + b)
theorem or_byte {x b : Int} (h0 : 0 ≤ b) (h1 : b ≤ 255) : Go.bits .or .u64 (IntKind.u64.wrap (x * 256)) (IntKind.u64.wrap b) = x * 256 % 18446744073709551616 + b := by
  rw [wu64, wu64, Int.emod_eq_of_lt h0 (by omega)]
  exact bits_join .u64 64 (by decide) (fun n a b => by rw [wu64]; omega) 8 _ _ (by omega) (by omega) (by omega) (by omega) (by omega) (by omega)
theorem rd_get {p : List Int} {i : Nat} (h : i < p.length) : rd p (i : Int) = p[i] := by simp [rd, List.getD, List.getElem?_eq_getElem h]
theorem number_l0 (L : List Int) (hL : L.length < 4611686018427387904) (hb : ∀ b ∈ L, 0 ≤ b ∧ b ≤ 255) : ∀ (n i : Nat) (x : Int), i + n = L.length → Ev (fun k => rule_number.l0 k x L L.length i) (numV (L.drop i) x, true) := by
  intro n
  induction n with
  | zero =>
    intro i x hi
    refine Ev.step_ (g := fun _ => some (x, true)) (fun K => ?_) ?_
    · rw [rule_number.l0, if_neg (by omega)]
    · rw [List.drop_eq_nil_of_le (by omega)]; exact Ev.pure
  | succ n ih =>
    intro i x hi
    have hil : i < L.length := by omega
    have hbi := hb L[i] (List.getElem_mem hil)
    rw [drop_get hil, numV]
    refine Ev.step_ (fun K => ?_) (ih (i + 1) _ (by omega))
    rw [rule_number.l0, if_pos (by omega), if_pos (by omega), if_pos (by omega), rd_get hil, or_byte hbi.1 hbi.2, ws (by omega)]
def sub (p : List Int) (a s : Nat) : List Int := (p.take (a + s)).drop a
theorem number_ev (p : List Int) (hp : Bytes p) (a s : Nat) (ha : a ≤ 1000) (hs : s ≤ 8) : Ev (fun k => rule_number.f k p a s) (if a + s > p.length then (0, false) else (numV (sub p a s) 0, true)) := by
  have e : wrap64 ((a : Int) + (s : Int)) = ((a + s : Nat) : Int) := by unfold wrap64; omega
  by_cases h : a + s > p.length
  · rw [if_pos h]
    refine Ev.eqn (g := fun _ => some (0, false)) (fun K => ?_) Ev.pure
    unfold rule_number.f
    rw [e, if_pos (by omega)]
  · rw [if_neg h]
    have hh := hp.1
    have := number_l0 (sub p a s) (by unfold sub; rw [List.length_drop, List.length_take]; omega) (fun b hb => hp.2 b (List.mem_of_mem_take (List.mem_of_mem_drop hb))) _ 0 0 (Nat.zero_add _)
    refine Ev.eqn (fun K => ?_) this
    unfold rule_number.f
    rw [e, if_neg (by omega), if_pos (by omega), if_pos (by omega), if_pos (by omega)]
    rfl

/-! what a test asks -/
def numO (p : List Int) (a s : Nat) (m : Int) : Option Int := if a + s > p.length then none else some (Go.bits .and .u64 (numV (sub p a s) 0) m)
def askO (t : S50) (p : List Int) (port : Int) : Option Int :=
  if t.f1 = 1 then some p.length else if t.f1 = 2 then some port else if t.f1 = 3 then numO p t.f2.toNat t.f3.toNat t.f4
  else if p.length ≤ 14 then none else numO p (14 + 4 * (rd p 14 % 16).toNat + t.f2.toNat) t.f3.toNat t.f4
def innB (lo hi : Int) : Option Int → Bool
  | some n => decide (lo ≤ n ∧ n ≤ hi)
  | none => false
def holdsV (t : S50) (p : List Int) (port : Int) : Bool := mayB t && (innB t.f5 t.f6 (askO t p port) != t.f0)
theorem may_sizes {t : S50} (h : MayP t) (h1 : t.f1 ≠ 1) (h2 : t.f1 ≠ 2) : (t.f1 = 3 ∨ t.f1 = 4) ∧ 0 ≤ t.f2 ∧ t.f2 ≤ 255 ∧ 1 ≤ t.f3 ∧ t.f3 ≤ 8 := by
  obtain ⟨_, h | ⟨h3, hs, ha, hb, _⟩⟩ := h
  · omega
  · exact ⟨h3, ha, hb, by omega, by omega⟩
theorem ask_num (p : List Int) (hp : Bytes p) (a s : Nat) (ha : a ≤ 1000) (hs : s ≤ 8) (m : Int) :
    ∃ v, Ev (fun k => (rule_number.f k p a s).bind fun b => some (Go.bits .and .u64 b.1 m, b.2)) (v, (numO p a s m).isSome) ∧ ∀ n, numO p a s m = some n → v = n := by
  have h := number_ev p hp a s ha hs
  by_cases c : a + s > p.length
  · rw [if_pos c] at h
    refine ⟨Go.bits .and .u64 0 m, Ev.bind_ h (by unfold numO; rw [if_pos c]; exact Ev.pure), fun n hn => ?_⟩
    unfold numO at hn; rw [if_pos c] at hn; simp at hn
  · rw [if_neg c] at h
    refine ⟨Go.bits .and .u64 (numV (sub p a s) 0) m, Ev.bind_ h (by unfold numO; rw [if_neg c]; exact Ev.pure), fun n hn => ?_⟩
    unfold numO at hn; rw [if_neg c] at hn; exact Option.some.inj hn
theorem ask_ev (t : S50) (p : List Int) (port : Int) (hm : MayP t) (hp : Bytes p) (h0 : 0 ≤ port) (h1 : port < 4294967296) :
    ∃ v, Ev (fun k => rule_of_lit1.f k t.f0 t.f1 t.f2 t.f3 t.f4 t.f5 t.f6 p port) (v, (askO t p port).isSome) ∧ ∀ n, askO t p port = some n → v = n := by
  have hl := hp.1
  unfold askO
  by_cases c1 : t.f1 = 1
  · rw [if_pos c1]
    refine ⟨p.length, Ev.eqn (g := fun _ => some ((p.length : Int), true)) (fun K => ?_) Ev.pure, fun n hn => Option.some.inj hn⟩
    unfold rule_of_lit1.f
    rw [if_pos c1, wu64, Int.emod_eq_of_lt (by omega) (by omega)]
  · rw [if_neg c1]
    by_cases c2 : t.f1 = 2
    · rw [if_pos c2]
      refine ⟨port, Ev.eqn (g := fun _ => some (port, true)) (fun K => ?_) Ev.pure, fun n hn => Option.some.inj hn⟩
      unfold rule_of_lit1.f rule_of_lit2.f
      rw [if_neg c1, if_pos c2, wu64, Int.emod_eq_of_lt (by omega) (by omega)]
    · rw [if_neg c2]
      obtain ⟨h34, ha, hb, hc, hd⟩ := may_sizes hm c1 c2
      have e2 : ((t.f2.toNat : Nat) : Int) = t.f2 := by omega
      have e3 : ((t.f3.toNat : Nat) : Int) = t.f3 := by omega
      by_cases c3 : t.f1 = 3
      · rw [if_pos c3]
        obtain ⟨v, hv, hn⟩ := ask_num p hp t.f2.toNat t.f3.toNat (by omega) (by omega) t.f4
        refine ⟨v, Ev.eqn (fun K => ?_) hv, hn⟩
        unfold rule_of_lit1.f rule_of_lit3.f
        rw [if_neg c1, if_neg c2, if_pos c3, e2, e3]
      · rw [if_neg c3]
        by_cases c4 : p.length ≤ 14
        · rw [if_pos c4]
          refine ⟨0, Ev.eqn (g := fun _ => some (0, false)) (fun K => ?_) Ev.pure, fun n hn => by simp at hn⟩
          unfold rule_of_lit1.f rule_of_lit4.f
          rw [if_neg c1, if_neg c2, if_neg c3, if_pos (by omega)]
        · rw [if_neg c4]
          have hb14 : 0 ≤ rd p 14 ∧ rd p 14 ≤ 255 := by
            have := rd_get (p := p) (i := 14) (by omega)
            rw [show (14 : Int) = ((14 : Nat) : Int) from rfl, this]
            exact hp.2 _ (List.getElem_mem _)
          obtain ⟨v, hv, hn⟩ := ask_num p hp (14 + 4 * (rd p 14 % 16).toNat + t.f2.toNat) t.f3.toNat (by omega) (by omega) t.f4
          refine ⟨v, Ev.eqn (fun K => ?_) hv, hn⟩
          unfold rule_of_lit1.f rule_of_lit4.f
          have e15 : Go.bits .and .u8 (rd p 14) 15 = rd p 14 % 16 := bits_mask .u8 8 (by decide) (fun n a b => by rw [IntKind.wrap_u8]; omega) 4 (by decide) _ hb14.1 (by omega)
          have e4 : wrap64 ((wrap64 (14 + (wrap64 (4 * (wrap64 (rd p 14 % 16)))))) + t.f2) = ((14 + 4 * (rd p 14 % 16).toNat + t.f2.toNat : Nat) : Int) := by unfold wrap64; omega
          rw [if_neg c1, if_neg c2, if_neg c3, if_neg (by omega), if_pos (by omega), e15, e4, e3]
theorem holds_ev (t : S50) (p : List Int) (port : Int) (hp : Bytes p) (h0 : 0 ≤ port) (h1 : port < 4294967296) : Ev (fun k => rule_Holds.f k t.f0 t.f1 t.f2 t.f3 t.f4 t.f5 t.f6 p port) (holdsV t p port) := by
  unfold rule_Holds.f
  refine Ev.bind_ (may_ev t) ?_
  unfold holdsV
  cases hm : mayB t with
  | false => simpa using Ev.pure
  | true =>
    obtain ⟨v, hv, hn⟩ := ask_ev t p port (mayP hm) hp h0 h1
    simp only [if_true, rule_of.f, Option.bind_some, Bool.true_and]
    refine Ev.bind_ hv ?_
    cases ha : askO t p port with
    | none => simpa [innB] using Ev.pure
    | some n =>
      obtain rfl := hn n ha
      simp only [Option.isSome_some, if_true]
      by_cases c : t.f5 ≤ v
      · simpa [innB, c] using Ev.pure
      · simpa [innB, c] using Ev.pure

/-! which rule matches -/
def judgeV (p : List Int) (port : Int) : List S53 → Int → Int × Int
  | [], _ => (0, -1)
  | r :: l, i => if r.f0.all (fun t => holdsV t p port) = true then (r.f1, i) else judgeV p port l (i + 1)
theorem judge_l1 (l : List S53) (hl : l.length < 4611686018427387904) (p : List Int) (port : Int) (hp : Bytes p) (h0 : 0 ≤ port) (h1 : port < 4294967296) (i : Nat) (ts ts' : List S50) (hts : ts.length < 4611686018427387904) (x8 v : Int) (r : Int × Int)
    (hr : Ev (fun k => rule_Judge.l0 k p port l l.length (wrap64 ((i : Int) + 1))) r) :
    ∀ (n j : Nat), j + n = ts.length → Ev (fun k => rule_Judge.l1 k p port x8 l l.length i ts ts.length j ts' v) (if (ts.drop j).all (fun t => holdsV t p port) = true then (v, x8) else r) := by
  intro n
  induction n with
  | zero =>
    intro j hj
    refine Ev.step_ (g := fun k => some (v, x8)) (fun K => ?_) ?_
    · rw [rule_Judge.l1, if_neg (by omega)]
    · rw [List.drop_eq_nil_of_le (by omega)]; simpa using Ev.pure
  | succ n ih =>
    intro j hj
    have hjl : j < ts.length := by omega
    have h := ih (j + 1) (by omega)
    refine Ev.step_ (g := fun k => (rule_Holds.f k ts[j].f0 ts[j].f1 ts[j].f2 ts[j].f3 ts[j].f4 ts[j].f5 ts[j].f6 p port).bind fun t => if t = true then rule_Judge.l1 k p port x8 l l.length i ts ts.length ((j + 1 : Nat) : Int) ts' v else rule_Judge.l0 k p port l l.length (wrap64 ((i : Int) + 1))) (fun K => ?_) (Ev.bind_ (holds_ev ts[j] p port hp h0 h1) ?_)
    · rw [rule_Judge.l1, if_pos (by omega), if_pos (by omega), if_pos (by omega), rd50 hjl, ws (by omega)]
    · rw [drop_get hjl, List.all_cons]
      cases hm : holdsV ts[j] p port with
      | true => simpa using h
      | false => simpa using hr
def Fits (l : List S53) : Prop := l.length < 4611686018427387904 ∧ ∀ z ∈ l, z.f0.length < 4611686018427387904
theorem judge_l0 (l : List S53) (hl : Fits l) (p : List Int) (port : Int) (hp : Bytes p) (h0 : 0 ≤ port) (h1 : port < 4294967296) : ∀ (n i : Nat), i + n = l.length → Ev (fun k => rule_Judge.l0 k p port l l.length i) (judgeV p port (l.drop i) i) := by
  intro n
  have hl1 := hl.1
  induction n with
  | zero =>
    intro i hi
    refine Ev.step_ (g := fun _ => some (0, -1)) (fun K => ?_) ?_
    · rw [rule_Judge.l0, if_neg (by omega)]
    · rw [List.drop_eq_nil_of_le (by omega)]; exact Ev.pure
  | succ n ih =>
    intro i hi
    have hil : i < l.length := by omega
    have h := ih (i + 1) (by omega)
    rw [drop_get hil, judgeV]
    have h' : Ev (fun k => rule_Judge.l0 k p port l l.length (wrap64 ((i : Int) + 1))) (judgeV p port (l.drop (i + 1)) ((i : Int) + 1)) := by
      rw [ws (by omega)]; simpa using h
    refine Ev.step_ (g := fun k => rule_Judge.l1 k p port i l l.length i l[i].f0 l[i].f0.length 0 l[i].f0 l[i].f1) (fun K => ?_) ?_
    · rw [rule_Judge.l0, if_pos (by omega), if_pos (by omega), if_pos (by omega), rd53 hil]
    · have := judge_l1 l hl1 p port hp h0 h1 i l[i].f0 l[i].f0 (hl.2 _ (List.getElem_mem hil)) i l[i].f1 _ h' l[i].f0.length 0 (by omega)
      simpa using this
theorem judge_ev (l : List S53) (hl : Fits l) (p : List Int) (port : Int) (hp : Bytes p) (h0 : 0 ≤ port) (h1 : port < 4294967296) : Ev (fun k => rule_Judge.f k l p port) (judgeV p port l 0) := by
  have := judge_l0 l hl p port hp h0 h1 l.length 0 (by omega)
  exact Ev.eqn (fun K => rfl) this
end Go.Proofs.YtighficpbplkhaaDoor.Pure
