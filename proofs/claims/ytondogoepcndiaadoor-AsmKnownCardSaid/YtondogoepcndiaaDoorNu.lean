/- Chapter 03: asm.number, asm.register (walked by hand): a number, a register of a text; where there is none it panics. -/
import Derived.Test.YtondogoepcndiaaDoorSh
import Derived.Test.YtondogoepcndiaaDoorPx0
import Derived.WalkLawsBesides
import Derived.Lib.AtoiErrMem
namespace Go.Proofs.YtondogoepcndiaaDoor.P
open Go.RowKit Go.Proofs.YtondogoepcndiaaDoorW.PrintWords Go.Proofs.YtondogoepcndiaaDoorW.PrintLast Go.Proofs.YtondogoepcndiaaDoorW.PrintMore
set_option linter.unusedVariables false
set_option linter.unusedSimpArgs false

/-- What a line that is none panics with. -/
def wrongV : Value := .iface 96 (.agg #[])
def Bad (e : Ending) : Prop := e = .panicked [{ v := wrongV, recovered := false }]
def numF (B : Nat) (s : ByteArray) : Option Int := match Lib.parseIntB B s.data.toList with
  | .ok v => some v
  | .syntax => none
  | .range => none
theorem pi_ok (B : Nat) (hB : B = 8 ∨ B = 16 ∨ B = 32) (s : ByteArray) (hs : s.size ≤ 281474976710656) (n : Int) (h : numF B s = some n) (w : World) :
    Calls Tryd.prog 72 #[.string s, .int .i64 10, .int .i64 B] w fun e w' => e = .returned (.tuple #[.int .i64 n, .nilIface]) ∧ Below w.heap.size w w' := by
  have hv : Lib.parseIntB B s.data.toList = .ok n := by
    unfold numF at h
    cases hp : Lib.parseIntB B s.data.toList with
    | ok v => rw [hp] at h; rw [Option.some.inj h]
    | «syntax» => rw [hp] at h; simp at h
    | range => rw [hp] at h; simp at h
  have fin : ∀ e w', (e = .returned (.tuple #[.int .i64 n, .nilIface]) ∧ (w' = w ∨ ∃ t, w' = Lib.bytesWorld w 5 t)) → e = Ending.returned (.tuple #[.int .i64 n, .nilIface]) ∧ Below w.heap.size w w' := by
    rintro e w' ⟨rfl, hw⟩
    refine ⟨rfl, ?_⟩
    rcases hw with rfl | ⟨t, rfl⟩
    · exact Below.refl _ _
    · exact Lib.bytesWorld_below _ _ _
  rcases hB with rfl | rfl | rfl
  · exact (Tryd.strconv_ParseInt_10_at8_ok s (by omega) n hv w).mono fin
  · exact (Tryd.strconv_ParseInt_10_at16_ok s (by omega) n hv w).mono fin
  · exact (Tryd.strconv_ParseInt_10_at32_ok s (by omega) n hv w).mono fin
theorem pi_bad (B : Nat) (hB : B = 8 ∨ B = 16 ∨ B = 32) (s : ByteArray) (hs : s.size ≤ 281474976710656) (h : numF B s = none) (w : World) (hG : GF w) :
    Calls Tryd.prog 72 #[.string s, .int .i64 10, .int .i64 B] w fun e w' => (∃ v N, e = .returned (.tuple #[.int .i64 v, .iface 146 (.pointer (some ⟨N, 0, none⟩))])) ∧ Below w.heap.size w w' := by
  obtain ⟨_, _, ⟨t2, p2, h2⟩, ⟨t3, p3, h3⟩⟩ := hG
  have hv : Lib.parseIntB B s.data.toList = .«syntax» ∨ Lib.parseIntB B s.data.toList = .range := by
    unfold numF at h
    cases hp : Lib.parseIntB B s.data.toList with
    | ok v => rw [hp] at h; simp at h
    | «syntax» => exact .inl rfl
    | range => exact .inr rfl
  rcases hB with rfl | rfl | rfl <;> rcases hv with hv | hv
  · exact (Tryd.strconv_ParseInt_10_at8_syntax s hs hv _ w h2 (.inr ⟨t2, p2, rfl⟩)).mono fun e w' ⟨N, he, _, _, hb⟩ => ⟨⟨_, N, he⟩, hb⟩
  · exact (Tryd.strconv_ParseInt_10_at8_range s hs hv _ w h3 (.inr ⟨t3, p3, rfl⟩)).mono fun e w' ⟨N, he, _, _, hb⟩ => ⟨⟨_, N, he⟩, hb⟩
  · exact (Tryd.strconv_ParseInt_10_at16_syntax s hs hv _ w h2 (.inr ⟨t2, p2, rfl⟩)).mono fun e w' ⟨N, he, _, _, hb⟩ => ⟨⟨_, N, he⟩, hb⟩
  · exact (Tryd.strconv_ParseInt_10_at16_range s hs hv _ w h3 (.inr ⟨t3, p3, rfl⟩)).mono fun e w' ⟨N, he, _, _, hb⟩ => ⟨⟨_, N, he⟩, hb⟩
  · exact (Tryd.strconv_ParseInt_10_at32_syntax s hs hv _ w h2 (.inr ⟨t2, p2, rfl⟩)).mono fun e w' ⟨N, he, _, _, hb⟩ => ⟨⟨_, N, he⟩, hb⟩
  · exact (Tryd.strconv_ParseInt_10_at32_range s hs hv _ w h3 (.inr ⟨t3, p3, rfl⟩)).mono fun e w' ⟨N, he, _, _, hb⟩ => ⟨⟨_, N, he⟩, hb⟩
set_option maxRecDepth 100000 in
theorem number_ok (B : Nat) (hB : B = 8 ∨ B = 16 ∨ B = 32) (s : ByteArray) (hs : s.size ≤ 281474976710656) (n : Int) (h : numF B s = some n) (w : World) :
    Calls Tryd.prog 55 #[.string s, .int .i64 B] w fun e w' => e = .returned (.int .i64 n) ∧ Below w.heap.size w w' := by
  go_enter Tryd.func55, Tryd.ntmps55
  go_wp2_with (go_at_call 72; refine (pi_ok B hB s hs n h _).mono ?_; rintro e w' ⟨rfl, hb⟩)
  go_ret
  exact ⟨rfl, hb⟩
set_option maxRecDepth 100000 in
theorem number_bad (B : Nat) (hB : B = 8 ∨ B = 16 ∨ B = 32) (s : ByteArray) (hs : s.size ≤ 281474976710656) (h : numF B s = none) (w : World) (hG : GF w) :
    Calls Tryd.prog 55 #[.string s, .int .i64 B] w fun e w' => Bad e ∧ Below w.heap.size w w' := by
  go_enter Tryd.func55, Tryd.ntmps55
  go_wp2_with (go_at_call 72; refine (pi_bad B hB s hs h _ hG).mono ?_; rintro e w' ⟨⟨v, N, rfl⟩, hb⟩)
  exact ⟨rfl, rfl, hb⟩
/-- The number of a register. -/
def regF (s : ByteArray) : Option Int := if Lib.hasPrefix s.data.toList [114] = true then (numF 8 (s.extract 1 s.size)).map (fun n => IntKind.u8.wrap n) else none
theorem hasPrefix_size {s : ByteArray} (h : Lib.hasPrefix s.data.toList [114] = true) : 1 ≤ s.size := by
  have h1 := (List.isPrefixOf_iff_prefix.1 h).length_le
  rw [Array.length_toList] at h1
  exact h1
theorem ext_size (s : ByteArray) (h : s.size ≤ 281474976710656) (a : Nat) : (s.extract a s.size).size ≤ 281474976710656 := by rw [ByteArray.size_extract]; omega
set_option maxRecDepth 100000 in
theorem register_ok (s : ByteArray) (hs : s.size ≤ 281474976710656) (n : Int) (h : regF s = some n) (w : World) :
    Calls Tryd.prog 53 #[.string s] w fun e w' => e = .returned (.int .u8 n) ∧ Below w.heap.size w w' := by
  unfold regF at h
  by_cases hp : Lib.hasPrefix s.data.toList [114] = true
  · rw [if_pos hp] at h
    have h1 := hasPrefix_size hp
    obtain ⟨m, hm, rfl⟩ := Option.map_eq_some_iff.1 h
    have hc1 : decide ((1 : Int) ≤ (s.size : Int)) = true := decide_eq_true (by omega)
    have hp' : Lib.hasPrefix s.data.toList (⟨#[114]⟩ : ByteArray).data.toList = true := hp
    go_enter Tryd.func53, Tryd.ntmps53
    go_wp2_with (first
      | (go_at_call 54; refine (Tryd.strings_HasPrefix s ⟨#[114]⟩ _).mono ?_; rintro e w' ⟨rfl, rfl⟩; rw [hp'])
      | (go_at_call 55; refine (number_ok 8 (.inl rfl) (s.extract 1 s.size) (ext_size s hs 1) m hm _).mono ?_; rintro e w' ⟨rfl, hb⟩))
    go_ret
    exact ⟨rfl, hb⟩
  · rw [if_neg hp] at h
    exact absurd h (by simp)
set_option maxRecDepth 100000 in
theorem register_bad (s : ByteArray) (hs : s.size ≤ 281474976710656) (h : regF s = none) (w : World) (hG : GF w) :
    Calls Tryd.prog 53 #[.string s] w fun e w' => Bad e ∧ Below w.heap.size w w' := by
  unfold regF at h
  by_cases hp : Lib.hasPrefix s.data.toList [114] = true
  · rw [if_pos hp] at h
    have h1 := hasPrefix_size hp
    have hm : numF 8 (s.extract 1 s.size) = none := by simpa using h
    have hp' : Lib.hasPrefix s.data.toList (⟨#[114]⟩ : ByteArray).data.toList = true := hp
    go_enter Tryd.func53, Tryd.ntmps53
    go_wp2_with (first
      | (go_at_call 54; refine (Tryd.strings_HasPrefix s ⟨#[114]⟩ _).mono ?_; rintro e w' ⟨rfl, rfl⟩; rw [hp'])
      | (go_at_call 55; refine (number_bad 8 (.inl rfl) (s.extract 1 s.size) (ext_size s hs 1) hm _ hG).mono ?_; rintro e w' ⟨rfl, hb⟩))
    exact ⟨rfl, rfl, hb⟩
  · have hp' : Lib.hasPrefix s.data.toList (⟨#[114]⟩ : ByteArray).data.toList = false := by
      have : ¬ Lib.hasPrefix s.data.toList (⟨#[114]⟩ : ByteArray).data.toList = true := hp
      simpa using this
    go_enter Tryd.func53, Tryd.ntmps53
    go_wp2_with (go_at_call 54; refine (Tryd.strings_HasPrefix s ⟨#[114]⟩ _).mono ?_; rintro e w' ⟨rfl, rfl⟩; rw [hp'])
    exact ⟨rfl, rfl, Below.refl _ _⟩
theorem numF_small (B : Nat) (hB : B = 8 ∨ B = 16 ∨ B = 32) (s : ByteArray) (n : Int) (h : numF B s = some n) : -2147483648 ≤ n ∧ n ≤ 2147483647 := by
  unfold numF at h
  cases hp : Lib.parseIntB B s.data.toList with
  | ok v =>
    rw [hp] at h
    obtain rfl := Option.some.inj h
    unfold Lib.parseIntB at hp
    split at hp
    · exact absurd hp (by simp)
    · simp only at hp
      split at hp
      · exact absurd hp (by simp)
      · exact absurd hp (by simp)
      · rename_i u _
        have hB' : 2 ^ (B - 1) ≤ 2147483648 := by rcases hB with rfl | rfl | rfl <;> decide
        split at hp
        · exact absurd hp (by simp)
        · split at hp
          · exact absurd hp (by simp)
          · have e := Lib.NumEnd.ok.inj hp
            rw [← e]
            split <;> omega
  | «syntax» => rw [hp] at h; exact absurd h (by simp)
  | range => rw [hp] at h; exact absurd h (by simp)
theorem regF_small (s : ByteArray) (n : Int) (h : regF s = some n) : 0 ≤ n ∧ n < 256 := by
  unfold regF at h
  split at h
  · obtain ⟨m, _, rfl⟩ := Option.map_eq_some_iff.1 h
    have e : IntKind.u8.wrap m = m % 256 := by simp [IntKind.wrap, IntKind.signed, IntKind.bits]
    rw [e]
    omega
  · exact absurd h (by simp)
theorem ne_pos_ {t : Int} (h : decide (0 < t) = true) : t ≠ -1 := by
  have := of_decide_eq_true h
  omega
section
variable {P : Program} {ops : Array Oper} {rest : List Oper} {oi : Oper} {a : Act} {Q : Exit → Act → World → Prop}
/-- A call that panics, in a region whose order is drawn. -/
theorem goesX_ {N : Option Tmp} {w : World} {K : Act → World → Prop} {f : FuncId} {fn : Func} {as_ : Array Operand} {ts : Array TypeId} (hf : P.funcs[f]? = some fn) (hname : (fn.name == "runtime.NumGoroutine") = false) (hb : fn.body.isSome = true) (args : Array Value)
    (hw : Region.wanted oi (yielded ops a.tmps) = true) (hN : oi.dst = N) (hop : oi.op = .call { callee := .value (.func f), args := as_, argTypes := ts }) (hargs : as_.map a.eval = args)
    (h : Calls P f args w fun e w' => ∃ ch, e = .panicked ch ∧ Q (.panic ch) a w') : if Region.wanted oi (yielded ops a.tmps) = true then Oper.wp P oi a w K Q else K (a.put N undef) w := by
  rw [if_pos hw]
  have he := enters_ hf hname hb args w
  have hrun : (execOp a.eval oi).run P w = .ok (.enter f args) w := by
    unfold execOp
    simp [hop, resolve, Deferred.ofValue, invoke, Act.eval, hargs, he]
  unfold Oper.wp
  rw [hrun, Oper.upon_enter]
  refine h.mono fun e w'' hh => ?_
  obtain ⟨ch, rfl, hq⟩ := hh
  exact hq
/-- A call that panics, in a plain region. -/
theorem sh_callX {w : World} {f : FuncId} {fn : Func} (hf : P.funcs[f]? = some fn) {as_ : Array Operand} {ts : Array TypeId} (args : Array Value)
    (h : Calls P f args w fun e w' => ∃ ch, e = .panicked ch ∧ Q (.panic ch) a w') (hg : oi.guard = none := by exact rfl) (hname : (fn.name == "runtime.NumGoroutine") = false := by kernel_rfl) (hb : fn.body.isSome = true := by exact rfl)
    (hop : oi.op = .call { callee := .value (.func f), args := as_, argTypes := ts } := by exact rfl) (hargs : as_.map a.eval = args := by (try simp only [List.map_toArray, List.map_cons, List.map_nil]); first | done | rfl | (simp only [List.length_drop, List.length_take]; rfl)) : wpList P ops Q (oi :: rest) a w := by
  refine wpList_plain hg fun K hK => ?_
  have he := enters_ hf hname hb args w
  have hrun : (execOp a.eval oi).run P w = .ok (.enter f args) w := by
    unfold execOp
    simp [hop, resolve, Deferred.ofValue, invoke, Act.eval, hargs, he]
  unfold Oper.wp
  rw [hrun, Oper.upon_enter]
  refine h.mono fun e w'' hh => ?_
  obtain ⟨ch, rfl, hq⟩ := hh
  exact hq
end
end Go.Proofs.YtondogoepcndiaaDoor.P
