/- Made by this session's driver over the kit's printer: for each Go function a Lean function with the same answers, and a proof that the Go call comes to these answers; no conditions but the ones each theorem names. -/
import Derived.Test.YtondogoepcndiaaDoorPx0
import Derived.Test.YtondogoepcndiaaDoorPx16
import Derived.Test.YtondogoepcndiaaDoorPx17
import Derived.Test.YtondogoepcndiaaDoorPx18
import Derived.Test.YtondogoepcndiaaDoorPxXXNu
import Derived.Test.YtondogoepcndiaaDoorPxXXRe
import Derived.Test.YtondogoepcndiaaDoorPxXXPu
import Derived.Test.YtondogoepcndiaaDoorPxXXCu
import Derived.Test.YtondogoepcndiaaDoorPxXXSp
namespace Go.Proofs.YtondogoepcndiaaDoor.P
open Go.RowKit Go.Proofs.YtondogoepcndiaaDoorW.PrintWords Go.Proofs.YtondogoepcndiaaDoorW.PrintLast Go.Proofs.YtondogoepcndiaaDoorW.PrintMore
attribute [local go_sem] max2_int min2_int max_two min_two max_three min_three max_four min_four   -- for this text's walks alone
set_option linter.unusedVariables false
set_option linter.unusedSimpArgs false

/-! ### asm_read: function 39 -/
mutual
def asm_read.j0 : Nat → List ByteArray → Int → Int → Int → Bool → Bool → Option (Int × Int × Int × Bool × Bool × Int × Int × Int × Int × Int × Int)
 | 0, _, _, _, _, _, _ => none
 | k + 1, x9, x222000, x222001, x222002, x222003, x222004 => (asm_operands.f k x222000 x222001 x222002 x222003 x222004).bind fun t225 => (if (x9.length : Int) = t225 then (if x222000 = 1 then (asm_read.j1 k x9 0 x222000 (x222000 == 1) x222000 x222001 x222002 x222003 x222004 0 0 0 0 0) else (asm_read.j1 k x9 0 x222000 (x222000 == 6) x222000 x222001 x222002 x222003 x222004 0 0 0 0 0)) else (some ((-1), 0, 0, false, false, 0, 0, 0, 0, 0, 0)))
def asm_read.j3 : Nat → Int → Int → Int → Int → Bool → Bool → Int → Int → Int → Int → Int → Option (Int × Int × Int × Bool × Bool × Int × Int × Int × Int × Int × Int)
 | 0, _, _, _, _, _, _, _, _, _, _, _ => none
 | k + 1, x11, x222000, x222001, x222002, x222003, x222004, x227000, x227001, x227002, x227003, x227004 => some (x222000, x222001, x222002, x222003, x222004, x227000, x227001, x227002, x227003, x227004, x11)
def asm_read.j1 : Nat → List ByteArray → Int → Int → Bool → Int → Int → Int → Bool → Bool → Int → Int → Int → Int → Int → Option (Int × Int × Int × Bool × Bool × Int × Int × Int × Int × Int × Int)
 | 0, _, _, _, _, _, _, _, _, _, _, _, _, _, _ => none
 | k + 1, x9, x11, x34, x35, x222000, x222001, x222002, x222003, x222004, x227000, x227001, x227002, x227003, x227004 => if x35 = true then (if 0 < (x9.length : Int) then ((asm_register.f (rdOf ByteArray.empty x9 0)).bind fun t228 => (if t228 = 256 then (some ((-1), 0, 0, false, false, 0, 0, 0, 0, 0, 0)) else (if (x9.length : Int) > 1 then (if 1 < (x9.length : Int) then ((strings_HasPrefix.f (rdOf ByteArray.empty x9 1) (⟨#[114]⟩ : ByteArray)).bind fun t230 => (if t230 = true then ((asm_register.f (rdOf ByteArray.empty x9 1)).bind fun t232 => (if t232 = 256 then (some ((-1), 0, 0, false, false, 0, 0, 0, 0, 0, 0)) else (asm_read.j2 k x9 x11 x222000 x222001 x222002 x222003 t230 x227000 t228 t232 x227003 x227004))) else ((asm_number.f (rdOf ByteArray.empty x9 1) 32).bind fun t234 => (if t234 = 4611686018427387904 then (some ((-1), 0, 0, false, false, 0, 0, 0, 0, 0, 0)) else (asm_read.j2 k x9 x11 x222000 x222001 x222002 x222003 t230 x227000 t228 x227002 x227003 (wrap32 (t234))))))) else (none)) else (asm_read.j2 k x9 x11 x222000 x222001 x222002 x222003 x222004 x227000 t228 x227002 x227003 x227004)))) else (none)) else (if x34 = 2 then (if 0 < (x9.length : Int) then ((asm_register.f (rdOf ByteArray.empty x9 0)).bind fun t238 => (if t238 = 256 then (some ((-1), 0, 0, false, false, 0, 0, 0, 0, 0, 0)) else (asm_read.j3 k x11 x222000 x222001 x222002 x222003 x222004 x227000 t238 x227002 x227003 x227004))) else (none)) else (if x34 = 3 then (if 0 < (x9.length : Int) then ((asm_register.f (rdOf ByteArray.empty x9 0)).bind fun t240 => (if t240 = 256 then (some ((-1), 0, 0, false, false, 0, 0, 0, 0, 0, 0)) else (if 1 < (x9.length : Int) then ((asm_address.f k (rdOf ByteArray.empty x9 1)).bind fun bt242 => (if bt242.1 = 256 then (some ((-1), 0, 0, false, false, 0, 0, 0, 0, 0, 0)) else (asm_read.j3 k x11 x222000 x222001 x222002 x222003 x222004 x227000 t240 bt242.1 bt242.2 x227004))) else (none)))) else (none)) else (if x34 = 4 then (if 0 < (x9.length : Int) then ((asm_address.f k (rdOf ByteArray.empty x9 0)).bind fun bt245 => (if bt245.1 = 256 then (some ((-1), 0, 0, false, false, 0, 0, 0, 0, 0, 0)) else (if 1 < (x9.length : Int) then ((asm_register.f (rdOf ByteArray.empty x9 1)).bind fun t248 => (if t248 = 256 then (some ((-1), 0, 0, false, false, 0, 0, 0, 0, 0, 0)) else (asm_read.j3 k x11 x222000 x222001 x222002 x222003 x222004 x227000 bt245.1 t248 bt245.2 x227004))) else (none)))) else (none)) else (if x34 = 5 then (if 0 < (x9.length : Int) then ((asm_address.f k (rdOf ByteArray.empty x9 0)).bind fun bt250 => (if bt250.1 = 256 then (some ((-1), 0, 0, false, false, 0, 0, 0, 0, 0, 0)) else (if 1 < (x9.length : Int) then ((asm_number.f (rdOf ByteArray.empty x9 1) 32).bind fun t253 => (if t253 = 4611686018427387904 then (some ((-1), 0, 0, false, false, 0, 0, 0, 0, 0, 0)) else (asm_read.j3 k x11 x222000 x222001 x222002 x222003 x222004 x227000 bt250.1 x227002 bt250.2 (wrap32 (t253))))) else (none)))) else (none)) else (if x34 = 7 then (if 0 < (x9.length : Int) then ((asm_number.f (rdOf ByteArray.empty x9 0) 16).bind fun t255 => (if t255 = 4611686018427387904 then (some ((-1), 0, 0, false, false, 0, 0, 0, 0, 0, 0)) else (asm_read.j3 k x11 x222000 x222001 x222002 x222003 x222004 x227000 x227001 x227002 (IntKind.i16.wrap (t255)) x227004))) else (none)) else (if x34 = 8 then (if 0 < (x9.length : Int) then ((asm_number.f (rdOf ByteArray.empty x9 0) 32).bind fun t257 => (if t257 = 4611686018427387904 then (some ((-1), 0, 0, false, false, 0, 0, 0, 0, 0, 0)) else (asm_read.j3 k x11 x222000 x222001 x222002 x222003 x222004 x227000 x227001 x227002 x227003 (wrap32 (t257))))) else (none)) else (if x34 = 10 then (if 0 < (x9.length : Int) then ((asm_register.f (rdOf ByteArray.empty x9 0)).bind fun t259 => (if t259 = 256 then (some ((-1), 0, 0, false, false, 0, 0, 0, 0, 0, 0)) else (if 1 < (x9.length : Int) then ((strconv_ParseUint_57.f (rdOf ByteArray.empty x9 1) 10 64).bind fun bt261 => (if bt261.2.isNone = true then (asm_read.j3 k (wrap32 ((bt261.1 / 4294967296) % 4294967296)) x222000 x222001 x222002 x222003 x222004 x227000 t259 x227002 x227003 (wrap32 ((bt261.1) % 4294967296))) else (some ((-1), 0, 0, false, false, 0, 0, 0, 0, 0, 0)))) else (none)))) else (none)) else (if x34 = 11 then (if 0 < (x9.length : Int) then ((asm_register.f (rdOf ByteArray.empty x9 0)).bind fun t265 => (if t265 = 256 then (some ((-1), 0, 0, false, false, 0, 0, 0, 0, 0, 0)) else (if 1 < (x9.length : Int) then ((asm_number.f (rdOf ByteArray.empty x9 1) 32).bind fun t267 => (if t267 = 4611686018427387904 then (some ((-1), 0, 0, false, false, 0, 0, 0, 0, 0, 0)) else (asm_read.j3 k x11 x222000 x222001 x222002 x222003 x222004 x227000 t265 x227002 x227003 (wrap32 (t267))))) else (none)))) else (none)) else (asm_read.j3 k x11 x222000 x222001 x222002 x222003 x222004 x227000 x227001 x227002 x227003 x227004)))))))))
def asm_read.j2 : Nat → List ByteArray → Int → Int → Int → Int → Bool → Bool → Int → Int → Int → Int → Int → Option (Int × Int × Int × Bool × Bool × Int × Int × Int × Int × Int × Int)
 | 0, _, _, _, _, _, _, _, _, _, _, _, _ => none
 | k + 1, x9, x11, x222000, x222001, x222002, x222003, x222004, x227000, x227001, x227002, x227003, x227004 => if (x9.length : Int) > 2 then (if 2 < (x9.length : Int) then ((asm_number.f (rdOf ByteArray.empty x9 2) 16).bind fun t236 => (if t236 = 4611686018427387904 then (some ((-1), 0, 0, false, false, 0, 0, 0, 0, 0, 0)) else (asm_read.j3 k x11 x222000 x222001 x222002 x222003 x222004 x227000 x227001 x227002 (IntKind.i16.wrap (t236)) x227004))) else (none)) else (asm_read.j3 k x11 x222000 x222001 x222002 x222003 x222004 x227000 x227001 x227002 x227003 x227004)
end
def asm_read.f (k : Nat) (a0 : ByteArray) : Option (Int × Int × Int × Bool × Bool × Int × Int × Int × Int × Int × Int) := (strings_Cut.f a0 (⟨#[32]⟩ : ByteArray)).bind fun bt213 => ((asm_verb.f k bt213.1).bind fun bt216 => (if bt216.1 = (-1) then (some ((-1), 0, 0, false, false, 0, 0, 0, 0, 0, 0)) else (if bt213.2.2 = true then ((strings_Split.f bt213.2.1 (⟨#[44, 32]⟩ : ByteArray)).bind fun t222 => (asm_read.j0 k t222 bt216.1 bt216.2.1 bt216.2.2.1 bt216.2.2.2.1 bt216.2.2.2.2)) else (asm_read.j0 k ([] : List ByteArray) bt216.1 bt216.2.1 bt216.2.2.1 bt216.2.2.2.1 bt216.2.2.2.2))))
theorem asm_read.mono_l : ∀ k, (∀ y0 y1 y2 y3 y4 y5, LeO (asm_read.j0 k y0 y1 y2 y3 y4 y5) (asm_read.j0 (k + 1) y0 y1 y2 y3 y4 y5)) ∧ (∀ y0 y1 y2 y3 y4 y5 y6 y7 y8 y9 y10, LeO (asm_read.j3 k y0 y1 y2 y3 y4 y5 y6 y7 y8 y9 y10) (asm_read.j3 (k + 1) y0 y1 y2 y3 y4 y5 y6 y7 y8 y9 y10)) ∧ (∀ y0 y1 y2 y3 y4 y5 y6 y7 y8 y9 y10 y11 y12 y13, LeO (asm_read.j1 k y0 y1 y2 y3 y4 y5 y6 y7 y8 y9 y10 y11 y12 y13) (asm_read.j1 (k + 1) y0 y1 y2 y3 y4 y5 y6 y7 y8 y9 y10 y11 y12 y13)) ∧ (∀ y0 y1 y2 y3 y4 y5 y6 y7 y8 y9 y10 y11, LeO (asm_read.j2 k y0 y1 y2 y3 y4 y5 y6 y7 y8 y9 y10 y11) (asm_read.j2 (k + 1) y0 y1 y2 y3 y4 y5 y6 y7 y8 y9 y10 y11))
 | 0 => ⟨fun _ _ _ _ _ _ r h => by simp [asm_read.j0] at h, fun _ _ _ _ _ _ _ _ _ _ _ r h => by simp [asm_read.j3] at h, fun _ _ _ _ _ _ _ _ _ _ _ _ _ _ r h => by simp [asm_read.j1] at h, fun _ _ _ _ _ _ _ _ _ _ _ _ r h => by simp [asm_read.j2] at h⟩
 | k + 1 => by
  obtain ⟨ih0, ih1, ih2, ih3⟩ := asm_read.mono_l k
  refine ⟨?_, ?_, ?_, ?_⟩
  ·intro y0 y1 y2 y3 y4 y5
   unfold asm_read.j0
   repeat' first
   | (with_reducible exact ih0 _ _ _ _ _ _)
   | (with_reducible exact ih1 _ _ _ _ _ _ _ _ _ _ _)
   | (with_reducible exact ih2 _ _ _ _ _ _ _ _ _ _ _ _ _ _)
   | (with_reducible exact ih3 _ _ _ _ _ _ _ _ _ _ _ _)
   | (with_reducible exact asm_address.mono _ _)
   | (with_reducible exact asm_operands.mono _ _ _ _ _ _)
   | (with_reducible exact asm_verb.mono _ _)
   | (with_reducible exact LeO.refl _)
   | (with_reducible exact LeO.none _)
   | (with_reducible refine LeO.ite ?_ ?_)
   | (with_reducible refine LeO.bind ?_ (fun _ => ?_))
   | refine LeO.ite ?_ ?_
   | refine LeO.bind ?_ (fun _ => ?_)
  ·intro y0 y1 y2 y3 y4 y5 y6 y7 y8 y9 y10
   unfold asm_read.j3
   repeat' first
   | (with_reducible exact ih0 _ _ _ _ _ _)
   | (with_reducible exact ih1 _ _ _ _ _ _ _ _ _ _ _)
   | (with_reducible exact ih2 _ _ _ _ _ _ _ _ _ _ _ _ _ _)
   | (with_reducible exact ih3 _ _ _ _ _ _ _ _ _ _ _ _)
   | (with_reducible exact asm_address.mono _ _)
   | (with_reducible exact asm_operands.mono _ _ _ _ _ _)
   | (with_reducible exact asm_verb.mono _ _)
   | (with_reducible exact LeO.refl _)
   | (with_reducible exact LeO.none _)
   | (with_reducible refine LeO.ite ?_ ?_)
   | (with_reducible refine LeO.bind ?_ (fun _ => ?_))
   | refine LeO.ite ?_ ?_
   | refine LeO.bind ?_ (fun _ => ?_)
  ·intro y0 y1 y2 y3 y4 y5 y6 y7 y8 y9 y10 y11 y12 y13
   unfold asm_read.j1
   repeat' first
   | (with_reducible exact ih0 _ _ _ _ _ _)
   | (with_reducible exact ih1 _ _ _ _ _ _ _ _ _ _ _)
   | (with_reducible exact ih2 _ _ _ _ _ _ _ _ _ _ _ _ _ _)
   | (with_reducible exact ih3 _ _ _ _ _ _ _ _ _ _ _ _)
   | (with_reducible exact asm_address.mono _ _)
   | (with_reducible exact asm_operands.mono _ _ _ _ _ _)
   | (with_reducible exact asm_verb.mono _ _)
   | (with_reducible exact LeO.refl _)
   | (with_reducible exact LeO.none _)
   | (with_reducible refine LeO.ite ?_ ?_)
   | (with_reducible refine LeO.bind ?_ (fun _ => ?_))
   | refine LeO.ite ?_ ?_
   | refine LeO.bind ?_ (fun _ => ?_)
  ·intro y0 y1 y2 y3 y4 y5 y6 y7 y8 y9 y10 y11
   unfold asm_read.j2
   repeat' first
   | (with_reducible exact ih0 _ _ _ _ _ _)
   | (with_reducible exact ih1 _ _ _ _ _ _ _ _ _ _ _)
   | (with_reducible exact ih2 _ _ _ _ _ _ _ _ _ _ _ _ _ _)
   | (with_reducible exact ih3 _ _ _ _ _ _ _ _ _ _ _ _)
   | (with_reducible exact asm_address.mono _ _)
   | (with_reducible exact asm_operands.mono _ _ _ _ _ _)
   | (with_reducible exact asm_verb.mono _ _)
   | (with_reducible exact LeO.refl _)
   | (with_reducible exact LeO.none _)
   | (with_reducible refine LeO.ite ?_ ?_)
   | (with_reducible refine LeO.bind ?_ (fun _ => ?_))
   | refine LeO.ite ?_ ?_
   | refine LeO.bind ?_ (fun _ => ?_)
theorem asm_read.mono : ∀ a0 k, LeO (asm_read.f k a0) (asm_read.f (k + 1) a0) := by
 intro a0 k
 obtain ⟨ih0, ih1, ih2, ih3⟩ := asm_read.mono_l k
 unfold asm_read.f
 repeat' first
   | (with_reducible exact ih0 _ _ _ _ _ _)
   | (with_reducible exact ih1 _ _ _ _ _ _ _ _ _ _ _)
   | (with_reducible exact ih2 _ _ _ _ _ _ _ _ _ _ _ _ _ _)
   | (with_reducible exact ih3 _ _ _ _ _ _ _ _ _ _ _ _)
   | (with_reducible exact asm_address.mono _ _)
   | (with_reducible exact asm_operands.mono _ _ _ _ _ _)
   | (with_reducible exact asm_verb.mono _ _)
   | (with_reducible exact LeO.refl _)
   | (with_reducible exact LeO.none _)
   | (with_reducible refine LeO.ite ?_ ?_)
   | (with_reducible refine LeO.bind ?_ (fun _ => ?_))
   | refine LeO.ite ?_ ?_
   | refine LeO.bind ?_ (fun _ => ?_)
set_option maxHeartbeats 8000000 in
set_option maxRecDepth 100000 in
theorem asm_read.both (k : Nat) (a0 : ByteArray) (r1 : Int) (r2 : Int) (r3 : Int) (r4 : Bool) (r5 : Bool) (r6 : Int) (r7 : Int) (r8 : Int) (r9 : Int) (r10 : Int) (r11 : Int) (w : World) (hrG0 : Kd.C Kd.string w (some ⟨0, 0, none⟩) gl0.length gl0) (hrG1 : Kd.C Kd.string w (some ⟨1, 0, none⟩) gl1.length gl1) (hrG3 : Kd.C kGF w (some ⟨3, 0, none⟩) gl3.length gl3) (h : asm_read.f k a0 = some (r1, r2, r3, r4, r5, r6, r7, r8, r9, r10, r11)) :
  Calls Tryd.prog 39 #[.string a0] w fun e w' => (r1 = (-1) ∧ Bad e ∨ r1 ≠ (-1) ∧ e = .returned (.tuple #[.agg #[.int .i64 r1, .int .i64 r2, .int .i64 r3, .bool r4, .bool r5], .agg #[.int .u8 r6, .int .u8 r7, .int .u8 r8, .int .i16 r9, .int .i32 r10], .int .i32 r11])) ∧ Below w.heap.size w w' := by
 have hu49 := Tryd.underlying49
 have hu37 := Tryd.underlying37
 have hu53 := Tryd.underlying53
 have hu144 := Tryd.underlying144
 have HRG0 := Aside0.mk hrG0
 clear hrG0
 have HRG1 := Aside0.mk hrG1
 clear hrG1
 have HRG3 := Aside0.mk hrG3
 clear hrG3
 have HB := Aside0.mk (Below.refl w.heap.size w)
 have H : ((strings_Cut.f a0 (⟨#[32]⟩ : ByteArray)).bind fun bt213 => ((asm_verb.f k bt213.1).bind fun bt216 => (if bt216.1 = (-1) then (some ((-1), 0, 0, false, false, 0, 0, 0, 0, 0, 0)) else (if bt213.2.2 = true then ((strings_Split.f bt213.2.1 (⟨#[44, 32]⟩ : ByteArray)).bind fun t222 => (asm_read.j0 k t222 bt216.1 bt216.2.1 bt216.2.2.1 bt216.2.2.2.1 bt216.2.2.2.2)) else (asm_read.j0 k ([] : List ByteArray) bt216.1 bt216.2.1 bt216.2.2.1 bt216.2.2.2.1 bt216.2.2.2.2))))) = some (r1, r2, r3, r4, r5, r6, r7, r8, r9, r10, r11) := h
 clear h
 obtain ⟨⟨t213, t214, t215⟩, A2, H⟩ := bs_ H; try dsimp only at H
 obtain ⟨⟨t216, t217, t218, t219, t220⟩, A3, H⟩ := bs_ H; try dsimp only at H
 by_cases c4 : t216 = (-1)
 ·rw [if_pos c4] at H
  obtain ⟨c4b0, c4b1⟩ := eqT c4
  clear c4
  simp only [Option.some.injEq, Prod.mk.injEq] at H
  obtain ⟨rfl, rfl, rfl, rfl, rfl, rfl, rfl, rfl, rfl, rfl, rfl⟩ := H
  go_enter Tryd.func39, Tryd.ntmps39
  go_wp2_with (first | ((with_reducible refine gate_dst (N := 2) rfl ?_); refine sh_box 2 #[.int .i64 0, .int .i64 0, .int .i64 0, .bool false, .bool false] 49 ?_; intro gb211 hg w5 hbox hb; have GE211 := sh_z (w := w) hg; replace HB := sh_b (w := w) hb; have BK211 := Aside0.mk (hbox); clear hb hbox hg) | ((with_reducible refine gate_dst (N := 3) rfl ?_); refine sh_box 3 #[.int .u8 0, .int .u8 0, .int .u8 0, .int .i16 0, .int .i32 0] 37 ?_; intro gb212 hg w6 hbox hb; have GE212 := sh_z (w := w) hg; have NB211_212 := sh_n BK211 hg; have NB212_211 := sh_s NB211_212; replace BK211 := sh_k BK211 hb; replace HB := sh_b (w := w) hb; have BK212 := Aside0.mk (hbox); clear hb hbox hg) | ((with_reducible refine gate_callee (f := 22) rfl ?_); refine sh_call (some 16) Tryd.func22 #[.string a0, .string (⟨#[32]⟩ : ByteArray)] ?_; (with_reducible refine (strings_Cut.calls a0 (⟨#[32]⟩ : ByteArray) t213 t214 t215 _ ?side1 A2.out).mono ?_); (case side1 => repeat (first | exact (Kd.C_below HRG3.out HB.out) | (with_reducible refine Kd.C_alloc ?_ _) | (with_reducible refine Kd.C_drewN ?_ _) | (with_reducible refine Kd.C_drew ?_))); rintro e w' ⟨rfl, ⟨nd, rfl⟩⟩; refine ⟨_, rfl, ?_⟩; (try (rw [drewN_self w6]; generalize hq_ : World.drewN w6 _ = w6; have n0_ : Aside0 (w6.heap[gb211]? = some (.cells #[.int .i64 0, .int .i64 0, .int .i64 0, .bool false, .bool false] 49 (0, 0))) := ⟨by rw [← hq_]; exact bk_now⟩; have n1_ : Aside0 (w6.heap[gb212]? = some (.cells #[.int .u8 0, .int .u8 0, .int .u8 0, .int .i16 0, .int .i32 0] 37 (0, 0))) := ⟨by rw [← hq_]; exact bk_now⟩; have n2_ : Aside0 (Below w.heap.size w w6) := ⟨by rw [← hq_]; exact b_now⟩; clear BK211 BK212 HB hq_; have BK211 := n0_; have BK212 := n1_; have HB := n2_; clear n0_ n1_ n2_))) | ((with_reducible refine gate_callee (f := 50) rfl ?_); refine sh_callX Tryd.func50 #[.string t213] ?_; (with_reducible refine (asm_verb.bad k t213 t216 t217 t218 t219 t220 _ ?side1 ?side2 ?side3 A3.out (beq_iff_eq.mp c4b0)).mono ?_); (case side1 => repeat (first | exact (Kd.C_below HRG0.out HB.out) | (with_reducible refine Kd.C_alloc ?_ _) | (with_reducible refine Kd.C_drewN ?_ _) | (with_reducible refine Kd.C_drew ?_))); (case side2 => repeat (first | exact (Kd.C_below HRG1.out HB.out) | (with_reducible refine Kd.C_alloc ?_ _) | (with_reducible refine Kd.C_drewN ?_ _) | (with_reducible refine Kd.C_drew ?_))); (case side3 => repeat (first | exact (Kd.C_below HRG3.out HB.out) | (with_reducible refine Kd.C_alloc ?_ _) | (with_reducible refine Kd.C_drewN ?_ _) | (with_reducible refine Kd.C_drew ?_))); rintro e w7 ⟨hbad, hb⟩; refine ⟨_, hbad, ?_⟩; replace HB := sh_b (w := w) hb))
  first | exact ⟨rfl, .inl ⟨by first | rfl | trivial, rfl⟩, b_now⟩ | exact ⟨rfl, rfl, b_now⟩
 ·rw [if_neg c4] at H
  have hk_ne : t216 ≠ -1 := c4
  obtain ⟨c4b0, c4b1⟩ := eqF c4
  have HC15 := Aside0.mk H
  clear H
  go_enter Tryd.func39, Tryd.ntmps39
  go_upto_if 22 with (first | ((with_reducible refine gate_dst (N := 2) rfl ?_); refine sh_box 2 #[.int .i64 0, .int .i64 0, .int .i64 0, .bool false, .bool false] 49 ?_; intro gb211 hg w16 hbox hb; have GE211 := sh_z (w := w) hg; replace HB := sh_b (w := w) hb; have BK211 := Aside0.mk (hbox); clear hb hbox hg) | ((with_reducible refine gate_dst (N := 3) rfl ?_); refine sh_box 3 #[.int .u8 0, .int .u8 0, .int .u8 0, .int .i16 0, .int .i32 0] 37 ?_; intro gb212 hg w17 hbox hb; have GE212 := sh_z (w := w) hg; have NB211_212 := sh_n BK211 hg; have NB212_211 := sh_s NB211_212; replace BK211 := sh_k BK211 hb; replace HB := sh_b (w := w) hb; have BK212 := Aside0.mk (hbox); clear hb hbox hg) | ((with_reducible refine gate_callee (f := 22) rfl ?_); refine sh_call (some 16) Tryd.func22 #[.string a0, .string (⟨#[32]⟩ : ByteArray)] ?_; (with_reducible refine (strings_Cut.calls a0 (⟨#[32]⟩ : ByteArray) t213 t214 t215 _ ?side1 A2.out).mono ?_); (case side1 => repeat (first | exact (Kd.C_below HRG3.out HB.out) | (with_reducible refine Kd.C_alloc ?_ _) | (with_reducible refine Kd.C_drewN ?_ _) | (with_reducible refine Kd.C_drew ?_))); rintro e w' ⟨rfl, ⟨nd, rfl⟩⟩; refine ⟨_, rfl, ?_⟩; (try (rw [drewN_self w17]; generalize hq_ : World.drewN w17 _ = w17; have n0_ : Aside0 (w17.heap[gb211]? = some (.cells #[.int .i64 0, .int .i64 0, .int .i64 0, .bool false, .bool false] 49 (0, 0))) := ⟨by rw [← hq_]; exact bk_now⟩; have n1_ : Aside0 (w17.heap[gb212]? = some (.cells #[.int .u8 0, .int .u8 0, .int .u8 0, .int .i16 0, .int .i32 0] 37 (0, 0))) := ⟨by rw [← hq_]; exact bk_now⟩; have n2_ : Aside0 (Below w.heap.size w w17) := ⟨by rw [← hq_]; exact b_now⟩; clear BK211 BK212 HB hq_; have BK211 := n0_; have BK212 := n1_; have HB := n2_; clear n0_ n1_ n2_))) | ((with_reducible refine gate_callee (f := 50) rfl ?_); refine sh_call (some 21) Tryd.func50 #[.string t213] ?_; (with_reducible refine (asm_verb.calls k t213 t216 t217 t218 t219 t220 _ ?side1 ?side2 ?side3 A3.out).mono ?_); (case side1 => repeat (first | exact (Kd.C_below HRG0.out HB.out) | (with_reducible refine Kd.C_alloc ?_ _) | (with_reducible refine Kd.C_drewN ?_ _) | (with_reducible refine Kd.C_drew ?_))); (case side2 => repeat (first | exact (Kd.C_below HRG1.out HB.out) | (with_reducible refine Kd.C_alloc ?_ _) | (with_reducible refine Kd.C_drewN ?_ _) | (with_reducible refine Kd.C_drew ?_))); (case side3 => repeat (first | exact (Kd.C_below HRG3.out HB.out) | (with_reducible refine Kd.C_alloc ?_ _) | (with_reducible refine Kd.C_drewN ?_ _) | (with_reducible refine Kd.C_drew ?_))); rintro e w18 ⟨rfl, hb⟩; refine ⟨_, rfl, ?_⟩; replace BK211 := sh_k BK211 hb; replace BK212 := sh_k BK212 hb; replace HB := sh_b (w := w) hb; (try clear hb); (try clear hb2); (try clear hk); (try clear hi)) | ((with_reducible refine gate_dst (N := 8) rfl ?_); refine sh_box 8 #[.int .i64 0, .int .i64 0, .int .i64 0, .bool false, .bool false] 49 ?_; intro gb221 hg w19 hbox hb; have GE221 := sh_z (w := w) hg; have NB211_221 := sh_n BK211 hg; have NB212_221 := sh_n BK212 hg; have NB221_211 := sh_s NB211_221; have NB221_212 := sh_s NB212_221; replace BK211 := sh_k BK211 hb; replace BK212 := sh_k BK212 hb; replace HB := sh_b (w := w) hb; have BK221 := Aside0.mk (hbox); clear hb hbox hg; obtain ⟨hnb20, hnc20⟩ := nb_ NB221_211; obtain ⟨hnb21, hnc21⟩ := nb_ NB221_212; have hcz22 := blk_all5 BK221.out))
  (try simp only [Act.put, List.setIfInBounds_toArray, List.set_cons_zero, List.set_cons_succ])
  go_cut [9] (fun v9 wc => ∃ (kq : Nat) (x9_14 : List ByteArray), Aside0 (asm_read.j0 kq x9_14 t216 t217 t218 t219 t220 = some (r1, r2, r3, r4, r5, r6, r7, r8, r9, r10, r11)) ∧ Aside0 (kq ≤ k) ∧ Aside0 (Kd.R Kd.string 9 wc w.heap.size (fun _ => True) v9 x9_14) ∧ Aside0 (wc.heap[gb211]? = some (.cells #[.int .i64 0, .int .i64 0, .int .i64 0, .bool false, .bool false] 49 (0, 0))) ∧ Aside0 (wc.heap[gb212]? = some (.cells #[.int .u8 0, .int .u8 0, .int .u8 0, .int .i16 0, .int .i32 0] 37 (0, 0))) ∧ Aside0 (wc.heap[gb221]? = some (.cells #[.int .i64 t216, .int .i64 t217, .int .i64 t218, .bool t219, .bool t220] 49 (0, 0))) ∧ Aside0 (Below w.heap.size w wc))
  case first => as_aux_lemma =>
   have H := HC15.out
   clear HC15
   by_cases c23 : t215 = true
   ·subst c23
    replace H := sh_t H
    obtain ⟨t222, A24, H⟩ := bs_ H; try dsimp only at H
    have H' := Aside0.mk H
    clear H
    go_wp2_with (first | ((with_reducible refine gate_callee (f := 51) rfl ?_); refine sh_call (some 24) Tryd.func51 #[.string t214, .string (⟨#[44, 32]⟩ : ByteArray)] ?_; (with_reducible refine (strings_Split.calls t214 (⟨#[44, 32]⟩ : ByteArray) t222 _ ?side1 A24.out).mono ?_); (case side1 => exact Kd.C_below HRG3.out b_now); rintro e w25 ⟨v223, rfl, ho0, hb⟩; refine ⟨_, rfl, ?_⟩; have HO224 := Aside0.mk (Kd.R_lower ho0 (below_size b_now)); replace BK211 := sh_kp (g := gb211) (t := 49) #[.int .i64 0, .int .i64 0, .int .i64 0, .bool false, .bool false] hb; replace BK212 := sh_kp (g := gb212) (t := 37) #[.int .u8 0, .int .u8 0, .int .u8 0, .int .i16 0, .int .i32 0] hb; replace BK221 := sh_kp (g := gb221) (t := 49) #[.int .i64 t216, .int .i64 t217, .int .i64 t218, .bool t219, .bool t220] hb; replace HB := sh_b (w := w) hb; (try clear hb); (try clear hb2); (try clear hk); (try clear hi); (try clear ho0)))
    go_meet
    case rel => exact ⟨_, (t222), H', ⟨by first | omega | exact Nat.le_refl _⟩, ⟨by (with_reducible repeat (first | apply Kd.R_alloc | apply Kd.R_drewN | apply Kd.R_drew)); exact HO224.out⟩, ⟨bk_now⟩, ⟨bk_now⟩, ⟨bk_now⟩, ⟨b_now⟩⟩
   ·replace c23 := Bool.eq_false_iff.mpr c23
    subst c23
    replace H := sh_f H
    have H' := Aside0.mk H
    clear H
    go_wp2
    go_meet
    case rel => exact ⟨_, (([] : List ByteArray)), H', ⟨by first | omega | exact Nat.le_refl _⟩, ⟨by first | exact Kd.R_nil _ _ _ _ _ | exact Kd.N_nil _ _ _ _ _ | exact Kd.V_nil _ _ _ _ _ | exact Kd.Q_nil _ _ _ _ _ | exact Kd.S_nil _ _ _ _ _⟩, ⟨bk_now⟩, ⟨bk_now⟩, ⟨bk_now⟩, ⟨b_now⟩⟩
  case rest =>
   clear HC15
   clear c4 c4b0 c4b1 hcz22
   obtain ⟨kq, x9_14, HA, HJ14, HO_9, BK211, BK212, BK221, HB⟩ := hcut
   cases kq with
   | zero => exact absurd HA.out (by simp [asm_read.j0])
   | succ kj14 =>
    have H := HA.out
    clear HA
    simp only [asm_read.j0] at H
    obtain ⟨t225, A26, H⟩ := bs_ H; try dsimp only at H
    by_cases c27 : (x9_14.length : Int) = t225
    ·rw [if_pos c27] at H
     obtain ⟨c27b0, c27b1⟩ := eqT c27
     clear c27
     have HC28 := Aside0.mk H
     clear H
     obtain ⟨Ao29, co29, eo29⟩ := Kd.R_slice HO_9.out
     subst eo29
     obtain ⟨hnb30, hnc30⟩ := nb_ NB221_211
     obtain ⟨hnb31, hnc31⟩ := nb_ NB221_212
     have hcz32 := blk_all5 BK221.out
     go_upto_block 0 with (first | ((with_reducible refine gate_callee (f := 52) rfl ?_); refine sh_call (some 28) Tryd.func52 #[.agg #[.int .i64 t216, .int .i64 t217, .int .i64 t218, .bool t219, .bool t220]] ?_; (with_reducible refine (asm_operands.calls kj14 t216 t217 t218 t219 t220 t225 _ A26.out).mono ?_); rintro e w33 ⟨rfl, hb⟩; refine ⟨_, rfl, ?_⟩; replace HO_9 := Aside0.mk (Kd.R_below (by (with_reducible repeat (first | apply Kd.R_alloc | apply Kd.R_drewN | apply Kd.R_drew)); exact HO_9.out) hb); replace BK211 := sh_k BK211 hb; replace BK212 := sh_k BK212 hb; replace BK221 := sh_k BK221 hb; replace HB := sh_b (w := w) hb; (try clear hb); (try clear hb2); (try clear hk); (try clear hi)) | ((with_reducible refine gate_dst (N := 10) rfl ?_); refine sh_box 10 #[.int .u8 0, .int .u8 0, .int .u8 0, .int .i16 0, .int .i32 0] 37 ?_; intro gb226 hg w34 hbox hb; have GE226 := sh_z (w := w) hg; have NB211_226 := sh_n BK211 hg; have NB212_226 := sh_n BK212 hg; have NB221_226 := sh_n BK221 hg; have NB226_211 := sh_s NB211_226; have NB226_212 := sh_s NB212_226; have NB226_221 := sh_s NB221_226; replace HO_9 := Aside0.mk (Kd.R_below (by (with_reducible repeat (first | apply Kd.R_alloc | apply Kd.R_drewN | apply Kd.R_drew)); exact HO_9.out) hb); replace BK211 := sh_k BK211 hb; replace BK212 := sh_k BK212 hb; replace BK221 := sh_k BK221 hb; replace HB := sh_b (w := w) hb; have BK226 := Aside0.mk (hbox); clear hb hbox hg; obtain ⟨hnb35, hnc35⟩ := nb_ NB226_211; obtain ⟨hnb36, hnc36⟩ := nb_ NB226_212; obtain ⟨hnb37, hnc37⟩ := nb_ NB226_221; have hcz38 := blk_all5 BK226.out; have hcz39 := blk_all5 BK221.out))
     (try simp only [Act.put, List.setIfInBounds_toArray, List.set_cons_zero, List.set_cons_succ])
     go_cut [11] (fun v11 wc => ∃ (kq : Nat) (x11_27 : Int) (x212000_27 : Int) (x212001_27 : Int) (x212002_27 : Int) (x212003_27 : Bool) (x212004_27 : Bool) (x213000_27 : Int) (x213001_27 : Int) (x213002_27 : Int) (x213003_27 : Int) (x213004_27 : Int) (x222004_27 : Bool) (x227001_27 : Int) (x227002_27 : Int) (x227003_27 : Int) (x227004_27 : Int), v11 = .int .i32 x11_27 ∧ Aside0 (asm_read.j3 kq x11_27 t216 t217 t218 t219 x222004_27 0 x227001_27 x227002_27 x227003_27 x227004_27 = some (r1, r2, r3, r4, r5, r6, r7, r8, r9, r10, r11)) ∧ Aside0 (kq ≤ kj14) ∧ Aside0 (wc.heap[gb211]? = some (.cells #[.int .i64 x212000_27, .int .i64 x212001_27, .int .i64 x212002_27, .bool x212003_27, .bool x212004_27] 49 (0, 0))) ∧ Aside0 (wc.heap[gb212]? = some (.cells #[.int .u8 x213000_27, .int .u8 x213001_27, .int .u8 x213002_27, .int .i16 x213003_27, .int .i32 x213004_27] 37 (0, 0))) ∧ Aside0 (wc.heap[gb221]? = some (.cells #[.int .i64 t216, .int .i64 t217, .int .i64 t218, .bool t219, .bool x222004_27] 49 (0, 0))) ∧ Aside0 (wc.heap[gb226]? = some (.cells #[.int .u8 0, .int .u8 x227001_27, .int .u8 x227002_27, .int .i16 x227003_27, .int .i32 x227004_27] 37 (0, 0))) ∧ Aside0 (Below w.heap.size w wc))
     case first => as_aux_lemma =>
      have H := HC28.out
      clear HC28
      have HC40 := Aside0.mk H
      clear H
      go_upto_if 35 with (fail)
      go_cut [35] (fun v35 wc => ∃ (kq : Nat) (x35_39 : Bool), v35 = .bool x35_39 ∧ Aside0 (asm_read.j1 kq x9_14 0 t216 x35_39 t216 t217 t218 t219 t220 0 0 0 0 0 = some (r1, r2, r3, r4, r5, r6, r7, r8, r9, r10, r11)) ∧ Aside0 (kq ≤ kj14) ∧ Aside0 (Kd.R Kd.string 9 wc w.heap.size (fun _ => True) (.slice Ao29 x9_14.length co29) x9_14) ∧ Aside0 (wc.heap[gb211]? = some (.cells #[.int .i64 0, .int .i64 0, .int .i64 0, .bool false, .bool false] 49 (0, 0))) ∧ Aside0 (wc.heap[gb212]? = some (.cells #[.int .u8 0, .int .u8 0, .int .u8 0, .int .i16 0, .int .i32 0] 37 (0, 0))) ∧ Aside0 (wc.heap[gb221]? = some (.cells #[.int .i64 t216, .int .i64 t217, .int .i64 t218, .bool t219, .bool t220] 49 (0, 0))) ∧ Aside0 (wc.heap[gb226]? = some (.cells #[.int .u8 0, .int .u8 0, .int .u8 0, .int .i16 0, .int .i32 0] 37 (0, 0))) ∧ Aside0 (Below w.heap.size w wc))
      case first => as_aux_lemma =>
       have H := HC40.out
       clear HC40
       by_cases c41 : t216 = 1
       ·rw [if_pos c41] at H
        obtain ⟨c41b0, c41b1⟩ := eqT c41
        clear c41
        (first | rw [c41b0] | (simp only [i64_w, i32_w]; rw [c41b0]) | skip)
        have H' := Aside0.mk H
        clear H
        go_wp2
        go_meet
        case rel => exact ⟨_, ((t216 == 1)), eq_now, H', ⟨by have := HJ14.out; first | omega | exact Nat.le_refl _⟩, ⟨by (with_reducible repeat (first | apply Kd.R_alloc | apply Kd.R_drewN | apply Kd.R_drew)); exact Kd.R_mono (Kd.R_far (p := ⟨gb226, 4, none⟩) (Kd.R_far (p := ⟨gb226, 3, none⟩) (Kd.R_far (p := ⟨gb226, 2, none⟩) (Kd.R_far (p := ⟨gb226, 1, none⟩) (Kd.R_far (p := ⟨gb226, 0, none⟩) (Kd.R_types HO_9.out BK226.out (by decide)) (fun _ hk => hk.2) (.int .u8 0)) (fun _ hk => hk.2) (.int .u8 0)) (fun _ hk => hk.2) (.int .u8 0)) (fun _ hk => hk.2) (.int .i16 0)) (fun _ hk => hk.2) (.int .i32 0)) (fun _ hk => trivial)⟩, ⟨bk_now⟩, ⟨bk_now⟩, ⟨bk_now⟩, ⟨bk_now⟩, ⟨b_now⟩⟩
       ·rw [if_neg c41] at H
        obtain ⟨c41b0, c41b1⟩ := eqF c41
        (first | rw [c41b0] | (simp only [i64_w, i32_w]; rw [c41b0]) | skip)
        have H' := Aside0.mk H
        clear H
        go_wp2
        go_meet
        case rel => exact ⟨_, ((t216 == 6)), eq_now, H', ⟨by have := HJ14.out; first | omega | exact Nat.le_refl _⟩, ⟨by (with_reducible repeat (first | apply Kd.R_alloc | apply Kd.R_drewN | apply Kd.R_drew)); exact Kd.R_mono (Kd.R_far (p := ⟨gb226, 4, none⟩) (Kd.R_far (p := ⟨gb226, 3, none⟩) (Kd.R_far (p := ⟨gb226, 2, none⟩) (Kd.R_far (p := ⟨gb226, 1, none⟩) (Kd.R_far (p := ⟨gb226, 0, none⟩) (Kd.R_types HO_9.out BK226.out (by decide)) (fun _ hk => hk.2) (.int .u8 0)) (fun _ hk => hk.2) (.int .u8 0)) (fun _ hk => hk.2) (.int .u8 0)) (fun _ hk => hk.2) (.int .i16 0)) (fun _ hk => hk.2) (.int .i32 0)) (fun _ hk => trivial)⟩, ⟨bk_now⟩, ⟨bk_now⟩, ⟨bk_now⟩, ⟨bk_now⟩, ⟨b_now⟩⟩
      case rest => as_aux_lemma =>
       clear HC40
       clear c27b0 c27b1 hcz32 hcz38 hcz39
       obtain ⟨kq, x35_39, rfl, HA, HJ39, HO_9, BK211, BK212, BK221, BK226, HB⟩ := hcut
       cases kq with
       | zero => exact absurd HA.out (by simp [asm_read.j1])
       | succ kj39 =>
        have H := HA.out
        clear HA
        simp only [asm_read.j1] at H
        by_cases c42 : x35_39 = true
        ·subst c42
         replace H := sh_t H
         by_cases c43 : 0 < (x9_14.length : Int)
         ·rw [if_pos c43] at H
          have c43b0 : decide (0 < (x9_14.length : Int)) = true := decide_eq_true c43
          have c43b1 : decide (0 < x9_14.length) = true := decide_eq_true (by omega)
          clear c43
          obtain ⟨t228, A44, H⟩ := bs_ H; try dsimp only at H
          by_cases c45 : t228 = 256
          ·rw [if_pos c45] at H
           obtain ⟨c45b0, c45b1⟩ := eqT c45
           clear c45
           simp only [Option.some.injEq, Prod.mk.injEq] at H
           obtain ⟨rfl, rfl, rfl, rfl, rfl, rfl, rfl, rfl, rfl, rfl, rfl⟩ := H
           have p227 : 0 ≤ (0 : Int) := (by omega)
           have q227 : 0 < (x9_14.length : Int) := od_
           obtain ⟨ad227, e227, hx227_0⟩ := Kd.at_string (Kd.R_reads' HO_9.out).2.2 0 p227 q227
           cases e227
           have qi227 : (0 < x9_14.length) = True := eq_true (by omega)
           (try rw [show ((0 : Int)).toNat = 0 from rfl] at hx227_0)
           (try rw [Addr.add_zero'] at hx227_0)
           replace p227 := eq_true p227
           replace q227 := eq_true q227
           go_wp2_with (first | ((with_reducible refine gate_callee (f := 53) rfl ?_); refine sh_callX Tryd.func53 #[.string (rdOf ByteArray.empty x9_14 0)] ?_; (with_reducible refine (asm_register.bad (rdOf ByteArray.empty x9_14 0) t228 _ ?side1 A44.out (beq_iff_eq.mp c45b0)).mono ?_); (case side1 => repeat (first | exact (Kd.C_below HRG3.out HB.out) | (with_reducible refine Kd.C_alloc ?_ _) | (with_reducible refine Kd.C_drewN ?_ _) | (with_reducible refine Kd.C_drew ?_))); rintro e w46 ⟨hbad, hb⟩; refine ⟨_, hbad, ?_⟩; replace HB := sh_b (w := w) hb))
           first | exact ⟨rfl, .inl ⟨by first | rfl | trivial, rfl⟩, b_now⟩ | exact ⟨rfl, rfl, b_now⟩
          ·rw [if_neg c45] at H
           obtain ⟨c45b0, c45b1⟩ := eqF c45
           have HC54 := Aside0.mk H
           clear H
           have p227 : 0 ≤ (0 : Int) := (by omega)
           have q227 : 0 < (x9_14.length : Int) := od_
           obtain ⟨ad227, e227, hx227_0⟩ := Kd.at_string (Kd.R_reads' HO_9.out).2.2 0 p227 q227
           cases e227
           have qi227 : (0 < x9_14.length) = True := eq_true (by omega)
           (try rw [show ((0 : Int)).toNat = 0 from rfl] at hx227_0)
           (try rw [Addr.add_zero'] at hx227_0)
           replace p227 := eq_true p227
           replace q227 := eq_true q227
           go_upto_if 45 with (first | ((with_reducible refine gate_callee (f := 53) rfl ?_); refine sh_call (some 41) Tryd.func53 #[.string (rdOf ByteArray.empty x9_14 0)] ?_; (with_reducible refine (asm_register.calls (rdOf ByteArray.empty x9_14 0) t228 _ ?side1 A44.out).mono ?_); (case side1 => repeat (first | exact (Kd.C_below HRG3.out HB.out) | (with_reducible refine Kd.C_alloc ?_ _) | (with_reducible refine Kd.C_drewN ?_ _) | (with_reducible refine Kd.C_drew ?_))); rintro e w55 ⟨rfl, hb⟩; refine ⟨_, rfl, ?_⟩; replace HO_9 := Aside0.mk (Kd.R_below (by (with_reducible repeat (first | apply Kd.R_alloc | apply Kd.R_drewN | apply Kd.R_drew)); exact HO_9.out) hb); replace BK211 := sh_k BK211 hb; replace BK212 := sh_k BK212 hb; replace BK221 := sh_k BK221 hb; replace BK226 := sh_k BK226 hb; replace HB := sh_b (w := w) hb; (try clear hb); (try clear hb2); (try clear hk); (try clear hi); obtain ⟨hnb56, hnc56⟩ := nb_ NB226_211; obtain ⟨hnb57, hnc57⟩ := nb_ NB226_212; obtain ⟨hnb58, hnc58⟩ := nb_ NB226_221; have hcz59 := blk_all5 BK226.out))
           (try simp only [Act.put, List.setIfInBounds_toArray, List.set_cons_zero, List.set_cons_succ])
           go_cut [] (fun wc => ∃ (kq : Nat) (x212000_53 : Int) (x212001_53 : Int) (x212002_53 : Int) (x212003_53 : Bool) (x212004_53 : Bool) (x213000_53 : Int) (x213001_53 : Int) (x213002_53 : Int) (x213003_53 : Int) (x213004_53 : Int) (x222004_53 : Bool) (x227002_53 : Int) (x227004_53 : Int), Aside0 (asm_read.j2 kq x9_14 0 t216 t217 t218 t219 x222004_53 0 t228 x227002_53 0 x227004_53 = some (r1, r2, r3, r4, r5, r6, r7, r8, r9, r10, r11)) ∧ Aside0 (kq ≤ kj39) ∧ Aside0 (Kd.R Kd.string 9 wc w.heap.size (fun _ => True) (.slice (some ad227) x9_14.length co29) x9_14) ∧ Aside0 (wc.heap[gb211]? = some (.cells #[.int .i64 x212000_53, .int .i64 x212001_53, .int .i64 x212002_53, .bool x212003_53, .bool x212004_53] 49 (0, 0))) ∧ Aside0 (wc.heap[gb212]? = some (.cells #[.int .u8 x213000_53, .int .u8 x213001_53, .int .u8 x213002_53, .int .i16 x213003_53, .int .i32 x213004_53] 37 (0, 0))) ∧ Aside0 (wc.heap[gb221]? = some (.cells #[.int .i64 t216, .int .i64 t217, .int .i64 t218, .bool t219, .bool x222004_53] 49 (0, 0))) ∧ Aside0 (wc.heap[gb226]? = some (.cells #[.int .u8 0, .int .u8 t228, .int .u8 x227002_53, .int .i16 0, .int .i32 x227004_53] 37 (0, 0))) ∧ Aside0 (Below w.heap.size w wc))
           case first => as_aux_lemma =>
            have H := HC54.out
            clear HC54
            by_cases c60 : (x9_14.length : Int) > 1
            ·rw [if_pos c60] at H
             have c60b0 : decide (1 < (x9_14.length : Int)) = true := decide_eq_true c60
             have c60b1 : decide (1 < x9_14.length) = true := decide_eq_true (by omega)
             clear c60
             (first | rw [c60b0] | (simp only [i64_w, i32_w]; rw [c60b0]) | skip)
             by_cases c61 : 1 < (x9_14.length : Int)
             ·rw [if_pos c61] at H
              have c61b0 : decide (1 < (x9_14.length : Int)) = true := decide_eq_true c61
              have c61b1 : decide (1 < x9_14.length) = true := decide_eq_true (by omega)
              clear c61
              obtain ⟨t230, A62, H⟩ := bs_ H; try dsimp only at H
              by_cases c63 : t230 = true
              ·subst c63
               replace H := sh_t H
               obtain ⟨t232, A64, H⟩ := bs_ H; try dsimp only at H
               by_cases c65 : t232 = 256
               ·rw [if_pos c65] at H
                obtain ⟨c65b0, c65b1⟩ := eqT c65
                clear c65
                simp only [Option.some.injEq, Prod.mk.injEq] at H
                obtain ⟨rfl, rfl, rfl, rfl, rfl, rfl, rfl, rfl, rfl, rfl, rfl⟩ := H
                have p229 : 0 ≤ (1 : Int) := (by omega)
                have q229 : 1 < (x9_14.length : Int) := od_
                obtain ⟨ad229, e229, hx229_0⟩ := Kd.at_string (Kd.R_reads' HO_9.out).2.2 1 p229 q229
                obtain rfl : ad227 = ad229 := (by injection e229)
                (try simp only [show (1 : Int).toNat = 1 from rfl, Nat.reduceMul, Nat.reduceEqDiff, Go.Addr.add, ↓reduceIte] at hx229_0)
                have qi229 : (1 < x9_14.length) = True := eq_true (by omega)
                (try rw [show ((1 : Int)).toNat = 1 from rfl] at hx229_0)
                replace hx229_0 := (cell_far (p := ⟨gb226, 1, none⟩) (ob_ (Kd.own_blk (Kd.R_ne HO_9.out BK226.out (by decide)))) (.int .u8 t228)).trans hx229_0
                replace p229 := eq_true p229
                replace q229 := eq_true q229
                go_wp2_with (first | ((with_reducible refine gate_callee (f := 54) rfl ?_); refine sh_call (some 49) Tryd.func54 #[.string (rdOf ByteArray.empty x9_14 1), .string (⟨#[114]⟩ : ByteArray)] ?_; (with_reducible refine (strings_HasPrefix.calls (rdOf ByteArray.empty x9_14 1) (⟨#[114]⟩ : ByteArray) true _ A62.out).mono ?_); rintro e w' ⟨rfl, ⟨nd, rfl⟩⟩; refine ⟨_, rfl, ?_⟩; obtain ⟨hnb66, hnc66⟩ := nb_ NB221_211; obtain ⟨hnb67, hnc67⟩ := nb_ NB221_212; obtain ⟨hnb68, hnc68⟩ := nb_ NB221_226; have hcz69 := blk_all5 BK221.out; have p231 : 0 ≤ (1 : Int) := (by omega); have q231 : 1 < (x9_14.length : Int) := od_; obtain ⟨ad231, e231, hx231_0⟩ := Kd.at_string (Kd.R_reads' HO_9.out).2.2 1 p231 q231; obtain rfl : ad227 = ad231 := (by injection e231); (try simp only [show (1 : Int).toNat = 1 from rfl, Nat.reduceMul, Nat.reduceEqDiff, Go.Addr.add, ↓reduceIte] at hx231_0); have qi231 : (1 < x9_14.length) = True := eq_true (by omega); (try rw [show ((1 : Int)).toNat = 1 from rfl] at hx231_0); have hn231_0 : ad227.block ≠ gb226 := Kd.own_blk (Kd.R_ne HO_9.out BK226.out (by decide)); have hn231_1 : ad227.block ≠ gb221 := Kd.own_blk (Kd.R_ne HO_9.out BK221.out (by decide)); replace hx231_0 := (cell_far (p := ⟨gb226, 1, none⟩) (ob_ hn231_0) (.int .u8 t228)).trans hx231_0; replace hx231_0 := (World.cell?_drewN _ nd _).trans hx231_0; replace hx231_0 := (cell_far (p := ⟨gb221, 4, none⟩) (ob_ hn231_1) (.bool true)).trans hx231_0; clear hn231_0; clear hn231_1; replace p231 := eq_true p231; replace q231 := eq_true q231) | ((with_reducible refine gate_callee (f := 53) rfl ?_); refine sh_callX Tryd.func53 #[.string (rdOf ByteArray.empty x9_14 1)] ?_; (with_reducible refine (asm_register.bad (rdOf ByteArray.empty x9_14 1) t232 _ ?side1 A64.out (beq_iff_eq.mp c65b0)).mono ?_); (case side1 => exact Kd.C_below HRG3.out b_now); rintro e w70 ⟨hbad, hb⟩; refine ⟨_, hbad, ?_⟩; replace HB := sh_b (w := w) hb))
                first | exact ⟨rfl, .inl ⟨by first | rfl | trivial, rfl⟩, b_now⟩ | exact ⟨rfl, rfl, b_now⟩
               ·rw [if_neg c65] at H
                obtain ⟨c65b0, c65b1⟩ := eqF c65
                have H' := Aside0.mk H
                clear H
                have p229 : 0 ≤ (1 : Int) := (by omega)
                have q229 : 1 < (x9_14.length : Int) := od_
                obtain ⟨ad229, e229, hx229_0⟩ := Kd.at_string (Kd.R_reads' HO_9.out).2.2 1 p229 q229
                obtain rfl : ad227 = ad229 := (by injection e229)
                (try simp only [show (1 : Int).toNat = 1 from rfl, Nat.reduceMul, Nat.reduceEqDiff, Go.Addr.add, ↓reduceIte] at hx229_0)
                have qi229 : (1 < x9_14.length) = True := eq_true (by omega)
                (try rw [show ((1 : Int)).toNat = 1 from rfl] at hx229_0)
                replace hx229_0 := (cell_far (p := ⟨gb226, 1, none⟩) (ob_ (Kd.own_blk (Kd.R_ne HO_9.out BK226.out (by decide)))) (.int .u8 t228)).trans hx229_0
                replace p229 := eq_true p229
                replace q229 := eq_true q229
                go_wp2_with (first | ((with_reducible refine gate_callee (f := 54) rfl ?_); refine sh_call (some 49) Tryd.func54 #[.string (rdOf ByteArray.empty x9_14 1), .string (⟨#[114]⟩ : ByteArray)] ?_; (with_reducible refine (strings_HasPrefix.calls (rdOf ByteArray.empty x9_14 1) (⟨#[114]⟩ : ByteArray) true _ A62.out).mono ?_); rintro e w' ⟨rfl, ⟨nd, rfl⟩⟩; refine ⟨_, rfl, ?_⟩; obtain ⟨hnb76, hnc76⟩ := nb_ NB221_211; obtain ⟨hnb77, hnc77⟩ := nb_ NB221_212; obtain ⟨hnb78, hnc78⟩ := nb_ NB221_226; have hcz79 := blk_all5 BK221.out; have p231 : 0 ≤ (1 : Int) := (by omega); have q231 : 1 < (x9_14.length : Int) := od_; obtain ⟨ad231, e231, hx231_0⟩ := Kd.at_string (Kd.R_reads' HO_9.out).2.2 1 p231 q231; obtain rfl : ad227 = ad231 := (by injection e231); (try simp only [show (1 : Int).toNat = 1 from rfl, Nat.reduceMul, Nat.reduceEqDiff, Go.Addr.add, ↓reduceIte] at hx231_0); have qi231 : (1 < x9_14.length) = True := eq_true (by omega); (try rw [show ((1 : Int)).toNat = 1 from rfl] at hx231_0); have hn231_0 : ad227.block ≠ gb226 := Kd.own_blk (Kd.R_ne HO_9.out BK226.out (by decide)); have hn231_1 : ad227.block ≠ gb221 := Kd.own_blk (Kd.R_ne HO_9.out BK221.out (by decide)); replace hx231_0 := (cell_far (p := ⟨gb226, 1, none⟩) (ob_ hn231_0) (.int .u8 t228)).trans hx231_0; replace hx231_0 := (World.cell?_drewN _ nd _).trans hx231_0; replace hx231_0 := (cell_far (p := ⟨gb221, 4, none⟩) (ob_ hn231_1) (.bool true)).trans hx231_0; clear hn231_0; clear hn231_1; replace p231 := eq_true p231; replace q231 := eq_true q231) | ((with_reducible refine gate_callee (f := 53) rfl ?_); refine sh_call (some 56) Tryd.func53 #[.string (rdOf ByteArray.empty x9_14 1)] ?_; (with_reducible refine (asm_register.calls (rdOf ByteArray.empty x9_14 1) t232 _ ?side1 A64.out).mono ?_); (case side1 => exact Kd.C_below HRG3.out b_now); rintro e w80 ⟨rfl, hb⟩; refine ⟨_, rfl, ?_⟩; replace HO_9 := Aside0.mk (Kd.R_below (by (with_reducible repeat (first | apply Kd.R_alloc | apply Kd.R_drewN | apply Kd.R_drew)); exact (Kd.R_mono (Kd.R_mono (Kd.R_far (p := ⟨gb221, 4, none⟩) (Kd.R_far (p := ⟨gb226, 1, none⟩) (Kd.R_types (Kd.R_types HO_9.out BK226.out (by decide)) BK221.out (by decide)) (fun _ hk => hk.1.2) (.int .u8 t228)) (fun _ hk => hk.2) (.bool true)) (fun _ h_ => h_.1)) (fun _ h_ => h_.1))) hb); replace BK211 := sh_kp (g := gb211) (t := 49) #[.int .i64 0, .int .i64 0, .int .i64 0, .bool false, .bool false] hb; replace BK212 := sh_kp (g := gb212) (t := 37) #[.int .u8 0, .int .u8 0, .int .u8 0, .int .i16 0, .int .i32 0] hb; replace BK221 := sh_kp (g := gb221) (t := 49) #[.int .i64 t216, .int .i64 t217, .int .i64 t218, .bool t219, .bool true] hb; replace BK226 := sh_kp (g := gb226) (t := 37) #[.int .u8 0, .int .u8 t228, .int .u8 0, .int .i16 0, .int .i32 0] hb; replace HB := sh_b (w := w) hb; (try clear hb); (try clear hb2); (try clear hk); (try clear hi); obtain ⟨hnb81, hnc81⟩ := nb_ NB226_211; obtain ⟨hnb82, hnc82⟩ := nb_ NB226_212; have hcz83 := blk_all5 BK226.out))
                go_meet
                case rel => exact ⟨_, (0), (0), (0), (false), (false), (0), (0), (0), (0), (0), (true), (t232), (0), H', ⟨by have := HJ14.out; have := HJ39.out; first | omega | exact Nat.le_refl _⟩, ⟨by (with_reducible repeat (first | apply Kd.R_alloc | apply Kd.R_drewN | apply Kd.R_drew)); exact Kd.R_mono (Kd.R_far (p := ⟨gb226, 2, none⟩) (Kd.R_types HO_9.out BK226.out (by decide)) (fun _ hk => hk.2) (.int .u8 t232)) (fun _ hk => trivial)⟩, ⟨bk_now⟩, ⟨bk_now⟩, ⟨bk_now⟩, ⟨bk_now⟩, ⟨b_now⟩⟩
              ·replace c63 := Bool.eq_false_iff.mpr c63
               subst c63
               replace H := sh_f H
               obtain ⟨t234, A84, H⟩ := bs_ H; try dsimp only at H
               by_cases c85 : t234 = 4611686018427387904
               ·rw [if_pos c85] at H
                obtain ⟨c85b0, c85b1⟩ := eqT c85
                clear c85
                simp only [Option.some.injEq, Prod.mk.injEq] at H
                obtain ⟨rfl, rfl, rfl, rfl, rfl, rfl, rfl, rfl, rfl, rfl, rfl⟩ := H
                have p229 : 0 ≤ (1 : Int) := (by omega)
                have q229 : 1 < (x9_14.length : Int) := od_
                obtain ⟨ad229, e229, hx229_0⟩ := Kd.at_string (Kd.R_reads' HO_9.out).2.2 1 p229 q229
                obtain rfl : ad227 = ad229 := (by injection e229)
                (try simp only [show (1 : Int).toNat = 1 from rfl, Nat.reduceMul, Nat.reduceEqDiff, Go.Addr.add, ↓reduceIte] at hx229_0)
                have qi229 : (1 < x9_14.length) = True := eq_true (by omega)
                (try rw [show ((1 : Int)).toNat = 1 from rfl] at hx229_0)
                replace hx229_0 := (cell_far (p := ⟨gb226, 1, none⟩) (ob_ (Kd.own_blk (Kd.R_ne HO_9.out BK226.out (by decide)))) (.int .u8 t228)).trans hx229_0
                replace p229 := eq_true p229
                replace q229 := eq_true q229
                go_wp2_with (first | ((with_reducible refine gate_callee (f := 54) rfl ?_); refine sh_call (some 49) Tryd.func54 #[.string (rdOf ByteArray.empty x9_14 1), .string (⟨#[114]⟩ : ByteArray)] ?_; (with_reducible refine (strings_HasPrefix.calls (rdOf ByteArray.empty x9_14 1) (⟨#[114]⟩ : ByteArray) false _ A62.out).mono ?_); rintro e w' ⟨rfl, ⟨nd, rfl⟩⟩; refine ⟨_, rfl, ?_⟩; obtain ⟨hnb86, hnc86⟩ := nb_ NB221_211; obtain ⟨hnb87, hnc87⟩ := nb_ NB221_212; obtain ⟨hnb88, hnc88⟩ := nb_ NB221_226; have hcz89 := blk_all5 BK221.out; have p233 : 0 ≤ (1 : Int) := (by omega); have q233 : 1 < (x9_14.length : Int) := od_; obtain ⟨ad233, e233, hx233_0⟩ := Kd.at_string (Kd.R_reads' HO_9.out).2.2 1 p233 q233; obtain rfl : ad227 = ad233 := (by injection e233); (try simp only [show (1 : Int).toNat = 1 from rfl, Nat.reduceMul, Nat.reduceEqDiff, Go.Addr.add, ↓reduceIte] at hx233_0); have qi233 : (1 < x9_14.length) = True := eq_true (by omega); (try rw [show ((1 : Int)).toNat = 1 from rfl] at hx233_0); have hn233_0 : ad227.block ≠ gb226 := Kd.own_blk (Kd.R_ne HO_9.out BK226.out (by decide)); have hn233_1 : ad227.block ≠ gb221 := Kd.own_blk (Kd.R_ne HO_9.out BK221.out (by decide)); replace hx233_0 := (cell_far (p := ⟨gb226, 1, none⟩) (ob_ hn233_0) (.int .u8 t228)).trans hx233_0; replace hx233_0 := (World.cell?_drewN _ nd _).trans hx233_0; replace hx233_0 := (cell_far (p := ⟨gb221, 4, none⟩) (ob_ hn233_1) (.bool false)).trans hx233_0; clear hn233_0; clear hn233_1; replace p233 := eq_true p233; replace q233 := eq_true q233) | ((with_reducible refine gate_callee (f := 55) rfl ?_); refine sh_callX Tryd.func55 #[.string (rdOf ByteArray.empty x9_14 1), .int .i64 32] ?_; (with_reducible refine (asm_number.bad (rdOf ByteArray.empty x9_14 1) 32 t234 _ ?side1 A84.out (beq_iff_eq.mp c85b0)).mono ?_); (case side1 => exact Kd.C_below HRG3.out b_now); rintro e w90 ⟨hbad, hb⟩; refine ⟨_, hbad, ?_⟩; replace HB := sh_b (w := w) hb))
                first | exact ⟨rfl, .inl ⟨by first | rfl | trivial, rfl⟩, b_now⟩ | exact ⟨rfl, rfl, b_now⟩
               ·rw [if_neg c85] at H
                obtain ⟨c85b0, c85b1⟩ := eqF c85
                have H' := Aside0.mk H
                clear H
                have p229 : 0 ≤ (1 : Int) := (by omega)
                have q229 : 1 < (x9_14.length : Int) := od_
                obtain ⟨ad229, e229, hx229_0⟩ := Kd.at_string (Kd.R_reads' HO_9.out).2.2 1 p229 q229
                obtain rfl : ad227 = ad229 := (by injection e229)
                (try simp only [show (1 : Int).toNat = 1 from rfl, Nat.reduceMul, Nat.reduceEqDiff, Go.Addr.add, ↓reduceIte] at hx229_0)
                have qi229 : (1 < x9_14.length) = True := eq_true (by omega)
                (try rw [show ((1 : Int)).toNat = 1 from rfl] at hx229_0)
                replace hx229_0 := (cell_far (p := ⟨gb226, 1, none⟩) (ob_ (Kd.own_blk (Kd.R_ne HO_9.out BK226.out (by decide)))) (.int .u8 t228)).trans hx229_0
                replace p229 := eq_true p229
                replace q229 := eq_true q229
                go_wp2_with (first | ((with_reducible refine gate_callee (f := 54) rfl ?_); refine sh_call (some 49) Tryd.func54 #[.string (rdOf ByteArray.empty x9_14 1), .string (⟨#[114]⟩ : ByteArray)] ?_; (with_reducible refine (strings_HasPrefix.calls (rdOf ByteArray.empty x9_14 1) (⟨#[114]⟩ : ByteArray) false _ A62.out).mono ?_); rintro e w' ⟨rfl, ⟨nd, rfl⟩⟩; refine ⟨_, rfl, ?_⟩; obtain ⟨hnb96, hnc96⟩ := nb_ NB221_211; obtain ⟨hnb97, hnc97⟩ := nb_ NB221_212; obtain ⟨hnb98, hnc98⟩ := nb_ NB221_226; have hcz99 := blk_all5 BK221.out; have p233 : 0 ≤ (1 : Int) := (by omega); have q233 : 1 < (x9_14.length : Int) := od_; obtain ⟨ad233, e233, hx233_0⟩ := Kd.at_string (Kd.R_reads' HO_9.out).2.2 1 p233 q233; obtain rfl : ad227 = ad233 := (by injection e233); (try simp only [show (1 : Int).toNat = 1 from rfl, Nat.reduceMul, Nat.reduceEqDiff, Go.Addr.add, ↓reduceIte] at hx233_0); have qi233 : (1 < x9_14.length) = True := eq_true (by omega); (try rw [show ((1 : Int)).toNat = 1 from rfl] at hx233_0); have hn233_0 : ad227.block ≠ gb226 := Kd.own_blk (Kd.R_ne HO_9.out BK226.out (by decide)); have hn233_1 : ad227.block ≠ gb221 := Kd.own_blk (Kd.R_ne HO_9.out BK221.out (by decide)); replace hx233_0 := (cell_far (p := ⟨gb226, 1, none⟩) (ob_ hn233_0) (.int .u8 t228)).trans hx233_0; replace hx233_0 := (World.cell?_drewN _ nd _).trans hx233_0; replace hx233_0 := (cell_far (p := ⟨gb221, 4, none⟩) (ob_ hn233_1) (.bool false)).trans hx233_0; clear hn233_0; clear hn233_1; replace p233 := eq_true p233; replace q233 := eq_true q233) | ((with_reducible refine gate_callee (f := 55) rfl ?_); refine sh_call (some 61) Tryd.func55 #[.string (rdOf ByteArray.empty x9_14 1), .int .i64 32] ?_; (with_reducible refine (asm_number.calls (rdOf ByteArray.empty x9_14 1) 32 t234 _ ?side1 A84.out).mono ?_); (case side1 => exact Kd.C_below HRG3.out b_now); rintro e w100 ⟨rfl, hb⟩; refine ⟨_, rfl, ?_⟩; replace HO_9 := Aside0.mk (Kd.R_below (by (with_reducible repeat (first | apply Kd.R_alloc | apply Kd.R_drewN | apply Kd.R_drew)); exact (Kd.R_mono (Kd.R_mono (Kd.R_far (p := ⟨gb221, 4, none⟩) (Kd.R_far (p := ⟨gb226, 1, none⟩) (Kd.R_types (Kd.R_types HO_9.out BK226.out (by decide)) BK221.out (by decide)) (fun _ hk => hk.1.2) (.int .u8 t228)) (fun _ hk => hk.2) (.bool false)) (fun _ h_ => h_.1)) (fun _ h_ => h_.1))) hb); replace BK211 := sh_kp (g := gb211) (t := 49) #[.int .i64 0, .int .i64 0, .int .i64 0, .bool false, .bool false] hb; replace BK212 := sh_kp (g := gb212) (t := 37) #[.int .u8 0, .int .u8 0, .int .u8 0, .int .i16 0, .int .i32 0] hb; replace BK221 := sh_kp (g := gb221) (t := 49) #[.int .i64 t216, .int .i64 t217, .int .i64 t218, .bool t219, .bool false] hb; replace BK226 := sh_kp (g := gb226) (t := 37) #[.int .u8 0, .int .u8 t228, .int .u8 0, .int .i16 0, .int .i32 0] hb; replace HB := sh_b (w := w) hb; (try clear hb); (try clear hb2); (try clear hk); (try clear hi); obtain ⟨hnb101, hnc101⟩ := nb_ NB226_211; obtain ⟨hnb102, hnc102⟩ := nb_ NB226_212; have hcz103 := blk_all5 BK226.out))
                go_meet
                case rel => exact ⟨_, (0), (0), (0), (false), (false), (0), (0), (0), (0), (0), (false), (0), (wrap32 (t234)), H', ⟨by have := HJ14.out; have := HJ39.out; first | omega | exact Nat.le_refl _⟩, ⟨by (with_reducible repeat (first | apply Kd.R_alloc | apply Kd.R_drewN | apply Kd.R_drew)); exact Kd.R_mono (Kd.R_far (p := ⟨gb226, 4, none⟩) (Kd.R_types HO_9.out BK226.out (by decide)) (fun _ hk => hk.2) (.int .i32 (wrap32 (t234)))) (fun _ hk => trivial)⟩, ⟨bk_now⟩, ⟨bk_now⟩, ⟨bk_now⟩, ⟨bk_now⟩, ⟨b_now⟩⟩
             ·rw [if_neg c61] at H
              exact absurd H (by simp)
            ·rw [if_neg c60] at H
             have c60b0 : decide (1 < (x9_14.length : Int)) = false := decide_eq_false c60
             have c60b1 : decide (1 < x9_14.length) = false := decide_eq_false (by omega)
             clear c60
             (first | rw [c60b0] | (simp only [i64_w, i32_w]; rw [c60b0]) | skip)
             have H' := Aside0.mk H
             clear H
             go_wp2
             go_meet
             case rel => exact ⟨_, (0), (0), (0), (false), (false), (0), (0), (0), (0), (0), (t220), (0), (0), H', ⟨by have := HJ14.out; have := HJ39.out; first | omega | exact Nat.le_refl _⟩, ⟨by (with_reducible repeat (first | apply Kd.R_alloc | apply Kd.R_drewN | apply Kd.R_drew)); exact Kd.R_mono (Kd.R_far (p := ⟨gb226, 1, none⟩) (Kd.R_types HO_9.out BK226.out (by decide)) (fun _ hk => hk.2) (.int .u8 t228)) (fun _ hk => trivial)⟩, ⟨bk_now⟩, ⟨bk_now⟩, ⟨bk_now⟩, ⟨bk_now⟩, ⟨b_now⟩⟩
           case rest => as_aux_lemma =>
            clear HC54
            clear c43b0 c43b1 c45 c45b0 c45b1 hcz59 hx227_0 p227 q227
            obtain ⟨kq, x212000_53, x212001_53, x212002_53, x212003_53, x212004_53, x213000_53, x213001_53, x213002_53, x213003_53, x213004_53, x222004_53, x227002_53, x227004_53, HA, HJ53, HO_9, BK211, BK212, BK221, BK226, HB⟩ := hcut
            cases kq with
            | zero => exact absurd HA.out (by simp [asm_read.j2])
            | succ kj53 =>
             have H := HA.out
             clear HA
             simp only [asm_read.j2] at H
             by_cases c104 : (x9_14.length : Int) > 2
             ·rw [if_pos c104] at H
              have c104b0 : decide (2 < (x9_14.length : Int)) = true := decide_eq_true c104
              have c104b1 : decide (2 < x9_14.length) = true := decide_eq_true (by omega)
              clear c104
              by_cases c105 : 2 < (x9_14.length : Int)
              ·rw [if_pos c105] at H
               have c105b0 : decide (2 < (x9_14.length : Int)) = true := decide_eq_true c105
               have c105b1 : decide (2 < x9_14.length) = true := decide_eq_true (by omega)
               clear c105
               obtain ⟨t236, A106, H⟩ := bs_ H; try dsimp only at H
               by_cases c107 : t236 = 4611686018427387904
               ·rw [if_pos c107] at H
                obtain ⟨c107b0, c107b1⟩ := eqT c107
                clear c107
                simp only [Option.some.injEq, Prod.mk.injEq] at H
                obtain ⟨rfl, rfl, rfl, rfl, rfl, rfl, rfl, rfl, rfl, rfl, rfl⟩ := H
                have p235 : 0 ≤ (2 : Int) := (by omega)
                have q235 : 2 < (x9_14.length : Int) := od_
                obtain ⟨ad235, e235, hx235_0⟩ := Kd.at_string (Kd.R_reads' HO_9.out).2.2 2 p235 q235
                obtain rfl : ad227 = ad235 := (by injection e235)
                (try simp only [show (2 : Int).toNat = 2 from rfl, Nat.reduceMul, Nat.reduceEqDiff, Go.Addr.add, ↓reduceIte] at hx235_0)
                have qi235 : (2 < x9_14.length) = True := eq_true (by omega)
                (try rw [show ((2 : Int)).toNat = 2 from rfl] at hx235_0)
                replace p235 := eq_true p235
                replace q235 := eq_true q235
                go_wp2_with (first | ((with_reducible refine gate_callee (f := 55) rfl ?_); refine sh_callX Tryd.func55 #[.string (rdOf ByteArray.empty x9_14 2), .int .i64 16] ?_; (with_reducible refine (asm_number.bad (rdOf ByteArray.empty x9_14 2) 16 t236 _ ?side1 A106.out (beq_iff_eq.mp c107b0)).mono ?_); (case side1 => repeat (first | exact (Kd.C_below HRG3.out HB.out) | (with_reducible refine Kd.C_alloc ?_ _) | (with_reducible refine Kd.C_drewN ?_ _) | (with_reducible refine Kd.C_drew ?_))); rintro e w108 ⟨hbad, hb⟩; refine ⟨_, hbad, ?_⟩; replace HB := sh_b (w := w) hb))
                first | exact ⟨rfl, .inl ⟨by first | rfl | trivial, rfl⟩, b_now⟩ | exact ⟨rfl, rfl, b_now⟩
               ·rw [if_neg c107] at H
                obtain ⟨c107b0, c107b1⟩ := eqF c107
                have H' := Aside0.mk H
                clear H
                have p235 : 0 ≤ (2 : Int) := (by omega)
                have q235 : 2 < (x9_14.length : Int) := od_
                obtain ⟨ad235, e235, hx235_0⟩ := Kd.at_string (Kd.R_reads' HO_9.out).2.2 2 p235 q235
                obtain rfl : ad227 = ad235 := (by injection e235)
                (try simp only [show (2 : Int).toNat = 2 from rfl, Nat.reduceMul, Nat.reduceEqDiff, Go.Addr.add, ↓reduceIte] at hx235_0)
                have qi235 : (2 < x9_14.length) = True := eq_true (by omega)
                (try rw [show ((2 : Int)).toNat = 2 from rfl] at hx235_0)
                replace p235 := eq_true p235
                replace q235 := eq_true q235
                go_wp2_with (first | ((with_reducible refine gate_callee (f := 55) rfl ?_); refine sh_call (some 70) Tryd.func55 #[.string (rdOf ByteArray.empty x9_14 2), .int .i64 16] ?_; (with_reducible refine (asm_number.calls (rdOf ByteArray.empty x9_14 2) 16 t236 _ ?side1 A106.out).mono ?_); (case side1 => repeat (first | exact (Kd.C_below HRG3.out HB.out) | (with_reducible refine Kd.C_alloc ?_ _) | (with_reducible refine Kd.C_drewN ?_ _) | (with_reducible refine Kd.C_drew ?_))); rintro e w116 ⟨rfl, hb⟩; refine ⟨_, rfl, ?_⟩; replace HO_9 := Aside0.mk (Kd.R_below (by (with_reducible repeat (first | apply Kd.R_alloc | apply Kd.R_drewN | apply Kd.R_drew)); exact HO_9.out) hb); replace BK211 := sh_k BK211 hb; replace BK212 := sh_k BK212 hb; replace BK221 := sh_k BK221 hb; replace BK226 := sh_k BK226 hb; replace HB := sh_b (w := w) hb; (try clear hb); (try clear hb2); (try clear hk); (try clear hi); obtain ⟨hnb117, hnc117⟩ := nb_ NB226_211; obtain ⟨hnb118, hnc118⟩ := nb_ NB226_212; obtain ⟨hnb119, hnc119⟩ := nb_ NB226_221; have hcz120 := blk_all5 BK226.out))
                go_meet
                case rel => exact ⟨_, (0), (x212000_53), (x212001_53), (x212002_53), (x212003_53), (x212004_53), (x213000_53), (x213001_53), (x213002_53), (x213003_53), (x213004_53), (x222004_53), (t228), (x227002_53), (IntKind.i16.wrap (t236)), (x227004_53), eq_now, H', ⟨by have := HJ14.out; have := HJ39.out; have := HJ53.out; first | omega | exact Nat.le_refl _⟩, ⟨bk_now⟩, ⟨bk_now⟩, ⟨bk_now⟩, ⟨bk_now⟩, ⟨b_now⟩⟩
              ·rw [if_neg c105] at H
               exact absurd H (by simp)
             ·rw [if_neg c104] at H
              have c104b0 : decide (2 < (x9_14.length : Int)) = false := decide_eq_false c104
              have c104b1 : decide (2 < x9_14.length) = false := decide_eq_false (by omega)
              clear c104
              have H' := Aside0.mk H
              clear H
              go_wp2
              go_meet
              case rel => exact ⟨_, (0), (x212000_53), (x212001_53), (x212002_53), (x212003_53), (x212004_53), (x213000_53), (x213001_53), (x213002_53), (x213003_53), (x213004_53), (x222004_53), (t228), (x227002_53), (0), (x227004_53), eq_now, H', ⟨by have := HJ14.out; have := HJ39.out; have := HJ53.out; first | omega | exact Nat.le_refl _⟩, ⟨bk_now⟩, ⟨bk_now⟩, ⟨bk_now⟩, ⟨bk_now⟩, ⟨b_now⟩⟩
         ·rw [if_neg c43] at H
          exact absurd H (by simp)
        ·replace c42 := Bool.eq_false_iff.mpr c42
         subst c42
         replace H := sh_f H
         by_cases c121 : t216 = 2
         ·rw [if_pos c121] at H
          obtain ⟨c121b0, c121b1⟩ := eqT c121
          clear c121
          by_cases c122 : 0 < (x9_14.length : Int)
          ·rw [if_pos c122] at H
           have c122b0 : decide (0 < (x9_14.length : Int)) = true := decide_eq_true c122
           have c122b1 : decide (0 < x9_14.length) = true := decide_eq_true (by omega)
           clear c122
           obtain ⟨t238, A123, H⟩ := bs_ H; try dsimp only at H
           by_cases c124 : t238 = 256
           ·rw [if_pos c124] at H
            obtain ⟨c124b0, c124b1⟩ := eqT c124
            clear c124
            simp only [Option.some.injEq, Prod.mk.injEq] at H
            obtain ⟨rfl, rfl, rfl, rfl, rfl, rfl, rfl, rfl, rfl, rfl, rfl⟩ := H
            have p237 : 0 ≤ (0 : Int) := (by omega)
            have q237 : 0 < (x9_14.length : Int) := od_
            obtain ⟨ad237, e237, hx237_0⟩ := Kd.at_string (Kd.R_reads' HO_9.out).2.2 0 p237 q237
            cases e237
            have qi237 : (0 < x9_14.length) = True := eq_true (by omega)
            (try rw [show ((0 : Int)).toNat = 0 from rfl] at hx237_0)
            (try rw [Addr.add_zero'] at hx237_0)
            replace p237 := eq_true p237
            replace q237 := eq_true q237
            go_wp2_with (first | ((with_reducible refine gate_callee (f := 53) rfl ?_); refine sh_callX Tryd.func53 #[.string (rdOf ByteArray.empty x9_14 0)] ?_; (with_reducible refine (asm_register.bad (rdOf ByteArray.empty x9_14 0) t238 _ ?side1 A123.out (beq_iff_eq.mp c124b0)).mono ?_); (case side1 => repeat (first | exact (Kd.C_below HRG3.out HB.out) | (with_reducible refine Kd.C_alloc ?_ _) | (with_reducible refine Kd.C_drewN ?_ _) | (with_reducible refine Kd.C_drew ?_))); rintro e w125 ⟨hbad, hb⟩; refine ⟨_, hbad, ?_⟩; replace HB := sh_b (w := w) hb))
            first | exact ⟨rfl, .inl ⟨by first | rfl | trivial, rfl⟩, b_now⟩ | exact ⟨rfl, rfl, b_now⟩
           ·rw [if_neg c124] at H
            obtain ⟨c124b0, c124b1⟩ := eqF c124
            have H' := Aside0.mk H
            clear H
            have p237 : 0 ≤ (0 : Int) := (by omega)
            have q237 : 0 < (x9_14.length : Int) := od_
            obtain ⟨ad237, e237, hx237_0⟩ := Kd.at_string (Kd.R_reads' HO_9.out).2.2 0 p237 q237
            cases e237
            have qi237 : (0 < x9_14.length) = True := eq_true (by omega)
            (try rw [show ((0 : Int)).toNat = 0 from rfl] at hx237_0)
            (try rw [Addr.add_zero'] at hx237_0)
            replace p237 := eq_true p237
            replace q237 := eq_true q237
            go_wp2_with (first | ((with_reducible refine gate_callee (f := 53) rfl ?_); refine sh_call (some 78) Tryd.func53 #[.string (rdOf ByteArray.empty x9_14 0)] ?_; (with_reducible refine (asm_register.calls (rdOf ByteArray.empty x9_14 0) t238 _ ?side1 A123.out).mono ?_); (case side1 => repeat (first | exact (Kd.C_below HRG3.out HB.out) | (with_reducible refine Kd.C_alloc ?_ _) | (with_reducible refine Kd.C_drewN ?_ _) | (with_reducible refine Kd.C_drew ?_))); rintro e w133 ⟨rfl, hb⟩; refine ⟨_, rfl, ?_⟩; replace HO_9 := Aside0.mk (Kd.R_below (by (with_reducible repeat (first | apply Kd.R_alloc | apply Kd.R_drewN | apply Kd.R_drew)); exact HO_9.out) hb); replace BK211 := sh_k BK211 hb; replace BK212 := sh_k BK212 hb; replace BK221 := sh_k BK221 hb; replace BK226 := sh_k BK226 hb; replace HB := sh_b (w := w) hb; (try clear hb); (try clear hb2); (try clear hk); (try clear hi); obtain ⟨hnb134, hnc134⟩ := nb_ NB226_211; obtain ⟨hnb135, hnc135⟩ := nb_ NB226_212; obtain ⟨hnb136, hnc136⟩ := nb_ NB226_221; have hcz137 := blk_all5 BK226.out))
            go_meet
            case rel => exact ⟨_, (0), (0), (0), (0), (false), (false), (0), (0), (0), (0), (0), (t220), (t238), (0), (0), (0), eq_now, H', ⟨by have := HJ14.out; have := HJ39.out; first | omega | exact Nat.le_refl _⟩, ⟨bk_now⟩, ⟨bk_now⟩, ⟨bk_now⟩, ⟨bk_now⟩, ⟨b_now⟩⟩
          ·rw [if_neg c122] at H
           exact absurd H (by simp)
         ·rw [if_neg c121] at H
          obtain ⟨c121b0, c121b1⟩ := eqF c121
          by_cases c138 : t216 = 3
          ·rw [if_pos c138] at H
           obtain ⟨c138b0, c138b1⟩ := eqT c138
           clear c138
           by_cases c139 : 0 < (x9_14.length : Int)
           ·rw [if_pos c139] at H
            have c139b0 : decide (0 < (x9_14.length : Int)) = true := decide_eq_true c139
            have c139b1 : decide (0 < x9_14.length) = true := decide_eq_true (by omega)
            clear c139
            obtain ⟨t240, A140, H⟩ := bs_ H; try dsimp only at H
            by_cases c141 : t240 = 256
            ·rw [if_pos c141] at H
             obtain ⟨c141b0, c141b1⟩ := eqT c141
             clear c141
             simp only [Option.some.injEq, Prod.mk.injEq] at H
             obtain ⟨rfl, rfl, rfl, rfl, rfl, rfl, rfl, rfl, rfl, rfl, rfl⟩ := H
             have p239 : 0 ≤ (0 : Int) := (by omega)
             have q239 : 0 < (x9_14.length : Int) := od_
             obtain ⟨ad239, e239, hx239_0⟩ := Kd.at_string (Kd.R_reads' HO_9.out).2.2 0 p239 q239
             cases e239
             have qi239 : (0 < x9_14.length) = True := eq_true (by omega)
             (try rw [show ((0 : Int)).toNat = 0 from rfl] at hx239_0)
             (try rw [Addr.add_zero'] at hx239_0)
             replace p239 := eq_true p239
             replace q239 := eq_true q239
             go_wp2_with (first | ((with_reducible refine gate_callee (f := 53) rfl ?_); refine sh_callX Tryd.func53 #[.string (rdOf ByteArray.empty x9_14 0)] ?_; (with_reducible refine (asm_register.bad (rdOf ByteArray.empty x9_14 0) t240 _ ?side1 A140.out (beq_iff_eq.mp c141b0)).mono ?_); (case side1 => repeat (first | exact (Kd.C_below HRG3.out HB.out) | (with_reducible refine Kd.C_alloc ?_ _) | (with_reducible refine Kd.C_drewN ?_ _) | (with_reducible refine Kd.C_drew ?_))); rintro e w142 ⟨hbad, hb⟩; refine ⟨_, hbad, ?_⟩; replace HB := sh_b (w := w) hb))
             first | exact ⟨rfl, .inl ⟨by first | rfl | trivial, rfl⟩, b_now⟩ | exact ⟨rfl, rfl, b_now⟩
            ·rw [if_neg c141] at H
             obtain ⟨c141b0, c141b1⟩ := eqF c141
             by_cases c150 : 1 < (x9_14.length : Int)
             ·rw [if_pos c150] at H
              have c150b0 : decide (1 < (x9_14.length : Int)) = true := decide_eq_true c150
              have c150b1 : decide (1 < x9_14.length) = true := decide_eq_true (by omega)
              clear c150
              obtain ⟨⟨t242, t243⟩, A151, H⟩ := bs_ H; try dsimp only at H
              by_cases c152 : t242 = 256
              ·rw [if_pos c152] at H
               obtain ⟨c152b0, c152b1⟩ := eqT c152
               clear c152
               simp only [Option.some.injEq, Prod.mk.injEq] at H
               obtain ⟨rfl, rfl, rfl, rfl, rfl, rfl, rfl, rfl, rfl, rfl, rfl⟩ := H
               have p239 : 0 ≤ (0 : Int) := (by omega)
               have q239 : 0 < (x9_14.length : Int) := od_
               obtain ⟨ad239, e239, hx239_0⟩ := Kd.at_string (Kd.R_reads' HO_9.out).2.2 0 p239 q239
               cases e239
               have qi239 : (0 < x9_14.length) = True := eq_true (by omega)
               (try rw [show ((0 : Int)).toNat = 0 from rfl] at hx239_0)
               (try rw [Addr.add_zero'] at hx239_0)
               replace p239 := eq_true p239
               replace q239 := eq_true q239
               go_wp2_with (first | ((with_reducible refine gate_callee (f := 53) rfl ?_); refine sh_call (some 85) Tryd.func53 #[.string (rdOf ByteArray.empty x9_14 0)] ?_; (with_reducible refine (asm_register.calls (rdOf ByteArray.empty x9_14 0) t240 _ ?side1 A140.out).mono ?_); (case side1 => repeat (first | exact (Kd.C_below HRG3.out HB.out) | (with_reducible refine Kd.C_alloc ?_ _) | (with_reducible refine Kd.C_drewN ?_ _) | (with_reducible refine Kd.C_drew ?_))); rintro e w153 ⟨rfl, hb⟩; refine ⟨_, rfl, ?_⟩; replace HO_9 := Aside0.mk (Kd.R_below (by (with_reducible repeat (first | apply Kd.R_alloc | apply Kd.R_drewN | apply Kd.R_drew)); exact HO_9.out) hb); replace BK211 := sh_k BK211 hb; replace BK212 := sh_k BK212 hb; replace BK221 := sh_k BK221 hb; replace BK226 := sh_k BK226 hb; replace HB := sh_b (w := w) hb; (try clear hb); (try clear hb2); (try clear hk); (try clear hi); obtain ⟨hnb154, hnc154⟩ := nb_ NB226_211; obtain ⟨hnb155, hnc155⟩ := nb_ NB226_212; obtain ⟨hnb156, hnc156⟩ := nb_ NB226_221; have hcz157 := blk_all5 BK226.out; have p241 : 0 ≤ (1 : Int) := (by omega); have q241 : 1 < (x9_14.length : Int) := od_; obtain ⟨ad241, e241, hx241_0⟩ := Kd.at_string (Kd.R_reads' HO_9.out).2.2 1 p241 q241; obtain rfl : ad239 = ad241 := (by injection e241); (try simp only [show (1 : Int).toNat = 1 from rfl, Nat.reduceMul, Nat.reduceEqDiff, Go.Addr.add, ↓reduceIte] at hx241_0); have qi241 : (1 < x9_14.length) = True := eq_true (by omega); (try rw [show ((1 : Int)).toNat = 1 from rfl] at hx241_0); have hn241_0 : ad239.block ≠ gb226 := Kd.own_blk (Kd.R_ne HO_9.out BK226.out (by decide)); replace hx241_0 := (cell_far (p := ⟨gb226, 1, none⟩) (ob_ hn241_0) (.int .u8 t240)).trans hx241_0; clear hn241_0; replace p241 := eq_true p241; replace q241 := eq_true q241) | ((with_reducible refine gate_callee (f := 56) rfl ?_); refine sh_callX Tryd.func56 #[.string (rdOf ByteArray.empty x9_14 1)] ?_; (with_reducible refine (asm_address.bad kj39 (rdOf ByteArray.empty x9_14 1) t242 t243 _ ?side1 A151.out (beq_iff_eq.mp c152b0)).mono ?_); (case side1 => exact Kd.C_below HRG3.out b_now); rintro e w158 ⟨hbad, hb⟩; refine ⟨_, hbad, ?_⟩; replace HB := sh_b (w := w) hb))
               first | exact ⟨rfl, .inl ⟨by first | rfl | trivial, rfl⟩, b_now⟩ | exact ⟨rfl, rfl, b_now⟩
              ·rw [if_neg c152] at H
               obtain ⟨c152b0, c152b1⟩ := eqF c152
               have H' := Aside0.mk H
               clear H
               have p239 : 0 ≤ (0 : Int) := (by omega)
               have q239 : 0 < (x9_14.length : Int) := od_
               obtain ⟨ad239, e239, hx239_0⟩ := Kd.at_string (Kd.R_reads' HO_9.out).2.2 0 p239 q239
               cases e239
               have qi239 : (0 < x9_14.length) = True := eq_true (by omega)
               (try rw [show ((0 : Int)).toNat = 0 from rfl] at hx239_0)
               (try rw [Addr.add_zero'] at hx239_0)
               replace p239 := eq_true p239
               replace q239 := eq_true q239
               go_wp2_with (first | ((with_reducible refine gate_callee (f := 53) rfl ?_); refine sh_call (some 85) Tryd.func53 #[.string (rdOf ByteArray.empty x9_14 0)] ?_; (with_reducible refine (asm_register.calls (rdOf ByteArray.empty x9_14 0) t240 _ ?side1 A140.out).mono ?_); (case side1 => repeat (first | exact (Kd.C_below HRG3.out HB.out) | (with_reducible refine Kd.C_alloc ?_ _) | (with_reducible refine Kd.C_drewN ?_ _) | (with_reducible refine Kd.C_drew ?_))); rintro e w164 ⟨rfl, hb⟩; refine ⟨_, rfl, ?_⟩; replace HO_9 := Aside0.mk (Kd.R_below (by (with_reducible repeat (first | apply Kd.R_alloc | apply Kd.R_drewN | apply Kd.R_drew)); exact HO_9.out) hb); replace BK211 := sh_k BK211 hb; replace BK212 := sh_k BK212 hb; replace BK221 := sh_k BK221 hb; replace BK226 := sh_k BK226 hb; replace HB := sh_b (w := w) hb; (try clear hb); (try clear hb2); (try clear hk); (try clear hi); obtain ⟨hnb165, hnc165⟩ := nb_ NB226_211; obtain ⟨hnb166, hnc166⟩ := nb_ NB226_212; obtain ⟨hnb167, hnc167⟩ := nb_ NB226_221; have hcz168 := blk_all5 BK226.out; have p241 : 0 ≤ (1 : Int) := (by omega); have q241 : 1 < (x9_14.length : Int) := od_; obtain ⟨ad241, e241, hx241_0⟩ := Kd.at_string (Kd.R_reads' HO_9.out).2.2 1 p241 q241; obtain rfl : ad239 = ad241 := (by injection e241); (try simp only [show (1 : Int).toNat = 1 from rfl, Nat.reduceMul, Nat.reduceEqDiff, Go.Addr.add, ↓reduceIte] at hx241_0); have qi241 : (1 < x9_14.length) = True := eq_true (by omega); (try rw [show ((1 : Int)).toNat = 1 from rfl] at hx241_0); have hn241_0 : ad239.block ≠ gb226 := Kd.own_blk (Kd.R_ne HO_9.out BK226.out (by decide)); replace hx241_0 := (cell_far (p := ⟨gb226, 1, none⟩) (ob_ hn241_0) (.int .u8 t240)).trans hx241_0; clear hn241_0; replace p241 := eq_true p241; replace q241 := eq_true q241) | ((with_reducible refine gate_callee (f := 56) rfl ?_); refine sh_call (some 91) Tryd.func56 #[.string (rdOf ByteArray.empty x9_14 1)] ?_; (with_reducible refine (asm_address.calls kj39 (rdOf ByteArray.empty x9_14 1) t242 t243 _ ?side1 A151.out).mono ?_); (case side1 => exact Kd.C_below HRG3.out b_now); rintro e w169 ⟨rfl, hb⟩; refine ⟨_, rfl, ?_⟩; replace HO_9 := Aside0.mk (Kd.R_below (by (with_reducible repeat (first | apply Kd.R_alloc | apply Kd.R_drewN | apply Kd.R_drew)); exact (Kd.R_mono (Kd.R_far (p := ⟨gb226, 1, none⟩) (Kd.R_types HO_9.out BK226.out (by decide)) (fun _ hk => hk.2) (.int .u8 t240)) (fun _ h_ => h_.1))) hb); replace BK211 := sh_kp (g := gb211) (t := 49) #[.int .i64 0, .int .i64 0, .int .i64 0, .bool false, .bool false] hb; replace BK212 := sh_kp (g := gb212) (t := 37) #[.int .u8 0, .int .u8 0, .int .u8 0, .int .i16 0, .int .i32 0] hb; replace BK221 := sh_kp (g := gb221) (t := 49) #[.int .i64 t216, .int .i64 t217, .int .i64 t218, .bool t219, .bool t220] hb; replace BK226 := sh_kp (g := gb226) (t := 37) #[.int .u8 0, .int .u8 t240, .int .u8 0, .int .i16 0, .int .i32 0] hb; replace HB := sh_b (w := w) hb; (try clear hb); (try clear hb2); (try clear hk); (try clear hi); have hcz170 := blk_all5 BK226.out))
               go_meet
               case rel => exact ⟨_, (0), (0), (0), (0), (false), (false), (0), (0), (0), (0), (0), (t220), (t240), (t242), (t243), (0), eq_now, H', ⟨by have := HJ14.out; have := HJ39.out; first | omega | exact Nat.le_refl _⟩, ⟨bk_now⟩, ⟨bk_now⟩, ⟨bk_now⟩, ⟨bk_now⟩, ⟨b_now⟩⟩
             ·rw [if_neg c150] at H
              exact absurd H (by simp)
           ·rw [if_neg c139] at H
            exact absurd H (by simp)
          ·rw [if_neg c138] at H
           obtain ⟨c138b0, c138b1⟩ := eqF c138
           by_cases c171 : t216 = 4
           ·rw [if_pos c171] at H
            obtain ⟨c171b0, c171b1⟩ := eqT c171
            clear c171
            by_cases c172 : 0 < (x9_14.length : Int)
            ·rw [if_pos c172] at H
             have c172b0 : decide (0 < (x9_14.length : Int)) = true := decide_eq_true c172
             have c172b1 : decide (0 < x9_14.length) = true := decide_eq_true (by omega)
             clear c172
             obtain ⟨⟨t245, t246⟩, A173, H⟩ := bs_ H; try dsimp only at H
             by_cases c174 : t245 = 256
             ·rw [if_pos c174] at H
              obtain ⟨c174b0, c174b1⟩ := eqT c174
              clear c174
              simp only [Option.some.injEq, Prod.mk.injEq] at H
              obtain ⟨rfl, rfl, rfl, rfl, rfl, rfl, rfl, rfl, rfl, rfl, rfl⟩ := H
              have p244 : 0 ≤ (0 : Int) := (by omega)
              have q244 : 0 < (x9_14.length : Int) := od_
              obtain ⟨ad244, e244, hx244_0⟩ := Kd.at_string (Kd.R_reads' HO_9.out).2.2 0 p244 q244
              cases e244
              have qi244 : (0 < x9_14.length) = True := eq_true (by omega)
              (try rw [show ((0 : Int)).toNat = 0 from rfl] at hx244_0)
              (try rw [Addr.add_zero'] at hx244_0)
              replace p244 := eq_true p244
              replace q244 := eq_true q244
              go_wp2_with (first | ((with_reducible refine gate_callee (f := 56) rfl ?_); refine sh_callX Tryd.func56 #[.string (rdOf ByteArray.empty x9_14 0)] ?_; (with_reducible refine (asm_address.bad kj39 (rdOf ByteArray.empty x9_14 0) t245 t246 _ ?side1 A173.out (beq_iff_eq.mp c174b0)).mono ?_); (case side1 => repeat (first | exact (Kd.C_below HRG3.out HB.out) | (with_reducible refine Kd.C_alloc ?_ _) | (with_reducible refine Kd.C_drewN ?_ _) | (with_reducible refine Kd.C_drew ?_))); rintro e w175 ⟨hbad, hb⟩; refine ⟨_, hbad, ?_⟩; replace HB := sh_b (w := w) hb))
              first | exact ⟨rfl, .inl ⟨by first | rfl | trivial, rfl⟩, b_now⟩ | exact ⟨rfl, rfl, b_now⟩
             ·rw [if_neg c174] at H
              obtain ⟨c174b0, c174b1⟩ := eqF c174
              by_cases c183 : 1 < (x9_14.length : Int)
              ·rw [if_pos c183] at H
               have c183b0 : decide (1 < (x9_14.length : Int)) = true := decide_eq_true c183
               have c183b1 : decide (1 < x9_14.length) = true := decide_eq_true (by omega)
               clear c183
               obtain ⟨t248, A184, H⟩ := bs_ H; try dsimp only at H
               by_cases c185 : t248 = 256
               ·rw [if_pos c185] at H
                obtain ⟨c185b0, c185b1⟩ := eqT c185
                clear c185
                simp only [Option.some.injEq, Prod.mk.injEq] at H
                obtain ⟨rfl, rfl, rfl, rfl, rfl, rfl, rfl, rfl, rfl, rfl, rfl⟩ := H
                have p244 : 0 ≤ (0 : Int) := (by omega)
                have q244 : 0 < (x9_14.length : Int) := od_
                obtain ⟨ad244, e244, hx244_0⟩ := Kd.at_string (Kd.R_reads' HO_9.out).2.2 0 p244 q244
                cases e244
                have qi244 : (0 < x9_14.length) = True := eq_true (by omega)
                (try rw [show ((0 : Int)).toNat = 0 from rfl] at hx244_0)
                (try rw [Addr.add_zero'] at hx244_0)
                replace p244 := eq_true p244
                replace q244 := eq_true q244
                go_wp2_with (first | ((with_reducible refine gate_callee (f := 56) rfl ?_); refine sh_call (some 102) Tryd.func56 #[.string (rdOf ByteArray.empty x9_14 0)] ?_; (with_reducible refine (asm_address.calls kj39 (rdOf ByteArray.empty x9_14 0) t245 t246 _ ?side1 A173.out).mono ?_); (case side1 => repeat (first | exact (Kd.C_below HRG3.out HB.out) | (with_reducible refine Kd.C_alloc ?_ _) | (with_reducible refine Kd.C_drewN ?_ _) | (with_reducible refine Kd.C_drew ?_))); rintro e w186 ⟨rfl, hb⟩; refine ⟨_, rfl, ?_⟩; replace HO_9 := Aside0.mk (Kd.R_below (by (with_reducible repeat (first | apply Kd.R_alloc | apply Kd.R_drewN | apply Kd.R_drew)); exact HO_9.out) hb); replace BK211 := sh_k BK211 hb; replace BK212 := sh_k BK212 hb; replace BK221 := sh_k BK221 hb; replace BK226 := sh_k BK226 hb; replace HB := sh_b (w := w) hb; (try clear hb); (try clear hb2); (try clear hk); (try clear hi); obtain ⟨hnb187, hnc187⟩ := nb_ NB226_211; obtain ⟨hnb188, hnc188⟩ := nb_ NB226_212; obtain ⟨hnb189, hnc189⟩ := nb_ NB226_221; have hcz190 := blk_all5 BK226.out; have p247 : 0 ≤ (1 : Int) := (by omega); have q247 : 1 < (x9_14.length : Int) := od_; obtain ⟨ad247, e247, hx247_0⟩ := Kd.at_string (Kd.R_reads' HO_9.out).2.2 1 p247 q247; obtain rfl : ad244 = ad247 := (by injection e247); (try simp only [show (1 : Int).toNat = 1 from rfl, Nat.reduceMul, Nat.reduceEqDiff, Go.Addr.add, ↓reduceIte] at hx247_0); have qi247 : (1 < x9_14.length) = True := eq_true (by omega); (try rw [show ((1 : Int)).toNat = 1 from rfl] at hx247_0); have hn247_0 : ad244.block ≠ gb226 := Kd.own_blk (Kd.R_ne HO_9.out BK226.out (by decide)); have hn247_1 : ad244.block ≠ gb226 := Kd.own_blk (Kd.R_ne HO_9.out BK226.out (by decide)); replace hx247_0 := (cell_far (p := ⟨gb226, 1, none⟩) (ob_ hn247_0) (.int .u8 t245)).trans hx247_0; replace hx247_0 := (cell_far (p := ⟨gb226, 3, none⟩) (ob_ hn247_1) (.int .i16 t246)).trans hx247_0; clear hn247_0; clear hn247_1; replace p247 := eq_true p247; replace q247 := eq_true q247) | ((with_reducible refine gate_callee (f := 53) rfl ?_); refine sh_callX Tryd.func53 #[.string (rdOf ByteArray.empty x9_14 1)] ?_; (with_reducible refine (asm_register.bad (rdOf ByteArray.empty x9_14 1) t248 _ ?side1 A184.out (beq_iff_eq.mp c185b0)).mono ?_); (case side1 => exact Kd.C_below HRG3.out b_now); rintro e w191 ⟨hbad, hb⟩; refine ⟨_, hbad, ?_⟩; replace HB := sh_b (w := w) hb))
                first | exact ⟨rfl, .inl ⟨by first | rfl | trivial, rfl⟩, b_now⟩ | exact ⟨rfl, rfl, b_now⟩
               ·rw [if_neg c185] at H
                obtain ⟨c185b0, c185b1⟩ := eqF c185
                have H' := Aside0.mk H
                clear H
                have p244 : 0 ≤ (0 : Int) := (by omega)
                have q244 : 0 < (x9_14.length : Int) := od_
                obtain ⟨ad244, e244, hx244_0⟩ := Kd.at_string (Kd.R_reads' HO_9.out).2.2 0 p244 q244
                cases e244
                have qi244 : (0 < x9_14.length) = True := eq_true (by omega)
                (try rw [show ((0 : Int)).toNat = 0 from rfl] at hx244_0)
                (try rw [Addr.add_zero'] at hx244_0)
                replace p244 := eq_true p244
                replace q244 := eq_true q244
                go_wp2_with (first | ((with_reducible refine gate_callee (f := 56) rfl ?_); refine sh_call (some 102) Tryd.func56 #[.string (rdOf ByteArray.empty x9_14 0)] ?_; (with_reducible refine (asm_address.calls kj39 (rdOf ByteArray.empty x9_14 0) t245 t246 _ ?side1 A173.out).mono ?_); (case side1 => repeat (first | exact (Kd.C_below HRG3.out HB.out) | (with_reducible refine Kd.C_alloc ?_ _) | (with_reducible refine Kd.C_drewN ?_ _) | (with_reducible refine Kd.C_drew ?_))); rintro e w197 ⟨rfl, hb⟩; refine ⟨_, rfl, ?_⟩; replace HO_9 := Aside0.mk (Kd.R_below (by (with_reducible repeat (first | apply Kd.R_alloc | apply Kd.R_drewN | apply Kd.R_drew)); exact HO_9.out) hb); replace BK211 := sh_k BK211 hb; replace BK212 := sh_k BK212 hb; replace BK221 := sh_k BK221 hb; replace BK226 := sh_k BK226 hb; replace HB := sh_b (w := w) hb; (try clear hb); (try clear hb2); (try clear hk); (try clear hi); obtain ⟨hnb198, hnc198⟩ := nb_ NB226_211; obtain ⟨hnb199, hnc199⟩ := nb_ NB226_212; obtain ⟨hnb200, hnc200⟩ := nb_ NB226_221; have hcz201 := blk_all5 BK226.out; have p247 : 0 ≤ (1 : Int) := (by omega); have q247 : 1 < (x9_14.length : Int) := od_; obtain ⟨ad247, e247, hx247_0⟩ := Kd.at_string (Kd.R_reads' HO_9.out).2.2 1 p247 q247; obtain rfl : ad244 = ad247 := (by injection e247); (try simp only [show (1 : Int).toNat = 1 from rfl, Nat.reduceMul, Nat.reduceEqDiff, Go.Addr.add, ↓reduceIte] at hx247_0); have qi247 : (1 < x9_14.length) = True := eq_true (by omega); (try rw [show ((1 : Int)).toNat = 1 from rfl] at hx247_0); have hn247_0 : ad244.block ≠ gb226 := Kd.own_blk (Kd.R_ne HO_9.out BK226.out (by decide)); have hn247_1 : ad244.block ≠ gb226 := Kd.own_blk (Kd.R_ne HO_9.out BK226.out (by decide)); replace hx247_0 := (cell_far (p := ⟨gb226, 1, none⟩) (ob_ hn247_0) (.int .u8 t245)).trans hx247_0; replace hx247_0 := (cell_far (p := ⟨gb226, 3, none⟩) (ob_ hn247_1) (.int .i16 t246)).trans hx247_0; clear hn247_0; clear hn247_1; replace p247 := eq_true p247; replace q247 := eq_true q247) | ((with_reducible refine gate_callee (f := 53) rfl ?_); refine sh_call (some 110) Tryd.func53 #[.string (rdOf ByteArray.empty x9_14 1)] ?_; (with_reducible refine (asm_register.calls (rdOf ByteArray.empty x9_14 1) t248 _ ?side1 A184.out).mono ?_); (case side1 => exact Kd.C_below HRG3.out b_now); rintro e w202 ⟨rfl, hb⟩; refine ⟨_, rfl, ?_⟩; replace HO_9 := Aside0.mk (Kd.R_below (by (with_reducible repeat (first | apply Kd.R_alloc | apply Kd.R_drewN | apply Kd.R_drew)); exact (Kd.R_mono (Kd.R_far (p := ⟨gb226, 3, none⟩) (Kd.R_far (p := ⟨gb226, 1, none⟩) (Kd.R_types HO_9.out BK226.out (by decide)) (fun _ hk => hk.2) (.int .u8 t245)) (fun _ hk => hk.2) (.int .i16 t246)) (fun _ h_ => h_.1))) hb); replace BK211 := sh_kp (g := gb211) (t := 49) #[.int .i64 0, .int .i64 0, .int .i64 0, .bool false, .bool false] hb; replace BK212 := sh_kp (g := gb212) (t := 37) #[.int .u8 0, .int .u8 0, .int .u8 0, .int .i16 0, .int .i32 0] hb; replace BK221 := sh_kp (g := gb221) (t := 49) #[.int .i64 t216, .int .i64 t217, .int .i64 t218, .bool t219, .bool t220] hb; replace BK226 := sh_kp (g := gb226) (t := 37) #[.int .u8 0, .int .u8 t245, .int .u8 0, .int .i16 t246, .int .i32 0] hb; replace HB := sh_b (w := w) hb; (try clear hb); (try clear hb2); (try clear hk); (try clear hi); have hcz203 := blk_all5 BK226.out))
                go_meet
                case rel => exact ⟨_, (0), (0), (0), (0), (false), (false), (0), (0), (0), (0), (0), (t220), (t245), (t248), (t246), (0), eq_now, H', ⟨by have := HJ14.out; have := HJ39.out; first | omega | exact Nat.le_refl _⟩, ⟨bk_now⟩, ⟨bk_now⟩, ⟨bk_now⟩, ⟨bk_now⟩, ⟨b_now⟩⟩
              ·rw [if_neg c183] at H
               exact absurd H (by simp)
            ·rw [if_neg c172] at H
             exact absurd H (by simp)
           ·rw [if_neg c171] at H
            obtain ⟨c171b0, c171b1⟩ := eqF c171
            by_cases c204 : t216 = 5
            ·rw [if_pos c204] at H
             obtain ⟨c204b0, c204b1⟩ := eqT c204
             clear c204
             by_cases c205 : 0 < (x9_14.length : Int)
             ·rw [if_pos c205] at H
              have c205b0 : decide (0 < (x9_14.length : Int)) = true := decide_eq_true c205
              have c205b1 : decide (0 < x9_14.length) = true := decide_eq_true (by omega)
              clear c205
              obtain ⟨⟨t250, t251⟩, A206, H⟩ := bs_ H; try dsimp only at H
              by_cases c207 : t250 = 256
              ·rw [if_pos c207] at H
               obtain ⟨c207b0, c207b1⟩ := eqT c207
               clear c207
               simp only [Option.some.injEq, Prod.mk.injEq] at H
               obtain ⟨rfl, rfl, rfl, rfl, rfl, rfl, rfl, rfl, rfl, rfl, rfl⟩ := H
               have p249 : 0 ≤ (0 : Int) := (by omega)
               have q249 : 0 < (x9_14.length : Int) := od_
               obtain ⟨ad249, e249, hx249_0⟩ := Kd.at_string (Kd.R_reads' HO_9.out).2.2 0 p249 q249
               cases e249
               have qi249 : (0 < x9_14.length) = True := eq_true (by omega)
               (try rw [show ((0 : Int)).toNat = 0 from rfl] at hx249_0)
               (try rw [Addr.add_zero'] at hx249_0)
               replace p249 := eq_true p249
               replace q249 := eq_true q249
               go_wp2_with (first | ((with_reducible refine gate_callee (f := 56) rfl ?_); refine sh_callX Tryd.func56 #[.string (rdOf ByteArray.empty x9_14 0)] ?_; (with_reducible refine (asm_address.bad kj39 (rdOf ByteArray.empty x9_14 0) t250 t251 _ ?side1 A206.out (beq_iff_eq.mp c207b0)).mono ?_); (case side1 => repeat (first | exact (Kd.C_below HRG3.out HB.out) | (with_reducible refine Kd.C_alloc ?_ _) | (with_reducible refine Kd.C_drewN ?_ _) | (with_reducible refine Kd.C_drew ?_))); rintro e w208 ⟨hbad, hb⟩; refine ⟨_, hbad, ?_⟩; replace HB := sh_b (w := w) hb))
               first | exact ⟨rfl, .inl ⟨by first | rfl | trivial, rfl⟩, b_now⟩ | exact ⟨rfl, rfl, b_now⟩
              ·rw [if_neg c207] at H
               obtain ⟨c207b0, c207b1⟩ := eqF c207
               by_cases c216 : 1 < (x9_14.length : Int)
               ·rw [if_pos c216] at H
                have c216b0 : decide (1 < (x9_14.length : Int)) = true := decide_eq_true c216
                have c216b1 : decide (1 < x9_14.length) = true := decide_eq_true (by omega)
                clear c216
                obtain ⟨t253, A217, H⟩ := bs_ H; try dsimp only at H
                by_cases c218 : t253 = 4611686018427387904
                ·rw [if_pos c218] at H
                 obtain ⟨c218b0, c218b1⟩ := eqT c218
                 clear c218
                 simp only [Option.some.injEq, Prod.mk.injEq] at H
                 obtain ⟨rfl, rfl, rfl, rfl, rfl, rfl, rfl, rfl, rfl, rfl, rfl⟩ := H
                 have p249 : 0 ≤ (0 : Int) := (by omega)
                 have q249 : 0 < (x9_14.length : Int) := od_
                 obtain ⟨ad249, e249, hx249_0⟩ := Kd.at_string (Kd.R_reads' HO_9.out).2.2 0 p249 q249
                 cases e249
                 have qi249 : (0 < x9_14.length) = True := eq_true (by omega)
                 (try rw [show ((0 : Int)).toNat = 0 from rfl] at hx249_0)
                 (try rw [Addr.add_zero'] at hx249_0)
                 replace p249 := eq_true p249
                 replace q249 := eq_true q249
                 go_wp2_with (first | ((with_reducible refine gate_callee (f := 56) rfl ?_); refine sh_call (some 118) Tryd.func56 #[.string (rdOf ByteArray.empty x9_14 0)] ?_; (with_reducible refine (asm_address.calls kj39 (rdOf ByteArray.empty x9_14 0) t250 t251 _ ?side1 A206.out).mono ?_); (case side1 => repeat (first | exact (Kd.C_below HRG3.out HB.out) | (with_reducible refine Kd.C_alloc ?_ _) | (with_reducible refine Kd.C_drewN ?_ _) | (with_reducible refine Kd.C_drew ?_))); rintro e w219 ⟨rfl, hb⟩; refine ⟨_, rfl, ?_⟩; replace HO_9 := Aside0.mk (Kd.R_below (by (with_reducible repeat (first | apply Kd.R_alloc | apply Kd.R_drewN | apply Kd.R_drew)); exact HO_9.out) hb); replace BK211 := sh_k BK211 hb; replace BK212 := sh_k BK212 hb; replace BK221 := sh_k BK221 hb; replace BK226 := sh_k BK226 hb; replace HB := sh_b (w := w) hb; (try clear hb); (try clear hb2); (try clear hk); (try clear hi); obtain ⟨hnb220, hnc220⟩ := nb_ NB226_211; obtain ⟨hnb221, hnc221⟩ := nb_ NB226_212; obtain ⟨hnb222, hnc222⟩ := nb_ NB226_221; have hcz223 := blk_all5 BK226.out; have p252 : 0 ≤ (1 : Int) := (by omega); have q252 : 1 < (x9_14.length : Int) := od_; obtain ⟨ad252, e252, hx252_0⟩ := Kd.at_string (Kd.R_reads' HO_9.out).2.2 1 p252 q252; obtain rfl : ad249 = ad252 := (by injection e252); (try simp only [show (1 : Int).toNat = 1 from rfl, Nat.reduceMul, Nat.reduceEqDiff, Go.Addr.add, ↓reduceIte] at hx252_0); have qi252 : (1 < x9_14.length) = True := eq_true (by omega); (try rw [show ((1 : Int)).toNat = 1 from rfl] at hx252_0); have hn252_0 : ad249.block ≠ gb226 := Kd.own_blk (Kd.R_ne HO_9.out BK226.out (by decide)); have hn252_1 : ad249.block ≠ gb226 := Kd.own_blk (Kd.R_ne HO_9.out BK226.out (by decide)); replace hx252_0 := (cell_far (p := ⟨gb226, 1, none⟩) (ob_ hn252_0) (.int .u8 t250)).trans hx252_0; replace hx252_0 := (cell_far (p := ⟨gb226, 3, none⟩) (ob_ hn252_1) (.int .i16 t251)).trans hx252_0; clear hn252_0; clear hn252_1; replace p252 := eq_true p252; replace q252 := eq_true q252) | ((with_reducible refine gate_callee (f := 55) rfl ?_); refine sh_callX Tryd.func55 #[.string (rdOf ByteArray.empty x9_14 1), .int .i64 32] ?_; (with_reducible refine (asm_number.bad (rdOf ByteArray.empty x9_14 1) 32 t253 _ ?side1 A217.out (beq_iff_eq.mp c218b0)).mono ?_); (case side1 => exact Kd.C_below HRG3.out b_now); rintro e w224 ⟨hbad, hb⟩; refine ⟨_, hbad, ?_⟩; replace HB := sh_b (w := w) hb))
                 first | exact ⟨rfl, .inl ⟨by first | rfl | trivial, rfl⟩, b_now⟩ | exact ⟨rfl, rfl, b_now⟩
                ·rw [if_neg c218] at H
                 obtain ⟨c218b0, c218b1⟩ := eqF c218
                 have H' := Aside0.mk H
                 clear H
                 have p249 : 0 ≤ (0 : Int) := (by omega)
                 have q249 : 0 < (x9_14.length : Int) := od_
                 obtain ⟨ad249, e249, hx249_0⟩ := Kd.at_string (Kd.R_reads' HO_9.out).2.2 0 p249 q249
                 cases e249
                 have qi249 : (0 < x9_14.length) = True := eq_true (by omega)
                 (try rw [show ((0 : Int)).toNat = 0 from rfl] at hx249_0)
                 (try rw [Addr.add_zero'] at hx249_0)
                 replace p249 := eq_true p249
                 replace q249 := eq_true q249
                 go_wp2_with (first | ((with_reducible refine gate_callee (f := 56) rfl ?_); refine sh_call (some 118) Tryd.func56 #[.string (rdOf ByteArray.empty x9_14 0)] ?_; (with_reducible refine (asm_address.calls kj39 (rdOf ByteArray.empty x9_14 0) t250 t251 _ ?side1 A206.out).mono ?_); (case side1 => repeat (first | exact (Kd.C_below HRG3.out HB.out) | (with_reducible refine Kd.C_alloc ?_ _) | (with_reducible refine Kd.C_drewN ?_ _) | (with_reducible refine Kd.C_drew ?_))); rintro e w230 ⟨rfl, hb⟩; refine ⟨_, rfl, ?_⟩; replace HO_9 := Aside0.mk (Kd.R_below (by (with_reducible repeat (first | apply Kd.R_alloc | apply Kd.R_drewN | apply Kd.R_drew)); exact HO_9.out) hb); replace BK211 := sh_k BK211 hb; replace BK212 := sh_k BK212 hb; replace BK221 := sh_k BK221 hb; replace BK226 := sh_k BK226 hb; replace HB := sh_b (w := w) hb; (try clear hb); (try clear hb2); (try clear hk); (try clear hi); obtain ⟨hnb231, hnc231⟩ := nb_ NB226_211; obtain ⟨hnb232, hnc232⟩ := nb_ NB226_212; obtain ⟨hnb233, hnc233⟩ := nb_ NB226_221; have hcz234 := blk_all5 BK226.out; have p252 : 0 ≤ (1 : Int) := (by omega); have q252 : 1 < (x9_14.length : Int) := od_; obtain ⟨ad252, e252, hx252_0⟩ := Kd.at_string (Kd.R_reads' HO_9.out).2.2 1 p252 q252; obtain rfl : ad249 = ad252 := (by injection e252); (try simp only [show (1 : Int).toNat = 1 from rfl, Nat.reduceMul, Nat.reduceEqDiff, Go.Addr.add, ↓reduceIte] at hx252_0); have qi252 : (1 < x9_14.length) = True := eq_true (by omega); (try rw [show ((1 : Int)).toNat = 1 from rfl] at hx252_0); have hn252_0 : ad249.block ≠ gb226 := Kd.own_blk (Kd.R_ne HO_9.out BK226.out (by decide)); have hn252_1 : ad249.block ≠ gb226 := Kd.own_blk (Kd.R_ne HO_9.out BK226.out (by decide)); replace hx252_0 := (cell_far (p := ⟨gb226, 1, none⟩) (ob_ hn252_0) (.int .u8 t250)).trans hx252_0; replace hx252_0 := (cell_far (p := ⟨gb226, 3, none⟩) (ob_ hn252_1) (.int .i16 t251)).trans hx252_0; clear hn252_0; clear hn252_1; replace p252 := eq_true p252; replace q252 := eq_true q252) | ((with_reducible refine gate_callee (f := 55) rfl ?_); refine sh_call (some 126) Tryd.func55 #[.string (rdOf ByteArray.empty x9_14 1), .int .i64 32] ?_; (with_reducible refine (asm_number.calls (rdOf ByteArray.empty x9_14 1) 32 t253 _ ?side1 A217.out).mono ?_); (case side1 => exact Kd.C_below HRG3.out b_now); rintro e w235 ⟨rfl, hb⟩; refine ⟨_, rfl, ?_⟩; replace HO_9 := Aside0.mk (Kd.R_below (by (with_reducible repeat (first | apply Kd.R_alloc | apply Kd.R_drewN | apply Kd.R_drew)); exact (Kd.R_mono (Kd.R_far (p := ⟨gb226, 3, none⟩) (Kd.R_far (p := ⟨gb226, 1, none⟩) (Kd.R_types HO_9.out BK226.out (by decide)) (fun _ hk => hk.2) (.int .u8 t250)) (fun _ hk => hk.2) (.int .i16 t251)) (fun _ h_ => h_.1))) hb); replace BK211 := sh_kp (g := gb211) (t := 49) #[.int .i64 0, .int .i64 0, .int .i64 0, .bool false, .bool false] hb; replace BK212 := sh_kp (g := gb212) (t := 37) #[.int .u8 0, .int .u8 0, .int .u8 0, .int .i16 0, .int .i32 0] hb; replace BK221 := sh_kp (g := gb221) (t := 49) #[.int .i64 t216, .int .i64 t217, .int .i64 t218, .bool t219, .bool t220] hb; replace BK226 := sh_kp (g := gb226) (t := 37) #[.int .u8 0, .int .u8 t250, .int .u8 0, .int .i16 t251, .int .i32 0] hb; replace HB := sh_b (w := w) hb; (try clear hb); (try clear hb2); (try clear hk); (try clear hi); have hcz236 := blk_all5 BK226.out))
                 go_meet
                 case rel => exact ⟨_, (0), (0), (0), (0), (false), (false), (0), (0), (0), (0), (0), (t220), (t250), (0), (t251), (wrap32 (t253)), eq_now, H', ⟨by have := HJ14.out; have := HJ39.out; first | omega | exact Nat.le_refl _⟩, ⟨bk_now⟩, ⟨bk_now⟩, ⟨bk_now⟩, ⟨bk_now⟩, ⟨b_now⟩⟩
               ·rw [if_neg c216] at H
                exact absurd H (by simp)
             ·rw [if_neg c205] at H
              exact absurd H (by simp)
            ·rw [if_neg c204] at H
             obtain ⟨c204b0, c204b1⟩ := eqF c204
             by_cases c237 : t216 = 7
             ·rw [if_pos c237] at H
              obtain ⟨c237b0, c237b1⟩ := eqT c237
              clear c237
              by_cases c238 : 0 < (x9_14.length : Int)
              ·rw [if_pos c238] at H
               have c238b0 : decide (0 < (x9_14.length : Int)) = true := decide_eq_true c238
               have c238b1 : decide (0 < x9_14.length) = true := decide_eq_true (by omega)
               clear c238
               obtain ⟨t255, A239, H⟩ := bs_ H; try dsimp only at H
               by_cases c240 : t255 = 4611686018427387904
               ·rw [if_pos c240] at H
                obtain ⟨c240b0, c240b1⟩ := eqT c240
                clear c240
                simp only [Option.some.injEq, Prod.mk.injEq] at H
                obtain ⟨rfl, rfl, rfl, rfl, rfl, rfl, rfl, rfl, rfl, rfl, rfl⟩ := H
                have p254 : 0 ≤ (0 : Int) := (by omega)
                have q254 : 0 < (x9_14.length : Int) := od_
                obtain ⟨ad254, e254, hx254_0⟩ := Kd.at_string (Kd.R_reads' HO_9.out).2.2 0 p254 q254
                cases e254
                have qi254 : (0 < x9_14.length) = True := eq_true (by omega)
                (try rw [show ((0 : Int)).toNat = 0 from rfl] at hx254_0)
                (try rw [Addr.add_zero'] at hx254_0)
                replace p254 := eq_true p254
                replace q254 := eq_true q254
                go_wp2_with (first | ((with_reducible refine gate_callee (f := 55) rfl ?_); refine sh_callX Tryd.func55 #[.string (rdOf ByteArray.empty x9_14 0), .int .i64 16] ?_; (with_reducible refine (asm_number.bad (rdOf ByteArray.empty x9_14 0) 16 t255 _ ?side1 A239.out (beq_iff_eq.mp c240b0)).mono ?_); (case side1 => repeat (first | exact (Kd.C_below HRG3.out HB.out) | (with_reducible refine Kd.C_alloc ?_ _) | (with_reducible refine Kd.C_drewN ?_ _) | (with_reducible refine Kd.C_drew ?_))); rintro e w241 ⟨hbad, hb⟩; refine ⟨_, hbad, ?_⟩; replace HB := sh_b (w := w) hb))
                first | exact ⟨rfl, .inl ⟨by first | rfl | trivial, rfl⟩, b_now⟩ | exact ⟨rfl, rfl, b_now⟩
               ·rw [if_neg c240] at H
                obtain ⟨c240b0, c240b1⟩ := eqF c240
                have H' := Aside0.mk H
                clear H
                have p254 : 0 ≤ (0 : Int) := (by omega)
                have q254 : 0 < (x9_14.length : Int) := od_
                obtain ⟨ad254, e254, hx254_0⟩ := Kd.at_string (Kd.R_reads' HO_9.out).2.2 0 p254 q254
                cases e254
                have qi254 : (0 < x9_14.length) = True := eq_true (by omega)
                (try rw [show ((0 : Int)).toNat = 0 from rfl] at hx254_0)
                (try rw [Addr.add_zero'] at hx254_0)
                replace p254 := eq_true p254
                replace q254 := eq_true q254
                go_wp2_with (first | ((with_reducible refine gate_callee (f := 55) rfl ?_); refine sh_call (some 134) Tryd.func55 #[.string (rdOf ByteArray.empty x9_14 0), .int .i64 16] ?_; (with_reducible refine (asm_number.calls (rdOf ByteArray.empty x9_14 0) 16 t255 _ ?side1 A239.out).mono ?_); (case side1 => repeat (first | exact (Kd.C_below HRG3.out HB.out) | (with_reducible refine Kd.C_alloc ?_ _) | (with_reducible refine Kd.C_drewN ?_ _) | (with_reducible refine Kd.C_drew ?_))); rintro e w249 ⟨rfl, hb⟩; refine ⟨_, rfl, ?_⟩; replace HO_9 := Aside0.mk (Kd.R_below (by (with_reducible repeat (first | apply Kd.R_alloc | apply Kd.R_drewN | apply Kd.R_drew)); exact HO_9.out) hb); replace BK211 := sh_k BK211 hb; replace BK212 := sh_k BK212 hb; replace BK221 := sh_k BK221 hb; replace BK226 := sh_k BK226 hb; replace HB := sh_b (w := w) hb; (try clear hb); (try clear hb2); (try clear hk); (try clear hi); obtain ⟨hnb250, hnc250⟩ := nb_ NB226_211; obtain ⟨hnb251, hnc251⟩ := nb_ NB226_212; obtain ⟨hnb252, hnc252⟩ := nb_ NB226_221; have hcz253 := blk_all5 BK226.out))
                go_meet
                case rel => exact ⟨_, (0), (0), (0), (0), (false), (false), (0), (0), (0), (0), (0), (t220), (0), (0), (IntKind.i16.wrap (t255)), (0), eq_now, H', ⟨by have := HJ14.out; have := HJ39.out; first | omega | exact Nat.le_refl _⟩, ⟨bk_now⟩, ⟨bk_now⟩, ⟨bk_now⟩, ⟨bk_now⟩, ⟨b_now⟩⟩
              ·rw [if_neg c238] at H
               exact absurd H (by simp)
             ·rw [if_neg c237] at H
              obtain ⟨c237b0, c237b1⟩ := eqF c237
              by_cases c254 : t216 = 8
              ·rw [if_pos c254] at H
               obtain ⟨c254b0, c254b1⟩ := eqT c254
               clear c254
               by_cases c255 : 0 < (x9_14.length : Int)
               ·rw [if_pos c255] at H
                have c255b0 : decide (0 < (x9_14.length : Int)) = true := decide_eq_true c255
                have c255b1 : decide (0 < x9_14.length) = true := decide_eq_true (by omega)
                clear c255
                obtain ⟨t257, A256, H⟩ := bs_ H; try dsimp only at H
                by_cases c257 : t257 = 4611686018427387904
                ·rw [if_pos c257] at H
                 obtain ⟨c257b0, c257b1⟩ := eqT c257
                 clear c257
                 simp only [Option.some.injEq, Prod.mk.injEq] at H
                 obtain ⟨rfl, rfl, rfl, rfl, rfl, rfl, rfl, rfl, rfl, rfl, rfl⟩ := H
                 have p256 : 0 ≤ (0 : Int) := (by omega)
                 have q256 : 0 < (x9_14.length : Int) := od_
                 obtain ⟨ad256, e256, hx256_0⟩ := Kd.at_string (Kd.R_reads' HO_9.out).2.2 0 p256 q256
                 cases e256
                 have qi256 : (0 < x9_14.length) = True := eq_true (by omega)
                 (try rw [show ((0 : Int)).toNat = 0 from rfl] at hx256_0)
                 (try rw [Addr.add_zero'] at hx256_0)
                 replace p256 := eq_true p256
                 replace q256 := eq_true q256
                 go_wp2_with (first | ((with_reducible refine gate_callee (f := 55) rfl ?_); refine sh_callX Tryd.func55 #[.string (rdOf ByteArray.empty x9_14 0), .int .i64 32] ?_; (with_reducible refine (asm_number.bad (rdOf ByteArray.empty x9_14 0) 32 t257 _ ?side1 A256.out (beq_iff_eq.mp c257b0)).mono ?_); (case side1 => repeat (first | exact (Kd.C_below HRG3.out HB.out) | (with_reducible refine Kd.C_alloc ?_ _) | (with_reducible refine Kd.C_drewN ?_ _) | (with_reducible refine Kd.C_drew ?_))); rintro e w258 ⟨hbad, hb⟩; refine ⟨_, hbad, ?_⟩; replace HB := sh_b (w := w) hb))
                 first | exact ⟨rfl, .inl ⟨by first | rfl | trivial, rfl⟩, b_now⟩ | exact ⟨rfl, rfl, b_now⟩
                ·rw [if_neg c257] at H
                 obtain ⟨c257b0, c257b1⟩ := eqF c257
                 have H' := Aside0.mk H
                 clear H
                 have p256 : 0 ≤ (0 : Int) := (by omega)
                 have q256 : 0 < (x9_14.length : Int) := od_
                 obtain ⟨ad256, e256, hx256_0⟩ := Kd.at_string (Kd.R_reads' HO_9.out).2.2 0 p256 q256
                 cases e256
                 have qi256 : (0 < x9_14.length) = True := eq_true (by omega)
                 (try rw [show ((0 : Int)).toNat = 0 from rfl] at hx256_0)
                 (try rw [Addr.add_zero'] at hx256_0)
                 replace p256 := eq_true p256
                 replace q256 := eq_true q256
                 go_wp2_with (first | ((with_reducible refine gate_callee (f := 55) rfl ?_); refine sh_call (some 142) Tryd.func55 #[.string (rdOf ByteArray.empty x9_14 0), .int .i64 32] ?_; (with_reducible refine (asm_number.calls (rdOf ByteArray.empty x9_14 0) 32 t257 _ ?side1 A256.out).mono ?_); (case side1 => repeat (first | exact (Kd.C_below HRG3.out HB.out) | (with_reducible refine Kd.C_alloc ?_ _) | (with_reducible refine Kd.C_drewN ?_ _) | (with_reducible refine Kd.C_drew ?_))); rintro e w266 ⟨rfl, hb⟩; refine ⟨_, rfl, ?_⟩; replace HO_9 := Aside0.mk (Kd.R_below (by (with_reducible repeat (first | apply Kd.R_alloc | apply Kd.R_drewN | apply Kd.R_drew)); exact HO_9.out) hb); replace BK211 := sh_k BK211 hb; replace BK212 := sh_k BK212 hb; replace BK221 := sh_k BK221 hb; replace BK226 := sh_k BK226 hb; replace HB := sh_b (w := w) hb; (try clear hb); (try clear hb2); (try clear hk); (try clear hi); obtain ⟨hnb267, hnc267⟩ := nb_ NB226_211; obtain ⟨hnb268, hnc268⟩ := nb_ NB226_212; obtain ⟨hnb269, hnc269⟩ := nb_ NB226_221; have hcz270 := blk_all5 BK226.out))
                 go_meet
                 case rel => exact ⟨_, (0), (0), (0), (0), (false), (false), (0), (0), (0), (0), (0), (t220), (0), (0), (0), (wrap32 (t257)), eq_now, H', ⟨by have := HJ14.out; have := HJ39.out; first | omega | exact Nat.le_refl _⟩, ⟨bk_now⟩, ⟨bk_now⟩, ⟨bk_now⟩, ⟨bk_now⟩, ⟨b_now⟩⟩
               ·rw [if_neg c255] at H
                exact absurd H (by simp)
              ·rw [if_neg c254] at H
               obtain ⟨c254b0, c254b1⟩ := eqF c254
               by_cases c271 : t216 = 10
               ·rw [if_pos c271] at H
                obtain ⟨c271b0, c271b1⟩ := eqT c271
                clear c271
                by_cases c272 : 0 < (x9_14.length : Int)
                ·rw [if_pos c272] at H
                 have c272b0 : decide (0 < (x9_14.length : Int)) = true := decide_eq_true c272
                 have c272b1 : decide (0 < x9_14.length) = true := decide_eq_true (by omega)
                 clear c272
                 obtain ⟨t259, A273, H⟩ := bs_ H; try dsimp only at H
                 by_cases c274 : t259 = 256
                 ·rw [if_pos c274] at H
                  obtain ⟨c274b0, c274b1⟩ := eqT c274
                  clear c274
                  simp only [Option.some.injEq, Prod.mk.injEq] at H
                  obtain ⟨rfl, rfl, rfl, rfl, rfl, rfl, rfl, rfl, rfl, rfl, rfl⟩ := H
                  have p258 : 0 ≤ (0 : Int) := (by omega)
                  have q258 : 0 < (x9_14.length : Int) := od_
                  obtain ⟨ad258, e258, hx258_0⟩ := Kd.at_string (Kd.R_reads' HO_9.out).2.2 0 p258 q258
                  cases e258
                  have qi258 : (0 < x9_14.length) = True := eq_true (by omega)
                  (try rw [show ((0 : Int)).toNat = 0 from rfl] at hx258_0)
                  (try rw [Addr.add_zero'] at hx258_0)
                  replace p258 := eq_true p258
                  replace q258 := eq_true q258
                  go_wp2_with (first | ((with_reducible refine gate_callee (f := 53) rfl ?_); refine sh_callX Tryd.func53 #[.string (rdOf ByteArray.empty x9_14 0)] ?_; (with_reducible refine (asm_register.bad (rdOf ByteArray.empty x9_14 0) t259 _ ?side1 A273.out (beq_iff_eq.mp c274b0)).mono ?_); (case side1 => repeat (first | exact (Kd.C_below HRG3.out HB.out) | (with_reducible refine Kd.C_alloc ?_ _) | (with_reducible refine Kd.C_drewN ?_ _) | (with_reducible refine Kd.C_drew ?_))); rintro e w275 ⟨hbad, hb⟩; refine ⟨_, hbad, ?_⟩; replace HB := sh_b (w := w) hb))
                  first | exact ⟨rfl, .inl ⟨by first | rfl | trivial, rfl⟩, b_now⟩ | exact ⟨rfl, rfl, b_now⟩
                 ·rw [if_neg c274] at H
                  obtain ⟨c274b0, c274b1⟩ := eqF c274
                  by_cases c283 : 1 < (x9_14.length : Int)
                  ·rw [if_pos c283] at H
                   have c283b0 : decide (1 < (x9_14.length : Int)) = true := decide_eq_true c283
                   have c283b1 : decide (1 < x9_14.length) = true := decide_eq_true (by omega)
                   clear c283
                   obtain ⟨⟨t261, t262⟩, A284, H⟩ := bs_ H; try dsimp only at H
                   rcases t262 with _ | q263
                   ·have H1 : (asm_read.j3 kj39 (wrap32 ((t261 / 4294967296) % 4294967296)) t216 t217 t218 t219 t220 0 t259 0 0 (wrap32 ((t261) % 4294967296))) = some (r1, r2, r3, r4, r5, r6, r7, r8, r9, r10, r11) := by rw [if_pos (show (none : Option Int).isNone = true by rfl)] at H; exact H
                    clear H
                    have H := H1
                    clear H1
                    try simp only [errW_none, errW_some]
                    have H' := Aside0.mk H
                    clear H
                    have p258 : 0 ≤ (0 : Int) := (by omega)
                    have q258 : 0 < (x9_14.length : Int) := od_
                    obtain ⟨ad258, e258, hx258_0⟩ := Kd.at_string (Kd.R_reads' HO_9.out).2.2 0 p258 q258
                    cases e258
                    have qi258 : (0 < x9_14.length) = True := eq_true (by omega)
                    (try rw [show ((0 : Int)).toNat = 0 from rfl] at hx258_0)
                    (try rw [Addr.add_zero'] at hx258_0)
                    replace p258 := eq_true p258
                    replace q258 := eq_true q258
                    go_wp2_with (first | ((with_reducible refine gate_callee (f := 53) rfl ?_); refine sh_call (some 150) Tryd.func53 #[.string (rdOf ByteArray.empty x9_14 0)] ?_; (with_reducible refine (asm_register.calls (rdOf ByteArray.empty x9_14 0) t259 _ ?side1 A273.out).mono ?_); (case side1 => repeat (first | exact (Kd.C_below HRG3.out HB.out) | (with_reducible refine Kd.C_alloc ?_ _) | (with_reducible refine Kd.C_drewN ?_ _) | (with_reducible refine Kd.C_drew ?_))); rintro e w285 ⟨rfl, hb⟩; refine ⟨_, rfl, ?_⟩; replace HO_9 := Aside0.mk (Kd.R_below (by (with_reducible repeat (first | apply Kd.R_alloc | apply Kd.R_drewN | apply Kd.R_drew)); exact HO_9.out) hb); replace BK211 := sh_k BK211 hb; replace BK212 := sh_k BK212 hb; replace BK221 := sh_k BK221 hb; replace BK226 := sh_k BK226 hb; replace HB := sh_b (w := w) hb; (try clear hb); (try clear hb2); (try clear hk); (try clear hi); obtain ⟨hnb286, hnc286⟩ := nb_ NB226_211; obtain ⟨hnb287, hnc287⟩ := nb_ NB226_212; obtain ⟨hnb288, hnc288⟩ := nb_ NB226_221; have hcz289 := blk_all5 BK226.out; have p260 : 0 ≤ (1 : Int) := (by omega); have q260 : 1 < (x9_14.length : Int) := od_; obtain ⟨ad260, e260, hx260_0⟩ := Kd.at_string (Kd.R_reads' HO_9.out).2.2 1 p260 q260; obtain rfl : ad258 = ad260 := (by injection e260); (try simp only [show (1 : Int).toNat = 1 from rfl, Nat.reduceMul, Nat.reduceEqDiff, Go.Addr.add, ↓reduceIte] at hx260_0); have qi260 : (1 < x9_14.length) = True := eq_true (by omega); (try rw [show ((1 : Int)).toNat = 1 from rfl] at hx260_0); have hn260_0 : ad258.block ≠ gb226 := Kd.own_blk (Kd.R_ne HO_9.out BK226.out (by decide)); replace hx260_0 := (cell_far (p := ⟨gb226, 1, none⟩) (ob_ hn260_0) (.int .u8 t259)).trans hx260_0; clear hn260_0; replace p260 := eq_true p260; replace q260 := eq_true q260) | ((with_reducible refine gate_callee (f := 57) rfl ?_); refine sh_call (some 156) Tryd.func57 #[.string (rdOf ByteArray.empty x9_14 1), .int .i64 10, .int .i64 64] ?_; (with_reducible refine (strconv_ParseUint_57.calls (rdOf ByteArray.empty x9_14 1) 10 64 t261 none _ ?side1 A284.out).mono ?_); (case side1 => exact Kd.C_below HRG3.out b_now); rintro e w290 ⟨rfl, hb⟩; refine ⟨_, rfl, ?_⟩; replace HO_9 := Aside0.mk (Kd.R_below (by (with_reducible repeat (first | apply Kd.R_alloc | apply Kd.R_drewN | apply Kd.R_drew)); exact (Kd.R_mono (Kd.R_far (p := ⟨gb226, 1, none⟩) (Kd.R_types HO_9.out BK226.out (by decide)) (fun _ hk => hk.2) (.int .u8 t259)) (fun _ h_ => h_.1))) hb); replace BK211 := sh_kp (g := gb211) (t := 49) #[.int .i64 0, .int .i64 0, .int .i64 0, .bool false, .bool false] hb; replace BK212 := sh_kp (g := gb212) (t := 37) #[.int .u8 0, .int .u8 0, .int .u8 0, .int .i16 0, .int .i32 0] hb; replace BK221 := sh_kp (g := gb221) (t := 49) #[.int .i64 t216, .int .i64 t217, .int .i64 t218, .bool t219, .bool t220] hb; replace BK226 := sh_kp (g := gb226) (t := 37) #[.int .u8 0, .int .u8 t259, .int .u8 0, .int .i16 0, .int .i32 0] hb; replace HB := sh_b (w := w) hb; (try clear hb); (try clear hb2); (try clear hk); (try clear hi); (try simp only [errW_none, errW_some]); have hcz291 := blk_all5 BK226.out))
                    go_meet
                    case rel => exact ⟨_, (wrap32 ((t261 / 4294967296) % 4294967296)), (0), (0), (0), (false), (false), (0), (0), (0), (0), (0), (t220), (t259), (0), (0), (wrap32 ((t261) % 4294967296)), eq_now, H', ⟨by have := HJ14.out; have := HJ39.out; first | omega | exact Nat.le_refl _⟩, ⟨bk_now⟩, ⟨bk_now⟩, ⟨bk_now⟩, ⟨bk_now⟩, ⟨b_now⟩⟩
                   ·have H1 : (some ((-1), 0, 0, false, false, 0, 0, 0, 0, 0, 0)) = some (r1, r2, r3, r4, r5, r6, r7, r8, r9, r10, r11) := by rw [if_neg (show ¬ (some q263).isNone = true by simp)] at H; exact H
                    clear H
                    have H := H1
                    clear H1
                    try simp only [errW_none, errW_some]
                    simp only [Option.some.injEq, Prod.mk.injEq] at H
                    obtain ⟨rfl, rfl, rfl, rfl, rfl, rfl, rfl, rfl, rfl, rfl, rfl⟩ := H
                    have p258 : 0 ≤ (0 : Int) := (by omega)
                    have q258 : 0 < (x9_14.length : Int) := od_
                    obtain ⟨ad258, e258, hx258_0⟩ := Kd.at_string (Kd.R_reads' HO_9.out).2.2 0 p258 q258
                    cases e258
                    have qi258 : (0 < x9_14.length) = True := eq_true (by omega)
                    (try rw [show ((0 : Int)).toNat = 0 from rfl] at hx258_0)
                    (try rw [Addr.add_zero'] at hx258_0)
                    replace p258 := eq_true p258
                    replace q258 := eq_true q258
                    go_wp2_with (first | ((with_reducible refine gate_callee (f := 53) rfl ?_); refine sh_call (some 150) Tryd.func53 #[.string (rdOf ByteArray.empty x9_14 0)] ?_; (with_reducible refine (asm_register.calls (rdOf ByteArray.empty x9_14 0) t259 _ ?side1 A273.out).mono ?_); (case side1 => repeat (first | exact (Kd.C_below HRG3.out HB.out) | (with_reducible refine Kd.C_alloc ?_ _) | (with_reducible refine Kd.C_drewN ?_ _) | (with_reducible refine Kd.C_drew ?_))); rintro e w292 ⟨rfl, hb⟩; refine ⟨_, rfl, ?_⟩; replace HO_9 := Aside0.mk (Kd.R_below (by (with_reducible repeat (first | apply Kd.R_alloc | apply Kd.R_drewN | apply Kd.R_drew)); exact HO_9.out) hb); replace BK211 := sh_k BK211 hb; replace BK212 := sh_k BK212 hb; replace BK221 := sh_k BK221 hb; replace BK226 := sh_k BK226 hb; replace HB := sh_b (w := w) hb; (try clear hb); (try clear hb2); (try clear hk); (try clear hi); obtain ⟨hnb293, hnc293⟩ := nb_ NB226_211; obtain ⟨hnb294, hnc294⟩ := nb_ NB226_212; obtain ⟨hnb295, hnc295⟩ := nb_ NB226_221; have hcz296 := blk_all5 BK226.out; have p260 : 0 ≤ (1 : Int) := (by omega); have q260 : 1 < (x9_14.length : Int) := od_; obtain ⟨ad260, e260, hx260_0⟩ := Kd.at_string (Kd.R_reads' HO_9.out).2.2 1 p260 q260; obtain rfl : ad258 = ad260 := (by injection e260); (try simp only [show (1 : Int).toNat = 1 from rfl, Nat.reduceMul, Nat.reduceEqDiff, Go.Addr.add, ↓reduceIte] at hx260_0); have qi260 : (1 < x9_14.length) = True := eq_true (by omega); (try rw [show ((1 : Int)).toNat = 1 from rfl] at hx260_0); have hn260_0 : ad258.block ≠ gb226 := Kd.own_blk (Kd.R_ne HO_9.out BK226.out (by decide)); replace hx260_0 := (cell_far (p := ⟨gb226, 1, none⟩) (ob_ hn260_0) (.int .u8 t259)).trans hx260_0; clear hn260_0; replace p260 := eq_true p260; replace q260 := eq_true q260) | ((with_reducible refine gate_callee (f := 57) rfl ?_); refine sh_call (some 156) Tryd.func57 #[.string (rdOf ByteArray.empty x9_14 1), .int .i64 10, .int .i64 64] ?_; (with_reducible refine (strconv_ParseUint_57.bad (rdOf ByteArray.empty x9_14 1) 10 64 t261 (some q263) _ ?side1 A284.out (by simp)).mono ?_); (case side1 => exact Kd.C_below HRG3.out b_now); rintro e w297 ⟨⟨v_, N_, rfl⟩, hb⟩; refine ⟨_, rfl, ?_⟩; replace HO_9 := Aside0.mk (Kd.R_below (by (with_reducible repeat (first | apply Kd.R_alloc | apply Kd.R_drewN | apply Kd.R_drew)); exact (Kd.R_mono (Kd.R_far (p := ⟨gb226, 1, none⟩) (Kd.R_types HO_9.out BK226.out (by decide)) (fun _ hk => hk.2) (.int .u8 t259)) (fun _ h_ => h_.1))) hb); replace BK211 := sh_kp (g := gb211) (t := 49) #[.int .i64 0, .int .i64 0, .int .i64 0, .bool false, .bool false] hb; replace BK212 := sh_kp (g := gb212) (t := 37) #[.int .u8 0, .int .u8 0, .int .u8 0, .int .i16 0, .int .i32 0] hb; replace BK221 := sh_kp (g := gb221) (t := 49) #[.int .i64 t216, .int .i64 t217, .int .i64 t218, .bool t219, .bool t220] hb; replace BK226 := sh_kp (g := gb226) (t := 37) #[.int .u8 0, .int .u8 t259, .int .u8 0, .int .i16 0, .int .i32 0] hb; replace HB := sh_b (w := w) hb; (try clear hb); (try clear hb2); (try clear hk); (try clear hi); (try simp only [errW_none, errW_some]); obtain ⟨hnb298, hnc298⟩ := nb_ NB211_212; obtain ⟨hnb299, hnc299⟩ := nb_ NB211_221; have hcz300 := blk_all5 BK211.out; obtain ⟨hnb301, hnc301⟩ := nb_ NB212_221; have hcz302 := blk_all5 BK212.out))
                    first | exact ⟨rfl, .inl ⟨by first | rfl | trivial, rfl⟩, b_now⟩ | exact ⟨rfl, rfl, b_now⟩
                  ·rw [if_neg c283] at H
                   exact absurd H (by simp)
                ·rw [if_neg c272] at H
                 exact absurd H (by simp)
               ·rw [if_neg c271] at H
                obtain ⟨c271b0, c271b1⟩ := eqF c271
                by_cases c303 : t216 = 11
                ·rw [if_pos c303] at H
                 obtain ⟨c303b0, c303b1⟩ := eqT c303
                 clear c303
                 by_cases c304 : 0 < (x9_14.length : Int)
                 ·rw [if_pos c304] at H
                  have c304b0 : decide (0 < (x9_14.length : Int)) = true := decide_eq_true c304
                  have c304b1 : decide (0 < x9_14.length) = true := decide_eq_true (by omega)
                  clear c304
                  obtain ⟨t265, A305, H⟩ := bs_ H; try dsimp only at H
                  by_cases c306 : t265 = 256
                  ·rw [if_pos c306] at H
                   obtain ⟨c306b0, c306b1⟩ := eqT c306
                   clear c306
                   simp only [Option.some.injEq, Prod.mk.injEq] at H
                   obtain ⟨rfl, rfl, rfl, rfl, rfl, rfl, rfl, rfl, rfl, rfl, rfl⟩ := H
                   have p264 : 0 ≤ (0 : Int) := (by omega)
                   have q264 : 0 < (x9_14.length : Int) := od_
                   obtain ⟨ad264, e264, hx264_0⟩ := Kd.at_string (Kd.R_reads' HO_9.out).2.2 0 p264 q264
                   cases e264
                   have qi264 : (0 < x9_14.length) = True := eq_true (by omega)
                   (try rw [show ((0 : Int)).toNat = 0 from rfl] at hx264_0)
                   (try rw [Addr.add_zero'] at hx264_0)
                   replace p264 := eq_true p264
                   replace q264 := eq_true q264
                   go_wp2_with (first | ((with_reducible refine gate_callee (f := 53) rfl ?_); refine sh_callX Tryd.func53 #[.string (rdOf ByteArray.empty x9_14 0)] ?_; (with_reducible refine (asm_register.bad (rdOf ByteArray.empty x9_14 0) t265 _ ?side1 A305.out (beq_iff_eq.mp c306b0)).mono ?_); (case side1 => repeat (first | exact (Kd.C_below HRG3.out HB.out) | (with_reducible refine Kd.C_alloc ?_ _) | (with_reducible refine Kd.C_drewN ?_ _) | (with_reducible refine Kd.C_drew ?_))); rintro e w307 ⟨hbad, hb⟩; refine ⟨_, hbad, ?_⟩; replace HB := sh_b (w := w) hb))
                   first | exact ⟨rfl, .inl ⟨by first | rfl | trivial, rfl⟩, b_now⟩ | exact ⟨rfl, rfl, b_now⟩
                  ·rw [if_neg c306] at H
                   obtain ⟨c306b0, c306b1⟩ := eqF c306
                   by_cases c315 : 1 < (x9_14.length : Int)
                   ·rw [if_pos c315] at H
                    have c315b0 : decide (1 < (x9_14.length : Int)) = true := decide_eq_true c315
                    have c315b1 : decide (1 < x9_14.length) = true := decide_eq_true (by omega)
                    clear c315
                    obtain ⟨t267, A316, H⟩ := bs_ H; try dsimp only at H
                    by_cases c317 : t267 = 4611686018427387904
                    ·rw [if_pos c317] at H
                     obtain ⟨c317b0, c317b1⟩ := eqT c317
                     clear c317
                     simp only [Option.some.injEq, Prod.mk.injEq] at H
                     obtain ⟨rfl, rfl, rfl, rfl, rfl, rfl, rfl, rfl, rfl, rfl, rfl⟩ := H
                     have p264 : 0 ≤ (0 : Int) := (by omega)
                     have q264 : 0 < (x9_14.length : Int) := od_
                     obtain ⟨ad264, e264, hx264_0⟩ := Kd.at_string (Kd.R_reads' HO_9.out).2.2 0 p264 q264
                     cases e264
                     have qi264 : (0 < x9_14.length) = True := eq_true (by omega)
                     (try rw [show ((0 : Int)).toNat = 0 from rfl] at hx264_0)
                     (try rw [Addr.add_zero'] at hx264_0)
                     replace p264 := eq_true p264
                     replace q264 := eq_true q264
                     go_wp2_with (first | ((with_reducible refine gate_callee (f := 53) rfl ?_); refine sh_call (some 176) Tryd.func53 #[.string (rdOf ByteArray.empty x9_14 0)] ?_; (with_reducible refine (asm_register.calls (rdOf ByteArray.empty x9_14 0) t265 _ ?side1 A305.out).mono ?_); (case side1 => repeat (first | exact (Kd.C_below HRG3.out HB.out) | (with_reducible refine Kd.C_alloc ?_ _) | (with_reducible refine Kd.C_drewN ?_ _) | (with_reducible refine Kd.C_drew ?_))); rintro e w318 ⟨rfl, hb⟩; refine ⟨_, rfl, ?_⟩; replace HO_9 := Aside0.mk (Kd.R_below (by (with_reducible repeat (first | apply Kd.R_alloc | apply Kd.R_drewN | apply Kd.R_drew)); exact HO_9.out) hb); replace BK211 := sh_k BK211 hb; replace BK212 := sh_k BK212 hb; replace BK221 := sh_k BK221 hb; replace BK226 := sh_k BK226 hb; replace HB := sh_b (w := w) hb; (try clear hb); (try clear hb2); (try clear hk); (try clear hi); obtain ⟨hnb319, hnc319⟩ := nb_ NB226_211; obtain ⟨hnb320, hnc320⟩ := nb_ NB226_212; obtain ⟨hnb321, hnc321⟩ := nb_ NB226_221; have hcz322 := blk_all5 BK226.out; have p266 : 0 ≤ (1 : Int) := (by omega); have q266 : 1 < (x9_14.length : Int) := od_; obtain ⟨ad266, e266, hx266_0⟩ := Kd.at_string (Kd.R_reads' HO_9.out).2.2 1 p266 q266; obtain rfl : ad264 = ad266 := (by injection e266); (try simp only [show (1 : Int).toNat = 1 from rfl, Nat.reduceMul, Nat.reduceEqDiff, Go.Addr.add, ↓reduceIte] at hx266_0); have qi266 : (1 < x9_14.length) = True := eq_true (by omega); (try rw [show ((1 : Int)).toNat = 1 from rfl] at hx266_0); have hn266_0 : ad264.block ≠ gb226 := Kd.own_blk (Kd.R_ne HO_9.out BK226.out (by decide)); replace hx266_0 := (cell_far (p := ⟨gb226, 1, none⟩) (ob_ hn266_0) (.int .u8 t265)).trans hx266_0; clear hn266_0; replace p266 := eq_true p266; replace q266 := eq_true q266) | ((with_reducible refine gate_callee (f := 55) rfl ?_); refine sh_callX Tryd.func55 #[.string (rdOf ByteArray.empty x9_14 1), .int .i64 32] ?_; (with_reducible refine (asm_number.bad (rdOf ByteArray.empty x9_14 1) 32 t267 _ ?side1 A316.out (beq_iff_eq.mp c317b0)).mono ?_); (case side1 => exact Kd.C_below HRG3.out b_now); rintro e w323 ⟨hbad, hb⟩; refine ⟨_, hbad, ?_⟩; replace HB := sh_b (w := w) hb))
                     first | exact ⟨rfl, .inl ⟨by first | rfl | trivial, rfl⟩, b_now⟩ | exact ⟨rfl, rfl, b_now⟩
                    ·rw [if_neg c317] at H
                     obtain ⟨c317b0, c317b1⟩ := eqF c317
                     have H' := Aside0.mk H
                     clear H
                     have p264 : 0 ≤ (0 : Int) := (by omega)
                     have q264 : 0 < (x9_14.length : Int) := od_
                     obtain ⟨ad264, e264, hx264_0⟩ := Kd.at_string (Kd.R_reads' HO_9.out).2.2 0 p264 q264
                     cases e264
                     have qi264 : (0 < x9_14.length) = True := eq_true (by omega)
                     (try rw [show ((0 : Int)).toNat = 0 from rfl] at hx264_0)
                     (try rw [Addr.add_zero'] at hx264_0)
                     replace p264 := eq_true p264
                     replace q264 := eq_true q264
                     go_wp2_with (first | ((with_reducible refine gate_callee (f := 53) rfl ?_); refine sh_call (some 176) Tryd.func53 #[.string (rdOf ByteArray.empty x9_14 0)] ?_; (with_reducible refine (asm_register.calls (rdOf ByteArray.empty x9_14 0) t265 _ ?side1 A305.out).mono ?_); (case side1 => repeat (first | exact (Kd.C_below HRG3.out HB.out) | (with_reducible refine Kd.C_alloc ?_ _) | (with_reducible refine Kd.C_drewN ?_ _) | (with_reducible refine Kd.C_drew ?_))); rintro e w329 ⟨rfl, hb⟩; refine ⟨_, rfl, ?_⟩; replace HO_9 := Aside0.mk (Kd.R_below (by (with_reducible repeat (first | apply Kd.R_alloc | apply Kd.R_drewN | apply Kd.R_drew)); exact HO_9.out) hb); replace BK211 := sh_k BK211 hb; replace BK212 := sh_k BK212 hb; replace BK221 := sh_k BK221 hb; replace BK226 := sh_k BK226 hb; replace HB := sh_b (w := w) hb; (try clear hb); (try clear hb2); (try clear hk); (try clear hi); obtain ⟨hnb330, hnc330⟩ := nb_ NB226_211; obtain ⟨hnb331, hnc331⟩ := nb_ NB226_212; obtain ⟨hnb332, hnc332⟩ := nb_ NB226_221; have hcz333 := blk_all5 BK226.out; have p266 : 0 ≤ (1 : Int) := (by omega); have q266 : 1 < (x9_14.length : Int) := od_; obtain ⟨ad266, e266, hx266_0⟩ := Kd.at_string (Kd.R_reads' HO_9.out).2.2 1 p266 q266; obtain rfl : ad264 = ad266 := (by injection e266); (try simp only [show (1 : Int).toNat = 1 from rfl, Nat.reduceMul, Nat.reduceEqDiff, Go.Addr.add, ↓reduceIte] at hx266_0); have qi266 : (1 < x9_14.length) = True := eq_true (by omega); (try rw [show ((1 : Int)).toNat = 1 from rfl] at hx266_0); have hn266_0 : ad264.block ≠ gb226 := Kd.own_blk (Kd.R_ne HO_9.out BK226.out (by decide)); replace hx266_0 := (cell_far (p := ⟨gb226, 1, none⟩) (ob_ hn266_0) (.int .u8 t265)).trans hx266_0; clear hn266_0; replace p266 := eq_true p266; replace q266 := eq_true q266) | ((with_reducible refine gate_callee (f := 55) rfl ?_); refine sh_call (some 181) Tryd.func55 #[.string (rdOf ByteArray.empty x9_14 1), .int .i64 32] ?_; (with_reducible refine (asm_number.calls (rdOf ByteArray.empty x9_14 1) 32 t267 _ ?side1 A316.out).mono ?_); (case side1 => exact Kd.C_below HRG3.out b_now); rintro e w334 ⟨rfl, hb⟩; refine ⟨_, rfl, ?_⟩; replace HO_9 := Aside0.mk (Kd.R_below (by (with_reducible repeat (first | apply Kd.R_alloc | apply Kd.R_drewN | apply Kd.R_drew)); exact (Kd.R_mono (Kd.R_far (p := ⟨gb226, 1, none⟩) (Kd.R_types HO_9.out BK226.out (by decide)) (fun _ hk => hk.2) (.int .u8 t265)) (fun _ h_ => h_.1))) hb); replace BK211 := sh_kp (g := gb211) (t := 49) #[.int .i64 0, .int .i64 0, .int .i64 0, .bool false, .bool false] hb; replace BK212 := sh_kp (g := gb212) (t := 37) #[.int .u8 0, .int .u8 0, .int .u8 0, .int .i16 0, .int .i32 0] hb; replace BK221 := sh_kp (g := gb221) (t := 49) #[.int .i64 t216, .int .i64 t217, .int .i64 t218, .bool t219, .bool t220] hb; replace BK226 := sh_kp (g := gb226) (t := 37) #[.int .u8 0, .int .u8 t265, .int .u8 0, .int .i16 0, .int .i32 0] hb; replace HB := sh_b (w := w) hb; (try clear hb); (try clear hb2); (try clear hk); (try clear hi); have hcz335 := blk_all5 BK226.out))
                     go_meet
                     case rel => exact ⟨_, (0), (0), (0), (0), (false), (false), (0), (0), (0), (0), (0), (t220), (t265), (0), (0), (wrap32 (t267)), eq_now, H', ⟨by have := HJ14.out; have := HJ39.out; first | omega | exact Nat.le_refl _⟩, ⟨bk_now⟩, ⟨bk_now⟩, ⟨bk_now⟩, ⟨bk_now⟩, ⟨b_now⟩⟩
                   ·rw [if_neg c315] at H
                    exact absurd H (by simp)
                 ·rw [if_neg c304] at H
                  exact absurd H (by simp)
                ·rw [if_neg c303] at H
                 obtain ⟨c303b0, c303b1⟩ := eqF c303
                 have H' := Aside0.mk H
                 clear H
                 go_wp2
                 go_meet
                 case rel => exact ⟨_, (0), (0), (0), (0), (false), (false), (0), (0), (0), (0), (0), (t220), (0), (0), (0), (0), eq_now, H', ⟨by have := HJ14.out; have := HJ39.out; first | omega | exact Nat.le_refl _⟩, ⟨bk_now⟩, ⟨bk_now⟩, ⟨bk_now⟩, ⟨bk_now⟩, ⟨b_now⟩⟩
     case rest =>
      clear HC28
      obtain ⟨kq, x11_27, x212000_27, x212001_27, x212002_27, x212003_27, x212004_27, x213000_27, x213001_27, x213002_27, x213003_27, x213004_27, x222004_27, x227001_27, x227002_27, x227003_27, x227004_27, rfl, HA, HJ27, BK211, BK212, BK221, BK226, HB⟩ := hcut
      cases kq with
      | zero => exact absurd HA.out (by simp [asm_read.j3])
      | succ kj27 =>
       have H := HA.out
       clear HA
       simp only [asm_read.j3] at H
       simp only [Option.some.injEq, Prod.mk.injEq] at H
       obtain ⟨rfl, rfl, rfl, rfl, rfl, rfl, rfl, rfl, rfl, rfl, rfl⟩ := H
       try go_wp2
       have n0_ := Aside0.mk (blk_drew BK211.out)
       have n1_ := Aside0.mk (blk_drew BK212.out)
       have n2_ := Aside0.mk (blk_drew BK221.out)
       have n3_ := Aside0.mk (blk_drew BK226.out)
       have n4_ := Aside0.mk (below_drew1 HB.out)
       clear BK211
       clear BK212
       clear BK221
       clear BK226
       clear HB
       have BK211 := n0_
       have BK212 := n1_
       have BK221 := n2_
       have BK226 := n3_
       have HB := n4_
       clear n0_ n1_ n2_ n3_ n4_
       refine start_ (n := 6) (S := fun w' => w'.cell? ⟨gb221, 0, none⟩ = some (.int .i64 t216) ∧ w'.cell? ⟨gb221, 1, none⟩ = some (.int .i64 t217) ∧ w'.cell? ⟨gb221, 2, none⟩ = some (.int .i64 t218) ∧ w'.cell? ⟨gb221, 3, none⟩ = some (.bool t219) ∧ w'.cell? ⟨gb221, 4, none⟩ = some (.bool x222004_27) ∧ w'.cell? ⟨gb226, 0, none⟩ = some (.int .u8 0) ∧ w'.cell? ⟨gb226, 1, none⟩ = some (.int .u8 x227001_27) ∧ w'.cell? ⟨gb226, 2, none⟩ = some (.int .u8 x227002_27) ∧ w'.cell? ⟨gb226, 3, none⟩ = some (.int .i16 x227003_27) ∧ w'.cell? ⟨gb226, 4, none⟩ = some (.int .i32 x227004_27)) (ds := []) (fl 0 6) (by kernel_rfl) rfl rfl ⟨(blk_cell BK221.out 0).trans rfl, (blk_cell BK221.out 1).trans rfl, (blk_cell BK221.out 2).trans rfl, (blk_cell BK221.out 3).trans rfl, (blk_cell BK221.out 4).trans rfl, (blk_cell BK226.out 0).trans rfl, (blk_cell BK226.out 1).trans rfl, (blk_cell BK226.out 2).trans rfl, (blk_cell BK226.out 3).trans rfl, (blk_cell BK226.out 4).trans rfl⟩ (fun hHeld => ?_)
       generalize wc.drew = w336 at BK211 BK212 BK221 BK226 HB hHeld ⊢
       refine pure_ (i := 2) (N := some 186) (v := ?_) (a' := ?_) (fm 6 4) rfl rfl (by kernel_rfl) (fun _ _ _ h => h) (Or.inl ⟨by rfl, ?_⟩) ?_ ?_
       rotate_left; exact ga_; rotate_left; exact gb_
       refine take_ (i := 0) (N := some 184) (v := ?_) (a' := ?_) (fm 6 5) rfl rfl (by kernel_rfl) (fun _ _ _ h => h) (Or.inl ⟨by rfl, ?_⟩) hHeld ?_ ?_
       rotate_left
       ·rintro w' ⟨s0, s1, s2, s3, s4, s5, s6, s7, s8, s9⟩
        go_simp
        with_reducible rfl
       rotate_left; exact gb_
       refine take_ (i := 1) (N := some 185) (v := ?_) (a' := ?_) (fl 3 3) rfl rfl (by kernel_rfl) (fun _ _ _ h => h) (Or.inl ⟨by rfl, ?_⟩) hHeld ?_ ?_
       rotate_left
       ·rintro w' ⟨s0, s1, s2, s3, s4, s5, s6, s7, s8, s9⟩
        go_simp
        with_reducible rfl
       rotate_left; exact gb_
       refine one_ (i := 3) (N := none) (fl 4 2) rfl rfl (by kernel_rfl) (by decide) (fun K hK => ?_)
       have hs337 : w336.cell? ⟨gb211, 0, none⟩ = some (.int .i64 x212000_27) := (blk_cell BK211.out 0).trans rfl
       have hfs337 := blk_frozen BK211.out 0
       have hns337_1 := NB212_211.out
       have hns337_2 := NB221_211.out
       have hns337_3 := NB226_211.out
       have hms337_1 := NB211_212.out
       have hms337_2 := NB211_221.out
       have hms337_3 := NB211_226.out
       have hs338 : w336.cell? ⟨gb211, 1, none⟩ = some (.int .i64 x212001_27) := (blk_cell BK211.out 1).trans rfl
       have hfs338 := blk_frozen BK211.out 1
       have hns338_1 := NB212_211.out
       have hns338_2 := NB221_211.out
       have hns338_3 := NB226_211.out
       have hms338_1 := NB211_212.out
       have hms338_2 := NB211_221.out
       have hms338_3 := NB211_226.out
       have hs339 : w336.cell? ⟨gb211, 2, none⟩ = some (.int .i64 x212002_27) := (blk_cell BK211.out 2).trans rfl
       have hfs339 := blk_frozen BK211.out 2
       have hns339_1 := NB212_211.out
       have hns339_2 := NB221_211.out
       have hns339_3 := NB226_211.out
       have hms339_1 := NB211_212.out
       have hms339_2 := NB211_221.out
       have hms339_3 := NB211_226.out
       have hs340 : w336.cell? ⟨gb211, 3, none⟩ = some (.bool x212003_27) := (blk_cell BK211.out 3).trans rfl
       have hfs340 := blk_frozen BK211.out 3
       have hns340_1 := NB212_211.out
       have hns340_2 := NB221_211.out
       have hns340_3 := NB226_211.out
       have hms340_1 := NB211_212.out
       have hms340_2 := NB211_221.out
       have hms340_3 := NB211_226.out
       have hs341 : w336.cell? ⟨gb211, 4, none⟩ = some (.bool x212004_27) := (blk_cell BK211.out 4).trans rfl
       have hfs341 := blk_frozen BK211.out 4
       have hns341_1 := NB212_211.out
       have hns341_2 := NB221_211.out
       have hns341_3 := NB226_211.out
       have hms341_1 := NB211_212.out
       have hms341_2 := NB211_221.out
       have hms341_3 := NB211_226.out
       refine skip_ (w1 := ?_) (by rfl) rfl ?_ ?_
       rotate_left
       ·go_simp
        rfl
       refine hK.out _ _ ⟨(fr1_ NB221_211.out hHeld.1), (fr1_ NB221_211.out hHeld.2.1), (fr1_ NB221_211.out hHeld.2.2.1), (fr1_ NB221_211.out hHeld.2.2.2.1), (fr1_ NB221_211.out hHeld.2.2.2.2.1), (fr1_ NB226_211.out hHeld.2.2.2.2.2.1), (fr1_ NB226_211.out hHeld.2.2.2.2.2.2.1), (fr1_ NB226_211.out hHeld.2.2.2.2.2.2.2.1), (fr1_ NB226_211.out hHeld.2.2.2.2.2.2.2.2.1), (fr1_ NB226_211.out hHeld.2.2.2.2.2.2.2.2.2)⟩ (fun hHeld => ?_)
       clear hK K
       refine one_ (i := 4) (N := none) (fl 5 1) rfl rfl (by kernel_rfl) (by decide) (fun K hK => ?_)
       have hs342 : w336.cell? ⟨gb212, 0, none⟩ = some (.int .u8 x213000_27) := (blk_cell BK212.out 0).trans rfl
       have hfs342 := blk_frozen BK212.out 0
       have hns342_0 := NB211_212.out
       have hns342_2 := NB221_212.out
       have hns342_3 := NB226_212.out
       have hms342_0 := NB212_211.out
       have hms342_2 := NB212_221.out
       have hms342_3 := NB212_226.out
       have hs343 : w336.cell? ⟨gb212, 1, none⟩ = some (.int .u8 x213001_27) := (blk_cell BK212.out 1).trans rfl
       have hfs343 := blk_frozen BK212.out 1
       have hns343_0 := NB211_212.out
       have hns343_2 := NB221_212.out
       have hns343_3 := NB226_212.out
       have hms343_0 := NB212_211.out
       have hms343_2 := NB212_221.out
       have hms343_3 := NB212_226.out
       have hs344 : w336.cell? ⟨gb212, 2, none⟩ = some (.int .u8 x213002_27) := (blk_cell BK212.out 2).trans rfl
       have hfs344 := blk_frozen BK212.out 2
       have hns344_0 := NB211_212.out
       have hns344_2 := NB221_212.out
       have hns344_3 := NB226_212.out
       have hms344_0 := NB212_211.out
       have hms344_2 := NB212_221.out
       have hms344_3 := NB212_226.out
       have hs345 : w336.cell? ⟨gb212, 3, none⟩ = some (.int .i16 x213003_27) := (blk_cell BK212.out 3).trans rfl
       have hfs345 := blk_frozen BK212.out 3
       have hns345_0 := NB211_212.out
       have hns345_2 := NB221_212.out
       have hns345_3 := NB226_212.out
       have hms345_0 := NB212_211.out
       have hms345_2 := NB212_221.out
       have hms345_3 := NB212_226.out
       have hs346 : w336.cell? ⟨gb212, 4, none⟩ = some (.int .i32 x213004_27) := (blk_cell BK212.out 4).trans rfl
       have hfs346 := blk_frozen BK212.out 4
       have hns346_0 := NB211_212.out
       have hns346_2 := NB221_212.out
       have hns346_3 := NB226_212.out
       have hms346_0 := NB212_211.out
       have hms346_2 := NB212_221.out
       have hms346_3 := NB212_226.out
       refine skip_ (w1 := ?_) (by rfl) rfl ?_ ?_
       rotate_left
       ·go_simp
        rfl
       refine hK.out _ _ ⟨(fr1_ NB221_212.out hHeld.1), (fr1_ NB221_212.out hHeld.2.1), (fr1_ NB221_212.out hHeld.2.2.1), (fr1_ NB221_212.out hHeld.2.2.2.1), (fr1_ NB221_212.out hHeld.2.2.2.2.1), (fr1_ NB226_212.out hHeld.2.2.2.2.2.1), (fr1_ NB226_212.out hHeld.2.2.2.2.2.2.1), (fr1_ NB226_212.out hHeld.2.2.2.2.2.2.2.1), (fr1_ NB226_212.out hHeld.2.2.2.2.2.2.2.2.1), (fr1_ NB226_212.out hHeld.2.2.2.2.2.2.2.2.2)⟩ (fun hHeld => ?_)
       clear hK K
       refine pure_ (i := 5) (N := some 4) (v := ?_) (a' := ?_) (fl 6 0) rfl rfl (by kernel_rfl) (fun _ _ _ h => h) (Or.inl ⟨by rfl, ?_⟩) ?_ ?_
       rotate_left; exact ga_; rotate_left; exact gb_
       refine done_ (by kernel_rfl) ?_
       try go_wp2
       refine bodyPost_ret (results_list (rs := [.cell 2 49, .cell 3 37, .tmp 4]) rfl (by simp) (.cell gb211 49 #[.int .i64 t216, .int .i64 t217, .int .i64 t218, .bool t219, .bool x222004_27] (0, 0) _ rfl bk_now Tryd.underlying49 rfl (by kernel_rfl) (.cell gb212 37 #[.int .u8 0, .int .u8 x227001_27, .int .u8 x227002_27, .int .i16 x227003_27, .int .i32 x227004_27] (0, 0) _ rfl bk_now Tryd.underlying37 rfl (by kernel_rfl) (.tmp .nil)))) rfl ?_
       first | exact ⟨.inr ⟨by first | decide | assumption | exact ne_pos_ (by assumption) | (simp; done) | omega, ret_now⟩, b_now⟩ | exact ⟨ret_now, b_now⟩
    ·rw [if_neg c27] at H
     obtain ⟨c27b0, c27b1⟩ := eqF c27
     simp only [Option.some.injEq, Prod.mk.injEq] at H
     obtain ⟨rfl, rfl, rfl, rfl, rfl, rfl, rfl, rfl, rfl, rfl, rfl⟩ := H
     obtain ⟨Ao347, co347, eo347⟩ := Kd.R_slice HO_9.out
     subst eo347
     obtain ⟨hnb348, hnc348⟩ := nb_ NB221_211
     obtain ⟨hnb349, hnc349⟩ := nb_ NB221_212
     have hcz350 := blk_all5 BK221.out
     go_wp2_with (first | ((with_reducible refine gate_callee (f := 52) rfl ?_); refine sh_call (some 28) Tryd.func52 #[.agg #[.int .i64 t216, .int .i64 t217, .int .i64 t218, .bool t219, .bool t220]] ?_; (with_reducible refine (asm_operands.calls kj14 t216 t217 t218 t219 t220 t225 _ A26.out).mono ?_); rintro e w351 ⟨rfl, hb⟩; refine ⟨_, rfl, ?_⟩; replace HO_9 := Aside0.mk (Kd.R_below (by (with_reducible repeat (first | apply Kd.R_alloc | apply Kd.R_drewN | apply Kd.R_drew)); exact HO_9.out) hb); replace BK211 := sh_k BK211 hb; replace BK212 := sh_k BK212 hb; replace BK221 := sh_k BK221 hb; replace HB := sh_b (w := w) hb; (try clear hb); (try clear hb2); (try clear hk); (try clear hi); obtain ⟨hnb352, hnc352⟩ := nb_ NB211_212; have hcz353 := blk_all5 BK211.out; have hcz354 := blk_all5 BK212.out))
     first | exact ⟨rfl, .inl ⟨by first | rfl | trivial, rfl⟩, b_now⟩ | exact ⟨rfl, rfl, b_now⟩

theorem asm_read.calls (k : Nat) (a0 : ByteArray) (r1 : Int) (r2 : Int) (r3 : Int) (r4 : Bool) (r5 : Bool) (r6 : Int) (r7 : Int) (r8 : Int) (r9 : Int) (r10 : Int) (r11 : Int) (w : World) (hrG0 : Kd.C Kd.string w (some ⟨0, 0, none⟩) gl0.length gl0) (hrG1 : Kd.C Kd.string w (some ⟨1, 0, none⟩) gl1.length gl1) (hrG3 : Kd.C kGF w (some ⟨3, 0, none⟩) gl3.length gl3) (h : asm_read.f k a0 = some (r1, r2, r3, r4, r5, r6, r7, r8, r9, r10, r11)) (hm : r1 ≠ (-1) := by assumption) :
  Calls Tryd.prog 39 #[.string a0] w fun e w' => e = .returned (.tuple #[.agg #[.int .i64 r1, .int .i64 r2, .int .i64 r3, .bool r4, .bool r5], .agg #[.int .u8 r6, .int .u8 r7, .int .u8 r8, .int .i16 r9, .int .i32 r10], .int .i32 r11]) ∧ Below w.heap.size w w' := (asm_read.both k a0 r1 r2 r3 r4 r5 r6 r7 r8 r9 r10 r11 w hrG0 hrG1 hrG3 h).mono fun e w' ⟨h1, h2⟩ => ⟨h1.elim (fun x => absurd x.1 hm) (fun x => x.2), h2⟩
theorem asm_read.bad (k : Nat) (a0 : ByteArray) (r1 : Int) (r2 : Int) (r3 : Int) (r4 : Bool) (r5 : Bool) (r6 : Int) (r7 : Int) (r8 : Int) (r9 : Int) (r10 : Int) (r11 : Int) (w : World) (hrG0 : Kd.C Kd.string w (some ⟨0, 0, none⟩) gl0.length gl0) (hrG1 : Kd.C Kd.string w (some ⟨1, 0, none⟩) gl1.length gl1) (hrG3 : Kd.C kGF w (some ⟨3, 0, none⟩) gl3.length gl3) (h : asm_read.f k a0 = some (r1, r2, r3, r4, r5, r6, r7, r8, r9, r10, r11)) (hm : r1 = (-1)) :
  Calls Tryd.prog 39 #[.string a0] w fun e w' => Bad e ∧ Below w.heap.size w w' := (asm_read.both k a0 r1 r2 r3 r4 r5 r6 r7 r8 r9 r10 r11 w hrG0 hrG1 hrG3 h).mono fun e w' ⟨h1, h2⟩ => ⟨h1.elim (fun x => x.2) (fun x => absurd hm x.1), h2⟩

end Go.Proofs.YtondogoepcndiaaDoor.P
