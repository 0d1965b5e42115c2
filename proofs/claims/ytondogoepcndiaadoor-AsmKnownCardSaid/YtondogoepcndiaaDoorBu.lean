/- Chapter 03: a strings.Builder of the call's own, moved. -/
import Derived.Test.YtondogoepcndiaaDoorSh
import Derived.Test.YtondogoepcndiaaDoorPx0
namespace Go.Proofs.YtondogoepcndiaaDoor.P
open Go.RowKit Go.Proofs.YtondogoepcndiaaDoorW.PrintWords Go.Proofs.YtondogoepcndiaaDoorW.PrintLast Go.Proofs.YtondogoepcndiaaDoorW.PrintMore
set_option linter.unusedVariables false
theorem ba_below {T e : TypeId} {B b : Nat} {p : Value} {bs : List Value} {W W' : World} (h : Lib.BuilderAtF T e B b p bs W) (hb : Below W.heap.size W W') : Lib.BuilderAtF T e B b p bs W' := by
  have hlt := h.lt
  obtain ⟨hB, v, hv, hown, hne⟩ := h
  exact ⟨hB, v, (hb.block b hlt).trans hv, hown.kept (row := none) ⟨hb.os, hb.tape, hb.output, hb.size, fun k hk _ => hb.block k hk⟩ (Classical.em _), hne⟩
theorem ib_below {T e : TypeId} {B b : Nat} {bs : List Value} {W W' : World} (h : Lib.IsBuilderF T e B b bs W) (hb : Below W.heap.size W W') : Lib.IsBuilderF T e B b bs W' :=
  h.elim (fun x => .inl (ba_below x hb)) (fun x => .inr (ba_below x hb))
theorem ib_lt {T e : TypeId} {B b : Nat} {bs : List Value} {W : World} (h : Lib.IsBuilderF T e B b bs W) : b ≤ W.heap.size := h.elim (fun x => Nat.le_of_lt x.lt) (fun x => Nat.le_of_lt x.lt)
theorem ib_fresh {T e : TypeId} {g : Nat} {W : World} (h : W.heap[g]? = some (.cells #[.pointer none, .slice none 0 0] T (0, 0))) : Lib.IsBuilderF T e g g [] W :=
  .inl ⟨Nat.le_refl _, .slice none 0 0, h, World.ownsRowF_nil _ _ _ _, by simp [Value.ownBlock]⟩
theorem ib_cat {T e : TypeId} {B b : Nat} {s t : ByteArray} {W : World} (h : Lib.IsBuilderF T e B b ((Lib.strCells s ++ Lib.strCells t) ++ [.int .u8 10]) W) : Lib.IsBuilderF T e B b (Lib.strCells ((s ++ t) ++ (⟨#[10]⟩ : ByteArray))) W := by
  have e1 : Lib.strCells ((s ++ t) ++ (⟨#[10]⟩ : ByteArray)) = (Lib.strCells s ++ Lib.strCells t) ++ [.int .u8 10] := by
    simp [Lib.strCells, ByteArray.data_append]
  rw [e1]
  exact h
theorem ib_bytes {T e : TypeId} {B b : Nat} {s : ByteArray} {W : World} (h : Lib.IsBuilderF T e B b (Lib.strCells s) W) : Lib.IsBuilderF T e B b (Lib.byteCells s.data.toList) W := h
theorem hi_start {T e : TypeId} {B b : Nat} {bs : List Value} {W : World} (h : Aside0 (Lib.IsBuilderF T e B b bs W)) : ∃ ws, Aside0 (Lib.IsBuilderF T e B b bs ws) ∧ Aside0 (Below ws.heap.size ws W) := ⟨W, h, ⟨Below.refl _ _⟩⟩
theorem name_any {P : Program} {c : Code} {Q : Exit → Act → World → Prop} {a : Act} {W : World} (R : World → Prop) (hR : R W) (h : ∀ W', R W' → Code.wp P c Q a W') : Code.wp P c Q a W := h W hR
end Go.Proofs.YtondogoepcndiaaDoor.P
