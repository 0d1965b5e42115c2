/- Chapter 04: shape.Check (walked by hand). -/
import Derived.Sort.CutIn
import Derived.Test.YtdhiibkcoolbeaaDoorSt
import Derived.Test.YtdhiibkcoolbeaaDoorPx9
namespace Go.Proofs.YtdhiibkcoolbeaaDoor.P
open Go.RowKit Go.Shelf Go.Proofs.YtdhiibkcoolbeaaDoorW.PrintWords Go.Proofs.YtdhiibkcoolbeaaDoorW.PrintLast Go.Proofs.YtdhiibkcoolbeaaDoorW.PrintMore
set_option linter.unusedVariables false
set_option linter.unusedSimpArgs false

attribute [local go_sem] max2_int min2_int max_two min_two max_three min_three max_four min_four
attribute [local go_sem] Oper.semAt_some

section
variable {F : Fence} {n : Nat} {P : Program} {ops : Array Oper} {rest : List Oper} {o : Oper} {a : Act} {Q : Exit → Act → World → Prop}
theorem event_run_in {W w1 : World} {v : Value} (hgd : o.guard = none) (hF : ∀ f, o.about P W a.eval = some f → F.fn f) (hnd : ∀ c, o.op ≠ .defer c) (hrun : (execOp a.eval o).run P W = .ok (.value v) w1) (h : wpListIn F n P ops Q rest (a.put o.dst v) w1) : wpListIn F n P ops Q (o :: rest) a W := by
  refine wpListIn_plain hgd fun K hK => ?_
  refine ⟨hF, ?_⟩
  have e : o.semAt F.round a.eval = execOp a.eval o := by
    cases F.round with
    | none => rfl
    | some l => exact Oper.semAt_some l _ _ hnd
  rw [e, hrun]
  exact hK _ _ h
/-- A new box in a round. -/
theorem box_in {W : World} (N : Tmp) (cs : Array Value) (t : TypeId)
    (h : ∀ g, g = W.heap.size → ∀ w1, w1.heap[g]? = some (.cells cs t (0, 0)) → Below W.heap.size W w1 → wpListIn F n P ops Q rest (a.put o.dst (.pointer (some ⟨g, 0, none⟩))) w1)
    (hd : o.dst = some N) (hgd : o.guard = none) (hF : ∀ f, o.about P W a.eval = some f → F.fn f) (hnd : ∀ c, o.op ≠ .defer c)
    (hrun : (execOp a.eval o).run P W = .ok (.value (.pointer (some ⟨W.heap.size, 0, none⟩))) (W.alloc (.cells cs t (0, 0)))) : wpListIn F n P ops Q (o :: rest) a W :=
  event_run_in hgd hF hnd hrun (h _ rfl _ (blk_new W _) (below_alloc (Below.refl _ _) _))
theorem gen_in {c : Code} {W : World} (G : World → Prop) (hG : G W) (h : ∀ wg, G wg → c.wpIn F n P Q a wg) : c.wpIn F n P Q a W := h _ hG
end
def alF (k : Nat) (M : List S52) (C : List S40) (i : Nat) : Int × Int × Int × Bool × Bool × Int := (shape_alone.f k M C (i : Int)).getD (0, 0, 0, false, false, 0)
def ofF (k : Nat) (C : List S40) (i : Nat) : Int × Int × Int × Bool × Bool × Int := (insn_Of.f k (rd_T40 C i).f0 (rd_T40 C i).f1 (rd_T40 C i).f2 (rd_T40 C i).f3 (rd_T40 C i).f4).getD (0, 0, 0, false, false, 0)
def alAll (k : Nat) (M : List S52) (C : List S40) : Bool := (List.range C.length).all fun i => (shape_alone.f k M C (i : Int)).isSome
def ofAll (k : Nat) (C : List S40) : Bool := (List.range C.length).all fun i => (insn_Of.f k (rd_T40 C i).f0 (rd_T40 C i).f1 (rd_T40 C i).f2 (rd_T40 C i).f3 (rd_T40 C i).f4).isSome
theorem alAll_at {k : Nat} {M : List S52} {C : List S40} (h : alAll k M C = true) (i : Nat) (hi : i < C.length) : shape_alone.f k M C (i : Int) = some (alF k M C i) := by
  have := List.all_eq_true.1 h i (List.mem_range.2 hi)
  obtain ⟨v, hv⟩ := Option.isSome_iff_exists.1 this
  unfold alF; rw [hv]; rfl
theorem ofAll_at {k : Nat} {C : List S40} (h : ofAll k C = true) (i : Nat) (hi : i < C.length) : insn_Of.f k (rd_T40 C i).f0 (rd_T40 C i).f1 (rd_T40 C i).f2 (rd_T40 C i).f3 (rd_T40 C i).f4 = some (ofF k C i) := by
  have := List.all_eq_true.1 h i (List.mem_range.2 hi)
  obtain ⟨v, hv⟩ := Option.isSome_iff_exists.1 this
  unfold ofF; rw [hv]; rfl
def mayF (M : List S52) (i : Nat) : Bool := (shape_may.f (rd_T52 M i).f0 (rd_T52 M i).f1 (rd_T52 M i).f2 (rd_T52 M i).f3).getD false
def mayAll (M : List S52) : Bool := (List.range M.length).all fun i => (shape_may.f (rd_T52 M i).f0 (rd_T52 M i).f1 (rd_T52 M i).f2 (rd_T52 M i).f3).isSome
theorem mayAll_at {M : List S52} (h : mayAll M = true) (i : Nat) (hi : i < M.length) : shape_may.f (rd_T52 M i).f0 (rd_T52 M i).f1 (rd_T52 M i).f2 (rd_T52 M i).f3 = some (mayF M i) := by
  have := List.all_eq_true.1 h i (List.mem_range.2 hi)
  obtain ⟨v, hv⟩ := Option.isSome_iff_exists.1 this
  unfold mayF; rw [hv]; rfl
def toF (C : List S40) (i : Nat) : Int := wrap64 (wrap64 ((i : Int) + 1) + wrap64 ((rd_T40 C i).f3))
/-- A jump to where none begins. -/
def badJ (k : Nat) (C : List S40) (st : List Bool) (i : Nat) : Bool :=
  (decide ((ofF k C i).1 = 6) || decide ((ofF k C i).1 = 7)) && (decide (toF C i < 0) || (decide ((st.length : Int) ≤ toF C i) || !(rdOf false st (toF C i))))
def mapsBad (M : List S52) : Option Nat := (List.range M.length).find? fun i => !mayF M i
/-- What Check answers of an image of a fit size. -/
def checkV (k : Nat) (M : List S52) (C : List S40) : Int × Int :=
  match mapsBad M with
  | some i => ((i : Int), 26)
  | none =>
    match (beg (plF k C) C.length 0).find? fun p => decide ((alF k M C p.1).2.2.2.2.2 ≠ 0) with
    | some p => ((p.1 : Int), (alF k M C p.1).2.2.2.2.2)
    | none =>
      match (beg (plF k C) C.length 0).find? fun p => badJ k C (marks (beg (plF k C) C.length 0)) p.1 with
      | some p => ((p.1 : Int), 24)
      | none =>
        if ((beg (plF k C) C.length 0).getLast?.map fun p => (alF k M C p.1).1).getD 0 ≠ 7 ∧ ((beg (plF k C) C.length 0).getLast?.map fun p => (alF k M C p.1).1).getD 0 ≠ 9
        then (((beg (plF k C) C.length 0).getLast?.map fun p => (p.1 : Int)).getD 0, 25) else (0, 0)
def checkK (k : Nat) (l0_0 : List S52) (l0_1 : List S40) : Option (Int × Int) :=
  if l0_1.length = 0 then some (0, 4) else if l0_1.length > 512 ∨ l0_0.length > 4 then some (0, 3)
  else if plAll k l0_1 = true ∧ alAll k l0_0 l0_1 = true ∧ ofAll k l0_1 = true ∧ mayAll l0_0 = true then some (checkV k l0_0 l0_1) else none
theorem res11 {tmps : Array Value} {W : World} {g2 g3 : Nat} {r1 r2 : Int} (h2 : tmps.getD 2 undef = .pointer (some ⟨g2, 0, none⟩)) (h3 : tmps.getD 3 undef = .pointer (some ⟨g3, 0, none⟩))
    (c2 : W.heap[g2]? = some (.cells #[.int .i64 r1] 3 (0, 0))) (c3 : W.heap[g3]? = some (.cells #[.int .i64 r2] 27 (0, 0))) : (results Tryd.f11 tmps).run Tryd.prog W = .ok (.tuple #[.int .i64 r1, .int .i64 r2]) W := by
  have q2 := (blk_all1 c2).1
  have q3 := (blk_all1 c3).1
  have h2' : tmps[2]?.getD undef = .pointer (some ⟨g2, 0, none⟩) := by simpa using h2
  have h3' : tmps[3]?.getD undef = .pointer (some ⟨g3, 0, none⟩) := by simpa using h3
  simp [results, Tryd.f11, go_sem, h2, h3, h2', h3', q2, q3]
theorem sh_gen {P : Program} {c : Code} {Q : Exit → Act → World → Prop} {a : Act} {W : World} (F : World → Prop) (hF : F W) (h : ∀ wg, F wg → c.wp P Q a wg) : c.wp P Q a W := h _ hF
/-- What a round of Check's loops keeps. -/
def TT (B n₀ Bs : Nat) (W W' : World) : Prop := KeepsFrom B W W' ∧ Kp n₀ Bs W W'
theorem TT.refl (B n₀ Bs : Nat) (W : World) : TT B n₀ Bs W W := ⟨KeepsFrom.refl _ _, Kp.refl _ _ _⟩
theorem TT.trans {B n₀ Bs : Nat} {X Y Z : World} (h : TT B n₀ Bs X Y) (k : TT B n₀ Bs Y Z) : TT B n₀ Bs X Z := ⟨h.1.trans k.1, h.2.trans k.2⟩
theorem TT.below {B n₀ Bs : Nat} {W X Y : World} (h : TT B n₀ Bs W X) (hb : Below X.heap.size X Y) (hn : n₀ ≤ X.heap.size) (hB : Bs < X.heap.size) : TT B n₀ Bs W Y :=
  h.trans ⟨⟨hb.size, fun k o _ hk _ => (hb.block k (blk_lt hk)).trans hk⟩, hb.mono hn, hb.block Bs hB⟩
theorem TT.set {B n₀ Bs : Nat} {W X : World} (h : TT B n₀ Bs W X) (g i : Nat) (u : Value) (hg : n₀ ≤ g) (hB : Bs ≠ g) : TT B n₀ Bs W (X.setCell ⟨g, i, none⟩ u) :=
  h.trans ⟨(KeepsOthers.setCell _ _ _).from _, (Below.refl _ X).setCell (p := ⟨g, i, none⟩) hg _, Below.heap_setCell X ⟨g, i, none⟩ _ Bs hB⟩
theorem TT.drew {B n₀ Bs : Nat} {W X : World} (h : TT B n₀ Bs W X) (hn : n₀ ≤ W.heap.size) (hB : Bs < W.heap.size) : TT B n₀ Bs W X.drew :=
  h.below (below_drew (Below.refl _ _)) (Nat.le_trans hn h.1.size) (Nat.lt_of_lt_of_le hB h.1.size)
theorem ownFrom_cellsF {α : Type} {B g : Nat} {t : TypeId} (f : List α → Array Value) : OwnFrom B (fun (pre : List α) W => W.heap[g]? = some (.cells (f pre) t (0, 0))) := fun s X Y row hs hg hr => by
  refine (hg.block g (blk_lt hs) (fun e => ?_)).trans hs
  obtain ⟨_, o, ho, hn⟩ := hr g e.symm
  rw [hs] at ho
  cases ho
  exact absurd hn (by simp [Obj.isCells])
theorem ownFrom_low {α : Type} {B m : Nat} {o : Obj} (hm : m < B) : OwnFrom B (fun (_ : List α) W => W.heap[m]? = some o) := fun s X Y row hs hg hr =>
  (hg.block m (Array.getElem?_eq_some_iff.1 hs).1 (fun e => by have := (hr m e.symm).1; omega)).trans hs
theorem ownFrom_size {α : Type} {B m : Nat} : OwnFrom B (fun (_ : List α) W => m < W.heap.size) := fun s X Y row hs hg _ => Nat.lt_of_lt_of_le hs hg.size
theorem ownFrom_pure {α : Type} {B : Nat} (p : List α → Prop) : OwnFrom B (fun (pre : List α) _ => p pre) := fun s X Y row hs _ _ => hs
def lastV {n : Nat} (pre : List (Fin n)) : Int := (pre.getLast?.map fun p => (p.1 : Int)).getD 0
def clsV {n : Nat} (f : Nat → Int) (pre : List (Fin n)) : Int := (pre.getLast?.map fun p => f p.1).getD 0
theorem lastV_snoc {n : Nat} (pre : List (Fin n)) (x : Fin n) : lastV (pre ++ [x]) = (x.1 : Int) := by simp [lastV]
theorem clsV_snoc {n : Nat} (f : Nat → Int) (pre : List (Fin n)) (x : Fin n) : clsV f (pre ++ [x]) = f x.1 := by simp [clsV]
theorem find_prefix {α : Type} {f : α → Bool} : ∀ (ini L : List α) (p : α), (ini ++ [p]) <+: L → (∀ q ∈ ini, f q = false) → f p = true → L.find? f = some p
  | [], L, p, ⟨r, hr⟩, _, hp => by subst hr; simp [hp]
  | q :: ini, L, p, ⟨r, hr⟩, h, hp => by
    subst hr
    simp only [List.cons_append]
    rw [List.find?_cons, h q (by simp)]
    exact find_prefix ini (ini ++ [p] ++ r) p ⟨r, rfl⟩ (fun x hx => h x (by simp [hx])) hp
theorem put_cells {X : World} {D g : Nat} {cs : Array Value} {ty : TypeId} {o o' : Obj} (h : X.heap[g]? = some (.cells cs ty (0, 0))) (hK : X.heap[D]? = some o) (ho : o.isCells = false) : (X.putObj D o').heap[g]? = some (.cells cs ty (0, 0)) :=
  ownFrom_cells (α := Unit) (B := 0) [] X _ (some D) h (grownBy_putObj' X D o') (fun r e => by cases e; exact ⟨Nat.zero_le _, _, hK, ho⟩)
theorem fin11 {w X : World} {tmps : Array Value} {D D2 g2 g3 : Nat} {r1 r2 : Int} (h2 : tmps.getD 2 undef = .pointer (some ⟨g2, 0, none⟩)) (h3 : tmps.getD 3 undef = .pointer (some ⟨g3, 0, none⟩))
    (c2 : X.heap[g2]? = some (.cells #[.int .i64 r1] 3 (0, 0))) (c3 : X.heap[g3]? = some (.cells #[.int .i64 r2] 27 (0, 0))) (hK2 : X.heap[D2]? = some (.deferred (some []))) (hKD : X.heap[D]? = some (.deferred (some []))) (hDD : D ≠ D2) (hB : Below w.heap.size w X) (d1 : w.heap.size ≤ D) (d2 : w.heap.size ≤ D2) :
    bodyPostM Fence.wide 3 Tryd.prog Tryd.f11 (fun e w' => e = .returned (.tuple #[.int .i64 r1, .int .i64 r2]) ∧ Below w.heap.size w w') .ret { tmps := tmps, defers := [{ target := .collected D2, args := #[] }, { target := .collected D, args := #[] }] } X := by
  have hKD' : (X.putObj D2 (.deferred none)).heap[D]? = some (.deferred (some [])) := (World.putObj_heap_other hDD).trans hKD
  refine ⟨by simp, .inl ⟨_, _, rfl, run_takeDeferred hK2, ⟨by simp, .inl ⟨_, _, rfl, run_takeDeferred hKD', ?_⟩⟩⟩⟩
  exact ⟨_, res11 h2 h3 (put_cells (put_cells c2 hK2 rfl) hKD' rfl) (put_cells (put_cells c3 hK2 rfl) hKD' rfl), rfl,
    (hB.trans (belowK_b (w := w) (Nat.le_refl _) X D2 _ _ d2 hK2 rfl rfl)).trans (belowK_b (w := w) (Nat.le_refl _) _ D _ _ d1 hKD' rfl rfl)⟩
theorem two_kept {X : World} {g i g' i' D : Nat} {u u' : Value} {o : Obj} (h : X.heap[D]? = some o) (ho : o.isCells = false) : ((X.setCell ⟨g, i, none⟩ u).setCell ⟨g', i', none⟩ u').heap[D]? = some o :=
  ((KeepsOthers.setCell _ _ _).same D _ ((KeepsOthers.setCell _ _ _).same D _ h ho) ho)
theorem mapsBad_some {M : List S52} {i : Nat} (hi : i < M.length) (h : ∀ j, j < i → mayF M j = true) (hm : mayF M i = false) : mapsBad M = some i := by
  unfold mapsBad
  rw [List.find?_range_eq_some]
  exact ⟨by simp [hm], by simpa using hi, fun j hj => by simp [h j hj]⟩
theorem mapsBad_none {M : List S52} (h : ∀ j, j < M.length → mayF M j = true) : mapsBad M = none := by
  unfold mapsBad
  rw [List.find?_eq_none]
  intro j hj
  simp [h j (List.mem_range.1 hj)]
theorem checkV_alone {k : Nat} {M : List S52} {C : List S40} {ini : List (Fin C.length)} {p : Fin C.length} (hmb : mapsBad M = none) (hpre : (ini ++ [p]) <+: beg (plF k C) C.length 0) (e2 : ∀ q ∈ ini, (alF k M C q.1).2.2.2.2.2 = 0) (e3 : (alF k M C p.1).2.2.2.2.2 ≠ 0) :
    checkV k M C = ((p.1 : Int), (alF k M C p.1).2.2.2.2.2) := by
  unfold checkV
  rw [hmb]
  dsimp only
  rw [find_prefix (f := fun p => decide ((alF k M C p.1).2.2.2.2.2 ≠ 0)) ini _ p hpre (fun q hq => by simp [e2 q hq]) (by simp [e3])]
theorem checkV_bad {k : Nat} {M : List S52} {C : List S40} {ini : List (Fin C.length)} {p : Fin C.length} (hmb : mapsBad M = none) (hE : ∀ q ∈ beg (plF k C) C.length 0, (alF k M C q.1).2.2.2.2.2 = 0) (hpre : (ini ++ [p]) <+: beg (plF k C) C.length 0)
    (e2 : ∀ q ∈ ini, badJ k C (marks (beg (plF k C) C.length 0)) q.1 = false) (e3 : badJ k C (marks (beg (plF k C) C.length 0)) p.1 = true) : checkV k M C = ((p.1 : Int), 24) := by
  have f1 : ((beg (plF k C) C.length 0).find? fun p => decide ((alF k M C p.1).2.2.2.2.2 ≠ 0)) = none := List.find?_eq_none.2 (fun q hq => by simp [hE q hq])
  unfold checkV
  rw [hmb]
  dsimp only
  rw [f1]
  dsimp only
  have f2 := find_prefix (f := fun p : Fin C.length => badJ k C (marks (beg (plF k C) C.length 0)) p.1) ini (beg (plF k C) C.length 0) p hpre e2 e3
  rw [f2]
theorem checkV_end {k : Nat} {M : List S52} {C : List S40} (hmb : mapsBad M = none) (hE : ∀ q ∈ beg (plF k C) C.length 0, (alF k M C q.1).2.2.2.2.2 = 0) (hE2 : ∀ q ∈ beg (plF k C) C.length 0, badJ k C (marks (beg (plF k C) C.length 0)) q.1 = false) :
    checkV k M C = if clsV (fun i => (alF k M C i).1) (beg (plF k C) C.length 0) ≠ 7 ∧ clsV (fun i => (alF k M C i).1) (beg (plF k C) C.length 0) ≠ 9 then (lastV (beg (plF k C) C.length 0), 25) else (0, 0) := by
  have f1 : ((beg (plF k C) C.length 0).find? fun p => decide ((alF k M C p.1).2.2.2.2.2 ≠ 0)) = none := List.find?_eq_none.2 (fun q hq => by simp [hE q hq])
  have f2 : ((beg (plF k C) C.length 0).find? fun p => badJ k C (marks (beg (plF k C) C.length 0)) p.1) = none := List.find?_eq_none.2 (fun q hq => by simp [hE2 q hq])
  unfold checkV
  rw [hmb]
  dsimp only
  rw [f1]
  dsimp only
  rw [f2]
  rfl
set_option maxHeartbeats 2000000 in
set_option maxRecDepth 100000 in
theorem checkK_calls (k : Nat) (A0_0 : Option Addr) (c0_0 : Nat) (l0_0 : List S52) (A0_1 : Option Addr) (c0_1 : Nat) (l0_1 : List S40) (r1 r2 : Int) (w : World) (hr0_0 : Kd.C k52 w A0_0 l0_0.length l0_0) (hc0_0 : l0_0.length ≤ c0_0) (hr0_1 : Kd.C k40 w A0_1 l0_1.length l0_1) (hc0_1 : l0_1.length ≤ c0_1) (hrG0 : Kd.C (Kd.int .i64) w (some ⟨0, 0, none⟩) gl0.length gl0) (h : checkK k l0_0 l0_1 = some (r1, r2)) :
    Calls Tryd.prog 11 #[.agg #[.slice A0_0 l0_0.length c0_0, .slice A0_1 l0_1.length c0_1]] w fun e w' => e = .returned (.tuple #[.int .i64 r1, .int .i64 r2]) ∧ Below w.heap.size w w' := by
  have hu25 := Tryd.underlying25
  have hu52 := Tryd.underlying52
  have hmix : Tryd.prog.follows .mixedOrders = true := by kernel_rfl
  unfold checkK at h
  have HB := Aside0.mk (Below.refl w.heap.size w)
  refine (callsIn_wide (n := 3)).1 (callsIn_of_wp_marks Tryd.func11 rfl trivial (wpIn_wide.2 ?_) rfl)
  simp only [Tryd.ntmps11, List.size_toArray, List.length_cons, List.length_nil, Nat.reduceAdd, Nat.reduceSub, Array.replicate_succ, Array.replicate_zero, List.push_toArray, List.append_toArray, List.nil_append, List.cons_append]
  go_upto_region 1 with (first
    | ((with_reducible refine gate_dst (N := 1) rfl ?_); refine sh_box 1 #[.slice A0_0 l0_0.length c0_0, .slice A0_1 l0_1.length c0_1] 25 ?_; intro g1 hg w1 hbox hb; have GE1 := sh_z (w := w) hg; replace HB := sh_b (w := w) hb; have BK1 := Aside0.mk (hbox); clear hb hbox hg)
    | ((with_reducible refine gate_dst (N := 2) rfl ?_); refine sh_box 2 #[.int .i64 0] 3 ?_; intro g2 hg w2 hbox hb; have GE2 := sh_z (w := w) hg; have NB1_2 := sh_n BK1 hg; have NB2_1 := sh_s NB1_2; replace BK1 := sh_k BK1 hb; replace HB := sh_b (w := w) hb; have BK2 := Aside0.mk (hbox); clear hb hbox hg)
    | ((with_reducible refine gate_dst (N := 3) rfl ?_); refine sh_box 3 #[.int .i64 0] 27 ?_; intro g3 hg w3 hbox hb; have GE3 := sh_z (w := w) hg; have NB1_3 := sh_n BK1 hg; have NB3_1 := sh_s NB1_3; have NB2_3 := sh_n BK2 hg; have NB3_2 := sh_s NB2_3; replace BK1 := sh_k BK1 hb; replace BK2 := sh_k BK2 hb; replace HB := sh_b (w := w) hb; have BK3 := Aside0.mk (hbox); clear hb hbox hg))
  have hcz1 := blk_all2 BK1.out
  have hcz2 := blk_all1 BK2.out
  have hcz3 := blk_all1 BK3.out
  have n12 := NB1_2.out
  have n21 := NB2_1.out
  have n13 := NB1_3.out
  have n31 := NB3_1.out
  have n23 := NB2_3.out
  have n32 := NB3_2.out
  by_cases h0 : l0_1.length = 0
  · rw [if_pos h0] at h
    simp only [Option.some.injEq, Prod.mk.injEq] at h
    obtain ⟨rfl, rfl⟩ := h
    rw [h0] at hcz1 ⊢
    go_wp2
    exact ⟨_, res11 rfl rfl bk_now bk_now, rfl, b_now⟩
  rw [if_neg h0] at h
  have h0' : 0 < l0_1.length := by omega
  by_cases h1 : l0_1.length > 512 ∨ l0_0.length > 4
  · rw [if_pos h1] at h
    simp only [Option.some.injEq, Prod.mk.injEq] at h
    obtain ⟨rfl, rfl⟩ := h
    by_cases h2 : l0_1.length > 512
    · go_wp2
      exact ⟨_, res11 rfl rfl bk_now bk_now, rfl, b_now⟩
    · have h3 : l0_0.length > 4 := by omega
      go_wp2
      exact ⟨_, res11 rfl rfl bk_now bk_now, rfl, b_now⟩
  rw [if_neg h1] at h
  have h2 : ¬ l0_1.length > 512 := by omega
  have h3 : ¬ l0_0.length > 4 := by omega
  by_cases h4 : plAll k l0_1 = true ∧ alAll k l0_0 l0_1 = true ∧ ofAll k l0_1 = true ∧ mayAll l0_0 = true
  · rw [if_pos h4] at h
    obtain ⟨hpl, hal, hof, hma⟩ := h4
    simp only [Option.some.injEq] at h
    go_wp2
    go_loopw [35] (fun v35 wr => ∃ i : Nat, v35 = .int .i64 i ∧ i ≤ l0_0.length ∧ (∀ j, j < i → mayF l0_0 j = true) ∧ Aside0 (wr.heap[g1]? = some (.cells #[.slice A0_0 l0_0.length c0_0, .slice A0_1 l0_1.length c0_1] 25 (0, 0))) ∧ Aside0 (wr.heap[g2]? = some (.cells #[.int .i64 0] 3 (0, 0))) ∧ Aside0 (wr.heap[g3]? = some (.cells #[.int .i64 0] 27 (0, 0))) ∧ Aside0 (Below w.heap.size w wr))
      (fun v _ => l0_0.length - (intOf v).toNat)
    case atStart => exact ⟨0, rfl, by omega, by omega, ⟨bk_now⟩, ⟨bk_now⟩, ⟨bk_now⟩, ⟨b_now⟩⟩
    case round =>
      clear BK1 BK2 BK3 HB hcz1 hcz2 hcz3
      obtain ⟨i, rfl, hi, hmay, BK1, BK2, BK3, HB⟩ := hrel
      have hcz1 := blk_all2 BK1.out
      have hcz2 := blk_all1 BK2.out
      have hcz3 := blk_all1 BK3.out
      by_cases hlt : i < l0_0.length
      · obtain ⟨ad, eA, hx0, hx1, hx2, hx3⟩ := at_T52 (Kd.C_below hr0_0 HB.out) (i : Int) (by omega) (by omega)
        subst eA
        simp only [Int.toNat_natCast] at hx0 hx1 hx2 hx3
        have hmi := mayAll_at hma i hlt
        go_upto_region 8 with (first
          | ((with_reducible refine gate_dst (N := 5) rfl ?_); refine sh_box 5 #[.int .i64 0, .int .i64 0, .int .i64 0, .int .i64 0] 52 ?_; intro g5 hg w5 hbox hb; have GE5 := sh_z (w := w) hg; have NB1_5 := sh_n BK1 hg; have NB5_1 := sh_s NB1_5; have NB2_5 := sh_n BK2 hg; have NB5_2 := sh_s NB2_5; have NB3_5 := sh_n BK3 hg; have NB5_3 := sh_s NB3_5; replace BK1 := sh_k BK1 hb; replace BK2 := sh_k BK2 hb; replace BK3 := sh_k BK3 hb; replace HB := sh_b (w := w) hb; have BK5 := Aside0.mk (hbox); clear hb hbox hg; have hcz5 := blk_all4 BK5.out))
        refine sh_gen (fun wg => Aside0 (wg.heap[g1]? = some (.cells #[.slice (some ad) l0_0.length c0_0, .slice A0_1 l0_1.length c0_1] 25 (0, 0))) ∧ Aside0 (wg.heap[g2]? = some (.cells #[.int .i64 0] 3 (0, 0))) ∧ Aside0 (wg.heap[g3]? = some (.cells #[.int .i64 0] 27 (0, 0))) ∧ Aside0 (wg.heap[g5]? = some (.cells #[.int .i64 (rd_T52 l0_0 i).f0, .int .i64 (rd_T52 l0_0 i).f1, .int .i64 (rd_T52 l0_0 i).f2, .int .i64 (rd_T52 l0_0 i).f3] 52 (0, 0))) ∧ Aside0 (Below w.heap.size w wg)) ⟨⟨bk_now⟩, ⟨bk_now⟩, ⟨bk_now⟩, ⟨bk_now⟩, ⟨b_now⟩⟩ ?_
        clear BK1 BK2 BK3 BK5 HB hcz1 hcz2 hcz3 hcz5
        rintro wg ⟨BK1, BK2, BK3, BK5, HB⟩
        have hcz5 := blk_all4 BK5.out
        cases hm : mayF l0_0 i with
        | true =>
          rw [hm] at hmi
          go_wp2_with (go_at_call 25; refine (shape_may.calls _ _ _ _ true _ hmi).mono ?_; rintro e w6 ⟨rfl, hb⟩; replace BK1 := sh_k BK1 hb; replace BK2 := sh_k BK2 hb; replace BK3 := sh_k BK3 hb; replace HB := sh_b (w := w) hb; clear hb)
          go_roundw
          case rel => exact ⟨i + 1, by simp, by omega, fun j hj => (by by_cases e : j = i; (subst e; exact hm); exact hmay j (by omega)), ⟨bk_now⟩, ⟨bk_now⟩, ⟨bk_now⟩, ⟨b_now⟩⟩
          case measure => simp only [intOf]; omega
        | false =>
          rw [hm] at hmi
          have hv : checkV k l0_0 l0_1 = ((i : Int), 26) := by unfold checkV; rw [mapsBad_some hlt hmay hm]
          rw [hv] at h
          simp only [Prod.mk.injEq] at h
          obtain ⟨rfl, rfl⟩ := h
          go_wp2_with (go_at_call 25; refine (shape_may.calls _ _ _ _ false _ hmi).mono ?_; rintro e w6 ⟨rfl, hb⟩; replace BK1 := sh_k BK1 hb; replace BK2 := sh_k BK2 hb; replace BK3 := sh_k BK3 hb; replace HB := sh_b (w := w) hb; clear hb; have hcz2 := blk_all1 BK2.out; have hcz3 := blk_all1 BK3.out)
          exact ⟨_, res11 rfl rfl bk_now bk_now, rfl, b_now⟩
      · have ei : i = l0_0.length := by omega
        subst ei
        have hmb := mapsBad_none hmay
        go_upto_region 12 with (first
          | ((with_reducible refine gate_dst (N := 6) rfl ?_); refine sh_box 6 #[.int .i64 0] 3 ?_; intro g6 hg w6 hbox hb; have GE6 := sh_z (w := w) hg; have NB1_6 := sh_n BK1 hg; have NB6_1 := sh_s NB1_6; have NB2_6 := sh_n BK2 hg; have NB6_2 := sh_s NB2_6; have NB3_6 := sh_n BK3 hg; have NB6_3 := sh_s NB3_6; replace BK1 := sh_k BK1 hb; replace BK2 := sh_k BK2 hb; replace BK3 := sh_k BK3 hb; replace HB := sh_b (w := w) hb; have BK6 := Aside0.mk (hbox); clear hb hbox hg)
          | ((with_reducible refine gate_dst (N := 7) rfl ?_); refine sh_box 7 #[.int .i64 0] 3 ?_; intro g7 hg w7 hbox hb; have GE7 := sh_z (w := w) hg; have NB1_7 := sh_n BK1 hg; have NB7_1 := sh_s NB1_7; have NB2_7 := sh_n BK2 hg; have NB7_2 := sh_s NB2_7; have NB3_7 := sh_n BK3 hg; have NB7_3 := sh_s NB3_7; have NB6_7 := sh_n BK6 hg; have NB7_6 := sh_s NB6_7; replace BK1 := sh_k BK1 hb; replace BK2 := sh_k BK2 hb; replace BK3 := sh_k BK3 hb; replace BK6 := sh_k BK6 hb; replace HB := sh_b (w := w) hb; have BK7 := Aside0.mk (hbox); clear hb hbox hg; have hcz6 := blk_all1 BK6.out; have hcz7 := blk_all1 BK7.out; have n67 := NB6_7.out; have n76 := NB7_6.out))
        refine sh_gen (fun wg => Aside0 (wg.heap[g1]? = some (.cells #[.slice A0_0 l0_0.length c0_0, .slice A0_1 l0_1.length c0_1] 25 (0, 0))) ∧ Aside0 (wg.heap[g2]? = some (.cells #[.int .i64 0] 3 (0, 0))) ∧ Aside0 (wg.heap[g3]? = some (.cells #[.int .i64 0] 27 (0, 0))) ∧ Aside0 (wg.heap[g6]? = some (.cells #[.int .i64 0] 3 (0, 0))) ∧ Aside0 (wg.heap[g7]? = some (.cells #[.int .i64 0] 3 (0, 0))) ∧ Aside0 (Below w.heap.size w wg)) ⟨⟨bk_now⟩, ⟨bk_now⟩, ⟨bk_now⟩, ⟨bk_now⟩, ⟨bk_now⟩, ⟨b_now⟩⟩ ?_
        clear BK1 BK2 BK3 BK6 BK7 HB hcz1 hcz2 hcz3 hcz6 hcz7
        rintro wg ⟨BK1, BK2, BK3, BK6, BK7, HB⟩
        have hcz1 := blk_all2 BK1.out
        go_wp2_with (go_at_call 26; refine ((callsIn_wide (n := 3)).1 (begins_in 3 _ _ _ _)).mono ?_; rintro e w' ⟨rfl, rfl⟩)
        have hbox := heap_alloc_new wg (.cells #[.slice A0_1 l0_1.length c0_1] 23 (0, 0))
        have hsz : (wg.alloc (.cells #[.slice A0_1 l0_1.length c0_1] 23 (0, 0))).heap.size = wg.heap.size + 1 := by simp
        refine sh_gen (fun W0 => (W0.heap[g1]? = some (.cells #[.slice A0_0 l0_0.length c0_0, .slice A0_1 l0_1.length c0_1] 25 (0, 0)) ∧ W0.heap[g2]? = some (.cells #[.int .i64 0] 3 (0, 0)) ∧ W0.heap[g3]? = some (.cells #[.int .i64 0] 27 (0, 0))) ∧ (W0.heap[g6]? = some (.cells #[.int .i64 0] 3 (0, 0)) ∧ W0.heap[g7]? = some (.cells #[.int .i64 0] 3 (0, 0))) ∧ Below w.heap.size w W0 ∧ W0.heap[wg.heap.size]? = some (.cells #[.slice A0_1 l0_1.length c0_1] 23 (0, 0)) ∧ W0.heap.size = wg.heap.size + 1) ⟨⟨bk_now, bk_now, bk_now⟩, ⟨bk_now, bk_now⟩, b_now, hbox, hsz⟩ ?_
        have l1 := blk_lt BK1.out
        have l2 := blk_lt BK2.out
        have l3 := blk_lt BK3.out
        have l6 := blk_lt BK6.out
        have l7 := blk_lt BK7.out
        have lw := HB.out.size
        clear hbox hsz BK1 BK2 BK3 BK6 BK7 HB hcz1
        generalize wg.heap.size = Bs at l1 l2 l3 l6 l7 lw ⊢
        rintro W0 ⟨⟨k1, k2, k3⟩, ⟨k6, k7⟩, hB0, hbox, hsz⟩
        refine (wpIn_wide (n := 3)).1 (wpIn_rangeFunc_ownG (F := Fence.wide) (n := 3) rfl (by omega) (gf := 34) (lb := #[.pointer (some ⟨Bs, 0, none⟩)]) rfl trivial (enters_of Tryd.func34 (by kernel_rfl) rfl)
          (begins_stops 2 (by omega) k Bs c0_1 A0_1 l0_1 (plF k l0_1) w hr0_1 hrG0 (by omega) (plAll_at hpl) W0 hB0 hbox) (fun h k => h.trans k) (Kp_b (by omega) (by omega)) (Below.refl _ _) (fun _ => rfl)
          (fun pre W => ((W.heap[g1]? = some (.cells #[.slice A0_0 l0_0.length c0_0, .slice A0_1 l0_1.length c0_1] 25 (0, 0)) ∧ W.heap[g2]? = some (.cells #[.int .i64 0] 3 (0, 0)) ∧ W.heap[g3]? = some (.cells #[.int .i64 0] 27 (0, 0))) ∧ (W.heap[g6]? = some (.cells #[.int .i64 (lastV pre)] 3 (0, 0)) ∧ W.heap[g7]? = some (.cells #[.int .i64 (clsV (fun i => (alF k l0_0 l0_1 i).1) pre)] 3 (0, 0))) ∧ (∀ q ∈ pre, (alF k l0_0 l0_1 q.1).2.2.2.2.2 = 0) ∧ Bs < W.heap.size) ∧ Below w.heap.size w W)
          (fun c pre W => (c = .ret ∧ ∃ ini p, pre = ini ++ [p] ∧ (∀ q ∈ ini, (alF k l0_0 l0_1 q.1).2.2.2.2.2 = 0) ∧ (alF k l0_0 l0_1 p.1).2.2.2.2.2 ≠ 0 ∧ W.heap[g2]? = some (.cells #[.int .i64 (p.1 : Int)] 3 (0, 0)) ∧ W.heap[g3]? = some (.cells #[.int .i64 (alF k l0_0 l0_1 p.1).2.2.2.2.2] 27 (0, 0))) ∧ Below w.heap.size w W)
          (OwnFrom.and (OwnFrom.and (OwnFrom.and ownFrom_cells (OwnFrom.and ownFrom_cells ownFrom_cells)) (OwnFrom.and (OwnFrom.and (ownFrom_cellsF (fun pre => #[.int .i64 (lastV pre)])) (ownFrom_cellsF (fun pre => #[.int .i64 (clsV (fun i => (alF k l0_0 l0_1 i).1) pre)]))) (OwnFrom.and (ownFrom_pure _) ownFrom_size))) (ownFrom_below (Nat.le_refl _) (by omega)))
          (fun c => OwnFrom.and (fun s X Y row hs hg hr => by obtain ⟨hc, ini, p, e1, e2, e3, e4, e5⟩ := hs; exact ⟨hc, ini, p, e1, e2, e3, ownFrom_cells (α := Unit) [] X Y row e4 hg hr, ownFrom_cells (α := Unit) [] X Y row e5 hg hr⟩) (ownFrom_below (Nat.le_refl _) (by omega)))
          ⟨⟨⟨k1, k2, k3⟩, ⟨k6, k7⟩, by simp, by omega⟩, hB0⟩
          (fun x => { tmps := #[Value.agg #[Value.slice A0_0 l0_0.length c0_0, Value.slice A0_1 l0_1.length c0_1], Value.pointer (some ⟨g1, 0, none⟩), Value.pointer (some ⟨g2, 0, none⟩), Value.pointer (some ⟨g3, 0, none⟩), u4, u5, Value.pointer (some ⟨g6, 0, none⟩), Value.pointer (some ⟨g7, 0, none⟩), Value.int .i64 (x.1 : Int), undef, undef, undef, undef, undef, undef, undef, Value.bool false, Value.pointer (some ⟨g1, 1, none⟩), Value.slice A0_1 l0_1.length c0_1, Value.int IntKind.i64 (l0_1.length : Int), Value.bool false, Value.bool (decide (512 < (l0_1.length : Int)) || decide (4 < (l0_0.length : Int))), Value.pointer (some ⟨g1, 1, none⟩), Value.slice A0_1 l0_1.length c0_1, Value.int IntKind.i64 (l0_1.length : Int), Value.bool (decide (512 < (l0_1.length : Int))), Value.bool (decide (512 < (l0_1.length : Int))), Value.pointer (some ⟨g1, 0, none⟩), Value.slice A0_0 l0_0.length c0_0, Value.int IntKind.i64 (l0_0.length : Int), Value.bool (decide (4 < (l0_0.length : Int))), Value.bool (decide (512 < (l0_1.length : Int)) || decide (4 < (l0_0.length : Int))), Value.pointer (some ⟨g1, 0, none⟩), Value.slice A0_0 l0_0.length c0_0, Value.int IntKind.i64 (l0_0.length : Int), Value.int IntKind.i64 (l0_0.length : Int), Value.bool false, u37, u38, u39, u40, u41, u42, u43, u44, Value.pointer (some ⟨g1, 1, none⟩), Value.slice A0_1 l0_1.length c0_1, Value.func (Fn.func 34) #[] #[Value.pointer (some ⟨Bs, 0, none⟩)], Value.int .i64 (x.1 : Int), undef, undef, undef, undef, undef, undef, undef, undef, undef, undef, undef, undef, undef, undef, undef, undef, undef, undef, undef, undef, undef, undef, undef, undef, undef, undef, undef, undef, undef, undef, undef, undef, undef, undef, undef, undef, undef, undef, undef, undef, undef, undef, undef, undef, undef, undef, undef, undef, undef, undef, undef, undef, undef, undef, undef, undef, undef, undef, undef, undef, undef, undef, undef, undef, undef, undef, undef], defers := [] }) ?assign ?body ?done ?stop)
        case assign =>
          intro l x W K hK
          gi_wp2
          exact hK
        case body =>
          rintro l pre x W ⟨⟨⟨q1, q2, q3⟩, ⟨q6, q7⟩, hE, hsW⟩, hB⟩ _
          have hx := x.2
          have hax := alAll_at hal x.1 hx
          obtain ⟨t1, t2, t3, t4, t5, t6, hv⟩ : ∃ t1 t2 t3 t4 t5 t6, alF k l0_0 l0_1 x.1 = (t1, t2, t3, t4, t5, t6) := ⟨_, _, _, _, _, _, rfl⟩
          rw [hv] at hax
          have hT := TT.refl W0.heap.size w.heap.size Bs W
          have m1 := blk_lt q1
          have hBW := hB.size
          have BK1 := Aside0.mk q1
          have BK2 := Aside0.mk q2
          have BK3 := Aside0.mk q3
          have BK6 := Aside0.mk q6
          have BK7 := Aside0.mk q7
          have HB := Aside0.mk hB
          have hcz1 := blk_all2 q1
          clear q1 q2 q3 q6 q7
          gi_upto_region 15 with (first
            | (refine ⟨trivial, ?_⟩; gi_at_call 27; refine (CallsIn.inRound l (callsIn_wide.2 (shape_alone.calls k A0_0 c0_0 l0_0 A0_1 c0_1 l0_1 (x.1 : Int) t1 t2 t3 t4 t5 t6 _ (Kd.C_below hr0_0 hB) hc0_0 (Kd.C_below hr0_1 hB) hc0_1 (Kd.C_below hrG0 hB) hax))).mono ?_; rintro e w6 ⟨rfl, hb⟩; replace hT := hT.below hb hBW hsW; have hs6 := hb.size; replace BK1 := sh_k BK1 hb; replace BK2 := sh_k BK2 hb; replace BK3 := sh_k BK3 hb; replace BK6 := sh_k BK6 hb; replace BK7 := sh_k BK7 hb; replace HB := sh_b (w := w) hb; clear hb))
          have hn9 := heap_alloc_new w6 (.cells #[.int .i64 t1, .int .i64 t2, .int .i64 t3, .bool t4, .bool t5] 45 (0, 0))
          have hT9 := hT.below (below_alloc (Below.refl w6.heap.size w6) (.cells #[.int .i64 t1, .int .i64 t2, .int .i64 t3, .bool t4, .bool t5] 45 (0, 0))) (by omega) (by omega)
          refine gen_in (fun wg => TT W0.heap.size w.heap.size Bs W wg ∧ Aside0 (wg.heap[g1]? = some (.cells #[.slice A0_0 l0_0.length c0_0, .slice A0_1 l0_1.length c0_1] 25 (0, 0))) ∧ Aside0 (wg.heap[g2]? = some (.cells #[.int .i64 0] 3 (0, 0))) ∧ Aside0 (wg.heap[g3]? = some (.cells #[.int .i64 0] 27 (0, 0))) ∧ Aside0 (wg.heap[g6]? = some (.cells #[.int .i64 (lastV pre)] 3 (0, 0))) ∧ Aside0 (wg.heap[g7]? = some (.cells #[.int .i64 (clsV (fun i => (alF k l0_0 l0_1 i).1) pre)] 3 (0, 0))) ∧ Aside0 (wg.heap[w6.heap.size]? = some (.cells #[.int .i64 t1, .int .i64 t2, .int .i64 t3, .bool t4, .bool t5] 45 (0, 0))) ∧ Aside0 (Below w.heap.size w wg)) ⟨hT9, ⟨bk_now⟩, ⟨bk_now⟩, ⟨bk_now⟩, ⟨bk_now⟩, ⟨bk_now⟩, ⟨hn9⟩, ⟨b_now⟩⟩ ?_
          have j2 := blk_lt BK2.out
          have j3 := blk_lt BK3.out
          have j6 := blk_lt BK6.out
          have j7 := blk_lt BK7.out
          clear BK1 BK2 BK3 BK6 BK7 HB hT hT9 hn9 hcz1
          generalize w6.heap.size = g9 at hs6 j2 j3 j6 j7 ⊢
          rintro wg ⟨hT, BK1, BK2, BK3, BK6, BK7, BK9, HB⟩
          have e2 := GE2.out
          have e3 := GE3.out
          have e6 := GE6.out
          have e7 := GE7.out
          have p2 : g2 ≠ g9 := by omega
          have p3 : g3 ≠ g9 := by omega
          have p6 : g6 ≠ g9 := by omega
          have p7 : g7 ≠ g9 := by omega
          have hcz2 := blk_all1 BK2.out
          have hcz3 := blk_all1 BK3.out
          have hcz6 := blk_all1 BK6.out
          have hcz7 := blk_all1 BK7.out
          have hcz9 := blk_all5 BK9.out
          by_cases ht : t6 = 0
          · subst ht
            gi_wp2
            have hd6 := blk_all1 (blk_drew BK6.out)
            have hd7 := blk_all1 (blk_drew BK7.out)
            have hd9 := blk_all5 (blk_drew BK9.out)
            have hTa := ((hT.set g6 0 (.int .i64 (x.1 : Int)) e6 (by omega)).set g7 0 (.int .i64 t1) e7 (by omega)).drew hBW hsW
            have hTb := ((hT.set g7 0 (.int .i64 t1) e7 (by omega)).set g6 0 (.int .i64 (x.1 : Int)) e6 (by omega)).drew hBW hsW
            have hE2 : ∀ q ∈ pre ++ [x], (alF k l0_0 l0_1 q.1).2.2.2.2.2 = 0 := by
              intro q hq
              rcases List.mem_append.1 hq with h | h
              · exact hE q h
              · rw [List.mem_singleton.1 h, hv]
            have hl2 := lastV_snoc pre x
            have hc2 : clsV (fun i => (alF k l0_0 l0_1 i).1) (pre ++ [x]) = t1 := by rw [clsV_snoc, hv]
            gi_region_o
            all_goals gi_wp2
            all_goals (show ownPostG _ _ _ _ _ _ _ _ _; unfold ownPostG; dsimp only; rw [hl2, hc2])
            all_goals first
              | exact ⟨hTa.1, hTa.2, ⟨⟨bk_now, bk_now, bk_now⟩, ⟨bk_now, bk_now⟩, hE2, Nat.lt_of_lt_of_le hsW hTa.1.size⟩, b_now⟩
              | exact ⟨hTb.1, hTb.2, ⟨⟨bk_now, bk_now, bk_now⟩, ⟨bk_now, bk_now⟩, hE2, Nat.lt_of_lt_of_le hsW hTb.1.size⟩, b_now⟩
          · gi_wp2
            have hT2 := (hT.set g2 0 (.int .i64 (x.1 : Int)) e2 (by omega)).set g3 0 (.int .i64 t6) e3 (by omega)
            refine ⟨hT2.1, ⟨rfl, pre, x, rfl, hE, by rw [hv]; exact ht, bk_now, ?_⟩, b_now⟩
            rw [hv]
            exact bk_now
        case done =>
          rintro D ys W hD rfl ⟨⟨⟨q1, q2, q3⟩, ⟨q6, q7⟩, hE, hsW⟩, hB⟩ hK
          have hS : startsK k l0_1 = some (marks (beg (plF k l0_1) l0_1.length 0)) := by unfold startsK; rw [if_pos ⟨by omega, hpl⟩]
          have hDl := (Array.getElem?_eq_some_iff.1 hK).1
          have BK1 := Aside0.mk q1
          have BK2 := Aside0.mk q2
          have BK3 := Aside0.mk q3
          have BK6 := Aside0.mk q6
          have BK7 := Aside0.mk q7
          have HB := Aside0.mk hB
          have HK := Aside0.mk hK
          have hcz1 := blk_all2 q1
          clear q1 q2 q3 q6 q7 hK
          gi_wp2
          go_wp2_with (first
            | (go_at_call 15; refine (startsK_calls k A0_1 c0_1 l0_1 (marks (beg (plF k l0_1) l0_1.length 0)) _ (Kd.C_below hr0_1 hB) hc0_1 (Kd.C_below hrG0 hB) hS).mono ?_; rintro e w8 ⟨v0, rfl, ho, hb⟩; have HO := Aside0.mk ho; have hs8 := hb.size; have HK := Aside0.mk ((hb.block D hDl).trans HK.out); replace BK1 := sh_k BK1 hb; replace BK2 := sh_k BK2 hb; replace BK3 := sh_k BK3 hb; replace BK6 := sh_k BK6 hb; replace BK7 := sh_k BK7 hb; replace HB := sh_b (w := w) hb; clear hb ho; obtain ⟨Ar, cr, er⟩ := Kd.R_slice HO.out; rw [marks_len] at er; subst er)
            | ((with_reducible refine gate_dst (N := 11) rfl ?_); refine sh_box 11 #[.slice none 0 0] 35 ?_; intro g11 hg w9 hbox hb; have GE11 := sh_z (w := w) hg; have hl8 := Kd.R_lt HO.out; have NB1_11 := sh_n BK1 hg; have NB2_11 := sh_n BK2 hg; have NB3_11 := sh_n BK3 hg; have NB6_11 := sh_n BK6 hg; have NB7_11 := sh_n BK7 hg; have h11 := Nat.le_of_eq hg.symm; have HK := Aside0.mk ((hb.block D (by omega)).trans HK.out); replace HO := Aside0.mk (Kd.R_below HO.out hb); replace BK1 := sh_k BK1 hb; replace BK2 := sh_k BK2 hb; replace BK3 := sh_k BK3 hb; replace BK6 := sh_k BK6 hb; replace BK7 := sh_k BK7 hb; replace HB := sh_b (w := w) hb; have BK11 := Aside0.mk (hbox); have hs9 := hb.size; clear hb hbox hg; have hcz1 := blk_all2 BK1.out; have hcz11 := blk_all1 BK11.out; have n111 := NB1_11.out; have n112 := NB1_11.out.symm)
            | (go_at_call 26; refine ((callsIn_wide (n := 3)).1 (begins_in 3 _ _ _ _)).mono ?_; rintro e w' ⟨rfl, rfl⟩))
          have hO1 := Kd.R_alloc (Kd.R_set HO.out BK11.out (by decide) 0 (.slice Ar l0_1.length cr)) (.cells #[.slice A0_1 l0_1.length c0_1] 23 (0, 0))
          have hbox := heap_alloc_new (w9.setCell ⟨g11, 0, none⟩ (.slice Ar l0_1.length cr)) (.cells #[.slice A0_1 l0_1.length c0_1] 23 (0, 0))
          have hsz : ((w9.setCell ⟨g11, 0, none⟩ (.slice Ar l0_1.length cr)).alloc (.cells #[.slice A0_1 l0_1.length c0_1] 23 (0, 0))).heap.size = w9.heap.size + 1 := by simp
          rw [show (w9.setCell ⟨g11, 0, none⟩ (.slice Ar l0_1.length cr)).heap.size = w9.heap.size by simp] at hbox
          have hK1 : ((w9.setCell ⟨g11, 0, none⟩ (.slice Ar l0_1.length cr)).alloc (.cells #[.slice A0_1 l0_1.length c0_1] 23 (0, 0))).heap[D]? = some (.deferred (some [])) :=
            (Below.heap_alloc _ _ D (by simp; omega)).trans ((Below.heap_setCell w9 ⟨g11, 0, none⟩ _ D (by show D ≠ g11; omega)).trans HK.out)
          have NB11_1 := sh_s NB1_11
          have NB11_2 := sh_s NB2_11
          have NB11_3 := sh_s NB3_11
          have NB11_6 := sh_s NB6_11
          have NB11_7 := sh_s NB7_11
          refine sh_gen (fun W1 => (W1.heap[g1]? = some (.cells #[.slice A0_0 l0_0.length c0_0, .slice A0_1 l0_1.length c0_1] 25 (0, 0)) ∧ W1.heap[g2]? = some (.cells #[.int .i64 0] 3 (0, 0)) ∧ W1.heap[g3]? = some (.cells #[.int .i64 0] 27 (0, 0))) ∧ (W1.heap[g6]? = some (.cells #[.int .i64 (lastV (beg (plF k l0_1) l0_1.length 0))] 3 (0, 0)) ∧ W1.heap[g7]? = some (.cells #[.int .i64 (clsV (fun i => (alF k l0_0 l0_1 i).1) (beg (plF k l0_1) l0_1.length 0))] 3 (0, 0)) ∧ W1.heap[g11]? = some (.cells #[.slice Ar l0_1.length cr] 35 (0, 0))) ∧ Kd.R Kd.bool 4 W1 W.heap.size (fun _ => True) (.slice Ar l0_1.length cr) (marks (beg (plF k l0_1) l0_1.length 0)) ∧ W1.heap[D]? = some (.deferred (some [])) ∧ Below w.heap.size w W1 ∧ W1.heap[w9.heap.size]? = some (.cells #[.slice A0_1 l0_1.length c0_1] 23 (0, 0)) ∧ W1.heap.size = w9.heap.size + 1) ⟨⟨bk_now, bk_now, bk_now⟩, ⟨bk_now, bk_now, bk_now⟩, hO1, hK1, b_now, hbox, hsz⟩ ?_
          have j1 := blk_lt BK1.out
          have j2 := blk_lt BK2.out
          have j3 := blk_lt BK3.out
          have j6 := blk_lt BK6.out
          have j7 := blk_lt BK7.out
          have j11 := blk_lt BK11.out
          have jw := HB.out.size
          clear hO1 hbox hsz hK1 BK1 BK2 BK3 BK6 BK7 BK11 HB HK HO hcz1 hcz11
          generalize w9.heap.size = Bt at j1 j2 j3 j6 j7 j11 jw hs9 ⊢
          rintro W1 ⟨⟨k1, k2, k3⟩, ⟨k6, k7, k11⟩, hR1, hK1, hB1, hbox, hsz⟩
          have e2 := GE2.out
          have e3 := GE3.out
          refine (wpIn_wide (n := 3)).1 (wpIn_rangeFunc_ownG (F := Fence.wide) (n := 3) rfl (by omega) (gf := 34) (lb := #[.pointer (some ⟨Bt, 0, none⟩)]) rfl trivial (enters_of Tryd.func34 (by kernel_rfl) rfl)
            (begins_stops 2 (by omega) k Bt c0_1 A0_1 l0_1 (plF k l0_1) w hr0_1 hrG0 (by omega) (plAll_at hpl) W1 hB1 hbox) (fun h k => h.trans k) (Kp_b (by omega) (by omega)) (Below.refl _ _) (fun _ => rfl)
            (fun pre X => ((X.heap[g1]? = some (.cells #[.slice A0_0 l0_0.length c0_0, .slice A0_1 l0_1.length c0_1] 25 (0, 0)) ∧ X.heap[g2]? = some (.cells #[.int .i64 0] 3 (0, 0)) ∧ X.heap[g3]? = some (.cells #[.int .i64 0] 27 (0, 0))) ∧ (X.heap[g6]? = some (.cells #[.int .i64 (lastV (beg (plF k l0_1) l0_1.length 0))] 3 (0, 0)) ∧ X.heap[g7]? = some (.cells #[.int .i64 (clsV (fun i => (alF k l0_0 l0_1 i).1) (beg (plF k l0_1) l0_1.length 0))] 3 (0, 0)) ∧ X.heap[g11]? = some (.cells #[.slice Ar l0_1.length cr] 35 (0, 0))) ∧ Kd.R Kd.bool 4 X W.heap.size (fun _ => True) (.slice Ar l0_1.length cr) (marks (beg (plF k l0_1) l0_1.length 0)) ∧ X.heap[D]? = some (.deferred (some [])) ∧ (∀ q ∈ pre, badJ k l0_1 (marks (beg (plF k l0_1) l0_1.length 0)) q.1 = false) ∧ Bt < X.heap.size) ∧ Below w.heap.size w X)
            (fun c pre X => ((c = .ret ∧ ∃ ini p, pre = ini ++ [p] ∧ (∀ q ∈ ini, badJ k l0_1 (marks (beg (plF k l0_1) l0_1.length 0)) q.1 = false) ∧ badJ k l0_1 (marks (beg (plF k l0_1) l0_1.length 0)) p.1 = true ∧ X.heap[g2]? = some (.cells #[.int .i64 (p.1 : Int)] 3 (0, 0)) ∧ X.heap[g3]? = some (.cells #[.int .i64 24] 27 (0, 0))) ∧ X.heap[D]? = some (.deferred (some []))) ∧ Below w.heap.size w X)
            (OwnFrom.and (OwnFrom.and (OwnFrom.and ownFrom_cells (OwnFrom.and ownFrom_cells ownFrom_cells)) (OwnFrom.and (OwnFrom.and ownFrom_cells (OwnFrom.and ownFrom_cells ownFrom_cells)) (OwnFrom.and (ownFrom_R (fun _ => marks (beg (plF k l0_1) l0_1.length 0))) (OwnFrom.and (ownFrom_low (by omega)) (OwnFrom.and (ownFrom_pure _) ownFrom_size))))) (ownFrom_below (Nat.le_refl _) (by omega)))
            (fun c => OwnFrom.and (OwnFrom.and (fun s X Y row hs hg hr => by obtain ⟨hc, ini, p, e1, e2, e3, e4, e5⟩ := hs; exact ⟨hc, ini, p, e1, e2, e3, ownFrom_cells (α := Unit) [] X Y row e4 hg hr, ownFrom_cells (α := Unit) [] X Y row e5 hg hr⟩) (ownFrom_low (by omega))) (ownFrom_below (Nat.le_refl _) (by omega)))
            ⟨⟨⟨k1, k2, k3⟩, ⟨k6, k7, k11⟩, hR1, hK1, by simp, by omega⟩, hB1⟩
            (fun x => { tmps := #[Value.agg #[Value.slice A0_0 l0_0.length c0_0, Value.slice A0_1 l0_1.length c0_1], Value.pointer (some ⟨g1, 0, none⟩), Value.pointer (some ⟨g2, 0, none⟩), Value.pointer (some ⟨g3, 0, none⟩), u4, u5, Value.pointer (some ⟨g6, 0, none⟩), Value.pointer (some ⟨g7, 0, none⟩), undef, undef, undef, Value.pointer (some ⟨g11, 0, none⟩), Value.int .i64 (x.1 : Int), undef, undef, undef, Value.bool false, Value.pointer (some ⟨g1, 1, none⟩), Value.slice A0_1 l0_1.length c0_1, Value.int IntKind.i64 (l0_1.length : Int), Value.bool false, Value.bool (decide (512 < (l0_1.length : Int)) || decide (4 < (l0_0.length : Int))), Value.pointer (some ⟨g1, 1, none⟩), Value.slice A0_1 l0_1.length c0_1, Value.int IntKind.i64 (l0_1.length : Int), Value.bool (decide (512 < (l0_1.length : Int))), Value.bool (decide (512 < (l0_1.length : Int))), Value.pointer (some ⟨g1, 0, none⟩), Value.slice A0_0 l0_0.length c0_0, Value.int IntKind.i64 (l0_0.length : Int), Value.bool (decide (4 < (l0_0.length : Int))), Value.bool (decide (512 < (l0_1.length : Int)) || decide (4 < (l0_0.length : Int))), Value.pointer (some ⟨g1, 0, none⟩), Value.slice A0_0 l0_0.length c0_0, Value.int IntKind.i64 (l0_0.length : Int), Value.int IntKind.i64 (l0_0.length : Int), Value.bool false, u37, u38, u39, u40, u41, u42, u43, u44, Value.pointer (some ⟨g1, 1, none⟩), Value.slice A0_1 l0_1.length c0_1, Value.func (Fn.func 34) #[] #[Value.pointer (some ⟨Bs, 0, none⟩)], undef, undef, undef, undef, undef, undef, undef, undef, undef, undef, undef, undef, undef, undef, Value.pointer (some ⟨g1, 1, none⟩), Value.slice A0_1 l0_1.length c0_1, Value.slice Ar l0_1.length cr, Value.pointer (some ⟨g1, 1, none⟩), Value.slice A0_1 l0_1.length c0_1, Value.func (Fn.func 34) #[] #[Value.pointer (some ⟨Bt, 0, none⟩)], Value.int .i64 (x.1 : Int), undef, undef, undef, undef, undef, undef, undef, undef, undef, undef, undef, undef, undef, undef, undef, undef, undef, undef, undef, undef, undef, undef, undef, undef, undef, undef, undef, undef, undef, undef, undef, undef, undef, undef, undef, undef, undef, undef, undef, undef, undef, undef, undef, undef, undef, undef, undef], defers := [] }) ?assign2 ?body2 ?done2 ?stop2)
          case assign2 =>
            intro l x W K hK
            gi_wp2
            exact hK
          case body2 =>
            rintro l pre x X ⟨⟨⟨q1, q2, q3⟩, ⟨q6, q7, q11⟩, hR, hKD, hE2, hsX⟩, hBX⟩ _
            have hx := x.2
            have hox := ofAll_at hof x.1 hx
            obtain ⟨t1, t2, t3, t4, t5, t6, hv⟩ : ∃ t1 t2 t3 t4 t5 t6, ofF k l0_1 x.1 = (t1, t2, t3, t4, t5, t6) := ⟨_, _, _, _, _, _, rfl⟩
            rw [hv] at hox
            obtain ⟨ad, eA, hx0, hx1, hx2, hx3, hx4⟩ := at_T40 (Kd.C_below hr0_1 hBX) (x.1 : Int) (by omega) (by omega)
            simp only [Int.toNat_natCast] at hx0 hx1 hx2 hx3 hx4
            subst eA
            have hT := TT.refl (Bt + 1) w.heap.size Bt X
            have hBW := hBX.size
            have BK1 := Aside0.mk q1
            have BK2 := Aside0.mk q2
            have BK3 := Aside0.mk q3
            have BK6 := Aside0.mk q6
            have BK7 := Aside0.mk q7
            have BK11 := Aside0.mk q11
            have HB := Aside0.mk hBX
            have HO := Aside0.mk hR
            have HK := Aside0.mk hKD
            have hcz1 := blk_all2 q1
            have hDX := (Array.getElem?_eq_some_iff.1 hKD).1
            clear q1 q2 q3 q6 q7 q11 hR hKD
            gi_upto_region 22 with (first
              | (refine ⟨trivial, ?_⟩; gi_at_call 22; refine (CallsIn.inRound l (callsIn_wide.2 (insn_Of.calls k _ _ _ _ _ t1 t2 t3 t4 t5 t6 _ (Kd.C_below hrG0 hBX) hox))).mono ?_; rintro e w6 ⟨rfl, hb⟩; replace hT := hT.below hb hBW hsX; have hs6 := hb.size; replace BK1 := sh_k BK1 hb; replace BK2 := sh_k BK2 hb; replace BK3 := sh_k BK3 hb; replace BK6 := sh_k BK6 hb; replace BK7 := sh_k BK7 hb; replace BK11 := sh_k BK11 hb; replace HB := sh_b (w := w) hb; replace HO := Aside0.mk (Kd.R_below HO.out hb); replace HK := Aside0.mk ((hb.block D hDX).trans HK.out); clear hb))
            have hn9 := heap_alloc_new w6 (.cells #[.int .i64 t1, .int .i64 t2, .int .i64 t3, .bool t4, .bool t5] 45 (0, 0))
            have hbl := below_alloc (Below.refl w6.heap.size w6) (.cells #[.int .i64 t1, .int .i64 t2, .int .i64 t3, .bool t4, .bool t5] 45 (0, 0))
            have hT9 := hT.below hbl (by omega) (by omega)
            refine gen_in (fun wg => TT (Bt + 1) w.heap.size Bt X wg ∧ Aside0 (wg.heap[g1]? = some (.cells #[.slice A0_0 l0_0.length c0_0, .slice (some ad) l0_1.length c0_1] 25 (0, 0))) ∧ Aside0 (wg.heap[g2]? = some (.cells #[.int .i64 0] 3 (0, 0))) ∧ Aside0 (wg.heap[g3]? = some (.cells #[.int .i64 0] 27 (0, 0))) ∧ Aside0 (wg.heap[g6]? = some (.cells #[.int .i64 (lastV (beg (plF k l0_1) l0_1.length 0))] 3 (0, 0))) ∧ Aside0 (wg.heap[g7]? = some (.cells #[.int .i64 (clsV (fun i => (alF k l0_0 l0_1 i).1) (beg (plF k l0_1) l0_1.length 0))] 3 (0, 0))) ∧ Aside0 (wg.heap[g11]? = some (.cells #[.slice Ar l0_1.length cr] 35 (0, 0))) ∧ Aside0 (wg.heap[w6.heap.size]? = some (.cells #[.int .i64 t1, .int .i64 t2, .int .i64 t3, .bool t4, .bool t5] 45 (0, 0))) ∧ Aside0 (Kd.R Kd.bool 4 wg W.heap.size (fun _ => True) (.slice Ar l0_1.length cr) (marks (beg (plF k l0_1) l0_1.length 0))) ∧ Aside0 (wg.heap[D]? = some (.deferred (some []))) ∧ Aside0 (Below w.heap.size w wg)) ⟨hT9, ⟨bk_now⟩, ⟨bk_now⟩, ⟨bk_now⟩, ⟨bk_now⟩, ⟨bk_now⟩, ⟨bk_now⟩, ⟨hn9⟩, ⟨Kd.R_below HO.out hbl⟩, ⟨(hbl.block D (by omega)).trans HK.out⟩, ⟨b_now⟩⟩ ?_
            have y2 := blk_lt BK2.out
            have y3 := blk_lt BK3.out
            clear BK1 BK2 BK3 BK6 BK7 BK11 HB HO HK hT hT9 hn9 hbl hcz1
            generalize w6.heap.size = g9 at hs6 y2 y3 ⊢
            rintro wg ⟨hT, BK1, BK2, BK3, BK6, BK7, BK11, BK9, HO, HK, HB⟩
            have hDg := (Array.getElem?_eq_some_iff.1 HK.out).1
            have hBg := HB.out
            have hBWg := hBg.size
            have hTs := hT.1.size
            have hcz1 := blk_all2 BK1.out
            have hcz9 := blk_all5 BK9.out
            obtain ⟨ad2, eA2, hz0, hz1, hz2, hz3, hz4⟩ := at_T40 (Kd.C_below hr0_1 hBg) (x.1 : Int) (by omega) (by omega)
            simp only [Int.toNat_natCast] at hz0 hz1 hz2 hz3 hz4
            obtain rfl : ad = ad2 := by injection eA2
            obtain ⟨tz, htz⟩ : ∃ tz, toF l0_1 x.1 = tz := ⟨_, rfl⟩
            have hTf : shape_Target.f (x.1 : Int) (rd_T40 l0_1 x.1).f0 (rd_T40 l0_1 x.1).f1 (rd_T40 l0_1 x.1).f2 (rd_T40 l0_1 x.1).f3 (rd_T40 l0_1 x.1).f4 = some tz := congrArg some htz
            have hml := marks_len (beg (plF k l0_1) l0_1.length 0)
            have goOn : badJ k l0_1 (marks (beg (plF k l0_1) l0_1.length 0)) x.1 = false → ∀ q ∈ pre ++ [x], badJ k l0_1 (marks (beg (plF k l0_1) l0_1.length 0)) q.1 = false := by
              intro hb q hq
              rcases List.mem_append.1 hq with h | h
              · exact hE2 q h
              · rw [List.mem_singleton.1 h, hb]
            by_cases c67 : t1 = 6 ∨ t1 = 7
            · have hbj : badJ k l0_1 (marks (beg (plF k l0_1) l0_1.length 0)) x.1 = (decide (tz < 0) || (decide ((l0_1.length : Int) ≤ tz) || !(rdOf false (marks (beg (plF k l0_1) l0_1.length 0)) tz))) := by
                unfold badJ
                rw [hv, htz, hml]
                rcases c67 with rfl | rfl <;> simp
              rcases c67 with rfl | rfl
              · gi_upto_region 24 with (first
                  | (refine ⟨trivial, ?_⟩; gi_at_call 19; refine (CallsIn.inRound l (callsIn_wide.2 (shape_Target.calls (x.1 : Int) _ _ _ _ _ tz _ hTf))).mono ?_; rintro e w7 ⟨rfl, hb⟩; replace hT := hT.below hb hBWg (by omega); have hs7 := hb.size; replace BK1 := sh_k BK1 hb; replace BK2 := sh_k BK2 hb; replace BK3 := sh_k BK3 hb; replace BK6 := sh_k BK6 hb; replace BK7 := sh_k BK7 hb; replace BK11 := sh_k BK11 hb; replace HB := sh_b (w := w) hb; replace HO := Aside0.mk (Kd.R_below HO.out hb); replace HK := Aside0.mk ((hb.block D hDg).trans HK.out); clear hb))
                have hcz2 := blk_all1 BK2.out
                have hcz3 := blk_all1 BK3.out
                have hcz11 := blk_all1 BK11.out
                clear hcz1 hcz9 hz0 hz1 hz2 hz3 hz4 hx0 hx1 hx2 hx3 hx4
                by_cases hneg : tz < 0
                · have hbad : badJ k l0_1 (marks (beg (plF k l0_1) l0_1.length 0)) x.1 = true := by rw [hbj]; simp [hneg]
                  have hT2 := (hT.set g2 0 (.int .i64 (x.1 : Int)) e2 (by omega)).set g3 0 (.int .i64 24) e3 (by omega)
                  gi_wp2
                  exact ⟨(by first | exact hT2.1 | (rw [hsz]; exact hT2.1)), ⟨⟨rfl, pre, x, rfl, hE2, hbad, bk_now, bk_now⟩, two_kept HK.out rfl⟩, b_now⟩
                · by_cases hge : (l0_1.length : Int) ≤ tz
                  · have hbad : badJ k l0_1 (marks (beg (plF k l0_1) l0_1.length 0)) x.1 = true := by rw [hbj]; simp [hge]
                    have hT2 := (hT.set g2 0 (.int .i64 (x.1 : Int)) e2 (by omega)).set g3 0 (.int .i64 24) e3 (by omega)
                    gi_wp2
                    exact ⟨(by first | exact hT2.1 | (rw [hsz]; exact hT2.1)), ⟨⟨rfl, pre, x, rfl, hE2, hbad, bk_now, bk_now⟩, two_kept HK.out rfl⟩, b_now⟩
                  · obtain ⟨gr, cap, eg, hge2, hgl, cells, hcl⟩ := Kd.R_form HO.out (by rw [hml]; omega)
                    simp only [hml, Value.slice.injEq, true_and] at eg
                    obtain ⟨rfl, rfl⟩ := eg
                    have hR2 : Kd.R Kd.bool 4 w7 W.heap.size (fun _ => True) (.slice (some ⟨gr, 0, none⟩) (marks (beg (plF k l0_1) l0_1.length 0)).length cr) (marks (beg (plF k l0_1) l0_1.length 0)) := by rw [hml]; exact HO.out
                    have hcx := Kd.R_cell false hR2 tz (by omega) (by rw [hml]; omega)
                    cases hrd : rdOf false (marks (beg (plF k l0_1) l0_1.length 0)) tz with
                    | true =>
                      rw [hrd] at hcx
                      have hgood : badJ k l0_1 (marks (beg (plF k l0_1) l0_1.length 0)) x.1 = false := by rw [hbj, hrd]; simp [hneg, hge]
                      gi_wp2
                      exact ⟨hT.1, hT.2, ⟨⟨BK1.out, BK2.out, BK3.out⟩, ⟨BK6.out, BK7.out, BK11.out⟩, HO.out, HK.out, goOn hgood, Nat.lt_of_lt_of_le hsX hT.1.size⟩, HB.out⟩
                    | false =>
                      rw [hrd] at hcx
                      have hbad : badJ k l0_1 (marks (beg (plF k l0_1) l0_1.length 0)) x.1 = true := by rw [hbj, hrd]; simp
                      have hT2 := (hT.set g2 0 (.int .i64 (x.1 : Int)) e2 (by omega)).set g3 0 (.int .i64 24) e3 (by omega)
                      gi_wp2
                      exact ⟨(by first | exact hT2.1 | (rw [hsz]; exact hT2.1)), ⟨⟨rfl, pre, x, rfl, hE2, hbad, bk_now, bk_now⟩, two_kept HK.out rfl⟩, b_now⟩
              · gi_upto_region 24 with (first
                  | (refine ⟨trivial, ?_⟩; gi_at_call 19; refine (CallsIn.inRound l (callsIn_wide.2 (shape_Target.calls (x.1 : Int) _ _ _ _ _ tz _ hTf))).mono ?_; rintro e w7 ⟨rfl, hb⟩; replace hT := hT.below hb hBWg (by omega); have hs7 := hb.size; replace BK1 := sh_k BK1 hb; replace BK2 := sh_k BK2 hb; replace BK3 := sh_k BK3 hb; replace BK6 := sh_k BK6 hb; replace BK7 := sh_k BK7 hb; replace BK11 := sh_k BK11 hb; replace HB := sh_b (w := w) hb; replace HO := Aside0.mk (Kd.R_below HO.out hb); replace HK := Aside0.mk ((hb.block D hDg).trans HK.out); clear hb))
                have hcz2 := blk_all1 BK2.out
                have hcz3 := blk_all1 BK3.out
                have hcz11 := blk_all1 BK11.out
                clear hcz1 hcz9 hz0 hz1 hz2 hz3 hz4 hx0 hx1 hx2 hx3 hx4
                by_cases hneg : tz < 0
                · have hbad : badJ k l0_1 (marks (beg (plF k l0_1) l0_1.length 0)) x.1 = true := by rw [hbj]; simp [hneg]
                  have hT2 := (hT.set g2 0 (.int .i64 (x.1 : Int)) e2 (by omega)).set g3 0 (.int .i64 24) e3 (by omega)
                  gi_wp2
                  exact ⟨(by first | exact hT2.1 | (rw [hsz]; exact hT2.1)), ⟨⟨rfl, pre, x, rfl, hE2, hbad, bk_now, bk_now⟩, two_kept HK.out rfl⟩, b_now⟩
                · by_cases hge : (l0_1.length : Int) ≤ tz
                  · have hbad : badJ k l0_1 (marks (beg (plF k l0_1) l0_1.length 0)) x.1 = true := by rw [hbj]; simp [hge]
                    have hT2 := (hT.set g2 0 (.int .i64 (x.1 : Int)) e2 (by omega)).set g3 0 (.int .i64 24) e3 (by omega)
                    gi_wp2
                    exact ⟨(by first | exact hT2.1 | (rw [hsz]; exact hT2.1)), ⟨⟨rfl, pre, x, rfl, hE2, hbad, bk_now, bk_now⟩, two_kept HK.out rfl⟩, b_now⟩
                  · obtain ⟨gr, cap, eg, hge2, hgl, cells, hcl⟩ := Kd.R_form HO.out (by rw [hml]; omega)
                    simp only [hml, Value.slice.injEq, true_and] at eg
                    obtain ⟨rfl, rfl⟩ := eg
                    have hR2 : Kd.R Kd.bool 4 w7 W.heap.size (fun _ => True) (.slice (some ⟨gr, 0, none⟩) (marks (beg (plF k l0_1) l0_1.length 0)).length cr) (marks (beg (plF k l0_1) l0_1.length 0)) := by rw [hml]; exact HO.out
                    have hcx := Kd.R_cell false hR2 tz (by omega) (by rw [hml]; omega)
                    cases hrd : rdOf false (marks (beg (plF k l0_1) l0_1.length 0)) tz with
                    | true =>
                      rw [hrd] at hcx
                      have hgood : badJ k l0_1 (marks (beg (plF k l0_1) l0_1.length 0)) x.1 = false := by rw [hbj, hrd]; simp [hneg, hge]
                      gi_wp2
                      exact ⟨hT.1, hT.2, ⟨⟨BK1.out, BK2.out, BK3.out⟩, ⟨BK6.out, BK7.out, BK11.out⟩, HO.out, HK.out, goOn hgood, Nat.lt_of_lt_of_le hsX hT.1.size⟩, HB.out⟩
                    | false =>
                      rw [hrd] at hcx
                      have hbad : badJ k l0_1 (marks (beg (plF k l0_1) l0_1.length 0)) x.1 = true := by rw [hbj, hrd]; simp
                      have hT2 := (hT.set g2 0 (.int .i64 (x.1 : Int)) e2 (by omega)).set g3 0 (.int .i64 24) e3 (by omega)
                      gi_wp2
                      exact ⟨(by first | exact hT2.1 | (rw [hsz]; exact hT2.1)), ⟨⟨rfl, pre, x, rfl, hE2, hbad, bk_now, bk_now⟩, two_kept HK.out rfl⟩, b_now⟩
            · have hbj : badJ k l0_1 (marks (beg (plF k l0_1) l0_1.length 0)) x.1 = false := by
                unfold badJ
                rw [hv]
                have c6 : ¬ t1 = 6 := fun e => c67 (.inl e)
                have c7 : ¬ t1 = 7 := fun e => c67 (.inr e)
                simp [c6, c7]
              have b6 : (t1 != 6) = true := by have : ¬ t1 = 6 := fun e => c67 (.inl e); simp [this]
              have b7 : (t1 != 7) = true := by have : ¬ t1 = 7 := fun e => c67 (.inr e); simp [this]
              gi_wp2
              exact ⟨hT.1, hT.2, ⟨⟨BK1.out, BK2.out, BK3.out⟩, ⟨BK6.out, BK7.out, BK11.out⟩, HO.out, HK.out, goOn hbj, Nat.lt_of_lt_of_le hsX hTs⟩, HB.out⟩
          case done2 =>
            rintro D2 ys X hD2 rfl ⟨⟨⟨q1, q2, q3⟩, ⟨q6, q7, q11⟩, hR, hKD, hE2, hsX⟩, hBX⟩ hK2
            have hv := checkV_end hmb hE hE2
            rw [hv] at h
            clear hv
            have BK2 := Aside0.mk q2
            have BK3 := Aside0.mk q3
            have BK6 := Aside0.mk q6
            have BK7 := Aside0.mk q7
            have HB := Aside0.mk hBX
            generalize clsV (fun i => (alF k l0_0 l0_1 i).1) (beg (plF k l0_1) l0_1.length 0) = cv at *
            generalize lastV (beg (plF k l0_1) l0_1.length 0) = lv at *
            have hcz2 := blk_all1 q2
            have hcz3 := blk_all1 q3
            have hcz6 := blk_all1 q6
            have hcz7 := blk_all1 q7
            have hDD : D ≠ D2 := by omega
            by_cases c7 : cv = 7
            · subst c7
              rw [if_neg (by simp)] at h
              simp only [Prod.mk.injEq] at h
              obtain ⟨rfl, rfl⟩ := h
              gi_wp2
              go_wp2
              exact fin11 rfl rfl bk_now bk_now (two_kept hK2 rfl) (two_kept hKD rfl) hDD b_now (by omega) (by omega)
            · by_cases c9 : cv = 9
              · subst c9
                rw [if_neg (by simp)] at h
                simp only [Prod.mk.injEq] at h
                obtain ⟨rfl, rfl⟩ := h
                gi_wp2
                go_wp2
                exact fin11 rfl rfl bk_now bk_now (two_kept hK2 rfl) (two_kept hKD rfl) hDD b_now (by omega) (by omega)
              · have b7 : (cv != 7) = true := by simp [c7]
                have b9 : (cv != 9) = true := by simp [c9]
                rw [if_pos ⟨c7, c9⟩] at h
                simp only [Prod.mk.injEq] at h
                obtain ⟨rfl, rfl⟩ := h
                gi_wp2
                go_wp2
                exact fin11 rfl rfl bk_now bk_now (two_kept hK2 rfl) (two_kept hKD rfl) hDD b_now (by omega) (by omega)
          case stop2 =>
            rintro D2 c pre X hD2 hpre ⟨⟨⟨rfl, ini, p, e1, e2, e3, e4, e5⟩, hKD⟩, hBX⟩ hK2
            subst e1
            have hv := checkV_bad hmb hE hpre e2 e3
            rw [hv] at h
            simp only [Prod.mk.injEq] at h
            obtain ⟨rfl, rfl⟩ := h
            gi_wp2
            exact fin11 rfl rfl e4 e5 hK2 hKD (by omega) hBX (by omega) (by omega)
        case stop =>
          rintro D c pre W hD hpre ⟨⟨rfl, ini, p, e1, e2, e3, e4, e5⟩, hB⟩ hK
          subst e1
          have hv := checkV_alone hmb hpre e2 e3
          rw [hv] at h
          simp only [Prod.mk.injEq] at h
          obtain ⟨rfl, rfl⟩ := h
          gi_wp2
          refine ⟨by simp, .inl ⟨_, _, rfl, run_takeDeferred hK, ?_⟩⟩
          have hg := grownBy_putObj' W D (.deferred none)
          have hr : ∀ r, some D = some r → 0 ≤ r ∧ ∃ o : Obj, W.heap[r]? = some o ∧ o.isCells = false := fun r e => by cases e; exact ⟨Nat.zero_le _, _, hK, rfl⟩
          exact ⟨_, res11 rfl rfl (ownFrom_cells (α := Unit) [] W _ (some D) e4 hg hr) (ownFrom_cells (α := Unit) [] W _ (some D) e5 hg hr), rfl, hB.trans (belowK_b (w := w) (Nat.le_refl _) W D _ _ (by omega) hK rfl rfl)⟩
  · rw [if_neg h4] at h; exact absurd h (by simp)
end Go.Proofs.YtdhiibkcoolbeaaDoor.P
