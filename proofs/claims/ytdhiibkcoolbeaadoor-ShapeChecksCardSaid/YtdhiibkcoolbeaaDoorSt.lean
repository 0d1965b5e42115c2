/- Chapter 04: shape.Starts (walked by hand): a list of bools, true just at the places at which instructions begin. -/
import Derived.Test.YtdhiibkcoolbeaaDoorBg
namespace Go.Proofs.YtdhiibkcoolbeaaDoor.P
open Go.RowKit Go.Shelf Go.Proofs.YtdhiibkcoolbeaaDoorW.PrintWords Go.Proofs.YtdhiibkcoolbeaaDoorW.PrintLast Go.Proofs.YtdhiibkcoolbeaaDoorW.PrintMore
set_option linter.unusedVariables false
set_option linter.unusedSimpArgs false

attribute [local go_sem] max2_int min2_int max_two min_two max_three min_three max_four min_four
attribute [local go_sem] Oper.semAt_some

set_option maxHeartbeats 1000000 in
theorem begins_in (n : Nat) (a : Option Addr) (len cap : Nat) (w : World) :
    CallsIn Fence.wide n Tryd.prog 26 #[.slice a len cap] w fun e w' => e = .returned (.func (.func 34) #[] #[.pointer (some ⟨w.heap.size, 0, none⟩)]) ∧ w' = w.alloc (.cells #[.slice a len cap] 23) := by
  refine callsIn_of_wp Tryd.func26 rfl trivial ?_ rfl
  simp only [Tryd.ntmps26, List.size_toArray, List.length_cons, List.length_nil, Nat.reduceAdd, Nat.reduceSub, Array.replicate_succ, Array.replicate_zero, List.push_toArray, List.append_toArray, List.nil_append, List.cons_append]
  gi_wp2
  go_ret
  exact ⟨rfl, rfl⟩
theorem begins_stops (n : Nat) (hn : 1 ≤ n) (k Bs c : Nat) (A : Option Addr) (code : List S40) (pl : Nat → Int) (w0 : World)
    (hr : Kd.C k40 w0 A code.length code) (hG : Kd.C (Kd.int .i64) w0 (some ⟨0, 0, none⟩) gl0.length gl0) (hlen : code.length < 4611686018427387904)
    (hP : ∀ i : Nat, i < code.length → insn_Places.f k (rd_T40 code i).f0 (rd_T40 code i).f1 (rd_T40 code i).f2 (rd_T40 code i).f3 (rd_T40 code i).f4 = some (pl i) ∧ pl i ≤ 2)
    (w : World) (hw : Below w0.heap.size w0 w) (hBs : w.heap[Bs]? = some (.cells #[.slice A code.length c] 23 (0, 0))) :
    SeqStopsK Fence.wide n Tryd.prog 34 #[.pointer (some ⟨Bs, 0, none⟩)] (fun x : Fin code.length => #[Value.int .i64 (x.1 : Int)]) (Kp w0.heap.size Bs) (fun ys => ys = beg pl code.length 0) (fun pre => pre <+: beg pl code.length 0) code.length w := fun l J Jx W hW hJ hJx hY h0 =>
  begins1_in n hn k l Bs c A code pl w0 hr hG hlen hP J Jx hY W hJ (hw.trans (hW.mono hw.size)) ((hW.block Bs (blk_lt hBs)).trans hBs) h0
/-- What a round must keep is kept by the law's own book-keeping. -/
theorem Kp_b {n₀ Bs : Nat} {w : World} (hn : n₀ ≤ w.heap.size) (hB : Bs < w.heap.size) (W : World) (l : Nat) (o o' : Obj) (hl : w.heap.size ≤ l) (h : W.heap[l]? = some o) (h1 : o.isCells = false) (h2 : o.isWalk = false) : Kp n₀ Bs W (W.putObj l o') :=
  ⟨belowK_b hn W l o o' hl h h1 h2, World.putObj_heap_other (by omega)⟩
/-- How many places each instruction takes. -/
def plF (k : Nat) (l : List S40) (i : Nat) : Int := (insn_Places.f k (rd_T40 l i).f0 (rd_T40 l i).f1 (rd_T40 l i).f2 (rd_T40 l i).f3 (rd_T40 l i).f4).getD 0
def plOk (k : Nat) (l : List S40) (i : Nat) : Bool := match insn_Places.f k (rd_T40 l i).f0 (rd_T40 l i).f1 (rd_T40 l i).f2 (rd_T40 l i).f3 (rd_T40 l i).f4 with | some p => decide (p ≤ 2) | none => false
def plAll (k : Nat) (l : List S40) : Bool := (List.range l.length).all (plOk k l)
theorem plAll_at {k : Nat} {l : List S40} (h : plAll k l = true) (i : Nat) (hi : i < l.length) : insn_Places.f k (rd_T40 l i).f0 (rd_T40 l i).f1 (rd_T40 l i).f2 (rd_T40 l i).f3 (rd_T40 l i).f4 = some (plF k l i) ∧ plF k l i ≤ 2 := by
  have := List.all_eq_true.1 h i (List.mem_range.2 hi)
  unfold plOk at this
  unfold plF
  cases hx : insn_Places.f k (rd_T40 l i).f0 (rd_T40 l i).f1 (rd_T40 l i).f2 (rd_T40 l i).f3 (rd_T40 l i).f4 with
  | none => rw [hx] at this; exact absurd this (by decide)
  | some p => rw [hx] at this; exact ⟨rfl, of_decide_eq_true this⟩
def marks {n : Nat} (ps : List (Fin n)) : List Bool := ps.foldl (fun l p => l.set p.1 true) (List.replicate n false)
theorem marks_snoc {n : Nat} (ps : List (Fin n)) (x : Fin n) : marks (ps ++ [x]) = (marks ps).set x.1 true := by simp [marks]
theorem marks_len {n : Nat} (ps : List (Fin n)) : (marks ps).length = n := by
  have h : ∀ (ps : List (Fin n)) (l : List Bool), (ps.foldl (fun l p => l.set p.1 true) l).length = l.length := by
    intro ps
    induction ps with
    | nil => intro l; rfl
    | cons p ps ih => intro l; rw [List.foldl_cons, ih, List.length_set]
  rw [marks, h, List.length_replicate]
/-- What Starts answers. -/
def startsK (k : Nat) (l0 : List S40) : Option (List Bool) := if l0.length ≤ 281474976710656 ∧ plAll k l0 = true then some (marks (beg (plF k l0) l0.length 0)) else none
theorem ownFrom_cells {α : Type} {B g : Nat} {t : TypeId} {cs : Array Value} : OwnFrom B (fun (_ : List α) W => W.heap[g]? = some (.cells cs t (0, 0))) := fun s X Y row hs hg hr => by
  refine (hg.block g (blk_lt hs) (fun e => ?_)).trans hs
  obtain ⟨_, o, ho, hn⟩ := hr g e.symm
  rw [hs] at ho
  cases ho
  exact absurd hn (by simp [Obj.isCells])
theorem ownFrom_R {α β : Type} {B : Nat} {d : Kd β} {e base : Nat} {v : Value} (f : List α → List β) : OwnFrom B (fun (pre : List α) W => d.R e W base (fun _ => True) v (f pre)) := fun s X Y row hs hg hr => by
  refine Kd.R_mono (Kd.R_grown (Kd.R_bound hs) hg (fun k hk er => ?_)) (fun _ _ => trivial)
  obtain ⟨_, _, _, q, _, cells, hc⟩ := hk
  obtain ⟨_, o, ho, hn⟩ := hr k er.symm
  rw [hc] at ho
  cases ho
  exact absurd hn (by simp [Obj.isCells])
set_option maxHeartbeats 800000 in
set_option maxRecDepth 100000 in
theorem startsK_calls (k : Nat) (A0 : Option Addr) (c0 : Nat) (l0 : List S40) (r : List Bool) (w : World) (hr0 : Kd.C k40 w A0 l0.length l0) (hc0 : l0.length ≤ c0) (hrG0 : Kd.C (Kd.int .i64) w (some ⟨0, 0, none⟩) gl0.length gl0) (h : startsK k l0 = some r) :
    Calls Tryd.prog 15 #[.slice A0 l0.length c0] w fun e w' => ∃ v0_ : Value, e = .returned (v0_) ∧ Kd.R Kd.bool 4 w' w.heap.size (fun _ => True) v0_ r ∧ Below w.heap.size w w' := by
  unfold startsK at h
  by_cases hc : l0.length ≤ 281474976710656 ∧ plAll k l0 = true
  · rw [if_pos hc] at h
    obtain rfl := Option.some.inj h
    obtain ⟨hlen, hall⟩ := hc
    have HB := Aside0.mk (Below.refl w.heap.size w)
    refine (callsIn_wide (n := 3)).1 (callsIn_of_wp_marks Tryd.func15 rfl trivial (wpIn_wide.2 ?_) rfl)
    simp only [Tryd.ntmps15, List.size_toArray, List.length_cons, List.length_nil, Nat.reduceAdd, Nat.reduceSub, Array.replicate_succ, Array.replicate_zero, List.push_toArray, List.append_toArray, List.nil_append, List.cons_append]
    go_wp2_with (first
      | ((with_reducible refine gate_dst (N := 7) rfl ?_); refine Kd.R_make Kd.bool (w0 := w) w.heap.size 4 rfl (N := 7) rfl 35 _ _ rfl (l0.length : Int) rfl rfl Tryd.underlying35 (.bool false) 1 info4 rfl (by decide) (by omega) false (ok := fun _ => True) (okp := fun _ => True) rfl (fun _ hk => hk) trivial (by omega) (by omega) (Below.refl _ _) (Nat.le_refl _) ?_; intro v1 w1 ho hb hg_ hnew_; simp only [Int.toNat_natCast] at ho; have hlt1 := Kd.R_lt ho; replace HB := sh_b (w := w) hb; have HO := Aside0.mk ho; clear ho hb hg_; obtain ⟨Ao, co, eo⟩ := Kd.R_slice HO.out; simp only [List.length_replicate] at eo; subst eo)
      | ((with_reducible refine gate_dst (N := 3) rfl ?_); refine sh_box 3 #[.slice none 0 0] 35 ?_; intro g3 hg w2 hbox hb; have GE3 := sh_z (w := w) hg; replace HB := sh_b (w := w) hb; have BK3 := Aside0.mk (hbox); replace HO := Aside0.mk (Kd.R_below HO.out hb); have hs12 := hb.size; clear hb hg; have hcz3 := blk_all1 BK3.out)
      | (go_at_call 26; refine ((callsIn_wide (n := 3)).1 (begins_in 3 _ _ _ _)).mono ?_; rintro e w' ⟨rfl, rfl⟩))
    have hO0 := Kd.R_alloc (Kd.R_set HO.out BK3.out (by decide) 0 (.slice Ao l0.length co)) (.cells #[.slice A0 l0.length c0] 23 (0, 0))
    have hbox := heap_alloc_new (w2.setCell ⟨g3, 0, none⟩ (.slice Ao l0.length co)) (.cells #[.slice A0 l0.length c0] 23 (0, 0))
    have hB0 : Below w.heap.size w ((w2.setCell ⟨g3, 0, none⟩ (.slice Ao l0.length co)).alloc (.cells #[.slice A0 l0.length c0] 23 (0, 0))) := b_now
    have hc0' : ((w2.setCell ⟨g3, 0, none⟩ (.slice Ao l0.length co)).alloc (.cells #[.slice A0 l0.length c0] 23 (0, 0))).heap[g3]? = some (.cells #[.slice Ao l0.length co] 35 (0, 0)) := bk_now
    have hg3 := blk_lt BK3.out
    have hw2 := HB.out.size
    have hsz : ((w2.setCell ⟨g3, 0, none⟩ (.slice Ao l0.length co)).alloc (.cells #[.slice A0 l0.length c0] 23 (0, 0))).heap.size = w2.heap.size + 1 := by simp
    rw [show (w2.setCell ⟨g3, 0, none⟩ (.slice Ao l0.length co)).heap.size = w2.heap.size by simp] at hbox
    generalize (w2.setCell ⟨g3, 0, none⟩ (.slice Ao l0.length co)).alloc (.cells #[.slice A0 l0.length c0] 23 (0, 0)) = W0 at hO0 hbox hB0 hc0' hsz ⊢
    generalize w2.heap.size = Bs at hbox hg3 hw2 hsz hs12 ⊢
    refine (wpIn_wide (n := 3)).1 (wpIn_rangeFunc_ownG (F := Fence.wide) (n := 3) rfl (by omega) (gf := 34) (lb := #[.pointer (some ⟨Bs, 0, none⟩)]) rfl trivial (enters_of Tryd.func34 (by kernel_rfl) rfl)
      (begins_stops 2 (by omega) k Bs c0 A0 l0 (plF k l0) w hr0 hrG0 (by omega) (plAll_at hall) W0 hB0 hbox) (fun h k => h.trans k) (Kp_b (by omega) (by omega)) (Below.refl _ _) (fun _ => rfl)
      (fun pre W => (W.heap[g3]? = some (.cells #[.slice Ao l0.length co] 35 (0, 0)) ∧ Kd.R Kd.bool 4 W w.heap.size (fun _ => True) (.slice Ao l0.length co) (marks pre)) ∧ Below w.heap.size w W)
      (fun _ _ _ => False)
      (OwnFrom.and (OwnFrom.and ownFrom_cells (ownFrom_R (fun pre => marks pre))) (ownFrom_below (Nat.le_refl _) (by omega)))
      (fun _ _ _ _ _ hs _ _ => hs)
      ⟨⟨hc0', hO0⟩, hB0⟩
      (fun x => { tmps := #[.slice A0 l0.length c0, undef, .slice none 0 0, .pointer (some ⟨g3, 0, none⟩), .int .i64 (x.1 : Int), .slice A0 l0.length c0, .int .i64 (l0.length : Int), .slice Ao l0.length co, .slice A0 l0.length c0, .func (.func 34) #[] #[.pointer (some ⟨Bs, 0, none⟩)], .int .i64 (x.1 : Int), undef, undef, undef, undef], defers := [] }) ?assign ?body ?done ?stop)
    case assign =>
      intro l x W K hK
      gi_wp2
      exact hK
    case body =>
      rintro l pre x W ⟨⟨hc3, hR⟩, hB⟩ _
      have hx := x.2
      obtain ⟨g, cap, eg, hge, hgl, cells, hcl⟩ := Kd.R_form hR (by rw [marks_len]; omega)
      simp only [marks_len, Value.slice.injEq, true_and] at eg
      obtain ⟨rfl, rfl⟩ := eg
      have hb3 := blk_all1 hc3
      have hR2 : Kd.R Kd.bool 4 W w.heap.size (fun _ => True) (.slice (some ⟨g, 0, none⟩) (marks pre).length co) (marks pre) := by rw [marks_len]; exact hR
      have hcx := Kd.R_cell false hR2 (x.1 : Int) (by omega) (by rw [marks_len]; omega)
      obtain ⟨hput, hgr⟩ := Kd.R_put hR2 (x.1 : Int) true
      simp only [Int.toNat_natCast, marks_len] at hcx hput hgr
      have hgB : Bs ≠ g := by have := hlt1 g rfl; omega
      have hg3' : g3 ≠ g := fun e => by subst e; rw [hcl] at hc3; simp at hc3
      gi_wp2
      exact ⟨(KeepsOthers.setCell _ _ _).from _, ⟨(Below.refl _ W).setCell (p := ⟨g, x.1, none⟩) hge _, Below.heap_setCell W ⟨g, x.1, none⟩ _ Bs hgB⟩,
        ⟨⟨(Below.heap_setCell W ⟨g, x.1, none⟩ _ g3 hg3').trans hc3, by rw [marks_snoc]; exact hput⟩, hB.setCell (p := ⟨g, x.1, none⟩) hge _⟩⟩
    case done =>
      rintro D ys W hD rfl ⟨⟨hc3, hR⟩, hB⟩ hK
      have hb3 := blk_all1 hc3
      gi_wp2
      go_wp2
      refine ⟨by simp, .inl ⟨_, _, rfl, run_takeDeferred hK, ?_⟩⟩
      have hR' := (ownFrom_R (B := 0) (d := Kd.bool) (e := 4) (base := w.heap.size) (v := .slice Ao l0.length co) (fun pre : List (Fin l0.length) => marks pre)) _ W _ (some D) hR (grownBy_putObj' W D (.deferred none)) (fun r e => by cases e; exact ⟨Nat.zero_le _, _, hK, rfl⟩)
      refine ⟨.slice Ao l0.length co, results_tmp (t := 2) rfl _ _ _, _, rfl, hR', hB.trans (belowK_b (w := w) (Nat.le_refl _) W D _ _ (by omega) hK rfl rfl)⟩
    case stop =>
      rintro D c pre W _ _ h _
      exact h.elim
  · rw [if_neg hc] at h; exact absurd h (by simp)
end Go.Proofs.YtdhiibkcoolbeaaDoor.P
