/- Chapter 05: slices.Insert over a queue of whole numbers of the call's own (off the kit's shelf of library contracts); one value, at a place within the list. -/
import Derived.Shelf.Spec.SlicesInsert
import Derived.Shelf.Spec.SlicesInsertGrow
import Derived.Test.YtkjcjlegokdpdaaDoorPx0
namespace Go.Proofs.YtkjcjlegokdpdaaDoor.P
open Go.Shelf Go.Proofs Go.Lib Go.RowKit Go.Proofs.YtkjcjlegokdpdaaDoorW.PrintWords Go.Proofs.YtkjcjlegokdpdaaDoorW.PrintLast Go.Proofs.YtkjcjlegokdpdaaDoorW.PrintMore
set_option linter.unusedVariables false
set_option linter.unusedSimpArgs false

/-- The library's numbers in this program. -/
def insRen : Go.Shelf.Ren := ⟨fun | 21 => 32 | 27 => 42 | 28 => 43 | 35 => 51 | 39 => 54 | n => n, fun | 0 => 0 | 3 => 3 | 4 => 4 | 22 => 25 | n => n, fun n => n⟩
theorem insLays : Lays2.n21 Tryd.prog insRen := {
  mixed := by kernel_rfl
  f21 := Tryd.func32.trans (congrArg some (by kernel_rfl))
  f27 := Tryd.func42.trans (congrArg some (by kernel_rfl))
  f28 := Tryd.func43.trans (congrArg some (by kernel_rfl))
  f35 := Tryd.func51.trans (congrArg some (by kernel_rfl))
  f39 := Tryd.func54.trans (congrArg some (by kernel_rfl))
  t0 := Tryd.underlying0
  a0 := Tryd.isAgg0
  z0 := Tryd.sizeOf0
  v0 := Tryd.zeroValue0
  t3 := Tryd.underlying3
  a3 := Tryd.isAgg3
  z3 := Tryd.sizeOf3
  v3 := Tryd.zeroValue3
  t4 := Tryd.underlying4
  a4 := Tryd.isAgg4
  z4 := Tryd.sizeOf4
  v4 := Tryd.zeroValue4
  t22 := Tryd.underlying25
  a22 := Tryd.isAgg25
  z22 := Tryd.sizeOf25
  v22 := Tryd.zeroValue25
  i3 := by kernel_rfl }
section
variable {b : Nat} {e : TypeId}
theorem sc_at : ∀ (vs : List Value) (o : Nat) (w : World) (cur : Array Value), w.heap[b]? = some (.cells cur e (0, 0)) → ∃ cur' : Array Value, (w.setCells b o vs).heap[b]? = some (.cells cur' e (0, 0)) ∧ cur'.size = cur.size ∧ ∀ i, cur'[i]? = if o ≤ i ∧ i < o + vs.length ∧ i < cur.size then vs[i - o]? else cur[i]?
  | [], o, w, cur, h => ⟨cur, h, rfl, fun i => by rw [if_neg (by simp only [List.length_nil]; omega)]⟩
  | v :: r, o, w, cur, h => by
    obtain ⟨cur', a, b', c⟩ := sc_at r (o + 1) _ _ (blk_set h o v)
    refine ⟨cur', a, by rw [b', Array.size_setIfInBounds], fun i => ?_⟩
    rw [c i, Array.size_setIfInBounds, List.length_cons]
    by_cases h1 : i = o
    · subst h1
      rw [if_neg (by omega)]
      by_cases h2 : i < cur.size
      · rw [if_pos ⟨Nat.le_refl _, by omega, h2⟩, Nat.sub_self, Array.getElem?_setIfInBounds_self_of_lt h2]; rfl
      · rw [if_neg (by omega), Array.getElem?_eq_none (by rw [Array.size_setIfInBounds]; omega), Array.getElem?_eq_none (by omega)]
    · rw [Array.getElem?_setIfInBounds_ne (Ne.symm h1)]
      by_cases h2 : o + 1 ≤ i ∧ i < o + 1 + r.length ∧ i < cur.size
      · rw [if_pos h2, if_pos (by omega), show i - o = (i - (o + 1)) + 1 by omega, List.getElem?_cons_succ]
      · rw [if_neg h2, if_neg (by omega)]
theorem sc_grown : ∀ (vs : List Value) (o : Nat) (w : World), w.grownBy (w.setCells b o vs) (some b)
  | [], o, w => ⟨rfl, rfl, rfl, Nat.le_refl _, fun _ _ _ => rfl⟩
  | v :: r, o, w => by
    have h := sc_grown r (o + 1) (w.setCell ⟨b, o, none⟩ v)
    have h0 : w.grownBy (w.setCell ⟨b, o, none⟩ v) (some b) := ⟨rfl, rfl, rfl, by simp, fun k hk hne => Below.heap_setCell w ⟨b, o, none⟩ v k (fun e => hne (by rw [e]))⟩
    exact h0.trans h
end
theorem drew_grown (w : World) (row : Option Nat) : w.grownBy w.drew row := ⟨rfl, rfl, rfl, Nat.le_refl _, fun _ _ _ => rfl⟩
/-- A queue of whole numbers, made of what its block holds. -/
theorem q_mk {w : World} {base g off cap : Nat} {cur : Array Value} {ys : List Int} {ok : Nat → Prop} {n : Nat} (hn' : n = ys.length) (hh : w.heap[g]? = some (.cells cur 3 (0, 0))) (hb : base ≤ g) (hok : ok g) (hn : ys.length ≤ cap) (hm : off + cap ≤ maxLen) (hs : cur.size = off + cap)
    (hc : ∀ j, j < ys.length → cur[off + j]? = some (.int .i64 (ys.getD j 0))) : Kd.Q (Kd.int .i64) 3 w base ok (.slice (some ⟨g, off, none⟩) n cap) ys := by
  subst hn'
  refine ⟨fun k hk => ?_, encs (Value.int .i64) ys, ⟨by rw [encs_length, show (Kd.int .i64).sz = 1 from rfl, Nat.mul_one], .inr ⟨g, off, cap, cur, by rw [show (Kd.int .i64).sz = 1 from rfl, Nat.mul_one], hb, hh, hn, hm, by rw [show (Kd.int .i64).sz = 1 from rfl, Nat.mul_one]; exact hs, ?_⟩⟩, Kd.reps_scalar ys⟩
  · have : g = k := by simpa [Value.ownBlock] using hk
    rw [← this]; exact hok
  · rw [show (Kd.int .i64).sz = 1 from rfl, Nat.mul_one, Nat.mul_one]
    apply List.ext_getElem?
    intro j
    rw [List.getElem?_take]
    by_cases hj : j < ys.length
    · rw [if_pos hj, List.getElem?_drop, Array.getElem?_toList, hc j hj, encs_get (d := (0 : Int)) ys j hj]
    · rw [if_neg hj, List.getElem?_eq_none (by rw [encs_length]; omega)]
/-- What such a queue is. -/
theorem q_open {w : World} {base : Nat} {ok : Nat → Prop} {v : Value} {xs : List Int} (h : Kd.Q (Kd.int .i64) 3 w base ok v xs) :
    (xs = [] ∧ ∃ A, v = .slice A 0 0) ∨ ∃ g off cap cur, v = .slice (some ⟨g, off, none⟩) xs.length cap ∧ base ≤ g ∧ ok g ∧ w.heap[g]? = some (.cells cur 3 (0, 0)) ∧ xs.length ≤ cap ∧ off + cap ≤ maxLen ∧ cur.size = off + cap ∧ ∀ j, j < xs.length → cur[off + j]? = some (.int .i64 (xs.getD j 0)) := by
  obtain ⟨hok, inner, ⟨hl, hq⟩, hr⟩ := h
  have hin : inner = encs (Value.int .i64) xs := by
    apply List.ext_getElem?
    intro j
    rw [show (Kd.int .i64).sz = 1 from rfl, Nat.mul_one] at hl
    by_cases hj : j < xs.length
    · have h2 := hr.2 j xs[j] (List.getElem?_eq_getElem hj)
      have h3 : (inner.drop (j * 1)).take 1 = [Value.int .i64 xs[j]] := h2
      rw [Nat.mul_one, List.drop_eq_getElem_cons (by omega)] at h3
      have h4 : inner[j] = Value.int .i64 xs[j] := (List.cons.inj h3).1
      rw [List.getElem?_eq_getElem (by omega), h4, encs_get (d := (0 : Int)) xs j hj]
      simp [List.getD_eq_getElem?_getD, List.getElem?_eq_getElem hj]
    · rw [List.getElem?_eq_none (by omega), List.getElem?_eq_none (by rw [encs_length]; omega)]
  subst hin
  rw [show (Kd.int .i64).sz = 1 from rfl] at hq
  rcases hq with ⟨h0, A, hv, _⟩ | ⟨g, off, cap, cur, hv, hb, hh, hn, hm, hs, ht⟩
  · exact .inl ⟨List.eq_nil_of_length_eq_zero h0, A, hv⟩
  · rw [Nat.mul_one] at hv hs ht
    rw [Nat.mul_one] at ht
    refine .inr ⟨g, off, cap, cur, hv, hb, hok g (by rw [hv]; simp [Value.ownBlock]), hh, hn, hm, hs, fun j hj => ?_⟩
    have h2 : ((cur.toList.drop off).take xs.length)[j]? = (encs (Value.int .i64) xs)[j]? := by rw [ht]
    rw [List.getElem?_take, if_pos hj, List.getElem?_drop, Array.getElem?_toList, encs_get (d := (0 : Int)) xs j hj] at h2
    exact h2
theorem zc_size (n : Nat) : (Builtin.zeroCells (Value.int .i64 0).cells n).size = n := by rw [size_zeroCells]; simp [Value.cells]
def insAt (xs : List Int) (i : Nat) (x : Int) : List Int := xs.take i ++ x :: xs.drop i
theorem insAt_len {xs : List Int} {i : Nat} (x : Int) (h : i ≤ xs.length) : (insAt xs i x).length = xs.length + 1 := by unfold insAt; simp; omega
theorem insAt_get {xs : List Int} {i : Nat} {x : Int} (h : i ≤ xs.length) (j : Nat) : (insAt xs i x).getD j 0 = if j < i then xs.getD j 0 else if j = i then x else xs.getD (j - 1) 0 := by
  unfold insAt
  rw [List.getD_eq_getElem?_getD, List.getElem?_append, List.length_take, Nat.min_eq_left h]
  by_cases h1 : j < i
  · rw [if_pos h1, if_pos h1, List.getElem?_take, if_pos h1, List.getD_eq_getElem?_getD]
  · rw [if_neg h1, if_neg h1]
    by_cases h2 : j = i
    · subst h2; simp
    · rw [if_neg h2, show j - i = (j - i - 1) + 1 by omega, List.getElem?_cons_succ, List.getElem?_drop, show i + (j - i - 1) = j - 1 by omega, List.getD_eq_getElem?_getD]
theorem encs_at {xs : List Int} {j : Nat} {v : Value} (h : (encs (Value.int .i64) xs)[j]? = some v) : j < xs.length ∧ v = .int .i64 (xs.getD j 0) := by
  have hj : j < xs.length := by
    have := (List.getElem?_eq_some_iff.1 h).1
    rwa [encs_length] at this
  rw [encs_get (d := (0 : Int)) xs j hj] at h
  exact ⟨hj, (Option.some.inj h).symm⟩
theorem encs_one {xs : List Int} : ∀ v ∈ encs (Value.int .i64) xs, v.oneCell' = true := fun v hv => by
  obtain ⟨x, _, rfl⟩ := List.mem_map.1 hv; rfl
set_option maxHeartbeats 1000000 in
/-- **slices.Insert of one value into a queue of the call's own.** -/
theorem insert_q (base : Nat) (ok : Nat → Prop) (xs : List Int) (i : Nat) (x : Int) (v : Value) (w : World) (vb : Nat) (hq : Kd.Q (Kd.int .i64) 3 w base ok v xs) (hi : i ≤ xs.length) (hl : xs.length < 1000000)
    (hvb : w.heap[vb]? = some (.cells #[.int .i64 x] 3 (0, 0))) (hne : some vb ≠ v.ownBlock) (hb : base ≤ w.heap.size) (hfr : ∀ k, w.heap.size ≤ k → ok k) :
    Calls Tryd.prog 32 #[v, .int .i64 (i : Int), .slice (some ⟨vb, 0, none⟩) 1 1] w fun e w' => ∃ v', e = .returned v' ∧ Kd.Q (Kd.int .i64) 3 w' base ok v' (insAt xs i x) ∧ w.grownBy w' v.ownBlock ∧ (v'.ownBlock = v.ownBlock ∨ ∃ b, v'.ownBlock = some b ∧ w.heap.size ≤ b) := by
  have hvs : ∀ j u, ([.int .i64 x] : List Value)[j]? = some u → w.cell? ⟨vb, 0 + j, none⟩ = some u := fun j u hj => by
    rw [blk_cell hvb]
    match j, hj with
    | 0, hj => simpa using hj
    | j + 1, hj => simp at hj
  have h1v : ∀ u ∈ ([.int .i64 x] : List Value), u.oneCell' = true := fun u hu => by rw [List.mem_singleton.1 hu]; rfl
  have hlen := insAt_len x hi
  have hend : ∀ (A : Option Addr) (c : Nat), v = .slice A xs.length c → xs.length ≤ c → c < xs.length + 1 → i = xs.length → (A = none → xs.length = 0) → (∀ a, A = some a → ∀ j u, (encs (Value.int .i64) xs)[j]? = some u → w.cell? (a.add j) = some u) →
      Calls Tryd.prog 32 #[v, .int .i64 (i : Int), .slice (some ⟨vb, 0, none⟩) 1 1] w fun e w' => ∃ v', e = .returned v' ∧ Kd.Q (Kd.int .i64) 3 w' base ok v' (insAt xs i x) ∧ w.grownBy w' v.ownBlock ∧ (v'.ownBlock = v.ownBlock ∨ ∃ b, v'.ownBlock = some b ∧ w.heap.size ≤ b) := by
    intro A c hv hnc hroom hie hnil hcs
    subst hie
    subst hv
    have h := Any2.slices_Insert_int_end_grow insLays A xs.length c vb 0 1 1 (encs (Value.int .i64) xs) [.int .i64 x] w (by omega) hnc hroom (by omega) (encs_length xs) rfl hnil hcs hvs h1v
    refine Calls.mono h ?_
    rintro e w' ⟨rfl, rfl⟩
    have hT : insRen.t 3 = 3 := rfl
    rw [hT]
    obtain ⟨gc, hgc⟩ : ∃ gc, gc = grownCap w (xs.length + 1) c 3 := ⟨_, rfl⟩
    have g1 : xs.length + 1 ≤ gc := by rw [hgc]; exact grownCap_ge _ _ _ _
    have g2 : gc ≤ maxLen := by rw [hgc]; exact grownCap_le_maxLen _ _ _ _ (by unfold maxLen; omega)
    rw [← hgc]
    have hz : ((encs (Value.int .i64) xs ++ [Value.int .i64 x]).toArray ++ Builtin.zeroCells (Value.int .i64 0).cells (gc - (xs.length + 1))).size = gc := by
      rw [Array.size_append, zc_size]; simp [encs_length]; omega
    refine ⟨_, rfl, q_mk (cur := (encs (Value.int .i64) xs ++ [Value.int .i64 x]).toArray ++ Builtin.zeroCells (Value.int .i64 0).cells (gc - (xs.length + 1))) hlen.symm (blk_new w.drew _) hb (hfr _ (Nat.le_refl _)) (by rw [hlen]; exact g1) (by rw [Nat.zero_add]; exact g2) (by rw [Nat.zero_add]; exact hz) (fun j hj => ?_), (drew_grown w _).trans (World.grownBy_alloc _ _ _), .inr ⟨_, rfl, Nat.le_refl _⟩⟩
    rw [hlen] at hj
    rw [Nat.zero_add, Array.getElem?_append_left (by simp [encs_length]; omega), List.getElem?_toArray, insAt_get (Nat.le_refl _)]
    by_cases h1 : j < xs.length
    · rw [if_pos h1, List.getElem?_append_left (by rw [encs_length]; exact h1), encs_get (d := (0 : Int)) xs j h1]
    · have : j = xs.length := by omega
      subst this
      rw [if_neg h1, if_pos rfl, List.getElem?_append_right (by rw [encs_length]; exact Nat.le_refl _), encs_length, Nat.sub_self]; rfl
  rcases q_open hq with ⟨rfl, A, hv⟩ | ⟨g, off, cap, cur, hv, hbg, hokg, hh, hnc, hcm, hcs, hcur⟩
  · exact hend A 0 hv (Nat.le_refl _) (by simp) (by simpa using hi) (fun _ => rfl) (fun a _ j u hj => by have := (encs_at hj).1; simp at this)
  have hcells : ∀ j u, (encs (Value.int .i64) xs)[j]? = some u → w.cell? ⟨g, off + j, none⟩ = some u := fun j u hj => by
    obtain ⟨h1, rfl⟩ := encs_at hj
    rw [blk_cell hh]; exact hcur j h1
  have hsome : ∀ j, j < cap → (w.cell? ⟨g, off + j, none⟩).isSome = true := fun j hj => by
    rw [blk_cell hh, Array.getElem?_eq_getElem (by omega)]; rfl
  have hfz : ∀ j, w.frozen? ⟨g, off + j, none⟩ = false := fun j => blk_frozen hh _
  by_cases hie : i = xs.length
  · by_cases hroom : xs.length + 1 ≤ cap
    · subst hie
      subst hv
      have h := Any2.slices_Insert_int_end_room insLays g off xs.length cap vb 0 1 1 [.int .i64 x] w (by omega) hroom (by unfold maxLen at hcm; omega) rfl (fun j hj => by rw [Nat.add_assoc]; exact hsome _ (by omega)) (fun j hj => by rw [Nat.add_assoc]; exact hfz _) hvs h1v
      refine Calls.mono h ?_
      rintro e w' ⟨rfl, rfl⟩
      obtain ⟨cur', c1, c2, c3⟩ := sc_at [.int .i64 x] (off + xs.length) w cur hh
      refine ⟨_, rfl, q_mk (cur := cur') hlen.symm c1 hbg hokg (by rw [hlen]; exact hroom) hcm (by rw [c2]; exact hcs) (fun j hj => ?_), by simpa [Value.ownBlock] using sc_grown [.int .i64 x] (off + xs.length) w, .inl rfl⟩
      rw [hlen] at hj
      rw [c3, insAt_get (Nat.le_refl _)]
      by_cases h1 : j < xs.length
      · rw [if_neg (by omega), if_pos h1, hcur j h1]
      · have : j = xs.length := by omega
        subst this
        rw [if_pos ⟨by omega, by simp, by omega⟩, if_neg h1, if_pos rfl, Nat.sub_self]; rfl
    · exact hend (some ⟨g, off, none⟩) cap hv hnc (by omega) hie (fun h => by cases h) (fun a ha j u hj => by obtain rfl := Option.some.inj ha; rw [add_at]; exact hcells j u hj)
  · have hlt : i < xs.length := by omega
    subst hv
    by_cases hroom : xs.length + 1 ≤ cap
    · have hvg : vb ≠ g := fun e => hne (by rw [e]; simp [Value.ownBlock])
      have h := Any2.slices_Insert_int_shift insLays g off xs.length cap i vb 0 1 1 (encs (Value.int .i64) xs) [.int .i64 x] w hlt (by omega) hroom (by unfold maxLen at hcm; omega) hvg (encs_length xs) rfl hcells (fun j hj => hsome j (by omega)) (fun j _ => hfz j) hvs encs_one h1v
        3 3 1 cur.size (by unfold World.shape?; rw [hvb]; rfl) (by unfold World.shape?; rw [hh]) (by omega) (blk_frozen hvb _) (blk_frozen hvb _)
      refine Calls.mono h ?_
      rintro e w' ⟨rfl, rfl⟩
      obtain ⟨cur1, a1, a2, a3⟩ := sc_at ((encs (Value.int .i64) xs).drop i) (off + (i + 1)) w.drew cur hh
      obtain ⟨cur2, c1, c2, c3⟩ := sc_at [.int .i64 x] (off + i) _ cur1 a1
      refine ⟨_, rfl, q_mk (cur := cur2) hlen.symm c1 hbg hokg (by rw [hlen]; exact hroom) hcm (by rw [c2, a2]; exact hcs) (fun j hj => ?_), by simpa [Value.ownBlock] using ((drew_grown w (some g)).trans (sc_grown _ _ _)).trans (sc_grown _ _ _), .inl rfl⟩
      rw [hlen] at hj
      rw [c3, insAt_get hi]
      by_cases h1 : j < i
      · rw [if_neg (by omega), a3, if_neg (by omega), if_pos h1, hcur j (by omega)]
      · rw [if_neg h1]
        by_cases h2 : j = i
        · subst h2
          rw [if_pos ⟨by omega, by simp, by omega⟩, if_pos rfl, Nat.sub_self]; rfl
        · rw [if_neg h2, if_neg (by simp only [List.length_singleton]; omega), a3, if_pos ⟨by omega, by rw [List.length_drop, encs_length]; omega, by omega⟩, List.getElem?_drop, show i + (off + j - (off + (i + 1))) = j - 1 by omega, encs_get (d := (0 : Int)) xs (j - 1) (by omega)]
    · have h := Any2.slices_Insert_int_grow insLays g off xs.length cap i vb 0 1 1 (encs (Value.int .i64) xs) [.int .i64 x] w hlt (by omega) hnc (by omega) (by omega) (encs_length xs) rfl hcells hvs encs_one h1v
      refine Calls.mono h ?_
      rintro e w' ⟨rfl, rfl⟩
      have hT : insRen.t 3 = 3 := rfl
      rw [hT]
      obtain ⟨gc, hgc⟩ : ∃ gc, gc = grownCap w (xs.length + 1) cap 3 := ⟨_, rfl⟩
      have g1 : xs.length + 1 ≤ gc := by rw [hgc]; exact grownCap_ge _ _ _ _
      have g2 : gc ≤ maxLen := by rw [hgc]; exact grownCap_le_maxLen _ _ _ _ (by unfold maxLen; omega)
      rw [← hgc]
      have hz : (((encs (Value.int .i64) xs).take i).toArray ++ Builtin.zeroCells (Value.int .i64 0).cells (xs.length + 1 - i) ++ Builtin.zeroCells (Value.int .i64 0).cells (gc - (xs.length + 1))).size = gc := by
        rw [Array.size_append, Array.size_append, zc_size, zc_size]; simp [encs_length]; omega
      obtain ⟨cur1, a1, a2, a3⟩ := sc_at [.int .i64 x] i (w.alloc (.cells (((encs (Value.int .i64) xs).take i).toArray ++ Builtin.zeroCells (Value.int .i64 0).cells (xs.length + 1 - i) ++ Builtin.zeroCells (Value.int .i64 0).cells (gc - (xs.length + 1))) 3)).drew _ (blk_new w _)
      obtain ⟨cur2, c1, c2, c3⟩ := sc_at (b := w.heap.size) (e := 3) ((encs (Value.int .i64) xs).drop i) (i + 1) (World.drew (World.setCells _ w.heap.size i [Value.int .i64 x])) cur1 a1
      refine ⟨_, rfl, q_mk (cur := cur2) hlen.symm c1 hb (hfr _ (Nat.le_refl _)) (by rw [hlen]; exact g1) (by rw [Nat.zero_add]; exact g2) (by rw [c2, a2, hz, Nat.zero_add]) (fun j hj => ?_), ?_, .inr ⟨_, rfl, Nat.le_refl _⟩⟩
      · rw [hlen] at hj
        rw [Nat.zero_add, c3, insAt_get hi, a2, hz]
        by_cases h1 : j < i
        · rw [if_neg (by omega), a3, if_neg (by omega), if_pos h1, Array.append_assoc, Array.getElem?_append_left (by simp [encs_length]; omega), List.getElem?_toArray, List.getElem?_take, if_pos h1, encs_get (d := (0 : Int)) xs j (by omega)]
        · rw [if_neg h1]
          by_cases h2 : j = i
          · subst h2
            rw [if_neg (by omega), a3, hz, if_pos ⟨by omega, by simp, by omega⟩, if_pos rfl, Nat.sub_self]; rfl
          · rw [if_neg h2, if_pos ⟨by omega, by rw [List.length_drop, encs_length]; omega, by omega⟩, List.getElem?_drop, show i + (j - (i + 1)) = j - 1 by omega, encs_get (d := (0 : Int)) xs (j - 1) (by omega)]
      · have hnew : ∀ (A B : World), A.grownBy B (some w.heap.size) → w.heap.size ≤ A.heap.size → w.grownBy A (some g) → w.grownBy B (some g) := fun A B h1 h0 h2 =>
          ⟨h1.os.trans h2.os, h1.tape.trans h2.tape, h1.output.trans h2.output, Nat.le_trans h2.size h1.size, fun k hk hne => (h1.block k (by omega) (fun e => by have := Option.some.inj e; omega)).trans (h2.block k hk hne)⟩
        have e1 : w.grownBy (w.alloc (.cells (((encs (Value.int .i64) xs).take i).toArray ++ Builtin.zeroCells (Value.int .i64 0).cells (xs.length + 1 - i) ++ Builtin.zeroCells (Value.int .i64 0).cells (gc - (xs.length + 1))) 3)) (some g) := World.grownBy_alloc _ _ _
        have e2 := e1.trans (drew_grown _ (some g))
        have e3 := hnew _ _ (sc_grown [.int .i64 x] i _) e2.size e2
        have e4 := e3.trans (drew_grown _ (some g))
        have e5 := hnew _ _ (sc_grown ((encs (Value.int .i64) xs).drop i) (i + 1) _) e4.size e4
        exact e5
end Go.Proofs.YtkjcjlegokdpdaaDoor.P
