/- slices.Insert at []int, of a row of one's own and a row of numbers, in the words of the printed contracts: over the shelf's contracts. -/
import Derived.Shelf.Spec.SlicesInsert
import Derived.Shelf.Spec.SlicesInsertGrow
import Derived.Test.YthdpiceiemkjlaaMSort
namespace Go.Proofs.Ythdpiceiemkjlaa.MIns
open Go Go.Proofs Go.RowKit Go.Shelf Go.Sort Go.Proofs.YthdpiceiemkjlaaW.PrintWords Go.Proofs.YthdpiceiemkjlaaW.PrintLast Go.Proofs.YthdpiceiemkjlaaW.PrintMore Go.Proofs.Ythdpiceiemkjlaa.MDel Go.Proofs.Ythdpiceiemkjlaa.MSort
set_option linter.unusedSimpArgs false
/-- A row of one's own that is not empty, laid open. -/
theorem open_own {w : World} {base e : Nat} {P : Nat → Prop} {v : Value} {xs : List Int} (ho : Kd.R (Kd.int .i64) e w base P v xs) (hp : 0 < xs.length) : ∃ g cap cur, v = .slice (some ⟨g, 0, none⟩) xs.length cap ∧ base ≤ g ∧ P g ∧ w.heap[g]? = some (.cells cur e (0, 0)) ∧ xs.length ≤ cap ∧ cap ≤ maxLen ∧ cur.size = cap ∧ cur.toList.take xs.length = xs.map (Value.int .i64) := by
  have hown := Kd.own_of_R ho
  rcases hown.2 with ⟨_, h0⟩ | ⟨g, cap, cur, hv, hb, hg, hn, hc, hs, ht⟩
  · omega
  · refine ⟨g, cap, cur, hv, hb, ho.1 g (by rw [hv]; rfl), hg, hn, hc, by omega, ?_⟩
    rw [Nat.mul_one] at ht
    exact ht
theorem cell_of {w : World} {g e : Nat} {cur : Array Value} {xs : List Int} (hg : w.heap[g]? = some (.cells cur e (0, 0))) (ht : cur.toList.take xs.length = xs.map (Value.int .i64)) : ∀ j v, (xs.map (Value.int .i64))[j]? = some v → w.cell? ⟨g, 0 + j, none⟩ = some v := by
  intro j v hj
  have hjl : j < xs.length := by
    have := (List.getElem?_eq_some_iff.1 hj).1
    simpa using this
  rw [← ht, List.getElem?_take_of_lt hjl, Array.getElem?_toList] at hj
  simp [World.cell?, hg, hj]
/-- Cells with values put in from place o on. -/
def setArr : Array Value → Nat → List Value → Array Value
  | c, _, [] => c
  | c, o, v :: r => setArr (c.setIfInBounds o v) (o + 1) r
theorem setArr_size : ∀ (vs : List Value) (c : Array Value) (o : Nat), (setArr c o vs).size = c.size
  | [], _, _ => rfl
  | v :: r, c, o => by unfold setArr; rw [setArr_size r]; simp
theorem setArr_get : ∀ (vs : List Value) (c : Array Value) (o k : Nat), o + vs.length ≤ c.size → (setArr c o vs)[k]? = if o ≤ k ∧ k < o + vs.length then vs[k - o]? else c[k]?
  | [], c, o, k, h => by unfold setArr; rw [if_neg (by simp)]
  | v :: r, c, o, k, h => by
    simp only [List.length_cons] at h ⊢
    unfold setArr
    rw [setArr_get r _ (o + 1) k (by simp; omega)]
    by_cases h1 : o + 1 ≤ k ∧ k < o + 1 + r.length
    · rw [if_pos h1, if_pos (by omega), show k - o = (k - (o + 1)) + 1 from by omega, List.getElem?_cons_succ]
    · rw [if_neg h1]
      by_cases h2 : k = o
      · subst h2
        rw [if_pos (by omega), Nat.sub_self, List.getElem?_cons_zero, Array.getElem?_setIfInBounds_self_of_lt (by omega)]
      · rw [if_neg (by omega), Array.getElem?_setIfInBounds_ne (by omega)]
theorem heap_setCells {g : Nat} {t : TypeId} : ∀ (vs : List Value) (o : Nat) (w : World) (c : Array Value), w.heap[g]? = some (.cells c t (0, 0)) → (w.setCells g o vs).heap[g]? = some (.cells (setArr c o vs) t (0, 0))
  | [], _, _, _, h => h
  | v :: r, o, w, c, h => by
    rw [World.setCells]
    exact heap_setCells r (o + 1) _ _ (blk_set h o v)
theorem R_build {W : World} {base e g cap : Nat} {ok : Nat → Prop} (cur : Array Value) (ys : List Int) (hg : W.heap[g]? = some (.cells cur e (0, 0))) (hb : base ≤ g) (hn : ys.length ≤ cap) (hc : cap ≤ maxLen) (hs : cur.size = cap) (ht : cur.toList.take ys.length = ys.map (Value.int .i64)) (hok : ok g) :
    Kd.R (Kd.int .i64) e W base ok (.slice (some ⟨g, 0, none⟩) ys.length cap) ys :=
  Kd.R_of_own ⟨by simp [encs], .inr ⟨g, cap, cur, rfl, hb, hg, hn, hc, by omega, by rw [Nat.mul_one]; exact ht⟩⟩ (fun k hk => by simp [Value.ownBlock] at hk; subst hk; exact hok)
theorem set_facts (g : Nat) : ∀ (vs : List Value) (o : Nat) (w : World), (w.setCells g o vs).heap.size = w.heap.size ∧ (w.setCells g o vs).tape = w.tape ∧ (w.setCells g o vs).os = w.os ∧ (w.setCells g o vs).output = w.output ∧ ∀ k, k ≠ g → (w.setCells g o vs).heap[k]? = w.heap[k]?
  | [], _, _ => ⟨rfl, rfl, rfl, rfl, fun _ _ => rfl⟩
  | v :: r, o, w => by
    rw [World.setCells]
    obtain ⟨h1, h2, h3, h4, h5⟩ := set_facts g r (o + 1) (w.setCell ⟨g, o, none⟩ v)
    refine ⟨h1.trans (by simp [World.setCell]), h2.trans rfl, h3.trans rfl, h4.trans rfl, fun k hk => (h5 k hk).trans ?_⟩
    have hne : g ≠ k := fun e => hk e.symm
    simp [World.setCell, Array.getElem?_modify, hne]
theorem set_below {w0 w : World} {g : Nat} (hB : Below w0.heap.size w0 w) (hg : w0.heap.size ≤ g) (o : Nat) (vs : List Value) : Below w0.heap.size w0 (w.setCells g o vs) := by
  obtain ⟨h1, h2, h3, h4, h5⟩ := set_facts g vs o w
  exact ⟨h3.trans hB.os, h2.trans hB.tape, h4.trans hB.output, by rw [h1]; exact hB.size, fun k hk => (h5 k (by omega)).trans (hB.block k hk)⟩
theorem set_kept {w W : World} {g : Nat} {S : Nat → Prop} (hK : Kept w W S) (hS : S g) (o : Nat) (vs : List Value) : Kept w (W.setCells g o vs) S := by
  obtain ⟨h1, h2, h3, h4, h5⟩ := set_facts g vs o W
  exact ⟨by rw [h1]; exact hK.1, fun k hk hn => (h5 k (by rintro rfl; exact hn hS)).trans (hK.2 k hk hn)⟩
theorem zero_size (n : Nat) : (Builtin.zeroCells (Value.int .i64 0).cells n).size = n := by
  simp [Builtin.zeroCells, Value.cells]
/-- The numbers that a row has once others are put in, where the cells say so. -/
theorem take_ins (c : Array Value) (l0 l2 : List Int) (a : Nat) (ha : a ≤ l0.length) (h1 : ∀ k, k < a → c[k]? = (l0.map (Value.int .i64))[k]?) (h2 : ∀ k, k < l2.length → c[a + k]? = (l2.map (Value.int .i64))[k]?) (h3 : ∀ k, k < l0.length - a → c[a + l2.length + k]? = (l0.map (Value.int .i64))[a + k]?) :
    c.toList.take (l0.take a ++ l2 ++ l0.drop a).length = (l0.take a ++ l2 ++ l0.drop a).map (Value.int .i64) := by
  have hlen : (l0.take a ++ l2 ++ l0.drop a).length = l0.length + l2.length := by simp; omega
  apply List.ext_getElem?
  intro k
  by_cases hk : k < l0.length + l2.length
  · rw [List.getElem?_take_of_lt (by omega), Array.getElem?_toList, List.getElem?_map]
    by_cases k1 : k < a
    · rw [h1 k k1, List.getElem?_map, List.getElem?_append_left (by simp; omega), List.getElem?_append_left (by simp; omega), List.getElem?_take_of_lt k1]
    · by_cases k2 : k < a + l2.length
      · obtain ⟨j, rfl⟩ : ∃ j, k = a + j := ⟨k - a, by omega⟩
        rw [h2 j (by omega), List.getElem?_map, List.getElem?_append_left (by simp; omega), List.getElem?_append_right (by simp; omega)]
        congr 2
        simp
        omega
      · obtain ⟨j, rfl⟩ : ∃ j, k = a + l2.length + j := ⟨k - (a + l2.length), by omega⟩
        rw [h3 j (by omega), List.getElem?_map, List.getElem?_append_right (by simp; omega), List.getElem?_drop]
        congr 2
        simp
        omega
  · rw [List.getElem?_eq_none (by simp; omega), List.getElem?_eq_none (by simp; omega)]
theorem alloc_at (w : World) (o : Obj) : (w.drew.alloc o).heap[w.heap.size]? = some o := by
  show (w.heap.push o)[w.heap.size]? = some o
  simp
theorem alloc_kept (w : World) (o : Obj) (S : Nat → Prop) : Kept w (w.drew.alloc o) S := by
  refine ⟨by show w.heap.size ≤ (w.heap.push o).size; simp, fun k hk _ => ?_⟩
  show (w.heap.push o)[k]? = w.heap[k]?
  have : k ≠ w.heap.size := by omega
  simp [Array.getElem?_push, this]
theorem map_get (l : List Int) (k : Nat) (c : Array Value) (n : Nat) (ht : c.toList.take n = l.map (Value.int .i64)) (hk : k < n) : c[k]? = (l.map (Value.int .i64))[k]? := by
  rw [← ht, List.getElem?_take_of_lt hk, Array.getElem?_toList]
theorem R_insert {P : Program} {ρ : Ren} (L : Lays2.n21 P ρ) (P0 P2 : Nat → Prop) (v u : Value) (l0 l2 : List Int) (i : Int) (w0 w : World) (hB : Below w0.heap.size w0 w) (ho : Kd.R (Kd.int .i64) (ρ.t 3) w w0.heap.size P0 v l0) (hp : ∀ k, P0 k → ¬ P2 k) (hu : Kd.R (Kd.int .i64) (ρ.t 3) w w0.heap.size P2 u l2)
    (h2 : 0 < l2.length) (h0 : 0 ≤ i) (h1 : i ≤ (l0.length : Int)) (hbig : (l0.length + l2.length) * 8 ≤ 140737488355328) :
    Calls P (ρ.f 21) #[v, .int .i64 i, u] w fun x w' => ∃ v', x = .returned v' ∧ Kd.R (Kd.int .i64) (ρ.t 3) w' w0.heap.size (fun k => (P0 k ∨ P2 k) ∨ w.heap.size ≤ k) v' (l0.take i.toNat ++ l2 ++ l0.drop i.toNat) ∧ Below w0.heap.size w0 w' ∧ Kept w w' (fun k => P0 k ∨ P2 k) := by
  obtain ⟨a, rfl⟩ : ∃ a : Nat, i = (a : Int) := ⟨i.toNat, by omega⟩
  simp only [Int.toNat_natCast]
  have ha : a ≤ l0.length := by omega
  have hlen : (l0.take a ++ l2 ++ l0.drop a).length = l0.length + l2.length := by simp; omega
  have hmx : l0.length + l2.length ≤ maxLen := by unfold maxLen; omega
  obtain ⟨vb, vc, cur2, rfl, hvbb, hvP, hvh, hv1, hv2, hv3, hv4⟩ := open_own hu h2
  have hvs := cell_of hvh hv4
  have h1v : ∀ z ∈ l2.map (Value.int .i64), z.oneCell' = true := by intro z hz; obtain ⟨q, _, rfl⟩ := List.mem_map.1 hz; rfl
  have h1c : ∀ z ∈ l0.map (Value.int .i64), z.oneCell' = true := by intro z hz; obtain ⟨q, _, rfl⟩ := List.mem_map.1 hz; rfl
  rcases (Kd.own_of_R ho).2 with ⟨rfl, hn0⟩ | ⟨g, cap, cur, rfl, hbg, hg, hn, hc, hs, ht⟩
  · obtain rfl := List.length_eq_zero_iff.mp hn0
    obtain rfl : a = 0 := by simpa using ha
    have hcall := Any2.slices_Insert_int_end_grow L none 0 0 vb 0 l2.length vc [] (l2.map (Value.int .i64)) w h2 (Nat.le_refl _) (by omega) (by simpa using hbig) rfl (by simp) (fun _ => rfl) (fun q hq => by cases hq) hvs h1v
    refine hcall.mono ?_
    rintro x w' ⟨rfl, rfl⟩
    have hge := grownCap_ge w (0 + l2.length) 0 (ρ.t 3)
    have hle := grownCap_le_maxLen w (0 + l2.length) 0 (ρ.t 3) (by simpa using hmx)
    refine ⟨_, rfl, ?_, below_alloc (hB.drew) _, ?_⟩
    · have e : ([] : List Int).take 0 ++ l2 ++ ([] : List Int).drop 0 = l2 := by simp
      rw [e]
      have r := R_build (e := ρ.t 3) (ok := fun k => (P0 k ∨ P2 k) ∨ w.heap.size ≤ k) (base := w0.heap.size) (cap := grownCap w (0 + l2.length) 0 (ρ.t 3)) (([] ++ l2.map (Value.int .i64)).toArray ++ Builtin.zeroCells (Value.int .i64 0).cells (grownCap w (0 + l2.length) 0 (ρ.t 3) - (0 + l2.length))) l2 (alloc_at w _) (hB.size) (by omega) hle (by simp only [List.nil_append, Array.size_append, List.size_toArray, List.length_map, zero_size]; omega) (by simp) (.inr (Nat.le_refl _))
      have e3 : Value.slice (some ⟨w.heap.size, 0, none⟩) (0 + l2.length) (grownCap w (0 + l2.length) 0 (ρ.t 3)) = Value.slice (some ⟨w.heap.size, 0, none⟩) l2.length (grownCap w (0 + l2.length) 0 (ρ.t 3)) := by rw [Nat.zero_add]
      rw [e3]
      exact r
    · exact alloc_kept w _ _
  · rw [Nat.mul_one] at ht hs
    have hcs := cell_of hg ht
    have hcap : cap ≤ 9223372036854775807 := by unfold maxLen at hc; omega
    have hP : P0 g := ho.1 g rfl
    have hne : vb ≠ g := fun q => hp g hP (q ▸ hvP)
    have hsome : ∀ j, j < cap → (w.cell? ⟨g, j, none⟩).isSome = true := by
      intro j hj
      simp [World.cell?, hg]
      omega
    have hfro : ∀ j, w.frozen? ⟨g, j, none⟩ = false := by
      intro j
      simp [World.frozen?, hg]
    by_cases hroom : l0.length + l2.length ≤ cap
    · by_cases hend : a = l0.length
      · subst hend
        refine (Any2.slices_Insert_int_end_room L g 0 l0.length cap vb 0 l2.length vc (l2.map (Value.int .i64)) w h2 hroom hcap (by simp) (fun j hj => hsome _ (by omega)) (fun j hj => hfro _) hvs h1v).mono ?_
        rintro x w' ⟨rfl, rfl⟩
        refine ⟨_, rfl, ?_, set_below hB hbg _ _, set_kept (Kept.refl _ _) (.inl hP) _ _⟩
        have r := R_build (e := ρ.t 3) (ok := fun k => (P0 k ∨ P2 k) ∨ w.heap.size ≤ k) (base := w0.heap.size) (cap := cap) (setArr cur (0 + l0.length) (l2.map (Value.int .i64))) (l0.take l0.length ++ l2 ++ l0.drop l0.length) (heap_setCells _ _ _ _ hg) hbg (by omega) hc (by rw [setArr_size]; exact hs)
          (take_ins _ l0 l2 l0.length ha
            (fun k hk => by rw [setArr_get _ _ _ _ (by simp; omega), if_neg (by simp; omega)]; exact map_get l0 k cur _ ht hk)
            (fun k hk => by rw [setArr_get _ _ _ _ (by simp; omega), if_pos (by simp; omega)]; congr 1; omega)
            (fun k hk => by omega)) (.inl (.inl hP))
        rw [hlen] at r
        exact r
      · have hi : a < l0.length := by omega
        refine (Any2.slices_Insert_int_shift L g 0 l0.length cap a vb 0 l2.length vc (l0.map (Value.int .i64)) (l2.map (Value.int .i64)) w hi h2 hroom hcap hne (by simp) (by simp) hcs (fun j hj => hsome _ (by omega)) (fun j hj => hfro _) hvs h1c h1v (ρ.t 3) (ρ.t 3) cur2.size cur.size (by simp [World.shape?, hvh]) (by simp [World.shape?, hg]) (by omega) (by simp [World.frozen?, hvh]) (by simp [World.frozen?, hvh])).mono ?_
        rintro x w' ⟨rfl, rfl⟩
        have hB1 : Below w0.heap.size w0 w.drew := hB.drew
        refine ⟨_, rfl, ?_, set_below (set_below hB1 hbg _ _) hbg _ _, set_kept (set_kept (Kept.of_below (Below.refl _ w).drew _) (.inl hP) _ _) (.inl hP) _ _⟩
        have hg1 : w.drew.heap[g]? = some (.cells cur (ρ.t 3) (0, 0)) := hg
        have r := R_build (e := ρ.t 3) (ok := fun k => (P0 k ∨ P2 k) ∨ w.heap.size ≤ k) (base := w0.heap.size) (cap := cap) (setArr (setArr cur (0 + (a + l2.length)) ((l0.map (Value.int .i64)).drop a)) (0 + a) (l2.map (Value.int .i64))) (l0.take a ++ l2 ++ l0.drop a) (heap_setCells _ _ _ _ (heap_setCells _ _ _ _ hg1)) hbg (by omega) hc (by rw [setArr_size, setArr_size]; exact hs)
          (take_ins _ l0 l2 a ha
            (fun k hk => by rw [setArr_get _ _ _ _ (by rw [setArr_size]; simp <;> omega), if_neg (by simp <;> omega), setArr_get _ _ _ _ (by simp <;> omega), if_neg (by simp <;> omega)]; exact map_get l0 k cur _ ht (by omega))
            (fun k hk => by rw [setArr_get _ _ _ _ (by rw [setArr_size]; simp <;> omega), if_pos (by simp <;> omega)]; congr 1; omega)
            (fun k hk => by rw [setArr_get _ _ _ _ (by rw [setArr_size]; simp <;> omega), if_neg (by simp <;> omega), setArr_get _ _ _ _ (by simp <;> omega), if_pos (by simp <;> omega), List.getElem?_drop]; congr 1; omega)) (.inl (.inl hP))
        rw [hlen] at r
        exact r
    · have hge := grownCap_ge w (l0.length + l2.length) cap (ρ.t 3)
      have hle := grownCap_le_maxLen w (l0.length + l2.length) cap (ρ.t 3) hmx
      generalize hG : grownCap w (l0.length + l2.length) cap (ρ.t 3) = G at hge hle
      by_cases hend : a = l0.length
      · subst hend
        have hcall := Any2.slices_Insert_int_end_grow L (some ⟨g, 0, none⟩) l0.length cap vb 0 l2.length vc (l0.map (Value.int .i64)) (l2.map (Value.int .i64)) w h2 hn (by omega) hbig (by simp) (by simp) (fun e => by cases e) (fun b hb j z hj => by cases hb; rw [Addr.add_lit]; exact hcs j z hj) hvs h1v
        rw [hG] at hcall
        refine hcall.mono ?_
        rintro x w' ⟨rfl, rfl⟩
        refine ⟨_, rfl, ?_, below_alloc (hB.drew) _, alloc_kept w _ _⟩
        have r := R_build (e := ρ.t 3) (ok := fun k => (P0 k ∨ P2 k) ∨ w.heap.size ≤ k) (base := w0.heap.size) (cap := G) ((l0.map (Value.int .i64) ++ l2.map (Value.int .i64)).toArray ++ Builtin.zeroCells (Value.int .i64 0).cells (G - (l0.length + l2.length))) (l0.take l0.length ++ l2 ++ l0.drop l0.length) (alloc_at w _) (hB.size) (by omega) hle (by simp only [Array.size_append, List.size_toArray, List.length_append, List.length_map, zero_size]; omega)
          (by rw [show l0.take l0.length ++ l2 ++ l0.drop l0.length = l0 ++ l2 by simp, Array.toList_append, List.take_append_of_le_length (by simp), List.map_append, List.take_of_length_le (by simp)]) (.inr (Nat.le_refl _))
        rw [hlen] at r
        exact r
      · have hi : a < l0.length := by omega
        have hcall := Any2.slices_Insert_int_grow L g 0 l0.length cap a vb 0 l2.length vc (l0.map (Value.int .i64)) (l2.map (Value.int .i64)) w hi h2 hn (by omega) hbig (by simp) (by simp) hcs hvs h1c h1v
        rw [hG] at hcall
        refine hcall.mono ?_
        rintro x w' ⟨rfl, rfl⟩
        have hsz : ((((l0.map (Value.int .i64)).take a).toArray ++ Builtin.zeroCells (Value.int .i64 0).cells (l0.length + l2.length - a)) ++ Builtin.zeroCells (Value.int .i64 0).cells (G - (l0.length + l2.length))).size = G := by
          simp only [Array.size_append, List.size_toArray, List.length_take, List.length_map, zero_size]; omega
        have hget : ∀ k, k < a → ((((l0.map (Value.int .i64)).take a).toArray ++ Builtin.zeroCells (Value.int .i64 0).cells (l0.length + l2.length - a)) ++ Builtin.zeroCells (Value.int .i64 0).cells (G - (l0.length + l2.length)))[k]? = (l0.map (Value.int .i64))[k]? := by
          intro k hk
          rw [Array.getElem?_append_left (by simp only [Array.size_append, List.size_toArray, List.length_take, List.length_map]; omega), Array.getElem?_append_left (by simp only [List.size_toArray, List.length_take, List.length_map]; omega)]
          rw [List.getElem?_toArray, List.getElem?_take_of_lt hk]
        generalize hC : ((((l0.map (Value.int .i64)).take a).toArray ++ Builtin.zeroCells (Value.int .i64 0).cells (l0.length + l2.length - a)) ++ Builtin.zeroCells (Value.int .i64 0).cells (G - (l0.length + l2.length))) = C at hsz hget
        have hal : (w.alloc (.cells C (ρ.t 3) (0, 0))).heap[w.heap.size]? = some (.cells C (ρ.t 3) (0, 0)) := alloc_at w _
        have hBa : Below w0.heap.size w0 (w.alloc (.cells C (ρ.t 3) (0, 0))).drew := (below_alloc hB _).drew
        have hal1 : (w.alloc (.cells C (ρ.t 3) (0, 0))).drew.heap[w.heap.size]? = some (.cells C (ρ.t 3) (0, 0)) := hal
        have hK1 : Kept w (w.alloc (.cells C (ρ.t 3) (0, 0))).drew (fun k => P0 k ∨ P2 k) := alloc_kept w _ _
        have hh1 := heap_setCells (l2.map (Value.int .i64)) a _ _ hal1
        have hF1 := set_facts w.heap.size (l2.map (Value.int .i64)) a (w.alloc (.cells C (ρ.t 3) (0, 0))).drew
        have hF2 := set_facts w.heap.size ((l0.map (Value.int .i64)).drop a) (a + l2.length) (((w.alloc (.cells C (ρ.t 3) (0, 0))).drew).setCells w.heap.size a (l2.map (Value.int .i64))).drew
        refine ⟨_, rfl, ?_, set_below (set_below hBa hB.size _ _).drew hB.size _ _, ?_⟩
        · have r := R_build (e := ρ.t 3) (ok := fun k => (P0 k ∨ P2 k) ∨ w.heap.size ≤ k) (base := w0.heap.size) (cap := G) (setArr (setArr C a (l2.map (Value.int .i64))) (a + l2.length) ((l0.map (Value.int .i64)).drop a)) (l0.take a ++ l2 ++ l0.drop a) (heap_setCells _ _ (((w.alloc (.cells C (ρ.t 3) (0, 0))).drew).setCells w.heap.size a (l2.map (Value.int .i64))).drew _ hh1) hB.size (by omega) hle (by rw [setArr_size, setArr_size]; exact hsz)
            (take_ins _ l0 l2 a ha
              (fun k hk => by rw [setArr_get _ _ _ _ (by rw [setArr_size]; simp <;> omega), if_neg (by simp <;> omega), setArr_get _ _ _ _ (by simp <;> omega), if_neg (by simp <;> omega)]; exact hget k hk)
              (fun k hk => by rw [setArr_get _ _ _ _ (by rw [setArr_size]; simp <;> omega), if_neg (by simp <;> omega), setArr_get _ _ _ _ (by simp <;> omega), if_pos (by simp <;> omega)]; congr 1; omega)
              (fun k hk => by rw [setArr_get _ _ _ _ (by rw [setArr_size]; simp <;> omega), if_pos (by simp <;> omega), List.getElem?_drop]; congr 1; omega)) (.inr (Nat.le_refl _))
          rw [hlen] at r
          exact r
        · refine ⟨by rw [hF2.1]; show _ ≤ (World.setCells _ _ _ _).heap.size; rw [hF1.1]; exact hK1.1, fun k hk hn => ?_⟩
          rw [hF2.2.2.2.2 k (by omega)]
          show (World.setCells _ _ _ _).heap[k]? = _
          rw [hF1.2.2.2.2 k (by omega)]
          exact hK1.2 k hk hn
end Go.Proofs.Ythdpiceiemkjlaa.MIns
