/- slices.Delete at elements of several cells (structs), of a row of one's own, in the words of the printed contracts: the library's own text is walked. -/
import Derived.Shelf.SlicesE.Delete
import Derived.Test.YteaahcofgnghaaaWMore
import Derived.KernelRfl
namespace Go.Proofs.Yteaahcofgnghaaa.MDelS
open Go Go.Proofs Go.RowKit Go.Shelf Go.Sort Go.Lib Go.Proofs.YteaahcofgnghaaaW.PrintWords Go.Proofs.YteaahcofgnghaaaW.PrintLast Go.Proofs.YteaahcofgnghaaaW.PrintMore
set_option linter.unusedSimpArgs false
variable {P : Program} {ρ : Ren}
/-- What the walk asks of the program. -/
structure Laid (P : Program) (ρ : Ren) (s : Nat) (z : Array Value) : Prop where
  mixed : P.follows .mixedOrders = true
  f45 : Bears P (ρ.f 45) (SlBodyN.n45 ρ)
  t0 : P.underlying (ρ.t 0) = some (TypeDesc.tuple #[])
  a0 : ∀ w, (isAgg (ρ.t 0)).run P w = .ok false w
  z0 : ∀ w, (Go.sizeOf (ρ.t 0)).run P w = .ok 1 w
  v0 : ∀ w, (zeroValue (ρ.t 0)).run P w = .ok (Value.tuple #[]) w
  t3 : P.underlying (ρ.t 3) = some (TypeDesc.int IntKind.i64)
  a3 : ∀ w, (isAgg (ρ.t 3)).run P w = .ok false w
  z3 : ∀ w, (Go.sizeOf (ρ.t 3)).run P w = .ok 1 w
  v3 : ∀ w, (zeroValue (ρ.t 3)).run P w = .ok (Value.int IntKind.i64 0) w
  t4 : P.underlying (ρ.t 4) = some (TypeDesc.bool)
  a4 : ∀ w, (isAgg (ρ.t 4)).run P w = .ok false w
  z4 : ∀ w, (Go.sizeOf (ρ.t 4)).run P w = .ok 1 w
  v4 : ∀ w, (zeroValue (ρ.t 4)).run P w = .ok (Value.bool false) w
  t22 : P.underlying (ρ.t 22) = some (TypeDesc.slice (ρ.t 23))
  a22 : ∀ w, (isAgg (ρ.t 22)).run P w = .ok false w
  z22 : ∀ w, (Go.sizeOf (ρ.t 22)).run P w = .ok 1 w
  v22 : ∀ w, (zeroValue (ρ.t 22)).run P w = .ok (Value.slice none 0 0) w
  a23 : ∀ w, (isAgg (ρ.t 23)).run P w = .ok true w
  z23 : ∀ w, (Go.sizeOf (ρ.t 23)).run P w = .ok s w
  v23 : ∀ w, (zeroValue (ρ.t 23)).run P w = .ok (.agg z) w
  i23 : (P.info? (ρ.t 23)).map (·.size) = some s
  s23 : z.size = s
  c23 : z.toList.all (·.oneCell') = true
/-- Cells with values put in from place o on. -/
def setArr : Array Value → Nat → List Value → Array Value
  | c, _, [] => c
  | c, o, v :: r => setArr (c.setIfInBounds o v) (o + 1) r
theorem setArr_size : ∀ (vs : List Value) (c : Array Value) (o : Nat), (setArr c o vs).size = c.size
  | [], _, _ => rfl
  | v :: r, c, o => by unfold setArr; rw [setArr_size r]; simp
theorem setArr_get : ∀ (vs : List Value) (c : Array Value) (o k : Nat), o + vs.length ≤ c.size → (setArr c o vs)[k]? = if o ≤ k ∧ k < o + vs.length then vs[k - o]? else c[k]?
  | [], c, o, k, h => by unfold setArr; rw [if_neg (by simp)]
  | v :: r, c, o, k, h => by
    simp only [List.length_cons] at h ⊢
    unfold setArr
    rw [setArr_get r _ (o + 1) k (by simp; omega)]
    by_cases h1 : o + 1 ≤ k ∧ k < o + 1 + r.length
    · rw [if_pos h1, if_pos (by omega), show k - o = (k - (o + 1)) + 1 from by omega, List.getElem?_cons_succ]
    · rw [if_neg h1]
      by_cases h2 : k = o
      · subst h2
        rw [if_pos (by omega), Nat.sub_self, List.getElem?_cons_zero, Array.getElem?_setIfInBounds_self_of_lt (by omega)]
      · rw [if_neg (by omega), Array.getElem?_setIfInBounds_ne (by omega)]
theorem heap_setCells {g : Nat} {t : TypeId} : ∀ (vs : List Value) (o : Nat) (w : World) (c : Array Value), w.heap[g]? = some (.cells c t (0, 0)) → (w.setCells g o vs).heap[g]? = some (.cells (setArr c o vs) t (0, 0))
  | [], _, _, _, h => h
  | v :: r, o, w, c, h => by
    rw [World.setCells]
    exact heap_setCells r (o + 1) _ _ (blk_set h o v)
theorem set_facts (g : Nat) : ∀ (vs : List Value) (o : Nat) (w : World), (w.setCells g o vs).heap.size = w.heap.size ∧ (w.setCells g o vs).tape = w.tape ∧ (w.setCells g o vs).os = w.os ∧ (w.setCells g o vs).output = w.output ∧ ∀ k, k ≠ g → (w.setCells g o vs).heap[k]? = w.heap[k]?
  | [], _, _ => ⟨rfl, rfl, rfl, rfl, fun _ _ => rfl⟩
  | v :: r, o, w => by
    rw [World.setCells]
    obtain ⟨h1, h2, h3, h4, h5⟩ := set_facts g r (o + 1) (w.setCell ⟨g, o, none⟩ v)
    refine ⟨h1.trans (by simp [World.setCell]), h2.trans rfl, h3.trans rfl, h4.trans rfl, fun k hk => (h5 k hk).trans ?_⟩
    have hne : g ≠ k := fun e => hk e.symm
    simp [World.setCell, Array.getElem?_modify, hne]
theorem mem_zero (cs : Array Value) (n : Nat) (h : cs.toList.all (·.oneCell') = true) : ∀ v ∈ (Builtin.zeroCells cs n).toList, v.oneCell' = true := by
  intro v hv
  unfold Builtin.zeroCells at hv
  rw [Array.toList_map, List.mem_map] at hv
  obtain ⟨i, hi, rfl⟩ := hv
  rw [Array.toList_range, List.mem_range] at hi
  have hp : 0 < cs.size := by
    rcases Nat.eq_zero_or_pos cs.size with q | q
    · rw [q, Nat.mul_zero] at hi; omega
    · exact q
  have hlt := Nat.mod_lt i hp
  rw [getElem!_pos cs (i % cs.size) hlt]
  exact List.all_eq_true.1 h _ (Array.getElem_mem_toList hlt)
theorem zero_len (cs : Array Value) (n : Nat) : (Builtin.zeroCells cs n).size = n * cs.size := by
  simp [Builtin.zeroCells]
set_option maxHeartbeats 4000000 in
set_option maxRecDepth 1000000 in
theorem walk {s : Nat} {z : Array Value} (L : Laid P ρ s z) (g cap n i j : Nat) (e : TypeId) (cur : Array Value) (w : World) (hg : w.heap[g]? = some (.cells cur e (0, 0))) (hsz : cur.size = cap * s) (h1 : ∀ v ∈ cur.toList.take (n * s), v.oneCell' = true) (hcap : n ≤ cap) (hm : cap ≤ 9223372036854775807) (hij : i < j) (hj : j ≤ n) :
    Calls P (ρ.f 45) #[.slice (some ⟨g, 0, none⟩) n cap, .int .i64 i, .int .i64 j] w fun e w' => e = .returned (.slice (some ⟨g, 0, none⟩) (n - (j - i)) cap) ∧ w' = (w.drew.setCells g (i * s) ((cur.toList.take (n * s)).drop (j * s))).setCells g ((i + (n - j)) * s) (Builtin.zeroCells z (j - i)).toList := by
  have mixed := L.mixed; have t0 := L.t0; have a0 := L.a0; have z0 := L.z0; have v0 := L.v0; have t3 := L.t3; have a3 := L.a3; have z3 := L.z3; have v3 := L.v3; have t4 := L.t4; have a4 := L.a4; have z4 := L.z4; have v4 := L.v4; have t22 := L.t22; have a22 := L.a22; have z22 := L.z22; have v22 := L.v22; have a23 := L.a23; have z23 := L.z23; have v23 := L.v23
  obtain ⟨i0, hi0, hz1⟩ := Option.map_eq_some_iff.1 L.i23
  obtain ⟨news, hnews⟩ : ∃ news, news = (cur.toList.take (n * s)).drop (j * s) := ⟨_, rfl⟩
  have hns : n * s ≤ cap * s := Nat.mul_le_mul_right s hcap
  have hjs : j * s ≤ n * s := Nat.mul_le_mul_right s hj
  have hlen : news.length = (n - j) * s := by
    rw [hnews, List.length_drop, List.length_take, Array.length_toList, hsz, Nat.min_eq_left hns, Nat.sub_mul]
  have hcell : ∀ t, t < cap * s → ∃ u, cur[t]? = some u := fun t ht => ⟨_, Array.getElem?_eq_getElem (by omega)⟩
  have hget : ∀ t u, news[t]? = some u → cur[j * s + t]? = some u := by
    intro t u hu
    rw [hnews, List.getElem?_drop] at hu
    have : j * s + t < n * s := by
      have := (List.getElem?_eq_some_iff.1 hu).1
      rw [List.length_take] at this
      omega
    rw [List.getElem?_take_of_lt this, Array.getElem?_toList] at hu
    exact hu
  obtain ⟨A, hA, hsrc⟩ : ∃ A : Addr, (if cap = j then some (⟨g, 0, none⟩ : Addr) else some ⟨g, j * s, none⟩) = some A ∧ Hid (∀ t u, news[t]? = some u → w.drew.cell? (A.add t) = some u) := by
    by_cases h : cap = j
    · refine ⟨⟨g, 0, none⟩, by simp [h], fun t u hu => ?_⟩
      have h0 : news.length = 0 := by rw [hlen, show n - j = 0 by omega, Nat.zero_mul]
      rw [List.length_eq_zero_iff.1 h0] at hu
      simp at hu
    · refine ⟨⟨g, j * s, none⟩, by simp [h], fun t u hu => ?_⟩
      rw [Addr.add_lit]
      show w.cell? _ = _
      simp [World.cell?, hg, hget t u hu]
  have s1 : Hid (news.length = (n - j) * s) := hlen
  have s2 : Hid (∀ u ∈ news, u.oneCell' = true) := by
    intro u hu
    rw [hnews] at hu
    exact h1 u (List.mem_of_mem_drop hu)
  have s3 : Hid (∀ t, t < news.length → (w.drew.cell? ⟨g, 0 + i * s + t, none⟩).isSome = true ∧ w.drew.frozen? ⟨g, 0 + i * s + t, none⟩ = false) := by
    intro t ht
    rw [hlen] at ht
    have : i * s + t < cap * s := by
      have : (i + (n - j)) * s ≤ cap * s := Nat.mul_le_mul_right s (by omega)
      rw [Nat.add_mul] at this
      omega
    refine ⟨?_, ?_⟩
    · show (w.cell? _).isSome = true
      simp [World.cell?, hg]
      omega
    · show w.frozen? _ = false
      simp [World.frozen?, hg]
  obtain ⟨W1, hW1⟩ : ∃ W1, W1 = w.drew.setCells g (0 + i * s) news := ⟨_, rfl⟩
  have hg1 : W1.heap[g]? = some (.cells (setArr cur (i * s) news) e (0, 0)) := by
    rw [hW1, Nat.zero_add]
    exact heap_setCells news (i * s) w.drew cur hg
  have hcl : ∀ ty, (Builtin.clear_ #[ρ.t 22] ty #[.slice (some ⟨g, (i + (n - j)) * s, none⟩) (n - (i + (n - j))) (cap - (i + (n - j)))]).run P W1 = .ok (.tuple #[]) (W1.setCells g ((i + (n - j)) * s) (Builtin.zeroCells z (j - i)).toList) := by
    intro ty
    have hnn : n - (i + (n - j)) = j - i := by omega
    obtain ⟨m, hmm⟩ : ∃ m, j - i = m + 1 := ⟨j - i - 1, by omega⟩
    have hb : (i + (n - j)) * s + (j - i) * s ≤ cap * s := by rw [← Nat.add_mul]; exact Nat.mul_le_mul_right s (by omega)
    have hst := run_storeCells_cells (P := P) g ((i + (n - j)) * s) (Builtin.zeroCells z (j - i)).toList 0 W1 (by
      intro k hk
      rw [Array.length_toList, zero_len, L.s23] at hk
      simp [World.cell?, hg1, setArr_size]
      omega) (by
      intro k hk
      simp [World.frozen?, hg1]) (mem_zero _ _ L.c23)
    simp only [Nat.add_zero] at hst
    rw [hnn, hmm] at *
    have hz : (Value.agg z).cells = z := rfl
    simp [Builtin.clear_, run_underlying t22, v23, hz, hst]
  have hW : Hid (W1 = w.drew.setCells g (0 + i * s) news) := hW1
  have hic : i ≤ cap := by omega
  have hjc : j ≤ cap := by omega
  rw [← hnews, show w.drew.setCells g (i * s) news = W1 by rw [hW1, Nat.zero_add]]
  clear hW1 hg1 hget hnews hlen hcell
  obtain ⟨_, _, FG⟩ := L.f45
  go_enter FG, SlBodyN.n45_ntmps ρ
  go_wp2_with fail
  go_region_law_o (refine step_append_room rfl (.tmp 22) (.tmp 25) (ρ.t 22) rfl (ρ.t 23) i0 s t22 hi0 hz1 g 0 i cap (by simp [Act.eval, Act.put]) A (n - j) (cap - j) news (by simp [Act.eval, Act.put, hA]) s1.out hsrc.out s2.out (by omega) s3.out ?_; rw [← hW.out])
  go_wp2
  go_ret
  exact ⟨by rw [show n - (j - i) = i + (n - j) by omega]; rfl, rfl⟩
/-- The rows of elements, laid side by side: parts of them. -/
theorem reps_len {α : Type} {R : α → List Value → Prop} {s : Nat} {ps : List α} {cs : List Value} (h : Reps R s ps cs) : cs.length = ps.length * s := h.1
theorem drop_take_take {β : Type} (l : List β) (a b s : Nat) (h : a + s ≤ b) : ((l.take b).drop a).take s = (l.drop a).take s := by
  apply List.ext_getElem?
  intro k
  by_cases hk : k < s
  · rw [List.getElem?_take_of_lt hk, List.getElem?_take_of_lt hk, List.getElem?_drop, List.getElem?_drop, List.getElem?_take_of_lt (by omega)]
  · rw [List.getElem?_eq_none (by simp; omega), List.getElem?_eq_none (by simp; omega)]
theorem reps_del {α : Type} {R : α → List Value → Prop} {s : Nat} {ps : List α} {cs : List Value} (h : Reps R s ps cs) {i j : Nat} (hij : i ≤ j) (hj : j ≤ ps.length) :
    Reps R s (ps.take i ++ ps.drop j) (cs.take (i * s) ++ cs.drop (j * s)) := by
  obtain ⟨hl, hr⟩ := h
  have hi2 : i * s ≤ ps.length * s := Nat.mul_le_mul_right s (by omega)
  have hj2 : j * s ≤ ps.length * s := Nat.mul_le_mul_right s hj
  have htl : (cs.take (i * s)).length = i * s := by rw [List.length_take, hl, Nat.min_eq_left hi2]
  refine ⟨?_, fun k p hp => ?_⟩
  · rw [List.length_append, htl, List.length_drop, hl, List.length_append, List.length_take, List.length_drop, Nat.min_eq_left (by omega), Nat.add_mul, Nat.sub_mul]
  · by_cases hk : k < i
    · rw [List.getElem?_append_left (by simp; omega), List.getElem?_take_of_lt hk] at hp
      have h1 := hr k p hp
      have hks : k * s + s ≤ i * s := by
        have : (k + 1) * s ≤ i * s := Nat.mul_le_mul_right s hk
        rw [Nat.succ_mul] at this
        exact this
      rw [List.drop_append_of_le_length (by rw [htl]; omega), List.take_append_of_le_length (by rw [List.length_drop, htl]; omega), drop_take_take cs (k * s) (i * s) s hks]
      exact h1
    · rw [List.getElem?_append_right (by simp; omega), List.getElem?_drop, List.length_take, Nat.min_eq_left (by omega)] at hp
      have h1 := hr (j + (k - i)) p hp
      have e : k * s = i * s + (k - i) * s := by rw [← Nat.add_mul]; congr 1; omega
      rw [e, List.drop_append, htl, List.drop_eq_nil_of_le (by rw [htl]; omega), List.nil_append, Nat.add_sub_cancel_left, List.drop_drop, ← Nat.add_mul]
      exact h1
theorem R_delete {α : Type} (d : Kd α) {z : Array Value} (L : Laid P ρ d.sz z) (hs : 0 < d.sz) (P0 : Nat → Prop) (v : Value) (l0 : List α) (e : Nat) (i j : Int) (w0 w : World) (hB : Below w0.heap.size w0 w) (ho : Kd.R d e w w0.heap.size P0 v l0) (h0 : 0 ≤ i) (h1 : i < j) (h2 : j ≤ (l0.length : Int)) :
    Calls P (ρ.f 45) #[v, .int .i64 i, .int .i64 j] w fun x w' => ∃ v', x = .returned v' ∧ Kd.R d e w' w0.heap.size (fun k => P0 k ∨ w.heap.size ≤ k) v' (l0.take i.toNat ++ l0.drop j.toNat) ∧ Below w0.heap.size w0 w' ∧ Kept w w' (fun k => P0 k) := by
  obtain ⟨a, rfl⟩ : ∃ a : Nat, i = (a : Int) := ⟨i.toNat, by omega⟩
  obtain ⟨b, rfl⟩ : ∃ b : Nat, j = (b : Int) := ⟨j.toNat, by omega⟩
  simp only [Int.toNat_natCast]
  have hab : a < b := by omega
  have hb : b ≤ l0.length := by omega
  obtain ⟨hok, inner, hown, hreps⟩ := ho
  rcases hown.2 with ⟨_, hn⟩ | ⟨g, cap, cur, rfl, hbg, hg, hn, hc, hsz, ht⟩
  · omega
  · have hP : P0 g := hok g rfl
    have hns : l0.length * d.sz ≤ cap * d.sz := Nat.mul_le_mul_right _ hn
    have h1c : ∀ v ∈ cur.toList.take (l0.length * d.sz), v.oneCell' = true := by
      rw [ht]
      intro u hu
      obtain ⟨k, hk, rfl⟩ := List.getElem_of_mem hu
      have hkl : k < l0.length * d.sz := by rw [← hreps.1]; exact hk
      have hkd : k / d.sz < l0.length := Nat.div_lt_of_lt_mul (by rw [Nat.mul_comm]; exact hkl)
      have hM := hreps.2 (k / d.sz) _ (List.getElem?_eq_getElem hkd)
      have hK := d.K_one (d.K_of_M hM)
      apply hK
      have hmod := Nat.mod_lt k hs
      have hdm : k / d.sz * d.sz + k % d.sz = k := by rw [Nat.mul_comm]; exact Nat.div_add_mod k d.sz
      rw [List.mem_take_iff_getElem]
      refine ⟨k % d.sz, ?_, ?_⟩
      · rw [List.length_drop]; omega
      · rw [List.getElem_drop]
        congr 1
    refine (walk L g cap l0.length a b e cur w hg hsz h1c hn (by unfold maxLen at hc; omega) hab hb).mono ?_
    rintro x w' ⟨rfl, rfl⟩
    obtain ⟨f1, f2, f3, f4, f5⟩ := set_facts g ((cur.toList.take (l0.length * d.sz)).drop (b * d.sz)) (a * d.sz) w.drew
    obtain ⟨g1, g2, g3, g4, g5⟩ := set_facts g (Builtin.zeroCells z (b - a)).toList ((a + (l0.length - b)) * d.sz) (w.drew.setCells g (a * d.sz) ((cur.toList.take (l0.length * d.sz)).drop (b * d.sz)))
    have hother : ∀ k, k ≠ g → ((w.drew.setCells g (a * d.sz) ((cur.toList.take (l0.length * d.sz)).drop (b * d.sz))).setCells g ((a + (l0.length - b)) * d.sz) (Builtin.zeroCells z (b - a)).toList).heap[k]? = w.heap[k]? := fun k hk => (g5 k hk).trans ((f5 k hk).trans rfl)
    have hh : ((w.drew.setCells g (a * d.sz) ((cur.toList.take (l0.length * d.sz)).drop (b * d.sz))).setCells g ((a + (l0.length - b)) * d.sz) (Builtin.zeroCells z (b - a)).toList).heap[g]? = some (.cells (setArr (setArr cur (a * d.sz) ((cur.toList.take (l0.length * d.sz)).drop (b * d.sz))) ((a + (l0.length - b)) * d.sz) (Builtin.zeroCells z (b - a)).toList) e (0, 0)) :=
      heap_setCells _ _ _ _ (heap_setCells _ _ w.drew cur hg)
    have hlen : (l0.take a ++ l0.drop b).length = l0.length - (b - a) := by simp; omega
    rw [ht] at hother hh g1 g2 g3 g4 f1 f2 f3 f4 ⊢
    generalize hW : (w.drew.setCells g (a * d.sz) (inner.drop (b * d.sz))).setCells g ((a + (l0.length - b)) * d.sz) (Builtin.zeroCells z (b - a)).toList = W at *
    have hl2 : (inner.drop (b * d.sz)).length = (l0.length - b) * d.sz := by rw [List.length_drop, hreps.1, Nat.sub_mul]
    have hzl : (Builtin.zeroCells z (b - a)).toList.length = (b - a) * d.sz := by rw [Array.length_toList, zero_len, L.s23]
    have m1 : (a + (l0.length - b)) * d.sz = a * d.sz + (l0.length - b) * d.sz := Nat.add_mul _ _ _
    have m2 : (a + (l0.length - b)) * d.sz + (b - a) * d.sz ≤ cap * d.sz := by rw [← Nat.add_mul]; exact Nat.mul_le_mul_right _ (by omega)
    have m3 : a * d.sz ≤ l0.length * d.sz := Nat.mul_le_mul_right _ (by omega)
    have m4 : a * d.sz ≤ b * d.sz := Nat.mul_le_mul_right _ (by omega)
    refine ⟨_, rfl, ⟨fun k hk => ?_, inner.take (a * d.sz) ++ inner.drop (b * d.sz), ⟨?_, .inr ⟨g, cap, _, by rw [hlen], hbg, hh, by rw [hlen]; omega, hc, by rw [setArr_size, setArr_size]; exact hsz, ?_⟩⟩, ?_⟩, ?_, ?_⟩
    · simp [Value.ownBlock] at hk
      subst hk
      exact Or.inl hP
    · rw [List.length_append, List.length_take, hreps.1, Nat.min_eq_left m3, hl2, hlen, ← m1]
      congr 1
      omega
    · apply List.ext_getElem?
      intro k
      rw [hlen, show l0.length - (b - a) = a + (l0.length - b) by omega, m1]
      by_cases hk : k < a * d.sz + (l0.length - b) * d.sz
      · rw [List.getElem?_take_of_lt hk, Array.getElem?_toList, setArr_get _ _ _ _ (by rw [setArr_size, hzl, hsz, ← m1]; exact m2), if_neg (by omega), setArr_get _ _ _ _ (by rw [hl2, hsz]; omega)]
        by_cases hk2 : k < a * d.sz
        · rw [if_neg (by omega), List.getElem?_append_left (by rw [List.length_take, hreps.1, Nat.min_eq_left m3]; exact hk2), List.getElem?_take_of_lt hk2, ← ht, List.getElem?_take_of_lt (by omega), Array.getElem?_toList]
        · rw [if_pos (by rw [hl2]; omega), List.getElem?_append_right (by rw [List.length_take, hreps.1, Nat.min_eq_left m3]; omega), List.length_take, hreps.1, Nat.min_eq_left m3]
      · rw [List.getElem?_eq_none (by rw [List.length_take]; exact Nat.le_trans (Nat.min_le_left _ _) (by omega)), List.getElem?_eq_none (by rw [List.length_append, List.length_take, hreps.1, Nat.min_eq_left m3, hl2]; omega)]
    · have hr := reps_del hreps (Nat.le_of_lt hab) hb
      refine Reps.imp_ hr (fun p c hp => ?_)
      have hp2 := d.M_move (w1 := W) (fun k hk => hother k (fun q => hk.2 (by rw [q]; rfl))) hp
      exact d.M_mono (fun k hk => ⟨Or.inl hk.1, hk.2⟩) hp2
    · exact ⟨(g3.trans f3).trans hB.os, (g2.trans f2).trans hB.tape, (g4.trans f4).trans hB.output, by rw [g1, f1]; exact hB.size, fun k hk => (hother k (by omega)).trans (hB.block k hk)⟩
    · exact ⟨by rw [g1, f1]; exact Nat.le_refl _, fun k _ hn => hother k (by rintro rfl; exact hn hP)⟩
end Go.Proofs.Yteaahcofgnghaaa.MDelS
