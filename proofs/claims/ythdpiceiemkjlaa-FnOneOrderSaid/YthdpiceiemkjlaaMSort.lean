/- slices.Sort and slices.Compact at []int, of a row of one's own, in the words of the printed contracts: over the shelf's contracts. -/
import Derived.Shelf.Sort.AssemblyIn
import Derived.Sort.EveryDepth
import Derived.Shelf.Slices.CompactI
import Derived.Shelf.Slices.In.SortNone
import Derived.Test.YthdpiceiemkjlaaMDel
namespace Go.Proofs.Ythdpiceiemkjlaa.MSort
open Go Go.Proofs Go.RowKit Go.Shelf Go.Sort Go.Proofs.YthdpiceiemkjlaaW.PrintWords Go.Proofs.YthdpiceiemkjlaaW.PrintLast Go.Proofs.YthdpiceiemkjlaaW.PrintMore Go.Proofs.Ythdpiceiemkjlaa.MDel
set_option linter.unusedSimpArgs false
theorem own_facts {w : World} {base g cap : Nat} {e : Nat} {xs : List Int} (hown : w.ownsRow base e 1 (.slice (some ⟨g, 0, none⟩) xs.length cap) xs.length (encs (Value.int .i64) xs)) : xs.length ≤ cap ∧ cap ≤ 9223372036854775807 ∧ Holds (Value.int .i64) w g 0 xs.toArray := by
  refine ⟨?_, ?_, ?_⟩
  · rcases hown.2 with ⟨h', _⟩ | ⟨g', cap', cur, h', _, _, hn, hc, _, _⟩
    · simp at h'
    · simp only [Value.slice.injEq, Option.some.injEq, Addr.mk.injEq, and_true, true_and] at h'
      obtain ⟨_, rfl⟩ := h'
      exact hn
  · rcases hown.2 with ⟨h', _⟩ | ⟨g', cap', cur, h', _, _, hn, hc, _, _⟩
    · simp at h'
    · simp only [Value.slice.injEq, Option.some.injEq, Addr.mk.injEq, and_true, true_and] at h'
      obtain ⟨_, rfl⟩ := h'
      unfold maxLen at hc; omega
  · intro k hk
    have hk' : k < xs.length := by simpa using hk
    refine ⟨?_, ?_⟩
    · rw [Nat.zero_add, hown.cellAt k (by omega)]
      simp [encs, hk', getElem!_pos]
    · rw [Nat.zero_add]; exact hown.frozenAt k
theorem R_compact {P : Program} {ρ : Ren} (L : Lays2.n20 P ρ) (P0 : Nat → Prop) (v : Value) (l0 : List Int) (e : Nat) (w0 w : World) (hB : Below w0.heap.size w0 w) (ho : Kd.R (Kd.int .i64) e w w0.heap.size P0 v l0) :
    Calls P (ρ.f 20) #[v] w fun x w' => ∃ v', x = .returned v' ∧ Kd.R (Kd.int .i64) e w' w0.heap.size (fun k => P0 k ∨ w.heap.size ≤ k) v' (Lib.compact l0) ∧ Below w0.heap.size w0 w' ∧ Kept w w' (fun k => P0 k) := by
  rcases Nat.eq_zero_or_pos l0.length with hl | hl
  · obtain rfl := List.length_eq_zero_iff.mp hl
    obtain ⟨A, c, rfl⟩ := Kd.R_slice ho
    refine (Any.slices_Compact_int_empty L A c w).mono ?_
    rintro x w' ⟨rfl, rfl⟩
    exact ⟨_, rfl, Kd.R_mono ho (fun k hk => Or.inl hk), hB, Kept.refl _ _⟩
  · obtain ⟨g, cap, rfl, hbg, hgl, cells, hcell⟩ := Kd.R_form ho hl
    have hown := Kd.own_of_R ho
    have hP : P0 g := ho.1 g rfl
    obtain ⟨h1, h2, hH⟩ := own_facts hown
    refine (Any.slices_Compact_int L g 0 cap l0 w hH (by omega) h1).mono ?_
    rintro x w' ⟨rfl, q, rfl⟩
    have hle : (Lib.compact l0).length ≤ l0.length := by
      unfold Lib.compact Lib.compactUpTo
      rw [List.length_map]
      exact Nat.le_trans (List.length_filter_le _ _) (by simp)
    have hsz : (Lib.compact l0 ++ List.replicate (l0.length - (Lib.compact l0).length) (0 : Int)).toArray.size = l0.length := by simp; omega
    have ho2 := put_own hown q (Lib.compact l0 ++ List.replicate (l0.length - (Lib.compact l0).length) (0 : Int)).toArray hsz (Lib.compact l0).length hle
    rw [List.toList_toArray, List.take_left' rfl] at ho2
    exact ⟨_, rfl, Kd.R_of_own ho2 (fun k hk => by simp [Value.ownBlock] at hk; subst hk; exact Or.inl hP), put_below hB hbg q _, put_kept _ hP q _⟩
theorem grow_own {w : World} {base e size n : Nat} {v : Value} {xs : List Value} (h : w.ownsRow base e size v n xs) (os : Array Obj) : (grow w os).ownsRow base e size v n xs := by
  refine ⟨h.1, ?_⟩
  rcases h.2 with h' | ⟨g, cap, cur, hv, hb, hg, r⟩
  · exact .inl h'
  · refine .inr ⟨g, cap, cur, hv, hb, ?_, r⟩
    have hl : g < w.heap.size := by
      apply Classical.byContradiction
      intro hc
      rw [Array.getElem?_eq_none (by omega)] at hg
      cases hg
    show (w.heap ++ os)[g]? = _
    rw [Array.getElem?_append_left hl]
    exact hg
theorem grow_below {w0 w : World} (hB : Below w0.heap.size w0 w) (os : Array Obj) : Below w0.heap.size w0 (grow w os) := by
  refine ⟨hB.os, hB.tape, hB.output, by have := hB.size; simp [grow]; omega, fun k hk => ?_⟩
  have := hB.size
  show (w.heap ++ os)[k]? = _
  rw [Array.getElem?_append_left (by omega)]
  exact hB.block k hk
theorem grow_kept {w W : World} {S : Nat → Prop} (hK : Kept w W S) (os : Array Obj) : Kept w (grow W os) S := by
  refine ⟨by have := hK.1; simp [grow]; omega, fun k hk hn => ?_⟩
  have := hK.1
  show (W.heap ++ os)[k]? = _
  rw [Array.getElem?_append_left (by omega)]
  exact hK.2 k hk hn
theorem R_sort {P : Program} {ρ : Ren} (L : Lays.n189 P ρ) (P0 : Nat → Prop) (v : Value) (l0 : List Int) (e : Nat) (w0 w : World) (hB : Below w0.heap.size w0 w) (ho : Kd.R (Kd.int .i64) e w w0.heap.size P0 v l0) (hs : l0.length < 4611686018427387904) :
    Calls P (ρ.f 189) #[v] w fun x w' => x = .returned (.tuple #[]) ∧ Kd.R (Kd.int .i64) e w' w0.heap.size (fun k => P0 k ∨ w.heap.size ≤ k) v (l0.mergeSort fun x y => decide (x ≤ y)) ∧ Below w0.heap.size w0 w' ∧ Kept w w' (fun k => P0 k) := by
  rcases Nat.eq_zero_or_pos l0.length with hl | hl
  · obtain rfl := List.length_eq_zero_iff.mp hl
    obtain ⟨A, c, rfl⟩ := Kd.R_slice ho
    refine (Any.slices_Sort_int_none L A c w).mono ?_
    rintro x w' ⟨rfl, rfl⟩
    exact ⟨rfl, by simpa using Kd.R_mono ho (fun k hk => Or.inl hk), hB, Kept.refl _ _⟩
  · obtain ⟨g, cap, rfl, hbg, hgl, cells, hcell⟩ := Kd.R_form ho hl
    have hown := Kd.own_of_R ho
    have hP : P0 g := ho.1 g rfl
    obtain ⟨h1, h2, hH⟩ := own_facts hown
    refine (calls_of_every_depth (fun D => AnyS.slices_Sort_int_in L D g 0 cap l0 w hH hgl hs)).mono ?_
    rintro x w' ⟨rfl, n, os, rfl⟩
    have hlen : (l0.mergeSort fun x y => decide (x ≤ y)).length = l0.length := List.length_mergeSort _
    have ho2 := put_own hown n (l0.mergeSort fun x y => decide (x ≤ y)).toArray (by simp [hlen]) l0.length (Nat.le_refl _)
    rw [List.toList_toArray, List.take_of_length_le (by omega)] at ho2
    refine ⟨rfl, ?_, grow_below (put_below hB hbg n _) os, grow_kept (put_kept _ hP n _) os⟩
    have ho3 := grow_own ho2 os
    rw [← hlen] at ho3 ⊢
    exact Kd.R_of_own ho3 (fun k hk => by simp [Value.ownBlock] at hk; subst hk; exact Or.inl hP)
end Go.Proofs.Ythdpiceiemkjlaa.MSort
