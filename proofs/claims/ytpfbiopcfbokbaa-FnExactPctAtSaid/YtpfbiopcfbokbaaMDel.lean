/- slices.Delete at []int, of a row of one's own, in the words of the printed contracts: over the shelf's contract. -/
import Derived.Shelf.Slices.Delete
import Derived.Shelf.Slices.Empties
import Derived.Test.YtpfbiopcfbokbaaWMore
import Derived.KernelRfl
namespace Go.Proofs.Ytpfbiopcfbokbaa.MDel
open Go Go.Proofs Go.RowKit Go.Shelf Go.Sort Go.Proofs.YtpfbiopcfbokbaaW.PrintWords Go.Proofs.YtpfbiopcfbokbaaW.PrintLast Go.Proofs.YtpfbiopcfbokbaaW.PrintMore
set_option linter.unusedSimpArgs false
theorem putCells_take (enc : Int → Value) (d : Array Int) (c : Array Value) (h : d.size ≤ c.size) (m : Nat) (hm : m ≤ d.size) : (putCells enc 0 d c).toList.take m = (d.toList.take m).map enc := by
  apply List.ext_getElem?
  intro k
  by_cases hk : k < m
  · rw [List.getElem?_take_of_lt hk, List.getElem?_map, List.getElem?_take_of_lt hk]
    unfold putCells
    rw [Array.getElem?_toList, Array.getElem?_mapIdx, Array.getElem?_eq_getElem (show k < c.size by omega), Array.getElem?_toList, Array.getElem?_eq_getElem (show k < d.size by omega)]
    simp only [Option.map_some]
    rw [if_pos (by omega), Nat.sub_zero, getElem!_pos d k (by omega)]
  · rw [List.getElem?_eq_none (by simp; omega), List.getElem?_eq_none (by simp; omega)]
theorem put_own {w : World} {base e g cap n : Nat} {xs : List Int} (h : w.ownsRow base e 1 (.slice (some ⟨g, 0, none⟩) n cap) n (encs (Value.int .i64) xs)) (q : Nat) (d : Array Int) (hd : d.size = n) (m : Nat) (hm : m ≤ n) :
    (putRow (Value.int .i64) (Sort.ahead w q) g 0 d).ownsRow base e 1 (.slice (some ⟨g, 0, none⟩) m cap) m (encs (Value.int .i64) (d.toList.take m)) := by
  rcases h.2 with ⟨h', _⟩ | ⟨g', cap', cur, h', hb, hg, hn, hc, hs, htake⟩
  · simp at h'
  · simp only [Value.slice.injEq, Option.some.injEq, Addr.mk.injEq, and_true, true_and] at h'
    obtain ⟨rfl, rfl⟩ := h'
    refine ⟨by simp [encs]; omega, .inr ⟨g, cap, putCells (Value.int .i64) 0 d cur, rfl, hb, ?_, by omega, hc, ?_, ?_⟩⟩
    · have hg' : (Sort.ahead w q).heap[g]? = some (.cells cur e (0, 0)) := hg
      simp [putRow, mapBlock, Array.getElem?_modify, onCells]
      exact ⟨_, hg, rfl⟩
    · simp [putCells, hs]
    · rw [Nat.mul_one, putCells_take _ _ _ (by omega) _ (by omega)]
      rfl
theorem put_below {w0 w : World} {g : Nat} (hB : Below w0.heap.size w0 w) (hg : w0.heap.size ≤ g) (q : Nat) (d : Array Int) : Below w0.heap.size w0 (putRow (Value.int .i64) (Sort.ahead w q) g 0 d) := by
  refine ⟨hB.os, hB.tape, hB.output, by rw [size_putRow]; exact hB.size, fun k hk => ?_⟩
  rw [← hB.block k hk]
  have hne : g ≠ k := by omega
  simp [putRow, mapBlock, Array.getElem?_modify, hne]
theorem put_kept {w : World} {g : Nat} (S : Nat → Prop) (hS : S g) (q : Nat) (d : Array Int) : Kept w (putRow (Value.int .i64) (Sort.ahead w q) g 0 d) S := by
  refine ⟨by rw [size_putRow]; exact Nat.le_refl _, fun k _ hn => ?_⟩
  have hne : g ≠ k := by rintro rfl; exact hn hS
  simp [putRow, mapBlock, Array.getElem?_modify, hne]
theorem R_delete {P : Program} {ρ : Ren} (L : Lays2.n23 P ρ) (P0 : Nat → Prop) (v : Value) (l0 : List Int) (e : Nat) (i j : Int) (w0 w : World) (hB : Below w0.heap.size w0 w) (ho : Kd.R (Kd.int .i64) e w w0.heap.size P0 v l0) (h0 : 0 ≤ i) (h1 : i ≤ j) (h2 : j ≤ (l0.length : Int)) :
    Calls P (ρ.f 23) #[v, .int .i64 i, .int .i64 j] w fun x w' => ∃ v', x = .returned v' ∧ Kd.R (Kd.int .i64) e w' w0.heap.size (fun k => P0 k ∨ w.heap.size ≤ k) v' (l0.take i.toNat ++ l0.drop j.toNat) ∧ Below w0.heap.size w0 w' ∧ Kept w w' (fun k => P0 k) := by
  obtain ⟨a, rfl⟩ : ∃ a : Nat, i = (a : Int) := ⟨i.toNat, by omega⟩
  obtain ⟨b, rfl⟩ : ∃ b : Nat, j = (b : Int) := ⟨j.toNat, by omega⟩
  simp only [Int.toNat_natCast]
  rcases Nat.eq_zero_or_pos l0.length with hl | hl
  · obtain rfl := List.length_eq_zero_iff.mp hl
    obtain rfl : b = 0 := by simp at h2; omega
    obtain rfl : a = 0 := by omega
    obtain ⟨A, c, rfl⟩ := Kd.R_slice ho
    refine (Any.slices_Delete_int_empty L A c w).mono ?_
    rintro x w' ⟨rfl, rfl⟩
    exact ⟨_, rfl, by simpa using Kd.R_mono ho (fun k hk => Or.inl hk), hB, Kept.refl _ _⟩
  · obtain ⟨g, cap, rfl, hbg, hgl, cells, hcell⟩ := Kd.R_form ho hl
    have hown := Kd.own_of_R ho
    have hP : P0 g := ho.1 g rfl
    have hcap : l0.length ≤ cap ∧ cap ≤ 9223372036854775807 := by
      rcases hown.2 with ⟨h', _⟩ | ⟨g', cap', cur, h', _, _, hn, hc, _, _⟩
      · simp at h'
      · simp only [Value.slice.injEq, Option.some.injEq, Addr.mk.injEq, and_true, true_and] at h'
        obtain ⟨_, rfl⟩ := h'
        exact ⟨hn, by unfold maxLen at hc; omega⟩
    have hH : Holds encI w g 0 l0.toArray := by
      intro k hk
      have hk' : k < l0.length := by simpa using hk
      refine ⟨?_, ?_⟩
      · rw [Nat.zero_add, hown.cellAt k (by omega)]
        simp [encs, encI, hk', getElem!_pos]
      · rw [Nat.zero_add]; exact hown.frozenAt k
    refine (Any.slices_Delete_int L g 0 cap a b l0 w hH hcap.1 hcap.2 (by omega) (by omega)).mono ?_
    rintro x w' ⟨rfl, q, rfl⟩
    have hsz : (l0.take a ++ l0.drop b ++ List.replicate (b - a) (0 : Int)).toArray.size = l0.length := by simp; omega
    have hlen : (l0.take a ++ l0.drop b).length = l0.length - (b - a) := by simp; omega
    have ho2 := put_own hown q (l0.take a ++ l0.drop b ++ List.replicate (b - a) (0 : Int)).toArray hsz (l0.length - (b - a)) (by omega)
    rw [List.toList_toArray, List.take_left' hlen] at ho2
    refine ⟨_, rfl, ?_, put_below hB hbg q _, put_kept _ hP q _⟩
    rw [← hlen] at ho2 ⊢
    exact Kd.R_of_own ho2 (fun k hk => by simp [Value.ownBlock] at hk; subst hk; exact Or.inl hP)
end Go.Proofs.Ytpfbiopcfbokbaa.MDel
