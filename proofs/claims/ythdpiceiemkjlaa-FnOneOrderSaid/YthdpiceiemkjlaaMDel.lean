/- slices.Delete at []int, of a row of one's own, in the words of the printed contracts: over the shelf's contract. -/
import Derived.Shelf.Slices.Delete
import Derived.Shelf.Slices.Empties
import Derived.Test.YthdpiceiemkjlaaWMore
import Derived.KernelRfl
namespace Go.Proofs.Ythdpiceiemkjlaa.MDel
open Go Go.Proofs Go.RowKit Go.Shelf Go.Sort Go.Proofs.YthdpiceiemkjlaaW.PrintWords Go.Proofs.YthdpiceiemkjlaaW.PrintLast Go.Proofs.YthdpiceiemkjlaaW.PrintMore
set_option linter.unusedSimpArgs false
theorem putCells_take (enc : Int → Value) (d : Array Int) (c : Array Value) (h : d.size ≤ c.size) (m : Nat) (hm : m ≤ d.size) : (putCells enc 0 d c).toList.take m = (d.toList.take m).map enc := by
  apply List.ext_getElem?
  intro k
  by_cases hk : k < m
  · rw [List.getElem?_take_of_lt hk, List.getElem?_map, List.getElem?_take_of_lt hk]
    unfold putCells
    rw [Array.getElem?_toList, Array.getElem?_mapIdx, Array.getElem?_eq_getElem (show k < c.size by omega), Array.getElem?_toList, Array.getElem?_eq_getElem (show k < d.size by omega)]
    simp only [Option.map_some]
    rw [if_pos (by omega), Nat.sub_zero, getElem!_pos d k (by omega)]
  · rw [List.getElem?_eq_none (by simp; omega), List.getElem?_eq_none (by simp; omega)]
theorem put_own {w : World} {base e g cap n : Nat} {xs : List Int} (h : w.ownsRow base e 1 (.slice (some ⟨g, 0, none⟩) n cap) n (encs (Value.int .i64) xs)) (q : Nat) (d : Array Int) (hd : d.size = n) (m : Nat) (hm : m ≤ n) :
    (putRow (Value.int .i64) (Sort.ahead w q) g 0 d).ownsRow base e 1 (.slice (some ⟨g, 0, none⟩) m cap) m (encs (Value.int .i64) (d.toList.take m)) := by
  rcases h.2 with ⟨h', _⟩ | ⟨g', cap', cur, h', hb, hg, hn, hc, hs, htake⟩
  · simp at h'
  · simp only [Value.slice.injEq, Option.some.injEq, Addr.mk.injEq, and_true, true_and] at h'
    obtain ⟨rfl, rfl⟩ := h'
    refine ⟨by simp [encs]; omega, .inr ⟨g, cap, putCells (Value.int .i64) 0 d cur, rfl, hb, ?_, by omega, hc, ?_, ?_⟩⟩
    · have hg' : (Sort.ahead w q).heap[g]? = some (.cells cur e (0, 0)) := hg
      simp [putRow, mapBlock, Array.getElem?_modify, onCells]
      exact ⟨_, hg, rfl⟩
    · simp [putCells, hs]
    · rw [Nat.mul_one, putCells_take _ _ _ (by omega) _ (by omega)]
      rfl
theorem put_below {w0 w : World} {g : Nat} (hB : Below w0.heap.size w0 w) (hg : w0.heap.size ≤ g) (q : Nat) (d : Array Int) : Below w0.heap.size w0 (putRow (Value.int .i64) (Sort.ahead w q) g 0 d) := by
  refine ⟨hB.os, hB.tape, hB.output, by rw [size_putRow]; exact hB.size, fun k hk => ?_⟩
  rw [← hB.block k hk]
  have hne : g ≠ k := by omega
  simp [putRow, mapBlock, Array.getElem?_modify, hne]
theorem put_kept {w : World} {g : Nat} (S : Nat → Prop) (hS : S g) (q : Nat) (d : Array Int) : Kept w (putRow (Value.int .i64) (Sort.ahead w q) g 0 d) S := by
  refine ⟨by rw [size_putRow]; exact Nat.le_refl _, fun k _ hn => ?_⟩
  have hne : g ≠ k := by rintro rfl; exact hn hS
  simp [putRow, mapBlock, Array.getElem?_modify, hne]
end Go.Proofs.Ythdpiceiemkjlaa.MDel
