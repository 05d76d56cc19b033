/- Texts of numbers, texts put together: strconv.Itoa and strings.Join in the words of the printed contracts, over the shelf's contracts. -/
import Derived.Shelf.Strconv.Itoa3
import Derived.Shelf.Strings.OnBuilder
import Derived.Lib.LaidTab
import Derived.WalkSmall
import Derived.Test.YthdpiceiemkjlaaDoorWMore
import Derived.Test.YthdpiceiemkjlaaDoorProg
import Derived.KernelRfl
namespace Go.Proofs.YthdpiceiemkjlaaDoor.MTxt
open Go Go.Proofs Go.RowKit Go.Shelf Go.Sort Go.Proofs.YthdpiceiemkjlaaDoorW.PrintWords Go.Proofs.YthdpiceiemkjlaaDoorW.PrintLast Go.Proofs.YthdpiceiemkjlaaDoorW.PrintMore
set_option linter.unusedSimpArgs false
/-- The powers of ten, as the library's text lays them. -/
def Tabs (w : World) : Prop := Lib.TabIs Tryd.prog w "internal/strconv.uint64pow10" .u64 Lib.pow10Tab
theorem tabs_below {w W : World} (h : Tabs w) (hb : Below w.heap.size w W) : Tabs W := by
  obtain ⟨g, hg⟩ : ∃ g, Tryd.prog.globalNamed "internal/strconv.uint64pow10" = some g := by
    unfold Tabs Lib.TabIs World.var? at h
    cases hq : Tryd.prog.globalNamed "internal/strconv.uint64pow10" with
    | none => rw [hq] at h; cases h
    | some g => exact ⟨g, rfl⟩
  have hl : g < w.heap.size := by
    unfold Tabs Lib.TabIs World.var? at h
    rw [hg] at h
    rcases Nat.lt_or_ge g w.heap.size with q | q
    · exact q
    · simp [Array.getElem?_eq_none q] at h
  exact var?_below hb hg hl h
theorem grow_below {w0 w : World} (hB : Below w0.heap.size w0 w) (os : Array Obj) : Below w0.heap.size w0 (grow w os) := by
  refine ⟨hB.os, hB.tape, hB.output, ?_, fun k hk => ?_⟩
  · show _ ≤ (w.heap ++ os).size
    have := hB.size
    simp only [Array.size_append]
    omega
  · have : k < w.heap.size := by have := hB.size; omega
    show (w.heap ++ os)[k]? = _
    rw [Array.getElem?_append_left this]
    exact hB.block k hk
theorem itoa_calls {ρ : Ren} (L : LaysM.n171 Tryd.prog ρ) (n : Int) (h0 : -9223372036854775808 ≤ n) (h1 : n ≤ 9223372036854775807) (w : World) (hT : Tabs w) :
    Calls Tryd.prog (ρ.f 171) #[.int .i64 n] w fun e w' => e = .returned (.string ⟨(Lib.itoa n).toArray⟩) ∧ Below w.heap.size w w' := by
  refine (Any.strconv_Itoa L n h0 h1 w hT).mono ?_
  rintro e w' ⟨rfl, k, os, rfl⟩
  exact ⟨rfl, grow_below (pw_below_drewN (Below.refl _ _) k) os⟩
theorem R_join {P : Program} {ρ : Ren} (L : Lays.n156 P ρ) (X : Builder.Extra P ρ) (P0 : Nat → Prop) (u : Value) (l0 : List ByteArray) (a1 : ByteArray) (e : Nat) (w0 w : World) (hB : Below w0.heap.size w0 w) (ho : Kd.R Kd.string e w w0.heap.size P0 u l0)
    (hN : l0.length ≤ 140737488355328) (hlen : (Lib.join (l0.map (·.data.toList)) a1.data.toList).length ≤ 140737488355328) :
    Calls P (ρ.f 156) #[u, .string a1] w fun x w' => x = .returned (.string ⟨(Lib.join (l0.map (·.data.toList)) a1.data.toList).toArray⟩) ∧ Kd.R Kd.string e w' w0.heap.size (fun k => P0 k ∨ w.heap.size ≤ k) u l0 ∧ Below w0.heap.size w0 w' ∧ Kept w w' (fun k => P0 k) := by
  rcases Nat.eq_zero_or_pos l0.length with hl | hl
  · obtain rfl := List.length_eq_zero_iff.mp hl
    obtain ⟨A, c, rfl⟩ := Kd.R_slice ho
    refine (Any.strings_Join_none L X A c a1 w).mono ?_
    rintro x w' ⟨rfl, rfl⟩
    exact ⟨rfl, Kd.R_mono ho (fun k hk => Or.inl hk), hB, Kept.refl _ _⟩
  · obtain ⟨g, cap, rfl, hbg, hgl, cells, hcell⟩ := Kd.R_form ho hl
    have hown := Kd.own_of_R ho
    have hcap : l0.length ≤ cap := by
      rcases hown.2 with ⟨h', _⟩ | ⟨g', cap', cur, h', _, _, hn, hc, _, _⟩
      · simp at h'
      · simp only [Value.slice.injEq, Option.some.injEq, Addr.mk.injEq, and_true, true_and] at h'
        obtain ⟨_, rfl⟩ := h'
        exact hn
    have hcells : ∀ (j : Nat) x, l0[j]? = some x → w.cell? ⟨g, 0 + j, none⟩ = some (.string x) := by
      intro j x hj
      have hjl : j < l0.length := (List.getElem?_eq_some_iff.1 hj).1
      rw [Nat.zero_add, hown.cellAt j (by omega)]
      have := (List.getElem?_eq_some_iff.1 hj).2
      simp [encs, hjl, this]
    refine (Any.strings_Join L X g 0 cap l0 a1 w hcells hgl hN hcap hlen).mono ?_
    rintro x w' ⟨rfl, hb⟩
    exact ⟨rfl, Kd.R_mono (Kd.R_below ho hb) (fun k hk => Or.inl hk), ⟨hb.os.trans hB.os, hb.tape.trans hB.tape, hb.output.trans hB.output, Nat.le_trans hB.size hb.size, fun k hk => (hb.block k (by have := hB.size; omega)).trans (hB.block k hk)⟩, Kept.of_below hb _⟩
end Go.Proofs.YthdpiceiemkjlaaDoor.MTxt
