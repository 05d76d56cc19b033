/- Texts of numbers, texts put together: strconv.Itoa and strings.Join in the words of the printed contracts, over the shelf's contracts. -/
import Derived.Shelf.Strconv.Itoa3
import Derived.Shelf.Strings.OnBuilder
import Derived.Lib.LaidTab
import Derived.WalkSmall
import Derived.Test.YtpfbiopcfbokbaaDoorWMore
import Derived.Test.YtpfbiopcfbokbaaDoorProg
import Derived.KernelRfl
namespace Go.Proofs.YtpfbiopcfbokbaaDoor.MTxt
open Go Go.Proofs Go.RowKit Go.Shelf Go.Sort Go.Proofs.YtpfbiopcfbokbaaDoorW.PrintWords Go.Proofs.YtpfbiopcfbokbaaDoorW.PrintLast Go.Proofs.YtpfbiopcfbokbaaDoorW.PrintMore
set_option linter.unusedSimpArgs false
/-- The powers of ten, as the library's text lays them. -/
def Tabs (w : World) : Prop := Lib.TabIs Tryd.prog w "internal/strconv.uint64pow10" .u64 Lib.pow10Tab
theorem tabs_below {w W : World} (h : Tabs w) (hb : Below w.heap.size w W) : Tabs W := by
  obtain ⟨g, hg⟩ : ∃ g, Tryd.prog.globalNamed "internal/strconv.uint64pow10" = some g := by
    unfold Tabs Lib.TabIs World.var? at h
    cases hq : Tryd.prog.globalNamed "internal/strconv.uint64pow10" with
    | none => rw [hq] at h; cases h
    | some g => exact ⟨g, rfl⟩
  have hl : g < w.heap.size := by
    unfold Tabs Lib.TabIs World.var? at h
    rw [hg] at h
    rcases Nat.lt_or_ge g w.heap.size with q | q
    · exact q
    · simp [Array.getElem?_eq_none q] at h
  exact var?_below hb hg hl h
theorem grow_below {w0 w : World} (hB : Below w0.heap.size w0 w) (os : Array Obj) : Below w0.heap.size w0 (grow w os) := by
  refine ⟨hB.os, hB.tape, hB.output, ?_, fun k hk => ?_⟩
  · show _ ≤ (w.heap ++ os).size
    have := hB.size
    simp only [Array.size_append]
    omega
  · have : k < w.heap.size := by have := hB.size; omega
    show (w.heap ++ os)[k]? = _
    rw [Array.getElem?_append_left this]
    exact hB.block k hk
theorem itoa_calls {ρ : Ren} (L : LaysM.n171 Tryd.prog ρ) (n : Int) (h0 : -9223372036854775808 ≤ n) (h1 : n ≤ 9223372036854775807) (w : World) (hT : Tabs w) :
    Calls Tryd.prog (ρ.f 171) #[.int .i64 n] w fun e w' => e = .returned (.string ⟨(Lib.itoa n).toArray⟩) ∧ Below w.heap.size w w' := by
  refine (Any.strconv_Itoa L n h0 h1 w hT).mono ?_
  rintro e w' ⟨rfl, k, os, rfl⟩
  exact ⟨rfl, grow_below (pw_below_drewN (Below.refl _ _) k) os⟩
end Go.Proofs.YtpfbiopcfbokbaaDoor.MTxt
