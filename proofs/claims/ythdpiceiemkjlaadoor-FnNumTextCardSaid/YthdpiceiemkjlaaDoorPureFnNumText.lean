/- FnNumText: a number is read back from its text, with all its edges, for whatever is drawn. -/
import Derived.Test.YthdpiceiemkjlaaDoorQFnNumText
import Derived.Test.YthdpiceiemkjlaaDoorMBase
import Derived.KernelRfl
import Derived.Test.YthdpiceiemkjlaaDoorPureWalkText
import Derived.Test.YthdpiceiemkjlaaDoorPureDrawsText
import Derived.OpenShut
set_option linter.unusedVariables false
set_option linter.unusedSimpArgs false
namespace Go.Proofs.YthdpiceiemkjlaaDoor.Pure
open Go.RowKit Go.Proofs.YthdpiceiemkjlaaDoor.GFnNumText Go.Proofs.YthdpiceiemkjlaaDoorW.PrintWords Go.Proofs.YthdpiceiemkjlaaDoorW.PrintLast Go.Proofs.YthdpiceiemkjlaaDoorW.PrintMore Go.Proofs.YthdpiceiemkjlaaDoor.MBase
theorem laws_FnNumText.calls (k : Nat) (A0 : Option Addr) (c0 : Nat) (l0 : List Int) (A1 : Option Addr) (c1 : Nat) (l1 : List Int) (r : Bool) (w : World) (hT : Go.Proofs.YthdpiceiemkjlaaDoor.MRead.Tabs2 w) (hr0 : Kd.C (Kd.int .u8) w A0 l0.length l0) (hc0 : l0.length ≤ c0) (hr1 : Kd.C (Kd.int .u8) w A1 l1.length l1) (hc1 : l1.length ≤ c1) (h : laws_FnNumText.f k l0 l1 = some r) :
    Calls Tryd.prog 3 #[.slice A0 l0.length c0, .slice A1 l1.length c1] w fun e w' => e = .returned (.bool r) ∧ Below w.heap.size w w' := by
  unfold laws_FnNumText.f at h
  by_cases h0 : l0.length ≤ 140737488351232 ∧ ∀ x ∈ l0, 0 ≤ x ∧ x ≤ 255
  · rw [if_pos h0] at h
    by_cases h1 : l1.length ≤ 140737488351232 ∧ ∀ x ∈ l1, 0 ≤ x ∧ x ≤ 255
    · rw [if_pos h1] at h
      obtain rfl := Option.some.inj h
      exact walk A0 c0 l0 A1 c1 l1 w hT hr0 hc0 hr1 hc1 h0 h1
    · rw [if_neg h1] at h; cases h
  · rw [if_neg h0] at h; cases h
theorem FnNumText : laws_FnNumText.Pure2 := by
  intro y0 y1 o0 b0 o1 b1
  refine ⟨0, ?_⟩
  have h0 : y0.length ≤ 140737488351232 ∧ ∀ x ∈ y0, 0 ≤ x ∧ x ≤ 255 := ⟨by omega, fun x hx => Go.bounds_u8 (o0.2 x hx)⟩
  have h1 : y1.length ≤ 140737488351232 ∧ ∀ x ∈ y1, 0 ≤ x ∧ x ≤ 255 := ⟨by omega, fun x hx => Go.bounds_u8 (o1.2 x hx)⟩
  unfold laws_FnNumText.f
  rw [if_pos h0, if_pos h1]

end Go.Proofs.YthdpiceiemkjlaaDoor.Pure
