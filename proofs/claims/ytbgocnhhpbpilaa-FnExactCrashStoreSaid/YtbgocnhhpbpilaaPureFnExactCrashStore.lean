/- The pure statement of FnExactCrashStore: both functions keep the same part of the later text, for all stores and numbers. -/
import Derived.Test.YtbgocnhhpbpilaaQFnExactCrashStore
import Derived.Test.YtbgocnhhpbpilaaMBase
import Derived.KernelRfl
set_option linter.unusedVariables false
set_option linter.unusedSimpArgs false
namespace Go.Proofs.Ytbgocnhhpbpilaa.Pure
open Go.RowKit Go.Proofs.Ytbgocnhhpbpilaa.GCrashStore Go.Proofs.YtbgocnhhpbpilaaW.PrintWords Go.Proofs.YtbgocnhhpbpilaaW.PrintLast Go.Proofs.YtbgocnhhpbpilaaW.PrintMore Go.Proofs.Ytbgocnhhpbpilaa.MBase
theorem szStore_cases (s l : ByteArray) (left : Int) (h0 : 0 ≤ left) (h1 : left ≤ 1048576) (hs : s.size ≤ 9223372036854775807) (hl : l.size ≤ 9223372036854775807) :
    laws_szStore.f s l left = some (-1) ∨ ∃ m, laws_szStore.f s l left = some m ∧ 0 ≤ m ∧ (s.size : Int) + l.size ≤ left := by
  unfold laws_szStore.f
  rw [wrap_id (n := left - (s.size : Int)) (by omega) (by omega)]
  by_cases h : left - (s.size : Int) < 0
  · exact .inl (by rw [if_pos h])
  · rw [if_neg h, wrap_id (n := left - (s.size : Int) - (l.size : Int)) (by omega) (by omega)]
    by_cases h2 : left - (s.size : Int) - (l.size : Int) < 0
    · exact .inl (by rw [if_pos h2])
    · exact .inr ⟨_, by rw [if_neg h2], by omega, by omega⟩
theorem eqStore_refl (a b : ByteArray) : laws_eqStore.f a b a b = some true := by
  unfold laws_eqStore.f
  rw [if_pos rfl, if_pos rfl]
theorem same_fn (s l : ByteArray) (n : Int) : spec_CrashStore.f s l n = impl_CrashStore.f s l n := by
  have e0 : spec_l14Good.f s l = impl_Store_isGood.f s l := rfl
  have e2 : ∀ a b c, spec_l1In.f a b c = impl_in.f a b c := fun _ _ _ => rfl
  unfold spec_CrashStore.f impl_CrashStore.f; rw [e0, e2]
theorem some_fn (s l : ByteArray) (n : Int) (hz : (s.size : Int) + l.size ≤ 1048576) : ∃ r, impl_CrashStore.f s l n = some r := by
  unfold impl_CrashStore.f impl_Store_isGood.f impl_in.f
  rw [Option.bind_some]
  split
  · by_cases h0 : 0 ≤ n
    · rw [if_pos h0, Option.bind_some]
      by_cases h1 : n ≤ (l.size : Int)
      · have hc : (cutS l 0 n.toNat).size ≤ l.size := by unfold cutS; rw [ByteArray.size_extract]; omega
        rw [if_pos (by simp [h1]), if_pos h0, if_pos h1, if_pos (by omega)]
        exact ⟨_, rfl⟩
      · rw [if_neg (by simp [h1])]; exact ⟨_, rfl⟩
    · rw [if_neg h0, Option.bind_some, if_neg (by simp)]; exact ⟨_, rfl⟩
  · exact ⟨_, rfl⟩
theorem law_in (s l : ByteArray) (n : Int) (r : ByteArray × ByteArray × Bool) (m : Int) (h : laws_szStore.f s l 1048576 = some m) (hm : 0 ≤ m) (hr : impl_CrashStore.f s l n = some r) : laws_FnExactCrashStore.f s l n = some true := by
  have hs : spec_CrashStore.f s l n = some r := (same_fn s l n).trans hr
  have ht : laws_toStore.f s l = some (s, l) := rfl
  obtain ⟨a, b, c⟩ := r
  unfold laws_FnExactCrashStore.f
  rw [h, Option.bind_some, if_neg (by omega), ht, Option.bind_some, hs, Option.bind_some, Option.bind_some, hr, Option.bind_some, eqStore_refl, Option.bind_some, if_pos rfl, if_neg (by simp)]
theorem law_out (s l : ByteArray) (n : Int) (h : laws_szStore.f s l 1048576 = some (-1)) : laws_FnExactCrashStore.f s l n = some true := by
  simp only [laws_FnExactCrashStore.f]
  rw [h, Option.bind_some, if_pos (by omega)]
theorem law_all (s l : ByteArray) (n : Int) (hs : s.size ≤ 9223372036854775807) (hl : l.size ≤ 9223372036854775807) : laws_FnExactCrashStore.f s l n = some true := by
  rcases szStore_cases s l 1048576 (by omega) (by omega) hs hl with h | ⟨m, h, hm, hz⟩
  · exact law_out s l n h
  · obtain ⟨r, hr⟩ := some_fn s l n hz
    exact law_in s l n r m h hm hr
theorem FnExactCrashStore : laws_FnExactCrashStore.Pure2 := fun y0 y1 h0 _ => ⟨0, law_all y0.f0 y0.f1 y1 h0.1 h0.2⟩

end Go.Proofs.Ytbgocnhhpbpilaa.Pure
