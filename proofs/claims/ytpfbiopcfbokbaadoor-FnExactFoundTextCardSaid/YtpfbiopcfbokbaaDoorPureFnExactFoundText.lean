/- The pure statement of FnExactFoundText: a sign, and the picks behind it. -/
import Derived.Test.YtpfbiopcfbokbaaDoorQFnExactFoundText
import Derived.Test.YtpfbiopcfbokbaaDoorMBase
import Derived.KernelRfl
import Derived.Lib.ItoaLen
import Derived.Lib.ItoaMem
import Derived.Lib.Split
set_option linter.unusedVariables false
set_option linter.unusedSimpArgs false
namespace Go.Proofs.YtpfbiopcfbokbaaDoor.Pure
open Go.RowKit Go.Proofs.YtpfbiopcfbokbaaDoor.GFoundText Go.Proofs.YtpfbiopcfbokbaaDoorW.PrintWords Go.Proofs.YtpfbiopcfbokbaaDoorW.PrintLast Go.Proofs.YtpfbiopcfbokbaaDoorW.PrintMore Go.Proofs.YtpfbiopcfbokbaaDoor.MBase
theorem toIntS_l0 (xs : List Int) (hx : xs.length ≤ 1048576) : ∀ (d i : Nat) (acc : List Int), i + d = xs.length → acc.length = xs.length →
    Ev (fun k => laws_toIntS.l0 k xs acc (i : Int)) (acc.take i ++ xs.drop i)
  | 0, i, acc, h, ha => by
    have e : acc.take i ++ xs.drop i = acc := by rw [List.take_of_length_le (by omega), List.drop_eq_nil_of_le (by omega), List.append_nil]
    rw [e]
    refine Ev.step (f := fun _ => some acc) (fun k => ?_) (Ev.now _)
    simp only [laws_toIntS.l0]
    rw [if_neg (by omega)]
  | d + 1, i, acc, h, ha => by
    have ih := toIntS_l0 xs hx d (i + 1) (acc.set i (xs.getD i 0)) (by omega) (by simpa using ha)
    rw [set_take_drop xs acc 0 i (by omega) ha] at ih
    refine Ev.step (fun k => ?_) ih
    simp only [laws_toIntS.l0]
    rw [if_pos (by omega), if_pos (by omega), if_pos (by omega), wrap_id (by omega) (by omega), rd_nat]
    rfl
theorem toIntS_ev (xs : List Int) (hx : xs.length ≤ 1048576) : Ev (fun k => laws_toIntS.f k xs) xs := by
  have h := toIntS_l0 xs hx xs.length 0 (List.replicate xs.length 0) (by omega) (by simp)
  simp only [List.take_zero, List.drop_zero, List.nil_append] at h
  refine Ev.congr (fun k => ?_) h
  simp only [laws_toIntS.f]
  rw [if_pos (by omega), if_pos (by simp only [Int.toNat_natCast]; omega)]
  simp only [Int.toNat_natCast]
  rfl
theorem eqIntS_l0 (xs : List Int) (hx : xs.length ≤ 1048576) : ∀ (d i : Nat), i + d = xs.length → Ev (fun k => laws_eqIntS.l0 k xs xs (i : Int)) true
  | 0, i, h => by
    refine Ev.step (f := fun _ => some true) (fun k => ?_) (Ev.now _)
    simp only [laws_eqIntS.l0]
    rw [if_neg (by omega)]
  | d + 1, i, h => by
    refine Ev.step (fun k => ?_) (eqIntS_l0 xs hx d (i + 1) (by omega))
    simp only [laws_eqIntS.l0]
    rw [if_pos (by omega), if_pos (by omega), if_pos (by omega), if_pos trivial, wrap_id (by omega) (by omega)]
    rfl
theorem eqIntS_ev (xs : List Int) (hx : xs.length ≤ 1048576) : Ev (fun k => laws_eqIntS.f k xs xs) true := by
  refine Ev.congr (fun k => ?_) (eqIntS_l0 xs hx xs.length 0 (by omega))
  simp only [laws_eqIntS.f]
  rw [if_pos trivial]
  rfl
theorem sz_int (l : List Int) (m : Int) (h0 : 0 ≤ m) (h1 : m ≤ 1048576) (hl : l.length ≤ 9223372036854775807) : laws_szIntS.f l m = some (if m - (l.length : Int) < 0 then -1 else m - (l.length : Int)) := by
  simp only [laws_szIntS.f]
  rw [wrap_id (by omega) (by omega)]
  split <;> rfl
/-! ### Texts -/
/-- A text out of its bytes. -/
def bs (l : List UInt8) : ByteArray := ⟨l.toArray⟩
theorem bs_size (l : List UInt8) : (bs l).size = l.length := by simp [bs, ByteArray.size]
theorem cat_bs (a b : List UInt8) : cat (bs a) (bs b) = bs (a ++ b) := by
  apply ByteArray.ext
  show (bs a ++ bs b).data = _
  rw [ByteArray.data_append]
  simp [bs]
theorem catOk_bs {a b : List UInt8} (h : a.length + b.length ≤ 9223372036854775807) : catOk (bs a) (bs b) = true := catOk_of (by rw [bs_size, bs_size]; exact h)
theorem one_num (d : Nat) (h : d < 10) : strOfNums ([(wrap64 (48 + (d : Int))) % 256] : List Int) = bs [UInt8.ofNat (48 + d)] := by
  have e : (wrap64 (48 + (d : Int))) % 256 = ((48 + d : Nat) : Int) := by rw [wrap_id (by omega) (by omega)]; omega
  rw [e]
  rfl
theorem dec_len (n : Nat) (h : (n : Int) ≤ 9223372036854775807) : (Lib.decDigits n).length ≤ 21 := by
  have := Lib.itoa_length_le (n : Int) (by omega) h
  rwa [Lib.itoa_nonneg] at this
theorem num_text : ∀ (n : Nat), (n : Int) ≤ 9223372036854775807 → Ev (fun k => spec_l1Num.f k (n : Int)) (bs (Lib.decDigits n)) := by
  intro n
  induction n using Nat.strongRecOn with
  | ind n ih =>
    intro hn
    by_cases h : n < 10
    · rw [Lib.decDigits_one h]
      refine Ev.step (f := fun _ => some (bs [UInt8.ofNat (48 + n)])) (fun k => ?_) (Ev.now _)
      simp only [spec_l1Num.f]
      rw [if_pos (by omega), one_num n h]
    · have hd : Lib.decDigits n = Lib.decDigits (n / 10) ++ [UInt8.ofNat (48 + n % 10)] := by rw [Lib.decDigits, dif_neg h]
      have hl := dec_len (n / 10) (by omega)
      refine Ev.step (f := fun k => (spec_l1Num.f k ((n / 10 : Nat) : Int)).bind fun t => (if catOk t (strOfNums ([(wrap64 (48 + ((n % 10 : Nat) : Int))) % 256] : List Int)) = true then (some (cat t (strOfNums ([(wrap64 (48 + ((n % 10 : Nat) : Int))) % 256] : List Int)))) else none)) (fun k => ?_) (Ev.bind (ih (n / 10) (by omega) (by omega)) ?_)
      · simp only [spec_l1Num.f]
        rw [if_neg (by omega)]
        have e1 : wrap64 (Int.tdiv (n : Int) 10) = ((n / 10 : Nat) : Int) := by
          have : Int.tdiv (n : Int) 10 = ((n / 10 : Nat) : Int) := rfl
          rw [this, wrap_id] <;> omega
        have e2 : Int.tmod (n : Int) 10 = ((n % 10 : Nat) : Int) := rfl
        rw [e1, e2]
        rfl
      · rw [one_num (n % 10) (by omega), hd]
        refine Ev.ite_pos (catOk_bs (by simp; omega)) ?_
        rw [cat_bs]
        exact Ev.now _
theorem num_text' (n : Int) (h0 : 0 ≤ n) (h1 : n ≤ 9223372036854775807) : Ev (fun k => spec_l1Num.f k n) (bs (Lib.itoa n)) := by
  obtain ⟨m, rfl⟩ : ∃ m : Nat, n = m := ⟨n.toNat, by omega⟩
  rw [Lib.itoa_nonneg]
  exact num_text m h1
theorem itoa_now (n : Int) (h0 : -9223372036854775808 ≤ n) (h1 : n ≤ 9223372036854775807) : strconv_Itoa.f n = some (bs (Lib.itoa n)) := by
  unfold strconv_Itoa.f
  rw [if_pos h0, if_pos h1]
  rfl
/-! ### Numbers with commas between -/
def listT (l : List Int) : List UInt8 := Lib.join (l.map Lib.itoa) [44]
theorem lens_le (l : List Int) (h : ∀ x ∈ l, -9223372036854775808 ≤ x ∧ x ≤ 9223372036854775807) : Lib.lens (l.map Lib.itoa) ≤ 21 * l.length := by
  induction l with
  | nil => simp [Lib.lens]
  | cons x r ih =>
    have h1 := Lib.itoa_length_le x (h x List.mem_cons_self).1 (h x List.mem_cons_self).2
    have h2 := ih (fun y hy => h y (List.mem_cons_of_mem _ hy))
    simp only [Lib.lens, List.map_cons, List.sum_cons, List.length_cons] at h2 ⊢
    omega
theorem listT_len (l : List Int) (h : ∀ x ∈ l, -9223372036854775808 ≤ x ∧ x ≤ 9223372036854775807) : (listT l).length ≤ 22 * l.length := by
  unfold listT
  cases l with
  | nil => simp [Lib.join_nil]
  | cons x r =>
    rw [List.map_cons, Lib.join_length]
    have := lens_le (x :: r) h
    rw [List.map_cons] at this
    simp only [List.length_map, List.length_cons, List.length_nil] at this ⊢
    omega
theorem joined_step (l : List Int) (i : Nat) (hi : i < l.length) (h0 : 0 < i) : listT (l.take (i + 1)) = listT (l.take i) ++ [44] ++ Lib.itoa (l.getD i 0) := by
  cases l with
  | nil => simp at hi
  | cons x r =>
    obtain ⟨j, rfl⟩ : ∃ j, i = j + 1 := ⟨i - 1, by omega⟩
    simp only [listT, List.take_succ_cons, List.map_cons, Lib.join_cons, List.map_take]
    simp only [List.length_cons] at hi
    have hj : j < r.length := by omega
    rw [Lib.joinTail_take_succ [44] (r.map Lib.itoa) j (Lib.itoa (r.getD j 0)) (by simp [hj])]
    simp only [List.getD_cons_succ, List.append_assoc]
theorem joined_first (l : List Int) (h : 0 < l.length) : listT (l.take 1) = Lib.itoa (l.getD 0 0) := by
  cases l with
  | nil => simp at h
  | cons x r => simp [listT, Lib.join_one]
theorem spec_joined (l : List Int) (hl : l.length ≤ 1048576) (hr : ∀ x ∈ l, 0 ≤ x ∧ x ≤ 9223372036854775807) : ∀ d i : Nat, i + d = l.length → Ev (fun k => spec_l4List.l0 k (bs (listT (l.take i))) l (l.length : Int) (i : Int)) (bs (listT l))
  | 0, i, h => by
    have e : l.take i = l := List.take_of_length_le (by omega)
    rw [e]
    refine Ev.step (f := fun _ => some (bs (listT l))) (fun k => ?_) (Ev.now _)
    simp only [spec_l4List.l0]; rw [if_neg (by omega)]
  | d + 1, i, h => by
    have hil : i < l.length := by omega
    have hr' : ∀ x ∈ l, -9223372036854775808 ≤ x ∧ x ≤ 9223372036854775807 := fun x hx => by have := hr x hx; omega
    have hm : l.getD i 0 ∈ l := by
      have e : l.getD i 0 = l[i] := by simp [hil]
      rw [e]; exact List.getElem_mem hil
    have hx := hr _ hm
    have hxl := Lib.itoa_length_le (l.getD i 0) (by omega) hx.2
    have hacc := listT_len (l.take i) (fun x hx => hr' x (List.mem_of_mem_take hx))
    have htl : (l.take i).length ≤ 1048576 := by simp; omega
    have hn := num_text' (l.getD i 0) hx.1 hx.2
    have ih := spec_joined l hl hr d (i + 1) (by omega)
    by_cases h0 : 0 < i
    · rw [joined_step l i hil h0] at ih
      refine Ev.step (f := fun k => (spec_l1Num.f k (l.getD i 0)).bind fun t => (if catOk (bs (listT (l.take i) ++ [44])) t = true then (spec_l4List.l0 k (cat (bs (listT (l.take i) ++ [44])) t) l (l.length : Int) ((i + 1 : Nat) : Int)) else none)) (fun k => ?_) (Ev.bind hn (Ev.ite_pos (catOk_bs (by simp only [List.length_append, List.length_cons, List.length_nil]; omega)) ?_))
      · simp only [spec_l4List.l0]
        have e44 : (⟨#[44]⟩ : ByteArray) = bs [44] := rfl
        rw [if_pos (by omega), if_pos (by omega), if_pos (by omega), if_pos (by omega), e44, if_pos (catOk_bs (by simp; omega)), cat_bs, rd_nat, wrap_id (n := (i : Int) + 1) (by omega) (by omega)]
        rfl
      · rw [cat_bs]; exact ih
    · obtain rfl : i = 0 := by omega
      rw [joined_first l (by omega)] at ih
      have e0 : listT (l.take 0) = [] := rfl
      rw [e0]
      refine Ev.step (f := fun k => (spec_l1Num.f k (l.getD 0 0)).bind fun t => (if catOk (bs []) t = true then (spec_l4List.l0 k (cat (bs []) t) l (l.length : Int) ((0 + 1 : Nat) : Int)) else none)) (fun k => ?_) (Ev.bind hn (Ev.ite_pos (catOk_bs (by simp only [List.length_append, List.length_cons, List.length_nil]; omega)) ?_))
      · simp only [spec_l4List.l0]
        rw [if_pos (by omega), if_pos (by omega), if_pos (by omega), if_neg (by omega), rd_nat, wrap_id (n := ((0 : Nat) : Int) + 1) (by omega) (by omega)]
        rfl
      · rw [cat_bs]; exact ih
theorem impl_joined (l : List Int) (hl : l.length ≤ 1048576) (hr : ∀ x ∈ l, -9223372036854775808 ≤ x ∧ x ≤ 9223372036854775807) : ∀ d i : Nat, i + d = l.length → Ev (fun k => impl_joinNumbers.l0 k ((l.take i).map fun x => bs (Lib.itoa x)) l (l.length : Int) (i : Int)) (bs (listT l))
  | 0, i, h => by
    have e : l.take i = l := List.take_of_length_le (by omega)
    have hr' : ∀ x ∈ l, -9223372036854775808 ≤ x ∧ x ≤ 9223372036854775807 := fun x hx => by have := hr x hx; omega
    have hlen := listT_len l hr'
    have ej : Lib.join ((l.map fun x => bs (Lib.itoa x)).map (·.data.toList)) ((⟨#[44]⟩ : ByteArray).data.toList) = listT l := by
      unfold listT
      congr 1
      rw [List.map_map]
      apply List.map_congr_left
      intro x _
      simp [bs]
    rw [e]
    refine Ev.step (f := fun _ => some (bs (listT l))) (fun k => ?_) (Ev.now _)
    simp only [impl_joinNumbers.l0, strings_Join.f]
    rw [if_neg (by omega), ej, if_pos (by simp; omega), if_pos (by omega)]
    rfl
  | d + 1, i, h => by
    have hil : i < l.length := by omega
    have hm : l.getD i 0 ∈ l := by
      have e : l.getD i 0 = l[i] := by simp [hil]
      rw [e]; exact List.getElem_mem hil
    have hx := hr _ hm
    have ih := impl_joined l hl hr d (i + 1) (by omega)
    refine Ev.step (fun k => ?_) ih
    simp only [impl_joinNumbers.l0]
    rw [if_pos (by omega), if_pos (by omega), if_pos (by omega), rd_nat, itoa_now _ (by omega) hx.2, Option.bind_some, if_pos (by simp; omega), wrap_id (n := (i : Int) + 1) (by omega) (by omega)]
    have e : (l.take (i + 1)).map (fun x => bs (Lib.itoa x)) = (l.take i).map (fun x => bs (Lib.itoa x)) ++ [bs (Lib.itoa (l.getD i 0))] := by
      have e1 : l.take (i + 1) = l.take i ++ [l[i]] := by rw [List.take_add_one, List.getElem?_eq_getElem hil]; rfl
      have e2 : l.getD i 0 = l[i] := by simp [hil]
      rw [e1, e2, List.map_append]
      rfl
    rw [e]
    rfl
theorem spec_list (l : List Int) (hl : l.length ≤ 1048576) (hr : ∀ x ∈ l, 0 ≤ x ∧ x ≤ 9223372036854775807) : Ev (fun k => spec_l4List.f k l) (bs (listT l)) := spec_joined l hl hr l.length 0 (by omega)
theorem impl_list (l : List Int) (hl : l.length ≤ 1048576) (hr : ∀ x ∈ l, 0 ≤ x ∧ x ≤ 9223372036854775807) : Ev (fun k => impl_joinNumbers.f k l) (bs (listT l)) := impl_joined l hl (fun x hx => by have := hr x hx; omega) l.length 0 (by omega)
theorem impl_listZ (l : List Int) (hl : l.length ≤ 1048576) (hr : ∀ x ∈ l, -9223372036854775808 ≤ x ∧ x ≤ 9223372036854775807) : Ev (fun k => impl_joinNumbers.f k l) (bs (listT l)) := impl_joined l hl hr l.length 0 (by omega)
theorem bt_bs (w : List UInt8) (i : Nat) (h : i < w.length) : bt (bs w) (i : Int) = ((w[i]).toNat : Int) := by
  unfold bt
  rw [dif_pos (by rw [bs_size]; simpa using h)]
  rfl
theorem data_bs (w : List UInt8) : (bs w).data.toList = w := by simp [bs]
/-! ### Parts at a byte -/
/-- The parts that a text falls into at a byte; p stands ahead of the first. -/
def gl (b : UInt8) : List UInt8 → List UInt8 → List (List UInt8)
  | p, [] => [p]
  | p, x :: r => if x = b then p :: gl b [] r else gl b (p ++ [x]) r
theorem gl_miss (b : UInt8) : ∀ (l p : List UInt8), b ∉ l → gl b p l = [p ++ l]
  | [], p, _ => by simp [gl]
  | x :: r, p, h => by
    have h1 : x ≠ b := fun e => h (e ▸ List.mem_cons_self)
    unfold gl
    rw [if_neg h1, gl_miss b r _ (fun q => h (List.mem_cons_of_mem _ q)), List.append_assoc]
    rfl
theorem gl_hit (b : UInt8) : ∀ (a p r : List UInt8), b ∉ a → gl b p (a ++ b :: r) = (p ++ a) :: gl b [] r
  | [], p, r, _ => by simp [gl]
  | x :: a, p, r, h => by
    have h1 : x ≠ b := fun e => h (e ▸ List.mem_cons_self)
    rw [List.cons_append]
    conv => lhs; unfold gl
    rw [if_neg h1, gl_hit b a _ r (fun q => h (List.mem_cons_of_mem _ q)), List.append_assoc]
    rfl
theorem gl_pos (b : UInt8) : ∀ (l p : List UInt8), 0 < (gl b p l).length
  | [], p => by simp [gl]
  | x :: r, p => by
    unfold gl
    split
    · simp
    · exact gl_pos b r _
theorem gl_lens (b : UInt8) : ∀ (l p : List UInt8), Lib.lens (gl b p l) + (gl b p l).length = p.length + l.length + 1
  | [], p => by simp [gl, Lib.lens]
  | x :: r, p => by
    unfold gl
    split
    · have := gl_lens b r []
      simp only [Lib.lens, List.map_cons, List.sum_cons, List.length_cons, List.length_nil] at this ⊢
      omega
    · have := gl_lens b r (p ++ [x])
      simp only [List.length_append, List.length_cons, List.length_nil] at this ⊢
      omega
theorem gl_mem (b : UInt8) : ∀ (l p : List UInt8) (x : UInt8), (x ∈ p ∨ x ∈ l) → x ≠ b → ∃ q ∈ gl b p l, x ∈ q
  | [], p, x, h, hx => ⟨p, by simp [gl], by simpa using h⟩
  | y :: r, p, x, h, hx => by
    unfold gl
    split
    · rename_i e
      rcases h with h | h
      · exact ⟨p, List.mem_cons_self, h⟩
      · rcases List.mem_cons.1 h with rfl | h
        · exact absurd e hx
        · obtain ⟨q, h1, h2⟩ := gl_mem b r [] x (Or.inr h) hx
          exact ⟨q, List.mem_cons_of_mem _ h1, h2⟩
    · refine gl_mem b r (p ++ [y]) x ?_ hx
      rcases h with h | h
      · exact Or.inl (List.mem_append_left _ h)
      · rcases List.mem_cons.1 h with rfl | h
        · exact Or.inl (by simp)
        · exact Or.inr h
theorem gl_le (b : UInt8) (l p : List UInt8) : (gl b p l).length ≤ p.length + l.length + 1 := by have := gl_lens b l p; omega
theorem cut_bs (l : List UInt8) (i j : Nat) : cutS (bs l) i j = bs ((l.take j).drop i) := by
  apply ByteArray.ext
  unfold cutS
  rw [ByteArray.data_extract]
  apply Array.toList_inj.1
  rw [Array.toList_extract]
  simp [bs, List.extract_eq_take_drop, List.drop_take]
theorem spec_split (b : UInt8) (l : List UInt8) (hl : l.length ≤ 1048576) : ∀ (d i from_ : Nat) (acc : List ByteArray), i + d = l.length → from_ ≤ i → acc.length ≤ i →
    Ev (fun k => spec_l1Split.l0 k (bs l) (b.toNat : Int) acc (from_ : Int) (i : Int)) (acc ++ (gl b ((l.take i).drop from_) (l.drop i)).map bs)
  | 0, i, from_, acc, h, hf, ha => by
    rw [List.drop_eq_nil_of_le (show l.length ≤ i by omega)]
    refine Ev.step (f := fun _ => some (acc ++ (gl b ((l.take i).drop from_) []).map bs)) (fun k => ?_) (Ev.now _)
    simp only [spec_l1Split.l0, bs_size]
    have e : l.take i = l.take l.length := by rw [List.take_of_length_le (by omega), List.take_of_length_le (by omega)]
    rw [if_neg (by omega), if_pos (by omega), if_pos (by omega), if_pos (by omega), Int.toNat_natCast, cut_bs, e]
    rfl
  | d + 1, i, from_, acc, h, hf, ha => by
    have hi : i < l.length := by omega
    have hbt := bt_bs l i hi
    rw [List.drop_eq_getElem_cons hi]
    unfold gl
    by_cases c : l[i] = b
    · rw [if_pos c]
      have ih := spec_split b l hl d (i + 1) (i + 1) (acc ++ [bs ((l.take i).drop from_)]) (by omega) (by omega) (by simp; omega)
      have e0 : (l.take (i + 1)).drop (i + 1) = [] := List.drop_eq_nil_of_le (by simp; omega)
      rw [e0, List.append_assoc] at ih
      refine Ev.step (fun k => ?_) ih
      simp only [spec_l1Split.l0, bs_size]
      rw [if_pos (by omega), if_pos (by omega), hbt, if_pos (by rw [c]), if_pos (by omega), if_pos (by omega), if_pos (by omega), if_pos (by omega), wrap_id (n := (i : Int) + 1) (by omega) (by omega), Int.toNat_natCast, Int.toNat_natCast, cut_bs]
      rfl
    · rw [if_neg c]
      have ih := spec_split b l hl d (i + 1) from_ acc (by omega) (by omega) (by omega)
      have e : (l.take (i + 1)).drop from_ = (l.take i).drop from_ ++ [l[i]] := by
        have e1 : l.take (i + 1) = l.take i ++ [l[i]] := by rw [List.take_add_one, List.getElem?_eq_getElem hi]; rfl
        rw [e1, List.drop_append_of_le_length (by simp; omega)]
      rw [e] at ih
      refine Ev.step (fun k => ?_) ih
      simp only [spec_l1Split.l0, bs_size]
      rw [if_pos (by omega), if_pos (by omega), hbt, if_neg (fun q => c (UInt8.toNat_inj.1 (by omega))), wrap_id (n := (i : Int) + 1) (by omega) (by omega)]
      rfl
theorem split_ev (b : UInt8) (n : Int) (hn : n = (b.toNat : Int)) (l : List UInt8) (hl : l.length ≤ 1048576) : Ev (fun k => spec_l1Split.f k (bs l) n) ((gl b [] l).map bs) := by
  subst hn
  have h := spec_split b l hl l.length 0 0 [] (by omega) (by omega) (by simp)
  simpa [spec_l1Split.f] using h
/-! what the library's index says of one byte -/
theorem occ_iff (l : List UInt8) (b : UInt8) (i : Nat) : Lib.occAt l [b] i = true ↔ l[i]? = some b := by
  constructor
  · exact fun h => Lib.occAt_head rfl h
  · intro h
    have hi : i < l.length := (List.getElem?_eq_some_iff.1 h).1
    have e : l[i] = b := (List.getElem?_eq_some_iff.1 h).2
    unfold Lib.occAt
    rw [List.drop_eq_getElem_cons hi, e]
    simp [List.isPrefixOf]
theorem index_byte (l : List UInt8) (b : UInt8) : (Lib.index l [b] = -1 ∧ b ∉ l) ∨ ∃ a r, l = a ++ b :: r ∧ b ∉ a ∧ Lib.index l [b] = (a.length : Int) := by
  rcases Lib.index_spec l [b] with ⟨h1, h2⟩ | ⟨i, h1, h2, h3, h4⟩
  · refine Or.inl ⟨h1, fun hm => ?_⟩
    obtain ⟨j, hj, e⟩ := List.getElem_of_mem hm
    have := (occ_iff l b j).2 (by rw [List.getElem?_eq_getElem hj, e])
    rw [h2 j (by omega)] at this
    cases this
  · have hib := (occ_iff l b i).1 h3
    have hi : i < l.length := (List.getElem?_eq_some_iff.1 hib).1
    have e : l[i] = b := (List.getElem?_eq_some_iff.1 hib).2
    refine Or.inr ⟨l.take i, l.drop (i + 1), ?_, fun hm => ?_, by rw [h1, List.length_take]; omega⟩
    · rw [← e, ← List.drop_eq_getElem_cons hi, List.take_append_drop]
    · obtain ⟨j, hj, ej⟩ := List.mem_take_iff_getElem.1 hm
      have := (occ_iff l b j).2 (by rw [List.getElem?_eq_getElem (by omega), ej])
      have h5 := h4 j (by omega)
      rw [h5] at this
      cases this
theorem splitK_gl (b : UInt8) : ∀ (n : Nat) (l : List UInt8), l.length ≤ n → Lib.splitK [b] 0 (Lib.count l [b]) l = gl b [] l ∧ (gl b [] l).length = Lib.count l [b] + 1 := by
  intro n
  induction n with
  | zero =>
    intro l hl
    have : l = [] := List.length_eq_zero_iff.mp (by omega)
    subst this
    have : Lib.count [] [b] = 0 := Lib.count_miss (by rfl)
    rw [this]
    simp [Lib.splitK, gl]
  | succ n ih =>
    intro l hl
    rcases index_byte l b with ⟨h1, h2⟩ | ⟨a, r, rfl, h2, h3⟩
    · rw [Lib.count_miss h1, gl_miss b l [] h2]
      simp [Lib.splitK]
    · have hd : (a ++ b :: r).drop (a.length + [b].length) = r := by simp
      have hc := Lib.count_hit (sub := [b]) (by simp) h3
      rw [hd] at hc
      rw [hc, gl_hit b a [] r h2, Nat.add_comm 1]
      obtain ⟨i1, i2⟩ := ih r (by simp at hl; omega)
      unfold Lib.splitK
      have hne : ¬ (Lib.index (a ++ b :: r) [b] == -1) = true := fun e => by have := beq_iff_eq.1 e; omega
      have ht : (Lib.index (a ++ b :: r) [b]).toNat = a.length := by rw [h3]; rfl
      rw [if_neg hne, ht, hd, i1]
      refine ⟨by simp, by simp only [List.length_cons]; omega⟩
theorem l1In_dec (a b c : Int) : spec_l1In.f a b c = some (decide (b ≤ a ∧ a ≤ c)) := by
  unfold spec_l1In.f
  by_cases h : b ≤ a
  · rw [if_pos h]; simp [h]
  · rw [if_neg h]; simp [h]
theorem in_dec (a b c : Int) : impl_in.f a b c = some (decide (b ≤ a ∧ a ≤ c)) := l1In_dec a b c
def inB (lo hi x : Int) : Bool := decide (lo ≤ x ∧ x ≤ hi)
theorem all_loop (lo hi : Int) (xs : List Int) (hx : xs.length ≤ 1048576) : ∀ d i : Nat, i + d = xs.length → Ev (fun k => spec_l1All.l0 k lo hi xs (xs.length : Int) (i : Int)) ((xs.drop i).all (inB lo hi))
  | 0, i, h => by
    rw [List.drop_eq_nil_of_le (by omega)]
    refine Ev.step (f := fun _ => some true) (fun k => ?_) (Ev.now _)
    simp only [spec_l1All.l0]; rw [if_neg (by omega)]
  | d + 1, i, h => by
    have hil : i < xs.length := by omega
    rw [List.drop_eq_getElem_cons hil, List.all_cons]
    have hst : ∀ k, spec_l1All.l0 (k+1) lo hi xs (xs.length : Int) (i : Int) = if inB lo hi xs[i] = true then spec_l1All.l0 k lo hi xs (xs.length : Int) ((i + 1 : Nat) : Int) else some false := by
      intro k
      simp only [spec_l1All.l0, l1In_dec, Option.bind_some]
      rw [if_pos (by omega), if_pos (by omega), if_pos (by omega), rd_nat, wrap_id (n := (i : Int) + 1) (by omega) (by omega)]
      have : xs.getD i 0 = xs[i] := by simp [hil]
      rw [this]
      rfl
    cases hg : inB lo hi xs[i] with
    | true => rw [Bool.true_and]; exact Ev.step hst (Ev.ite_pos hg (all_loop lo hi xs hx d (i + 1) (by omega)))
    | false => rw [Bool.false_and]; exact Ev.step hst (Ev.ite_neg (by simp [hg]) (Ev.now _))
/-! ### What was found, told -/
def okP (l : List Int) : Bool := decide (l.length ≤ 200) && l.all (inB 0 999)
theorem spec_picks (l : List Int) (hl : l.length ≤ 1048576) : Ev (fun k => spec_l4Picks.f k l) (okP l) := by
  simp only [spec_l4Picks.f, spec_l1All.f]
  unfold okP
  by_cases h : l.length ≤ 200
  · rw [decide_eq_true h, Bool.true_and]
    have := all_loop 0 999 l hl l.length 0 (by omega)
    rw [List.drop_zero] at this
    exact Ev.ite_pos (by omega) (Ev.bind this (Ev.now _))
  · rw [decide_eq_false h, Bool.false_and]
    exact Ev.ite_neg (by omega) (Ev.now _)
theorem bad_loop (l : List Int) (hl : l.length ≤ 1048576) : ∀ d i : Nat, i + d = l.length → ∃ n : Int, Ev (fun k => slices_IndexFunc_int_int_impl_arePicks_1.l0 k l (l.length : Int) (i : Int)) n ∧ decide (n ≥ 0) = !((l.drop i).all (inB 0 999))
  | 0, i, h => by
    refine ⟨-1, Ev.step (f := fun _ => some (-1)) (fun k => ?_) (Ev.now _), by rw [List.drop_eq_nil_of_le (by omega)]; rfl⟩
    simp only [slices_IndexFunc_int_int_impl_arePicks_1.l0]; rw [if_neg (by omega)]
  | d + 1, i, h => by
    have hi : i < l.length := by omega
    have hst : ∀ k, slices_IndexFunc_int_int_impl_arePicks_1.l0 (k + 1) l (l.length : Int) (i : Int) = if inB 0 999 l[i] = true then slices_IndexFunc_int_int_impl_arePicks_1.l0 k l (l.length : Int) ((i + 1 : Nat) : Int) else some (i : Int) := by
      intro k
      have er : rd l (i : Int) = l[i] := by rw [rd_nat]; simp [hi]
      simp only [slices_IndexFunc_int_int_impl_arePicks_1.l0, impl_arePicks_1.f, in_dec, Option.bind_some]
      rw [if_pos (by omega), if_pos (by omega), if_pos (by omega), er, wrap_id (n := (i : Int) + 1) (by omega) (by omega)]
      unfold inB
      cases decide (0 ≤ l[i] ∧ l[i] ≤ 999) <;> rfl
    rw [List.drop_eq_getElem_cons hi, List.all_cons]
    cases q : inB 0 999 l[i] with
    | false => exact ⟨(i : Int), Ev.step hst (Ev.ite_neg (by simp [q]) (Ev.now _)), by simp⟩
    | true =>
      obtain ⟨n, h1, h2⟩ := bad_loop l hl d (i + 1) (by omega)
      exact ⟨n, Ev.step hst (Ev.ite_pos q h1), by rw [h2, Bool.true_and]⟩
theorem impl_picks (l : List Int) (hl : l.length ≤ 1048576) : Ev (fun k => impl_arePicks.f k l 200) (okP l) := by
  simp only [impl_arePicks.f, slices_ContainsFunc_int_int_impl_arePicks_1.f, slices_IndexFunc_int_int_impl_arePicks_1.f]
  unfold okP
  by_cases h : l.length ≤ 200
  · rw [decide_eq_true h, Bool.true_and]
    obtain ⟨n, h1, h2⟩ := bad_loop l hl l.length 0 (by omega)
    rw [List.drop_zero] at h2
    refine Ev.ite_pos (by omega) (Ev.bind (Ev.bind h1 (Ev.now _)) ?_)
    rw [h2, Bool.not_not]
    exact Ev.now _
  · rw [decide_eq_false h, Bool.false_and]
    exact Ev.ite_neg (by omega) (Ev.now _)
theorem gl_one (b : UInt8) (l : List UInt8) : decide (((gl b [] l).length : Int) > 1) = decide (b ∈ l) := by
  by_cases h : b ∈ l
  · obtain ⟨a, r, e, ha⟩ : ∃ a r, l = a ++ b :: r ∧ b ∉ a := by
      rcases index_byte l b with ⟨_, h2⟩ | ⟨a, r, e, h2, _⟩
      · exact absurd h h2
      · exact ⟨a, r, e, h2⟩
    have hp := gl_pos b r []
    rw [decide_eq_true h, decide_eq_true_eq, e, gl_hit b a [] r ha, List.length_cons]
    omega
  · rw [decide_eq_false h, gl_miss b l [] h]
    rfl
theorem has_mem (l : List UInt8) : Go.Proofs.YtpfbiopcfbokbaaDoor.MAny.has l = (decide ((58 : UInt8) ∈ l) || decide ((10 : UInt8) ∈ l)) := by
  unfold Go.Proofs.YtpfbiopcfbokbaaDoor.MAny.has
  rw [Bool.eq_iff_iff, List.any_eq_true, Bool.or_eq_true, decide_eq_true_eq, decide_eq_true_eq]
  constructor
  · rintro ⟨x, hx, h⟩
    rw [Bool.or_eq_true, beq_iff_eq, beq_iff_eq] at h
    rcases h with rfl | rfl
    · exact Or.inl hx
    · exact Or.inr hx
  · rintro (h | h)
    · exact ⟨_, h, rfl⟩
    · exact ⟨_, h, rfl⟩
def foundT (s : List UInt8) (l : List Int) : List UInt8 := s ++ [58] ++ listT l
/-- What both give: the text, where it is one. -/
def foundR (s : List UInt8) (l : List Int) : ByteArray × Bool := if (okP l && decide (s.length ≤ 100) && !Go.Proofs.YtpfbiopcfbokbaaDoor.MAny.has s && decide ((foundT s l).length ≤ 600)) = true then (bs (foundT s l), true) else ((⟨#[]⟩ : ByteArray), false)
theorem okP_range {l : List Int} (h : okP l = true) : ∀ x ∈ l, 0 ≤ x ∧ x ≤ 999 := by
  unfold okP at h
  rw [Bool.and_eq_true] at h
  exact fun x hx => of_decide_eq_true (List.all_eq_true.mp h.2 x hx)
theorem spec_found (s : List UInt8) (l : List Int) (hs : s.length ≤ 1048576) (hl : l.length ≤ 1048576) : Ev (fun k => spec_FoundText.f k (bs s) l) (foundR s l) := by
  simp only [spec_FoundText.f, bs_size]
  unfold foundR
  refine Ev.bind (spec_picks l hl) ?_
  cases h1 : okP l with
  | false => exact Ev.ite_neg (by simp) (by simpa using Ev.now ((⟨#[]⟩ : ByteArray), false))
  | true =>
    refine Ev.ite_pos rfl ?_
    rw [Bool.true_and]
    by_cases h2 : s.length ≤ 100
    · rw [decide_eq_true h2, Bool.true_and]
      have s1 := split_ev 58 58 rfl s hs
      have s2 := split_ev 10 10 rfl s hs
      refine Ev.ite_neg (by omega) (Ev.bind s1 ?_)
      rw [has_mem]
      have g1 := gl_one 58 s
      have g2 := gl_one 10 s
      simp only [List.length_map]
      by_cases m1 : (58 : UInt8) ∈ s
      · rw [decide_eq_true m1] at g1 ⊢
        exact Ev.ite_pos (of_decide_eq_true g1) (by simpa using Ev.now ((⟨#[]⟩ : ByteArray), false))
      · rw [decide_eq_false m1] at g1 ⊢
        refine Ev.ite_neg (of_decide_eq_false g1) (Ev.bind s2 ?_)
        simp only [List.length_map]
        by_cases m2 : (10 : UInt8) ∈ s
        · rw [decide_eq_true m2] at g2 ⊢
          exact Ev.ite_pos (of_decide_eq_true g2) (by simpa using Ev.now ((⟨#[]⟩ : ByteArray), false))
        · rw [decide_eq_false m2] at g2 ⊢
          have hr := okP_range h1
          have hll := listT_len l (fun x hx => by have := hr x hx; omega)
          have e58 : (⟨#[58]⟩ : ByteArray) = bs [58] := rfl
          have ht : Ev (fun k => spec_l14Text.f k (bs s) l) (bs (foundT s l)) := by
            simp only [spec_l14Text.f]
            rw [e58]
            refine Ev.ite_pos (catOk_bs (by simp; omega)) (Ev.bind (spec_list l hl (fun x hx => by have := hr x hx; omega)) ?_)
            rw [cat_bs]
            refine Ev.ite_pos (catOk_bs (by simp; omega)) ?_
            rw [cat_bs]
            exact Ev.now _
          refine Ev.ite_neg (of_decide_eq_false g2) (Ev.bind ht ?_)
          rw [bs_size]
          simp only [Bool.or_false, Bool.not_false, Bool.true_and, decide_eq_true_eq]
          by_cases h3 : (foundT s l).length ≤ 600
          · rw [if_pos h3]
            exact Ev.ite_neg (by omega) (Ev.bind ht (Ev.now _))
          · rw [if_neg h3]
            exact Ev.ite_pos (by omega) (Ev.now _)
    · rw [decide_eq_false h2, Bool.false_and]
      exact Ev.ite_pos (by omega) (Ev.now _)
theorem impl_found (s : List UInt8) (l : List Int) (hs : s.length ≤ 1048576) (hl : l.length ≤ 1048576) (hr : ∀ x ∈ l, -9223372036854775808 ≤ x ∧ x ≤ 9223372036854775807) : Ev (fun k => impl_FoundText.f k (bs s) l) (foundR s l) := by
  have hll := listT_len l hr
  have e58 : (⟨#[58]⟩ : ByteArray) = bs [58] := rfl
  have hany : strings_ContainsAny.f (bs s) (⟨#[58, 10]⟩ : ByteArray) = some (Go.Proofs.YtpfbiopcfbokbaaDoor.MAny.has s) := by
    unfold strings_ContainsAny.f
    rw [if_pos rfl, if_pos (by rw [bs_size]; omega), data_bs]
  simp only [impl_FoundText.f, hany, Option.bind_some, bs_size]
  rw [e58]
  refine Ev.ite_pos (catOk_bs (by simp; omega)) (Ev.bind (impl_listZ l hl hr) ?_)
  rw [cat_bs]
  refine Ev.ite_pos (catOk_bs (by simp; omega)) (Ev.bind (impl_picks l hl) ?_)
  rw [cat_bs, bs_size]
  unfold foundR
  cases h1 : okP l with
  | false => exact Ev.ite_neg (by simp) (by simpa using Ev.now ((⟨#[]⟩ : ByteArray), false))
  | true =>
    refine Ev.ite_pos rfl ?_
    rw [Bool.true_and]
    by_cases h2 : s.length ≤ 100
    · rw [decide_eq_true h2, Bool.true_and]
      refine Ev.ite_neg (by omega) ?_
      cases h3 : Go.Proofs.YtpfbiopcfbokbaaDoor.MAny.has s with
      | true => exact Ev.ite_pos rfl (by simpa using Ev.now ((⟨#[]⟩ : ByteArray), false))
      | false =>
        refine Ev.ite_neg (by simp) ?_
        simp only [Bool.not_false, Bool.true_and, decide_eq_true_eq]
        by_cases h4 : (foundT s l).length ≤ 600
        · rw [if_pos h4]
          exact Ev.ite_neg (by unfold foundT at h4; omega) (Ev.now _)
        · rw [if_neg h4]
          exact Ev.ite_pos (by unfold foundT at h4; omega) (Ev.now _)
    · rw [decide_eq_false h2, Bool.false_and]
      exact Ev.ite_pos (by omega) (Ev.now _)
theorem bs_ex (s : ByteArray) : ∃ l : List UInt8, s = bs l := ⟨s.data.toList, by apply ByteArray.ext; simp [bs]⟩
theorem okI_range {n : Int} (h : okI n) : -9223372036854775808 ≤ n ∧ n ≤ 9223372036854775807 := by
  have h2 : (decide (IntKind.i64.min ≤ n) && decide (n ≤ IntKind.i64.max)) = true := h
  rw [Bool.and_eq_true, decide_eq_true_eq, decide_eq_true_eq] at h2
  exact h2
theorem FnExactFoundText : laws_FnExactFoundText.Pure2 := by
  rintro ⟨s0, l⟩ ⟨h0, ⟨h1, h1'⟩⟩
  show ∃ k, laws_FnExactFoundText.f k s0 l = some true
  apply Ev.rounds
  obtain ⟨s, rfl⟩ := bs_ex s0
  have hs0 : s.length ≤ 9223372036854775807 := by
    have := h0
    unfold okS at this
    rw [bs_size] at this
    exact this
  simp only [laws_FnExactFoundText.f, laws_szFound.f, bs_size]
  rw [wrap_id (n := 1048576 - (s.length : Int)) (by omega) (by omega)]
  by_cases c1 : 1048576 - (s.length : Int) < 0
  · rw [if_pos c1]; exact Ev.bind (Ev.now _) (Ev.ite_pos (by omega) (Ev.now _))
  · rw [if_neg c1, sz_int l _ (by omega) (by omega) h1]
    simp only [Option.bind_some]
    by_cases c2 : 1048576 - (s.length : Int) - (l.length : Int) < 0
    · rw [if_pos c2, if_pos (by omega)]
      exact Ev.bind (Ev.now _) (Ev.ite_pos (by omega) (Ev.now _))
    · rw [if_neg c2, if_neg c2]
      refine Ev.bind (Ev.now _) (Ev.ite_neg c2 ?_)
      have hs : s.length ≤ 1048576 := by omega
      have hl : l.length ≤ 1048576 := by omega
      have ht : Ev (fun k => laws_toFound.f k (bs s) l) (bs s, l) := Ev.bind (toIntS_ev l hl) (Ev.now _)
      have he : Ev (fun k => laws_eqFound.f k (bs s) l (bs s) l) true := by
        simp only [laws_eqFound.f]
        exact Ev.ite_pos trivial (Ev.bind (eqIntS_ev l hl) (Ev.ite_pos rfl (Ev.now _)))
      have hsp := spec_found s l hs hl
      have him := impl_found s l hs hl (fun x hx => okI_range (h1' x hx))
      refine Ev.bind ht (Ev.bind hsp (Ev.bind ht (Ev.bind him (Ev.ite_pos rfl ?_))))
      refine Ev.congr (fun k => by rw [show ((foundR s l).2 != (foundR s l).2) = false from by simp]) ?_
      refine Ev.step (fun k => by simp only [laws_FnExactFoundText.j0]; rw [if_neg (by simp)]) ?_
      exact Ev.bind ht (Ev.bind he (Ev.ite_pos rfl (Ev.now _)))

end Go.Proofs.YtpfbiopcfbokbaaDoor.Pure
