import Derived.Shelf.Strings.IndexAnyAll
import Derived.Shelf.Small.Utf8
import Derived.Laws.Runes
import Derived.Scope
import Derived.Shelf.RegionOpenPlain
namespace Go.Proofs.YtpfbiopcfbokbaaDoor.MAny
open Go Go.Proofs Go.Shelf Go.RowKit Go.Lib
variable {P : Program} {ρ : Ren}
def big (b : ByteArray) : Prop := 2 ≤ b.size ∧ b.size ≤ 4 ∧ ∀ x ∈ b.data.toList, 128 ≤ x.toNat
theorem big_enc (r : Int) (h : 128 ≤ r) : big (Utf8.encode r) := by
  unfold Utf8.encode
  simp only
  generalize hc : (if Utf8.valid r = true then r.toNat else Utf8.runeError) = c
  have hcb : 128 ≤ c ∧ c ≤ 1114111 := by
    unfold Utf8.valid at hc
    split at hc
    · rename_i q
      simp only [Bool.or_eq_true, Bool.and_eq_true, decide_eq_true_eq] at q
      omega
    · subst hc; decide
  rw [if_neg (show ¬ c < 0x80 by omega)]
  split
  · refine ⟨by show 2 ≤ 2; decide, by show 2 ≤ 4; decide, fun x hx => ?_⟩
    have hx2 : x ∈ [UInt8.ofNat (0xC0 + c / 64), UInt8.ofNat (0x80 + c % 64)] := hx
    simp only [List.mem_cons, List.not_mem_nil, or_false] at hx2
    rcases hx2 with rfl | rfl <;> rw [UInt8.toNat_ofNat'] <;> omega
  · split
    · refine ⟨by show 2 ≤ 3; decide, by show 3 ≤ 4; decide, fun x hx => ?_⟩
      have hx2 : x ∈ [UInt8.ofNat (0xE0 + c / 4096), UInt8.ofNat (0x80 + c / 64 % 64), UInt8.ofNat (0x80 + c % 64)] := hx
      simp only [List.mem_cons, List.not_mem_nil, or_false] at hx2
      rcases hx2 with rfl | rfl | rfl <;> rw [UInt8.toNat_ofNat'] <;> omega
    · refine ⟨by show 2 ≤ 4; decide, by show 4 ≤ 4; decide, fun x hx => ?_⟩
      have hx2 : x ∈ [UInt8.ofNat (0xF0 + c / 262144), UInt8.ofNat (0x80 + c / 4096 % 64), UInt8.ofNat (0x80 + c / 64 % 64), UInt8.ofNat (0x80 + c % 64)] := hx
      simp only [List.mem_cons, List.not_mem_nil, or_false] at hx2
      rcases hx2 with rfl | rfl | rfl | rfl <;> rw [UInt8.toNat_ofNat'] <;> omega
/-- A rune whose first byte is not ASCII: it is not ASCII, and no byte of it is. -/
theorem dec_ge (s : ByteArray) (pos : Nat) (h : pos < s.size) (ha : 128 ≤ (s[pos]'h).toNat) :
    128 ≤ (Utf8.decode s pos).1 ∧ (Utf8.decode s pos).1 ≤ 1114111 ∧ 1 ≤ (Utf8.decode s pos).2 ∧ ∀ j, 0 < j → j < (Utf8.decode s pos).2 → ∃ hj : pos + j < s.size, 128 ≤ (s[pos + j]'hj).toNat := by
  have e : (s.get! (pos + 0)).toNat = (s[pos]'h).toNat := by
    congr 1
    show s.get! pos = _
    simp [ByteArray.get!, getElem!_pos, h]
    rfl
  have hb : (s[pos]'h).toNat < 256 := UInt8.toNat_lt _
  have g : ∀ k, pos + k < s.size → (s.get! (pos + k)).toNat / 64 = 2 → ∃ hj : pos + k < s.size, 128 ≤ (s[pos + k]'hj).toNat := by
    intro k hk hq
    refine ⟨hk, ?_⟩
    have e2 : (s.get! (pos + k)).toNat = (s[pos + k]'hk).toNat := by
      congr 1
      simp [ByteArray.get!, getElem!_pos, hk]
      rfl
    omega
  have hre : (Utf8.runeError : Nat) = 65533 := rfl
  unfold Utf8.decode
  simp only [e]
  generalize hb0 : (s[pos]'h).toNat = b0 at ha hb
  rw [if_neg (by omega)]
  split
  · rename_i q
    simp only [Bool.and_eq_true, beq_iff_eq, decide_eq_true_eq] at q
    split
    · refine ⟨by omega, by omega, by simp, fun j h0 h1 => ?_⟩
      obtain rfl : j = 1 := by simp only at h1; omega
      exact g 1 q.2.1 q.2.2
    · exact ⟨by rw [hre]; decide, by rw [hre]; decide, by decide, fun j h0 h1 => by simp only at h1; omega⟩
  · split
    · rename_i q
      simp only [Bool.and_eq_true, beq_iff_eq, decide_eq_true_eq] at q
      split
      · rename_i q2
        simp only [Bool.and_eq_true, decide_eq_true_eq] at q2
        refine ⟨by omega, by omega, by simp, fun j h0 h1 => ?_⟩
        have : j = 1 ∨ j = 2 := by simp only at h1; omega
        rcases this with rfl | rfl
        · exact g 1 q.1.2.1 q.1.2.2
        · exact g 2 q.2.1 q.2.2
      · exact ⟨by rw [hre]; decide, by rw [hre]; decide, by decide, fun j h0 h1 => by simp only at h1; omega⟩
    · split
      · rename_i q
        simp only [Bool.and_eq_true, beq_iff_eq, decide_eq_true_eq] at q
        split
        · rename_i q2
          simp only [Bool.and_eq_true, decide_eq_true_eq, Utf8.valid, Bool.or_eq_true] at q2
          refine ⟨by omega, by omega, by simp, fun j h0 h1 => ?_⟩
          have : j = 1 ∨ j = 2 ∨ j = 3 := by simp only at h1; omega
          rcases this with rfl | rfl | rfl
          · exact g 1 q.1.1.2.1 q.1.1.2.2
          · exact g 2 q.1.2.1 q.1.2.2
          · exact g 3 q.2.1 q.2.2
        · exact ⟨by rw [hre]; decide, by rw [hre]; decide, by decide, fun j h0 h1 => by simp only at h1; omega⟩
      · exact ⟨by rw [hre]; decide, by rw [hre]; decide, by decide, fun j h0 h1 => by simp only at h1; omega⟩
def cn : ByteArray := ⟨#[58, 10]⟩
set_option maxHeartbeats 8000000 in
set_option maxRecDepth 1000000 in
/-- strings.IndexRune of ":\n" at a rune that is not ASCII: it is not there. -/
theorem indexRune_far (L : Lays.n153 P ρ) (r : Int) (h0 : 128 ≤ r) (w : World) :
    Calls P (ρ.f 152) #[.string cn, .int .i32 r] w fun e w' => e = .returned (.int .i64 (-1)) ∧ Below w.heap.size w w' := by
  have t3 := L.t3; have a3 := L.a3; have z3 := L.z3; have v3 := L.v3
  have t4 := L.t4; have a4 := L.a4; have z4 := L.z4; have v4 := L.v4
  have t5 := L.t5; have a5 := L.a5; have z5 := L.z5; have v5 := L.v5
  have t9 := L.t9; have a9 := L.a9; have z9 := L.z9; have v9 := L.v9
  have t21 := L.t21; have a21 := L.a21; have z21 := L.z21; have v21 := L.v21
  have mixed := L.mixed
  have e137 : ∀ args w, (callFunc (ρ.f 137) args).run P w = .ok (.enter (ρ.f 137) args) w := enters_of L.f137 (by kernel_rfl) rfl
  have e119 : ∀ args w, (callFunc (ρ.f 119) args).run P w = .ok (.enter (ρ.f 119) args) w := enters_of L.f119 (by kernel_rfl) rfl
  have c1 : decide ((0 : Int) ≤ r) = true := decide_eq_true (by omega)
  have c2 : decide (r < 128) = false := decide_eq_false (by omega)
  by_cases c3 : r = 65533
  · have c3b : (r == 65533) = true := beq_iff_eq.mpr c3
    go_enter L.f152, Body.n152_ntmps ρ
    go_wp2
    go_loopg [5, 6] 2 (fun g s5 s6 wx => ∃ i : Nat, i + g = 2 ∧ wx = w.iter cn i)
    case atStart => exact ⟨0, by omega, rfl⟩
    case round =>
      obtain ⟨i, hig, rfl⟩ := hrel
      have : i = 0 ∨ i = 1 ∨ i = 2 := by omega
      rcases this with rfl | rfl | rfl
      · have hnx := fun ty => run_next_ascii (P := P) w cn 0 ty (by decide) (by decide)
        have hq : (((cn[0]'(by decide)).toNat : Int) == 65533) = false := by decide
        go_wp2
        go_roundg 1
        case measure => omega
        case rel => exact ⟨1, by omega, rfl⟩
      · have hnx := fun ty => run_next_ascii (P := P) w cn 1 ty (by decide) (by decide)
        have hq : (((cn[1]'(by decide)).toNat : Int) == 65533) = false := by decide
        go_wp2
        go_roundg 0
        case measure => omega
        case rel => exact ⟨2, by omega, rfl⟩
      · have hnx := fun ty => run_next_end (P := P) w cn 2 ty (by decide)
        go_wp2
        go_ret
        exact ⟨rfl, (Below.refl _ _).alloc (Nat.le_refl _) _⟩
  · have c3b : (r == 65533) = false := beq_eq_false_iff_ne.mpr c3
    cases hv : Lib.validRune r with
    | false =>
      go_enter L.f152, Body.n152_ntmps ρ
      go_wp2_with (go_at_fn (ρ.f 119); refine (Any.utf8_ValidRune { L with } _ _).mono ?_; rintro e w' ⟨rfl, hw⟩; rw [hw, hv])
      go_ret
      exact ⟨rfl, Below.refl _ _⟩
    | true =>
      obtain ⟨hb2, hb4, hbx⟩ := big_enc r h0
      have hcv : ∀ w : World, (convert (ρ.t 21) (ρ.t 9) (.int .i32 r)).run P w = .ok (.string (Utf8.encode r)) w := fun w => run_convert_int_string w _ _ _ _ (by rw [L.t21]; rfl) L.t9
      generalize Utf8.encode r = rs at hb2 hb4 hbx hcv
      go_enter L.f152, Body.n152_ntmps ρ
      go_wp2_with (go_at_fn (ρ.f 119); refine (Any.utf8_ValidRune { L with } _ _).mono ?_; rintro e w' ⟨rfl, hw⟩; rw [hw, hv])
      refine wp_scope_straight ?_
      by_cases hz : rs.size = 2
      · obtain ⟨b0, b1, rfl⟩ : ∃ b0 b1 : UInt8, rs = ⟨#[b0, b1]⟩ := by
          obtain ⟨⟨l⟩⟩ := rs
          match l, hz with
          | [b0, b1], _ => exact ⟨b0, b1, rfl⟩
        have hb1 : 128 ≤ b1.toNat := hbx b1 (by simp)
        have hne : (((cn[1]'(by decide)).toNat : Int) != (((⟨#[b0, b1]⟩ : ByteArray)[1]'(by show 1 < 2; decide)).toNat : Int)) = true := bne_iff_ne.mpr (by show ((10 : Nat) : Int) ≠ (b1.toNat : Int); omega)
        go_wp2
        go_loopg [9, 10, 11, 12] 0 (fun g s9 s10 s11 s12 wx => s9 = .int .i64 1 ∧ wx = w)
        case atStart => exact ⟨rfl, rfl⟩
        case round =>
          obtain ⟨rfl, rfl⟩ := hrel
          have hlt : decide ((1 : Int) < (cn.size : Int)) = true := rfl
          have hix : ∀ b, decide (Lib.indexByte (List.take (cn.size - 2) (List.drop 2 cn.data.toList)) b < 0) = true := fun b => rfl
          have hp1 : (1 : Int) < (cn.size : Int) := of_decide_eq_true hlt
          have hp2 : (1 : Int) < ((⟨#[b0, b1]⟩ : ByteArray).size : Int) := by show (1 : Int) < 2; omega
          go_wp2
          refine wp_scope_straight ?_
          go_wp2
          go_region_o
          go_wp2
          go_region_with_o (refine (Any.strings_IndexByte { L with } _ _ _).mono ?_; rintro e w' ⟨rfl, rfl⟩)
          all_goals (
            go_wp2
            simp only [Exit.noGoto, Exit.inBlock, Exit.then]
            go_ret
            exact ⟨rfl, ⟨rfl, rfl, rfl, Nat.le_refl _, fun _ _ => rfl⟩⟩)
      · have hz2 : 3 ≤ rs.size := by omega
        go_wp2
        go_loopg [9, 10, 11, 12] 0 (fun g s9 s10 s11 s12 wx => s9 = .int .i64 ((rs.size : Int) - 1) ∧ wx = w)
        case atStart => exact ⟨rfl, rfl⟩
        case round =>
          obtain ⟨rfl, rfl⟩ := hrel
          have hlt : decide ((rs.size : Int) - 1 < (cn.size : Int)) = false := decide_eq_false (by show ¬ ((rs.size : Int) - 1 < 2); omega)
          go_wp2
          simp only [Exit.noGoto, Exit.inBlock]
          go_ret
          exact ⟨rfl, Below.refl _ _⟩
theorem next_at {P : Program} (W : World) (g : Nat) (s : ByteArray) (pos : Nat) (ty : TypeId) (hg : W.heap[g]? = some (.stringIter s pos)) (h : pos < s.size) :
    (Instr.next (.pointer (some ⟨g, 0, none⟩)) true ty).run P W = .ok (.tuple #[.bool true, .int .i64 pos, .int .i32 ((Utf8.decode s pos).1 : Int)]) { W with heap := W.heap.setIfInBounds g (.stringIter s (pos + (Utf8.decode s pos).2)) } := by
  simp only [Instr.next, getObj, setObj, Sem.run_bind, Sem.run, hg, Result.andThen, h, if_true]
  simp [goInt]
theorem next_over {P : Program} (W : World) (g : Nat) (s : ByteArray) (pos : Nat) (ty : TypeId) (hg : W.heap[g]? = some (.stringIter s pos)) (h : ¬ pos < s.size) :
    (Instr.next (.pointer (some ⟨g, 0, none⟩)) true ty).run P W = .ok (.tuple #[.bool false]) W := by
  simp [Instr.next, getObj, Sem.run, hg, h]
theorem set_below {w W : World} {g : Nat} {o : Obj} (h : Below w.heap.size w W) (hg : w.heap.size ≤ g) : Below w.heap.size w { W with heap := W.heap.setIfInBounds g o } := by
  refine ⟨h.os, h.tape, h.output, by simpa using h.size, fun k hk => ?_⟩
  rw [← h.block k hk]
  show (W.heap.setIfInBounds g o)[k]? = _
  rw [Array.getElem?_setIfInBounds_ne (by omega)]
theorem lt_get {w : World} {g : Nat} {o : Obj} (h : w.heap[g]? = some o) : g < w.heap.size := by
  by_cases c : g < w.heap.size
  · exact c
  · rw [Array.getElem?_eq_none (by omega)] at h; cases h
theorem far_byte {b : UInt8} (h : 128 ≤ b.toNat) : (b == 58 || b == 10) = false := by
  have h1 : b ≠ 58 := by rintro rfl; exact absurd h (by decide)
  have h2 : b ≠ 10 := by rintro rfl; exact absurd h (by decide)
  simp [h1, h2]
/-- Whether one of the two bytes is there. -/
def has (l : List UInt8) : Bool := l.any fun b => b == 58 || b == 10
theorem has_cn (b : UInt8) : cn.data.toList.contains b = (b == 58 || b == 10) := by
  show ([58, 10] : List UInt8).contains b = _
  simp [List.contains, List.elem]
  cases b == 58 <;> cases b == 10 <;> rfl
theorem below_trans' {w W W' : World} (h : Below w.heap.size w W) (hb : Below W.heap.size W W') : Below w.heap.size w W' :=
  ⟨hb.os.trans h.os, hb.tape.trans h.tape, hb.output.trans h.output, Nat.le_trans h.size hb.size, fun k hk => (hb.block k (by have := h.size; omega)).trans (h.block k hk)⟩
set_option maxHeartbeats 8000000 in
set_option maxRecDepth 1000000 in
theorem short (L : Lays.n153 P ρ) (s : ByteArray) (w : World) (h8 : s.size ≤ 8) :
    Calls P (ρ.f 153) #[.string s, .string cn] w fun e w' => (∃ n : Int, e = .returned (.int .i64 n) ∧ decide (0 ≤ n) = has s.data.toList) ∧ Below w.heap.size w w' := by
  have hemp : cn.toList.isEmpty = false := by rw [Lib.toList_data]; rfl
  have hn1 : ((cn.size : Int) == 1) = false := rfl
  have h8z : decide ((8 : Int) < (s.size : Int)) = false := decide_eq_false (by omega)
  have t3 := L.t3; have a3 := L.a3; have z3 := L.z3; have v3 := L.v3
  have t4 := L.t4; have a4 := L.a4; have z4 := L.z4; have v4 := L.v4
  have t5 := L.t5; have a5 := L.a5; have z5 := L.z5; have v5 := L.v5
  have t9 := L.t9; have a9 := L.a9; have z9 := L.z9; have v9 := L.v9
  have t21 := L.t21; have a21 := L.a21; have z21 := L.z21; have v21 := L.v21
  have e152 : ∀ args w, (callFunc (ρ.f 152) args).run P w = .ok (.enter (ρ.f 152) args) w := enters_of L.f152 (by kernel_rfl) rfl
  have e226 : ∀ args w, (callFunc (ρ.f 226) args).run P w = .ok (.enter (ρ.f 226) args) w := enters_of L.f226 (by kernel_rfl) rfl
  go_enter L.f153, Body.n153_ntmps ρ
  go_wp2_with (go_at_fn (ρ.f 226); refine (Any.strings_shouldUseASCIISet { L with } _ _).mono ?_; rintro e w' ⟨rfl, hw⟩; rw [hw, h8z])
  have HIq : (w.iter s 0).heap[w.heap.size]? = some (.stringIter s 0) := World.iter_heap w s 0
  have HBq : Below w.heap.size w (w.iter s 0) := (Below.refl _ _).alloc (Nat.le_refl _) _
  go_loopg [9, 10] s.size (fun g _ _ wx => ∃ i : Nat, Aside (i + g = s.size) ∧ Aside (wx.heap[w.heap.size]? = some (.stringIter s i)) ∧ Aside (Below w.heap.size w wx) ∧ Aside (has (s.data.toList.take i) = false))
  case atStart => exact ⟨0, by show 0 + s.size = s.size; omega, HIq, HBq, rfl⟩
  case round =>
    clear HIq HBq
    obtain ⟨i, hig, HI, HB, HN⟩ := hrel
    by_cases hi : i < s.size
    · have hxl : s.data.toList[i]? = some (s[i]'hi) := Lib.data_getElem? s i hi
      have htk : ∀ k, s.data.toList.take (i + (k + 1)) = s.data.toList.take i ++ (s[i]'hi) :: (s.data.toList.drop (i + 1)).take k := by
        intro k
        have hl : i < s.data.toList.length := by rw [← Lib.size_eq]; exact hi
        have e1 : s.data.toList.drop i = (s[i]'hi) :: s.data.toList.drop (i + 1) := by
          rw [List.drop_eq_getElem_cons hl]
          congr 1
        rw [List.take_add, e1, List.take_succ_cons]
      have hnx0 := fun ty => next_at (P := P) wr w.heap.size s i ty HI.out hi
      have HI1 : ({ wr with heap := wr.heap.setIfInBounds w.heap.size (.stringIter s (i + (Utf8.decode s i).2)) } : World).heap[w.heap.size]? = some (.stringIter s (i + (Utf8.decode s i).2)) := by
        show (wr.heap.setIfInBounds w.heap.size _)[w.heap.size]? = _
        rw [Array.getElem?_setIfInBounds_self_of_lt (lt_get HI.out)]
      have HB1 : Below w.heap.size w { wr with heap := wr.heap.setIfInBounds w.heap.size (.stringIter s (i + (Utf8.decode s i).2)) } := set_below HB.out (Nat.le_refl _)
      obtain ⟨wn, hwn⟩ : ∃ wn : World, wn = { wr with heap := wr.heap.setIfInBounds w.heap.size (.stringIter s (i + (Utf8.decode s i).2)) } := ⟨_, rfl⟩
      rw [← hwn] at HI1 HB1
      simp only [← hwn] at hnx0
      clear HI HB hwn
      by_cases ha : (s[i]'hi).toNat < 128
      · rw [decode_ascii s i hi ha] at hnx0 HI1
        simp only at hnx0 HI1
        have HI : Aside (wn.heap[w.heap.size]? = some (.stringIter s (i + 1))) := HI1
        have HB : Aside (Below w.heap.size w wn) := HB1
        clear HI1 HB1
        have htk0 := htk 0
        clear htk
        obtain ⟨x, hx⟩ : ∃ x : UInt8, s[i]'hi = x := ⟨_, rfl⟩
        rw [hx] at hnx0 ha htk0 hxl
        have HT : Aside (s.data.toList.take (i + 1) = s.data.toList.take i ++ [x]) := htk0
        have HX : Aside (s.data.toList[i]? = some x) := hxl
        clear htk0 hxl hx
        have hcon := Lib.contains_iff_indexByte cn.data.toList x
        have hback : ((x.toNat : Int)).toNat.toUInt8 = x := by simp
        cases hin : cn.data.toList.contains x
        · rw [hin] at hcon
          have hlt : ¬ ((0 : Int) ≤ Lib.indexByte cn.data.toList x) := of_decide_eq_false hcon.symm
          clear hcon
          go_wp2_with (go_at_fn (ρ.f 152); refine (Any.strings_IndexRune_ascii { L with } _ _ _ (by omega) (by omega)).mono ?_; rintro e w' ⟨rfl, hw⟩; rw [hw, hback])
          go_roundg (s.size - (i + 1))
          case measure => have := hig.out; omega
          case rel => exact ⟨i + 1, by have := hig.out; show i + 1 + _ = _; omega, HI.out, HB.out, by show has _ = false; rw [HT.out]; unfold has; rw [List.any_append]; rw [has_cn] at hin; have := HN.out; unfold has at this; rw [this]; simpa using hin⟩
        · rw [hin] at hcon
          have hge : (0 : Int) ≤ Lib.indexByte cn.data.toList x := of_decide_eq_true hcon.symm
          clear hcon
          go_wp2_with (go_at_fn (ρ.f 152); refine (Any.strings_IndexRune_ascii { L with } _ _ _ (by omega) (by omega)).mono ?_; rintro e w' ⟨rfl, hw⟩; rw [hw, hback])
          go_ret
          refine ⟨⟨_, rfl, ?_⟩, HB.out⟩
          rw [decide_eq_true (by omega)]
          symm
          unfold has
          rw [List.any_eq_true]
          exact ⟨x, List.mem_of_getElem? HX.out, by rw [← has_cn]; exact hin⟩
      · obtain ⟨d1, d2, d3, d4⟩ := dec_ge s i hi (by omega)
        generalize Utf8.decode s i = dd at d1 d2 d3 d4 hnx0 HI1
        obtain ⟨rr, nn⟩ := dd
        simp only at d1 d2 d3 d4 hnx0 HI1
        have HI : Aside (wn.heap[w.heap.size]? = some (.stringIter s (i + nn))) := HI1
        have HB : Aside (Below w.heap.size w wn) := HB1
        clear HI1 HB1
        obtain ⟨k, rfl⟩ : ∃ k, nn = k + 1 := ⟨nn - 1, by omega⟩
        have hle : i + (k + 1) ≤ s.size := by
          by_cases k0 : k = 0
          · omega
          · obtain ⟨hj, _⟩ := d4 k (by omega) (by omega)
            omega
        have hno : has (s.data.toList.take (i + (k + 1))) = false := by
          rw [htk k]
          unfold has
          rw [List.any_append]
          have h1 := HN.out
          unfold has at h1
          rw [h1, Bool.false_or, List.any_cons]
          have hb0 : ((s[i]'hi) == 58 || (s[i]'hi) == 10) = false := far_byte (by omega)
          rw [hb0, Bool.false_or, List.any_eq_false]
          intro y hy
          obtain ⟨j, hj, rfl⟩ := List.getElem_of_mem hy
          rw [List.length_take] at hj
          have hl : s.data.toList.length = s.size := (Lib.size_eq s).symm
          rw [List.getElem_take, List.getElem_drop]
          obtain ⟨hj2, hj3⟩ := d4 (j + 1) (by omega) (by omega)
          have e2 : s.data.toList[i + 1 + j]'(by omega) = s[i + (j + 1)]'hj2 := by
            have : i + 1 + j = i + (j + 1) := by omega
            simp only [this]
            rfl
          rw [e2]
          simpa using far_byte hj3
        have HN2 : Aside (has (s.data.toList.take (i + (k + 1))) = false) := hno
        have hge : 128 ≤ (rr : Int) := by omega
        clear hno htk d4 hxl HN
        go_wp2_with (go_at_fn (ρ.f 152); refine (indexRune_far L _ hge _).mono ?_; rintro e wz ⟨rfl, hb⟩; have n1_ : Aside (wz.heap[w.heap.size]? = some (.stringIter s (i + (k + 1)))) := (hb.block _ (lt_get HI.out)).trans HI.out; have n2_ : Aside (Below w.heap.size w wz) := below_trans' HB.out hb; clear HI HB hb; have HI := n1_; have HB := n2_; clear n1_ n2_)
        go_roundg (s.size - (i + (k + 1)))
        case measure => have := hig.out; omega
        case rel => exact ⟨i + (k + 1), by have := hig.out; show i + (k + 1) + _ = _; omega, HI, HB, HN2⟩
    · have hnx := fun ty => next_over (P := P) wr w.heap.size s i ty HI.out hi
      go_wp2
      go_ret
      refine ⟨⟨_, rfl, ?_⟩, HB.out⟩
      have h1 := HN.out
      rw [List.take_of_length_le (by rw [← Lib.size_eq]; omega)] at h1
      rw [h1]
      rfl
end Go.Proofs.YtpfbiopcfbokbaaDoor.MAny
