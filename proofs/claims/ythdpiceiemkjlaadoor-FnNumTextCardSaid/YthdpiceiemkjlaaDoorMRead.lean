/- Texts that are read: strconv.Atoi, strings.Split, strings.Cut in the words of the printed contracts, over the shelf's contracts. -/
import Derived.Shelf.Strconv.AtoiAll
import Derived.Shelf.Strings.Split
import Derived.Shelf.Strings.Cut
import Derived.Lib.AtoiErrMem
import Derived.HandedShaped
import Derived.Handed
import Derived.Shelf.Vars
import Derived.Stop.LaidErr
import Derived.LaidLaws
import Derived.WalkKit
import Derived.Test.YthdpiceiemkjlaaDoorMTxt
import Derived.Test.YthdpiceiemkjlaaDoorMFlt
namespace Go.Proofs.YthdpiceiemkjlaaDoor.MRead
open Go Go.Proofs Go.RowKit Go.Shelf Go.Sort Go.Proofs.YthdpiceiemkjlaaDoorW.PrintWords Go.Proofs.YthdpiceiemkjlaaDoorW.PrintLast Go.Proofs.YthdpiceiemkjlaaDoorW.PrintMore Go.Proofs.YthdpiceiemkjlaaDoor.MTxt
set_option linter.unusedSimpArgs false
/-- What the readers ask of the library's variables: the powers of ten; a number; two errors. -/
def Tabs2 (w : World) : Prop := Tabs w ∧ (∃ m, w.cell? ⟨1, 0, none⟩ = some (.int .i64 m)) ∧ (∃ ev, w.cell? ⟨2, 0, none⟩ = some ev ∧ (ev = .nilIface ∨ ∃ te pe, ev = .iface te pe)) ∧ (∃ ev, w.cell? ⟨3, 0, none⟩ = some ev ∧ (ev = .nilIface ∨ ∃ te pe, ev = .iface te pe))
theorem cell_below {w W : World} {a : Addr} {v : Value} (h : w.cell? a = some v) (hb : Below w.heap.size w W) : W.cell? a = some v := (hb.cell (World.block_lt_of_cell? _ _ h)).trans h
theorem tabs2_below {w W : World} (h : Tabs2 w) (hb : Below w.heap.size w W) : Tabs2 W := by
  obtain ⟨h1, ⟨m, h2⟩, ⟨e1, h3, h3'⟩, ⟨e2, h4, h4'⟩⟩ := h
  exact ⟨tabs_below h1 hb, ⟨m, cell_below h2 hb⟩, ⟨e1, cell_below h3 hb, h3'⟩, ⟨e2, cell_below h4 hb, h4'⟩⟩
/-- What Atoi gives: the number, and whether it is one. -/
def atoiN (l : List UInt8) : Int × Bool := match Lib.atoiAll l with
  | .ok v => (v, true)
  | .range => (Lib.atoiSat l, false)
  | _ => (0, false)
theorem atoi_calls {ρ : Ren} (L : LaysC.n172 Tryd.prog ρ) (h15 : ρ.g 15 = 2) (h16 : ρ.g 16 = 3) (s : ByteArray) (hs : s.size ≤ 140737488355328) (w : World) (hT : Tabs2 w) :
    Calls Tryd.prog (ρ.f 172) #[.string s] w fun e w' => ∃ ev, e = .returned (.tuple #[.int .i64 (atoiN s.data.toList).1, ev]) ∧ Below w.heap.size w w' ∧ (if (atoiN s.data.toList).2 = true then ev = .nilIface else ∃ t N, ev = .iface t (.pointer (some ⟨N, 0, none⟩))) := by
  obtain ⟨_, _, ⟨e1, h3, h3'⟩, ⟨e2, h4, h4'⟩⟩ := hT
  unfold atoiN
  cases hq : Lib.atoiAll s.data.toList with
  | ok v =>
    refine (Any.strconv_Atoi_ok L s (by omega) v hq w).mono ?_
    rintro e w' ⟨rfl, hw⟩
    refine ⟨.nilIface, rfl, ?_, by simp⟩
    rcases hw with rfl | ⟨t, rfl⟩
    · exact Below.refl _ _
    · exact Lib.bytesWorld_below _ _ _
  | range =>
    refine (Any.strconv_Atoi_range L s (by omega) hq e2 w (by rw [h16]; exact h4) h4').mono ?_
    rintro e w' ⟨N, rfl, _, _, hb⟩
    exact ⟨_, rfl, hb, by simp⟩
  | _ =>
    refine (Any.strconv_Atoi_syntax L s (by omega) hq e1 w (by rw [h15]; exact h3) h3').mono ?_
    rintro e w' ⟨N, rfl, _, _, hb⟩
    exact ⟨_, rfl, hb, by simp⟩
theorem cut_calls {ρ : Ren} (L : Lays.n145 Tryd.prog ρ) (h1 : ρ.g 1 = 1) (s sep : ByteArray) (hs : s.size < 4294967281) (w : World) (hT : Tabs2 w) :
    Calls Tryd.prog (ρ.f 145) #[.string s, .string sep] w fun e w' => e = .returned (.tuple #[.string ⟨(Lib.cut s.data.toList sep.data.toList).1.toArray⟩, .string ⟨(Lib.cut s.data.toList sep.data.toList).2.1.toArray⟩, .bool (Lib.cut s.data.toList sep.data.toList).2.2]) ∧ ∃ nd, w' = w.drewN nd := by
  obtain ⟨_, ⟨m, hm⟩, _⟩ := hT
  exact Any.strings_Cut L s sep m w hs (by rw [h1]; exact hm)
theorem R_new {W : World} {e g n : Nat} {w : World} {ok : Nat → Prop} (ys : List ByteArray) (hg : W.heap[g]? = some (.cells (ys.map Value.string).toArray e (0, 0))) (hb : w.heap.size ≤ g) (hn : n = ys.length) (hm : ys.length ≤ maxLen) (hok : ok g) :
    Kd.R Kd.string e W w.heap.size ok (.slice (some ⟨g, 0, none⟩) n n) ys := by
  subst hn
  exact Kd.R_of_own (enc := Value.string) ⟨by simp [encs], .inr ⟨g, ys.length, (ys.map Value.string).toArray, rfl, hb, hg, Nat.le_refl _, hm, by simp, by rw [Nat.mul_one, List.toList_toArray, List.take_of_length_le (by simp)]; rfl⟩⟩ (fun k hk => by simp [Value.ownBlock] at hk; subst hk; exact hok)
/-- The parts that a text falls into at a byte. -/
def splitL (s sep : ByteArray) : List ByteArray := Lib.splitB sep 0 (Lib.countB s sep) s
theorem split_calls {ρ : Ren} (L : Lays.n146 Tryd.prog ρ) (hi9 : (Tryd.prog.info? (ρ.t 9)).map (fun i => (i.zero, i.size, i.bytes)) = some (some (.string ByteArray.empty), 1, 16)) (h1 : ρ.g 1 = 1) (s sep : ByteArray) (hs : s.size < 4294967281) (hsep : 1 ≤ sep.size) (hlen : (splitL s sep).length = Lib.countB s sep + 1) (hc : Lib.countB s sep < 4294967281) (w : World) (hT : Tabs2 w) :
    Calls Tryd.prog (ρ.f 146) #[.string s, .string sep] w fun e w' => ∃ v0_ : Value, e = .returned (v0_) ∧ Kd.R Kd.string (ρ.t 9) w' w.heap.size (fun _ => True) v0_ (splitL s sep) ∧ Below w.heap.size w w' := by
  obtain ⟨_, ⟨m, hm⟩, _⟩ := hT
  refine (Any.strings_Split L hi9 s sep m w hs (by rw [h1]; exact hm) hsep).mono ?_
  rintro e w' ⟨rfl, rfl⟩
  refine ⟨_, rfl, ?_, (Below.refl _ _).alloc (Nat.le_refl _) _⟩
  refine R_new (splitL s sep) ?_ (Nat.le_refl _) hlen.symm (by unfold maxLen; omega) trivial
  show (w.heap.push _)[w.heap.size]? = _
  simp [splitL]
/-- A number of 0 to most, in its one form. -/
def readN (s : ByteArray) (most : Int) : Int × Bool := ((atoiN s.data.toList).1, (atoiN s.data.toList).2 && decide (Lib.itoa (atoiN s.data.toList).1 = s.data.toList) && decide (0 ≤ (atoiN s.data.toList).1 ∧ (atoiN s.data.toList).1 ≤ most))
theorem atoiN_range (l : List UInt8) (h : (atoiN l).2 = true) : -9223372036854775808 ≤ (atoiN l).1 ∧ (atoiN l).1 ≤ 9223372036854775807 := by
  unfold atoiN at h ⊢
  cases hq : Lib.atoiAll l with
  | ok v =>
    simp only [hq]
    unfold Lib.atoiAll at hq
    cases l with
    | nil => cases hq
    | cons c r =>
      simp only at hq
      split at hq
      · cases hq
      · cases hq
      · rename_i u hu
        split at hq
        · cases hq
        · split at hq
          · cases hq
          · injection hq with hq
            subst hq
            split <;> simp_all <;> omega
  | _ => rw [hq] at h; cases h
theorem in_calls (n lo hi : Int) (w : World) : Calls Tryd.prog 59 #[.int .i64 n, .int .i64 lo, .int .i64 hi] w fun e w' => e = .returned (.bool (decide (lo ≤ n ∧ n ≤ hi))) ∧ Below w.heap.size w w' := by
  by_cases h1 : lo ≤ n
  · have d1 : decide (lo ≤ n) = true := decide_eq_true h1
    by_cases h2 : n ≤ hi
    · have d2 : decide (n ≤ hi) = true := decide_eq_true h2
      go_enter Tryd.func59, Tryd.ntmps59
      go_wp2
      go_ret
      exact ⟨by rw [decide_eq_true (show lo ≤ n ∧ n ≤ hi by omega)]; rfl, Below.refl _ _⟩
    · have d2 : decide (n ≤ hi) = false := decide_eq_false h2
      go_enter Tryd.func59, Tryd.ntmps59
      go_wp2
      go_ret
      exact ⟨rfl, Below.refl _ _⟩
  · have d1 : decide (lo ≤ n) = false := decide_eq_false h1
    go_enter Tryd.func59, Tryd.ntmps59
    go_wp2
    go_ret
    exact ⟨rfl, Below.refl _ _⟩
set_option maxHeartbeats 4000000 in
set_option maxRecDepth 100000 in
theorem read_calls {ρ ρ2 : Ren} (L : LaysC.n172 Tryd.prog ρ) (hf : ρ.f 172 = 27) (h15 : ρ.g 15 = 2) (h16 : ρ.g 16 = 3) (L2 : LaysM.n171 Tryd.prog ρ2) (hf2 : ρ2.f 171 = 22) (s : ByteArray) (most : Int) (hs : s.size ≤ 140737488355328) (w : World) (hT : Tabs2 w) :
    Calls Tryd.prog 73 #[.string s, .int .i64 most] w fun e w' => e = .returned (.tuple #[.int .i64 (readN s most).1, .bool (readN s most).2]) ∧ Below w.heap.size w w' := by
  have hA := atoi_calls L h15 h16 s hs w hT
  rw [hf] at hA
  unfold readN
  have hrg := atoiN_range s.data.toList
  generalize hq : atoiN s.data.toList = q at hA hrg
  obtain ⟨n, b⟩ := q
  have e1 : ∀ args w, (callFunc 27 args).run Tryd.prog w = .ok (.enter 27 args) w := enters_of Tryd.func27 (by kernel_rfl) rfl
  have e2 : ∀ args w, (callFunc 22 args).run Tryd.prog w = .ok (.enter 22 args) w := enters_of Tryd.func22 (by kernel_rfl) rfl
  cases b with
  | true =>
    obtain ⟨h0, h1⟩ := hrg rfl
    have hI : ∀ w1, Tabs w1 → Calls Tryd.prog 22 #[.int .i64 n] w1 fun e w' => e = .returned (.string ⟨(Lib.itoa n).toArray⟩) ∧ Below w1.heap.size w1 w' := fun w1 h => by
      have q := itoa_calls L2 n h0 h1 w1 h
      rwa [hf2] at q
    simp only [if_true] at hA
    have hT1 := hT.1
    clear hT hrg
    have e3 : ∀ args w, (callFunc 59 args).run Tryd.prog w = .ok (.enter 59 args) w := enters_of Tryd.func59 (by kernel_rfl) rfl
    by_cases c : Lib.itoa n = s.data.toList
    · have c' : (Lib.itoa n == s.toList) = true := by rw [ByteArray.toList_eq, beq_iff_eq]; exact c
      go_enter Tryd.func73, Tryd.ntmps73
      go_wp2_with (first | (go_at_fn 27; refine hA.mono ?_; rintro e w' ⟨ev, rfl, hb, rfl⟩) | (go_at_fn 22; refine (hI _ (tabs_below hT1 hb)).mono ?_; rintro e w2 ⟨rfl, hb2⟩) | (go_at_fn 59; refine (in_calls _ _ _ _).mono ?_; rintro e w3 ⟨rfl, hb3⟩))
      go_ret2
      refine ⟨?_, below_step (below_step hb hb2) hb3⟩
      rw [decide_eq_true c, Bool.decide_and]
      rfl
    · have c' : (Lib.itoa n == s.toList) = false := by rw [ByteArray.toList_eq, beq_eq_false_iff_ne]; exact c
      go_enter Tryd.func73, Tryd.ntmps73
      go_wp2_with (first | (go_at_fn 27; refine hA.mono ?_; rintro e w' ⟨ev, rfl, hb, rfl⟩) | (go_at_fn 22; refine (hI _ (tabs_below hT1 hb)).mono ?_; rintro e w2 ⟨rfl, hb2⟩) | (go_at_fn 59; refine (in_calls _ _ _ _).mono ?_; rintro e w3 ⟨rfl, hb3⟩))
      go_ret2
      refine ⟨?_, below_step hb hb2⟩
      rw [decide_eq_false c]
      rfl
  | false =>
    simp only [Bool.false_eq_true, if_false] at hA
    go_enter Tryd.func73, Tryd.ntmps73
    go_wp2_with (go_at_fn 27; refine hA.mono ?_; rintro e w' ⟨ev, rfl, hb, t, N, rfl⟩)
    go_ret2
    exact ⟨rfl, hb⟩
/-- The wrap of a row that lists variables, where the world's shape is asked for, too. -/
theorem handed_shaped {H : Type} {enc : TypeId × Value → H} {a : Assume} {C : Checked} {os : Os} {f : FuncId} {fn : Func} {s : ChangeSpec} {conds : List PathCond} {apart fresh handsOn again : Bool} {X : World → Array Value → Prop}
    (hX : ∀ (w w' : World) (args : Array Value), w.heap = w'.heap → X w args → X w' args)
    (own : ownKnob C.prog.godebug = none) (started : os.Started) (noInit : C.prog.inits.idxOf? f = none) (hfn : C.prog.funcs[f]? = some fn)
    (witness : ∃ (w : World) (tape : Tape) (i : Input), w.os = os ∧ (w.forCall tape i).Shaped C.prog ∧ i.vars = [] ∧ Input.okWide C.prog (w.forCall tape i) .any w.heap.size f i ∧
      ((s.pre enc C.prog fn conds apart (w.forCall tape i).memory i.args ∧ X (w.forCall tape i).memory i.args) ∧ sizedMet enc C.prog fn (OpenSpec.ofChange s) apart (w.forCall tape i).memory i.args) ∧ a.holds C.prog (lone (Frame.enter C.prog f i.args .normal) [] (w.forCall tape i)))
    (contract : ∀ (W : World) (base : Nat) (args : Array Value) (ds gs : List (DataW H)) (before : List MemPlace),
      (∀ (j : Nat) t v, fn.params[j]? = some t → args[j]? = some v → Value.okWide C.prog W .any base t v) →
      DataW.Whole enc C.prog fn.params.toList s.vars apart W args.toList ds gs before →
      conds.all (PathCond.test C.prog ⟨fn.params.toList, ds, s.plain.varTypes C.prog, gs⟩) = true →
      (DataW.weightsEach C.prog (fn.params.toList ++ s.plain.varTypes C.prog) (ds ++ gs)).all (· ≤ reachBytes) = true → X W args → W.ShapedOpen C.prog →
      a.holds C.prog (lone (Frame.enter C.prog f args .normal) [] W) →
      Calls C.prog f args W fun e W' => ∃ v, e = .returned v ∧ s.post enc C.prog fn apart fresh handsOn again W args v W') :
    ReturnsInHanded a C os f .any (fun w args => (s.pre enc C.prog fn conds apart w args ∧ X w args) ∧ sizedMet enc C.prog fn (OpenSpec.ofChange s) apart w args) (s.post enc C.prog fn apart fresh handsOn again) := by
  refine returnsInHanded_of_calls own started noInit witness ?_
  intro w tape i _ hsh _ hok hpre hholds
  obtain ⟨_, _, _, fn', hfn', _, _, _, _, hval⟩ := hok
  have e : fn' = fn := Option.some.inj (hfn'.symm.trans hfn)
  subst e
  obtain ⟨⟨⟨ds, gs, before, hw, hc⟩, hx⟩, hz⟩ := hpre
  have hw' := DataW.Whole.of_heap (w' := w.forCall tape i) (by rfl) hw
  refine (contract (w.forCall tape i) w.heap.size i.args ds gs before hval hw' hc (hz.weights hw) (hX _ _ _ (by rfl) hx) hsh hholds).mono fun e W' ⟨v, he, hp⟩ => ?_
  subst he
  exact ChangeSpec.post_blind hp
theorem star : "*" ++ "errors.errorString" = "*errors.errorString" := by decide
theorem errRow (u : TypeId) (h : Tryd.prog.typeName? 3 u = some "*errors.errorString") : u = 124 :=
  typeName_ptr_named (nm := "errors.errorString") (by rw [star]; kernel_rfl) (by kernel_rfl) (by decide) u (by rw [star]; exact h)
/-- The variable's cell, where the row lists it as an error. -/
theorem err_cell {W : World} {n : String} {text : List UInt8} {r : List (String × DataW Unit)} {g : Nat} (h : laidMet Tryd.prog ((n, .iface "*errors.errorString" (.ptr (.agg [.lit (.string text)]))) :: r) W) (hg : Tryd.prog.globalNamed n = some g) (ht : (Tryd.prog.globals[g]?).map (·.type) = some 50) :
    ∃ ev, W.cell? ⟨g, 0, none⟩ = some ev ∧ (ev = .nilIface ∨ ∃ te pe, ev = .iface te pe) := by
  obtain ⟨a, s, hv, _⟩ := laid_sentinel h hg ht Tryd.underlying50 errRow Tryd.underlying124 Tryd.underlying126 rfl rfl Tryd.underlying9 (by kernel_rfl) (by kernel_rfl)
  have := World.var?_cell hg hv 0
  exact ⟨_, by simpa using this, Or.inr ⟨_, _, rfl⟩⟩
theorem max_cell {W : World} (h : W.ShapedOpen Tryd.prog) : ∃ m, W.cell? ⟨1, 0, none⟩ = some (.int .i64 m) :=
  cell_of_shapedOpen_int (t := 3) (zero := #[.int .i64 0]) h (by decide +kernel) (by kernel_rfl) rfl (by kernel_rfl) (by kernel_rfl) Tryd.underlying3
end Go.Proofs.YthdpiceiemkjlaaDoor.MRead
