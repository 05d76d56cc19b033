/- Words for float64 values (as natural numbers, their bits): what Go's operations on them give, as plain functions, and that the walk may take them; a row of floats that is read. No statement of the program. -/
import Derived.Test.YthdpiceiemkjlaaProg
import Derived.Test.YthdpiceiemkjlaaWMore
import Derived.Laws.Externs
import Derived.Laws.Concat
import Derived.Laws.Strings2
import Derived.Laws.Strings3
import Derived.KernelRfl
namespace Go.Proofs.YthdpiceiemkjlaaW.PrintWords
open Go.RowKit
set_option linter.unusedSimpArgs false

def feq (a b : Nat) : Bool := Ieee.double.order a b == some .eq
def flt (a b : Nat) : Bool := Ieee.double.order a b == some .lt
def fle (a b : Nat) : Bool := Ieee.double.order a b == some .lt || Ieee.double.order a b == some .eq
def fgt (a b : Nat) : Bool := Ieee.double.order a b == some .gt
def fge (a b : Nat) : Bool := Ieee.double.order a b == some .gt || Ieee.double.order a b == some .eq
def faddOk (a b : Nat) : Bool := (Ieee.double.add a b).isSome
def fadd (a b : Nat) : Nat := (Ieee.double.add a b).getD 0
def fsubOk (a b : Nat) : Bool := (Ieee.double.sub a b).isSome
def fsub (a b : Nat) : Nat := (Ieee.double.sub a b).getD 0
def fmulOk (a b : Nat) : Bool := (Ieee.double.mul a b).isSome
def fmul (a b : Nat) : Nat := (Ieee.double.mul a b).getD 0
def fdivOk (a b : Nat) : Bool := (Ieee.double.div a b).isSome
def fdiv (a b : Nat) : Nat := (Ieee.double.div a b).getD 0
def fneg (a : Nat) : Nat := Op.negFloat .f64 a
def fofi (n : Int) : Nat := FloatKind.f64.nearest n
/-- The whole number that a float is cut to, where it is one of int's. -/
def fintO (b : Nat) : Option Int := match (Ieee.double.read b).toInt .zero with
  | some n => if -9223372036854775808 ≤ n ∧ n ≤ 9223372036854775807 then some n else none
  | none => none
def fintOk (b : Nat) : Bool := (fintO b).isSome
def fint (b : Nat) : Int := (fintO b).getD 0
def ftruncOk (b : Nat) : Bool := !(Ieee.double.read b).isNaN
def ftrunc (b : Nat) : Nat := Ieee.double.write ((Ieee.double.read b).integral .zero)

@[go_sem] theorem binOp_feq (t : TypeId) (a b : Nat) : binOp .eql t (.float .f64 a) (.float .f64 b) = pure (.bool (feq a b)) := by simp [binOp, Op.floatCmp, feq, FloatKind.format]
@[go_sem] theorem binOp_fne (t : TypeId) (a b : Nat) : binOp .neq t (.float .f64 a) (.float .f64 b) = pure (.bool (!feq a b)) := by simp [binOp, Op.floatCmp, feq, FloatKind.format, bne]
@[go_sem] theorem binOp_flt (t : TypeId) (a b : Nat) : binOp .lss t (.float .f64 a) (.float .f64 b) = pure (.bool (flt a b)) := by simp [binOp, Op.floatCmp, flt, FloatKind.format]
@[go_sem] theorem binOp_fle (t : TypeId) (a b : Nat) : binOp .leq t (.float .f64 a) (.float .f64 b) = pure (.bool (fle a b)) := by simp [binOp, Op.floatCmp, fle, FloatKind.format]
@[go_sem] theorem binOp_fgt (t : TypeId) (a b : Nat) : binOp .gtr t (.float .f64 a) (.float .f64 b) = pure (.bool (fgt a b)) := by simp [binOp, Op.floatCmp, fgt, FloatKind.format]
@[go_sem] theorem binOp_fge (t : TypeId) (a b : Nat) : binOp .geq t (.float .f64 a) (.float .f64 b) = pure (.bool (fge a b)) := by simp [binOp, Op.floatCmp, fge, FloatKind.format]
@[go_sem] theorem binOp_fadd (t : TypeId) (a b : Nat) (h : faddOk a b = true) : binOp .add t (.float .f64 a) (.float .f64 b) = pure (.float .f64 (fadd a b)) := by
  obtain ⟨r, hr⟩ := Option.isSome_iff_exists.1 h
  simp [binOp, Op.floatArith, fadd, FloatKind.format, hr]
@[go_sem] theorem binOp_fsub (t : TypeId) (a b : Nat) (h : fsubOk a b = true) : binOp .sub t (.float .f64 a) (.float .f64 b) = pure (.float .f64 (fsub a b)) := by
  obtain ⟨r, hr⟩ := Option.isSome_iff_exists.1 h
  simp [binOp, Op.floatArith, fsub, FloatKind.format, hr]
@[go_sem] theorem binOp_fmul (t : TypeId) (a b : Nat) (h : fmulOk a b = true) : binOp .mul t (.float .f64 a) (.float .f64 b) = pure (.float .f64 (fmul a b)) := by
  obtain ⟨r, hr⟩ := Option.isSome_iff_exists.1 h
  simp [binOp, Op.floatArith, fmul, FloatKind.format, hr]
@[go_sem] theorem binOp_fdiv (t : TypeId) (a b : Nat) (h : fdivOk a b = true) : binOp .quo t (.float .f64 a) (.float .f64 b) = pure (.float .f64 (fdiv a b)) := by
  obtain ⟨r, hr⟩ := Option.isSome_iff_exists.1 h
  simp [binOp, Op.floatArith, fdiv, FloatKind.format, hr]
@[go_sem] theorem unary_fneg (a : Nat) : Op.unary .neg (.float .f64 a) = pure (.float .f64 (fneg a)) := rfl
section
variable {P : Program} (w : World)
@[go_sem] theorem run_fofi (src dst : TypeId) (n : Int) (hs : (P.underlying src).isSome = true) (hd : P.underlying dst = some (.float .f64)) : (convert src dst (.int .i64 n)).run P w = .ok (.float .f64 (fofi n)) w := by
  obtain ⟨s, hs'⟩ := Option.isSome_iff_exists.1 hs
  cases s <;> simp [convert, run_underlying hs', run_underlying hd, Conv.intToFloat, fofi]
@[go_sem] theorem run_fint (src dst : TypeId) (b : Nat) (hs : (P.underlying src).isSome = true) (hd : P.underlying dst = some (.int .i64)) (h : fintOk b = true) : (convert src dst (.float .f64 b)).run P w = .ok (.int .i64 (fint b)) w := by
  obtain ⟨u, hs'⟩ := Option.isSome_iff_exists.1 hs
  unfold fintOk fintO at h
  unfold fint fintO
  split at h
  · rename_i n he
    have he' : (FloatKind.f64.decode b).toInt .zero = some n := he
    split at h
    · rename_i hb
      have hb' : IntKind.i64.min ≤ n ∧ n ≤ IntKind.i64.max := hb
      rw [if_pos hb]
      cases u <;> simp [convert, run_underlying hs', run_underlying hd, Conv.floatToInt, he', hb'.1, hb'.2, hb.1, hb.2]
    · cases h
  · cases h
end
section
variable {P : Program} {ops : Array Oper} {Q : Exit → Act → World → Prop}
/-- A call of a function value that is known, in a region that draws its order. -/
theorem goesV_ {oi : Oper} {N : Option Tmp} {a : Act} {w : World} {K : Act → World → Prop} {f : FuncId} {fn : Func} {x : Operand} {ags : Array Operand} {ts : Array TypeId} (hf : P.funcs[f]? = some fn) (hname : (fn.name == "runtime.NumGoroutine") = false) (hb : fn.body.isSome = true) (args : Array Value)
    (hw : Region.wanted oi (yielded ops a.tmps) = true) (hN : oi.dst = N) (hop : oi.op = .call { callee := .value x, args := ags, argTypes := ts }) (hx : a.eval x = .func (.func f) #[] #[]) (hargs : ags.map a.eval = args)
    (h : Calls P f args w fun e w' => ∃ v, e = .returned v ∧ K (a.put N v) w') : if Region.wanted oi (yielded ops a.tmps) = true then Oper.wp P oi a w K Q else K (a.put N undef) w := by
  refine Go.Proofs.YthdpiceiemkjlaaW.PrintLast.call_ f args hw hN ?_ h
  have he := Go.Proofs.YthdpiceiemkjlaaW.PrintLast.enters_ hf hname hb args w
  unfold execOp
  simp [hop, resolve, Deferred.ofValue, invoke, hx, hargs, he]
end
/-- The NaN that is drawn. -/
def nanOf (t : Nat) : Nat := (t % 2) * 2 ^ 63 + 0x7ff0000000000000 + 1 + (t / 2) % (2 ^ 52 - 1)
theorem nanOf_read (t : Nat) : ∃ s f, Ieee.double.read (nanOf t) = .nan s f := by
  have h1 : t % 2 < 2 := Nat.mod_lt _ (by decide)
  have h2 : (t / 2) % 4503599627370495 < 4503599627370495 := Nat.mod_lt _ (by decide)
  have e : nanOf t % 9223372036854775808 = 9218868437227405313 + (t / 2) % 4503599627370495 := by
    unfold nanOf
    simp only [show (2 : Nat) ^ 63 = 9223372036854775808 from by decide, show (2 : Nat) ^ 52 - 1 = 4503599627370495 from by decide, show (0x7ff0000000000000 : Nat) = 9218868437227405312 from by decide]
    omega
  unfold Ieee.Format.read
  simp only [show Ieee.double.signWeight = 9223372036854775808 from by decide, show Ieee.double.binade = 4503599627370496 from by decide, show Ieee.double.infRung = 9218868437227405312 from by decide, e]
  rw [if_neg (by omega), if_neg (by omega), if_neg (by omega)]
  exact ⟨_, _, rfl⟩
@[go_sem, simp] theorem feq_nanOf (t y : Nat) : feq (nanOf t) y = false := by
  obtain ⟨s, f, h⟩ := nanOf_read t
  unfold feq Ieee.Format.order
  rw [h]
  rfl
@[go_sem] theorem run_fsub_nan {P : Program} (w : World) (t : TypeId) (a b : Nat) (h : fsubOk a b = false) : (binOp .sub t (.float .f64 a) (.float .f64 b)).run P w = .ok (.float .f64 (nanOf (w.tape w.drawn (.nanBits .f64 a b)))) w.drew := by
  have hn : Ieee.double.sub a b = none := by
    unfold fsubOk at h
    cases hs : Ieee.double.sub a b with
    | none => rfl
    | some r => rw [hs] at h; cases h
  simp [binOp, Op.floatArith, FloatKind.format, hn, Question.forced, Question.cut, nanOf]
@[go_sem] theorem run_fdiv_nan {P : Program} (w : World) (t : TypeId) (a b : Nat) (h : fdivOk a b = false) : (binOp .quo t (.float .f64 a) (.float .f64 b)).run P w = .ok (.float .f64 (nanOf (w.tape w.drawn (.nanBits .f64 a b)))) w.drew := by
  have hn : Ieee.double.div a b = none := by
    unfold fdivOk at h
    cases hs : Ieee.double.div a b with
    | none => rfl
    | some r => rw [hs] at h; cases h
  simp [binOp, Op.floatArith, FloatKind.format, hn, Question.forced, Question.cut, nanOf]
/-- Two texts put together; a piece of a text: plain words that the walk leaves as they stand. -/
def cat (a b : ByteArray) : ByteArray := a ++ b
def catOk (a b : ByteArray) : Bool := decide (a.size + b.size ≤ 9223372036854775807)
def cutS (s : ByteArray) (i j : Nat) : ByteArray := s.extract i j
section
variable {P : Program} (w : World)
@[go_sem] theorem run_store_float (q : Addr) (m : Mode) (x : Nat) : (store q (.float .f64 x) m).run P w = stored P w q (.float .f64 x) m := run_store P w q _ m rfl
@[go_sem high] theorem run_cat (a b : ByteArray) (h : a.size + b.size ≤ 9223372036854775807) : (Op.stringOp .add a b).run P w = .ok (.string (cat a b)) w := run_string_add_sum w a b h
@[go_sem high] theorem run_cat_ok (a b : ByteArray) (h : catOk a b = true) : (Op.stringOp .add a b).run P w = .ok (.string (cat a b)) w := run_string_add_sum w a b (of_decide_eq_true h)
@[go_sem high] theorem run_cutS (t : TypeId) (s : ByteArray) (k k' : IntKind) (i j : Int) (h : P.underlying t = some .string) (h0 : 0 ≤ i) (h1 : i ≤ j) (h2 : j ≤ s.size) :
    (Instr.slice t (.string s) (some (.int k i)) (some (.int k' j)) none).run P w = .ok (.string (cutS s i.toNat j.toNat)) w := run_slice_string w t s k k' i j h h0 h1 h2
@[go_sem high] theorem run_cutS_from (t : TypeId) (s : ByteArray) (k : IntKind) (i : Int) (h : P.underlying t = some .string) (h0 : 0 ≤ i) (h1 : i ≤ (s.size : Int)) :
    (Instr.slice t (.string s) (some (.int k i)) none none).run P w = .ok (.string (cutS s i.toNat s.size)) w := by rw [run_slice_string_from_if w t s k i h, if_pos ⟨h0, h1⟩]; rfl
@[go_sem high] theorem run_cutS_to (t : TypeId) (s : ByteArray) (k : IntKind) (j : Int) (h : P.underlying t = some .string) (h0 : 0 ≤ j) (h1 : j ≤ (s.size : Int)) :
    (Instr.slice t (.string s) none (some (.int k j)) none).run P w = .ok (.string (cutS s 0 j.toNat)) w := by rw [run_slice_string_to_if w t s k j h, if_pos ⟨h0, h1⟩]; rfl
@[go_sem high] theorem run_cutS_all (t : TypeId) (s : ByteArray) (h : P.underlying t = some .string) :
    (Instr.slice t (.string s) none none none).run P w = .ok (.string (cutS s 0 s.size)) w := run_slice_string_all w t s h
end
namespace Kd
def float : Kd Nat := scalar (Value.float .f64) (fun _ => rfl)
theorem at_float {w : World} {A : Option Addr} {n : Nat} {xs : List Nat} (h : Kd.float.C w A n xs) (i : Int) (h0 : 0 ≤ i) (h1 : i < n) : ∃ ad, A = some ad ∧ w.cell? (ad.add i.toNat) = some (.float .f64 (rdOf 0 xs i)) :=
  ReadsOf.at_ (reads_of_C (enc := Value.float .f64) (d := (0 : Nat)) (h1 := fun _ => rfl) h) i h0 h1
end Kd
theorem run_float64bits (P : Program) (x : Nat) (w : World) : (Extern.MathFloatBits.float64bits #[.float .f64 x]).run P w = .ok (.int .u64 x) w := rfl
theorem run_float64frombits (P : Program) (x : Int) (w : World) : (Extern.MathFloatBits.float64frombits #[.int .u64 x]).run P w = .ok (.float .f64 x.toNat) w := rfl
theorem run_archTrunc (P : Program) (x : Nat) (w : World) (h : ftruncOk x = true) : (Extern.MathFloor.toIntegral "math.archTrunc" .zero #[.float .f64 x]).run P w = .ok (.float .f64 (ftrunc x)) w := by
  have e : (Extern.MathFloor.toIntegral "math.archTrunc" .zero #[.float .f64 x]) = (match Ieee.double.read x with
      | .nan s t => (if FloatKind.f64.format.quiet t = t then pure (.float .f64 x) else do
          let kept ← choose (.extern "math.Floor,Ceil,Trunc,RoundToEven.signallingNaN kept" 2)
          pure (.float .f64 (if kept == 1 then x else FloatKind.f64.encode (.nan s (FloatKind.f64.format.quiet t)))))
      | d => pure (.float .f64 (FloatKind.f64.encode (d.integral .zero)))) := rfl
  rw [e]
  unfold ftruncOk at h
  unfold ftrunc
  cases hd : Ieee.double.read x with
  | nan s t => rw [hd] at h; cases h
  | number s m p => rfl
  | infinity s => rfl
/-! Short names, for long texts. -/
theorem qA_ {w : World} {g : Nat} {o : Obj} (h : w.heap[g]? = some o) (o' : Obj) : (w.alloc o').heap[g]? = some o := blk_alloc h o'
theorem qD_ {w : World} {g : Nat} {o : Obj} (h : w.heap[g]? = some o) : w.drew.heap[g]? = some o := h
theorem qN_ {w : World} {g : Nat} {o : Obj} (h : w.heap[g]? = some o) (n : Nat) : (w.drewN n).heap[g]? = some o := h
theorem vA_ {w W : World} (h : Below w.heap.size w W) (o : Obj) : Below w.heap.size w (W.alloc o) := below_alloc h o
theorem vN_ {B : Nat} {w W : World} (h : Below B w W) (n : Nat) : Below B w (W.drewN n) := pw_below_drewN h n
theorem vD_ {base : Nat} {w W : World} (h : Below base w W) : Below base w W.drew := below_drew1 h
theorem vS_ {w W : World} {g j : Nat} {v : Value} (h : Below w.heap.size w W) (hg : w.heap.size ≤ g) : Below w.heap.size w (W.setCell ⟨g, j, none⟩ v) := below_set h hg
section
variable {α : Type} {d : Kd α} {e base : Nat} {ok : Nat → Prop} {v : Value} {xs : List α} {w : World}
theorem rA_ (h : d.R e w base ok v xs) (o : Obj) : d.R e (w.alloc o) base ok v xs := Kd.R_alloc h o
theorem rD_ (h : d.R e w base ok v xs) : d.R e w.drew base ok v xs := Kd.R_drew h
theorem rN_ (h : d.R e w base ok v xs) (m : Nat) : d.R e (w.drewN m) base ok v xs := Kd.R_drewN h m
theorem cA_ {A : Option Addr} {n : Nat} (h : d.C w A n xs) (o : Obj) : d.C (w.alloc o) A n xs := Kd.C_alloc h o
theorem cD_ {A : Option Addr} {n : Nat} (h : d.C w A n xs) : d.C w.drew A n xs := Kd.C_drew h
theorem cN_ {A : Option Addr} {n : Nat} (h : d.C w A n xs) (m : Nat) : d.C (w.drewN m) A n xs := Kd.C_drewN h m
theorem sA_ (h : Kd.S d e w base ok v xs) (o : Obj) : Kd.S d e (w.alloc o) base ok v xs := Kd.S_alloc h o
theorem sD_ (h : Kd.S d e w base ok v xs) : Kd.S d e w.drew base ok v xs := Kd.S_drew h
theorem sN_ (h : Kd.S d e w base ok v xs) (m : Nat) : Kd.S d e (w.drewN m) base ok v xs := Kd.S_drewN h m
theorem r1_ (h : d.R e w base ok v xs) {g t : Nat} {cells : Array Value} (hb : w.heap[g]? = some (.cells cells t (0, 0))) (ht : ∀ q, q ∈ e :: d.E → q ≠ t) {j1 : Nat} {u1 : Value} :
    d.R e (w.setCell ⟨g, j1, none⟩ u1) base ok v xs :=
  Kd.R_mono (Kd.R_far (p := ⟨g, j1, none⟩) (Kd.R_types h hb ht) (fun _ hk => hk.2) u1) (fun _ h_ => h_.1)
theorem r2_ (h : d.R e w base ok v xs) {g t : Nat} {cells : Array Value} (hb : w.heap[g]? = some (.cells cells t (0, 0))) (ht : ∀ q, q ∈ e :: d.E → q ≠ t) {j1 j2 : Nat} {u1 u2 : Value} :
    d.R e ((w.setCell ⟨g, j1, none⟩ u1).setCell ⟨g, j2, none⟩ u2) base ok v xs :=
  Kd.R_mono (Kd.R_far (p := ⟨g, j2, none⟩) (Kd.R_far (p := ⟨g, j1, none⟩) (Kd.R_types h hb ht) (fun _ hk => hk.2) u1) (fun _ hk => hk.2) u2) (fun _ h_ => h_.1)
end
/-! What is proved where it is used. -/
theorem a_ {P : Prop} (h : P) : Aside0 P := Aside0.mk h
theorem b_ {P : Prop} (h : P := by repeat (first | (with_reducible first|exact HB.out|apply vA_|apply vN_|apply vD_|refine vS_ ?_ (Aside0.out (by assumption))|refine below_set ?_ (Aside0.out (by assumption))) | exact HB.out)) : P := h
theorem q_ {P Q : Prop} (q : Q) (h : Q → P := by intro q0_; (with_reducible repeat first|apply qN_|apply qD_|apply qA_); exact q0_) : P := h q
theorem r_ {P Q : Prop} (q : Q) (h : Q → P := by intro q0_; (with_reducible repeat first|apply rA_|apply rN_|apply rD_); exact q0_) : P := h q
theorem s_ {P Q : Prop} (q : Q) (h : Q → P := by intro q0_; (with_reducible repeat first|apply sA_|apply sN_|apply sD_); exact q0_) : P := h q
theorem c_ {P Q : Prop} (q : Q) (h : Q → P := by intro q0_; repeat (first | exact q0_ | with_reducible apply cA_|with_reducible apply cN_|with_reducible apply cD_)) : P := h q
theorem la_ {P : Prop} (h : P := by (try simp only [List.map_toArray, List.map_cons, List.map_nil]); first | done | rfl | (simp only [List.length_drop, List.length_take]; rfl)) : P := h
theorem ig_ {c : Prop} [Decidable c] {α : Type} {a : Option α} {r : α} (h : (if c then a else none) = some r) : decide c = true ∧ a = some r := by
  by_cases q : c
  · rw [if_pos q] at h
    exact ⟨decide_eq_true q, h⟩
  · rw [if_neg q] at h
    cases h
theorem it_ {c : Prop} [Decidable c] {α : Type} {a : Option α} {r : α} (h : (if c then a else none) = some r) : c := of_decide_eq_true (ig_ h).1
theorem cl_ {w W : World} (h : Below w.heap.size w W) {a : Addr} {v : Value} (x : w.cell? a = some v) : W.cell? a = some v := (h.cell (World.block_lt_of_cell? w _ x)).trans x
theorem cz2_ {w : World} {g t : Nat} {a b : Value} (h : w.heap[g]? = some (.cells #[a, b] t (0, 0))) : w.cell? ⟨g, 0, none⟩ = some a ∧ w.cell? ⟨g, 1, none⟩ = some b ∧ w.frozen? ⟨g, 0, none⟩ = false ∧ w.frozen? ⟨g, 1, none⟩ = false := ⟨(blk_cell h 0).trans rfl, (blk_cell h 1).trans rfl, blk_frozen h 0, blk_frozen h 1⟩
theorem cz5_ {w : World} {g t : Nat} {a b c d e : Value} (h : w.heap[g]? = some (.cells #[a, b, c, d, e] t (0, 0))) : w.cell? ⟨g, 0, none⟩ = some a ∧ w.cell? ⟨g, 1, none⟩ = some b ∧ w.cell? ⟨g, 2, none⟩ = some c ∧ w.cell? ⟨g, 3, none⟩ = some d ∧ w.cell? ⟨g, 4, none⟩ = some e ∧ w.frozen? ⟨g, 0, none⟩ = false ∧ w.frozen? ⟨g, 1, none⟩ = false ∧ w.frozen? ⟨g, 2, none⟩ = false ∧ w.frozen? ⟨g, 3, none⟩ = false ∧ w.frozen? ⟨g, 4, none⟩ = false :=
  ⟨(blk_cell h 0).trans rfl, (blk_cell h 1).trans rfl, (blk_cell h 2).trans rfl, (blk_cell h 3).trans rfl, (blk_cell h 4).trans rfl, blk_frozen h 0, blk_frozen h 1, blk_frozen h 2, blk_frozen h 3, blk_frozen h 4⟩
theorem od_ {p : Prop} [Decidable p] (h : decide p = true := by first | (with_reducible assumption) | assumption) : p := of_decide_eq_true h
@[go_sem] theorem call_math_Float64bits (x : Nat) (w : World) : (callFunc 90 #[.float .f64 x]).run Try.prog w = .ok (.value (.int .u64 x)) w := by
  rw [run_callFunc_extern (e := Extern.MathFloatBits.float64bits) Try.func90 (by kernel_rfl) rfl (by kernel_rfl) (by kernel_rfl), run_float64bits Try.prog x w]
  rfl
@[go_sem] theorem call_math_Float64frombits (x : Int) (w : World) : (callFunc 128 #[.int .u64 x]).run Try.prog w = .ok (.value (.float .f64 x.toNat)) w := by
  rw [run_callFunc_extern (e := Extern.MathFloatBits.float64frombits) Try.func128 (by kernel_rfl) rfl (by kernel_rfl) (by kernel_rfl), run_float64frombits Try.prog x w]
  rfl
@[go_sem] theorem call_math_archTrunc (x : Nat) (w : World) (h : ftruncOk x = true) : (callFunc 119 #[.float .f64 x]).run Try.prog w = .ok (.value (.float .f64 (ftrunc x))) w := by
  rw [run_callFunc_extern (e := (Extern.MathFloor.toIntegral "math.archTrunc" .zero)) Try.func119 (by kernel_rfl) rfl (by kernel_rfl) (by kernel_rfl), run_archTrunc Try.prog x w h]
  rfl
end Go.Proofs.YthdpiceiemkjlaaW.PrintWords
namespace Go.Proofs.YthdpiceiemkjlaaW.PrintLast
open Go Go.Proofs
end Go.Proofs.YthdpiceiemkjlaaW.PrintLast
