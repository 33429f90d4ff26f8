/- The engine, part four: what each operation yields. -/
import Derived.Test.YtfnekbnlokigcaaEngW
import Derived.WalkKit
set_option linter.unusedVariables false
set_option linter.unusedSimpArgs false
namespace Go.Eng
open Go

section
variable {P : Program} {n : Nat} {ds : List Deferred} {ops : List Oper} {Q : PostE} {E : Env} {w : World} {o : Oper} {l : List Oper}

theorem Ox.pure (hd : dstOk n o.dst = true) (hg : wantedE ops E o.guard = some true) {v : Value} (hv : RunP P n E o v) (h : Ox P n ds ops Q l (putE E o.dst v) w) : Ox P n ds ops Q (o :: l) E w :=
  Ox.val hd hg (hv.runV []) h

def szOf (P : Program) (t : TypeId) : Option Nat := (P.info? t).map (·.size)
def byOf (P : Program) (t : TypeId) : Option Nat := (P.info? t).map (·.bytes)
def zrOf (P : Program) (t : TypeId) : Option Value := (P.info? t).bind (·.zero)
def aggOf (P : Program) (t : TypeId) : Option Bool := (P.underlying t).map fun d => match d with | .struct _ | .array _ _ => true | _ => false

theorem run_szOf {t m : Nat} (h : szOf P t = some m) (w : World) : (sizeOf t).run P w = .ok m w := by
  unfold szOf at h
  cases hi : P.info? t with
  | none => rw [hi] at h; cases h
  | some i => rw [hi] at h; simp at h; simp [sizeOf, typeInfo, hi, h]
theorem run_und {t : Nat} {d : TypeDesc} (h : P.underlying t = some d) (w : World) : (underlying t).run P w = .ok d w := by simp [underlying, h]
theorem run_agg {t : Nat} {b : Bool} (h : aggOf P t = some b) (w : World) : (isAgg t).run P w = .ok b w := by
  unfold aggOf at h
  cases hd : P.underlying t with
  | none => rw [hd] at h; cases h
  | some d =>
    rw [hd] at h
    simp only [Option.map_some, Option.some.injEq] at h
    unfold isAgg
    simp only [Sem.run_bind, run_und hd, Result.andThen_ok]
    cases d <;> simp at h <;> simp [← h]
theorem run_zero {t : Nat} {z : Value} (h : zrOf P t = some z) (w : World) : (zeroValue t).run P w = .ok z w := by
  unfold zrOf at h
  cases hi : P.info? t with
  | none => rw [hi] at h; cases h
  | some i => rw [hi] at h; simp at h; simp [zeroValue, typeInfo, hi, h]

theorem rp_move {x : Operand} {v : Value} (ho : o.op = .move x) (hx : ev E x = some v) : RunP P n E o v := by
  intro a u ha; simp [execOp, ho, ha.eval hx]
theorem rp_assign {x : Operand} {v : Value} (ho : o.op = .assign x) (hx : ev E x = some v) : RunP P n E o v := by
  intro a u ha; simp [execOp, ho, ha.eval hx]
theorem rp_pick_t {c x y : Operand} {v : Value} (ho : o.op = .pick c x y) (hc : ev E c = some (.bool true)) (hx : ev E x = some v) : RunP P n E o v := by
  intro a u ha; simp [execOp, ho, ha.eval hc, ha.eval hx, asBool]
theorem rp_pick_f {c x y : Operand} {v : Value} (ho : o.op = .pick c x y) (hc : ev E c = some (.bool false)) (hx : ev E y = some v) : RunP P n E o v := by
  intro a u ha; simp [execOp, ho, ha.eval hc, ha.eval hx, asBool]

/-! ### Numbers -/

def binI : BinOp → IntKind → Int → Int → Option Value
  | .add, k, a, b => some (.int k (k.wrap (a + b)))
  | .sub, k, a, b => some (.int k (k.wrap (a - b)))
  | .mul, k, a, b => some (.int k (k.wrap (a * b)))
  | .and, k, a, b => some (.int k (k.wrap (BitVec.ofInt k.bits a &&& BitVec.ofInt k.bits b).toNat))
  | .or, k, a, b => some (.int k (k.wrap (BitVec.ofInt k.bits a ||| BitVec.ofInt k.bits b).toNat))
  | .xor, k, a, b => some (.int k (k.wrap (BitVec.ofInt k.bits a ^^^ BitVec.ofInt k.bits b).toNat))
  | .eql, _, a, b => some (.bool (decide (a = b)))
  | .neq, _, a, b => some (.bool (decide (a ≠ b)))
  | .lss, _, a, b => some (.bool (decide (a < b)))
  | .leq, _, a, b => some (.bool (decide (a ≤ b)))
  | .gtr, _, a, b => some (.bool (decide (b < a)))
  | .geq, _, a, b => some (.bool (decide (b ≤ a)))
  | _, _, _, _ => none

theorem rp_bin {op : BinOp} {t t' : TypeId} {x y : Operand} {k : IntKind} {a b : Int} {v : Value} (ho : o.op = .binOp op t x y t') (hx : ev E x = some (.int k a)) (hy : ev E y = some (.int k b)) (hr : binI op k a b = some v) : RunP P n E o v := by
  intro f u hf
  have h1 := hf.eval hx
  have h2 := hf.eval hy
  have hg : ∀ op, eqGuard op t x y (.int k a) (.int k b) = Pure.pure () := fun op => by cases op <;> rfl
  simp only [execOp, ho, h1, h2, hg]
  cases op <;> simp only [binI, Option.some.injEq] at hr <;> first
    | (subst hr; simp [binOp, Op.intArith, Op.intBits, Op.intCmp]; done)
    | (subst hr; simp [binOp, Op.intArith, Op.intBits, Op.intCmp, bne]; done)
    | (cases hr; done)
    | (subst hr; simp [binOp, Op.intCmp]; rw [bne, Bool.beq_eq_decide_eq]; done)
    | (subst hr; simp only [binOp, ne_eq, not_true_eq_false, if_false, Op.intCmp]; simp [bne]; rfl)

theorem binI_fit_add {k : IntKind} {a b : Int} (h : k.wrap (a + b) = a + b) : binI .add k a b = some (.int k (a + b)) := by simp [binI, h]
theorem binI_fit_sub {k : IntKind} {a b : Int} (h : k.wrap (a - b) = a - b) : binI .sub k a b = some (.int k (a - b)) := by simp [binI, h]
theorem binI_fit_mul {k : IntKind} {a b : Int} (h : k.wrap (a * b) = a * b) : binI .mul k a b = some (.int k (a * b)) := by simp [binI, h]

theorem wrap64 {a : Int} (h : -9223372036854775808 ≤ a ∧ a ≤ 9223372036854775807) : IntKind.i64.wrap a = a := by
  unfold IntKind.wrap IntKind.bits IntKind.signed
  simp only
  obtain ⟨h1, h2⟩ := h
  by_cases h0 : 0 ≤ a
  · have h3 : a % (2 ^ 64 : Int) = a := Int.emod_eq_of_lt h0 (by omega)
    rw [h3]; simp; omega
  · have h3 : a % (2 ^ 64 : Int) = a + 2 ^ 64 := by omega
    rw [h3]; simp; omega
theorem wrapu64 {a : Int} (h : 0 ≤ a ∧ a ≤ 18446744073709551615) : IntKind.u64.wrap a = a := by
  unfold IntKind.wrap IntKind.bits IntKind.signed
  simp only
  have h3 : a % (2 ^ 64 : Int) = a := Int.emod_eq_of_lt h.1 (by omega)
  rw [h3]; simp
theorem wrapu8 {a : Int} (h : 0 ≤ a ∧ a ≤ 255) : IntKind.u8.wrap a = a := by
  unfold IntKind.wrap IntKind.bits IntKind.signed
  simp only
  have h3 : a % (2 ^ 8 : Int) = a := Int.emod_eq_of_lt h.1 (by omega)
  rw [h3]; simp
theorem wrapu32 {a : Int} (h : 0 ≤ a ∧ a ≤ 4294967295) : IntKind.u32.wrap a = a := by
  unfold IntKind.wrap IntKind.bits IntKind.signed
  simp only
  have h3 : a % (2 ^ 32 : Int) = a := Int.emod_eq_of_lt h.1 (by omega)
  rw [h3]; simp

theorem rp_shl {t t' : TypeId} {x y : Operand} {k k' : IntKind} {a b : Int} (m : Nat) (ho : o.op = .binOp .shl t x y t') (hx : ev E x = some (.int k a)) (hy : ev E y = some (.int k' b)) (hm : 0 ≤ b ∧ min b.toNat k.bits = m) :
    RunP P n E o (.int k (k.wrap (a * 2 ^ m))) := by
  intro f u hf
  have h3 : ¬ b < 0 := by omega
  simp [execOp, ho, hf.eval hx, hf.eval hy, eqGuard, binOp, Op.shift, h3, hm.2]
theorem rp_shr {t t' : TypeId} {x y : Operand} {k k' : IntKind} {a b : Int} (m : Nat) (ho : o.op = .binOp .shr t x y t') (hx : ev E x = some (.int k a)) (hy : ev E y = some (.int k' b)) (hm : 0 ≤ b ∧ min b.toNat k.bits = m) :
    RunP P n E o (.int k (a.fdiv (2 ^ m))) := by
  intro f u hf
  have h3 : ¬ b < 0 := by omega
  simp [execOp, ho, hf.eval hx, hf.eval hy, eqGuard, binOp, Op.shift, h3, hm.2]
theorem rp_quo {t t' : TypeId} {x y : Operand} {k : IntKind} {a b : Int} (ho : o.op = .binOp .quo t x y t') (hx : ev E x = some (.int k a)) (hy : ev E y = some (.int k b)) (hb : b ≠ 0) :
    RunP P n E o (.int k (k.wrap (a.tdiv b))) := by
  intro f u hf
  simp [execOp, ho, hf.eval hx, hf.eval hy, eqGuard, binOp, Op.intDiv, hb]
theorem rp_rem {t t' : TypeId} {x y : Operand} {k : IntKind} {a b : Int} (ho : o.op = .binOp .rem t x y t') (hx : ev E x = some (.int k a)) (hy : ev E y = some (.int k b)) (hb : b ≠ 0) :
    RunP P n E o (.int k (a.tmod b)) := by
  intro f u hf
  simp [execOp, ho, hf.eval hx, hf.eval hy, eqGuard, binOp, Op.intDiv, hb]
theorem rp_not {t : TypeId} {x : Operand} {b : Bool} (ho : o.op = .unOp .not t x) (hx : ev E x = some (.bool b)) : RunP P n E o (.bool (!b)) := by
  intro f u hf; simp [execOp, ho, hf.eval hx, Op.unary]
theorem rp_neg {t : TypeId} {x : Operand} {k : IntKind} {a : Int} (ho : o.op = .unOp .neg t x) (hx : ev E x = some (.int k a)) : RunP P n E o (.int k (k.wrap (0 - a))) := by
  intro f u hf; simp [execOp, ho, hf.eval hx, Op.unary, Op.intArith]
theorem rp_conv {s t : TypeId} {x : Operand} {k k' : IntKind} {a : Int} {d : TypeDesc} (ho : o.op = .convert s t x) (hs : P.underlying s = some d) (ht : P.underlying t = some (.int k')) (hx : ev E x = some (.int k a)) :
    RunP P n E o (.int k' (k'.wrap a)) := by
  intro f u hf; simp [execOp, ho, hf.eval hx, convert, run_und hs, run_und ht, Conv.intToInt]

/-! ### Booleans and strings -/

theorem run_eq_bool {t : TypeId} (ht : P.underlying t = some .bool) (a b : Bool) (u : World) : (Op.equal t (.bool a) (.bool b)).run P u = .ok (a == b) u := by
  unfold Op.equal Op.maxDepth
  rw [Op.equalIn]
  simp only [Sem.run_bind, run_und ht, Result.andThen_ok, Sem.run_pure]
theorem rp_eqb {t t' : TypeId} {x y : Operand} {a b : Bool} (ho : o.op = .binOp .eql t x y t') (ht : P.underlying t = some .bool) (hx : ev E x = some (.bool a)) (hy : ev E y = some (.bool b)) : RunP P n E o (.bool (a == b)) := by
  intro f u hf
  have hg : ∀ op, eqGuard op t x y (.bool a) (.bool b) = Pure.pure () := fun op => by cases op <;> rfl
  simp only [execOp, ho, hf.eval hx, hf.eval hy, hg, binOp, pure_bind, Sem.run_bind, run_eq_bool ht, Result.andThen_ok, Sem.run_pure]
theorem rp_neb {t t' : TypeId} {x y : Operand} {a b : Bool} (ho : o.op = .binOp .neq t x y t') (ht : P.underlying t = some .bool) (hx : ev E x = some (.bool a)) (hy : ev E y = some (.bool b)) : RunP P n E o (.bool (!(a == b))) := by
  intro f u hf
  have hg : ∀ op, eqGuard op t x y (.bool a) (.bool b) = Pure.pure () := fun op => by cases op <;> rfl
  simp only [execOp, ho, hf.eval hx, hf.eval hy, hg, binOp, pure_bind, Sem.run_bind, run_eq_bool ht, Result.andThen_ok, Sem.run_pure]

def binS : BinOp → ByteArray → ByteArray → Option Value
  | .eql, x, y => some (.bool (x.toList == y.toList))
  | .neq, x, y => some (.bool (!(x.toList == y.toList)))
  | .lss, x, y => some (.bool (Op.bytesLess x.toList y.toList))
  | .leq, x, y => some (.bool (Op.bytesLess x.toList y.toList || x.toList == y.toList))
  | .gtr, x, y => some (.bool !(Op.bytesLess x.toList y.toList || x.toList == y.toList))
  | .geq, x, y => some (.bool (!Op.bytesLess x.toList y.toList))
  | _, _, _ => none
theorem rp_binS {op : BinOp} {t t' : TypeId} {x y : Operand} {a b : ByteArray} {v : Value} (ho : o.op = .binOp op t x y t') (hx : ev E x = some (.string a)) (hy : ev E y = some (.string b)) (hr : binS op a b = some v) : RunP P n E o v := by
  intro f u hf
  have hg : ∀ op, eqGuard op t x y (.string a) (.string b) = Pure.pure () := fun op => by cases op <;> rfl
  simp only [execOp, ho, hf.eval hx, hf.eval hy, hg]
  cases op <;> simp only [binS, Option.some.injEq] at hr <;> first
    | (subst hr; simp [binOp, Op.stringOp]; done)
    | (cases hr; done)
theorem rp_addS {t t' : TypeId} {x y : Operand} {a b : ByteArray} (ho : o.op = .binOp .add t x y t') (hx : ev E x = some (.string a)) (hy : ev E y = some (.string b)) (hr : a.size + b.size ≤ 9223372036854775807) : RunP P n E o (.string (a ++ b)) := by
  intro f u hf
  have h1 : ¬ ((a.size + b.size : Nat) : Int) > 9223372036854775807 := by omega
  simp [execOp, ho, hf.eval hx, hf.eval hy, eqGuard, binOp, Op.stringOp] at *
  omega

/-! ### Tuples, functions, interfaces -/

theorem rp_extract {x : Operand} {i : Nat} {vs : Array Value} {v : Value} (ho : o.op = .extract x i) (hx : ev E x = some (.tuple vs)) (hi : vs[i]? = some v) : RunP P n E o v := by
  intro f u hf; simp [execOp, ho, hf.eval hx, Instr.extract, hi]
theorem rp_nilP {x : Operand} {A : Addr} (ho : o.op = .nilCheck x) (hx : ev E x = some (.pointer (some A))) : RunP P n E o (.pointer (some A)) := by
  intro f u hf; simp [execOp, ho, hf.eval hx]
theorem rp_nilF {x : Operand} {g : FuncId} {first cap : Array Value} (ho : o.op = .nilCheck x) (hx : ev E x = some (.func (.func g) first cap)) : RunP P n E o (.func (.func g) first cap) := by
  intro f u hf; simp [execOp, ho, hf.eval hx]
theorem rp_makeFunc {fn : Fn} {first cap : Array Operand} {vf vc : List Value} (ho : o.op = .makeFunc fn first cap) (hf' : evs E first.toList = some vf) (hc : evs E cap.toList = some vc) : RunP P n E o (.func fn vf.toArray vc.toArray) := by
  intro f u hf
  have h1 : first.map f.eval = vf.toArray := by rw [← hf.evals hf']; apply Array.ext'; rw [Array.toList_map]
  have h2 : cap.map f.eval = vc.toArray := by rw [← hf.evals hc]; apply Array.ext'; rw [Array.toList_map]
  simp [execOp, ho, Instr.makeFunc, h1, h2]
theorem rp_iface {t : TypeId} {x : Operand} {v : Value} {d : TypeDesc} (ho : o.op = .makeInterface t x) (ht : P.underlying t = some d) (hn : (match d with | .interface _ => false | _ => true) = true) (hx : ev E x = some v) : RunP P n E o (.iface t v) := by
  intro f u hf
  simp only [execOp, ho, hf.eval hx, Instr.makeInterface, Sem.run_bind, run_und ht, Result.andThen_ok]
  cases d <;> simp at hn <;> simp

/-! ### Addresses -/

theorem addr_add_add (A : Addr) (i j : Nat) : (A.add i).add j = A.add (i + j) := by
  unfold Addr.add
  by_cases hi : i = 0
  · subst hi; simp
  · by_cases hj : j = 0
    · subst hj; simp [hi]
    · have h : i + j ≠ 0 := by omega
      simp [hi, hj, Nat.add_assoc]
theorem addr_block (A : Addr) (i : Nat) : (A.add i).block = A.block := by unfold Addr.add; split <;> rfl

def fieldOf (P : Program) (t : TypeId) (i : Nat) : Option (TypeId × Nat) :=
  match P.underlying t with
  | some (.struct fs) => (fs[i]?).map fun f => (f.type, f.offset)
  | _ => none
theorem fieldOf_some {t : TypeId} {i : Nat} {ft off : Nat} (h : fieldOf P t i = some (ft, off)) : ∃ fs f, P.underlying t = some (.struct fs) ∧ fs[i]? = some f ∧ f.type = ft ∧ f.offset = off := by
  unfold fieldOf at h
  split at h
  · rename_i fs hfs
    cases hf : fs[i]? with
    | none => rw [hf] at h; cases h
    | some f => rw [hf] at h; simp at h; exact ⟨fs, f, hfs, hf, h.1, h.2⟩
  · cases h

theorem rp_fieldAddr {t : TypeId} {x : Operand} {i : Nat} {A : Addr} {ft off m : Nat} (ho : o.op = .fieldAddr t x i) (hf' : fieldOf P t i = some (ft, off)) (hm : szOf P ft = some (m + 1)) (hx : ev E x = some (.pointer (some A))) :
    RunP P n E o (.pointer (some (A.add off))) := by
  intro f u hf
  obtain ⟨fs, g, h1, h2, h3, h4⟩ := fieldOf_some hf'
  subst h3; subst h4
  simp [execOp, ho, hf.eval hx, Instr.fieldAt, run_und h1, h2, Instr.sureAddr, fieldPlace, run_szOf hm]

theorem rp_indexAddr {t e : TypeId} {x y : Operand} {k : IntKind} {i : Int} {p : Option Addr} {A : Addr} {len cap m : Nat} (j : Nat) (ho : o.op = .indexAddr t x y) (ht : P.underlying t = some (.slice e)) (hm : szOf P e = some m)
    (hx : ev E x = some (.slice p len cap)) (hy : ev E y = some (.int k i)) (hp : 0 < len → p = some A) (hj : i = (j : Int)) (hi : j < len) : RunP P n E o (.pointer (some (A.add (j * m)))) := by
  intro f u hf
  have hpA := hp (by omega)
  subst hj
  have h1 : ¬ (len : Int) ≤ j := by omega
  subst hpA
  simp [execOp, ho, hf.eval hx, hf.eval hy, Instr.indexAt, asIntOf, run_und ht, run_szOf hm]
  omega

theorem rp_indexArr {t e : TypeId} {x y : Operand} {k : IntKind} {i : Int} {A : Addr} {len m : Nat} (j : Nat) (ho : o.op = .indexAddr t x y) (ht : P.underlying t = some (.array len e)) (hm : szOf P e = some m)
    (hx : ev E x = some (.pointer (some A))) (hy : ev E y = some (.int k i)) (hj : i = (j : Int)) (hi : j < len) : RunP P n E o (.pointer (some (A.add (j * m)))) := by
  intro f u hf
  subst hj
  simp [execOp, ho, hf.eval hx, hf.eval hy, Instr.indexAt, asIntOf, run_und ht, run_szOf hm, Instr.sureAddr]
  omega

/-! ### Lengths -/

def cfor (o : Oper) (b : Builtin) (xs : List Operand) (ts : List TypeId) : Prop := o.op = .call { callee := .builtin b, args := xs.toArray, argTypes := ts.toArray }

theorem rp_lenS {x : Operand} {t e : TypeId} {p : Option Addr} {len cap : Nat} (ho : o.op = .call { callee := .builtin .len, args := #[x], argTypes := #[t] }) (ht : P.underlying t = some (.slice e)) (hx : ev E x = some (.slice p len cap)) :
    RunP P n E o (.int .i64 len) := by
  intro f u hf; simp [execOp, ho, resolve, invoke, builtin, hf.eval hx, Builtin.len_, run_und ht, goInt]
theorem rp_lenT {x : Operand} {t : TypeId} {s : ByteArray} (ho : o.op = .call { callee := .builtin .len, args := #[x], argTypes := #[t] }) (ht : P.underlying t = some .string) (hx : ev E x = some (.string s)) :
    RunP P n E o (.int .i64 s.size) := by
  intro f u hf; simp [execOp, ho, resolve, invoke, builtin, hf.eval hx, Builtin.len_, run_und ht, goInt]
theorem rp_lenA {x : Operand} {t e : TypeId} {m : Nat} {v : Value} (ho : o.op = .call { callee := .builtin .len, args := #[x], argTypes := #[t] }) (ht : P.underlying t = some (.array m e)) (hx : ev E x = some v) :
    RunP P n E o (.int .i64 m) := by
  intro f u hf; simp [execOp, ho, resolve, invoke, builtin, hf.eval hx, Builtin.len_, run_und ht, goInt]
theorem rp_max {x y : Operand} {t t' : TypeId} {k : IntKind} {a b : Int} (ho : o.op = .call { callee := .builtin .max, args := #[x, y], argTypes := #[t, t'] }) (hx : ev E x = some (.int k a)) (hy : ev E y = some (.int k b)) :
    RunP P n E o (.int k (max a b)) := by
  intro f u hf
  have : (if a < b then b else a) = max a b := by split <;> omega
  simp [execOp, ho, resolve, invoke, builtin, hf.eval hx, hf.eval hy, Builtin.max_, Builtin.max2, this]
theorem rp_min {x y : Operand} {t t' : TypeId} {k : IntKind} {a b : Int} (ho : o.op = .call { callee := .builtin .min, args := #[x, y], argTypes := #[t, t'] }) (hx : ev E x = some (.int k a)) (hy : ev E y = some (.int k b)) :
    RunP P n E o (.int k (min a b)) := by
  intro f u hf
  have : (if b < a then b else a) = min a b := by split <;> omega
  simp [execOp, ho, resolve, invoke, builtin, hf.eval hx, hf.eval hy, Builtin.min_, Builtin.min2, this]

/-! ### Slicing -/

theorem run_bound {x : Value} {k : IntKind} {i y : Nat} {c : BoundsCode} (hx : x = .int k (i : Int)) (hi : i ≤ y) (w : World) : (Instr.sliceBound x y c).run P w = .ok i w := by
  subst hx; simp [Instr.sliceBound, asIntOf]; omega

def optE (E : Env) : Option Operand → Option (Option Value)
  | none => some none
  | some x => (ev E x).map some

theorem optE_eval {a : Act} (ha : Agr n E a) {x : Option Operand} {v : Option Value} (h : optE E x = some v) : x.map a.eval = v := by
  cases x with
  | none => simpa [optE] using h
  | some x =>
    simp only [optE] at h
    cases hx : ev E x with
    | none => rw [hx] at h; cases h
    | some u => rw [hx] at h; simp at h; simp [ha.eval hx, h]

/-- x[lo:hi] of a slice. -/
theorem rp_sliceS {t e : TypeId} {x : Operand} {lo hi : Option Operand} {vl vh : Option Value} {p : Option Addr} {len cap m : Nat} (i j : Nat) (ho : o.op = .slice t x lo hi none) (ht : P.underlying t = some (.slice e)) (hm : szOf P e = some m)
    (hx : ev E x = some (.slice p len cap)) (hl : optE E lo = some vl) (hh : optE E hi = some vh)
    (hi' : (vl = none ∧ i = 0) ∨ ∃ k, vl = some (.int k (i : Int))) (hj' : (vh = none ∧ j = len) ∨ ∃ k, vh = some (.int k (j : Int))) (hij : i ≤ j) (hjc : j ≤ cap) :
    RunP P n E o (.slice (if cap = i then p else p.map (·.add (i * m))) (j - i) (cap - i)) := by
  intro f u hf
  have hb : ∀ u, (Instr.sliceBounds true len cap vl vh none).run P u = .ok (i, j, cap) u := by
    intro u
    unfold Instr.sliceBounds
    rcases hi' with ⟨rfl, rfl⟩ | ⟨k, rfl⟩ <;> rcases hj' with ⟨rfl, rfl⟩ | ⟨k', rfl⟩ <;> simp [run_bound rfl hij, run_bound rfl hjc]
  simp [execOp, ho, hf.eval hx, optE_eval hf hl, optE_eval hf hh, Instr.sliceAt, Instr.slice, run_und ht, run_szOf hm, hb]
/-- x[lo:hi:max] of a slice. -/
theorem rp_slice3 {t e : TypeId} {x : Operand} {lo hi mx : Option Operand} {vl vh vm : Option Value} {p : Option Addr} {len cap m : Nat} (i j c : Nat) (ho : o.op = .slice t x lo hi mx) (ht : P.underlying t = some (.slice e)) (hm : szOf P e = some m)
    (hx : ev E x = some (.slice p len cap)) (hl : optE E lo = some vl) (hh : optE E hi = some vh) (hmx : optE E mx = some vm)
    (hi' : (vl = none ∧ i = 0) ∨ ∃ k, vl = some (.int k (i : Int))) (hj' : ∃ k, vh = some (.int k (j : Int))) (hc' : ∃ k, vm = some (.int k (c : Int))) (hij : i ≤ j) (hjc : j ≤ c) (hcc : c ≤ cap) :
    RunP P n E o (.slice (if c = i then p else p.map (·.add (i * m))) (j - i) (c - i)) := by
  intro f u hf
  have hb : ∀ u, (Instr.sliceBounds true len cap vl vh vm).run P u = .ok (i, j, c) u := by
    intro u
    unfold Instr.sliceBounds
    obtain ⟨k', rfl⟩ := hj'
    obtain ⟨k'', rfl⟩ := hc'
    rcases hi' with ⟨rfl, rfl⟩ | ⟨k, rfl⟩ <;> simp [run_bound rfl hij, run_bound rfl hjc, run_bound rfl hcc]
  simp [execOp, ho, hf.eval hx, optE_eval hf hl, optE_eval hf hh, optE_eval hf hmx, Instr.sliceAt, Instr.slice, run_und ht, run_szOf hm, hb]
/-- s[lo:hi] of a string. -/
theorem rp_sliceT {t : TypeId} {x : Operand} {lo hi : Option Operand} {vl vh : Option Value} {s : ByteArray} (i j : Nat) (ho : o.op = .slice t x lo hi none) (ht : P.underlying t = some .string)
    (hx : ev E x = some (.string s)) (hl : optE E lo = some vl) (hh : optE E hi = some vh)
    (hi' : (vl = none ∧ i = 0) ∨ ∃ k, vl = some (.int k (i : Int))) (hj' : (vh = none ∧ j = s.size) ∨ ∃ k, vh = some (.int k (j : Int))) (hij : i ≤ j) (hjc : j ≤ s.size) :
    RunP P n E o (.string (s.extract i j)) := by
  intro f u hf
  have hb : ∀ u, (Instr.sliceBounds false s.size s.size vl vh none).run P u = .ok (i, j, s.size) u := by
    intro u
    unfold Instr.sliceBounds
    rcases hi' with ⟨rfl, rfl⟩ | ⟨k, rfl⟩ <;> rcases hj' with ⟨rfl, rfl⟩ | ⟨k', rfl⟩ <;> simp [run_bound rfl hij, run_bound rfl hjc]
  simp [execOp, ho, hf.eval hx, optE_eval hf hl, optE_eval hf hh, Instr.sliceAt, Instr.slice, run_und ht, hb]
/-- a[lo:hi] of an array. -/
theorem rp_sliceA {t e : TypeId} {x : Operand} {lo hi : Option Operand} {vl vh : Option Value} {A : Addr} {len m : Nat} (i j : Nat) (ho : o.op = .slice t x lo hi none) (ht : P.underlying t = some (.array len e)) (hm : szOf P e = some m)
    (hx : ev E x = some (.pointer (some A))) (hl : optE E lo = some vl) (hh : optE E hi = some vh)
    (hi' : (vl = none ∧ i = 0) ∨ ∃ k, vl = some (.int k (i : Int))) (hj' : (vh = none ∧ j = len) ∨ ∃ k, vh = some (.int k (j : Int))) (hij : i ≤ j) (hjc : j ≤ len) :
    RunP P n E o (.slice (some (if len = i then A else A.add (i * m))) (j - i) (len - i)) := by
  intro f u hf
  have hb : ∀ u, (Instr.sliceBounds false len len vl vh none).run P u = .ok (i, j, len) u := by
    intro u
    unfold Instr.sliceBounds
    rcases hi' with ⟨rfl, rfl⟩ | ⟨k, rfl⟩ <;> rcases hj' with ⟨rfl, rfl⟩ | ⟨k', rfl⟩ <;> simp [run_bound rfl hij, run_bound rfl hjc]
  simp [execOp, ho, hf.eval hx, optE_eval hf hl, optE_eval hf hh, Instr.sliceAt, Instr.sureAddr, run_und ht, run_szOf hm, hb]

end
end Go.Eng
