/- The engine, part six: small steps for proofs. -/
import Derived.Test.YtfnekbnlokigcaaEngM
set_option linter.unusedVariables false
namespace Go.Eng
open Go

section
variable {P : Program} {n : Nat} {ds : List Deferred} {ops : List Oper} {Q : PostE} {E : Env} {w w' : World} {o : Oper} {l : List Oper} {A : Addr} {cs : List Value} {X : List Nat} {K : Env → World → Prop} {id : Nat}

theorem thenE_normal (h : K E w) : thenE K Q .normal E w := h
theorem thenE_exit {j : Nat} (h : Q (.exit j) E w) : thenE K Q (.exit j) E w := h
theorem thenE_ret (h : Q .ret E w) : thenE K Q .ret E w := h
theorem thenE_panic {c : List PanicEntry} (h : Q (.panic c) E w) : thenE K Q (.panic c) E w := h
theorem blockE_normal (h : Q .normal E w) : blockE id Q .normal E w := h
theorem blockE_ret (h : Q .ret E w) : blockE id Q .ret E w := h
theorem blockE_panic {c : List PanicEntry} (h : Q (.panic c) E w) : blockE id Q (.panic c) E w := h
theorem blockE_same (h : Q .normal E w) : blockE id Q (.exit id) E w := by
  simp only [blockE]
  have : Nat.beq id id = true := by simp
  rw [this]; exact h
theorem blockE_other {j : Nat} (hj : Nat.beq j id = false) (h : Q (.exit j) E w) : blockE id Q (.exit j) E w := by
  simp only [blockE]
  rw [hj]; exact h

theorem sub_nil : ∀ t v, get [] t = some v → get E t = some v := fun t v h => by cases h
theorem sub_cons {k : Nat} {u : Value} {E0 : Env} (h : get E k = some u) (hr : ∀ t v, get E0 t = some v → get E t = some v) : ∀ t v, get ((k, u) :: E0) t = some v → get E t = some v := fun t v ht => by
  rw [get_cons] at ht
  by_cases hk : k = t
  · subst hk; simp at ht; rw [h, ht]
  · simp only [hk, if_false] at ht; exact hr t v ht

/-- A region in the order of its text, whatever follows. -/
theorem sub_int {k : Nat} {ik : IntKind} {a b : Int} {E0 : Env} (h : get E k = some (.int ik a)) (hab : a = b) (hr : ∀ t v, get E0 t = some v → get E t = some v) : ∀ t v, get ((k, .int ik b) :: E0) t = some v → get E t = some v :=
  sub_cons (hab ▸ h) hr
theorem Sx.textR {ro : Option Nat} (h : Ox P n ds ops Q ops E w) : Sx ro P n ds (.region id ops.toArray false) Q E w := fun a ha hd => wpIn_region_lit (listE_wpIn ro _ _ _ (h a ha hd))
theorem Sx.walkR {ro : Option Nat} (hm : P.follows .mixedOrders = true) (hq : Calm Q) (L dets : List Nat) (m : Nat) (hok : (Region.noSelect ops.toArray && walkOk ops dets m [] L && L.length + m == ops.length) = true)
    (h : Calm Q → ∀ w0, Ext [] w w0 → Wx P n ds ops Q dets [] L m [] E w0) : Sx ro P n ds (.region id ops.toArray true) Q E w := by
  simp only [Bool.and_eq_true, beq_iff_eq] at hok
  obtain ⟨⟨h1, h2⟩, h3⟩ := hok
  refine fun a ha hd => wpIn_region_any hm ?_
  have := h hq { w with drawn := w.drawn + 1 } (Ext.draw _ _) h1 h2 (fun k o _ hk => by
    simp only [listedOf] at hk
    rcases Nat.lt_or_ge k ops.length with h' | h' <;> simp [h'] at hk) (fun p hp => by cases hp) a ha hd
  have h4 := wpAny_of_G ro _ _ _ _ _ this
  rw [h3] at h4
  simpa [listedOf] using h4

/-- Cut behind a piece: what the rest needs of the environment, and what holds of the world. -/
theorem Sx.cut {ro : Option Nat} {ι : Type} {x y : Code} (F : ι → Env) (R : ι → World → Prop) (hx : Sx ro P n ds x (thenE (fun E' w' => ∃ i, (∀ t v, get (F i) t = some v → get E' t = some v) ∧ R i w') Q) E w)
    (hy : ∀ i w', R i w' → Sx ro P n ds y Q (F i) w') : Sx ro P n ds (.seq x y) Q E w :=
  Sx.seq (hx.mono fun e E' w' he => by
    cases e with
    | normal => obtain ⟨i, h1, h2⟩ := he; exact (hy i w' h2).weaken h1
    | _ => exact he)

/-! ### Fitting numbers, decided tests -/

theorem binI_t {p : Prop} [Decidable p] (h : p) : (some (Value.bool (decide p)) : Option Value) = some (.bool true) := by rw [decide_eq_true h]
theorem binI_f {p : Prop} [Decidable p] (h : ¬ p) : (some (Value.bool (decide p)) : Option Value) = some (.bool false) := by rw [decide_eq_false h]
theorem binS_t {b : Bool} (h : b = true) : (some (Value.bool b) : Option Value) = some (.bool true) := by rw [h]
theorem binS_f {b : Bool} (h : b = false) : (some (Value.bool b) : Option Value) = some (.bool false) := by rw [h]
theorem rp_conv_fit {s t : TypeId} {x : Operand} {k k' : IntKind} {a : Int} {d : TypeDesc} (ho : o.op = .convert s t x) (hs : P.underlying s = some d) (ht : P.underlying t = some (.int k')) (hx : ev E x = some (.int k a)) (hf : k'.wrap a = a) :
    RunP P n E o (.int k' a) := by
  have := rp_conv (n := n) ho hs ht hx
  rwa [hf] at this
theorem rp_neg_fit {t : TypeId} {x : Operand} {k : IntKind} {a : Int} (ho : o.op = .unOp .neg t x) (hx : ev E x = some (.int k a)) (hf : k.wrap (0 - a) = 0 - a) : RunP P n E o (.int k (0 - a)) := by
  have := rp_neg (P := P) (n := n) ho hx
  rwa [hf] at this

/-- Up to the end of a piece: what holds there, and then the rest. -/
theorem Sx.upto {ro : Option Nat} {c : Code} (M : Env → World → Prop) (h : Sx ro P n ds c (thenE M Q) E w) (hM : ∀ E' w', M E' w' → Q .normal E' w') : Sx ro P n ds c Q E w :=
  h.mono fun e E w he => by cases e <;> first | exact hM _ _ he | exact he

theorem rp_lenL {x : Operand} {t : TypeId} {s : List UInt8} (ho : o.op = .call { callee := .builtin .len, args := #[x], argTypes := #[t] }) (ht : P.underlying t = some .string) (hx : ev E x = some (.string ⟨s.toArray⟩)) : RunP P n E o (.int .i64 (s.length : Int)) := by
  have := rp_lenT (P := P) (n := n) ho ht hx
  rwa [show (ByteArray.mk s.toArray).size = s.length by simp [ByteArray.size]] at this
theorem tdiv_nat (a b : Nat) : ((a : Int).tdiv (b : Int)) = ((a / b : Nat) : Int) := by
  rw [Int.tdiv_eq_ediv_of_nonneg (by omega)]; rfl
/-- A natural number's quotient. -/
theorem quo_nat {t t' : TypeId} {x y : Operand} {k : IntKind} {a b : Nat} (ho : o.op = .binOp .quo t x y t') (hx : ev E x = some (.int k (a : Int))) (hy : ev E y = some (.int k (b : Int))) (hb : b ≠ 0) (hf : k.wrap ((a / b : Nat) : Int) = ((a / b : Nat) : Int)) : RunP P n E o (.int k ((a / b : Nat) : Int)) := by
  have := rp_quo (P := P) (n := n) ho hx hy (by omega)
  rwa [tdiv_nat, hf] at this
theorem rem_nat {t t' : TypeId} {x y : Operand} {k : IntKind} {a b : Nat} (ho : o.op = .binOp .rem t x y t') (hx : ev E x = some (.int k (a : Int))) (hy : ev E y = some (.int k (b : Int))) (hb : b ≠ 0) : RunP P n E o (.int k ((a % b : Nat) : Int)) := by
  have := rp_rem (P := P) (n := n) ho hx hy (by omega)
  rwa [Int.tmod_eq_emod_of_nonneg (by omega), ← Int.natCast_emod] at this
theorem beq_dec (a b : List UInt8) : (a == b) = decide (a = b) := by
  by_cases h : a = b
  · rw [decide_eq_true h, beq_iff_eq]; exact h
  · rw [decide_eq_false h]; exact beq_eq_false_iff_ne.mpr h
theorem rp_strEq {t t' : TypeId} {x y : Operand} {a b : List UInt8} (ho : o.op = .binOp .eql t x y t') (hx : ev E x = some (.string ⟨a.toArray⟩)) (hy : ev E y = some (.string ⟨b.toArray⟩)) : RunP P n E o (.bool (decide (a = b))) :=
  rp_binS ho hx hy (by simp [binS, ByteArray.toList_mk, beq_dec])
theorem rp_strNe {t t' : TypeId} {x y : Operand} {a b : List UInt8} (ho : o.op = .binOp .neq t x y t') (hx : ev E x = some (.string ⟨a.toArray⟩)) (hy : ev E y = some (.string ⟨b.toArray⟩)) : RunP P n E o (.bool (decide (a ≠ b))) :=
  rp_binS ho hx hy (by simp [binS, ByteArray.toList_mk, beq_dec])
theorem rp_strEq_t {t t' : TypeId} {x y : Operand} {a b : List UInt8} (ho : o.op = .binOp .eql t x y t') (hx : ev E x = some (.string ⟨a.toArray⟩)) (hy : ev E y = some (.string ⟨b.toArray⟩)) (h : a = b) : RunP P n E o (.bool true) := by
  have := rp_strEq (P := P) (n := n) ho hx hy; rwa [decide_eq_true h] at this
theorem rp_strEq_f {t t' : TypeId} {x y : Operand} {a b : List UInt8} (ho : o.op = .binOp .eql t x y t') (hx : ev E x = some (.string ⟨a.toArray⟩)) (hy : ev E y = some (.string ⟨b.toArray⟩)) (h : a ≠ b) : RunP P n E o (.bool false) := by
  have := rp_strEq (P := P) (n := n) ho hx hy; rwa [decide_eq_false h] at this
theorem rp_strNe_t {t t' : TypeId} {x y : Operand} {a b : List UInt8} (ho : o.op = .binOp .neq t x y t') (hx : ev E x = some (.string ⟨a.toArray⟩)) (hy : ev E y = some (.string ⟨b.toArray⟩)) (h : a ≠ b) : RunP P n E o (.bool true) := by
  have := rp_strNe (P := P) (n := n) ho hx hy; rwa [decide_eq_true h] at this
theorem rp_strNe_f {t t' : TypeId} {x y : Operand} {a b : List UInt8} (ho : o.op = .binOp .neq t x y t') (hx : ev E x = some (.string ⟨a.toArray⟩)) (hy : ev E y = some (.string ⟨b.toArray⟩)) (h : a = b) : RunP P n E o (.bool false) := by
  have := rp_strNe (P := P) (n := n) ho hx hy; rwa [decide_eq_false (by simpa using h)] at this

/-! ### Bits of naturals -/
theorem ofInt_nat (m a : Nat) : (BitVec.ofInt m (a : Int)) = BitVec.ofNat m a := by
  apply BitVec.eq_of_toNat_eq; simp [BitVec.toNat_ofInt]
  try (rw [← Int.natCast_pow, ← Int.natCast_emod]; simp)
theorem or_u64 {a b : Nat} (ha : a < 18446744073709551616) (hb : b < 18446744073709551616) : binI .or .u64 (a : Int) (b : Int) = some (.int .u64 ((a ||| b : Nat) : Int)) := by
  have h1 : (BitVec.ofInt 64 (a : Int) ||| BitVec.ofInt 64 (b : Int)).toNat = a ||| b := by
    rw [ofInt_nat, ofInt_nat, BitVec.toNat_or, BitVec.toNat_ofNat, BitVec.toNat_ofNat, Nat.mod_eq_of_lt ha, Nat.mod_eq_of_lt hb]
  have h2 : (BitVec.ofInt IntKind.u64.bits (a : Int) ||| BitVec.ofInt IntKind.u64.bits (b : Int)).toNat = a ||| b := h1
  have h3 : a ||| b < 2 ^ 64 := Nat.or_lt_two_pow ha hb
  simp only [binI, h2]
  rw [wrapu64 (by omega)]
theorem or_add_u64 {a y s : Nat} (ha : a < 2 ^ s) (hb : y * 2 ^ s < 18446744073709551616) (hs : a < 18446744073709551616) : binI .or .u64 (a : Int) ((y * 2 ^ s : Nat) : Int) = some (.int .u64 ((a + y * 2 ^ s : Nat) : Int)) := by
  rw [or_u64 hs hb, Nat.or_comm, Nat.mul_comm y, ← Nat.two_pow_add_eq_or_of_lt ha, Nat.add_comm]
theorem shl_u64 {t t' : TypeId} {x y : Operand} {k' : IntKind} {a : Nat} {b : Int} (m : Nat) (ho : o.op = .binOp .shl t x y t') (hx : ev E x = some (.int .u64 (a : Int))) (hy : ev E y = some (.int k' b)) (hb : b = (m : Int)) (hm : m ≤ 63) (hf : a * 2 ^ m < 18446744073709551616) :
    RunP P n E o (.int .u64 ((a * 2 ^ m : Nat) : Int)) := by
  have := rp_shl (P := P) (n := n) m ho hx hy ⟨by omega, by simp only [IntKind.bits]; omega⟩
  rw [show (a : Int) * 2 ^ m = ((a * 2 ^ m : Nat) : Int) by simp, wrapu64 (by omega)] at this
  exact this
theorem and127 (c : UInt8) : binI .and .u8 (c.toNat : Int) 127 = some (.int .u8 ((c.toNat % 128 : Nat) : Int)) := by
  have h1 : (BitVec.ofInt 8 (c.toNat : Int) &&& BitVec.ofInt 8 127).toNat = c.toNat % 128 := by
    rw [ofInt_nat, show BitVec.ofInt 8 127 = BitVec.ofNat 8 127 by decide, BitVec.toNat_and, BitVec.toNat_ofNat, BitVec.toNat_ofNat]
    have : ∀ k < 256, (k &&& 127 % 2 ^ 8) = k % 128 := by decide +kernel
    rw [this _ (Nat.mod_lt _ (by decide))]
    omega
  have h2 : (BitVec.ofInt IntKind.u8.bits (c.toNat : Int) &&& BitVec.ofInt IntKind.u8.bits 127).toNat = c.toNat % 128 := h1
  simp only [binI, h2]
  rw [wrapu8 (by omega)]

/-- A panic with one entry. -/
abbrev pan (t : TypeId) (v : Value) : List PanicEntry := [{ v := .iface t v, recovered := false }]

end
end Go.Eng
