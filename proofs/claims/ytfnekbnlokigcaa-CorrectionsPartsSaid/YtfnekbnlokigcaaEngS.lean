/- The engine, part ten: structs held against each other; rows of structs; predicates handed over. -/
import Derived.Test.YtfnekbnlokigcaaEngT
import Derived.Laws.StructEq
set_option linter.unusedVariables false
set_option linter.unusedSimpArgs false
namespace Go.Eng
open Go

section
variable {P : Program} {n : Nat} {ds : List Deferred} {Q : PostE} {E : Env} {w : World} {o : Oper}

/-! ## Equality of structs -/

theorem eqf_nil (d : Nat) (xs ys : Array Value) (w : World) : (Op.eqFields d xs ys []).run P w = .ok true w := rfl
theorem run_part {t : TypeId} {xs : Array Value} {off : Nat} {v : Value} (ha : aggOf P t = some false) (h : xs[off]? = some v) (w : World) : (part t xs off).run P w = .ok v w := by
  simp [part, run_agg ha, h]
theorem run_partA {t : TypeId} {xs : Array Value} {off m : Nat} (ha : aggOf P t = some true) (hm : szOf P t = some m) (w : World) : (part t xs off).run P w = .ok (.agg (xs.extract off (off + m))) w := by
  simp [part, run_agg ha, run_szOf hm]

theorem eqf_step {d : Nat} {xs ys : Array Value} {f : Field} {fs : List Field} {x y : Value} {q r : Bool} (hn : f.name ≠ "_")
    (hx : (part f.type xs f.offset).run P w = .ok x w) (hy : (part f.type ys f.offset).run P w = .ok y w) (hq : (Op.equalIn d f.type x y).run P w = .ok q w) (hr : (Op.eqFields d xs ys fs).run P w = .ok r w) :
    (Op.eqFields d xs ys (f :: fs)).run P w = .ok (q && r) w := by
  simp only [Op.eqFields, ne_eq, hn, not_false_eq_true, if_true, Sem.run_bind, hx, hy, hq, Result.andThen_ok]
  cases q <;> simp [hr]
theorem eqf_int {d : Nat} {xs ys : Array Value} {f : Field} {fs : List Field} {k k' : IntKind} {a b : Int} {r : Bool} (hn : f.name ≠ "_") (ha : aggOf P f.type = some false) (hu : P.underlying f.type = some (.int k'))
    (hx : xs[f.offset]? = some (.int k a)) (hy : ys[f.offset]? = some (.int k b)) (hr : (Op.eqFields (d + 1) xs ys fs).run P w = .ok r w) : (Op.eqFields (d + 1) xs ys (f :: fs)).run P w = .ok (decide (a = b) && r) w :=
  eqf_step hn (run_part ha hx w) (run_part ha hy w) (by rw [run_equalIn_int w d f.type k k' a b hu]; simp [Bool.beq_eq_decide_eq]) hr
theorem eqf_str {d : Nat} {xs ys : Array Value} {f : Field} {fs : List Field} {a b : List UInt8} {r : Bool} (hn : f.name ≠ "_") (ha : aggOf P f.type = some false) (hu : P.underlying f.type = some .string)
    (hx : xs[f.offset]? = some (.string ⟨a.toArray⟩)) (hy : ys[f.offset]? = some (.string ⟨b.toArray⟩)) (hr : (Op.eqFields (d + 1) xs ys fs).run P w = .ok r w) : (Op.eqFields (d + 1) xs ys (f :: fs)).run P w = .ok (decide (a = b) && r) w :=
  eqf_step hn (run_part ha hx w) (run_part ha hy w) (by rw [run_equalIn_string w d f.type _ _ hu]; simp [ByteArray.toList_mk, beq_dec]) hr
theorem eqf_bool {d : Nat} {xs ys : Array Value} {f : Field} {fs : List Field} {a b : Bool} {r : Bool} (hn : f.name ≠ "_") (ha : aggOf P f.type = some false) (hu : P.underlying f.type = some .bool)
    (hx : xs[f.offset]? = some (.bool a)) (hy : ys[f.offset]? = some (.bool b)) (hr : (Op.eqFields (d + 1) xs ys fs).run P w = .ok r w) : (Op.eqFields (d + 1) xs ys (f :: fs)).run P w = .ok (decide (a = b) && r) w :=
  eqf_step hn (run_part ha hx w) (run_part ha hy w) (by rw [run_equalIn_bool' w d f.type a b hu]; cases a <;> cases b <;> rfl) hr
theorem eqf_sub {d : Nat} {xs ys : Array Value} {f : Field} {fs : List Field} {m : Nat} {q r : Bool} (hn : f.name ≠ "_") (ha : aggOf P f.type = some true) (hm : szOf P f.type = some m)
    (hq : (Op.equalIn d f.type (.agg (xs.extract f.offset (f.offset + m))) (.agg (ys.extract f.offset (f.offset + m)))).run P w = .ok q w) (hr : (Op.eqFields d xs ys fs).run P w = .ok r w) : (Op.eqFields d xs ys (f :: fs)).run P w = .ok (q && r) w :=
  eqf_step hn (run_partA ha hm w) (run_partA ha hm w) hq hr
theorem eqs {d : Nat} {t : TypeId} {xs ys : Array Value} {fs : Array Field} {r : Bool} (ht : P.underlying t = some (.struct fs)) (hp : P.stoodInHeld t = false) (hr : (Op.eqFields d xs ys fs.toList).run P w = .ok r w) :
    (Op.equalIn (d + 1) t (.agg xs) (.agg ys)).run P w = .ok r w := by
  have hf : P.fieldsOf t = fs := by unfold Program.fieldsOf; rw [ht]
  rw [run_equalIn_struct w d t xs ys (by rw [hf]; exact ht) hp, hf]; exact hr

theorem rp_eqA {t t' : TypeId} {x y : Operand} {xs ys : Array Value} {r : Bool} (ho : o.op = .binOp .eql t x y t') (hg : P.eqGuardType P.depth t = false) (hx : ev E x = some (.agg xs)) (hy : ev E y = some (.agg ys))
    (h : ∀ w, (Op.equalIn (9999 + 1) t (.agg xs) (.agg ys)).run P w = .ok r w) : RunP P n E o (.bool r) := by
  intro f u hf
  have hgd : (eqGuard .eql t x y (.agg xs) (.agg ys)).run P u = .ok () u := by simp [eqGuard, hg]
  have hb : (binOp .eql t (.agg xs) (.agg ys)).run P u = .ok (.bool r) u := by
    show ((do pure (.bool (← Op.equal t (.agg xs) (.agg ys))) : Sem Value)).run P u = _
    simp only [Op.equal, Op.maxDepth, Sem.run_bind, h u, Result.andThen_ok, Sem.run_pure]
  simp only [execOp, ho, hf.eval hx, hf.eval hy, Sem.run_bind, hgd, hb, Result.andThen_ok, Sem.run_pure]
theorem rp_neA {t t' : TypeId} {x y : Operand} {xs ys : Array Value} {r : Bool} (ho : o.op = .binOp .neq t x y t') (hg : P.eqGuardType P.depth t = false) (hx : ev E x = some (.agg xs)) (hy : ev E y = some (.agg ys))
    (h : ∀ w, (Op.equalIn (9999 + 1) t (.agg xs) (.agg ys)).run P w = .ok r w) : RunP P n E o (.bool (!r)) := by
  intro f u hf
  have hgd : (eqGuard .neq t x y (.agg xs) (.agg ys)).run P u = .ok () u := by simp [eqGuard, hg]
  have hb : (binOp .neq t (.agg xs) (.agg ys)).run P u = .ok (.bool (!r)) u := by
    show ((do pure (.bool (!(← Op.equal t (.agg xs) (.agg ys)))) : Sem Value)).run P u = _
    simp only [Op.equal, Op.maxDepth, Sem.run_bind, h u, Result.andThen_ok, Sem.run_pure]
  simp only [execOp, ho, hf.eval hx, hf.eval hy, Sem.run_bind, hgd, hb, Result.andThen_ok, Sem.run_pure]

theorem rp_eqA_t {t t' : TypeId} {x y : Operand} {xs ys : Array Value} {p : Prop} [Decidable p] (ho : o.op = .binOp .eql t x y t') (hg : P.eqGuardType P.depth t = false) (hx : ev E x = some (.agg xs)) (hy : ev E y = some (.agg ys))
    (h : ∀ w, (Op.equalIn (9999 + 1) t (.agg xs) (.agg ys)).run P w = .ok (decide p) w) (hp : p) : RunP P n E o (.bool true) := by
  have := rp_eqA (n := n) ho hg hx hy h; rwa [decide_eq_true hp] at this
theorem rp_eqA_f {t t' : TypeId} {x y : Operand} {xs ys : Array Value} {p : Prop} [Decidable p] (ho : o.op = .binOp .eql t x y t') (hg : P.eqGuardType P.depth t = false) (hx : ev E x = some (.agg xs)) (hy : ev E y = some (.agg ys))
    (h : ∀ w, (Op.equalIn (9999 + 1) t (.agg xs) (.agg ys)).run P w = .ok (decide p) w) (hp : ¬ p) : RunP P n E o (.bool false) := by
  have := rp_eqA (n := n) ho hg hx hy h; rwa [decide_eq_false hp] at this
theorem rp_neA_t {t t' : TypeId} {x y : Operand} {xs ys : Array Value} {p : Prop} [Decidable p] (ho : o.op = .binOp .neq t x y t') (hg : P.eqGuardType P.depth t = false) (hx : ev E x = some (.agg xs)) (hy : ev E y = some (.agg ys))
    (h : ∀ w, (Op.equalIn (9999 + 1) t (.agg xs) (.agg ys)).run P w = .ok (decide p) w) (hp : ¬ p) : RunP P n E o (.bool true) := by
  have := rp_neA (n := n) ho hg hx hy h; rwa [decide_eq_false hp] at this
theorem rp_neA_f {t t' : TypeId} {x y : Operand} {xs ys : Array Value} {p : Prop} [Decidable p] (ho : o.op = .binOp .neq t x y t') (hg : P.eqGuardType P.depth t = false) (hx : ev E x = some (.agg xs)) (hy : ev E y = some (.agg ys))
    (h : ∀ w, (Op.equalIn (9999 + 1) t (.agg xs) (.agg ys)).run P w = .ok (decide p) w) (hp : p) : RunP P n E o (.bool false) := by
  have := rp_neA (n := n) ho hg hx hy h; rwa [decide_eq_true hp] at this
theorem rp_fieldAddr2 {t : TypeId} {x : Operand} {i j : Nat} {A : Addr} {ft off m : Nat} (ho : o.op = .fieldAddr t x i) (hf' : fieldOf P t i = some (ft, off)) (hm : szOf P ft = some (m + 1)) (hx : ev E x = some (.pointer (some (A.add j)))) :
    RunP P n E o (.pointer (some (A.add (j + off)))) := by
  have := rp_fieldAddr (P := P) (n := n) ho hf' hm hx
  rwa [addr_add_add] at this

/-! ## Rows -/

def rowsV {α : Type} (enc : α → List Value) (l : List α) : List Value := l.flatMap enc

section
variable {α : Type} {enc : α → List Value} {m : Nat}
theorem rowsV_nil : rowsV enc [] = [] := rfl
theorem rowsV_cons (a : α) (l : List α) : rowsV enc (a :: l) = enc a ++ rowsV enc l := rfl
theorem rowsV_append (a b : List α) : rowsV enc (a ++ b) = rowsV enc a ++ rowsV enc b := by simp [rowsV]
theorem rowsV_one (a : α) : rowsV enc [a] = enc a := by simp [rowsV]
theorem rowsV_length (h : ∀ a, (enc a).length = m) : ∀ l : List α, (rowsV enc l).length = l.length * m
  | [] => by simp [rowsV]
  | a :: l => by rw [rowsV_cons, List.length_append, h, rowsV_length h l, List.length_cons, Nat.add_mul]; omega
theorem rowsV_at (h : ∀ a, (enc a).length = m) : ∀ {l : List α} {i : Nat} (hi : i < l.length), ((rowsV enc l).drop (i * m)).take m = enc l[i]
  | a :: l, 0, hi => by rw [Nat.zero_mul, List.drop_zero, rowsV_cons, ← h a, List.take_left]; rfl
  | a :: l, i + 1, hi => by
    rw [rowsV_cons, show (i + 1) * m = (enc a).length + i * m by rw [h a, Nat.add_mul]; omega, ← List.drop_drop, List.drop_left]
    exact rowsV_at h (i := i) (by simpa using hi)
theorem rowsV_take (h : ∀ a, (enc a).length = m) (l : List α) (k : Nat) : (rowsV enc l).take (k * m) = rowsV enc (l.take k) := by
  rcases Nat.le_total k l.length with hk | hk
  · conv => lhs; rw [← List.take_append_drop k l, rowsV_append]
    rw [List.take_left' (by rw [rowsV_length h, List.length_take, Nat.min_eq_left hk])]
  · rw [List.take_of_length_le hk, List.take_of_length_le (by rw [rowsV_length h]; exact Nat.mul_le_mul_right _ hk)]
theorem rowsV_drop (h : ∀ a, (enc a).length = m) (l : List α) (k : Nat) : (rowsV enc l).drop (k * m) = rowsV enc (l.drop k) := by
  rcases Nat.le_total k l.length with hk | hk
  · conv => lhs; rw [← List.take_append_drop k l, rowsV_append]
    rw [List.drop_left' (by rw [rowsV_length h, List.length_take, Nat.min_eq_left hk])]
  · rw [List.drop_eq_nil_of_le (by rw [rowsV_length h]; exact Nat.mul_le_mul_right _ hk), List.drop_eq_nil_of_le hk]; rfl
theorem rowsV_all (h : ∀ a, ∀ u ∈ enc a, u.oneCell' = true) (l : List α) : ∀ u ∈ rowsV enc l, u.oneCell' = true := fun u hu => by
  obtain ⟨a, _, hm⟩ := List.mem_flatMap.1 hu; exact h a u hm

/-- An element of a slice is read. -/
theorem ld_elem (h : ∀ a, (enc a).length = m) {t : TypeId} {A : Addr} {l : List α} (hc : Cells w A (rowsV enc l)) {i : Nat} (hi : i < l.length) (ht : aggOf P t = some true) (hm : szOf P t = some m) : Ld P w t (A.add (i * m)) (.agg (enc l[i]).toArray) :=
  hc.ldP (i * m) ht hm (rowsV_at h hi) (h _)
end

theorem over_rowsV {α : Type} {enc : α → List Value} {m : Nat} (h : ∀ a, (enc a).length = m) {l : List α} {i : Nat} (hi : i < l.length) (a : α) : over (rowsV enc l) (i * m) (enc a) = rowsV enc (l.set i a) := by
  unfold over
  rw [rowsV_take h, h a, show i * m + m = (i + 1) * m by rw [Nat.add_mul]; omega, rowsV_drop h, List.set_eq_take_append_cons_drop, if_pos hi, rowsV_append, rowsV_cons, List.append_assoc]
/-- A store into an element of a block's row. -/
theorem acts_store_row {α : Type} {enc : α → List Value} {m : Nat} (h : ∀ a, (enc a).length = m) {t : TypeId} {x y : Operand} {v : Value} {b : Nat} {bt : TypeId} {l : List α} {i : Nat} (a : α) (ho : o.op = .store t x y) (hx : ev E x = some (.pointer (some ((⟨b, 0, none⟩ : Addr).add (i * m)))))
    (hy : ev E y = some v) (hv : v.cells.toList = enc a) (hm : szOf P t = some m) (hB : Blk w b bt (rowsV enc l)) (hi : i < l.length) (h1 : ∀ u ∈ enc a, u.oneCell' = true) :
    Acts P n ds E o w (fun u w' => u = undef ∧ Ext [b] w w' ∧ Blk w' b bt (rowsV enc (l.set i a))) Q := by
  have hsz : v.cells.size = m := by rw [← Array.length_toList, hv, h]
  have hfit : i * m + v.cells.size ≤ (rowsV enc l).length := by
    rw [rowsV_length h, hsz]
    have : (i + 1) * m ≤ l.length * m := Nat.mul_le_mul_right _ hi
    rw [Nat.add_mul] at this; omega
  have := acts_store (Q := Q) (ds := ds) (n := n) ho hx rfl hy (hsz ▸ hm) hB hfit (by rw [hv]; exact h1)
  rwa [hv, over_rowsV h hi] at this
/-- New memory, its zeros as a list. -/
theorem acts_alloc_z {t : TypeId} {cs : List Value} (ho : o.op = .alloc t) (hz : (zrOf P t).map (fun z => z.cells.toList) = some cs) : Acts P n ds E o w (NewBlk w t cs) Q := by
  obtain ⟨z, h1, rfl⟩ := Option.map_eq_some_iff.1 hz
  exact acts_alloc ho h1

/-- A slice of elements. -/
structure SlV {α : Type} (enc : α → List Value) (w : World) (p : Option Addr) (A : Addr) (l : List α) (cap : Nat) : Prop where
  ptr : 0 < l.length → p = some A
  row : Cells w A (rowsV enc l)
  le : l.length ≤ cap
  small : cap ≤ 9223372036854775807
  few : l.length ≤ 140737488355328
theorem SlV.ext {α : Type} {enc : α → List Value} {w w' : World} {p : Option Addr} {A : Addr} {l : List α} {cap : Nat} {X : List Nat} (h : SlV enc w p A l cap) (he : Ext X w w') (hx : A.block ∉ X) : SlV enc w' p A l cap := ⟨h.ptr, h.row.ext he hx, h.le, h.small, h.few⟩
theorem SlV.ext0 {α : Type} {enc : α → List Value} {w w' : World} {p : Option Addr} {A : Addr} {l : List α} {cap : Nat} (h : SlV enc w p A l cap) (he : Ext [] w w') : SlV enc w' p A l cap := h.ext he (by simp)
theorem SlV.nil {α : Type} (enc : α → List Value) (w : World) : SlV enc w none ⟨0, 0, none⟩ ([] : List α) 0 := ⟨by simp, cells_nil _ _, by simp, by simp, by simp⟩
theorem SlV.of_own {α : Type} {enc : α → List Value} {m : Nat} {base : Nat} {e : TypeId} {v : Value} {l : List α} (h : w.ownsRow base e m v l.length (rowsV enc l)) (hf : l.length ≤ 140737488355328) :
    ∃ p cap A, v = .slice p l.length cap ∧ SlV enc w p A l cap ∧ (0 < l.length → base ≤ A.block ∧ A.block < w.heap.size) := by
  obtain ⟨p, cap, A, h1, h2, h3, h4, h5, _⟩ := own_sl h
  exact ⟨p, cap, A, h1, ⟨h2.1, h2.2, h3, h4, hf⟩, h5⟩
theorem SlV.src {α : Type} {enc : α → List Value} {m : Nat} {p : Option Addr} {A : Addr} {l : List α} {cap : Nat} {tx e' : TypeId} (h : SlV enc w p A l cap) (hk : P.underlying tx = some (.slice e')) (hm : ∀ a, (enc a).length = m) (h1 : ∀ a, ∀ u ∈ enc a, u.oneCell' = true) :
    Src P m tx (.slice p l.length cap) l.length (rowsV enc l) w :=
  source_slice hk (rowsV_length hm l) h.ptr h.row (rowsV_all h1 l)

/-! ## Rows of one's own, as blocks -/

theorem own_blk {base : Nat} {e : TypeId} {size : Nat} {v : Value} {k : Nat} {xs : List Value} (h : w.ownsRow base e size v k xs) (hk : 0 < k) :
    ∃ g cap cs, v = .slice (some ⟨g, 0, none⟩) k cap ∧ base ≤ g ∧ Blk w g e (xs ++ cs) ∧ (xs ++ cs).length = cap * size ∧ k ≤ cap ∧ cap ≤ 9223372036854775807 ∧ xs.length = k * size := by
  obtain ⟨hl, h | ⟨g, cap, cur, rfl, hb, hg, hk', hc, hs, ht⟩⟩ := h
  · omega
  · refine ⟨g, cap, cur.toList.drop (k * size), rfl, hb, ?_, ?_, hk', by unfold maxLen at hc; omega, hl⟩
    · rw [← ht, List.take_append_drop]; simpa [Blk] using hg
    · rw [← ht, List.take_append_drop]; simpa using hs
theorem blk_own {base : Nat} {e : TypeId} {size : Nat} {g cap k : Nat} {xs cs : List Value} (hb : base ≤ g) (hB : Blk w g e (xs ++ cs)) (hl : (xs ++ cs).length = cap * size) (hk : k ≤ cap) (hc : cap ≤ 9223372036854775807) (hx : xs.length = k * size) :
    w.ownsRow base e size (.slice (some ⟨g, 0, none⟩) k cap) k xs :=
  ⟨hx, .inr ⟨g, cap, (xs ++ cs).toArray, rfl, hb, hB, hk, by unfold maxLen; omega, by simpa using hl, by simp [← hx]⟩⟩
theorem over_left {a b news : List Value} {off : Nat} (h : off + news.length ≤ a.length) : over (a ++ b) off news = over a off news ++ b := by
  unfold over
  rw [List.take_append_of_le_length (by omega), List.drop_append_of_le_length (by omega)]
  simp

/-- A store into an element of a row of one's own. -/
theorem acts_store_own {α : Type} {enc : α → List Value} {m : Nat} (h : ∀ a, (enc a).length = m) {t et : TypeId} {x y : Operand} {v : Value} {base : Nat} {p : Option Addr} {A : Addr} {c : Nat} {l : List α} {i : Nat} (a : α) (ho : o.op = .store t x y)
    (hx : ev E x = some (.pointer (some (A.add (i * m))))) (hy : ev E y = some v) (hv : v.cells.toList = enc a) (hm : szOf P t = some m) (hown : w.ownsRow base et m (.slice p l.length c) l.length (rowsV enc l)) (hp : 0 < l.length → p = some A) (hi : i < l.length) (h1 : ∀ u ∈ enc a, u.oneCell' = true) :
    Acts P n ds E o w (fun u w' => u = undef ∧ Ext (Value.slice p l.length c).ownBlock.toList w w' ∧ w'.ownsRow base et m (.slice p l.length c) l.length (rowsV enc (l.set i a))) Q := by
  obtain ⟨g, cap, cs, he, hb, hB, hl, hkc, hcc, hxl⟩ := own_blk hown (by omega)
  have hp' := hp (by omega)
  simp only [Value.slice.injEq, true_and] at he
  obtain ⟨rfl, rfl⟩ := he
  simp only [Option.some.injEq] at hp'
  subst hp'
  have hsz : v.cells.size = m := by rw [← Array.length_toList, hv, h]
  have hfit0 : i * m + m ≤ (rowsV enc l).length := by
    rw [rowsV_length h]
    have : (i + 1) * m ≤ l.length * m := Nat.mul_le_mul_right _ hi
    rw [Nat.add_mul] at this; omega
  have hst := acts_store (Q := Q) (ds := ds) (n := n) ho hx rfl hy (hsz ▸ hm) hB (by rw [List.length_append, hsz]; omega) (by rw [hv]; exact h1)
  rw [hv, over_left (by rw [h]; exact hfit0), over_rowsV h hi] at hst
  refine hst.mono fun u w' ⟨h5, h6, h7⟩ => ⟨h5, by simpa [Value.ownBlock] using h6, blk_own hb h7 ?_ hkc hcc (by rw [rowsV_length h, List.length_set])⟩
  rw [List.length_append, rowsV_length h, List.length_set, ← rowsV_length h, ← List.length_append]; exact hl

theorem over_mid {a b c vs : List Value} {off : Nat} (h : off + vs.length ≤ b.length) : over (a ++ (b ++ c)) (a.length + off) vs = a ++ (over b off vs ++ c) := by
  unfold over
  rw [List.take_length_add_append, Nat.add_assoc, List.drop_length_add_append, List.take_append_of_le_length (by omega), List.drop_append_of_le_length (by omega)]
  simp
theorem over_rowsV_at {α : Type} {enc : α → List Value} {m : Nat} (h : ∀ a, (enc a).length = m) {l : List α} {i : Nat} (hi : i < l.length) (a : α) {off : Nat} {vs : List Value} (hoff : off + vs.length ≤ m) (ha : over (enc l[i]) off vs = enc a) : over (rowsV enc l) (i * m + off) vs = rowsV enc (l.set i a) := by
  have h1 : l = l.take i ++ l[i] :: l.drop (i + 1) := by rw [List.getElem_cons_drop, List.take_append_drop]
  have h2 : rowsV enc l = rowsV enc (l.take i) ++ (enc l[i] ++ rowsV enc (l.drop (i + 1))) := by
    conv => lhs; rw [h1]
    rw [rowsV_append, rowsV_cons]
  have h3 : (rowsV enc (l.take i)).length = i * m := by rw [rowsV_length h, List.length_take, Nat.min_eq_left (by omega)]
  rw [h2, ← h3, over_mid (by rw [h]; exact hoff), ha, List.set_eq_take_append_cons_drop, if_pos hi, rowsV_append, rowsV_cons]

/-- A store into a part of an element of a row of one's own. -/
theorem acts_store_own_at {α : Type} {enc : α → List Value} {m : Nat} (h : ∀ a, (enc a).length = m) {t et : TypeId} {x y : Operand} {v : Value} {base : Nat} {p : Option Addr} {A : Addr} {c : Nat} {l : List α} {i : Nat} (off : Nat) (a : α) (ho : o.op = .store t x y)
    (hx : ev E x = some (.pointer (some (A.add (i * m + off))))) (hy : ev E y = some v) (hi : i < l.length) (hv : over (enc l[i]) off v.cells.toList = enc a) (hoff : off + v.cells.size ≤ m) (hm : szOf P t = some v.cells.size) (hown : w.ownsRow base et m (.slice p l.length c) l.length (rowsV enc l)) (hp : 0 < l.length → p = some A) (h1 : ∀ u ∈ v.cells.toList, u.oneCell' = true) :
    Acts P n ds E o w (fun u w' => u = undef ∧ Ext (Value.slice p l.length c).ownBlock.toList w w' ∧ w'.ownsRow base et m (.slice p l.length c) l.length (rowsV enc (l.set i a))) Q := by
  obtain ⟨g, cap, cs, he, hb, hB, hl, hkc, hcc, hxl⟩ := own_blk hown (by omega)
  have hp' := hp (by omega)
  simp only [Value.slice.injEq, true_and] at he
  obtain ⟨rfl, rfl⟩ := he
  simp only [Option.some.injEq] at hp'
  subst hp'
  have hfit0 : i * m + off + v.cells.size ≤ (rowsV enc l).length := by
    rw [rowsV_length h]
    have : (i + 1) * m ≤ l.length * m := Nat.mul_le_mul_right _ hi
    rw [Nat.add_mul] at this; omega
  have hst := acts_store (Q := Q) (ds := ds) (n := n) ho hx rfl hy hm hB (by rw [List.length_append]; omega) h1
  rw [over_left (by rw [Array.length_toList]; exact hfit0), over_rowsV_at h hi a (by rw [Array.length_toList]; exact hoff) hv] at hst
  refine hst.mono fun u w' ⟨h5, h6, h7⟩ => ⟨h5, by simpa [Value.ownBlock] using h6, blk_own hb h7 ?_ hkc hcc (by rw [rowsV_length h, List.length_set])⟩
  rw [List.length_append, rowsV_length h, List.length_set, ← rowsV_length h, ← List.length_append]; exact hl

/-- Rows of different element types do not lie in one block. -/
theorem own_apart {base base' : Nat} {e e' : TypeId} {s s' : Nat} {v v' : Value} {k k' : Nat} {xs xs' : List Value} (h : w.ownsRow base e s v k xs) (h' : w.ownsRow base' e' s' v' k' xs') (hne : e ≠ e') : ∀ g, v.ownBlock = some g → v'.ownBlock ≠ some g := by
  intro g h1 h2
  obtain ⟨_, h | ⟨b, cap, cur, rfl, hb, hg, _⟩⟩ := h
  · obtain ⟨rfl, rfl⟩ := h; simp [Value.ownBlock] at h1
  obtain ⟨_, h' | ⟨b', cap', cur', rfl, hb', hg', _⟩⟩ := h'
  · obtain ⟨rfl, rfl⟩ := h'; simp [Value.ownBlock] at h2
  simp only [Value.ownBlock, Option.some.injEq] at h1 h2
  subst h1; subst h2
  rw [hg] at hg'
  simp only [Option.some.injEq, Obj.cells.injEq] at hg'
  exact hne hg'.2.1

theorem rp_sliceNil {t t' e : TypeId} {x : Operand} {p : Option Addr} {len cap : Nat} (ho : o.op = .binOp .eql t x (.const (.slice none 0 0)) t') (ht : P.underlying t = some (.slice e)) (hx : ev E x = some (.slice p len cap)) : RunP P n E o (.bool p.isNone) := by
  intro f u hf
  have hq : (Op.equal t (.slice p len cap) (.slice none 0 0)).run P u = .ok p.isNone u := by
    have : ∀ k, (Op.equalIn (k + 1) t (.slice p len cap) (.slice none 0 0)).run P u = .ok p.isNone u := fun k => by
      cases p <;> simp [Op.equalIn, run_und ht]
    exact this 9999
  have hb : (binOp .eql t (.slice p len cap) (.slice none 0 0)).run P u = .ok (.bool p.isNone) u := by
    show ((do pure (.bool (← Op.equal t (.slice p len cap) (.slice none 0 0))) : Sem Value)).run P u = _
    simp [hq]
  have hg : eqGuard .eql t x (.const (.slice none 0 0)) (.slice p len cap) (.slice none 0 0) = Pure.pure () := by rfl
  have hy : f.eval (.const (.slice none 0 0)) = .slice none 0 0 := rfl
  simp [execOp, ho, hf.eval hx, hy, hg, hb]

theorem zeroCells_mem {z : Array Value} {k : Nat} {u : Value} (h : u ∈ (Builtin.zeroCells z k).toList) : u ∈ z.toList := by
  simp only [Builtin.zeroCells, Array.toList_map, List.mem_map, Array.toList_range, List.mem_range] at h
  obtain ⟨i, hi, rfl⟩ := h
  have hz : 0 < z.size := by
    rcases Nat.eq_zero_or_pos z.size with h0 | h0
    · rw [h0] at hi; omega
    · exact h0
  have hlt := Nat.mod_lt i hz
  rw [getElem!_pos z (i % z.size) hlt]
  simp

/-- clear(s), s a part of a block that is known whole. -/
theorem acts_clear {x : Operand} {t e : TypeId} {z : Value} {p : Option Addr} {k c g off : Nat} {cs : List Value} {bt : TypeId} (ho : o.op = .call { callee := .builtin .clear, args := #[x], argTypes := #[t] }) (ht : P.underlying t = some (.slice e)) (hz : zrOf P e = some z)
    (hx : ev E x = some (.slice p k c)) (hp : 0 < k → p = some ⟨g, off, none⟩) (hB : Blk w g bt cs) (hfit : off + k * z.cells.size ≤ cs.length) (h1 : ∀ u ∈ z.cells.toList, u.oneCell' = true) :
    Acts P n ds E o w (fun u w' => Ext [g] w w' ∧ ∃ zs : List Value, zs.length = k * z.cells.size ∧ Blk w' g bt (over cs off zs)) Q := by
  intro a ha _
  cases k with
  | zero =>
    refine .inl ⟨.tuple #[], w, ?_, Ext.refl _ _, [], by simp, ?_⟩
    · have hr : (Builtin.clear_ #[t] o.type #[.slice p 0 c]).run P w = .ok (.tuple #[]) w := by
        cases p <;> simp [Builtin.clear_, run_und ht]
      simp [execOp, ho, resolve, invoke, builtin, ha.eval hx, hr]
    · simpa [over] using hB
  | succ k =>
    have hp' := hp (by omega)
    subst hp'
    have hst := run_storeCells_at P g off bt (Builtin.zeroCells z.cells (k + 1)).toList 0 cs.toArray w hB (by simpa [size_zeroCells] using hfit) (fun u hu => h1 u (zeroCells_mem hu))
    simp only [Nat.add_zero] at hst
    refine .inl ⟨.tuple #[], w.setRow g (over cs off (Builtin.zeroCells z.cells (k + 1)).toList).toArray, ?_, setRow_ext w g _ (by simp), (Builtin.zeroCells z.cells (k + 1)).toList, by simp [size_zeroCells], ?_⟩
    · have hr : (Builtin.clear_ #[t] o.type #[.slice (some ⟨g, off, none⟩) (k + 1) c]).run P w = .ok (.tuple #[]) (w.setRow g (over cs off (Builtin.zeroCells z.cells (k + 1)).toList).toArray) := by
        simp [Builtin.clear_, run_und ht, run_zero hz, hst, over]
      simp [execOp, ho, resolve, invoke, builtin, ha.eval hx, hr]
    · have := setRow_heap w g cs.toArray (over cs off (Builtin.zeroCells z.cells (k + 1)).toList).toArray bt _ hB
      simpa [Blk] using this

end
end Go.Eng
