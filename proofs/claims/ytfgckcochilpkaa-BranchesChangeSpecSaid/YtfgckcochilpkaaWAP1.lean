/- Texts of one proof, put together: EngS, EngU, FactD, FactA, FactB. -/
import Derived.Laws.StructEq
import Derived.Maps.RangeRun
import Derived.Test.YtfgckcochilpkaaRows
import Derived.Test.YtfgckcochilpkaaWAP0
/- The engine, part ten: structs held against each other; rows of structs; predicates handed over. -/
set_option linter.unusedVariables false
set_option linter.unusedSimpArgs false
namespace Go.Eng
open Go

section
variable {P : Program} {n : Nat} {ds : List Deferred} {Q : PostE} {E : Env} {w : World} {o : Oper}

/-! ## Equality of structs -/

theorem eqf_nil (d : Nat) (xs ys : Array Value) (w : World) : (Op.eqFields d xs ys []).run P w = .ok true w := rfl
theorem run_part {t : TypeId} {xs : Array Value} {off : Nat} {v : Value} (ha : aggOf P t = some false) (h : xs[off]? = some v) (w : World) : (part t xs off).run P w = .ok v w := by
  simp [part, run_agg ha, h]
theorem run_partA {t : TypeId} {xs : Array Value} {off m : Nat} (ha : aggOf P t = some true) (hm : szOf P t = some m) (w : World) : (part t xs off).run P w = .ok (.agg (xs.extract off (off + m))) w := by
  simp [part, run_agg ha, run_szOf hm]

theorem eqf_step {d : Nat} {xs ys : Array Value} {f : Field} {fs : List Field} {x y : Value} {q r : Bool} (hn : f.name ≠ "_")
    (hx : (part f.type xs f.offset).run P w = .ok x w) (hy : (part f.type ys f.offset).run P w = .ok y w) (hq : (Op.equalIn d f.type x y).run P w = .ok q w) (hr : (Op.eqFields d xs ys fs).run P w = .ok r w) :
    (Op.eqFields d xs ys (f :: fs)).run P w = .ok (q && r) w := by
  simp only [Op.eqFields, ne_eq, hn, not_false_eq_true, if_true, Sem.run_bind, hx, hy, hq, Result.andThen_ok]
  cases q <;> simp [hr]
theorem eqf_int {d : Nat} {xs ys : Array Value} {f : Field} {fs : List Field} {k k' : IntKind} {a b : Int} {r : Bool} (hn : f.name ≠ "_") (ha : aggOf P f.type = some false) (hu : P.underlying f.type = some (.int k'))
    (hx : xs[f.offset]? = some (.int k a)) (hy : ys[f.offset]? = some (.int k b)) (hr : (Op.eqFields (d + 1) xs ys fs).run P w = .ok r w) : (Op.eqFields (d + 1) xs ys (f :: fs)).run P w = .ok (decide (a = b) && r) w :=
  eqf_step hn (run_part ha hx w) (run_part ha hy w) (by rw [run_equalIn_int w d f.type k k' a b hu]; simp [Bool.beq_eq_decide_eq]) hr
theorem eqf_str {d : Nat} {xs ys : Array Value} {f : Field} {fs : List Field} {a b : List UInt8} {r : Bool} (hn : f.name ≠ "_") (ha : aggOf P f.type = some false) (hu : P.underlying f.type = some .string)
    (hx : xs[f.offset]? = some (.string ⟨a.toArray⟩)) (hy : ys[f.offset]? = some (.string ⟨b.toArray⟩)) (hr : (Op.eqFields (d + 1) xs ys fs).run P w = .ok r w) : (Op.eqFields (d + 1) xs ys (f :: fs)).run P w = .ok (decide (a = b) && r) w :=
  eqf_step hn (run_part ha hx w) (run_part ha hy w) (by rw [run_equalIn_string w d f.type _ _ hu]; simp [ByteArray.toList_mk, beq_dec]) hr
theorem eqf_bool {d : Nat} {xs ys : Array Value} {f : Field} {fs : List Field} {a b : Bool} {r : Bool} (hn : f.name ≠ "_") (ha : aggOf P f.type = some false) (hu : P.underlying f.type = some .bool)
    (hx : xs[f.offset]? = some (.bool a)) (hy : ys[f.offset]? = some (.bool b)) (hr : (Op.eqFields (d + 1) xs ys fs).run P w = .ok r w) : (Op.eqFields (d + 1) xs ys (f :: fs)).run P w = .ok (decide (a = b) && r) w :=
  eqf_step hn (run_part ha hx w) (run_part ha hy w) (by rw [run_equalIn_bool' w d f.type a b hu]; cases a <;> cases b <;> rfl) hr
theorem eqf_sub {d : Nat} {xs ys : Array Value} {f : Field} {fs : List Field} {m : Nat} {q r : Bool} (hn : f.name ≠ "_") (ha : aggOf P f.type = some true) (hm : szOf P f.type = some m)
    (hq : (Op.equalIn d f.type (.agg (xs.extract f.offset (f.offset + m))) (.agg (ys.extract f.offset (f.offset + m)))).run P w = .ok q w) (hr : (Op.eqFields d xs ys fs).run P w = .ok r w) : (Op.eqFields d xs ys (f :: fs)).run P w = .ok (q && r) w :=
  eqf_step hn (run_partA ha hm w) (run_partA ha hm w) hq hr
theorem eqs {d : Nat} {t : TypeId} {xs ys : Array Value} {fs : Array Field} {r : Bool} (ht : P.underlying t = some (.struct fs)) (hp : P.stoodInHeld t = false) (hr : (Op.eqFields d xs ys fs.toList).run P w = .ok r w) :
    (Op.equalIn (d + 1) t (.agg xs) (.agg ys)).run P w = .ok r w := by
  have hf : P.fieldsOf t = fs := by unfold Program.fieldsOf; rw [ht]
  rw [run_equalIn_struct w d t xs ys (by rw [hf]; exact ht) hp, hf]; exact hr

theorem rp_eqA {t t' : TypeId} {x y : Operand} {xs ys : Array Value} {r : Bool} (ho : o.op = .binOp .eql t x y t') (hg : P.eqGuardType P.depth t = false) (hx : ev E x = some (.agg xs)) (hy : ev E y = some (.agg ys))
    (h : ∀ w, (Op.equalIn (9999 + 1) t (.agg xs) (.agg ys)).run P w = .ok r w) : RunP P n E o (.bool r) := by
  intro f u hf
  have hgd : (eqGuard .eql t x y (.agg xs) (.agg ys)).run P u = .ok () u := by simp [eqGuard, hg]
  have hb : (binOp .eql t (.agg xs) (.agg ys)).run P u = .ok (.bool r) u := by
    show ((do pure (.bool (← Op.equal t (.agg xs) (.agg ys))) : Sem Value)).run P u = _
    simp only [Op.equal, Op.maxDepth, Sem.run_bind, h u, Result.andThen_ok, Sem.run_pure]
  simp only [execOp, ho, hf.eval hx, hf.eval hy, Sem.run_bind, hgd, hb, Result.andThen_ok, Sem.run_pure]
theorem rp_neA {t t' : TypeId} {x y : Operand} {xs ys : Array Value} {r : Bool} (ho : o.op = .binOp .neq t x y t') (hg : P.eqGuardType P.depth t = false) (hx : ev E x = some (.agg xs)) (hy : ev E y = some (.agg ys))
    (h : ∀ w, (Op.equalIn (9999 + 1) t (.agg xs) (.agg ys)).run P w = .ok r w) : RunP P n E o (.bool (!r)) := by
  intro f u hf
  have hgd : (eqGuard .neq t x y (.agg xs) (.agg ys)).run P u = .ok () u := by simp [eqGuard, hg]
  have hb : (binOp .neq t (.agg xs) (.agg ys)).run P u = .ok (.bool (!r)) u := by
    show ((do pure (.bool (!(← Op.equal t (.agg xs) (.agg ys)))) : Sem Value)).run P u = _
    simp only [Op.equal, Op.maxDepth, Sem.run_bind, h u, Result.andThen_ok, Sem.run_pure]
  simp only [execOp, ho, hf.eval hx, hf.eval hy, Sem.run_bind, hgd, hb, Result.andThen_ok, Sem.run_pure]

theorem rp_eqA_t {t t' : TypeId} {x y : Operand} {xs ys : Array Value} {p : Prop} [Decidable p] (ho : o.op = .binOp .eql t x y t') (hg : P.eqGuardType P.depth t = false) (hx : ev E x = some (.agg xs)) (hy : ev E y = some (.agg ys))
    (h : ∀ w, (Op.equalIn (9999 + 1) t (.agg xs) (.agg ys)).run P w = .ok (decide p) w) (hp : p) : RunP P n E o (.bool true) := by
  have := rp_eqA (n := n) ho hg hx hy h; rwa [decide_eq_true hp] at this
theorem rp_eqA_f {t t' : TypeId} {x y : Operand} {xs ys : Array Value} {p : Prop} [Decidable p] (ho : o.op = .binOp .eql t x y t') (hg : P.eqGuardType P.depth t = false) (hx : ev E x = some (.agg xs)) (hy : ev E y = some (.agg ys))
    (h : ∀ w, (Op.equalIn (9999 + 1) t (.agg xs) (.agg ys)).run P w = .ok (decide p) w) (hp : ¬ p) : RunP P n E o (.bool false) := by
  have := rp_eqA (n := n) ho hg hx hy h; rwa [decide_eq_false hp] at this
theorem rp_neA_t {t t' : TypeId} {x y : Operand} {xs ys : Array Value} {p : Prop} [Decidable p] (ho : o.op = .binOp .neq t x y t') (hg : P.eqGuardType P.depth t = false) (hx : ev E x = some (.agg xs)) (hy : ev E y = some (.agg ys))
    (h : ∀ w, (Op.equalIn (9999 + 1) t (.agg xs) (.agg ys)).run P w = .ok (decide p) w) (hp : ¬ p) : RunP P n E o (.bool true) := by
  have := rp_neA (n := n) ho hg hx hy h; rwa [decide_eq_false hp] at this
theorem rp_neA_f {t t' : TypeId} {x y : Operand} {xs ys : Array Value} {p : Prop} [Decidable p] (ho : o.op = .binOp .neq t x y t') (hg : P.eqGuardType P.depth t = false) (hx : ev E x = some (.agg xs)) (hy : ev E y = some (.agg ys))
    (h : ∀ w, (Op.equalIn (9999 + 1) t (.agg xs) (.agg ys)).run P w = .ok (decide p) w) (hp : p) : RunP P n E o (.bool false) := by
  have := rp_neA (n := n) ho hg hx hy h; rwa [decide_eq_true hp] at this
theorem rp_fieldAddr2 {t : TypeId} {x : Operand} {i j : Nat} {A : Addr} {ft off m : Nat} (ho : o.op = .fieldAddr t x i) (hf' : fieldOf P t i = some (ft, off)) (hm : szOf P ft = some (m + 1)) (hx : ev E x = some (.pointer (some (A.add j)))) :
    RunP P n E o (.pointer (some (A.add (j + off)))) := by
  have := rp_fieldAddr (P := P) (n := n) ho hf' hm hx
  rwa [addr_add_add] at this

/-! ## Rows -/

def rowsV {α : Type} (enc : α → List Value) (l : List α) : List Value := l.flatMap enc

section
variable {α : Type} {enc : α → List Value} {m : Nat}
theorem rowsV_nil : rowsV enc [] = [] := rfl
theorem rowsV_cons (a : α) (l : List α) : rowsV enc (a :: l) = enc a ++ rowsV enc l := rfl
theorem rowsV_append (a b : List α) : rowsV enc (a ++ b) = rowsV enc a ++ rowsV enc b := by simp [rowsV]
theorem rowsV_one (a : α) : rowsV enc [a] = enc a := by simp [rowsV]
theorem rowsV_length (h : ∀ a, (enc a).length = m) : ∀ l : List α, (rowsV enc l).length = l.length * m
  | [] => by simp [rowsV]
  | a :: l => by rw [rowsV_cons, List.length_append, h, rowsV_length h l, List.length_cons, Nat.add_mul]; omega
theorem rowsV_at (h : ∀ a, (enc a).length = m) : ∀ {l : List α} {i : Nat} (hi : i < l.length), ((rowsV enc l).drop (i * m)).take m = enc l[i]
  | a :: l, 0, hi => by rw [Nat.zero_mul, List.drop_zero, rowsV_cons, ← h a, List.take_left]; rfl
  | a :: l, i + 1, hi => by
    rw [rowsV_cons, show (i + 1) * m = (enc a).length + i * m by rw [h a, Nat.add_mul]; omega, ← List.drop_drop, List.drop_left]
    exact rowsV_at h (i := i) (by simpa using hi)
theorem rowsV_take (h : ∀ a, (enc a).length = m) (l : List α) (k : Nat) : (rowsV enc l).take (k * m) = rowsV enc (l.take k) := by
  rcases Nat.le_total k l.length with hk | hk
  · conv => lhs; rw [← List.take_append_drop k l, rowsV_append]
    rw [List.take_left' (by rw [rowsV_length h, List.length_take, Nat.min_eq_left hk])]
  · rw [List.take_of_length_le hk, List.take_of_length_le (by rw [rowsV_length h]; exact Nat.mul_le_mul_right _ hk)]
theorem rowsV_drop (h : ∀ a, (enc a).length = m) (l : List α) (k : Nat) : (rowsV enc l).drop (k * m) = rowsV enc (l.drop k) := by
  rcases Nat.le_total k l.length with hk | hk
  · conv => lhs; rw [← List.take_append_drop k l, rowsV_append]
    rw [List.drop_left' (by rw [rowsV_length h, List.length_take, Nat.min_eq_left hk])]
  · rw [List.drop_eq_nil_of_le (by rw [rowsV_length h]; exact Nat.mul_le_mul_right _ hk), List.drop_eq_nil_of_le hk]; rfl
theorem rowsV_all (h : ∀ a, ∀ u ∈ enc a, u.oneCell' = true) (l : List α) : ∀ u ∈ rowsV enc l, u.oneCell' = true := fun u hu => by
  obtain ⟨a, _, hm⟩ := List.mem_flatMap.1 hu; exact h a u hm

/-- An element of a slice is read. -/
theorem ld_elem (h : ∀ a, (enc a).length = m) {t : TypeId} {A : Addr} {l : List α} (hc : Cells w A (rowsV enc l)) {i : Nat} (hi : i < l.length) (ht : aggOf P t = some true) (hm : szOf P t = some m) : Ld P w t (A.add (i * m)) (.agg (enc l[i]).toArray) :=
  hc.ldP (i * m) ht hm (rowsV_at h hi) (h _)
end

theorem over_rowsV {α : Type} {enc : α → List Value} {m : Nat} (h : ∀ a, (enc a).length = m) {l : List α} {i : Nat} (hi : i < l.length) (a : α) : over (rowsV enc l) (i * m) (enc a) = rowsV enc (l.set i a) := by
  unfold over
  rw [rowsV_take h, h a, show i * m + m = (i + 1) * m by rw [Nat.add_mul]; omega, rowsV_drop h, List.set_eq_take_append_cons_drop, if_pos hi, rowsV_append, rowsV_cons, List.append_assoc]
/-- A store into an element of a block's row. -/
theorem acts_store_row {α : Type} {enc : α → List Value} {m : Nat} (h : ∀ a, (enc a).length = m) {t : TypeId} {x y : Operand} {v : Value} {b : Nat} {bt : TypeId} {l : List α} {i : Nat} (a : α) (ho : o.op = .store t x y) (hx : ev E x = some (.pointer (some ((⟨b, 0, none⟩ : Addr).add (i * m)))))
    (hy : ev E y = some v) (hv : v.cells.toList = enc a) (hm : szOf P t = some m) (hB : Blk w b bt (rowsV enc l)) (hi : i < l.length) (h1 : ∀ u ∈ enc a, u.oneCell' = true) :
    Acts P n ds E o w (fun u w' => u = undef ∧ Ext [b] w w' ∧ Blk w' b bt (rowsV enc (l.set i a))) Q := by
  have hsz : v.cells.size = m := by rw [← Array.length_toList, hv, h]
  have hfit : i * m + v.cells.size ≤ (rowsV enc l).length := by
    rw [rowsV_length h, hsz]
    have : (i + 1) * m ≤ l.length * m := Nat.mul_le_mul_right _ hi
    rw [Nat.add_mul] at this; omega
  have := acts_store (Q := Q) (ds := ds) (n := n) ho hx rfl hy (hsz ▸ hm) hB hfit (by rw [hv]; exact h1)
  rwa [hv, over_rowsV h hi] at this
/-- New memory, its zeros as a list. -/
theorem acts_alloc_z {t : TypeId} {cs : List Value} (ho : o.op = .alloc t) (hz : (zrOf P t).map (fun z => z.cells.toList) = some cs) : Acts P n ds E o w (NewBlk w t cs) Q := by
  obtain ⟨z, h1, rfl⟩ := Option.map_eq_some_iff.1 hz
  exact acts_alloc ho h1

/-- A slice of elements. -/
structure SlV {α : Type} (enc : α → List Value) (w : World) (p : Option Addr) (A : Addr) (l : List α) (cap : Nat) : Prop where
  ptr : 0 < l.length → p = some A
  row : Cells w A (rowsV enc l)
  le : l.length ≤ cap
  small : cap ≤ 9223372036854775807
  few : l.length ≤ 140737488355328
theorem SlV.ext {α : Type} {enc : α → List Value} {w w' : World} {p : Option Addr} {A : Addr} {l : List α} {cap : Nat} {X : List Nat} (h : SlV enc w p A l cap) (he : Ext X w w') (hx : A.block ∉ X) : SlV enc w' p A l cap := ⟨h.ptr, h.row.ext he hx, h.le, h.small, h.few⟩
theorem SlV.ext0 {α : Type} {enc : α → List Value} {w w' : World} {p : Option Addr} {A : Addr} {l : List α} {cap : Nat} (h : SlV enc w p A l cap) (he : Ext [] w w') : SlV enc w' p A l cap := h.ext he (by simp)
theorem SlV.nil {α : Type} (enc : α → List Value) (w : World) : SlV enc w none ⟨0, 0, none⟩ ([] : List α) 0 := ⟨by simp, cells_nil _ _, by simp, by simp, by simp⟩
theorem SlV.of_own {α : Type} {enc : α → List Value} {m : Nat} {base : Nat} {e : TypeId} {v : Value} {l : List α} (h : w.ownsRow base e m v l.length (rowsV enc l)) (hf : l.length ≤ 140737488355328) :
    ∃ p cap A, v = .slice p l.length cap ∧ SlV enc w p A l cap ∧ (0 < l.length → base ≤ A.block ∧ A.block < w.heap.size) := by
  obtain ⟨p, cap, A, h1, h2, h3, h4, h5, _⟩ := own_sl h
  exact ⟨p, cap, A, h1, ⟨h2.1, h2.2, h3, h4, hf⟩, h5⟩
theorem SlV.src {α : Type} {enc : α → List Value} {m : Nat} {p : Option Addr} {A : Addr} {l : List α} {cap : Nat} {tx e' : TypeId} (h : SlV enc w p A l cap) (hk : P.underlying tx = some (.slice e')) (hm : ∀ a, (enc a).length = m) (h1 : ∀ a, ∀ u ∈ enc a, u.oneCell' = true) :
    Src P m tx (.slice p l.length cap) l.length (rowsV enc l) w :=
  source_slice hk (rowsV_length hm l) h.ptr h.row (rowsV_all h1 l)

/-! ## Rows of one's own, as blocks -/

theorem own_blk {base : Nat} {e : TypeId} {size : Nat} {v : Value} {k : Nat} {xs : List Value} (h : w.ownsRow base e size v k xs) (hk : 0 < k) :
    ∃ g cap cs, v = .slice (some ⟨g, 0, none⟩) k cap ∧ base ≤ g ∧ Blk w g e (xs ++ cs) ∧ (xs ++ cs).length = cap * size ∧ k ≤ cap ∧ cap ≤ 9223372036854775807 ∧ xs.length = k * size := by
  obtain ⟨hl, h | ⟨g, cap, cur, rfl, hb, hg, hk', hc, hs, ht⟩⟩ := h
  · omega
  · refine ⟨g, cap, cur.toList.drop (k * size), rfl, hb, ?_, ?_, hk', by unfold maxLen at hc; omega, hl⟩
    · rw [← ht, List.take_append_drop]; simpa [Blk] using hg
    · rw [← ht, List.take_append_drop]; simpa using hs
theorem blk_own {base : Nat} {e : TypeId} {size : Nat} {g cap k : Nat} {xs cs : List Value} (hb : base ≤ g) (hB : Blk w g e (xs ++ cs)) (hl : (xs ++ cs).length = cap * size) (hk : k ≤ cap) (hc : cap ≤ 9223372036854775807) (hx : xs.length = k * size) :
    w.ownsRow base e size (.slice (some ⟨g, 0, none⟩) k cap) k xs :=
  ⟨hx, .inr ⟨g, cap, (xs ++ cs).toArray, rfl, hb, hB, hk, by unfold maxLen; omega, by simpa using hl, by simp [← hx]⟩⟩
theorem over_left {a b news : List Value} {off : Nat} (h : off + news.length ≤ a.length) : over (a ++ b) off news = over a off news ++ b := by
  unfold over
  rw [List.take_append_of_le_length (by omega), List.drop_append_of_le_length (by omega)]
  simp

/-- A store into an element of a row of one's own. -/
theorem acts_store_own {α : Type} {enc : α → List Value} {m : Nat} (h : ∀ a, (enc a).length = m) {t et : TypeId} {x y : Operand} {v : Value} {base : Nat} {p : Option Addr} {A : Addr} {c : Nat} {l : List α} {i : Nat} (a : α) (ho : o.op = .store t x y)
    (hx : ev E x = some (.pointer (some (A.add (i * m))))) (hy : ev E y = some v) (hv : v.cells.toList = enc a) (hm : szOf P t = some m) (hown : w.ownsRow base et m (.slice p l.length c) l.length (rowsV enc l)) (hp : 0 < l.length → p = some A) (hi : i < l.length) (h1 : ∀ u ∈ enc a, u.oneCell' = true) :
    Acts P n ds E o w (fun u w' => u = undef ∧ Ext (Value.slice p l.length c).ownBlock.toList w w' ∧ w'.ownsRow base et m (.slice p l.length c) l.length (rowsV enc (l.set i a))) Q := by
  obtain ⟨g, cap, cs, he, hb, hB, hl, hkc, hcc, hxl⟩ := own_blk hown (by omega)
  have hp' := hp (by omega)
  simp only [Value.slice.injEq, true_and] at he
  obtain ⟨rfl, rfl⟩ := he
  simp only [Option.some.injEq] at hp'
  subst hp'
  have hsz : v.cells.size = m := by rw [← Array.length_toList, hv, h]
  have hfit0 : i * m + m ≤ (rowsV enc l).length := by
    rw [rowsV_length h]
    have : (i + 1) * m ≤ l.length * m := Nat.mul_le_mul_right _ hi
    rw [Nat.add_mul] at this; omega
  have hst := acts_store (Q := Q) (ds := ds) (n := n) ho hx rfl hy (hsz ▸ hm) hB (by rw [List.length_append, hsz]; omega) (by rw [hv]; exact h1)
  rw [hv, over_left (by rw [h]; exact hfit0), over_rowsV h hi] at hst
  refine hst.mono fun u w' ⟨h5, h6, h7⟩ => ⟨h5, by simpa [Value.ownBlock] using h6, blk_own hb h7 ?_ hkc hcc (by rw [rowsV_length h, List.length_set])⟩
  rw [List.length_append, rowsV_length h, List.length_set, ← rowsV_length h, ← List.length_append]; exact hl

theorem over_mid {a b c vs : List Value} {off : Nat} (h : off + vs.length ≤ b.length) : over (a ++ (b ++ c)) (a.length + off) vs = a ++ (over b off vs ++ c) := by
  unfold over
  rw [List.take_length_add_append, Nat.add_assoc, List.drop_length_add_append, List.take_append_of_le_length (by omega), List.drop_append_of_le_length (by omega)]
  simp
theorem over_rowsV_at {α : Type} {enc : α → List Value} {m : Nat} (h : ∀ a, (enc a).length = m) {l : List α} {i : Nat} (hi : i < l.length) (a : α) {off : Nat} {vs : List Value} (hoff : off + vs.length ≤ m) (ha : over (enc l[i]) off vs = enc a) : over (rowsV enc l) (i * m + off) vs = rowsV enc (l.set i a) := by
  have h1 : l = l.take i ++ l[i] :: l.drop (i + 1) := by rw [List.getElem_cons_drop, List.take_append_drop]
  have h2 : rowsV enc l = rowsV enc (l.take i) ++ (enc l[i] ++ rowsV enc (l.drop (i + 1))) := by
    conv => lhs; rw [h1]
    rw [rowsV_append, rowsV_cons]
  have h3 : (rowsV enc (l.take i)).length = i * m := by rw [rowsV_length h, List.length_take, Nat.min_eq_left (by omega)]
  rw [h2, ← h3, over_mid (by rw [h]; exact hoff), ha, List.set_eq_take_append_cons_drop, if_pos hi, rowsV_append, rowsV_cons]

/-- A store into a part of an element of a row of one's own. -/
theorem acts_store_own_at {α : Type} {enc : α → List Value} {m : Nat} (h : ∀ a, (enc a).length = m) {t et : TypeId} {x y : Operand} {v : Value} {base : Nat} {p : Option Addr} {A : Addr} {c : Nat} {l : List α} {i : Nat} (off : Nat) (a : α) (ho : o.op = .store t x y)
    (hx : ev E x = some (.pointer (some (A.add (i * m + off))))) (hy : ev E y = some v) (hi : i < l.length) (hv : over (enc l[i]) off v.cells.toList = enc a) (hoff : off + v.cells.size ≤ m) (hm : szOf P t = some v.cells.size) (hown : w.ownsRow base et m (.slice p l.length c) l.length (rowsV enc l)) (hp : 0 < l.length → p = some A) (h1 : ∀ u ∈ v.cells.toList, u.oneCell' = true) :
    Acts P n ds E o w (fun u w' => u = undef ∧ Ext (Value.slice p l.length c).ownBlock.toList w w' ∧ w'.ownsRow base et m (.slice p l.length c) l.length (rowsV enc (l.set i a))) Q := by
  obtain ⟨g, cap, cs, he, hb, hB, hl, hkc, hcc, hxl⟩ := own_blk hown (by omega)
  have hp' := hp (by omega)
  simp only [Value.slice.injEq, true_and] at he
  obtain ⟨rfl, rfl⟩ := he
  simp only [Option.some.injEq] at hp'
  subst hp'
  have hfit0 : i * m + off + v.cells.size ≤ (rowsV enc l).length := by
    rw [rowsV_length h]
    have : (i + 1) * m ≤ l.length * m := Nat.mul_le_mul_right _ hi
    rw [Nat.add_mul] at this; omega
  have hst := acts_store (Q := Q) (ds := ds) (n := n) ho hx rfl hy hm hB (by rw [List.length_append]; omega) h1
  rw [over_left (by rw [Array.length_toList]; exact hfit0), over_rowsV_at h hi a (by rw [Array.length_toList]; exact hoff) hv] at hst
  refine hst.mono fun u w' ⟨h5, h6, h7⟩ => ⟨h5, by simpa [Value.ownBlock] using h6, blk_own hb h7 ?_ hkc hcc (by rw [rowsV_length h, List.length_set])⟩
  rw [List.length_append, rowsV_length h, List.length_set, ← rowsV_length h, ← List.length_append]; exact hl

/-- Rows of different element types do not lie in one block. -/
theorem own_apart {base base' : Nat} {e e' : TypeId} {s s' : Nat} {v v' : Value} {k k' : Nat} {xs xs' : List Value} (h : w.ownsRow base e s v k xs) (h' : w.ownsRow base' e' s' v' k' xs') (hne : e ≠ e') : ∀ g, v.ownBlock = some g → v'.ownBlock ≠ some g := by
  intro g h1 h2
  obtain ⟨_, h | ⟨b, cap, cur, rfl, hb, hg, _⟩⟩ := h
  · obtain ⟨rfl, rfl⟩ := h; simp [Value.ownBlock] at h1
  obtain ⟨_, h' | ⟨b', cap', cur', rfl, hb', hg', _⟩⟩ := h'
  · obtain ⟨rfl, rfl⟩ := h'; simp [Value.ownBlock] at h2
  simp only [Value.ownBlock, Option.some.injEq] at h1 h2
  subst h1; subst h2
  rw [hg] at hg'
  simp only [Option.some.injEq, Obj.cells.injEq] at hg'
  exact hne hg'.2.1

theorem rp_sliceNil {t t' e : TypeId} {x : Operand} {p : Option Addr} {len cap : Nat} (ho : o.op = .binOp .eql t x (.const (.slice none 0 0)) t') (ht : P.underlying t = some (.slice e)) (hx : ev E x = some (.slice p len cap)) : RunP P n E o (.bool p.isNone) := by
  intro f u hf
  have hq : (Op.equal t (.slice p len cap) (.slice none 0 0)).run P u = .ok p.isNone u := by
    have : ∀ k, (Op.equalIn (k + 1) t (.slice p len cap) (.slice none 0 0)).run P u = .ok p.isNone u := fun k => by
      cases p <;> simp [Op.equalIn, run_und ht]
    exact this 9999
  have hb : (binOp .eql t (.slice p len cap) (.slice none 0 0)).run P u = .ok (.bool p.isNone) u := by
    show ((do pure (.bool (← Op.equal t (.slice p len cap) (.slice none 0 0))) : Sem Value)).run P u = _
    simp [hq]
  have hg : eqGuard .eql t x (.const (.slice none 0 0)) (.slice p len cap) (.slice none 0 0) = Pure.pure () := by rfl
  have hy : f.eval (.const (.slice none 0 0)) = .slice none 0 0 := rfl
  simp [execOp, ho, hf.eval hx, hy, hg, hb]

theorem zeroCells_mem {z : Array Value} {k : Nat} {u : Value} (h : u ∈ (Builtin.zeroCells z k).toList) : u ∈ z.toList := by
  simp only [Builtin.zeroCells, Array.toList_map, List.mem_map, Array.toList_range, List.mem_range] at h
  obtain ⟨i, hi, rfl⟩ := h
  have hz : 0 < z.size := by
    rcases Nat.eq_zero_or_pos z.size with h0 | h0
    · rw [h0] at hi; omega
    · exact h0
  have hlt := Nat.mod_lt i hz
  rw [getElem!_pos z (i % z.size) hlt]
  simp

/-- clear(s), s a part of a block that is known whole. -/
theorem acts_clear {x : Operand} {t e : TypeId} {z : Value} {p : Option Addr} {k c g off : Nat} {cs : List Value} {bt : TypeId} (ho : o.op = .call { callee := .builtin .clear, args := #[x], argTypes := #[t] }) (ht : P.underlying t = some (.slice e)) (hz : zrOf P e = some z)
    (hx : ev E x = some (.slice p k c)) (hp : 0 < k → p = some ⟨g, off, none⟩) (hB : Blk w g bt cs) (hfit : off + k * z.cells.size ≤ cs.length) (h1 : ∀ u ∈ z.cells.toList, u.oneCell' = true) :
    Acts P n ds E o w (fun u w' => Ext [g] w w' ∧ ∃ zs : List Value, zs.length = k * z.cells.size ∧ Blk w' g bt (over cs off zs)) Q := by
  intro a ha _
  cases k with
  | zero =>
    refine .inl ⟨.tuple #[], w, ?_, Ext.refl _ _, [], by simp, ?_⟩
    · have hr : (Builtin.clear_ #[t] o.type #[.slice p 0 c]).run P w = .ok (.tuple #[]) w := by
        cases p <;> simp [Builtin.clear_, run_und ht]
      simp [execOp, ho, resolve, invoke, builtin, ha.eval hx, hr]
    · simpa [over] using hB
  | succ k =>
    have hp' := hp (by omega)
    subst hp'
    have hst := run_storeCells_at P g off bt (Builtin.zeroCells z.cells (k + 1)).toList 0 cs.toArray w hB (by simpa [size_zeroCells] using hfit) (fun u hu => h1 u (zeroCells_mem hu))
    simp only [Nat.add_zero] at hst
    refine .inl ⟨.tuple #[], w.setRow g (over cs off (Builtin.zeroCells z.cells (k + 1)).toList).toArray, ?_, setRow_ext w g _ (by simp), (Builtin.zeroCells z.cells (k + 1)).toList, by simp [size_zeroCells], ?_⟩
    · have hr : (Builtin.clear_ #[t] o.type #[.slice (some ⟨g, off, none⟩) (k + 1) c]).run P w = .ok (.tuple #[]) (w.setRow g (over cs off (Builtin.zeroCells z.cells (k + 1)).toList).toArray) := by
        simp [Builtin.clear_, run_und ht, run_zero hz, hst, over]
      simp [execOp, ho, resolve, invoke, builtin, ha.eval hx, hr]
    · have := setRow_heap w g cs.toArray (over cs off (Builtin.zeroCells z.cells (k + 1)).toList).toArray bt _ hB
      simpa [Blk] using this

end

/-! ## Short names: what most steps are shown by -/
section
variable {P : Program} {n : Nat} {E : Env} {o : Oper} {v : Value} {w w' : World} {X : List Nat} {t : TypeId} {A : Addr} {x : Operand}
theorem zxc (h : Ext X w w' := by (repeat first | exact .refl _ _ | assumption | refine .trans ?_ (by assumption)); first | done | fail) : Ext X w w' := h
theorem zls (h : ∀ u, Ext X w u → Ld P u t A v := by intro u hu; first | exact Cells.l1 (by assumption) zxc _ rfl rfl | exact Cells.l0 (by assumption) zxc rfl rfl) : ∀ u, Ext X w u → Ld P u t A v := h
theorem zla (h : ∀ u, Ext X w u → Ld P u t A v := by intro u hu; first | exact Cells.lA (by assumption) zxc rfl rfl | exact Cells.lL (by assumption) zxc rfl rfl (by assumption) | exact Cells.lP (by assumption) zxc _ rfl rfl rfl rfl | exact Cells.lP (by assumption) zxc _ rfl rfl (by assumption) (by assumption)) : ∀ u, Ext X w u → Ld P u t A v := h
theorem zlx (h : ∀ u, Ext X w u → Ld P u t A v := by intro u hu; first | exact Cells.ld (Cells.ext (Cells.ext0 (by assumption) zxc) hu (by assumption)) _ rfl rfl | exact Cells.ld0 (Cells.ext (Cells.ext0 (by assumption) zxc) hu (by assumption)) rfl rfl | exact Cells.ldA (Cells.ext (Cells.ext0 (by assumption) zxc) hu (by assumption)) rfl rfl | exact Cells.ldL (Cells.ext (Cells.ext0 (by assumption) zxc) hu (by assumption)) rfl rfl (by assumption)) : ∀ u, Ext X w u → Ld P u t A v := h
theorem zrs (ho : o.op = .load t x := by exact rfl) (hx : Go.Eng.ev E x = some (.pointer (some A)) := by exact rfl) (h : ∀ u, Ext X w u → Ld P u t A v := by exact zls) : RunV P n E o X w v := rv_load ho hx h
theorem zra (ho : o.op = .load t x := by exact rfl) (hx : Go.Eng.ev E x = some (.pointer (some A)) := by exact rfl) (h : ∀ u, Ext X w u → Ld P u t A v := by exact zla) : RunV P n E o X w v := rv_load ho hx h
theorem zrx (ho : o.op = .load t x := by exact rfl) (hx : Go.Eng.ev E x = some (.pointer (some A)) := by exact rfl) (h : ∀ u, Ext X w u → Ld P u t A v := by exact zlx) : RunV P n E o X w v := rv_load ho hx h
theorem zmv (h : RunP P n E o v := by exact rp_move rfl rfl) : RunP P n E o v := h
theorem zas (h : RunP P n E o v := by exact rp_assign rfl rfl) : RunP P n E o v := h
theorem zfa (h : RunP P n E o v := by first | exact rp_fieldAddr2 rfl rfl rfl rfl | exact rp_fieldAddr rfl rfl rfl rfl) : RunP P n E o v := h
theorem zbc (h : RunP P n E o v := by first | exact rp_bin rfl rfl rfl (binI_t (by omega)) | exact rp_bin rfl rfl rfl (binI_f (by omega)) | exact rp_bin rfl rfl rfl rfl) : RunP P n E o v := h
theorem zba (h : RunP P n E o v := by first | exact rp_bin rfl rfl rfl (binI_fit_add (wrap64 (by omega))) | exact rp_bin rfl rfl rfl rfl) : RunP P n E o v := h
theorem zbs (h : RunP P n E o v := by first | exact rp_bin rfl rfl rfl (binI_fit_sub (wrap64 (by omega))) | exact rp_bin rfl rfl rfl rfl) : RunP P n E o v := h
theorem zpk (h : RunP P n E o v := by first | exact rp_pick_t rfl rfl rfl | exact rp_pick_f rfl rfl rfl) : RunP P n E o v := h
theorem zix (h : RunP P n E o v := by exact rp_indexAddr _ rfl rfl rfl rfl rfl (by assumption) rfl (by first | omega | decide)) : RunP P n E o v := h
end
section
variable {ro : Option Nat} {P : Program} {n : Nat} {ds : List Deferred} {ops : List Oper} {dets done : List Nat} {pend : Pend} {Q : PostE} {E : Env} {w : World} {p q : Prop}
theorem Ox.fin (h : q) (e : q → Q .normal E w := by intro h; (repeat first | refine thenE_normal ?_ | refine blockE_normal ?_ | refine scopeE_normal ?_); exact h) : Ox P n ds ops Q [] E w := Ox.nil (e h)
theorem Wx.fin (h : q) (e : q → Q .normal E w := by intro h; (repeat first | refine thenE_normal ?_ | refine blockE_normal ?_ | refine scopeE_normal ?_); exact h) : Wx P n ds ops Q dets done [] 0 pend E w := Wx.nil (e h)
theorem ztx (h : q) (e : q → p := by intro h; (repeat refine Sx.seq ?_); refine Sx.textR ?_; exact h) : p := e h
theorem zct (h : q) (e : q → p := by intro h; (repeat refine Sx.seq ?_); (first | refine Sx.cond_true rfl ?_ | refine Sx.cond rfl (fun _ => ?_) (fun h9 => absurd h9 (by simp [*, -h]))); exact h) : p := e h
theorem zcf (h : q) (e : q → p := by intro h; (repeat refine Sx.seq ?_); (first | refine Sx.cond_false rfl ?_ | refine Sx.cond rfl (fun h9 => absurd h9 (by simp [*, -h])) (fun _ => ?_)); exact h) : p := e h
theorem zbl (h : q) (e : q → p := by intro h; (repeat refine Sx.seq ?_); refine Sx.block ?_; exact h) : p := e h
theorem zex (h : q) (e : q → p := by intro h; (repeat refine Sx.seq ?_); refine Sx.exit ?_; (repeat first | refine thenE_exit ?_ | refine blockE_same ?_ | refine blockE_other rfl ?_ | refine scopeE_exit ?_ | refine thenE_normal ?_ | refine blockE_normal ?_ | refine scopeE_normal ?_); exact h) : p := e h
theorem zsk (h : q) (e : q → p := by intro h; (repeat refine Sx.seq ?_); refine Sx.skip ?_; (repeat first | refine thenE_normal ?_ | refine blockE_normal ?_ | refine scopeE_normal ?_); exact h) : p := e h
theorem zrt (h : q) (e : q → p := by intro h; (repeat refine Sx.seq ?_); refine Sx.ret ?_; (repeat first | refine thenE_ret ?_ | refine blockE_ret ?_ | refine scopeE_ret ?_); exact h) : p := e h
end
end Go.Eng

/- The engine, part eleven: maps. -/
set_option linter.unusedVariables false
set_option linter.unusedSimpArgs false
set_option linter.unusedSectionVars false
namespace Go.Eng
open Go

section
variable {P : Program} {n : Nat} {ds : List Deferred} {Q : PostE} {E : Env} {w : World} {o : Oper}
variable {κ β : Type} [DecidableEq κ]

/-! ## Entries as a list -/
def look : List (κ × β) → κ → Option (Nat × β)
  | [], _ => none
  | x :: l, k => if x.1 = k then some (0, x.2) else (look l k).map fun r => (r.1 + 1, r.2)
theorem look_none : ∀ {l : List (κ × β)} {k : κ}, look l k = none ↔ ∀ x ∈ l, x.1 ≠ k
  | [], k => by simp [look]
  | x :: l, k => by
    simp only [look]
    by_cases h : x.1 = k
    · simp [h]
    · simp [h, look_none (l := l)]
theorem look_some : ∀ {l : List (κ × β)} {k : κ} {r : Nat × β}, look l k = some r → ∃ h : r.1 < l.length, l[r.1] = (k, r.2)
  | [], k, r, h => by cases h
  | x :: l, k, r, h => by
    simp only [look] at h
    by_cases hx : x.1 = k
    · rw [if_pos hx] at h
      obtain rfl := Option.some.inj h
      exact ⟨by simp, by simp [← hx]⟩
    · rw [if_neg hx] at h
      obtain ⟨r', h1, rfl⟩ := Option.map_eq_some_iff.1 h
      obtain ⟨h2, h3⟩ := look_some h1
      exact ⟨by simpa using h2, by simpa using h3⟩
def putL (l : List (κ × β)) (k : κ) (v : β) : List (κ × β) := match look l k with
  | some r => l.set r.1 (k, v)
  | none => l ++ [(k, v)]

/-- What a map's key type gives. -/
structure KeyT (P : Program) (kt : TypeId) (kv : κ → Value) : Prop where
  check : ∀ e k w, (Instr.checkKey e 10000 kt (kv k)).run P w = .ok () w
  find : ∀ (k : κ) (es : List MapEntry) (ks : List κ) (w : World), es.map (·.key) = ks.map kv → (Instr.findKey kt (kv k) es).run P w = .ok ((look (ks.zip (es.map (·.val))) k)) w
  same : ∀ k, Instr.sameBits 10000 (kv k) (kv k) = true

theorem findAsking_run {kt : TypeId} {kv : κ → Value} (heq : ∀ a b w, (Op.equal kt (kv a) (kv b)).run P w = .ok (decide (a = b)) w) (k : κ) : ∀ (es : List MapEntry) (ks : List κ) (i : Nat) (w : World), es.map (·.key) = ks.map kv →
    (Instr.findAsking kt (kv k) es i).run P w = .ok ((look (ks.zip (es.map (·.val))) k).map fun r => (i + r.1, r.2)) w
  | [], ks, i, w, h => by simp [Instr.findAsking, look]
  | e :: es, [], i, w, h => by simp at h
  | e :: es, a :: ks, i, w, h => by
    simp only [List.map_cons, List.cons.injEq] at h
    have ih := findAsking_run heq k es ks (i + 1) w h.2
    by_cases hk : a = k
    · subst hk
      have h2 := heq a a w
      rw [decide_eq_true rfl] at h2
      simp [Instr.findAsking, h.1, Sem.run_bind, h2, look, Result.andThen]
    · have h2 := heq k a w
      rw [decide_eq_false (fun h => hk h.symm)] at h2
      simp only [Instr.findAsking, h.1, Sem.run_bind, h2, Result.andThen, Bool.false_eq_true, if_false, ih, List.map_cons, List.zip_cons_cons, look, if_neg hk, Option.map_map]
      congr 2
      funext r
      simp; omega

/-- Keys that are structs (or whatever is no plain type). -/
theorem KeyT.ofEq {kt : TypeId} {kv : κ → Value} {d : TypeDesc} (hd : P.underlying kt = some d) (hn : ∀ k v, Instr.sameNow d (kv k) v = none) (hc : ∀ e k w, (Instr.checkKey e 10000 kt (kv k)).run P w = .ok () w)
    (heq : ∀ a b w, (Op.equal kt (kv a) (kv b)).run P w = .ok (decide (a = b)) w) (hs : ∀ k, Instr.sameBits 10000 (kv k) (kv k) = true) : KeyT P kt kv := by
  refine ⟨hc, fun k es ks w h => ?_, hs⟩
  have h1 := findAsking_run heq k es ks 0 w h
  simp only [Nat.zero_add] at h1
  have h2 : ∀ l : Option (Nat × Value), l.map (fun r => (r.1, r.2)) = l := fun l => by cases l <;> rfl
  rw [h2] at h1
  cases es with
  | nil => cases ks with
    | nil => simp [Instr.findKey, run_underlying hd, Instr.findNow, look]
    | cons a ks => simp at h
  | cons e es => simp only [Instr.findKey, Sem.run_bind, run_underlying hd, Result.andThen, Instr.findNow, hn, h1]

/-- A map in memory: its entries as a list. -/
def MapL (kv : κ → Value) (ev : β → Value) (w : World) (b : Nat) (l : List (κ × β)) : Prop :=
  ∃ es clock, w.heap[b]? = some (.map es clock) ∧ es.toList.map (fun e => (e.key, e.val)) = l.map (fun x => (kv x.1, ev x.2)) ∧ (∀ e ∈ es.toList, e.born < clock) ∧ (es.toList.map (·.born)).Nodup

theorem MapL.ext {kv : κ → Value} {ev : β → Value} {w w' : World} {b : Nat} {l : List (κ × β)} {X : List Nat} (h : MapL kv ev w b l) (he : Ext X w w') (hX : b ∉ X) : MapL kv ev w' b l := by
  obtain ⟨es, clock, hb, h1, h2, h3⟩ := h
  exact ⟨es, clock, (he.keep b (Array.getElem?_eq_some_iff.1 hb).1 hX).trans hb, h1, h2, h3⟩
theorem MapL.ext0 {kv : κ → Value} {ev : β → Value} {w w' : World} {b : Nat} {l : List (κ × β)} (h : MapL kv ev w b l) (he : Ext [] w w') : MapL kv ev w' b l := h.ext he (by simp)
theorem MapL.lt {kv : κ → Value} {ev : β → Value} {w : World} {b : Nat} {l : List (κ × β)} (h : MapL kv ev w b l) : b < w.heap.size := by
  obtain ⟨es, clock, hb, _⟩ := h
  exact (Array.getElem?_eq_some_iff.1 hb).1

theorem fst_of_rel {kv : κ → Value} {ev : β → Value} {es : List MapEntry} {l : List (κ × β)} (h : es.map (fun e => (e.key, e.val)) = l.map (fun x => (kv x.1, ev x.2))) : es.map (·.key) = (l.map Prod.fst).map kv := by
  have := congrArg (List.map Prod.fst) h
  simpa [List.map_map, Function.comp_def] using this
theorem snd_of_rel {kv : κ → Value} {ev : β → Value} {es : List MapEntry} {l : List (κ × β)} (h : es.map (fun e => (e.key, e.val)) = l.map (fun x => (kv x.1, ev x.2))) : es.map (·.val) = (l.map Prod.snd).map ev := by
  have := congrArg (List.map Prod.snd) h
  simpa [List.map_map, Function.comp_def] using this
theorem look_zip (ev : β → Value) (k : κ) : ∀ l : List (κ × β), look ((l.map Prod.fst).zip ((l.map Prod.snd).map ev)) k = (look l k).map fun r => (r.1, ev r.2)
  | [] => rfl
  | x :: l => by
    simp only [List.map_cons, List.zip_cons_cons, look, look_zip ev k l]
    by_cases h : x.1 = k
    · simp [h]
    · simp [h, Function.comp_def]

/-- A key is looked for. -/
theorem KeyT.run {kt : TypeId} {kv : κ → Value} {ev : β → Value} (K : KeyT P kt kv) {es : List MapEntry} {l : List (κ × β)} (h : es.map (fun e => (e.key, e.val)) = l.map (fun x => (kv x.1, ev x.2))) (k : κ) (w : World) :
    (Instr.findKey kt (kv k) es).run P w = .ok ((look l k).map fun r => (r.1, ev r.2)) w := by
  rw [K.find k es _ w (fst_of_rel h), snd_of_rel h, look_zip]

/-- A new map. -/
theorem acts_makeMap {t : TypeId} (kv : κ → Value) (ev : β → Value) (ho : o.op = .makeMap t none) : Acts P n ds E o w (fun v w' => Ext [] w w' ∧ ∃ b, v = .map (some b) ∧ w.heap.size ≤ b ∧ MapL kv ev w' b []) Q := by
  intro a ha _
  refine .inl ⟨.map (some w.heap.size), w.alloc (.map #[] 0), ?_, Ext.push _ _ _, w.heap.size, rfl, Nat.le_refl _, #[], 0, ?_, rfl, by simp, by simp⟩
  · simp [execOp, ho, Instr.makeMap]
  · show (w.heap.push _)[w.heap.size]? = _; simp

theorem nodup_inj {α : Type} {l : List α} (h : l.Nodup) {i j : Nat} (hi : i < l.length) (hj : j < l.length) (he : l[i] = l[j]) : i = j := by
  have h2 := List.pairwise_iff_getElem.1 h
  rcases Nat.lt_trichotomy i j with h3 | h3 | h3
  · exact absurd he (h2 i j hi hj h3)
  · exact h3
  · exact absurd he.symm (h2 j i hj hi h3)
theorem filterMap_range {α : Type} (l : List α) : (List.range l.length).filterMap (fun j => l[j]?) = l := by
  have h : ∀ n, (List.range n).filterMap (fun j => l[j]?) = l.take n := fun n => by
    induction n with
    | zero => simp
    | succ n ih =>
      rw [List.range_succ, List.filterMap_append, ih, List.take_add_one]
      congr 1
  rw [h, List.take_length]
theorem setObj_ext (w : World) (r : Nat) (o : Obj) : Ext [r] w { w with heap := w.heap.setIfInBounds r o } :=
  ⟨rfl, rfl, rfl, by simp, fun k _ hk => by simp only [Array.getElem?_setIfInBounds]; rw [if_neg (fun e => hk (by simp [e]))], Nat.le_refl _⟩

/-- A store into a map. -/
theorem acts_mapUpdate {t kt et : TypeId} {kv : κ → Value} {ev : β → Value} {x y z : Operand} {b : Nat} {l : List (κ × β)} (k : κ) (v : β) (ho : o.op = .mapUpdate t x y z) (ht : P.underlying t = some (.map kt et)) (K : KeyT P kt kv)
    (hx : Go.Eng.ev E x = some (.map (some b))) (hy : Go.Eng.ev E y = some (kv k)) (hz : Go.Eng.ev E z = some (ev v)) (hM : MapL kv ev w b l) : Acts P n ds E o w (fun u w' => u = undef ∧ Ext [b] w w' ∧ MapL kv ev w' b (putL l k v)) Q := by
  intro a ha _
  obtain ⟨es, clock, hb, hrel, hlt, hnd⟩ := hM
  have hf := K.run hrel k w
  have hlt' : b < w.heap.size := (Array.getElem?_eq_some_iff.1 hb).1
  have hx' := ha.eval hx
  have hy' := ha.eval hy
  have hz' := ha.eval hz
  cases hl : look l k with
  | none =>
    rw [hl] at hf
    refine .inr (.inl ⟨{ w with heap := w.heap.setIfInBounds b (.map (es.push { key := kv k, val := ev v, born := clock }) (clock + 1)) }, ?_, rfl, setObj_ext _ _ _, es.push { key := kv k, val := ev v, born := clock }, clock + 1, ?_, ?_, ?_, ?_⟩)
    · simp [execOp, ho, hx', hy', hz', Instr.mapUpdate, run_underlying ht, MapKept.run_getObj_map hb, K.check, hf, MapKept.run_setObj_map _ hb, Result.andThen]
    · simp [hlt']
    · simp [putL, hl, hrel]
    · intro e he
      simp only [Array.toList_push, List.mem_append, List.mem_singleton] at he
      rcases he with he | rfl
      · have := hlt e he; omega
      · simp
    · simp only [Array.toList_push, List.map_append, List.map_cons, List.map_nil, List.nodup_append]
      refine ⟨hnd, by simp, fun x hx y hy => ?_⟩
      obtain ⟨e, he, rfl⟩ := List.mem_map.1 hx
      simp only [List.mem_singleton] at hy
      have := hlt e he
      omega
  | some r =>
    rw [hl] at hf
    obtain ⟨hr, hre⟩ := look_some hl
    have hlen : es.toList.length = l.length := by have := congrArg List.length hrel; simpa using this
    have hres : r.1 < es.size := by rw [Array.length_toList] at hlen; omega
    have hkey : es[r.1].key = kv k := by
      have := congrArg (fun x => (x[r.1]?).map Prod.fst) hrel
      simpa [hr, hres, hre] using this
    have hst : (Instr.keyThatStays (((es[r.1]?).map (·.key)).getD (kv k)) (kv k)).run P w = .ok (kv k) w := by
      rw [Array.getElem?_eq_getElem hres]
      simp [hkey, Instr.keyThatStays, K.same]
    refine .inr (.inl ⟨{ w with heap := w.heap.setIfInBounds b (.map (es.modify r.1 fun e => { e with key := kv k, val := ev v }) clock) }, ?_, rfl, setObj_ext _ _ _, es.modify r.1 fun e => { e with key := kv k, val := ev v }, clock, ?_, ?_, ?_, ?_⟩)
    · simp only [execOp, ho, hx', hy', hz', Instr.mapUpdate, Sem.run_bind, run_underlying ht, MapKept.run_getObj_map hb, K.check, hf, Result.andThen, Option.map_some, hst, MapKept.run_setObj_map _ hb]
      rfl
    · simp [hlt']
    · simp only [putL, hl]
      apply List.ext_getElem
      · simp [hlen]
      · intro j h1 h2
        simp only [List.length_map, Array.length_toList, Array.size_modify] at h1
        have h3 : j < l.length := by rw [← hlen]; simpa using h1
        have h4 := congrArg (fun x => x[j]?) hrel
        simp only [List.getElem?_map, Array.getElem?_toList, Array.getElem?_eq_getElem h1, List.getElem?_eq_getElem h3, Option.map_some, Option.some.injEq] at h4
        simp only [List.getElem_map, Array.getElem_toList, Array.getElem_modify, List.getElem_set]
        by_cases hj : r.1 = j
        · simp [hj]
        · simp [hj, h4]
    · intro e he
      obtain ⟨j, hj, rfl⟩ := List.getElem_of_mem he
      simp only [Array.length_toList, Array.size_modify] at hj
      simp only [Array.getElem_toList, Array.getElem_modify]
      have := hlt es[j] (by simp)
      split <;> simpa using this
    · have : (es.modify r.1 fun e => { e with key := kv k, val := ev v }).toList.map (·.born) = es.toList.map (·.born) := by
        apply List.ext_getElem
        · simp
        · intro j h1 h2
          simp only [List.getElem_map, Array.getElem_toList, Array.getElem_modify]
          split <;> rfl
      rw [this]; exact hnd

/-! ## A range over a map -/

/-- A range over the map in b, with the iterator in r: done has come. -/
def MapIt (kv : κ → Value) (ev : β → Value) (w : World) (b r : Nat) (l done : List (κ × β)) : Prop :=
  ∃ es clock since seen c0, w.heap[b]? = some (.map es clock) ∧ es.toList.map (fun e => (e.key, e.val)) = l.map (fun x => (kv x.1, ev x.2)) ∧ (∀ e ∈ es.toList, e.born < clock) ∧ (es.toList.map (·.born)).Nodup ∧
    w.heap[r]? = some (.mapIter (some b) since seen c0) ∧ (∀ e ∈ es.toList, e.born < since) ∧ since ≤ c0 ∧ since ≤ clock ∧ (done ≠ [] → c0 = clock) ∧
    ∃ js : List Nat, js.Nodup ∧ (∀ j ∈ js, j < l.length) ∧ seen.toList = js.filterMap (fun j => es[j]?.map (·.born)) ∧ done = js.filterMap (fun j => l[j]?)

theorem MapIt.ext {kv : κ → Value} {ev : β → Value} {w w' : World} {b r : Nat} {l done : List (κ × β)} {X : List Nat} (h : MapIt kv ev w b r l done) (he : Ext X w w') (hb : b ∉ X) (hr : r ∉ X) : MapIt kv ev w' b r l done := by
  obtain ⟨es, clock, since, seen, c0, h1, h2, h3, h4, h5, h6⟩ := h
  exact ⟨es, clock, since, seen, c0, (he.keep b (Array.getElem?_eq_some_iff.1 h1).1 hb).trans h1, h2, h3, h4, (he.keep r (Array.getElem?_eq_some_iff.1 h5).1 hr).trans h5, h6⟩
theorem MapIt.lt {kv : κ → Value} {ev : β → Value} {w : World} {b r : Nat} {l done : List (κ × β)} (h : MapIt kv ev w b r l done) : r < w.heap.size := by
  obtain ⟨es, clock, since, seen, c0, h1, h2, h3, h4, h5, h6⟩ := h
  exact (Array.getElem?_eq_some_iff.1 h5).1
theorem MapIt.owns {kv : κ → Value} {ev : β → Value} {w : World} {b r : Nat} {l done : List (κ × β)} (h : MapIt kv ev w b r l done) : MapL kv ev w b l := by
  obtain ⟨es, clock, since, seen, c0, h1, h2, h3, h4, _⟩ := h
  exact ⟨es, clock, h1, h2, h3, h4⟩

theorem acts_rangeMap {t kt et : TypeId} {kv : κ → Value} {ev : β → Value} {x : Operand} {b : Nat} {l : List (κ × β)} (ho : o.op = .range t x) (ht : P.underlying t = some (.map kt et))
    (hx : Go.Eng.ev E x = some (.map (some b))) (hM : MapL kv ev w b l) : Acts P n ds E o w (fun v w' => Ext [] w w' ∧ ∃ r, v = .pointer (some ⟨r, 0, none⟩) ∧ w.heap.size ≤ r ∧ MapIt kv ev w' b r l []) Q := by
  intro a ha _
  have hlt := hM.lt
  obtain ⟨es, clock, hb, hrel, hlt2, hnd⟩ := hM
  have hx' := ha.eval hx
  refine .inl ⟨_, w.alloc (.mapIter (some b) clock #[] clock), ?_, Ext.push _ _ _, w.heap.size, rfl, Nat.le_refl _, es, clock, clock, #[], clock, ?_, hrel, hlt2, hnd, ?_, hlt2, Nat.le_refl _, Nat.le_refl _, fun h => absurd rfl h, [], by simp, by simp, by simp, by simp⟩
  · have := run_range_map w t kt et b es clock ht hb
    simp [execOp, ho, hx', this]
  · show (w.heap.push _)[b]? = _; rw [Array.getElem?_push, if_neg (by omega)]; exact hb
  · show (w.heap.push _)[w.heap.size]? = _; simp

theorem acts_nextMap {x : Operand} {kv : κ → Value} {ev : β → Value} {b r : Nat} {l done : List (κ × β)} (ho : o.op = .next x false) (hx : Go.Eng.ev E x = some (.pointer (some ⟨r, 0, none⟩))) (hM : MapIt kv ev w b r l done) (hl : l.Nodup) :
    Acts P n ds E o w (fun v w' => (v = .tuple #[.bool false] ∧ w' = w ∧ done.Perm l) ∨ ∃ y ∈ l, y ∉ done ∧ v = .tuple #[.bool true, kv y.1, ev y.2] ∧ Ext [r] w w' ∧ MapIt kv ev w' b r l (done ++ [y])) Q := by
  intro a ha _
  obtain ⟨es, clock, since, seen, c0, hb, hrel, hlt2, hnd, hr, hold, hsc, hsk, hck, js, hjn, hjl, hseen, hdone⟩ := hM
  have hx' := ha.eval hx
  have hlen : es.size = l.length := by have := congrArg List.length hrel; simpa using this
  have hrlt := (Array.getElem?_eq_some_iff.1 hr).1
  have hat : ∀ j (h : j < l.length), (es[j]'(by omega)).key = kv l[j].1 ∧ (es[j]'(by omega)).val = ev l[j].2 := fun j h => by
    have h1 : j < es.size := by omega
    have := congrArg (fun x => x[j]?) hrel
    simp only [List.getElem?_map, Array.getElem?_toList, Array.getElem?_eq_getElem h1, List.getElem?_eq_getElem h, Option.map_some, Option.some.injEq, Prod.mk.injEq] at this
    exact this
  have hseenm : ∀ j (h : j < es.size), es[j].born ∈ seen ↔ j ∈ js := fun j h => by
    rw [← Array.mem_toList_iff, hseen, List.mem_filterMap]
    constructor
    · rintro ⟨i, hi, he⟩
      have hil : i < es.size := by have := hjl i hi; omega
      rw [Array.getElem?_eq_getElem hil, Option.map_some, Option.some.injEq] at he
      have := nodup_inj hnd (i := i) (j := j) (by simpa using hil) (by simpa using h) (by simpa using he)
      rw [← this]; exact hi
    · intro hj
      exact ⟨j, hj, by simp [h]⟩
  rcases run_next_at (P := P) w o.type r b since c0 seen es clock hr hb hold hsc with ⟨h0, hrun⟩ | ⟨e, he, w1, hw1, hrun⟩
  · refine .inl ⟨_, w, ?_, .inl ⟨rfl, rfl, ?_⟩⟩
    · simp [execOp, ho, hx', hrun]
    · have hall : ∀ j, j < l.length → j ∈ js := fun j hj => by
        have h1 : j < es.size := by omega
        refine (hseenm j h1).1 ?_
        have := Array.eq_empty_of_size_eq_zero h0
        unfold leftOf at this
        rw [Array.filter_eq_empty_iff] at this
        simpa using this es[j] (by simp)
      have hjp : js.Perm (List.range l.length) := (List.perm_ext_iff_of_nodup hjn List.nodup_range).2 fun j => by
        rw [List.mem_range]; exact ⟨hjl j, hall j⟩
      rw [hdone]
      exact (hjp.filterMap _).trans (.of_eq (filterMap_range l))
  · have hmem : e ∈ es.toList ∧ e.born ∉ seen := by unfold leftOf at he; simpa using he
    obtain ⟨j, hj, rfl⟩ := List.getElem_of_mem hmem.1
    have hj1 : j < es.size := by simpa using hj
    have hj2 : j < l.length := by omega
    simp only [Array.getElem_toList] at hmem hrun
    have hjs : j ∉ js := fun h => hmem.2 ((hseenm j hj1).2 h)
    have hexw : Ext [] w w1 := by
      rcases hw1 with rfl | rfl
      · exact Ext.refl _ _
      · exact Ext.draw _ _
    have hr1 : r < w1.heap.size := Nat.lt_of_lt_of_le hrlt hexw.size
    have hb1 : w1.heap[b]? = some (.map es clock) := (hexw.keep b (Array.getElem?_eq_some_iff.1 hb).1 (by simp)).trans hb
    have hbr : r ≠ b := fun h => by rw [h, hb] at hr; cases hr
    have hdl : l[j] ∉ done := fun h => by
      rw [hdone, List.mem_filterMap] at h
      obtain ⟨i, hi, he⟩ := h
      have hil := hjl i hi
      rw [List.getElem?_eq_getElem hil, Option.some.injEq] at he
      exact hjs (nodup_inj hl hil hj2 he ▸ hi)
    refine .inl ⟨.tuple #[.bool true, es[j].key, es[j].val], ChangeMaps.setBlock w1 r (.mapIter (some b) since (seen.push es[j].born) clock), ?_, .inr ⟨l[j], List.getElem_mem hj2, hdl, ?_, (hexw.up).trans (setObj_ext w1 r _), es, clock, since, seen.push es[j].born, clock, ?_, hrel, hlt2, hnd, ?_, hold, hsk, hsk, fun _ => rfl, js ++ [j], ?_, ?_, ?_, ?_⟩⟩
    · simp only [execOp, ho, hx', Sem.run_bind, hrun, Result.andThen]; rfl
    · rw [(hat j hj2).1, (hat j hj2).2]
    · show (w1.heap.setIfInBounds r _)[b]? = _
      rw [Array.getElem?_setIfInBounds, if_neg hbr]; exact hb1
    · show (w1.heap.setIfInBounds r _)[r]? = _
      rw [Array.getElem?_setIfInBounds, if_pos rfl, if_pos hr1]
    · rw [List.nodup_append]
      exact ⟨hjn, by simp, fun a ha b hb => by simp only [List.mem_singleton] at hb; rintro rfl; exact hjs (hb ▸ ha)⟩
    · intro i hi
      rcases List.mem_append.1 hi with h | h
      · exact hjl i h
      · rw [List.mem_singleton.1 h]; exact hj2
    · simp [hseen, hj1]
    · simp [hdone, hj2]

theorem acts_entryMap {x : Operand} {kv : κ → Value} {ev : β → Value} {b r : Nat} {l done : List (κ × β)} {y : κ × β} (ho : o.op = .entry x) (hx : Go.Eng.ev E x = some (.pointer (some ⟨r, 0, none⟩))) (hM : MapIt kv ev w b r l (done ++ [y])) :
    Acts P n ds E o w (fun v w' => v = .tuple #[kv y.1, ev y.2] ∧ w' = w) Q := by
  intro a ha _
  obtain ⟨es, clock, since, seen, c0, hb, hrel, hlt2, hnd, hr, hold, hsc, hck, hcc, js, hjn, hjl, hseen, hdone⟩ := hM
  have hx' := ha.eval hx
  have hlen : es.size = l.length := by have := congrArg List.length hrel; simpa using this
  have hmp : ∀ is : List Nat, (∀ j ∈ is, j < l.length) → (is.filterMap fun j => l[j]?).length = is.length := fun is => by
    induction is with
    | nil => intro _; rfl
    | cons j is ih => intro h; simp [List.getElem?_eq_getElem (h j (by simp)), ih fun i hi => h i (by simp [hi])]
  obtain ⟨is, j, rfl⟩ : ∃ is j, js = is ++ [j] := by
    rcases List.eq_nil_or_concat js with rfl | ⟨is, j, rfl⟩
    · simp at hdone
    · exact ⟨is, j, by simp⟩
  have hj2 := hjl j (by simp)
  have hj1 : j < es.size := by omega
  have hy : y = l[j] := by
    simp only [List.filterMap_append, List.filterMap_cons, List.filterMap_nil, List.getElem?_eq_getElem hj2] at hdone
    have := congrArg List.getLast? hdone
    simpa using this
  have hs : seen = (seen.pop).push es[j].born := by
    simp only [List.filterMap_append, List.filterMap_cons, List.filterMap_nil, Array.getElem?_eq_getElem hj1, Option.map_some] at hseen
    apply Array.toList_inj.1
    rw [Array.toList_push, Array.toList_pop, hseen]
    simp
  have hkv : es[j].key = kv l[j].1 ∧ es[j].val = ev l[j].2 := by
    have := congrArg (fun x => x[j]?) hrel
    simpa [hj1, hj2] using this
  have hc := hcc (by simp)
  subst hc
  rw [hs] at hr
  have hrun := run_entry_at (P := P) w r b since seen.pop es c0 es[j] hr hb (by simp) hnd
  refine .inl ⟨.tuple #[es[j].key, es[j].val], w, ?_, ?_, rfl⟩
  · simp only [execOp, ho, hx', Sem.run_bind, hrun, Result.andThen]; rfl
  · rw [hkv.1, hkv.2, hy]

theorem nodup_len : ∀ (n : Nat) (js : List Nat), js.Nodup → (∀ j ∈ js, j < n) → js.length ≤ n
  | 0, js, _, h => by
    cases js with
    | nil => simp
    | cons j js => exact absurd (h j (by simp)) (by omega)
  | n + 1, js, hn, h => by
    by_cases hm : n ∈ js
    · have h1 := nodup_len n (js.erase n) (hn.erase n) (fun j hj => by
        have h2 := h j (List.mem_of_mem_erase hj)
        have h3 : j ≠ n := fun e => by subst e; exact (List.Nodup.not_mem_erase hn) hj
        omega)
      have := List.length_erase_of_mem hm
      omega
    · have := nodup_len n js hn (fun j hj => by
        have h2 := h j hj
        have h3 : j ≠ n := fun e => hm (e ▸ hj)
        omega)
      omega
theorem MapIt.le {kv : κ → Value} {ev : β → Value} {w : World} {b r : Nat} {l done : List (κ × β)} (h : MapIt kv ev w b r l done) : done.length ≤ l.length := by
  obtain ⟨es, clock, since, seen, c0, hb, hrel, hlt2, hnd, hr, hold, hsc, hck, hcc, js, hjn, hjl, hseen, hdone⟩ := h
  have hmp : ∀ is : List Nat, (∀ j ∈ is, j < l.length) → (is.filterMap fun j => l[j]?).length = is.length := fun is => by
    induction is with
    | nil => intro _; rfl
    | cons j is ih => intro h; simp [List.getElem?_eq_getElem (h j (by simp)), ih fun i hi => h i (by simp [hi])]
  rw [hdone, hmp js hjl]
  exact nodup_len _ _ hjn hjl
/-- Nothing is left. -/
theorem acts_nextMap_done {x : Operand} {kv : κ → Value} {ev : β → Value} {b r : Nat} {l done : List (κ × β)} (ho : o.op = .next x false) (hx : Go.Eng.ev E x = some (.pointer (some ⟨r, 0, none⟩))) (hM : MapIt kv ev w b r l done) (hl : l.Nodup) (hd : l.length ≤ done.length) :
    Acts P n ds E o w (fun v w' => v = .tuple #[.bool false] ∧ w' = w ∧ done.Perm l) Q :=
  (acts_nextMap ho hx hM hl).mono fun v w' h => by
    rcases h with h | ⟨y, _, _, _, _, h⟩
    · exact h
    · have := h.le; simp at this; omega
/-- One more comes. -/
theorem acts_nextMap_more {x : Operand} {kv : κ → Value} {ev : β → Value} {b r : Nat} {l done : List (κ × β)} (ho : o.op = .next x false) (hx : Go.Eng.ev E x = some (.pointer (some ⟨r, 0, none⟩))) (hM : MapIt kv ev w b r l done) (hl : l.Nodup) (hd : done.length < l.length) :
    Acts P n ds E o w (fun v w' => ∃ y ∈ l, y ∉ done ∧ v = .tuple #[.bool true, kv y.1, ev y.2] ∧ Ext [r] w w' ∧ MapIt kv ev w' b r l (done ++ [y])) Q :=
  (acts_nextMap ho hx hM hl).mono fun v w' h => by
    rcases h with ⟨_, _, h⟩ | h
    · have := h.length_eq; omega
    · exact h

/-- A struct's fields may be keys if each may. -/
theorem run_checkStruct {t : TypeId} {fs : Array Field} {cs : Array Value} {m : Nat} (e : Bool) (ht : P.underlying t = some (.struct fs)) (w : World)
    (h : ∀ f ∈ fs.toList, ∃ v, (part f.type cs f.offset).run P w = .ok v w ∧ (Instr.checkKey e m f.type v).run P w = .ok () w) : (Instr.checkKey e (m + 1) t (.agg cs)).run P w = .ok () w := by
  rw [Instr.checkKey]
  simp only [Sem.run_bind, run_underlying ht, Result.andThen_ok]
  rw [← Array.forIn_toList]
  generalize fs.toList = L at h
  induction L with
  | nil => simp
  | cons f L ih =>
    obtain ⟨v, h1, h2⟩ := h f (by simp)
    by_cases hn : f.name = "_"
    · simp only [List.forIn_cons, Sem.run_bind, hn, ne_eq, not_true_eq_false, if_false, Result.andThen_ok, Sem.run_pure]
      exact ih (fun y hy => h y (by simp [hy]))
    · simp only [List.forIn_cons, Sem.run_bind, hn, ne_eq, not_false_eq_true, if_true, Result.andThen_ok, h1, h2, Sem.run_pure]
      exact ih (fun y hy => h y (by simp [hy]))

end

/-! ## Scopes (functions that hold labels, no goto) -/
def scopeE (Q : PostE) : PostE
  | .goto _, _, _ => False
  | .normal, E, w => Q .normal E w
  | .exit j, E, w => Q (.exit j) E w
  | .ret, E, w => Q .ret E w
  | .panic c, E, w => Q (.panic c) E w
  | .outgrown, E, w => Q .outgrown E w
section
variable {F : Fence} {n : Nat} {P : Program} {Q : PostE} {E : Env} {w : World} {ds : List Deferred} {ro : Option Nat}
theorem scopeE_normal (h : Q .normal E w) : scopeE Q .normal E w := h
theorem scopeE_exit {j : Nat} (h : Q (.exit j) E w) : scopeE Q (.exit j) E w := h
theorem scopeE_ret (h : Q .ret E w) : scopeE Q .ret E w := h
theorem scopeE_panic {c : List PanicEntry} (h : Q (.panic c) E w) : scopeE Q (.panic c) E w := h
theorem stepR_scope {b : Frame} {a : Act} {k : List Item} {cs : List Frame} {c : Code} : step P (lone (b.atR a (.code (.scope c) :: k)) cs w) = .next (lone (b.atR a (.code c :: .inScope c :: k)) cs w) :=
  step_lone_go (by simp [stepG, stepG.exec, Frame.atR])
theorem stepR_inScope {b : Frame} {a : Act} {k : List Item} {cs : List Frame} {c : Code} : step P (lone (b.atR a (.inScope c :: k)) cs w) = .next (lone (b.atR a k) cs w) :=
  step_lone_go (by simp [stepG, stepG.exec, Frame.atR])
theorem wpIn_scope {R R' : Exit → Act → World → Prop} {a : Act} {c : Code} (h : c.wpIn F n P R' a w) (hR : ∀ e a w, R' e a w → R e a w ∧ ∀ l, e ≠ .goto l) : (Code.scope c).wpIn F n P R a w := by
  intro b k cs hro hb hr
  have h0 : (lone (b.atR a (.code (.scope c) :: k)) cs w).fenced P F := fenced_calm hb hr rfl
  obtain ⟨e, a₁, w₁, hq, harr⟩ := h b (.inScope c :: k) cs hro hb hr
  obtain ⟨hq, hng⟩ := hR _ _ _ hq
  cases e with
  | normal => exact ⟨.normal, a₁, w₁, hq, .head h0 stepR_scope (StepsIn.trans harr (.one (fenced_calm hb hr rfl) stepR_inScope))⟩
  | exit id =>
    have hx : exitTo id (.inScope c :: k) = exitTo id k := by simp [exitTo]
    exact ⟨.exit id, a₁, w₁, hq, fun k' hk => .head h0 stepR_scope (harr.1 k' (by rw [hx]; exact hk)),
      fun hr' hk => let ⟨k₁, h1, h2⟩ := harr.2 hr' (by rw [hx]; exact hk); ⟨k₁, h1, .head h0 stepR_scope h2⟩⟩
  | goto l => exact absurd rfl (hng l)
  | ret => exact ⟨_, a₁, w₁, hq, .of_steps (.one h0 stepR_scope) harr⟩
  | panic ch => exact ⟨_, a₁, w₁, hq, .of_steps (.one h0 stepR_scope) harr⟩
  | outgrown => exact ⟨_, a₁, w₁, hq, .of_steps (.one h0 stepR_scope) harr⟩
theorem Sx.scope {c : Code} (h : Sx ro P n ds c (scopeE Q) E w) : Sx ro P n ds (.scope c) Q E w := fun a ha hd =>
  wpIn_scope (h a ha hd) fun e a w h => by
    obtain ⟨E', h1, h2, h3⟩ := h
    cases e with
    | goto l => exact h3.elim
    | _ => exact ⟨⟨E', h1, h2, h3⟩, fun l h => by cases h⟩
end

section
variable {P : Program} {n : Nat} {ds : List Deferred} {ops : List Oper} {Q : PostE} {dets done : List Nat} {m : Nat} {pend : Pend} {E : Env} {w : World}
/-- Three acts may come up. -/
theorem Wx.fork3 {i j k : Nat} (hr : (Region.ready .any ops.toArray (listedOf ops done) == [i, j, k]) = true) (hi : Br P n ds ops Q dets done m pend E w i) (hj : Br P n ds ops Q dets done m pend E w j) (hl : Br P n ds ops Q dets done m pend E w k) :
    Wx P n ds ops Q dets done [] (m + 1) pend E w := by
  intro hs _ hc hp a ha hds
  have hr := eq_of_beq hr
  refine ⟨fun h0 => (by rw [h0] at hr; cases hr), fun x hk => ?_⟩
  have hk' := hk
  rw [hr] at hk'
  simp only [List.mem_cons, List.not_mem_nil, or_false] at hk'
  rcases hk' with rfl | rfl | rfl
  · have := hi hs hc hk hp a ha hds
    simpa using this
  · have := hj hs hc hk hp a ha hds
    simpa using this
  · have := hl hs hc hk hp a ha hds
    simpa using this
end
end Go.Eng

/- Plain: facts and keys, and their order. No program in sight. -/
namespace Go.Proofs.Ytfgckcochilpkaa
open Go Go.Eng

structure Ky where
  k : Int
  s : Int
  o : Int
structure Fct where
  key : Ky
  val : Int
  lo : Int
  hi : Int
  known : Int
  no : Int

theorem Ky.eq_iff {a b : Ky} : a = b ↔ a.k = b.k ∧ a.s = b.s ∧ a.o = b.o := by cases a; cases b; simp
instance : DecidableEq Ky := fun a b => decidable_of_iff (a.k = b.k ∧ a.s = b.s ∧ a.o = b.o) Ky.eq_iff.symm
theorem Fct.eq_iff {a b : Fct} : a = b ↔ a.key = b.key ∧ a.val = b.val ∧ a.lo = b.lo ∧ a.hi = b.hi ∧ a.known = b.known ∧ a.no = b.no := by cases a; cases b; simp
instance : DecidableEq Fct := fun a b => decidable_of_iff (a.key = b.key ∧ a.val = b.val ∧ a.lo = b.lo ∧ a.hi = b.hi ∧ a.known = b.known ∧ a.no = b.no) Fct.eq_iff.symm

abbrev kc (k : Ky) : List Value := [.int .i64 k.k, .int .i64 k.s, .int .i64 k.o]
abbrev fc (f : Fct) : List Value := [.int .i64 f.key.k, .int .i64 f.key.s, .int .i64 f.key.o, .int .i64 f.val, .int .i64 f.lo, .int .i64 f.hi, .int .i64 f.known, .int .i64 f.no]
theorem fc_len (f : Fct) : (fc f).length = 8 := rfl
theorem kc_len (k : Ky) : (kc k).length = 3 := rfl
theorem fc_one (f : Fct) : ∀ u ∈ fc f, u.oneCell' = true := by simp [fc, Value.oneCell']
theorem kc_one (k : Ky) : ∀ u ∈ kc k, u.oneCell' = true := by simp [kc, Value.oneCell']

/-! ## Order -/
def cmpI (a b : Int) : Int := if a < b then -1 else if b < a then 1 else 0
def cmpF (a b : Fct) : Int := if cmpI a.known b.known = 0 then cmpI a.no b.no else cmpI a.known b.known
def before (a b : Fct) : Prop := a.known < b.known ∨ a.known = b.known ∧ a.no < b.no
instance (a b : Fct) : Decidable (before a b) := inferInstanceAs (Decidable (_ ∨ _))
theorem cmpI_cases (a b : Int) : (cmpI a b = -1 ∧ a < b) ∨ (cmpI a b = 0 ∧ a = b) ∨ (cmpI a b = 1 ∧ b < a) := by
  unfold cmpI
  by_cases h1 : a < b
  · simp [h1]
  · by_cases h2 : b < a
    · simp [h1, h2]
    · obtain rfl : a = b := by omega
      simp
theorem cmpF_lt (a b : Fct) : cmpF a b < 0 ↔ before a b := by
  unfold cmpF before
  have h1 := cmpI_cases a.known b.known
  have h2 := cmpI_cases a.no b.no
  split <;> omega
theorem cmpF_ge (a b : Fct) : 0 ≤ cmpF a b ↔ ¬ before a b := by
  have := cmpF_lt a b
  constructor
  · intro h hb; have := this.2 hb; omega
  · intro h
    by_cases h1 : cmpF a b < 0
    · exact absurd (this.1 h1) h
    · omega
theorem cmpF_in (a b : Fct) : -1 ≤ cmpF a b ∧ cmpF a b ≤ 1 := by
  have h1 := cmpI_cases a.known b.known
  have h2 := cmpI_cases a.no b.no
  unfold cmpF
  split <;> omega

/-! ## Validity -/
def Fits (f : Fct) : Prop := (0 ≤ f.key.k ∧ f.key.k ≤ 15) ∧ (0 ≤ f.key.s ∧ f.key.s ≤ 4095) ∧ (0 ≤ f.key.o ∧ f.key.o ≤ 1023) ∧ (-1 ≤ f.val ∧ f.val ≤ 1048576) ∧ 0 ≤ f.lo ∧ f.lo < f.hi ∧ f.hi ≤ 1024 ∧ (1 ≤ f.known ∧ f.known ≤ 16777216) ∧ (0 ≤ f.no ∧ f.no ≤ 65535)
instance (f : Fct) : Decidable (Fits f) := by unfold Fits; infer_instance
/-- Each comes before the next. -/
def Risen (l : List Fct) : Prop := ∀ j, (h : j < l.length - 1) → before (l[j]'(by omega)) (l[j + 1]'(by omega))
instance (l : List Fct) : Decidable (Risen l) := by unfold Risen; infer_instance
def checkL (l : List Fct) : Int := if ∀ f ∈ l, Fits f then (if Risen l then 0 else 41) else 40
theorem checkL_in (l : List Fct) : checkL l = 0 ∨ checkL l = 40 ∨ checkL l = 41 := by
  unfold checkL; split
  · split <;> simp
  · simp
def lastBad (l : List Fct) (f : Fct) : Bool := match l.getLast? with
  | some g => !decide (before g f)
  | none => false
def addL (l : List Fct) (f : Fct) : List Fct × Int :=
  if checkL l ≠ 0 then ([], checkL l) else if ¬ Fits f then ([], 40) else if lastBad l f then ([], 41) else (l ++ [f], 0)

/-! ## What is known -/
def ofL (l : List Fct) (k : Ky) (known : Int) : List Fct := l.filter fun f => decide (f.key = k ∧ f.known ≤ known)
theorem ofL_take {l : List Fct} {k : Ky} {known : Int} {i : Nat} (hi : i < l.length) : ofL (l.take (i + 1)) k known = ofL (l.take i) k known ++ (if l[i].key = k ∧ l[i].known ≤ known then [l[i]] else []) := by
  unfold ofL
  rw [← List.take_append_getElem hi, List.filter_append]
  congr 1
  by_cases h : l[i].key = k ∧ l[i].known ≤ known
  · rw [if_pos h, List.filter_cons_of_pos (by simpa using h)]; rfl
  · rw [if_neg h, List.filter_cons_of_neg (by simpa using h)]; rfl
theorem ofL_prefix (l : List Fct) (k : Ky) (known : Int) (i : Nat) : ofL (l.take i) k known <+: ofL l k known := by
  conv => rhs; rw [← List.take_append_drop i l]
  unfold ofL
  rw [List.filter_append]
  exact List.prefix_append _ _
/-- The one that counts on a day, after one more. -/
def dayStep (day : Int) (b : Option Fct) (f : Fct) : Option Fct :=
  if f.lo ≤ day ∧ day < f.hi then (match b with | none => some f | some g => if before f g then some g else some f) else b
def bestL (l : List Fct) (k : Ky) (day known : Int) : Option Fct := (ofL l k known).foldl (dayStep day) none
def valO : Option Fct → Int × Bool
  | none => (0, false)
  | some f => if f.val < 0 then (0, false) else (f.val, true)
def atL (l : List Fct) (k : Ky) (day known : Int) : Int × Bool := valO (bestL l k day known)
/-- The value, or what is less than 0. -/
def rowO : Option Fct → Int
  | none => -1
  | some f => max f.val (-1)
theorem rowO_val (b : Option Fct) : (0 ≤ rowO b ↔ (valO b).2 = true) ∧ (0 ≤ rowO b → (valO b).1 = rowO b) ∧ (¬ 0 ≤ rowO b → rowO b = -1 ∧ valO b = (0, false)) := by
  cases b with
  | none => simp [rowO, valO]
  | some f =>
    by_cases h : f.val < 0
    · have hm : rowO (some f) = -1 := by simp only [rowO]; omega
      have hv : valO (some f) = (0, false) := by simp [valO, h]
      rw [hm, hv]; simp
    · have hm : rowO (some f) = f.val := by simp only [rowO]; omega
      have hv : valO (some f) = (f.val, true) := by simp [valO, h]
      rw [hm, hv]; simp; omega

end Go.Proofs.Ytfgckcochilpkaa

/- The facts' walks: order, validity. -/
set_option linter.unusedVariables false
set_option maxRecDepth 100000
set_option linter.unusedSimpArgs false
namespace Go.Proofs.Ytfgckcochilpkaa
open Go Go.Eng

theorem within_t (n lo hi : Int) (w : World) (h : lo ≤ n ∧ n ≤ hi) : Calls Try.prog 75 #[.int .i64 n, .int .i64 lo, .int .i64 hi] w (Ret fun r w' => Ext [] w w' ∧ r = .bool true) := by
  obtain ⟨h1, h2⟩ := h
  refine calls_of_Sx (args := [.int .i64 n, .int .i64 lo, .int .i64 hi]) Try.func75 rfl rfl ?_
  refine ztx ?_
  refine Ox.pure rfl rfl zas ?_
  refine Ox.fin ?_
  refine ztx ?_
  refine Ox.pure rfl rfl zmv ?_
  refine Ox.pure rfl rfl zmv ?_
  refine Ox.pure rfl rfl zbc ?_
  refine Ox.pure rfl rfl zmv ?_
  first | (refine Ox.skip rfl rfl ?_) | (refine Ox.pure rfl rfl zmv ?_)
  first | (refine Ox.skip rfl rfl ?_) | (refine Ox.pure rfl rfl zmv ?_)
  first | (refine Ox.skip rfl rfl ?_) | (refine Ox.pure rfl rfl zbc ?_)
  refine Ox.pure rfl rfl zpk ?_
  refine Ox.pure rfl rfl zas ?_
  refine Ox.fin ?_
  refine zrt ?_
  exact endE_ret [_] ⟨rfl, trivial⟩ ⟨zxc, rfl⟩
theorem within_f (n lo hi : Int) (w : World) (h : ¬ (lo ≤ n ∧ n ≤ hi)) : Calls Try.prog 75 #[.int .i64 n, .int .i64 lo, .int .i64 hi] w (Ret fun r w' => Ext [] w w' ∧ r = .bool false) := by
  refine calls_of_Sx (args := [.int .i64 n, .int .i64 lo, .int .i64 hi]) Try.func75 rfl rfl ?_
  by_cases h1 : lo ≤ n
  · refine ztx ?_
    refine Ox.pure rfl rfl zas ?_
    refine Ox.fin ?_
    refine ztx ?_
    refine Ox.pure rfl rfl zmv ?_
    refine Ox.pure rfl rfl zmv ?_
    refine Ox.pure rfl rfl zbc ?_
    refine Ox.pure rfl rfl zmv ?_
    first | (refine Ox.skip rfl rfl ?_) | (refine Ox.pure rfl rfl zmv ?_)
    first | (refine Ox.skip rfl rfl ?_) | (refine Ox.pure rfl rfl zmv ?_)
    first | (refine Ox.skip rfl rfl ?_) | (refine Ox.pure rfl rfl zbc ?_)
    refine Ox.pure rfl rfl zpk ?_
    refine Ox.pure rfl rfl zas ?_
    refine Ox.fin ?_
    refine zrt ?_
    exact endE_ret [_] ⟨rfl, trivial⟩ ⟨zxc, rfl⟩
  · refine ztx ?_
    refine Ox.pure rfl rfl zas ?_
    refine Ox.fin ?_
    refine ztx ?_
    refine Ox.pure rfl rfl zmv ?_
    refine Ox.pure rfl rfl zmv ?_
    refine Ox.pure rfl rfl zbc ?_
    refine Ox.pure rfl rfl zmv ?_
    first | (refine Ox.skip rfl rfl ?_) | (refine Ox.pure rfl rfl zmv ?_)
    first | (refine Ox.skip rfl rfl ?_) | (refine Ox.pure rfl rfl zmv ?_)
    first | (refine Ox.skip rfl rfl ?_) | (refine Ox.pure rfl rfl zbc ?_)
    refine Ox.pure rfl rfl zpk ?_
    refine Ox.pure rfl rfl zas ?_
    refine Ox.fin ?_
    refine zrt ?_
    exact endE_ret [_] ⟨rfl, trivial⟩ ⟨zxc, rfl⟩

theorem isNaN_at (a : Int) (w : World) : Calls Try.prog 81 #[.int .i64 a] w (Ret fun r w' => Ext [] w w' ∧ r = .bool false) := by
  refine calls_of_Sx (args := [.int .i64 a]) Try.func81 rfl rfl ?_
  refine ztx ?_
  refine Ox.pure rfl rfl zas ?_
  refine Ox.fin ?_
  refine ztx ?_
  refine Ox.pure rfl rfl zmv ?_
  refine Ox.pure rfl rfl zmv ?_
  refine Ox.pure rfl rfl zbc ?_
  refine Ox.pure rfl rfl zas ?_
  refine Ox.fin ?_
  refine zrt ?_
  exact endE_ret [_] ⟨rfl, trivial⟩ ⟨zxc, rfl⟩

theorem compareI_at (a b : Int) (w : World) : Calls Try.prog 72 #[.int .i64 a, .int .i64 b] w (Ret fun r w' => Ext [] w w' ∧ r = .int .i64 (cmpI a b)) := by
  refine calls_of_Sx (args := [.int .i64 a, .int .i64 b]) Try.func72 rfl rfl ?_
  by_cases h1 : a < b
  · refine ztx ?_
    refine Ox.pure rfl rfl zas ?_
    refine Ox.fin ?_
    refine ztx ?_
    refine Ox.pure rfl rfl zmv ?_
    refine Ox.act rfl rfl (acts_call rfl rfl rfl (isNaN_at a _)) ?_
    rintro v1 w1 ⟨e1, rfl⟩
    have hz1 := e1.size
    refine Ox.pure rfl rfl zas ?_
    refine Ox.fin ?_
    refine ztx ?_
    refine Ox.pure rfl rfl zmv ?_
    refine Ox.act rfl rfl (acts_call rfl rfl rfl (isNaN_at b _)) ?_
    rintro v2 w2 ⟨e2, rfl⟩
    have hz2 := e2.size
    refine Ox.pure rfl rfl zas ?_
    refine Ox.fin ?_
    refine ztx ?_
    refine Ox.pure rfl rfl zmv ?_
    refine Ox.fin ?_
    refine zcf ?_
    refine zsk ?_
    refine ztx ?_
    refine Ox.pure rfl rfl zmv ?_
    refine Ox.fin ?_
    refine zcf ?_
    refine zsk ?_
    refine ztx ?_
    refine Ox.pure rfl rfl zmv ?_
    refine Ox.pure rfl rfl zmv ?_
    refine Ox.pure rfl rfl zbc ?_
    refine Ox.fin ?_
    refine zct ?_
    refine ztx ?_
    refine Ox.pure rfl rfl zas ?_
    refine Ox.fin ?_
    refine zrt ?_
    exact endE_ret [_] ⟨rfl, trivial⟩ ⟨zxc, by rw [cmpI, if_pos h1]; rfl⟩
  · by_cases h2 : b < a
    · refine ztx ?_
      refine Ox.pure rfl rfl zas ?_
      refine Ox.fin ?_
      refine ztx ?_
      refine Ox.pure rfl rfl zmv ?_
      refine Ox.act rfl rfl (acts_call rfl rfl rfl (isNaN_at a _)) ?_
      rintro v3 w3 ⟨e3, rfl⟩
      have hz3 := e3.size
      refine Ox.pure rfl rfl zas ?_
      refine Ox.fin ?_
      refine ztx ?_
      refine Ox.pure rfl rfl zmv ?_
      refine Ox.act rfl rfl (acts_call rfl rfl rfl (isNaN_at b _)) ?_
      rintro v4 w4 ⟨e4, rfl⟩
      have hz4 := e4.size
      refine Ox.pure rfl rfl zas ?_
      refine Ox.fin ?_
      refine ztx ?_
      refine Ox.pure rfl rfl zmv ?_
      refine Ox.fin ?_
      refine zcf ?_
      refine zsk ?_
      refine ztx ?_
      refine Ox.pure rfl rfl zmv ?_
      refine Ox.fin ?_
      refine zcf ?_
      refine zsk ?_
      refine ztx ?_
      refine Ox.pure rfl rfl zmv ?_
      refine Ox.pure rfl rfl zmv ?_
      refine Ox.pure rfl rfl zbc ?_
      refine Ox.fin ?_
      refine zcf ?_
      refine zsk ?_
      refine ztx ?_
      refine Ox.pure rfl rfl zmv ?_
      refine Ox.pure rfl rfl zmv ?_
      refine Ox.pure rfl rfl zbc ?_
      refine Ox.fin ?_
      refine zct ?_
      refine ztx ?_
      refine Ox.pure rfl rfl zas ?_
      refine Ox.fin ?_
      refine zrt ?_
      exact endE_ret [_] ⟨rfl, trivial⟩ ⟨zxc, by rw [cmpI, if_neg h1, if_pos h2]; rfl⟩
    · refine ztx ?_
      refine Ox.pure rfl rfl zas ?_
      refine Ox.fin ?_
      refine ztx ?_
      refine Ox.pure rfl rfl zmv ?_
      refine Ox.act rfl rfl (acts_call rfl rfl rfl (isNaN_at a _)) ?_
      rintro v5 w5 ⟨e5, rfl⟩
      have hz5 := e5.size
      refine Ox.pure rfl rfl zas ?_
      refine Ox.fin ?_
      refine ztx ?_
      refine Ox.pure rfl rfl zmv ?_
      refine Ox.act rfl rfl (acts_call rfl rfl rfl (isNaN_at b _)) ?_
      rintro v6 w6 ⟨e6, rfl⟩
      have hz6 := e6.size
      refine Ox.pure rfl rfl zas ?_
      refine Ox.fin ?_
      refine ztx ?_
      refine Ox.pure rfl rfl zmv ?_
      refine Ox.fin ?_
      refine zcf ?_
      refine zsk ?_
      refine ztx ?_
      refine Ox.pure rfl rfl zmv ?_
      refine Ox.fin ?_
      refine zcf ?_
      refine zsk ?_
      refine ztx ?_
      refine Ox.pure rfl rfl zmv ?_
      refine Ox.pure rfl rfl zmv ?_
      refine Ox.pure rfl rfl zbc ?_
      refine Ox.fin ?_
      refine zcf ?_
      refine zsk ?_
      refine ztx ?_
      refine Ox.pure rfl rfl zmv ?_
      refine Ox.pure rfl rfl zmv ?_
      refine Ox.pure rfl rfl zbc ?_
      refine Ox.fin ?_
      refine zcf ?_
      refine zsk ?_
      refine ztx ?_
      refine Ox.pure rfl rfl zas ?_
      refine Ox.fin ?_
      refine zrt ?_
      exact endE_ret [_] ⟨rfl, trivial⟩ ⟨zxc, by rw [cmpI, if_neg h1, if_neg h2]; rfl⟩

/-- The first that is not zero. -/
def orL : List Int → Int
  | [] => 0
  | a :: l => if a = 0 then orL l else a
abbrev ic (a : Int) : List Value := [.int .i64 a]

theorem or_at (l : List Int) (p : Option Addr) (A : Addr) (cap : Nat) (w : World) (hs : SlV ic w p A l cap) : Calls Try.prog 71 #[.slice p l.length cap] w (Ret fun r w' => Ext [] w w' ∧ r = .int .i64 (orL l)) := by
  have hfew := hs.few
  have hp := hs.ptr
  refine calls_of_Sx (args := [.slice p l.length cap]) Try.func71 rfl rfl ?_
  refine ztx ?_
  refine Ox.pure rfl rfl zas ?_
  refine Ox.fin ?_
  refine ztx ?_
  refine Ox.pure rfl rfl zas ?_
  refine Ox.fin ?_
  refine ztx ?_
  refine Ox.pure rfl rfl zmv ?_
  refine Ox.pure rfl rfl (rp_lenS rfl rfl rfl) ?_
  refine Ox.pure rfl rfl zmv ?_
  refine Ox.fin ?_
  refine zbl ?_
  refine Sx.loop (ι := Nat) (fun i E wr => E = [(3, .int .i64 0), (6, .slice p l.length cap), (7, .int .i64 (l.length : Int)), (8, .int .i64 (i : Int))] ∧ i ≤ l.length ∧ orL l = orL (l.drop i) ∧ Ext [] w wr) (fun i => l.length - i) 0
    (sub_cons rfl (sub_cons rfl (sub_cons rfl (sub_cons rfl sub_nil)))) ⟨rfl, Nat.zero_le _, rfl, zxc⟩ ?_
  rintro i E wr ⟨rfl, hi, hf, er⟩
  by_cases hlt : i < l.length
  · rw [List.drop_eq_getElem_cons hlt, orL] at hf
    have hcell : (rowsV ic l)[i * 1]? = some (.int .i64 l[i]) := by
      have := rowsV_at (enc := ic) (m := 1) (fun _ => rfl) hlt
      have h2 := congrArg (fun c => c[0]?) this
      simpa using h2
    by_cases h0 : l[i] = 0
    · rw [if_pos h0] at hf
      refine ztx ?_
      refine Ox.pure rfl rfl zbc ?_
      refine Ox.fin ?_
      refine zct ?_
      refine zsk ?_
      refine zbl ?_
      refine ztx ?_
      refine Ox.pure rfl rfl zix ?_
      refine Ox.val rfl rfl (rv_load rfl rfl (fun u hu => ((hs.row.ext0 zxc).ext0 hu).ld _ rfl hcell)) ?_
      refine Ox.pure rfl rfl zas ?_
      refine Ox.fin ?_
      refine ztx ?_
      refine Ox.pure rfl rfl zmv ?_
      refine Ox.pure rfl rfl zmv ?_
      refine Ox.pure rfl rfl zbc ?_
      refine Ox.fin ?_
      refine zcf ?_
      refine zsk ?_
      refine ztx ?_
      refine Ox.pure rfl rfl zba ?_
      refine Ox.pure rfl rfl zmv ?_
      refine Ox.fin ?_
      exact ⟨i + 1, _, sub_cons rfl (sub_cons rfl (sub_cons rfl (sub_cons rfl sub_nil))), ⟨rfl, hlt, hf, zxc⟩, by omega⟩
    · rw [if_neg h0] at hf
      refine ztx ?_
      refine Ox.pure rfl rfl zbc ?_
      refine Ox.fin ?_
      refine zct ?_
      refine zsk ?_
      refine zbl ?_
      refine ztx ?_
      refine Ox.pure rfl rfl zix ?_
      refine Ox.val rfl rfl (rv_load rfl rfl (fun u hu => ((hs.row.ext0 zxc).ext0 hu).ld _ rfl hcell)) ?_
      refine Ox.pure rfl rfl zas ?_
      refine Ox.fin ?_
      refine ztx ?_
      refine Ox.pure rfl rfl zmv ?_
      refine Ox.pure rfl rfl zmv ?_
      refine Ox.pure rfl rfl zbc ?_
      refine Ox.fin ?_
      refine zct ?_
      refine ztx ?_
      refine Ox.pure rfl rfl zmv ?_
      refine Ox.pure rfl rfl zas ?_
      refine Ox.fin ?_
      refine zrt ?_
      exact endE_ret [_] ⟨rfl, trivial⟩ ⟨zxc, by rw [hf]; rfl⟩
  · rw [List.drop_of_length_le (by omega), orL] at hf
    rw [hf]
    refine ztx ?_
    refine Ox.pure rfl rfl zbc ?_
    refine Ox.fin ?_
    refine zcf ?_
    refine zex ?_
    refine ztx ?_
    refine Ox.pure rfl rfl zmv ?_
    refine Ox.pure rfl rfl zas ?_
    refine Ox.fin ?_
    refine zrt ?_
    exact endE_ret [_] ⟨rfl, trivial⟩ ⟨zxc, rfl⟩

theorem compare_at (a b : Fct) (w : World) : Calls Try.prog 55 #[.agg (fc a).toArray, .agg (fc b).toArray] w (Ret fun r w' => Ext [] w w' ∧ r = .int .i64 (cmpF a b)) := by
  refine calls_of_Sx (args := [.agg (fc a).toArray, .agg (fc b).toArray]) Try.func55 rfl rfl ?_
  refine ztx ?_
  refine Ox.act rfl rfl (acts_box rfl rfl) ?_
  rintro vbx wbx ⟨ebx, bbx, rfl, hbbx, hBbx⟩
  first | (have hCbx : Cells wbx ⟨bbx, 0, none⟩ [_, _, _, _, _, _, _, _] := hBbx.cells) | have hCbx := Blk.cellsL hBbx
  have hlbx := hBbx.lt
  have hzbx := ebx.size
  refine Ox.act rfl rfl (acts_box rfl rfl) ?_
  rintro vby wby ⟨eby, bby, rfl, hbby, hBby⟩
  first | (have hCby : Cells wby ⟨bby, 0, none⟩ [_, _, _, _, _, _, _, _] := hBby.cells) | have hCby := Blk.cellsL hBby
  have hlby := hBby.lt
  have hzby := eby.size
  refine Ox.pure rfl rfl zas ?_
  refine Ox.fin ?_
  (repeat refine Sx.seq ?_)
  refine Sx.walkR rfl (fun _ _ _ _ h => h) [0, 1, 2, 3, 5, 6, 7, 8, 4, 9, 10, 11, 12] [0, 1, 2, 3, 5, 6, 7, 8, 12] (0) (by kernel_rfl) ?_
  intro hq w7 e7; have hz7 := e7.size
  refine Wx.pure hq rfl rfl rfl rfl zfa ?_
  refine Wx.val hq rfl rfl rfl rfl ([]) zrs ?_
  refine Wx.pure hq rfl rfl rfl rfl zfa ?_
  refine Wx.val hq rfl rfl rfl rfl ([]) zrs ?_
  refine Wx.pure hq rfl rfl rfl rfl zfa ?_
  refine Wx.val hq rfl rfl rfl rfl ([]) zrs ?_
  refine Wx.pure hq rfl rfl rfl rfl zfa ?_
  refine Wx.val hq rfl rfl rfl rfl ([]) zrs ?_
  refine Wx.actNew rfl rfl rfl rfl (acts_call rfl rfl rfl (compareI_at a.known b.known _)) ?_
  rintro v8 w8 e8 rfl
  have hz8 := e8.size
  refine Wx.actNew rfl rfl rfl rfl (acts_call rfl rfl rfl (compareI_at a.no b.no _)) ?_
  rintro v9 w9 e9 rfl
  have hz9 := e9.size
  refine Wx.actNew rfl rfl rfl rfl (acts_buildSlice (ps := [(0, .tmp 9), (1, .tmp 14)]) rfl rfl rfl rfl rfl rfl rfl rfl) ?_
  rintro vbs wbs ebs ⟨bbs, rfl, hbbs, hBbs⟩
  first | (have hCbs : Cells wbs ⟨bbs, 0, none⟩ [_, _] := hBbs.cells) | have hCbs := Blk.cellsL hBbs
  have hlbs := hBbs.lt
  have hzbs := ebs.size
  refine Wx.actNew rfl rfl rfl rfl (acts_call rfl rfl rfl (or_at [cmpI a.known b.known, cmpI a.no b.no] (some ⟨bbs, 0, none⟩) ⟨bbs, 0, none⟩ 2 _ ⟨fun _ => rfl, hCbs, by simp, by simp, by simp⟩)) ?_
  rintro v10 w10 e10 rfl
  have hz10 := e10.size
  refine Wx.pure hq rfl rfl rfl rfl zas ?_
  refine Wx.fin ?_
  refine zrt ?_
  refine endE_ret [_] ⟨rfl, trivial⟩ ⟨zxc, ?_⟩
  simp only [resV, orL, cmpF]
  by_cases h1 : cmpI a.known b.known = 0
  · by_cases h2 : cmpI a.no b.no = 0 <;> simp [h1, h2]
  · simp [h1]

theorem fits_at (f : Fct) (w : World) : Calls Try.prog 54 #[.agg (fc f).toArray] w (Ret fun r w' => Ext [] w w' ∧ r = .bool (decide (Fits f))) := by
  refine calls_of_Sx (args := [.agg (fc f).toArray]) Try.func54 rfl rfl ?_
  refine ztx ?_
  refine Ox.act rfl rfl (acts_box rfl rfl) ?_
  rintro vbx wbx ⟨ebx, bbx, rfl, hbbx, hBbx⟩
  first | (have hCbx : Cells wbx ⟨bbx, 0, none⟩ [_, _, _, _, _, _, _, _] := hBbx.cells) | have hCbx := Blk.cellsL hBbx
  have hlbx := hBbx.lt
  have hzbx := ebx.size
  refine Ox.pure rfl rfl zas ?_
  refine Ox.fin ?_
  refine ztx ?_
  refine Ox.pure rfl rfl zfa ?_
  refine Ox.pure rfl rfl zfa ?_
  refine Ox.val rfl rfl zrs ?_
  by_cases hs11 : (0 ≤ f.key.k ∧ f.key.k ≤ 15); rotate_left
  · refine Ox.act rfl rfl (acts_call rfl rfl rfl (by first | exact within_t _ _ _ _ (by omega) | exact within_f _ _ _ _ (by omega))) ?_
    rintro v12 w12 ⟨e12, rfl⟩
    have hz12 := e12.size
    refine Ox.pure rfl rfl zmv ?_
    refine Ox.skip rfl rfl ?_
    refine Ox.skip rfl rfl ?_
    refine Ox.skip rfl rfl ?_
    refine Ox.skip rfl rfl ?_
    refine Ox.pure rfl rfl zpk ?_
    refine Ox.pure rfl rfl zmv ?_
    refine Ox.skip rfl rfl ?_
    refine Ox.skip rfl rfl ?_
    refine Ox.skip rfl rfl ?_
    refine Ox.skip rfl rfl ?_
    refine Ox.pure rfl rfl zpk ?_
    refine Ox.pure rfl rfl zmv ?_
    refine Ox.skip rfl rfl ?_
    refine Ox.skip rfl rfl ?_
    refine Ox.skip rfl rfl ?_
    refine Ox.pure rfl rfl zpk ?_
    refine Ox.pure rfl rfl zmv ?_
    refine Ox.skip rfl rfl ?_
    refine Ox.skip rfl rfl ?_
    refine Ox.skip rfl rfl ?_
    refine Ox.skip rfl rfl ?_
    refine Ox.pure rfl rfl zpk ?_
    refine Ox.pure rfl rfl zmv ?_
    refine Ox.skip rfl rfl ?_
    refine Ox.skip rfl rfl ?_
    refine Ox.skip rfl rfl ?_
    refine Ox.skip rfl rfl ?_
    refine Ox.skip rfl rfl ?_
    refine Ox.skip rfl rfl ?_
    refine Ox.skip rfl rfl ?_
    refine Ox.pure rfl rfl zpk ?_
    refine Ox.pure rfl rfl zmv ?_
    refine Ox.skip rfl rfl ?_
    refine Ox.skip rfl rfl ?_
    refine Ox.skip rfl rfl ?_
    refine Ox.skip rfl rfl ?_
    refine Ox.pure rfl rfl zpk ?_
    refine Ox.pure rfl rfl zmv ?_
    refine Ox.skip rfl rfl ?_
    refine Ox.skip rfl rfl ?_
    refine Ox.skip rfl rfl ?_
    refine Ox.pure rfl rfl zpk ?_
    refine Ox.pure rfl rfl zmv ?_
    refine Ox.skip rfl rfl ?_
    refine Ox.skip rfl rfl ?_
    refine Ox.skip rfl rfl ?_
    refine Ox.pure rfl rfl zpk ?_
    refine Ox.pure rfl rfl zas ?_
    refine Ox.fin ?_
    refine zrt ?_
    exact endE_ret [_] ⟨rfl, trivial⟩ ⟨zxc, congrArg Value.bool (decide_eq_false (fun h => by unfold Fits at h; omega)).symm⟩
  refine Ox.act rfl rfl (acts_call rfl rfl rfl (by first | exact within_t _ _ _ _ (by omega) | exact within_f _ _ _ _ (by omega))) ?_
  rintro v13 w13 ⟨e13, rfl⟩
  have hz13 := e13.size
  refine Ox.pure rfl rfl zmv ?_
  refine Ox.pure rfl rfl zfa ?_
  refine Ox.pure rfl rfl zfa ?_
  refine Ox.val rfl rfl zrs ?_
  by_cases hs14 : (0 ≤ f.key.s ∧ f.key.s ≤ 4095); rotate_left
  · refine Ox.act rfl rfl (acts_call rfl rfl rfl (by first | exact within_t _ _ _ _ (by omega) | exact within_f _ _ _ _ (by omega))) ?_
    rintro v15 w15 ⟨e15, rfl⟩
    have hz15 := e15.size
    refine Ox.pure rfl rfl zpk ?_
    refine Ox.pure rfl rfl zmv ?_
    refine Ox.skip rfl rfl ?_
    refine Ox.skip rfl rfl ?_
    refine Ox.skip rfl rfl ?_
    refine Ox.skip rfl rfl ?_
    refine Ox.pure rfl rfl zpk ?_
    refine Ox.pure rfl rfl zmv ?_
    refine Ox.skip rfl rfl ?_
    refine Ox.skip rfl rfl ?_
    refine Ox.skip rfl rfl ?_
    refine Ox.pure rfl rfl zpk ?_
    refine Ox.pure rfl rfl zmv ?_
    refine Ox.skip rfl rfl ?_
    refine Ox.skip rfl rfl ?_
    refine Ox.skip rfl rfl ?_
    refine Ox.skip rfl rfl ?_
    refine Ox.pure rfl rfl zpk ?_
    refine Ox.pure rfl rfl zmv ?_
    refine Ox.skip rfl rfl ?_
    refine Ox.skip rfl rfl ?_
    refine Ox.skip rfl rfl ?_
    refine Ox.skip rfl rfl ?_
    refine Ox.skip rfl rfl ?_
    refine Ox.skip rfl rfl ?_
    refine Ox.skip rfl rfl ?_
    refine Ox.pure rfl rfl zpk ?_
    refine Ox.pure rfl rfl zmv ?_
    refine Ox.skip rfl rfl ?_
    refine Ox.skip rfl rfl ?_
    refine Ox.skip rfl rfl ?_
    refine Ox.skip rfl rfl ?_
    refine Ox.pure rfl rfl zpk ?_
    refine Ox.pure rfl rfl zmv ?_
    refine Ox.skip rfl rfl ?_
    refine Ox.skip rfl rfl ?_
    refine Ox.skip rfl rfl ?_
    refine Ox.pure rfl rfl zpk ?_
    refine Ox.pure rfl rfl zmv ?_
    refine Ox.skip rfl rfl ?_
    refine Ox.skip rfl rfl ?_
    refine Ox.skip rfl rfl ?_
    refine Ox.pure rfl rfl zpk ?_
    refine Ox.pure rfl rfl zas ?_
    refine Ox.fin ?_
    refine zrt ?_
    exact endE_ret [_] ⟨rfl, trivial⟩ ⟨zxc, congrArg Value.bool (decide_eq_false (fun h => by unfold Fits at h; omega)).symm⟩
  refine Ox.act rfl rfl (acts_call rfl rfl rfl (by first | exact within_t _ _ _ _ (by omega) | exact within_f _ _ _ _ (by omega))) ?_
  rintro v16 w16 ⟨e16, rfl⟩
  have hz16 := e16.size
  refine Ox.pure rfl rfl zpk ?_
  refine Ox.pure rfl rfl zmv ?_
  refine Ox.pure rfl rfl zfa ?_
  refine Ox.pure rfl rfl zfa ?_
  refine Ox.val rfl rfl zrs ?_
  by_cases hs17 : (0 ≤ f.key.o ∧ f.key.o ≤ 1023); rotate_left
  · refine Ox.act rfl rfl (acts_call rfl rfl rfl (by first | exact within_t _ _ _ _ (by omega) | exact within_f _ _ _ _ (by omega))) ?_
    rintro v18 w18 ⟨e18, rfl⟩
    have hz18 := e18.size
    refine Ox.pure rfl rfl zpk ?_
    refine Ox.pure rfl rfl zmv ?_
    refine Ox.skip rfl rfl ?_
    refine Ox.skip rfl rfl ?_
    refine Ox.skip rfl rfl ?_
    refine Ox.pure rfl rfl zpk ?_
    refine Ox.pure rfl rfl zmv ?_
    refine Ox.skip rfl rfl ?_
    refine Ox.skip rfl rfl ?_
    refine Ox.skip rfl rfl ?_
    refine Ox.skip rfl rfl ?_
    refine Ox.pure rfl rfl zpk ?_
    refine Ox.pure rfl rfl zmv ?_
    refine Ox.skip rfl rfl ?_
    refine Ox.skip rfl rfl ?_
    refine Ox.skip rfl rfl ?_
    refine Ox.skip rfl rfl ?_
    refine Ox.skip rfl rfl ?_
    refine Ox.skip rfl rfl ?_
    refine Ox.skip rfl rfl ?_
    refine Ox.pure rfl rfl zpk ?_
    refine Ox.pure rfl rfl zmv ?_
    refine Ox.skip rfl rfl ?_
    refine Ox.skip rfl rfl ?_
    refine Ox.skip rfl rfl ?_
    refine Ox.skip rfl rfl ?_
    refine Ox.pure rfl rfl zpk ?_
    refine Ox.pure rfl rfl zmv ?_
    refine Ox.skip rfl rfl ?_
    refine Ox.skip rfl rfl ?_
    refine Ox.skip rfl rfl ?_
    refine Ox.pure rfl rfl zpk ?_
    refine Ox.pure rfl rfl zmv ?_
    refine Ox.skip rfl rfl ?_
    refine Ox.skip rfl rfl ?_
    refine Ox.skip rfl rfl ?_
    refine Ox.pure rfl rfl zpk ?_
    refine Ox.pure rfl rfl zas ?_
    refine Ox.fin ?_
    refine zrt ?_
    exact endE_ret [_] ⟨rfl, trivial⟩ ⟨zxc, congrArg Value.bool (decide_eq_false (fun h => by unfold Fits at h; omega)).symm⟩
  refine Ox.act rfl rfl (acts_call rfl rfl rfl (by first | exact within_t _ _ _ _ (by omega) | exact within_f _ _ _ _ (by omega))) ?_
  rintro v19 w19 ⟨e19, rfl⟩
  have hz19 := e19.size
  refine Ox.pure rfl rfl zpk ?_
  refine Ox.pure rfl rfl zmv ?_
  refine Ox.pure rfl rfl zfa ?_
  refine Ox.val rfl rfl zrs ?_
  by_cases hs20 : (-1 ≤ f.val ∧ f.val ≤ 1048576); rotate_left
  · refine Ox.act rfl rfl (acts_call rfl rfl rfl (by first | exact within_t _ _ _ _ (by omega) | exact within_f _ _ _ _ (by omega))) ?_
    rintro v21 w21 ⟨e21, rfl⟩
    have hz21 := e21.size
    refine Ox.pure rfl rfl zpk ?_
    refine Ox.pure rfl rfl zmv ?_
    refine Ox.skip rfl rfl ?_
    refine Ox.skip rfl rfl ?_
    refine Ox.skip rfl rfl ?_
    refine Ox.skip rfl rfl ?_
    refine Ox.pure rfl rfl zpk ?_
    refine Ox.pure rfl rfl zmv ?_
    refine Ox.skip rfl rfl ?_
    refine Ox.skip rfl rfl ?_
    refine Ox.skip rfl rfl ?_
    refine Ox.skip rfl rfl ?_
    refine Ox.skip rfl rfl ?_
    refine Ox.skip rfl rfl ?_
    refine Ox.skip rfl rfl ?_
    refine Ox.pure rfl rfl zpk ?_
    refine Ox.pure rfl rfl zmv ?_
    refine Ox.skip rfl rfl ?_
    refine Ox.skip rfl rfl ?_
    refine Ox.skip rfl rfl ?_
    refine Ox.skip rfl rfl ?_
    refine Ox.pure rfl rfl zpk ?_
    refine Ox.pure rfl rfl zmv ?_
    refine Ox.skip rfl rfl ?_
    refine Ox.skip rfl rfl ?_
    refine Ox.skip rfl rfl ?_
    refine Ox.pure rfl rfl zpk ?_
    refine Ox.pure rfl rfl zmv ?_
    refine Ox.skip rfl rfl ?_
    refine Ox.skip rfl rfl ?_
    refine Ox.skip rfl rfl ?_
    refine Ox.pure rfl rfl zpk ?_
    refine Ox.pure rfl rfl zas ?_
    refine Ox.fin ?_
    refine zrt ?_
    exact endE_ret [_] ⟨rfl, trivial⟩ ⟨zxc, congrArg Value.bool (decide_eq_false (fun h => by unfold Fits at h; omega)).symm⟩
  refine Ox.act rfl rfl (acts_call rfl rfl rfl (by first | exact within_t _ _ _ _ (by omega) | exact within_f _ _ _ _ (by omega))) ?_
  rintro v22 w22 ⟨e22, rfl⟩
  have hz22 := e22.size
  refine Ox.pure rfl rfl zpk ?_
  refine Ox.pure rfl rfl zmv ?_
  refine Ox.pure rfl rfl zfa ?_
  refine Ox.pure rfl rfl zfa ?_
  refine Ox.val rfl rfl zrs ?_
  by_cases hs23 : 0 ≤ f.lo; rotate_left
  · refine Ox.pure rfl rfl zbc ?_
    refine Ox.pure rfl rfl zpk ?_
    refine Ox.pure rfl rfl zmv ?_
    refine Ox.skip rfl rfl ?_
    refine Ox.skip rfl rfl ?_
    refine Ox.skip rfl rfl ?_
    refine Ox.skip rfl rfl ?_
    refine Ox.skip rfl rfl ?_
    refine Ox.skip rfl rfl ?_
    refine Ox.skip rfl rfl ?_
    refine Ox.pure rfl rfl zpk ?_
    refine Ox.pure rfl rfl zmv ?_
    refine Ox.skip rfl rfl ?_
    refine Ox.skip rfl rfl ?_
    refine Ox.skip rfl rfl ?_
    refine Ox.skip rfl rfl ?_
    refine Ox.pure rfl rfl zpk ?_
    refine Ox.pure rfl rfl zmv ?_
    refine Ox.skip rfl rfl ?_
    refine Ox.skip rfl rfl ?_
    refine Ox.skip rfl rfl ?_
    refine Ox.pure rfl rfl zpk ?_
    refine Ox.pure rfl rfl zmv ?_
    refine Ox.skip rfl rfl ?_
    refine Ox.skip rfl rfl ?_
    refine Ox.skip rfl rfl ?_
    refine Ox.pure rfl rfl zpk ?_
    refine Ox.pure rfl rfl zas ?_
    refine Ox.fin ?_
    refine zrt ?_
    exact endE_ret [_] ⟨rfl, trivial⟩ ⟨zxc, congrArg Value.bool (decide_eq_false (fun h => by unfold Fits at h; omega)).symm⟩
  refine Ox.pure rfl rfl zbc ?_
  refine Ox.pure rfl rfl zpk ?_
  refine Ox.pure rfl rfl zmv ?_
  refine Ox.pure rfl rfl zfa ?_
  refine Ox.pure rfl rfl zfa ?_
  refine Ox.val rfl rfl zrs ?_
  refine Ox.pure rfl rfl zfa ?_
  refine Ox.pure rfl rfl zfa ?_
  refine Ox.val rfl rfl zrs ?_
  by_cases hs24 : f.lo < f.hi; rotate_left
  · refine Ox.pure rfl rfl zbc ?_
    refine Ox.pure rfl rfl zpk ?_
    refine Ox.pure rfl rfl zmv ?_
    refine Ox.skip rfl rfl ?_
    refine Ox.skip rfl rfl ?_
    refine Ox.skip rfl rfl ?_
    refine Ox.skip rfl rfl ?_
    refine Ox.pure rfl rfl zpk ?_
    refine Ox.pure rfl rfl zmv ?_
    refine Ox.skip rfl rfl ?_
    refine Ox.skip rfl rfl ?_
    refine Ox.skip rfl rfl ?_
    refine Ox.pure rfl rfl zpk ?_
    refine Ox.pure rfl rfl zmv ?_
    refine Ox.skip rfl rfl ?_
    refine Ox.skip rfl rfl ?_
    refine Ox.skip rfl rfl ?_
    refine Ox.pure rfl rfl zpk ?_
    refine Ox.pure rfl rfl zas ?_
    refine Ox.fin ?_
    refine zrt ?_
    exact endE_ret [_] ⟨rfl, trivial⟩ ⟨zxc, congrArg Value.bool (decide_eq_false (fun h => by unfold Fits at h; omega)).symm⟩
  refine Ox.pure rfl rfl zbc ?_
  refine Ox.pure rfl rfl zpk ?_
  refine Ox.pure rfl rfl zmv ?_
  refine Ox.pure rfl rfl zfa ?_
  refine Ox.pure rfl rfl zfa ?_
  refine Ox.val rfl rfl zrs ?_
  by_cases hs25 : f.hi ≤ 1024; rotate_left
  · refine Ox.pure rfl rfl zbc ?_
    refine Ox.pure rfl rfl zpk ?_
    refine Ox.pure rfl rfl zmv ?_
    refine Ox.skip rfl rfl ?_
    refine Ox.skip rfl rfl ?_
    refine Ox.skip rfl rfl ?_
    refine Ox.pure rfl rfl zpk ?_
    refine Ox.pure rfl rfl zmv ?_
    refine Ox.skip rfl rfl ?_
    refine Ox.skip rfl rfl ?_
    refine Ox.skip rfl rfl ?_
    refine Ox.pure rfl rfl zpk ?_
    refine Ox.pure rfl rfl zas ?_
    refine Ox.fin ?_
    refine zrt ?_
    exact endE_ret [_] ⟨rfl, trivial⟩ ⟨zxc, congrArg Value.bool (decide_eq_false (fun h => by unfold Fits at h; omega)).symm⟩
  refine Ox.pure rfl rfl zbc ?_
  refine Ox.pure rfl rfl zpk ?_
  refine Ox.pure rfl rfl zmv ?_
  refine Ox.pure rfl rfl zfa ?_
  refine Ox.val rfl rfl zrs ?_
  by_cases hs26 : (1 ≤ f.known ∧ f.known ≤ 16777216); rotate_left
  · refine Ox.act rfl rfl (acts_call rfl rfl rfl (by first | exact within_t _ _ _ _ (by omega) | exact within_f _ _ _ _ (by omega))) ?_
    rintro v27 w27 ⟨e27, rfl⟩
    have hz27 := e27.size
    refine Ox.pure rfl rfl zpk ?_
    refine Ox.pure rfl rfl zmv ?_
    refine Ox.skip rfl rfl ?_
    refine Ox.skip rfl rfl ?_
    refine Ox.skip rfl rfl ?_
    refine Ox.pure rfl rfl zpk ?_
    refine Ox.pure rfl rfl zas ?_
    refine Ox.fin ?_
    refine zrt ?_
    exact endE_ret [_] ⟨rfl, trivial⟩ ⟨zxc, congrArg Value.bool (decide_eq_false (fun h => by unfold Fits at h; omega)).symm⟩
  refine Ox.act rfl rfl (acts_call rfl rfl rfl (by first | exact within_t _ _ _ _ (by omega) | exact within_f _ _ _ _ (by omega))) ?_
  rintro v28 w28 ⟨e28, rfl⟩
  have hz28 := e28.size
  refine Ox.pure rfl rfl zpk ?_
  refine Ox.pure rfl rfl zmv ?_
  refine Ox.pure rfl rfl zfa ?_
  refine Ox.val rfl rfl zrs ?_
  by_cases hs29 : (0 ≤ f.no ∧ f.no ≤ 65535); rotate_left
  · refine Ox.act rfl rfl (acts_call rfl rfl rfl (by first | exact within_t _ _ _ _ (by omega) | exact within_f _ _ _ _ (by omega))) ?_
    rintro v30 w30 ⟨e30, rfl⟩
    have hz30 := e30.size
    refine Ox.pure rfl rfl zpk ?_
    refine Ox.pure rfl rfl zas ?_
    refine Ox.fin ?_
    refine zrt ?_
    exact endE_ret [_] ⟨rfl, trivial⟩ ⟨zxc, congrArg Value.bool (decide_eq_false (fun h => by unfold Fits at h; omega)).symm⟩
  refine Ox.act rfl rfl (acts_call rfl rfl rfl (by first | exact within_t _ _ _ _ (by omega) | exact within_f _ _ _ _ (by omega))) ?_
  rintro v31 w31 ⟨e31, rfl⟩
  have hz31 := e31.size
  refine Ox.pure rfl rfl zpk ?_
  refine Ox.pure rfl rfl zas ?_
  refine Ox.fin ?_
  refine zrt ?_
  exact endE_ret [_] ⟨rfl, trivial⟩ ⟨zxc, congrArg Value.bool (decide_eq_true (by unfold Fits; omega)).symm⟩

end Go.Proofs.Ytfgckcochilpkaa

/- The facts' walks: lists that are checked, facts that are added. -/
set_option linter.unusedVariables false
set_option maxRecDepth 100000
set_option linter.unusedSimpArgs false
namespace Go.Proofs.Ytfgckcochilpkaa
open Go Go.Eng

theorem ref_Before (a b : Fct) (w : World) : Calls Try.prog 60 #[.agg (fc a).toArray, .agg (fc b).toArray] w (Ret fun r w' => Ext [] w w' ∧ r = .bool (decide (before a b))) := by
  refine calls_of_Sx (args := [.agg (fc a).toArray, .agg (fc b).toArray]) Try.func60 rfl rfl ?_
  refine ztx ?_
  refine Ox.act rfl rfl (acts_box rfl rfl) ?_
  rintro vbx wbx ⟨ebx, bbx, rfl, hbbx, hBbx⟩
  first | (have hCbx : Cells wbx ⟨bbx, 0, none⟩ [_, _, _, _, _, _, _, _] := hBbx.cells) | have hCbx := Blk.cellsL hBbx
  have hlbx := hBbx.lt
  have hzbx := ebx.size
  refine Ox.act rfl rfl (acts_box rfl rfl) ?_
  rintro vby wby ⟨eby, bby, rfl, hbby, hBby⟩
  first | (have hCby : Cells wby ⟨bby, 0, none⟩ [_, _, _, _, _, _, _, _] := hBby.cells) | have hCby := Blk.cellsL hBby
  have hlby := hBby.lt
  have hzby := eby.size
  refine Ox.pure rfl rfl zas ?_
  refine Ox.fin ?_
  by_cases h1 : a.known < b.known
  · refine ztx ?_
    refine Ox.pure rfl rfl zfa ?_
    refine Ox.val rfl rfl zrs ?_
    refine Ox.pure rfl rfl zfa ?_
    refine Ox.val rfl rfl zrs ?_
    refine Ox.pure rfl rfl zbc ?_
    refine Ox.pure rfl rfl zmv ?_
    first | (refine Ox.skip rfl rfl ?_) | (refine Ox.pure rfl rfl zfa ?_)
    first | (refine Ox.skip rfl rfl ?_) | (refine Ox.val rfl rfl zrs ?_)
    first | (refine Ox.skip rfl rfl ?_) | (refine Ox.pure rfl rfl zfa ?_)
    first | (refine Ox.skip rfl rfl ?_) | (refine Ox.val rfl rfl zrs ?_)
    first | (refine Ox.skip rfl rfl ?_) | (refine Ox.pure rfl rfl zbc ?_)
    first | (refine Ox.skip rfl rfl ?_) | (refine Ox.pure rfl rfl zmv ?_)
    first | (refine Ox.skip rfl rfl ?_) | (refine Ox.pure rfl rfl zfa ?_)
    first | (refine Ox.skip rfl rfl ?_) | (refine Ox.val rfl rfl zrs ?_)
    first | (refine Ox.skip rfl rfl ?_) | (refine Ox.pure rfl rfl zfa ?_)
    first | (refine Ox.skip rfl rfl ?_) | (refine Ox.val rfl rfl zrs ?_)
    first | (refine Ox.skip rfl rfl ?_) | (refine Ox.pure rfl rfl zbc ?_)
    first | (refine Ox.skip rfl rfl ?_) | (refine Ox.pure rfl rfl zpk ?_)
    refine Ox.pure rfl rfl zpk ?_
    refine Ox.pure rfl rfl zas ?_
    refine Ox.fin ?_
    refine zrt ?_
    exact endE_ret [_] ⟨rfl, trivial⟩ ⟨zxc, congrArg Value.bool (decide_eq_true (by unfold before; omega)).symm⟩
  · by_cases h2 : a.known = b.known
    · by_cases h3 : a.no < b.no
      · refine ztx ?_
        refine Ox.pure rfl rfl zfa ?_
        refine Ox.val rfl rfl zrs ?_
        refine Ox.pure rfl rfl zfa ?_
        refine Ox.val rfl rfl zrs ?_
        refine Ox.pure rfl rfl zbc ?_
        refine Ox.pure rfl rfl zmv ?_
        first | (refine Ox.skip rfl rfl ?_) | (refine Ox.pure rfl rfl zfa ?_)
        first | (refine Ox.skip rfl rfl ?_) | (refine Ox.val rfl rfl zrs ?_)
        first | (refine Ox.skip rfl rfl ?_) | (refine Ox.pure rfl rfl zfa ?_)
        first | (refine Ox.skip rfl rfl ?_) | (refine Ox.val rfl rfl zrs ?_)
        first | (refine Ox.skip rfl rfl ?_) | (refine Ox.pure rfl rfl zbc ?_)
        first | (refine Ox.skip rfl rfl ?_) | (refine Ox.pure rfl rfl zmv ?_)
        first | (refine Ox.skip rfl rfl ?_) | (refine Ox.pure rfl rfl zfa ?_)
        first | (refine Ox.skip rfl rfl ?_) | (refine Ox.val rfl rfl zrs ?_)
        first | (refine Ox.skip rfl rfl ?_) | (refine Ox.pure rfl rfl zfa ?_)
        first | (refine Ox.skip rfl rfl ?_) | (refine Ox.val rfl rfl zrs ?_)
        first | (refine Ox.skip rfl rfl ?_) | (refine Ox.pure rfl rfl zbc ?_)
        first | (refine Ox.skip rfl rfl ?_) | (refine Ox.pure rfl rfl zpk ?_)
        refine Ox.pure rfl rfl zpk ?_
        refine Ox.pure rfl rfl zas ?_
        refine Ox.fin ?_
        refine zrt ?_
        exact endE_ret [_] ⟨rfl, trivial⟩ ⟨zxc, congrArg Value.bool (decide_eq_true (by unfold before; omega)).symm⟩
      · refine ztx ?_
        refine Ox.pure rfl rfl zfa ?_
        refine Ox.val rfl rfl zrs ?_
        refine Ox.pure rfl rfl zfa ?_
        refine Ox.val rfl rfl zrs ?_
        refine Ox.pure rfl rfl zbc ?_
        refine Ox.pure rfl rfl zmv ?_
        first | (refine Ox.skip rfl rfl ?_) | (refine Ox.pure rfl rfl zfa ?_)
        first | (refine Ox.skip rfl rfl ?_) | (refine Ox.val rfl rfl zrs ?_)
        first | (refine Ox.skip rfl rfl ?_) | (refine Ox.pure rfl rfl zfa ?_)
        first | (refine Ox.skip rfl rfl ?_) | (refine Ox.val rfl rfl zrs ?_)
        first | (refine Ox.skip rfl rfl ?_) | (refine Ox.pure rfl rfl zbc ?_)
        first | (refine Ox.skip rfl rfl ?_) | (refine Ox.pure rfl rfl zmv ?_)
        first | (refine Ox.skip rfl rfl ?_) | (refine Ox.pure rfl rfl zfa ?_)
        first | (refine Ox.skip rfl rfl ?_) | (refine Ox.val rfl rfl zrs ?_)
        first | (refine Ox.skip rfl rfl ?_) | (refine Ox.pure rfl rfl zfa ?_)
        first | (refine Ox.skip rfl rfl ?_) | (refine Ox.val rfl rfl zrs ?_)
        first | (refine Ox.skip rfl rfl ?_) | (refine Ox.pure rfl rfl zbc ?_)
        first | (refine Ox.skip rfl rfl ?_) | (refine Ox.pure rfl rfl zpk ?_)
        refine Ox.pure rfl rfl zpk ?_
        refine Ox.pure rfl rfl zas ?_
        refine Ox.fin ?_
        refine zrt ?_
        exact endE_ret [_] ⟨rfl, trivial⟩ ⟨zxc, congrArg Value.bool (decide_eq_false (by unfold before; omega)).symm⟩
    · refine ztx ?_
      refine Ox.pure rfl rfl zfa ?_
      refine Ox.val rfl rfl zrs ?_
      refine Ox.pure rfl rfl zfa ?_
      refine Ox.val rfl rfl zrs ?_
      refine Ox.pure rfl rfl zbc ?_
      refine Ox.pure rfl rfl zmv ?_
      first | (refine Ox.skip rfl rfl ?_) | (refine Ox.pure rfl rfl zfa ?_)
      first | (refine Ox.skip rfl rfl ?_) | (refine Ox.val rfl rfl zrs ?_)
      first | (refine Ox.skip rfl rfl ?_) | (refine Ox.pure rfl rfl zfa ?_)
      first | (refine Ox.skip rfl rfl ?_) | (refine Ox.val rfl rfl zrs ?_)
      first | (refine Ox.skip rfl rfl ?_) | (refine Ox.pure rfl rfl zbc ?_)
      first | (refine Ox.skip rfl rfl ?_) | (refine Ox.pure rfl rfl zmv ?_)
      first | (refine Ox.skip rfl rfl ?_) | (refine Ox.pure rfl rfl zfa ?_)
      first | (refine Ox.skip rfl rfl ?_) | (refine Ox.val rfl rfl zrs ?_)
      first | (refine Ox.skip rfl rfl ?_) | (refine Ox.pure rfl rfl zfa ?_)
      first | (refine Ox.skip rfl rfl ?_) | (refine Ox.val rfl rfl zrs ?_)
      first | (refine Ox.skip rfl rfl ?_) | (refine Ox.pure rfl rfl zbc ?_)
      first | (refine Ox.skip rfl rfl ?_) | (refine Ox.pure rfl rfl zpk ?_)
      refine Ox.pure rfl rfl zpk ?_
      refine Ox.pure rfl rfl zas ?_
      refine Ox.fin ?_
      refine zrt ?_
      exact endE_ret [_] ⟨rfl, trivial⟩ ⟨zxc, congrArg Value.bool (decide_eq_false (by unfold before; omega)).symm⟩

set_option maxHeartbeats 4000000 in
theorem ref_Valid (f : Fct) (w : World) : Calls Try.prog 59 #[.agg (fc f).toArray] w (Ret fun r w' => Ext [] w w' ∧ r = .bool (decide (Fits f))) := by
  refine calls_of_Sx (args := [.agg (fc f).toArray]) Try.func59 rfl rfl ?_
  refine ztx ?_
  refine Ox.act rfl rfl (acts_box rfl rfl) ?_
  rintro vbx wbx ⟨ebx, bbx, rfl, hbbx, hBbx⟩
  first | (have hCbx : Cells wbx ⟨bbx, 0, none⟩ [_, _, _, _, _, _, _, _] := hBbx.cells) | have hCbx := Blk.cellsL hBbx
  have hlbx := hBbx.lt
  have hzbx := ebx.size
  refine Ox.pure rfl rfl zas ?_
  refine Ox.fin ?_
  refine ztx ?_
  refine Ox.pure rfl rfl zfa ?_
  refine Ox.val rfl rfl zra ?_
  refine Ox.act rfl rfl (acts_alloc rfl rfl) ?_
  rintro v1 w1 ⟨e1, b1, rfl, hb1, hB1⟩
  first | (have hC1 : Cells w1 ⟨b1, 0, none⟩ [_, _, _] := hB1.cells) | have hC1 := Blk.cellsL hB1
  have hl1 := hB1.lt
  have hz1 := e1.size
  refine Ox.act rfl rfl (acts_store_all rfl rfl rfl hB1 rfl (by first | rfl | assumption) (by first | rfl | assumption) (by (first | assumption | exact List.all_eq_true.mp rfl | simp [Value.cells, Value.oneCell']))) ?_
  rintro v2 w2 ⟨rfl, q2, hB2⟩
  have e2 := Ext.renew e1 q2 hb1
  have hz2 := e2.size
  have hl2 := hB2.lt
  first | (have hC2 : Cells w2 ⟨b1, 0, none⟩ [_, _, _] := hB2.cells) | have hC2 := Blk.cellsL hB2
  refine Ox.fin ?_
  refine ztx ?_
  refine Ox.pure rfl rfl zfa ?_
  refine Ox.val rfl rfl zrs ?_
  by_cases hs3 : 0 ≤ f.key.k; rotate_left
  · refine Ox.pure rfl rfl zbc ?_
    refine Ox.pure rfl rfl zmv ?_
    refine Ox.skip rfl rfl ?_
    refine Ox.skip rfl rfl ?_
    refine Ox.skip rfl rfl ?_
    refine Ox.pure rfl rfl zpk ?_
    refine Ox.pure rfl rfl zmv ?_
    refine Ox.skip rfl rfl ?_
    refine Ox.skip rfl rfl ?_
    refine Ox.skip rfl rfl ?_
    refine Ox.pure rfl rfl zpk ?_
    refine Ox.pure rfl rfl zmv ?_
    refine Ox.skip rfl rfl ?_
    refine Ox.skip rfl rfl ?_
    refine Ox.skip rfl rfl ?_
    refine Ox.pure rfl rfl zpk ?_
    refine Ox.pure rfl rfl zmv ?_
    refine Ox.skip rfl rfl ?_
    refine Ox.skip rfl rfl ?_
    refine Ox.skip rfl rfl ?_
    refine Ox.pure rfl rfl zpk ?_
    refine Ox.pure rfl rfl zmv ?_
    refine Ox.skip rfl rfl ?_
    refine Ox.skip rfl rfl ?_
    refine Ox.skip rfl rfl ?_
    refine Ox.pure rfl rfl zpk ?_
    refine Ox.pure rfl rfl zmv ?_
    refine Ox.skip rfl rfl ?_
    refine Ox.skip rfl rfl ?_
    refine Ox.skip rfl rfl ?_
    refine Ox.pure rfl rfl zpk ?_
    refine Ox.pure rfl rfl zmv ?_
    refine Ox.skip rfl rfl ?_
    refine Ox.skip rfl rfl ?_
    refine Ox.skip rfl rfl ?_
    refine Ox.pure rfl rfl zpk ?_
    refine Ox.pure rfl rfl zmv ?_
    refine Ox.skip rfl rfl ?_
    refine Ox.skip rfl rfl ?_
    refine Ox.skip rfl rfl ?_
    refine Ox.skip rfl rfl ?_
    refine Ox.pure rfl rfl zpk ?_
    refine Ox.pure rfl rfl zmv ?_
    refine Ox.skip rfl rfl ?_
    refine Ox.skip rfl rfl ?_
    refine Ox.skip rfl rfl ?_
    refine Ox.skip rfl rfl ?_
    refine Ox.skip rfl rfl ?_
    refine Ox.skip rfl rfl ?_
    refine Ox.skip rfl rfl ?_
    refine Ox.pure rfl rfl zpk ?_
    refine Ox.pure rfl rfl zmv ?_
    refine Ox.skip rfl rfl ?_
    refine Ox.skip rfl rfl ?_
    refine Ox.skip rfl rfl ?_
    refine Ox.skip rfl rfl ?_
    refine Ox.pure rfl rfl zpk ?_
    refine Ox.pure rfl rfl zmv ?_
    refine Ox.skip rfl rfl ?_
    refine Ox.skip rfl rfl ?_
    refine Ox.skip rfl rfl ?_
    refine Ox.pure rfl rfl zpk ?_
    refine Ox.pure rfl rfl zmv ?_
    refine Ox.skip rfl rfl ?_
    refine Ox.skip rfl rfl ?_
    refine Ox.skip rfl rfl ?_
    refine Ox.pure rfl rfl zpk ?_
    refine Ox.pure rfl rfl zmv ?_
    refine Ox.skip rfl rfl ?_
    refine Ox.skip rfl rfl ?_
    refine Ox.skip rfl rfl ?_
    refine Ox.pure rfl rfl zpk ?_
    refine Ox.pure rfl rfl zmv ?_
    refine Ox.skip rfl rfl ?_
    refine Ox.skip rfl rfl ?_
    refine Ox.skip rfl rfl ?_
    refine Ox.pure rfl rfl zpk ?_
    refine Ox.pure rfl rfl zas ?_
    refine Ox.fin ?_
    refine zrt ?_
    exact endE_ret [_] ⟨rfl, trivial⟩ ⟨zxc, congrArg Value.bool (decide_eq_false (fun h => by unfold Fits at h; omega)).symm⟩
  refine Ox.pure rfl rfl zbc ?_
  refine Ox.pure rfl rfl zmv ?_
  refine Ox.pure rfl rfl zfa ?_
  refine Ox.val rfl rfl zrs ?_
  by_cases hs4 : f.key.k ≤ 15; rotate_left
  · refine Ox.pure rfl rfl zbc ?_
    refine Ox.pure rfl rfl zpk ?_
    refine Ox.pure rfl rfl zmv ?_
    refine Ox.skip rfl rfl ?_
    refine Ox.skip rfl rfl ?_
    refine Ox.skip rfl rfl ?_
    refine Ox.pure rfl rfl zpk ?_
    refine Ox.pure rfl rfl zmv ?_
    refine Ox.skip rfl rfl ?_
    refine Ox.skip rfl rfl ?_
    refine Ox.skip rfl rfl ?_
    refine Ox.pure rfl rfl zpk ?_
    refine Ox.pure rfl rfl zmv ?_
    refine Ox.skip rfl rfl ?_
    refine Ox.skip rfl rfl ?_
    refine Ox.skip rfl rfl ?_
    refine Ox.pure rfl rfl zpk ?_
    refine Ox.pure rfl rfl zmv ?_
    refine Ox.skip rfl rfl ?_
    refine Ox.skip rfl rfl ?_
    refine Ox.skip rfl rfl ?_
    refine Ox.pure rfl rfl zpk ?_
    refine Ox.pure rfl rfl zmv ?_
    refine Ox.skip rfl rfl ?_
    refine Ox.skip rfl rfl ?_
    refine Ox.skip rfl rfl ?_
    refine Ox.pure rfl rfl zpk ?_
    refine Ox.pure rfl rfl zmv ?_
    refine Ox.skip rfl rfl ?_
    refine Ox.skip rfl rfl ?_
    refine Ox.skip rfl rfl ?_
    refine Ox.pure rfl rfl zpk ?_
    refine Ox.pure rfl rfl zmv ?_
    refine Ox.skip rfl rfl ?_
    refine Ox.skip rfl rfl ?_
    refine Ox.skip rfl rfl ?_
    refine Ox.skip rfl rfl ?_
    refine Ox.pure rfl rfl zpk ?_
    refine Ox.pure rfl rfl zmv ?_
    refine Ox.skip rfl rfl ?_
    refine Ox.skip rfl rfl ?_
    refine Ox.skip rfl rfl ?_
    refine Ox.skip rfl rfl ?_
    refine Ox.skip rfl rfl ?_
    refine Ox.skip rfl rfl ?_
    refine Ox.skip rfl rfl ?_
    refine Ox.pure rfl rfl zpk ?_
    refine Ox.pure rfl rfl zmv ?_
    refine Ox.skip rfl rfl ?_
    refine Ox.skip rfl rfl ?_
    refine Ox.skip rfl rfl ?_
    refine Ox.skip rfl rfl ?_
    refine Ox.pure rfl rfl zpk ?_
    refine Ox.pure rfl rfl zmv ?_
    refine Ox.skip rfl rfl ?_
    refine Ox.skip rfl rfl ?_
    refine Ox.skip rfl rfl ?_
    refine Ox.pure rfl rfl zpk ?_
    refine Ox.pure rfl rfl zmv ?_
    refine Ox.skip rfl rfl ?_
    refine Ox.skip rfl rfl ?_
    refine Ox.skip rfl rfl ?_
    refine Ox.pure rfl rfl zpk ?_
    refine Ox.pure rfl rfl zmv ?_
    refine Ox.skip rfl rfl ?_
    refine Ox.skip rfl rfl ?_
    refine Ox.skip rfl rfl ?_
    refine Ox.pure rfl rfl zpk ?_
    refine Ox.pure rfl rfl zmv ?_
    refine Ox.skip rfl rfl ?_
    refine Ox.skip rfl rfl ?_
    refine Ox.skip rfl rfl ?_
    refine Ox.pure rfl rfl zpk ?_
    refine Ox.pure rfl rfl zas ?_
    refine Ox.fin ?_
    refine zrt ?_
    exact endE_ret [_] ⟨rfl, trivial⟩ ⟨zxc, congrArg Value.bool (decide_eq_false (fun h => by unfold Fits at h; omega)).symm⟩
  refine Ox.pure rfl rfl zbc ?_
  refine Ox.pure rfl rfl zpk ?_
  refine Ox.pure rfl rfl zmv ?_
  refine Ox.pure rfl rfl zfa ?_
  refine Ox.val rfl rfl zrs ?_
  by_cases hs5 : 0 ≤ f.key.s; rotate_left
  · refine Ox.pure rfl rfl zbc ?_
    refine Ox.pure rfl rfl zpk ?_
    refine Ox.pure rfl rfl zmv ?_
    refine Ox.skip rfl rfl ?_
    refine Ox.skip rfl rfl ?_
    refine Ox.skip rfl rfl ?_
    refine Ox.pure rfl rfl zpk ?_
    refine Ox.pure rfl rfl zmv ?_
    refine Ox.skip rfl rfl ?_
    refine Ox.skip rfl rfl ?_
    refine Ox.skip rfl rfl ?_
    refine Ox.pure rfl rfl zpk ?_
    refine Ox.pure rfl rfl zmv ?_
    refine Ox.skip rfl rfl ?_
    refine Ox.skip rfl rfl ?_
    refine Ox.skip rfl rfl ?_
    refine Ox.pure rfl rfl zpk ?_
    refine Ox.pure rfl rfl zmv ?_
    refine Ox.skip rfl rfl ?_
    refine Ox.skip rfl rfl ?_
    refine Ox.skip rfl rfl ?_
    refine Ox.pure rfl rfl zpk ?_
    refine Ox.pure rfl rfl zmv ?_
    refine Ox.skip rfl rfl ?_
    refine Ox.skip rfl rfl ?_
    refine Ox.skip rfl rfl ?_
    refine Ox.pure rfl rfl zpk ?_
    refine Ox.pure rfl rfl zmv ?_
    refine Ox.skip rfl rfl ?_
    refine Ox.skip rfl rfl ?_
    refine Ox.skip rfl rfl ?_
    refine Ox.skip rfl rfl ?_
    refine Ox.pure rfl rfl zpk ?_
    refine Ox.pure rfl rfl zmv ?_
    refine Ox.skip rfl rfl ?_
    refine Ox.skip rfl rfl ?_
    refine Ox.skip rfl rfl ?_
    refine Ox.skip rfl rfl ?_
    refine Ox.skip rfl rfl ?_
    refine Ox.skip rfl rfl ?_
    refine Ox.skip rfl rfl ?_
    refine Ox.pure rfl rfl zpk ?_
    refine Ox.pure rfl rfl zmv ?_
    refine Ox.skip rfl rfl ?_
    refine Ox.skip rfl rfl ?_
    refine Ox.skip rfl rfl ?_
    refine Ox.skip rfl rfl ?_
    refine Ox.pure rfl rfl zpk ?_
    refine Ox.pure rfl rfl zmv ?_
    refine Ox.skip rfl rfl ?_
    refine Ox.skip rfl rfl ?_
    refine Ox.skip rfl rfl ?_
    refine Ox.pure rfl rfl zpk ?_
    refine Ox.pure rfl rfl zmv ?_
    refine Ox.skip rfl rfl ?_
    refine Ox.skip rfl rfl ?_
    refine Ox.skip rfl rfl ?_
    refine Ox.pure rfl rfl zpk ?_
    refine Ox.pure rfl rfl zmv ?_
    refine Ox.skip rfl rfl ?_
    refine Ox.skip rfl rfl ?_
    refine Ox.skip rfl rfl ?_
    refine Ox.pure rfl rfl zpk ?_
    refine Ox.pure rfl rfl zmv ?_
    refine Ox.skip rfl rfl ?_
    refine Ox.skip rfl rfl ?_
    refine Ox.skip rfl rfl ?_
    refine Ox.pure rfl rfl zpk ?_
    refine Ox.pure rfl rfl zas ?_
    refine Ox.fin ?_
    refine zrt ?_
    exact endE_ret [_] ⟨rfl, trivial⟩ ⟨zxc, congrArg Value.bool (decide_eq_false (fun h => by unfold Fits at h; omega)).symm⟩
  refine Ox.pure rfl rfl zbc ?_
  refine Ox.pure rfl rfl zpk ?_
  refine Ox.pure rfl rfl zmv ?_
  refine Ox.pure rfl rfl zfa ?_
  refine Ox.val rfl rfl zrs ?_
  by_cases hs6 : f.key.s ≤ 4095; rotate_left
  · refine Ox.pure rfl rfl zbc ?_
    refine Ox.pure rfl rfl zpk ?_
    refine Ox.pure rfl rfl zmv ?_
    refine Ox.skip rfl rfl ?_
    refine Ox.skip rfl rfl ?_
    refine Ox.skip rfl rfl ?_
    refine Ox.pure rfl rfl zpk ?_
    refine Ox.pure rfl rfl zmv ?_
    refine Ox.skip rfl rfl ?_
    refine Ox.skip rfl rfl ?_
    refine Ox.skip rfl rfl ?_
    refine Ox.pure rfl rfl zpk ?_
    refine Ox.pure rfl rfl zmv ?_
    refine Ox.skip rfl rfl ?_
    refine Ox.skip rfl rfl ?_
    refine Ox.skip rfl rfl ?_
    refine Ox.pure rfl rfl zpk ?_
    refine Ox.pure rfl rfl zmv ?_
    refine Ox.skip rfl rfl ?_
    refine Ox.skip rfl rfl ?_
    refine Ox.skip rfl rfl ?_
    refine Ox.pure rfl rfl zpk ?_
    refine Ox.pure rfl rfl zmv ?_
    refine Ox.skip rfl rfl ?_
    refine Ox.skip rfl rfl ?_
    refine Ox.skip rfl rfl ?_
    refine Ox.skip rfl rfl ?_
    refine Ox.pure rfl rfl zpk ?_
    refine Ox.pure rfl rfl zmv ?_
    refine Ox.skip rfl rfl ?_
    refine Ox.skip rfl rfl ?_
    refine Ox.skip rfl rfl ?_
    refine Ox.skip rfl rfl ?_
    refine Ox.skip rfl rfl ?_
    refine Ox.skip rfl rfl ?_
    refine Ox.skip rfl rfl ?_
    refine Ox.pure rfl rfl zpk ?_
    refine Ox.pure rfl rfl zmv ?_
    refine Ox.skip rfl rfl ?_
    refine Ox.skip rfl rfl ?_
    refine Ox.skip rfl rfl ?_
    refine Ox.skip rfl rfl ?_
    refine Ox.pure rfl rfl zpk ?_
    refine Ox.pure rfl rfl zmv ?_
    refine Ox.skip rfl rfl ?_
    refine Ox.skip rfl rfl ?_
    refine Ox.skip rfl rfl ?_
    refine Ox.pure rfl rfl zpk ?_
    refine Ox.pure rfl rfl zmv ?_
    refine Ox.skip rfl rfl ?_
    refine Ox.skip rfl rfl ?_
    refine Ox.skip rfl rfl ?_
    refine Ox.pure rfl rfl zpk ?_
    refine Ox.pure rfl rfl zmv ?_
    refine Ox.skip rfl rfl ?_
    refine Ox.skip rfl rfl ?_
    refine Ox.skip rfl rfl ?_
    refine Ox.pure rfl rfl zpk ?_
    refine Ox.pure rfl rfl zmv ?_
    refine Ox.skip rfl rfl ?_
    refine Ox.skip rfl rfl ?_
    refine Ox.skip rfl rfl ?_
    refine Ox.pure rfl rfl zpk ?_
    refine Ox.pure rfl rfl zas ?_
    refine Ox.fin ?_
    refine zrt ?_
    exact endE_ret [_] ⟨rfl, trivial⟩ ⟨zxc, congrArg Value.bool (decide_eq_false (fun h => by unfold Fits at h; omega)).symm⟩
  refine Ox.pure rfl rfl zbc ?_
  refine Ox.pure rfl rfl zpk ?_
  refine Ox.pure rfl rfl zmv ?_
  refine Ox.pure rfl rfl zfa ?_
  refine Ox.val rfl rfl zrs ?_
  by_cases hs7 : 0 ≤ f.key.o; rotate_left
  · refine Ox.pure rfl rfl zbc ?_
    refine Ox.pure rfl rfl zpk ?_
    refine Ox.pure rfl rfl zmv ?_
    refine Ox.skip rfl rfl ?_
    refine Ox.skip rfl rfl ?_
    refine Ox.skip rfl rfl ?_
    refine Ox.pure rfl rfl zpk ?_
    refine Ox.pure rfl rfl zmv ?_
    refine Ox.skip rfl rfl ?_
    refine Ox.skip rfl rfl ?_
    refine Ox.skip rfl rfl ?_
    refine Ox.pure rfl rfl zpk ?_
    refine Ox.pure rfl rfl zmv ?_
    refine Ox.skip rfl rfl ?_
    refine Ox.skip rfl rfl ?_
    refine Ox.skip rfl rfl ?_
    refine Ox.pure rfl rfl zpk ?_
    refine Ox.pure rfl rfl zmv ?_
    refine Ox.skip rfl rfl ?_
    refine Ox.skip rfl rfl ?_
    refine Ox.skip rfl rfl ?_
    refine Ox.skip rfl rfl ?_
    refine Ox.pure rfl rfl zpk ?_
    refine Ox.pure rfl rfl zmv ?_
    refine Ox.skip rfl rfl ?_
    refine Ox.skip rfl rfl ?_
    refine Ox.skip rfl rfl ?_
    refine Ox.skip rfl rfl ?_
    refine Ox.skip rfl rfl ?_
    refine Ox.skip rfl rfl ?_
    refine Ox.skip rfl rfl ?_
    refine Ox.pure rfl rfl zpk ?_
    refine Ox.pure rfl rfl zmv ?_
    refine Ox.skip rfl rfl ?_
    refine Ox.skip rfl rfl ?_
    refine Ox.skip rfl rfl ?_
    refine Ox.skip rfl rfl ?_
    refine Ox.pure rfl rfl zpk ?_
    refine Ox.pure rfl rfl zmv ?_
    refine Ox.skip rfl rfl ?_
    refine Ox.skip rfl rfl ?_
    refine Ox.skip rfl rfl ?_
    refine Ox.pure rfl rfl zpk ?_
    refine Ox.pure rfl rfl zmv ?_
    refine Ox.skip rfl rfl ?_
    refine Ox.skip rfl rfl ?_
    refine Ox.skip rfl rfl ?_
    refine Ox.pure rfl rfl zpk ?_
    refine Ox.pure rfl rfl zmv ?_
    refine Ox.skip rfl rfl ?_
    refine Ox.skip rfl rfl ?_
    refine Ox.skip rfl rfl ?_
    refine Ox.pure rfl rfl zpk ?_
    refine Ox.pure rfl rfl zmv ?_
    refine Ox.skip rfl rfl ?_
    refine Ox.skip rfl rfl ?_
    refine Ox.skip rfl rfl ?_
    refine Ox.pure rfl rfl zpk ?_
    refine Ox.pure rfl rfl zas ?_
    refine Ox.fin ?_
    refine zrt ?_
    exact endE_ret [_] ⟨rfl, trivial⟩ ⟨zxc, congrArg Value.bool (decide_eq_false (fun h => by unfold Fits at h; omega)).symm⟩
  refine Ox.pure rfl rfl zbc ?_
  refine Ox.pure rfl rfl zpk ?_
  refine Ox.pure rfl rfl zmv ?_
  refine Ox.pure rfl rfl zfa ?_
  refine Ox.val rfl rfl zrs ?_
  by_cases hs8 : f.key.o < 1024; rotate_left
  · refine Ox.pure rfl rfl zbc ?_
    refine Ox.pure rfl rfl zpk ?_
    refine Ox.pure rfl rfl zmv ?_
    refine Ox.skip rfl rfl ?_
    refine Ox.skip rfl rfl ?_
    refine Ox.skip rfl rfl ?_
    refine Ox.pure rfl rfl zpk ?_
    refine Ox.pure rfl rfl zmv ?_
    refine Ox.skip rfl rfl ?_
    refine Ox.skip rfl rfl ?_
    refine Ox.skip rfl rfl ?_
    refine Ox.pure rfl rfl zpk ?_
    refine Ox.pure rfl rfl zmv ?_
    refine Ox.skip rfl rfl ?_
    refine Ox.skip rfl rfl ?_
    refine Ox.skip rfl rfl ?_
    refine Ox.skip rfl rfl ?_
    refine Ox.pure rfl rfl zpk ?_
    refine Ox.pure rfl rfl zmv ?_
    refine Ox.skip rfl rfl ?_
    refine Ox.skip rfl rfl ?_
    refine Ox.skip rfl rfl ?_
    refine Ox.skip rfl rfl ?_
    refine Ox.skip rfl rfl ?_
    refine Ox.skip rfl rfl ?_
    refine Ox.skip rfl rfl ?_
    refine Ox.pure rfl rfl zpk ?_
    refine Ox.pure rfl rfl zmv ?_
    refine Ox.skip rfl rfl ?_
    refine Ox.skip rfl rfl ?_
    refine Ox.skip rfl rfl ?_
    refine Ox.skip rfl rfl ?_
    refine Ox.pure rfl rfl zpk ?_
    refine Ox.pure rfl rfl zmv ?_
    refine Ox.skip rfl rfl ?_
    refine Ox.skip rfl rfl ?_
    refine Ox.skip rfl rfl ?_
    refine Ox.pure rfl rfl zpk ?_
    refine Ox.pure rfl rfl zmv ?_
    refine Ox.skip rfl rfl ?_
    refine Ox.skip rfl rfl ?_
    refine Ox.skip rfl rfl ?_
    refine Ox.pure rfl rfl zpk ?_
    refine Ox.pure rfl rfl zmv ?_
    refine Ox.skip rfl rfl ?_
    refine Ox.skip rfl rfl ?_
    refine Ox.skip rfl rfl ?_
    refine Ox.pure rfl rfl zpk ?_
    refine Ox.pure rfl rfl zmv ?_
    refine Ox.skip rfl rfl ?_
    refine Ox.skip rfl rfl ?_
    refine Ox.skip rfl rfl ?_
    refine Ox.pure rfl rfl zpk ?_
    refine Ox.pure rfl rfl zas ?_
    refine Ox.fin ?_
    refine zrt ?_
    exact endE_ret [_] ⟨rfl, trivial⟩ ⟨zxc, congrArg Value.bool (decide_eq_false (fun h => by unfold Fits at h; omega)).symm⟩
  refine Ox.pure rfl rfl zbc ?_
  refine Ox.pure rfl rfl zpk ?_
  refine Ox.pure rfl rfl zmv ?_
  refine Ox.pure rfl rfl zfa ?_
  refine Ox.val rfl rfl zrs ?_
  by_cases hs9 : -1 ≤ f.val; rotate_left
  · refine Ox.pure rfl rfl zbc ?_
    refine Ox.pure rfl rfl zpk ?_
    refine Ox.pure rfl rfl zmv ?_
    refine Ox.skip rfl rfl ?_
    refine Ox.skip rfl rfl ?_
    refine Ox.skip rfl rfl ?_
    refine Ox.pure rfl rfl zpk ?_
    refine Ox.pure rfl rfl zmv ?_
    refine Ox.skip rfl rfl ?_
    refine Ox.skip rfl rfl ?_
    refine Ox.skip rfl rfl ?_
    refine Ox.skip rfl rfl ?_
    refine Ox.pure rfl rfl zpk ?_
    refine Ox.pure rfl rfl zmv ?_
    refine Ox.skip rfl rfl ?_
    refine Ox.skip rfl rfl ?_
    refine Ox.skip rfl rfl ?_
    refine Ox.skip rfl rfl ?_
    refine Ox.skip rfl rfl ?_
    refine Ox.skip rfl rfl ?_
    refine Ox.skip rfl rfl ?_
    refine Ox.pure rfl rfl zpk ?_
    refine Ox.pure rfl rfl zmv ?_
    refine Ox.skip rfl rfl ?_
    refine Ox.skip rfl rfl ?_
    refine Ox.skip rfl rfl ?_
    refine Ox.skip rfl rfl ?_
    refine Ox.pure rfl rfl zpk ?_
    refine Ox.pure rfl rfl zmv ?_
    refine Ox.skip rfl rfl ?_
    refine Ox.skip rfl rfl ?_
    refine Ox.skip rfl rfl ?_
    refine Ox.pure rfl rfl zpk ?_
    refine Ox.pure rfl rfl zmv ?_
    refine Ox.skip rfl rfl ?_
    refine Ox.skip rfl rfl ?_
    refine Ox.skip rfl rfl ?_
    refine Ox.pure rfl rfl zpk ?_
    refine Ox.pure rfl rfl zmv ?_
    refine Ox.skip rfl rfl ?_
    refine Ox.skip rfl rfl ?_
    refine Ox.skip rfl rfl ?_
    refine Ox.pure rfl rfl zpk ?_
    refine Ox.pure rfl rfl zmv ?_
    refine Ox.skip rfl rfl ?_
    refine Ox.skip rfl rfl ?_
    refine Ox.skip rfl rfl ?_
    refine Ox.pure rfl rfl zpk ?_
    refine Ox.pure rfl rfl zas ?_
    refine Ox.fin ?_
    refine zrt ?_
    exact endE_ret [_] ⟨rfl, trivial⟩ ⟨zxc, congrArg Value.bool (decide_eq_false (fun h => by unfold Fits at h; omega)).symm⟩
  refine Ox.pure rfl rfl zbc ?_
  refine Ox.pure rfl rfl zpk ?_
  refine Ox.pure rfl rfl zmv ?_
  refine Ox.pure rfl rfl zfa ?_
  refine Ox.val rfl rfl zrs ?_
  by_cases hs10 : f.val ≤ 1048576; rotate_left
  · refine Ox.pure rfl rfl zbc ?_
    refine Ox.pure rfl rfl zpk ?_
    refine Ox.pure rfl rfl zmv ?_
    refine Ox.skip rfl rfl ?_
    refine Ox.skip rfl rfl ?_
    refine Ox.skip rfl rfl ?_
    refine Ox.skip rfl rfl ?_
    refine Ox.pure rfl rfl zpk ?_
    refine Ox.pure rfl rfl zmv ?_
    refine Ox.skip rfl rfl ?_
    refine Ox.skip rfl rfl ?_
    refine Ox.skip rfl rfl ?_
    refine Ox.skip rfl rfl ?_
    refine Ox.skip rfl rfl ?_
    refine Ox.skip rfl rfl ?_
    refine Ox.skip rfl rfl ?_
    refine Ox.pure rfl rfl zpk ?_
    refine Ox.pure rfl rfl zmv ?_
    refine Ox.skip rfl rfl ?_
    refine Ox.skip rfl rfl ?_
    refine Ox.skip rfl rfl ?_
    refine Ox.skip rfl rfl ?_
    refine Ox.pure rfl rfl zpk ?_
    refine Ox.pure rfl rfl zmv ?_
    refine Ox.skip rfl rfl ?_
    refine Ox.skip rfl rfl ?_
    refine Ox.skip rfl rfl ?_
    refine Ox.pure rfl rfl zpk ?_
    refine Ox.pure rfl rfl zmv ?_
    refine Ox.skip rfl rfl ?_
    refine Ox.skip rfl rfl ?_
    refine Ox.skip rfl rfl ?_
    refine Ox.pure rfl rfl zpk ?_
    refine Ox.pure rfl rfl zmv ?_
    refine Ox.skip rfl rfl ?_
    refine Ox.skip rfl rfl ?_
    refine Ox.skip rfl rfl ?_
    refine Ox.pure rfl rfl zpk ?_
    refine Ox.pure rfl rfl zmv ?_
    refine Ox.skip rfl rfl ?_
    refine Ox.skip rfl rfl ?_
    refine Ox.skip rfl rfl ?_
    refine Ox.pure rfl rfl zpk ?_
    refine Ox.pure rfl rfl zas ?_
    refine Ox.fin ?_
    refine zrt ?_
    exact endE_ret [_] ⟨rfl, trivial⟩ ⟨zxc, congrArg Value.bool (decide_eq_false (fun h => by unfold Fits at h; omega)).symm⟩
  refine Ox.pure rfl rfl zbc ?_
  refine Ox.pure rfl rfl zpk ?_
  refine Ox.pure rfl rfl zmv ?_
  refine Ox.pure rfl rfl zfa ?_
  refine Ox.pure rfl rfl zfa ?_
  refine Ox.val rfl rfl zrs ?_
  by_cases hs11 : 0 ≤ f.lo; rotate_left
  · refine Ox.pure rfl rfl zbc ?_
    refine Ox.pure rfl rfl zpk ?_
    refine Ox.pure rfl rfl zmv ?_
    refine Ox.skip rfl rfl ?_
    refine Ox.skip rfl rfl ?_
    refine Ox.skip rfl rfl ?_
    refine Ox.skip rfl rfl ?_
    refine Ox.skip rfl rfl ?_
    refine Ox.skip rfl rfl ?_
    refine Ox.skip rfl rfl ?_
    refine Ox.pure rfl rfl zpk ?_
    refine Ox.pure rfl rfl zmv ?_
    refine Ox.skip rfl rfl ?_
    refine Ox.skip rfl rfl ?_
    refine Ox.skip rfl rfl ?_
    refine Ox.skip rfl rfl ?_
    refine Ox.pure rfl rfl zpk ?_
    refine Ox.pure rfl rfl zmv ?_
    refine Ox.skip rfl rfl ?_
    refine Ox.skip rfl rfl ?_
    refine Ox.skip rfl rfl ?_
    refine Ox.pure rfl rfl zpk ?_
    refine Ox.pure rfl rfl zmv ?_
    refine Ox.skip rfl rfl ?_
    refine Ox.skip rfl rfl ?_
    refine Ox.skip rfl rfl ?_
    refine Ox.pure rfl rfl zpk ?_
    refine Ox.pure rfl rfl zmv ?_
    refine Ox.skip rfl rfl ?_
    refine Ox.skip rfl rfl ?_
    refine Ox.skip rfl rfl ?_
    refine Ox.pure rfl rfl zpk ?_
    refine Ox.pure rfl rfl zmv ?_
    refine Ox.skip rfl rfl ?_
    refine Ox.skip rfl rfl ?_
    refine Ox.skip rfl rfl ?_
    refine Ox.pure rfl rfl zpk ?_
    refine Ox.pure rfl rfl zas ?_
    refine Ox.fin ?_
    refine zrt ?_
    exact endE_ret [_] ⟨rfl, trivial⟩ ⟨zxc, congrArg Value.bool (decide_eq_false (fun h => by unfold Fits at h; omega)).symm⟩
  refine Ox.pure rfl rfl zbc ?_
  refine Ox.pure rfl rfl zpk ?_
  refine Ox.pure rfl rfl zmv ?_
  refine Ox.pure rfl rfl zfa ?_
  refine Ox.pure rfl rfl zfa ?_
  refine Ox.val rfl rfl zrs ?_
  refine Ox.pure rfl rfl zfa ?_
  refine Ox.pure rfl rfl zfa ?_
  refine Ox.val rfl rfl zrs ?_
  by_cases hs12 : f.lo < f.hi; rotate_left
  · refine Ox.pure rfl rfl zbc ?_
    refine Ox.pure rfl rfl zpk ?_
    refine Ox.pure rfl rfl zmv ?_
    refine Ox.skip rfl rfl ?_
    refine Ox.skip rfl rfl ?_
    refine Ox.skip rfl rfl ?_
    refine Ox.skip rfl rfl ?_
    refine Ox.pure rfl rfl zpk ?_
    refine Ox.pure rfl rfl zmv ?_
    refine Ox.skip rfl rfl ?_
    refine Ox.skip rfl rfl ?_
    refine Ox.skip rfl rfl ?_
    refine Ox.pure rfl rfl zpk ?_
    refine Ox.pure rfl rfl zmv ?_
    refine Ox.skip rfl rfl ?_
    refine Ox.skip rfl rfl ?_
    refine Ox.skip rfl rfl ?_
    refine Ox.pure rfl rfl zpk ?_
    refine Ox.pure rfl rfl zmv ?_
    refine Ox.skip rfl rfl ?_
    refine Ox.skip rfl rfl ?_
    refine Ox.skip rfl rfl ?_
    refine Ox.pure rfl rfl zpk ?_
    refine Ox.pure rfl rfl zmv ?_
    refine Ox.skip rfl rfl ?_
    refine Ox.skip rfl rfl ?_
    refine Ox.skip rfl rfl ?_
    refine Ox.pure rfl rfl zpk ?_
    refine Ox.pure rfl rfl zas ?_
    refine Ox.fin ?_
    refine zrt ?_
    exact endE_ret [_] ⟨rfl, trivial⟩ ⟨zxc, congrArg Value.bool (decide_eq_false (fun h => by unfold Fits at h; omega)).symm⟩
  refine Ox.pure rfl rfl zbc ?_
  refine Ox.pure rfl rfl zpk ?_
  refine Ox.pure rfl rfl zmv ?_
  refine Ox.pure rfl rfl zfa ?_
  refine Ox.pure rfl rfl zfa ?_
  refine Ox.val rfl rfl zrs ?_
  by_cases hs13 : f.hi ≤ 1024; rotate_left
  · refine Ox.pure rfl rfl zbc ?_
    refine Ox.pure rfl rfl zpk ?_
    refine Ox.pure rfl rfl zmv ?_
    refine Ox.skip rfl rfl ?_
    refine Ox.skip rfl rfl ?_
    refine Ox.skip rfl rfl ?_
    refine Ox.pure rfl rfl zpk ?_
    refine Ox.pure rfl rfl zmv ?_
    refine Ox.skip rfl rfl ?_
    refine Ox.skip rfl rfl ?_
    refine Ox.skip rfl rfl ?_
    refine Ox.pure rfl rfl zpk ?_
    refine Ox.pure rfl rfl zmv ?_
    refine Ox.skip rfl rfl ?_
    refine Ox.skip rfl rfl ?_
    refine Ox.skip rfl rfl ?_
    refine Ox.pure rfl rfl zpk ?_
    refine Ox.pure rfl rfl zmv ?_
    refine Ox.skip rfl rfl ?_
    refine Ox.skip rfl rfl ?_
    refine Ox.skip rfl rfl ?_
    refine Ox.pure rfl rfl zpk ?_
    refine Ox.pure rfl rfl zas ?_
    refine Ox.fin ?_
    refine zrt ?_
    exact endE_ret [_] ⟨rfl, trivial⟩ ⟨zxc, congrArg Value.bool (decide_eq_false (fun h => by unfold Fits at h; omega)).symm⟩
  refine Ox.pure rfl rfl zbc ?_
  refine Ox.pure rfl rfl zpk ?_
  refine Ox.pure rfl rfl zmv ?_
  refine Ox.pure rfl rfl zfa ?_
  refine Ox.val rfl rfl zrs ?_
  by_cases hs14 : 1 ≤ f.known; rotate_left
  · refine Ox.pure rfl rfl zbc ?_
    refine Ox.pure rfl rfl zpk ?_
    refine Ox.pure rfl rfl zmv ?_
    refine Ox.skip rfl rfl ?_
    refine Ox.skip rfl rfl ?_
    refine Ox.skip rfl rfl ?_
    refine Ox.pure rfl rfl zpk ?_
    refine Ox.pure rfl rfl zmv ?_
    refine Ox.skip rfl rfl ?_
    refine Ox.skip rfl rfl ?_
    refine Ox.skip rfl rfl ?_
    refine Ox.pure rfl rfl zpk ?_
    refine Ox.pure rfl rfl zmv ?_
    refine Ox.skip rfl rfl ?_
    refine Ox.skip rfl rfl ?_
    refine Ox.skip rfl rfl ?_
    refine Ox.pure rfl rfl zpk ?_
    refine Ox.pure rfl rfl zas ?_
    refine Ox.fin ?_
    refine zrt ?_
    exact endE_ret [_] ⟨rfl, trivial⟩ ⟨zxc, congrArg Value.bool (decide_eq_false (fun h => by unfold Fits at h; omega)).symm⟩
  refine Ox.pure rfl rfl zbc ?_
  refine Ox.pure rfl rfl zpk ?_
  refine Ox.pure rfl rfl zmv ?_
  refine Ox.pure rfl rfl zfa ?_
  refine Ox.val rfl rfl zrs ?_
  by_cases hs15 : f.known ≤ 16777216; rotate_left
  · refine Ox.pure rfl rfl zbc ?_
    refine Ox.pure rfl rfl zpk ?_
    refine Ox.pure rfl rfl zmv ?_
    refine Ox.skip rfl rfl ?_
    refine Ox.skip rfl rfl ?_
    refine Ox.skip rfl rfl ?_
    refine Ox.pure rfl rfl zpk ?_
    refine Ox.pure rfl rfl zmv ?_
    refine Ox.skip rfl rfl ?_
    refine Ox.skip rfl rfl ?_
    refine Ox.skip rfl rfl ?_
    refine Ox.pure rfl rfl zpk ?_
    refine Ox.pure rfl rfl zas ?_
    refine Ox.fin ?_
    refine zrt ?_
    exact endE_ret [_] ⟨rfl, trivial⟩ ⟨zxc, congrArg Value.bool (decide_eq_false (fun h => by unfold Fits at h; omega)).symm⟩
  refine Ox.pure rfl rfl zbc ?_
  refine Ox.pure rfl rfl zpk ?_
  refine Ox.pure rfl rfl zmv ?_
  refine Ox.pure rfl rfl zfa ?_
  refine Ox.val rfl rfl zrs ?_
  by_cases hs16 : 0 ≤ f.no; rotate_left
  · refine Ox.pure rfl rfl zbc ?_
    refine Ox.pure rfl rfl zpk ?_
    refine Ox.pure rfl rfl zmv ?_
    refine Ox.skip rfl rfl ?_
    refine Ox.skip rfl rfl ?_
    refine Ox.skip rfl rfl ?_
    refine Ox.pure rfl rfl zpk ?_
    refine Ox.pure rfl rfl zas ?_
    refine Ox.fin ?_
    refine zrt ?_
    exact endE_ret [_] ⟨rfl, trivial⟩ ⟨zxc, congrArg Value.bool (decide_eq_false (fun h => by unfold Fits at h; omega)).symm⟩
  refine Ox.pure rfl rfl zbc ?_
  refine Ox.pure rfl rfl zpk ?_
  refine Ox.pure rfl rfl zmv ?_
  refine Ox.pure rfl rfl zfa ?_
  refine Ox.val rfl rfl zrs ?_
  by_cases hs17 : f.no ≤ 65535; rotate_left
  · refine Ox.pure rfl rfl zbc ?_
    refine Ox.pure rfl rfl zpk ?_
    refine Ox.pure rfl rfl zas ?_
    refine Ox.fin ?_
    refine zrt ?_
    exact endE_ret [_] ⟨rfl, trivial⟩ ⟨zxc, congrArg Value.bool (decide_eq_false (fun h => by unfold Fits at h; omega)).symm⟩
  refine Ox.pure rfl rfl zbc ?_
  refine Ox.pure rfl rfl zpk ?_
  refine Ox.pure rfl rfl zas ?_
  refine Ox.fin ?_
  refine zrt ?_
  exact endE_ret [_] ⟨rfl, trivial⟩ ⟨zxc, congrArg Value.bool (decide_eq_true (by unfold Fits; omega)).symm⟩

/-- Where a list first meets a condition. -/
def Idx {α : Type} (q : α → Bool) (l : List α) (k : Int) : Prop := (k = -1 ∧ ∀ f ∈ l, q f = false) ∨ ∃ i, ∃ h : i < l.length, k = (i : Int) ∧ q l[i] = true ∧ ∀ f ∈ l.take i, q f = false
theorem Idx.any {α : Type} {q : α → Bool} {l : List α} {k : Int} (h : Idx q l k) : decide (0 ≤ k) = l.any q := by
  rcases h with ⟨rfl, h⟩ | ⟨i, hi, rfl, h, _⟩
  · rw [decide_eq_false (by decide)]
    symm; rw [Bool.eq_false_iff]
    intro ht
    obtain ⟨f, h1, h2⟩ := List.any_eq_true.1 ht
    rw [h f h1] at h2; cases h2
  · rw [decide_eq_true (by omega)]
    symm; exact List.any_eq_true.2 ⟨_, List.getElem_mem hi, h⟩
theorem take_succ_all {α : Type} {q : α → Bool} {l : List α} {i : Nat} (hi : i < l.length) (h : ∀ f ∈ l.take i, q f = false) (h2 : q l[i] = false) : ∀ f ∈ l.take (i + 1), q f = false := by
  rw [← List.take_append_getElem hi]
  intro f hf
  rcases List.mem_append.1 hf with h3 | h3
  · exact h f h3
  · rw [List.mem_singleton.1 h3]; exact h2

/-- A function value that answers for facts as q does. -/
def Asks (w : World) (g : FuncId) (cap : Array Value) (l : List Fct) (q : Fct → Bool) : Prop :=
  ∀ f ∈ l, ∀ w', Ext [] w w' → Calls Try.prog g (#[.agg (fc f).toArray] ++ cap) w' (Ret fun r w'' => Ext [] w' w'' ∧ r = .bool (q f))

theorem indexFact_at (l : List Fct) (q : Fct → Bool) (g : FuncId) (cap : Array Value) (hg : callable Try.prog g = true) (p : Option Addr) (A : Addr) (c : Nat) (w : World) (hs : SlV fc w p A l c) (hq : Asks w g cap l q) :
    Calls Try.prog 74 #[.slice p l.length c, .func (.func g) #[] cap] w (Ret fun r w' => Ext [] w w' ∧ ∃ k, r = .int .i64 k ∧ Idx q l k) := by
  have hfew := hs.few
  have hp := hs.ptr
  have hrow := hs.row
  refine calls_of_Sx (args := [.slice p l.length c, .func (.func g) #[] cap]) Try.func74 rfl rfl ?_
  refine ztx ?_
  refine Ox.pure rfl rfl zas ?_
  refine Ox.fin ?_
  refine ztx ?_
  refine Ox.pure rfl rfl zmv ?_
  refine Ox.pure rfl rfl (rp_lenS rfl rfl rfl) ?_
  refine Ox.pure rfl rfl zmv ?_
  refine Ox.fin ?_
  refine zbl ?_
  refine Sx.loop (ι := Nat) (fun i E wr => E = [(0, .slice p l.length c), (1, .func (.func g) #[] cap), (7, .int .i64 (l.length : Int)), (8, .int .i64 (i : Int))] ∧ i ≤ l.length ∧ (∀ f ∈ l.take i, q f = false) ∧ Ext [] w wr) (fun i => l.length - i) 0
    (sub_cons rfl (sub_cons rfl (sub_cons rfl (sub_cons rfl sub_nil)))) ⟨rfl, Nat.zero_le _, by simp, zxc⟩ ?_
  rintro i E wr ⟨rfl, hi, hf, er⟩
  by_cases hlt : i < l.length
  · have hat := rowsV_at fc_len hlt
    have hl8 := fc_len l[i]
    cases hqi : q l[i] with
    | true =>
      refine ztx ?_
      refine Ox.pure rfl rfl zbc ?_
      refine Ox.fin ?_
      refine zct ?_
      refine zsk ?_
      refine zbl ?_
      refine ztx ?_
      refine Ox.pure rfl rfl zmv ?_
      refine Ox.pure rfl rfl zas ?_
      refine Ox.fin ?_
      refine ztx ?_
      refine Ox.pure rfl rfl zmv ?_
      refine Ox.pure rfl rfl zmv ?_
      refine Ox.pure rfl rfl zmv ?_
      refine Ox.pure rfl rfl zix ?_
      refine Ox.val rfl rfl zra ?_
      refine Ox.act rfl rfl (acts_callv rfl rfl rfl hg (hq _ (List.getElem_mem hlt) _ zxc)) ?_
      rintro v18 w18 ⟨e18, rfl⟩
      have hz18 := e18.size
      refine Ox.fin ?_
      refine zct ?_
      refine ztx ?_
      refine Ox.pure rfl rfl zmv ?_
      refine Ox.pure rfl rfl zas ?_
      refine Ox.fin ?_
      refine zrt ?_
      exact endE_ret [_] ⟨rfl, trivial⟩ ⟨zxc, _, rfl, .inr ⟨i, hlt, rfl, hqi, hf⟩⟩
    | false =>
      refine ztx ?_
      refine Ox.pure rfl rfl zbc ?_
      refine Ox.fin ?_
      refine zct ?_
      refine zsk ?_
      refine zbl ?_
      refine ztx ?_
      refine Ox.pure rfl rfl zmv ?_
      refine Ox.pure rfl rfl zas ?_
      refine Ox.fin ?_
      refine ztx ?_
      refine Ox.pure rfl rfl zmv ?_
      refine Ox.pure rfl rfl zmv ?_
      refine Ox.pure rfl rfl zmv ?_
      refine Ox.pure rfl rfl zix ?_
      refine Ox.val rfl rfl zra ?_
      refine Ox.act rfl rfl (acts_callv rfl rfl rfl hg (hq _ (List.getElem_mem hlt) _ zxc)) ?_
      rintro v19 w19 ⟨e19, rfl⟩
      have hz19 := e19.size
      refine Ox.fin ?_
      refine zcf ?_
      refine zsk ?_
      refine ztx ?_
      refine Ox.pure rfl rfl zba ?_
      refine Ox.pure rfl rfl zmv ?_
      refine Ox.fin ?_
      exact ⟨i + 1, _, sub_cons rfl (sub_cons rfl (sub_cons rfl (sub_cons rfl sub_nil))), ⟨rfl, hlt, take_succ_all hlt hf hqi, zxc⟩, by omega⟩
  · rw [List.take_of_length_le (by omega)] at hf
    refine ztx ?_
    refine Ox.pure rfl rfl zbc ?_
    refine Ox.fin ?_
    refine zcf ?_
    refine zex ?_
    refine ztx ?_
    refine Ox.pure rfl rfl zas ?_
    refine Ox.fin ?_
    refine zrt ?_
    exact endE_ret [_] ⟨rfl, trivial⟩ ⟨zxc, _, rfl, .inl ⟨rfl, hf⟩⟩

theorem containsFact_at (l : List Fct) (q : Fct → Bool) (g : FuncId) (cap : Array Value) (hg : callable Try.prog g = true) (p : Option Addr) (A : Addr) (c : Nat) (w : World) (hs : SlV fc w p A l c) (hq : Asks w g cap l q) :
    Calls Try.prog 52 #[.slice p l.length c, .func (.func g) #[] cap] w (Ret fun r w' => Ext [] w w' ∧ r = .bool (l.any q)) := by
  refine calls_of_Sx (args := [.slice p l.length c, .func (.func g) #[] cap]) Try.func52 rfl rfl ?_
  refine ztx ?_
  refine Ox.pure rfl rfl zas ?_
  refine Ox.fin ?_
  refine ztx ?_
  refine Ox.pure rfl rfl zmv ?_
  refine Ox.pure rfl rfl zmv ?_
  refine Ox.act rfl rfl (acts_call rfl rfl rfl (indexFact_at l q g cap hg p A c _ (hs.ext0 zxc) (fun f hf w' he => hq f hf w' (Ext.trans zxc he)))) ?_
  rintro vix wix ⟨eix, k, rfl, hk⟩
  have hzix := eix.size
  refine Ox.pure rfl rfl zbc ?_
  refine Ox.pure rfl rfl zas ?_
  refine Ox.fin ?_
  refine zrt ?_
  exact endE_ret [_] ⟨rfl, trivial⟩ ⟨zxc, congrArg Value.bool hk.any⟩

theorem check1_at (f : Fct) (w : World) : Calls Try.prog 53 #[.agg (fc f).toArray] w (Ret fun r w' => Ext [] w w' ∧ r = .bool (!decide (Fits f))) := by
  refine calls_of_Sx (args := [.agg (fc f).toArray]) Try.func53 rfl rfl ?_
  refine ztx ?_
  refine Ox.act rfl rfl (acts_box rfl rfl) ?_
  rintro vbx wbx ⟨ebx, bbx, rfl, hbbx, hBbx⟩
  first | (have hCbx : Cells wbx ⟨bbx, 0, none⟩ [_, _, _, _, _, _, _, _] := hBbx.cells) | have hCbx := Blk.cellsL hBbx
  have hlbx := hBbx.lt
  have hzbx := ebx.size
  refine Ox.pure rfl rfl zas ?_
  refine Ox.fin ?_
  refine ztx ?_
  refine Ox.val rfl rfl zra ?_
  refine Ox.act rfl rfl (acts_call rfl rfl rfl (fits_at f _)) ?_
  rintro v20 w20 ⟨e20, rfl⟩
  have hz20 := e20.size
  refine Ox.pure rfl rfl (rp_not rfl rfl) ?_
  refine Ox.pure rfl rfl zas ?_
  refine Ox.fin ?_
  refine zrt ?_
  exact endE_ret [_] ⟨rfl, trivial⟩ ⟨zxc, rfl⟩

theorem any_notFits (l : List Fct) : l.any (fun f => !decide (Fits f)) = !decide (∀ f ∈ l, Fits f) := by
  by_cases h : ∀ f ∈ l, Fits f
  · rw [decide_eq_true h, Bool.not_true, Bool.eq_false_iff]
    intro ht
    obtain ⟨f, h1, h2⟩ := List.any_eq_true.1 ht
    simp [h f h1] at h2
  · rw [decide_eq_false h]
    simp only [Bool.not_false, List.any_eq_true]
    exact Classical.byContradiction fun hn => h fun f hf => Classical.byContradiction fun h2 => hn ⟨f, hf, by simp [h2]⟩

theorem check_at (l : List Fct) (p : Option Addr) (A : Addr) (c : Nat) (w : World) (hs : SlV fc w p A l c) : Calls Try.prog 30 #[.slice p l.length c] w (Ret fun r w' => Ext [] w w' ∧ r = .int .i64 (checkL l)) := by
  have hfew := hs.few
  have hp := hs.ptr
  have hrow := hs.row
  have hle := hs.le
  have hsm := hs.small
  refine calls_of_Sx (args := [.slice p l.length c]) Try.func30 rfl rfl ?_
  by_cases hall : ∀ f ∈ l, Fits f
  · refine ztx ?_
    refine Ox.pure rfl rfl zas ?_
    refine Ox.fin ?_
    refine ztx ?_
    refine Ox.pure rfl rfl zmv ?_
    refine Ox.act rfl rfl (acts_call rfl rfl rfl (containsFact_at l (fun f => !decide (Fits f)) 53 #[] rfl p A c _ (hs.ext0 zxc) (fun f _ w' _ => check1_at f w'))) ?_
    rintro v21 w21 ⟨e21, rfl⟩
    have hz21 := e21.size
    rw [any_notFits]
    rw [decide_eq_true hall]
    refine Ox.fin ?_
    refine zcf ?_
    refine zsk ?_
    refine ztx ?_
    refine Ox.pure rfl rfl zmv ?_
    refine Ox.pure rfl rfl zmv ?_
    refine Ox.pure rfl rfl (rp_lenS rfl rfl rfl) ?_
    refine Ox.pure rfl rfl ((show (min (1 : Int) (l.length : Int) = ((min 1 l.length : Nat) : Int)) by omega) ▸ rp_min rfl rfl rfl) ?_
    refine Ox.pure rfl rfl (rp_sliceS (min 1 l.length) l.length rfl rfl rfl rfl rfl rfl (.inr ⟨_, rfl⟩) (.inl ⟨rfl, rfl⟩) (by omega) hle) ?_
    refine Ox.pure rfl rfl (rp_lenS rfl rfl rfl) ?_
    refine Ox.pure rfl rfl zmv ?_
    refine Ox.fin ?_
    refine zbl ?_
    refine Sx.loop (ι := Nat) (fun i E wr => E = [(0, .slice p l.length c), (11, .int .i64 ((l.length - min 1 l.length : Nat) : Int)), (12, .int .i64 (i : Int))] ∧ i ≤ l.length - 1 ∧ (∀ j (h : j < l.length - 1), j < i → before (l[j]'(by omega)) (l[j + 1]'(by omega))) ∧ Ext [] w wr) (fun i => l.length - i) 0
      (sub_cons rfl (sub_cons rfl (sub_cons rfl sub_nil))) ⟨rfl, Nat.zero_le _, fun j _ hj => absurd hj (by omega), zxc⟩ ?_
    rintro i E wr ⟨rfl, hi, hf, er⟩
    by_cases hlt : i < l.length - 1
    · have hi1 : i < l.length := by omega
      have hi2 : i + 1 < l.length := by omega
      have hat1 := rowsV_at fc_len hi1
      have hat2 := rowsV_at fc_len hi2
      have hl81 := fc_len l[i]
      have hl82 := fc_len l[i + 1]
      have hge := cmpF_ge l[i] l[i + 1]
      by_cases hb : before l[i] l[i + 1]
      · have hneg : ¬ 0 ≤ cmpF l[i] l[i + 1] := fun h => hge.1 h hb
        refine ztx ?_
        refine Ox.pure rfl rfl zbc ?_
        refine Ox.fin ?_
        refine zct ?_
        refine zsk ?_
        refine zbl ?_
        refine ztx ?_
        refine Ox.pure rfl rfl zmv ?_
        refine Ox.pure rfl rfl zas ?_
        refine Ox.fin ?_
        (repeat refine Sx.seq ?_)
        refine Sx.walkR rfl (fun _ _ _ _ h => h) [0, 1, 2, 3, 4, 5, 6, 7, 8, 9, 10] [0, 1, 2, 3, 4, 5, 6, 7, 8, 10] (0) (by kernel_rfl) ?_
        intro hq w22 e22; have hz22 := e22.size
        refine Wx.pure hq rfl rfl rfl rfl zmv ?_
        refine Wx.pure hq rfl rfl rfl rfl zmv ?_
        refine Wx.pure hq rfl rfl rfl rfl zix ?_
        refine Wx.val hq rfl rfl rfl rfl ([]) zra ?_
        refine Wx.pure hq rfl rfl rfl rfl zmv ?_
        refine Wx.pure hq rfl rfl rfl rfl zmv ?_
        refine Wx.pure hq rfl rfl rfl rfl zba ?_
        refine Wx.pure hq rfl rfl rfl rfl (rp_indexAddr (i + 1) rfl rfl rfl rfl rfl (by assumption) (by omega) (by omega)) ?_
        refine Wx.val hq rfl rfl rfl rfl ([]) zra ?_
        refine Wx.actNew rfl rfl rfl rfl (acts_call rfl rfl rfl (compare_at l[i] l[i + 1] _)) ?_
        rintro v23 w23 e23 rfl
        have hz23 := e23.size
        refine Wx.pure hq rfl rfl rfl rfl zbc ?_
        refine Wx.fin ?_
        refine zcf ?_
        refine zsk ?_
        refine ztx ?_
        refine Ox.pure rfl rfl zba ?_
        refine Ox.pure rfl rfl zmv ?_
        refine Ox.fin ?_
        refine ⟨i + 1, _, sub_cons rfl (sub_cons rfl (sub_cons rfl sub_nil)), ⟨rfl, by omega, fun j hj hji => ?_, zxc⟩, by omega⟩
        by_cases hjj : j = i
        · subst hjj; exact hb
        · exact hf j hj (by omega)
      · have hpos : 0 ≤ cmpF l[i] l[i + 1] := hge.2 hb
        refine ztx ?_
        refine Ox.pure rfl rfl zbc ?_
        refine Ox.fin ?_
        refine zct ?_
        refine zsk ?_
        refine zbl ?_
        refine ztx ?_
        refine Ox.pure rfl rfl zmv ?_
        refine Ox.pure rfl rfl zas ?_
        refine Ox.fin ?_
        (repeat refine Sx.seq ?_)
        refine Sx.walkR rfl (fun _ _ _ _ h => h) [0, 1, 2, 3, 4, 5, 6, 7, 8, 9, 10] [0, 1, 2, 3, 4, 5, 6, 7, 8, 10] (0) (by kernel_rfl) ?_
        intro hq w24 e24; have hz24 := e24.size
        refine Wx.pure hq rfl rfl rfl rfl zmv ?_
        refine Wx.pure hq rfl rfl rfl rfl zmv ?_
        refine Wx.pure hq rfl rfl rfl rfl zix ?_
        refine Wx.val hq rfl rfl rfl rfl ([]) zra ?_
        refine Wx.pure hq rfl rfl rfl rfl zmv ?_
        refine Wx.pure hq rfl rfl rfl rfl zmv ?_
        refine Wx.pure hq rfl rfl rfl rfl zba ?_
        refine Wx.pure hq rfl rfl rfl rfl (rp_indexAddr (i + 1) rfl rfl rfl rfl rfl (by assumption) (by omega) (by omega)) ?_
        refine Wx.val hq rfl rfl rfl rfl ([]) zra ?_
        refine Wx.actNew rfl rfl rfl rfl (acts_call rfl rfl rfl (compare_at l[i] l[i + 1] _)) ?_
        rintro v25 w25 e25 rfl
        have hz25 := e25.size
        refine Wx.pure hq rfl rfl rfl rfl zbc ?_
        refine Wx.fin ?_
        refine zct ?_
        refine ztx ?_
        refine Ox.pure rfl rfl zas ?_
        refine Ox.fin ?_
        refine zrt ?_
        exact endE_ret [_] ⟨rfl, trivial⟩ ⟨zxc, by rw [checkL, if_pos hall, if_neg (fun h => hb (h i hlt))]; rfl⟩
    · refine ztx ?_
      refine Ox.pure rfl rfl zbc ?_
      refine Ox.fin ?_
      refine zcf ?_
      refine zex ?_
      refine ztx ?_
      refine Ox.pure rfl rfl zas ?_
      refine Ox.fin ?_
      refine zrt ?_
      exact endE_ret [_] ⟨rfl, trivial⟩ ⟨zxc, by rw [checkL, if_pos hall, if_pos (show Risen l from fun j hj => hf j hj (by omega))]; rfl⟩
  · refine ztx ?_
    refine Ox.pure rfl rfl zas ?_
    refine Ox.fin ?_
    refine ztx ?_
    refine Ox.pure rfl rfl zmv ?_
    refine Ox.act rfl rfl (acts_call rfl rfl rfl (containsFact_at l (fun f => !decide (Fits f)) 53 #[] rfl p A c _ (hs.ext0 zxc) (fun f _ w' _ => check1_at f w'))) ?_
    rintro v26 w26 ⟨e26, rfl⟩
    have hz26 := e26.size
    rw [any_notFits]
    rw [decide_eq_false hall]
    refine Ox.fin ?_
    refine zct ?_
    refine ztx ?_
    refine Ox.pure rfl rfl zas ?_
    refine Ox.fin ?_
    refine zrt ?_
    exact endE_ret [_] ⟨rfl, trivial⟩ ⟨zxc, by rw [checkL, if_neg hall]; rfl⟩

theorem ref_Check (l : List Fct) (p : Option Addr) (A : Addr) (c : Nat) (w : World) (hs : SlV fc w p A l c) : Calls Try.prog 34 #[.slice p l.length c] w (Ret fun r w' => Ext [] w w' ∧ r = .int .i64 (checkL l)) := by
  have hfew := hs.few
  have hp := hs.ptr
  have hrow := hs.row
  refine calls_of_Sx (args := [.slice p l.length c]) Try.func34 rfl rfl ?_
  refine ztx ?_
  refine Ox.pure rfl rfl zas ?_
  refine Ox.fin ?_
  refine ztx ?_
  refine Ox.pure rfl rfl zas ?_
  refine Ox.fin ?_
  refine Sx.upto (fun E' w' => (∀ t v, get [(0, .slice p l.length c)] t = some v → get E' t = some v) ∧ Ext [] w w' ∧ ∀ f ∈ l, Fits f) ?_ ?_
  · refine zbl ?_
    refine Sx.loop (ι := Nat) (fun i E wr => E = [(0, .slice p l.length c), (3, .int .i64 (i : Int))] ∧ i ≤ l.length ∧ (∀ f ∈ l.take i, Fits f) ∧ Ext [] w wr) (fun i => l.length - i) 0
      (sub_cons rfl (sub_cons rfl sub_nil)) ⟨rfl, Nat.zero_le _, by simp, zxc⟩ ?_
    rintro i E wr ⟨rfl, hi, hf, er⟩
    by_cases hlt : i < l.length
    · have hat := rowsV_at fc_len hlt
      have hl8 := fc_len l[i]
      by_cases hv : Fits l[i]
      · refine ztx ?_
        refine Ox.pure rfl rfl zmv ?_
        refine Ox.pure rfl rfl zmv ?_
        refine Ox.pure rfl rfl (rp_lenS rfl rfl rfl) ?_
        refine Ox.pure rfl rfl zbc ?_
        refine Ox.fin ?_
        refine zct ?_
        refine zsk ?_
        refine zbl ?_
        refine ztx ?_
        refine Ox.pure rfl rfl zmv ?_
        refine Ox.pure rfl rfl zmv ?_
        refine Ox.pure rfl rfl zix ?_
        refine Ox.val rfl rfl zra ?_
        refine Ox.act rfl rfl (acts_call rfl rfl rfl (ref_Valid l[i] _)) ?_
        rintro v27 w27 ⟨e27, rfl⟩
        have hz27 := e27.size
        rw [decide_eq_true hv]
        refine Ox.pure rfl rfl (rp_not rfl rfl) ?_
        refine Ox.fin ?_
        refine zcf ?_
        refine zsk ?_
        refine ztx ?_
        refine Ox.pure rfl rfl zmv ?_
        refine Ox.pure rfl rfl zba ?_
        refine Ox.pure rfl rfl zas ?_
        refine Ox.fin ?_
        refine ⟨i + 1, _, sub_cons rfl (sub_cons rfl sub_nil), ⟨rfl, hlt, ?_, zxc⟩, by omega⟩
        rw [← List.take_append_getElem hlt]
        intro f hm
        rcases List.mem_append.1 hm with h3 | h3
        · exact hf f h3
        · rw [List.mem_singleton.1 h3]; exact hv
      · refine ztx ?_
        refine Ox.pure rfl rfl zmv ?_
        refine Ox.pure rfl rfl zmv ?_
        refine Ox.pure rfl rfl (rp_lenS rfl rfl rfl) ?_
        refine Ox.pure rfl rfl zbc ?_
        refine Ox.fin ?_
        refine zct ?_
        refine zsk ?_
        refine zbl ?_
        refine ztx ?_
        refine Ox.pure rfl rfl zmv ?_
        refine Ox.pure rfl rfl zmv ?_
        refine Ox.pure rfl rfl zix ?_
        refine Ox.val rfl rfl zra ?_
        refine Ox.act rfl rfl (acts_call rfl rfl rfl (ref_Valid l[i] _)) ?_
        rintro v28 w28 ⟨e28, rfl⟩
        have hz28 := e28.size
        rw [decide_eq_false hv]
        refine Ox.pure rfl rfl (rp_not rfl rfl) ?_
        refine Ox.fin ?_
        refine zct ?_
        refine ztx ?_
        refine Ox.pure rfl rfl zas ?_
        refine Ox.fin ?_
        refine zrt ?_
        exact endE_ret [_] ⟨rfl, trivial⟩ ⟨zxc, by rw [checkL, if_neg (fun h => hv (h _ (List.getElem_mem hlt)))]; rfl⟩
    · rw [List.take_of_length_le (by omega)] at hf
      refine ztx ?_
      refine Ox.pure rfl rfl zmv ?_
      refine Ox.pure rfl rfl zmv ?_
      refine Ox.pure rfl rfl (rp_lenS rfl rfl rfl) ?_
      refine Ox.pure rfl rfl zbc ?_
      refine Ox.fin ?_
      refine zcf ?_
      refine zex ?_
      exact ⟨sub_cons rfl sub_nil, zxc, hf⟩
  · rintro E' wa ⟨hsub, ea, hall⟩
    refine thenE_normal (Sx.weaken ?_ hsub)
    refine ztx ?_
    refine Ox.pure rfl rfl zas ?_
    refine Ox.fin ?_
    refine zbl ?_
    refine Sx.loop (ι := Nat) (fun i E wr => E = [(0, .slice p l.length c), (4, .int .i64 ((i + 1 : Nat) : Int))] ∧ i ≤ l.length ∧ (∀ j (h : j < l.length - 1), j < i → before (l[j]'(by omega)) (l[j + 1]'(by omega))) ∧ Ext [] wa wr) (fun i => l.length - i) 0
      (sub_cons rfl (sub_cons rfl sub_nil)) ⟨rfl, Nat.zero_le _, fun j _ hj => absurd hj (by omega), zxc⟩ ?_
    rintro i E wr ⟨rfl, hi, hf, er⟩
    by_cases hlt : i + 1 < l.length
    · have hi1 : i < l.length := by omega
      have hat1 := rowsV_at fc_len hi1
      have hat2 := rowsV_at fc_len hlt
      have hl81 := fc_len l[i]
      have hl82 := fc_len l[i + 1]
      by_cases hb : before l[i] l[i + 1]
      · refine ztx ?_
        refine Ox.pure rfl rfl zmv ?_
        refine Ox.pure rfl rfl zmv ?_
        refine Ox.pure rfl rfl (rp_lenS rfl rfl rfl) ?_
        refine Ox.pure rfl rfl zbc ?_
        refine Ox.fin ?_
        refine zct ?_
        refine zsk ?_
        refine zbl ?_
        (repeat refine Sx.seq ?_)
        refine Sx.walkR rfl (fun _ _ _ _ h => h) [0, 1, 2, 3, 4, 5, 6, 7, 8, 9, 10] [0, 1, 2, 3, 4, 5, 6, 7, 8, 10] (0) (by kernel_rfl) ?_
        intro hq w29 e29; have hz29 := e29.size
        refine Wx.pure hq rfl rfl rfl rfl zmv ?_
        refine Wx.pure hq rfl rfl rfl rfl zmv ?_
        refine Wx.pure hq rfl rfl rfl rfl zbs ?_
        refine Wx.pure hq rfl rfl rfl rfl (rp_indexAddr i rfl rfl rfl rfl rfl (by assumption) (by omega) (by omega)) ?_
        refine Wx.val hq rfl rfl rfl rfl ([]) zra ?_
        refine Wx.pure hq rfl rfl rfl rfl zmv ?_
        refine Wx.pure hq rfl rfl rfl rfl zmv ?_
        refine Wx.pure hq rfl rfl rfl rfl zix ?_
        refine Wx.val hq rfl rfl rfl rfl ([]) zra ?_
        refine Wx.actNew rfl rfl rfl rfl (acts_call rfl rfl rfl (ref_Before l[i] l[i + 1] _)) ?_
        rintro v30 w30 e30 rfl
        have hz30 := e30.size
        rw [decide_eq_true hb]
        refine Wx.pure hq rfl rfl rfl rfl (rp_not rfl rfl) ?_
        refine Wx.fin ?_
        refine zcf ?_
        refine zsk ?_
        refine ztx ?_
        refine Ox.pure rfl rfl zmv ?_
        refine Ox.pure rfl rfl zba ?_
        refine Ox.pure rfl rfl zas ?_
        refine Ox.fin ?_
        refine ⟨i + 1, _, sub_cons rfl (sub_int rfl (by omega) sub_nil), ⟨rfl, by omega, fun j hj hji => ?_, zxc⟩, by omega⟩
        by_cases hjj : j = i
        · subst hjj; exact hb
        · exact hf j hj (by omega)
      · refine ztx ?_
        refine Ox.pure rfl rfl zmv ?_
        refine Ox.pure rfl rfl zmv ?_
        refine Ox.pure rfl rfl (rp_lenS rfl rfl rfl) ?_
        refine Ox.pure rfl rfl zbc ?_
        refine Ox.fin ?_
        refine zct ?_
        refine zsk ?_
        refine zbl ?_
        (repeat refine Sx.seq ?_)
        refine Sx.walkR rfl (fun _ _ _ _ h => h) [0, 1, 2, 3, 4, 5, 6, 7, 8, 9, 10] [0, 1, 2, 3, 4, 5, 6, 7, 8, 10] (0) (by kernel_rfl) ?_
        intro hq w31 e31; have hz31 := e31.size
        refine Wx.pure hq rfl rfl rfl rfl zmv ?_
        refine Wx.pure hq rfl rfl rfl rfl zmv ?_
        refine Wx.pure hq rfl rfl rfl rfl zbs ?_
        refine Wx.pure hq rfl rfl rfl rfl (rp_indexAddr i rfl rfl rfl rfl rfl (by assumption) (by omega) (by omega)) ?_
        refine Wx.val hq rfl rfl rfl rfl ([]) zra ?_
        refine Wx.pure hq rfl rfl rfl rfl zmv ?_
        refine Wx.pure hq rfl rfl rfl rfl zmv ?_
        refine Wx.pure hq rfl rfl rfl rfl zix ?_
        refine Wx.val hq rfl rfl rfl rfl ([]) zra ?_
        refine Wx.actNew rfl rfl rfl rfl (acts_call rfl rfl rfl (ref_Before l[i] l[i + 1] _)) ?_
        rintro v32 w32 e32 rfl
        have hz32 := e32.size
        rw [decide_eq_false hb]
        refine Wx.pure hq rfl rfl rfl rfl (rp_not rfl rfl) ?_
        refine Wx.fin ?_
        refine zct ?_
        refine ztx ?_
        refine Ox.pure rfl rfl zas ?_
        refine Ox.fin ?_
        refine zrt ?_
        exact endE_ret [_] ⟨rfl, trivial⟩ ⟨zxc, by rw [checkL, if_pos hall, if_neg (fun h => hb (h i (by omega)))]; rfl⟩
    · refine ztx ?_
      refine Ox.pure rfl rfl zmv ?_
      refine Ox.pure rfl rfl zmv ?_
      refine Ox.pure rfl rfl (rp_lenS rfl rfl rfl) ?_
      refine Ox.pure rfl rfl zbc ?_
      refine Ox.fin ?_
      refine zcf ?_
      refine zex ?_
      refine ztx ?_
      refine Ox.pure rfl rfl zas ?_
      refine Ox.fin ?_
      refine zrt ?_
      exact endE_ret [_] ⟨rfl, trivial⟩ ⟨zxc, by rw [checkL, if_pos hall, if_pos (show Risen l from fun j hj => hf j hj (by omega))]; rfl⟩

end Go.Proofs.Ytfgckcochilpkaa
