/- The engine, part thirteen: arguments of flat types and lists of them. -/
import Derived.Test.YtfnekbnlokigcaaEngC
import Derived.Test.YtfnekbnlokigcaaEngS
set_option linter.unusedVariables false
set_option linter.unusedSimpArgs false
namespace Go.Eng
open Go Go.ChangeShapes Go.WideShapes Go.ChangeAt Go.RowKit

section
variable {H : Type} {enc : TypeId × Value → H} {P : Program} {W : World}

def in64 (a : Int) : Prop := -9223372036854775808 ≤ a ∧ a ≤ 9223372036854775807

theorem mapM_opt {α β : Type} {f : α → Option β} : ∀ {l : List α} {r : List β}, l.mapM f = some r → l.length = r.length ∧ ∀ (i : Nat) (h : i < l.length), f l[i] = r[i]?
  | [], r, h => by simp at h; subst h; simp
  | a :: l, r, h => by
    rw [List.mapM_cons] at h
    cases ha : f a with
    | none => rw [ha] at h; cases h
    | some b =>
      rw [ha] at h
      cases hl : l.mapM f with
      | none => rw [hl] at h; cases h
      | some r' =>
        rw [hl] at h
        have h' : some (b :: r') = some r := h
        simp only [Option.some.injEq] at h'
        subst h'
        obtain ⟨h1, h2⟩ := mapM_opt hl
        refine ⟨by simp [h1], fun i hi => ?_⟩
        cases i with
        | zero => simpa using ha
        | succ i => simpa using h2 i (by simpa using hi)

theorem weightsAll_mem {e : TypeId} : ∀ {l : List (DataW H)} {d : DataW H}, d ∈ l → ∀ x ∈ DataW.weights P e d, x ∈ DataW.weightsAll P e l
  | c :: l, d, h, x, hx => by
    rw [DataW.weightsAll]
    rcases List.mem_cons.1 h with rfl | h
    · exact List.mem_append_left _ hx
    · exact List.mem_append_right _ (weightsAll_mem h x hx)

theorem trod_i64 {t : TypeId} (hU : P.underlying t = some (.int .i64)) {base fuel : Nat} {c : Value} {x : DataW H × List MemPlace} {sp : Nat → Bool} (h : DataW.trod enc P W base sp true fuel t [c] = some x) : ∃ n, c = .int .i64 n ∧ in64 n ∧ x.1 = .lit (.int .i64 n) := by
  cases fuel with
  | zero => simp [DataW.trod] at h
  | succ fuel =>
  unfold DataW.trod at h
  simp only [hU] at h
  cases c with
  | int k n =>
    simp only at h
    split at h
    · rename_i hk
      obtain ⟨rfl, hk⟩ := hk
      simp only [Option.some.injEq] at h
      subst h
      have := (Lit.wf_int_iff _ _).1 hk
      refine ⟨n, rfl, ?_, rfl⟩
      simpa [IntKind.min, IntKind.max, IntKind.signed, IntKind.bits, in64] using this
    · cases h
  | _ => simp at h

/-- A struct's fields, one by one. -/
theorem trod_fields {t : TypeId} {fs : Array Field} (hU : P.underlying t = some (.struct fs)) {base fuel : Nat} {cs : List Value} {x : DataW H × List MemPlace} {sp : Nat → Bool} (h : DataW.trod enc P W base sp true fuel t cs = some x) :
    cs.length = P.cellsOf t ∧ ∃ (fuel' : Nat) (xs : List (DataW H × List MemPlace)), x = (.agg (xs.map (·.1)), xs.flatMap (·.2)) ∧ xs.length = fs.toList.length ∧ ∀ i (hi : i < fs.toList.length), DataW.trod enc P W base sp true fuel' fs.toList[i].type ((cs.drop fs.toList[i].offset).take (P.cellsOf fs.toList[i].type)) = xs[i]? := by
  cases fuel with
  | zero => simp [DataW.trod] at h
  | succ fuel =>
  unfold DataW.trod at h
  simp only [hU] at h
  by_cases hl : cs.length = P.cellsOf t
  · rw [if_pos hl] at h
    obtain ⟨xs, hm, hx⟩ := Option.map_eq_some_iff.1 h
    obtain ⟨h1, h2⟩ := mapM_opt hm
    exact ⟨hl, fuel, xs, hx.symm, h1.symm, h2⟩
  · rw [if_neg hl] at h; cases h

theorem build_list {α : Type} {en : α → List Value} {m : Nat} (hlen : ∀ a, (en a).length = m) {Q : α → Prop} {a : Addr} : ∀ (len : Nat), (∀ i, i < len → ∃ x : α, Q x ∧ ∀ j, j < m → W.cell? ((a.add (i * m)).add j) = (en x)[j]?) → ∃ l : List α, l.length = len ∧ (∀ x ∈ l, Q x) ∧ Cells W a (rowsV en l)
  | 0, _ => ⟨[], rfl, by simp, cells_nil _ _⟩
  | len + 1, h => by
    obtain ⟨l, h1, h2, h3⟩ := build_list hlen (Q := Q) (a := a) len (fun i hi => h i (by omega))
    obtain ⟨x, hx, hc⟩ := h len (by omega)
    refine ⟨l ++ [x], by simp [h1], fun y hy => ?_, ?_⟩
    · rcases List.mem_append.1 hy with h4 | h4
      · exact h2 y h4
      · rw [List.mem_singleton.1 h4]; exact hx
    · rw [rowsV_append, rowsV_one]
      have hrl := rowsV_length hlen l
      rw [h1] at hrl
      intro i u hi
      by_cases hlt : i < (rowsV en l).length
      · rw [List.getElem?_append_left hlt] at hi; exact h3 i u hi
      · rw [List.getElem?_append_right (by omega)] at hi
        have hj : i - (rowsV en l).length < m := by
          rcases Nat.lt_or_ge (i - (rowsV en l).length) m with h5 | h5
          · exact h5
          · rw [List.getElem?_eq_none (by rw [hlen]; omega)] at hi; cases hi
        have := hc (i - (rowsV en l).length) hj
        rw [addr_add_add, hi] at this
        rw [← this]
        congr 2
        omega

theorem not_agg {r : Reach} {base : Nat} {t e : TypeId} {x : Value} (ht : P.underlying t = some (.slice e)) (h : Value.okWide P W r base t x) : ∀ a, x ≠ .agg a := by
  rintro a rfl
  simp [Value.okWide, ht, Cell.okWide, Cell.ok] at h
theorem cells_one {x y : Value} (h : x.cells.toList = [y]) (hx : ∀ a, x ≠ .agg a) : x = y := by
  cases x with
  | agg a => exact absurd rfl (hx a)
  | _ => simpa [Value.cells] using h

/-- A list that came in. -/
theorem arg_list {α : Type} {en : α → List Value} {m : Nat} {Q : α → Prop} {t e : TypeId} {x : Value} {d : DataW H} {ps : List MemPlace} (hU : P.underlying t = some (.slice e)) (hm : P.cellsOf e = m) (hlen : ∀ a, (en a).length = m) (hb : 0 < P.bytesOf e)
    (hrd : ∀ fuel cs y, DataW.trod enc P W 0 (fun _ => true) true fuel e cs = some y → ∃ a : α, Q a ∧ cs = en a) (hx : ∀ a, x ≠ .agg a) (h : DataW.Trod enc P W 0 (fun _ => true) true t x d ps) (hw : ∀ y ∈ DataW.weights P t d, y ≤ reachBytes) :
    ∃ (l : List α) (p : Option Addr) (A : Addr) (cap : Nat), x = .slice p l.length cap ∧ SlV en W p A l cap ∧ (∀ a ∈ l, Q a) := by
  obtain ⟨fuel, h⟩ := h
  rcases DataW.trod_slice hU h with ⟨he, _⟩ | ⟨a, len, cap, elems, rest, n, hfu, he, hx3, hbk, hlc, hcm, hel, hel3, _, _⟩
  · have hx := cells_one he hx
    exact ⟨[], none, ⟨0, 0, none⟩, 0, hx, SlV.nil _ _, by simp⟩
  · have hx := cells_one he hx
    subst hx
    simp only [Prod.mk.injEq] at hx3
    rw [hx3.1] at hw
    simp only [DataW.weights, hU] at hw
    have hlb : len ≤ 140737488355328 := by
      have h1 := hw _ (.head _)
      simp only [List.length_map] at h1
      unfold reachBytes at h1
      have h2 : len ≤ (elems.length + rest.length) * P.bytesOf e := Nat.le_trans (by omega) (Nat.le_mul_of_pos_right _ hb)
      omega
    obtain ⟨l, hl, hq, hC⟩ := build_list hlen (W := W) (a := a) (Q := Q) len (fun i hi => by
      have h5 := hel3 i hi
      have hi' : i < elems.length := by omega
      rw [List.getElem?_eq_getElem hi'] at h5
      obtain ⟨cs', h6, h7⟩ := Option.bind_eq_some_iff.1 h5
      obtain ⟨_, h8, h9⟩ := World.cells?_some h6
      obtain ⟨v, hv, rfl⟩ := hrd n cs' _ h7
      rw [hm] at h9
      exact ⟨v, hv, fun j hj => h9 j hj⟩)
    exact ⟨l, some a, a, cap, by rw [hl], ⟨fun _ => rfl, hC, by omega, by unfold maxLen at hcm; omega, by omega⟩, hq⟩

end
end Go.Eng
