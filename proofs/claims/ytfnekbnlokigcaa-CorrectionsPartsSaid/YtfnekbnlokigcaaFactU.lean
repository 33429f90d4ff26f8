/- Arguments: keys, facts, lists of them. -/
import Derived.Test.YtfnekbnlokigcaaRows
import Derived.Test.YtfnekbnlokigcaaEngX
import Derived.Test.YtfnekbnlokigcaaFactT
set_option linter.unusedVariables false
set_option maxRecDepth 100000
set_option linter.unusedSimpArgs false
namespace Go.Proofs.Ytfnekbnlokigcaa
open Go Go.Eng

theorem undI : Try.prog.underlying 3 = some (.int .i64) := rfl
theorem undKey : ∃ a b c, Try.prog.underlying 52 = some (.struct #[a, b, c]) ∧ (a.type = 3 ∧ a.offset = 0) ∧ (b.type = 3 ∧ b.offset = 1) ∧ (c.type = 3 ∧ c.offset = 2) := ⟨_, _, _, rfl, ⟨rfl, rfl⟩, ⟨rfl, rfl⟩, rfl, rfl⟩
theorem undSpan : ∃ a b, Try.prog.underlying 55 = some (.struct #[a, b]) ∧ (a.type = 3 ∧ a.offset = 0) ∧ (b.type = 3 ∧ b.offset = 1) := ⟨_, _, rfl, ⟨rfl, rfl⟩, rfl, rfl⟩
theorem undFact : ∃ a b c d e, Try.prog.underlying 61 = some (.struct #[a, b, c, d, e]) ∧ (a.type = 52 ∧ a.offset = 0) ∧ (b.type = 3 ∧ b.offset = 3) ∧ (c.type = 55 ∧ c.offset = 4) ∧ (d.type = 3 ∧ d.offset = 6) ∧ (e.type = 3 ∧ e.offset = 7) :=
  ⟨_, _, _, _, _, rfl, ⟨rfl, rfl⟩, ⟨rfl, rfl⟩, ⟨rfl, rfl⟩, ⟨rfl, rfl⟩, rfl, rfl⟩
theorem celI : Try.prog.cellsOf 3 = 1 := rfl
theorem celKey : Try.prog.cellsOf 52 = 3 := rfl
theorem celSpan : Try.prog.cellsOf 55 = 2 := rfl
theorem celFact : Try.prog.cellsOf 61 = 8 := rfl

def OkKy (k : Ky) : Prop := in64 k.k ∧ in64 k.s ∧ in64 k.o
def OkFct (f : Fct) : Prop := OkKy f.key ∧ in64 f.val ∧ in64 f.lo ∧ in64 f.hi ∧ in64 f.known ∧ in64 f.no

section
variable {H : Type} {enc : TypeId × Value → H} {W : World} {sp : Nat → Bool} {base fuel : Nat} {cs : List Value} {x : DataW H × List MemPlace}

theorem trod_key (h : DataW.trod enc Try.prog W base sp true fuel 52 cs = some x) : ∃ k : Ky, OkKy k ∧ cs = kc k := by
  obtain ⟨a, b, c, hU, ⟨a1, a2⟩, ⟨b1, b2⟩, c1, c2⟩ := undKey
  obtain ⟨hl, fuel', xs, _, hxl, hel⟩ := trod_fields hU h
  rw [celKey] at hl
  obtain ⟨u0, u1, u2, rfl⟩ : ∃ a b c, cs = [a, b, c] := by
    match cs, hl with
    | [a, b, c], _ => exact ⟨a, b, c, rfl⟩
  obtain ⟨x0, x1, x2, rfl⟩ : ∃ a b c, xs = [a, b, c] := by
    match xs, hxl with
    | [a, b, c], _ => exact ⟨a, b, c, rfl⟩
  have e0 := hel 0 (by simp)
  have e1 := hel 1 (by simp)
  have e2 := hel 2 (by simp)
  simp only [List.getElem_cons_zero, List.getElem_cons_succ, List.getElem?_cons_zero, List.getElem?_cons_succ, a1, a2, b1, b2, c1, c2, celI, List.drop_zero, List.drop_succ_cons, List.take_succ_cons, List.take_zero] at e0 e1 e2
  obtain ⟨k0, rfl, h0, _⟩ := trod_i64 undI e0
  obtain ⟨k1, rfl, h1, _⟩ := trod_i64 undI e1
  obtain ⟨k2, rfl, h2, _⟩ := trod_i64 undI e2
  exact ⟨⟨k0, k1, k2⟩, ⟨h0, h1, h2⟩, rfl⟩
theorem trod_span (h : DataW.trod enc Try.prog W base sp true fuel 55 cs = some x) : ∃ a b : Int, (in64 a ∧ in64 b) ∧ cs = [.int .i64 a, .int .i64 b] := by
  obtain ⟨a, b, hU, ⟨a1, a2⟩, b1, b2⟩ := undSpan
  obtain ⟨hl, fuel', xs, _, hxl, hel⟩ := trod_fields hU h
  rw [celSpan] at hl
  obtain ⟨u0, u1, rfl⟩ : ∃ a b, cs = [a, b] := by
    match cs, hl with
    | [a, b], _ => exact ⟨a, b, rfl⟩
  obtain ⟨x0, x1, rfl⟩ : ∃ a b, xs = [a, b] := by
    match xs, hxl with
    | [a, b], _ => exact ⟨a, b, rfl⟩
  have e0 := hel 0 (by simp)
  have e1 := hel 1 (by simp)
  simp only [List.getElem_cons_zero, List.getElem_cons_succ, List.getElem?_cons_zero, List.getElem?_cons_succ, a1, a2, b1, b2, celI, List.drop_zero, List.drop_succ_cons, List.take_succ_cons, List.take_zero] at e0 e1
  obtain ⟨k0, rfl, h0, _⟩ := trod_i64 undI e0
  obtain ⟨k1, rfl, h1, _⟩ := trod_i64 undI e1
  exact ⟨k0, k1, ⟨h0, h1⟩, rfl⟩
theorem trod_fact (h : DataW.trod enc Try.prog W base sp true fuel 61 cs = some x) : ∃ f : Fct, OkFct f ∧ cs = fc f := by
  obtain ⟨a, b, c, d, e, hU, ⟨a1, a2⟩, ⟨b1, b2⟩, ⟨c1, c2⟩, ⟨d1, d2⟩, e1, e2⟩ := undFact
  obtain ⟨hl, fuel', xs, _, hxl, hel⟩ := trod_fields hU h
  rw [celFact] at hl
  obtain ⟨u0, u1, u2, u3, u4, u5, u6, u7, rfl⟩ : ∃ a b c d e f g h, cs = [a, b, c, d, e, f, g, h] := by
    match cs, hl with
    | [a, b, c, d, e, f, g, h], _ => exact ⟨a, b, c, d, e, f, g, h, rfl⟩
  obtain ⟨x0, x1, x2, x3, x4, rfl⟩ : ∃ a b c d e, xs = [a, b, c, d, e] := by
    match xs, hxl with
    | [a, b, c, d, e], _ => exact ⟨a, b, c, d, e, rfl⟩
  have q0 := hel 0 (by simp)
  have q1 := hel 1 (by simp)
  have q2 := hel 2 (by simp)
  have q3 := hel 3 (by simp)
  have q4 := hel 4 (by simp)
  simp only [List.getElem_cons_zero, List.getElem_cons_succ, List.getElem?_cons_zero, List.getElem?_cons_succ, a1, a2, b1, b2, c1, c2, d1, d2, e1, e2, celI, celKey, celSpan, List.drop_zero, List.drop_succ_cons, List.take_succ_cons, List.take_zero] at q0 q1 q2 q3 q4
  obtain ⟨k, hk, hk2⟩ := trod_key q0
  obtain ⟨v1, rfl, h1, _⟩ := trod_i64 undI q1
  obtain ⟨lo, hi, ⟨hlo, hhi⟩, hs⟩ := trod_span q2
  obtain ⟨v3, rfl, h3, _⟩ := trod_i64 undI q3
  obtain ⟨v4, rfl, h4, _⟩ := trod_i64 undI q4
  simp only [kc, List.cons.injEq, and_true] at hk2 hs
  obtain ⟨rfl, rfl, rfl⟩ := hk2
  obtain ⟨rfl, rfl⟩ := hs
  exact ⟨⟨k, v1, lo, hi, v3, v4⟩, ⟨hk, h1, hlo, hhi, h3, h4⟩, rfl⟩

theorem agg_of {v : Value} {l : List Value} (h : v.cells.toList = l) (h2 : 2 ≤ l.length) : v = .agg l.toArray := by
  subst h
  cases v with
  | agg a => simp [Value.cells]
  | _ => simp [Value.cells] at h2

theorem arg_facts {v : Value} {d : DataW H} {ps : List MemPlace} (hx : ∀ a, v ≠ .agg a) (h : DataW.Trod enc Try.prog W 0 (fun _ => true) true 36 v d ps) (hw : ∀ y ∈ DataW.weights Try.prog 36 d, y ≤ reachBytes) :
    ∃ (l : List Fct) (p : Option Addr) (A : Addr) (cap : Nat), v = .slice p l.length cap ∧ SlV fc W p A l cap ∧ (∀ f ∈ l, OkFct f) :=
  arg_list (Q := OkFct) rfl celFact fc_len (by decide) (fun fuel cs y h => trod_fact h) hx h hw
theorem arg_fact {v : Value} {d : DataW H} {ps : List MemPlace} (h : DataW.Trod enc Try.prog W 0 (fun _ => true) true 61 v d ps) : ∃ f : Fct, OkFct f ∧ v = .agg (fc f).toArray := by
  obtain ⟨fuel, h⟩ := h
  obtain ⟨f, hf, hc⟩ := trod_fact h
  exact ⟨f, hf, agg_of hc (by simp)⟩
theorem arg_key {v : Value} {d : DataW H} {ps : List MemPlace} (h : DataW.Trod enc Try.prog W 0 (fun _ => true) true 52 v d ps) : ∃ k : Ky, OkKy k ∧ v = .agg (kc k).toArray := by
  obtain ⟨fuel, h⟩ := h
  obtain ⟨f, hf, hc⟩ := trod_key h
  exact ⟨f, hf, agg_of hc (by simp)⟩
end

end Go.Proofs.Ytfnekbnlokigcaa
