/- Corrections: arguments that came in. -/
import Derived.Test.YtfnekbnlokigcaaRows
import Derived.Test.YtfnekbnlokigcaaEngZ
import Derived.Test.YtfnekbnlokigcaaCorrA
import Derived.Test.YtfnekbnlokigcaaFactU
set_option linter.unusedVariables false
set_option maxRecDepth 100000
set_option maxHeartbeats 4000000
set_option linter.unusedSimpArgs false
namespace Go.Proofs.Ytfnekbnlokigcaa
open Go Go.Eng

theorem undCr : ∃ a b c, Try.prog.underlying 57 = some (.struct #[a, b, c]) ∧ (a.type = 52 ∧ a.offset = 0) ∧ (b.type = 3 ∧ b.offset = 3) ∧ (c.type = 55 ∧ c.offset = 4) := ⟨_, _, _, rfl, ⟨rfl, rfl⟩, ⟨rfl, rfl⟩, ⟨rfl, rfl⟩⟩
theorem undSrc : ∃ a b c d e f g k, Try.prog.underlying 31 = some (.struct #[a, b, c, d, e, f, g, k]) ∧ (a.type = 22 ∧ a.offset = 0) ∧ (b.type = 23 ∧ b.offset = 1) ∧ (c.type = 24 ∧ c.offset = 2) ∧ (d.type = 25 ∧ d.offset = 3) ∧ (e.type = 26 ∧ e.offset = 4) ∧ (f.type = 27 ∧ f.offset = 5) ∧ (g.type = 28 ∧ g.offset = 6) ∧ (k.type = 29 ∧ k.offset = 7) := ⟨_, _, _, _, _, _, _, _, rfl, ⟨rfl, rfl⟩, ⟨rfl, rfl⟩, ⟨rfl, rfl⟩, ⟨rfl, rfl⟩, ⟨rfl, rfl⟩, ⟨rfl, rfl⟩, ⟨rfl, rfl⟩, ⟨rfl, rfl⟩⟩
theorem undTab : ∃ a b c, Try.prog.underlying 35 = some (.struct #[a, b, c]) ∧ (a.type = 31 ∧ a.offset = 0) ∧ (b.type = 32 ∧ b.offset = 8) ∧ (c.type = 33 ∧ c.offset = 9) := ⟨_, _, _, rfl, ⟨rfl, rfl⟩, ⟨rfl, rfl⟩, ⟨rfl, rfl⟩⟩
theorem undWorld : ∃ a b, Try.prog.underlying 38 = some (.struct #[a, b]) ∧ (a.type = 35 ∧ a.offset = 0) ∧ (b.type = 36 ∧ b.offset = 10) := ⟨_, _, rfl, ⟨rfl, rfl⟩, ⟨rfl, rfl⟩⟩
theorem celCr : Try.prog.cellsOf 57 = 6 := rfl
theorem celSrc : Try.prog.cellsOf 31 = 8 := rfl
theorem celTab : Try.prog.cellsOf 35 = 10 := rfl
theorem celWorld : Try.prog.cellsOf 38 = 11 := rfl
theorem celFs : Try.prog.cellsOf 36 = 1 := rfl
theorem celIs : Try.prog.cellsOf 32 = 1 := rfl
theorem celIn : Try.prog.cellsOf 33 = 1 := rfl
theorem celS0 : Try.prog.cellsOf 22 = 1 := rfl
theorem celS1 : Try.prog.cellsOf 23 = 1 := rfl
theorem celS2 : Try.prog.cellsOf 24 = 1 := rfl
theorem celS3 : Try.prog.cellsOf 25 = 1 := rfl
theorem celS4 : Try.prog.cellsOf 26 = 1 := rfl
theorem celS5 : Try.prog.cellsOf 27 = 1 := rfl
theorem celS6 : Try.prog.cellsOf 28 = 1 := rfl
theorem celS7 : Try.prog.cellsOf 29 = 1 := rfl
def OkCr (c : Cr) : Prop := OkKy c.key ∧ in64 c.val ∧ in64 c.lo ∧ in64 c.hi
section
variable {H : Type} {enc : TypeId × Value → H} {W : World} {sp : Nat → Bool} {base fuel : Nat} {cs : List Value} {x : DataW H × List MemPlace}
theorem trod_corr (h : DataW.trod enc Try.prog W base sp true fuel 57 cs = some x) : ∃ r : Cr, OkCr r ∧ cs = cc r := by
  obtain ⟨a, b, c, hU, ⟨a1, a2⟩, ⟨b1, b2⟩, ⟨c1, c2⟩⟩ := undCr
  obtain ⟨hl, fuel', xs, hxe, hxl, hel⟩ := trod_fields hU h
  rw [celCr] at hl
  obtain ⟨u0, u1, u2, u3, u4, u5, rfl⟩ : ∃ a b c d e f, cs = [a, b, c, d, e, f] := by
    match cs, hl with
    | [a, b, c, d, e, f], _ => exact ⟨a, b, c, d, e, f, rfl⟩
  obtain ⟨x0, x1, x2, rfl⟩ : ∃ a b c, xs = [a, b, c] := by
    match xs, hxl with
    | [a, b, c], _ => exact ⟨a, b, c, rfl⟩
  have q0 := hel 0 (by simp)
  have q1 := hel 1 (by simp)
  have q2 := hel 2 (by simp)
  simp only [List.getElem_cons_zero, List.getElem_cons_succ, List.getElem?_cons_zero, List.getElem?_cons_succ, List.drop_zero, List.drop_succ_cons, List.take_succ_cons, List.take_zero, a1, a2, b1, b2, c1, c2, celI, celKey, celSpan] at q0 q1 q2
  obtain ⟨k, hk, hk2⟩ := trod_key q0
  obtain ⟨v1, rfl, h1, _⟩ := trod_i64 undI q1
  obtain ⟨lo, hi, ⟨hlo, hhi⟩, hs⟩ := trod_span q2
  simp only [kc, List.cons.injEq, and_true] at hk2 hs
  obtain ⟨rfl, rfl, rfl⟩ := hk2
  obtain ⟨rfl, rfl⟩ := hs
  exact ⟨⟨k, v1, lo, hi⟩, ⟨hk, h1, hlo, hhi⟩, rfl⟩
theorem arg_corrs {v : Value} {d : DataW H} {ps : List MemPlace} (hx : ∀ a, v ≠ .agg a) (h : DataW.Trod enc Try.prog W 0 (fun _ => true) true 39 v d ps) (hw : ∀ y ∈ DataW.weights Try.prog 39 d, y ≤ reachBytes) :
    ∃ (l : List Cr) (p : Option Addr) (A : Addr) (cap : Nat), v = .slice p l.length cap ∧ SlV cc W p A l cap ∧ (∀ f ∈ l, OkCr f) :=
  arg_list (Q := OkCr) rfl celCr cc_len (by decide) (fun fuel cs y h => trod_corr h) hx h hw
theorem trod_src (h : DataW.trod enc Try.prog W base sp true fuel 31 cs = some x) : ∃ s0 s1 s2 s3 s4 s5 s6 s7 : Value, cs = [s0, s1, s2, s3, s4, s5, s6, s7] ∧ ∀ u ∈ cs, u.oneCell' = true := by
  obtain ⟨a, b, c, d, e, f, g, k, hU, ⟨a1, a2⟩, ⟨b1, b2⟩, ⟨c1, c2⟩, ⟨d1, d2⟩, ⟨e1, e2⟩, ⟨f1, f2⟩, ⟨g1, g2⟩, ⟨k1, k2⟩⟩ := undSrc
  obtain ⟨hl, fuel', xs, hxe, hxl, hel⟩ := trod_fields hU h
  rw [celSrc] at hl
  obtain ⟨u0, u1, u2, u3, u4, u5, u6, u7, rfl⟩ : ∃ a b c d e f g h, cs = [a, b, c, d, e, f, g, h] := by
    match cs, hl with
    | [a, b, c, d, e, f, g, h], _ => exact ⟨a, b, c, d, e, f, g, h, rfl⟩
  obtain ⟨x0, x1, x2, x3, x4, x5, x6, x7, rfl⟩ : ∃ a b c d e f g h, xs = [a, b, c, d, e, f, g, h] := by
    match xs, hxl with
    | [a, b, c, d, e, f, g, h], _ => exact ⟨a, b, c, d, e, f, g, h, rfl⟩
  have q0 := hel 0 (by simp)
  have q1 := hel 1 (by simp)
  have q2 := hel 2 (by simp)
  have q3 := hel 3 (by simp)
  have q4 := hel 4 (by simp)
  have q5 := hel 5 (by simp)
  have q6 := hel 6 (by simp)
  have q7 := hel 7 (by simp)
  simp only [List.getElem_cons_zero, List.getElem_cons_succ, List.getElem?_cons_zero, List.getElem?_cons_succ, List.drop_zero, List.drop_succ_cons, List.take_succ_cons, List.take_zero, a1, a2, b1, b2, c1, c2, d1, d2, e1, e2, f1, f2, g1, g2, k1, k2, celS0, celS1, celS2, celS3, celS4, celS5, celS6, celS7] at q0 q1 q2 q3 q4 q5 q6 q7
  refine ⟨_, _, _, _, _, _, _, _, rfl, fun u hu => ?_⟩
  simp only [List.mem_cons, List.not_mem_nil, or_false] at hu
  rcases hu with rfl | rfl | rfl | rfl | rfl | rfl | rfl | rfl
  · exact slice_one rfl q0
  · exact slice_one rfl q1
  · exact slice_one rfl q2
  · exact slice_one rfl q3
  · exact slice_one rfl q4
  · exact slice_one rfl q5
  · exact slice_one rfl q6
  · exact slice_one rfl q7
theorem trod_tab (h : DataW.trod enc Try.prog W base sp true fuel 35 cs = some x) : ∃ t : Tb, t.ok ∧ cs = [t.a0, t.a1, t.a2, t.a3, t.a4, t.a5, t.a6, t.a7, t.a8, t.a9] := by
  obtain ⟨a, b, c, hU, ⟨a1, a2⟩, ⟨b1, b2⟩, ⟨c1, c2⟩⟩ := undTab
  obtain ⟨hl, fuel', xs, hxe, hxl, hel⟩ := trod_fields hU h
  rw [celTab] at hl
  obtain ⟨u0, u1, u2, u3, u4, u5, u6, u7, u8, u9, rfl⟩ : ∃ a b c d e f g h i j, cs = [a, b, c, d, e, f, g, h, i, j] := by
    match cs, hl with
    | [a, b, c, d, e, f, g, h, i, j], _ => exact ⟨a, b, c, d, e, f, g, h, i, j, rfl⟩
  obtain ⟨x0, x1, x2, rfl⟩ : ∃ a b c, xs = [a, b, c] := by
    match xs, hxl with
    | [a, b, c], _ => exact ⟨a, b, c, rfl⟩
  have q0 := hel 0 (by simp)
  have q1 := hel 1 (by simp)
  have q2 := hel 2 (by simp)
  simp only [List.getElem_cons_zero, List.getElem_cons_succ, List.getElem?_cons_zero, List.getElem?_cons_succ, List.drop_zero, List.drop_succ_cons, List.take_succ_cons, List.take_zero, a1, a2, b1, b2, c1, c2, celSrc, celIs, celIn] at q0 q1 q2
  obtain ⟨s0, s1, s2, s3, s4, s5, s6, s7, he, hs⟩ := trod_src q0
  have h8 := slice_one rfl q1
  have h9 := slice_one rfl q2
  refine ⟨⟨u0, u1, u2, u3, u4, u5, u6, u7, u8, u9⟩, fun u hu => ?_, rfl⟩
  have hu' : u ∈ [u0, u1, u2, u3, u4, u5, u6, u7] ++ [u8, u9] := hu
  rcases List.mem_append.1 hu' with h1 | h1
  · exact hs u h1
  · simp only [List.mem_cons, List.not_mem_nil, or_false] at h1
    rcases h1 with rfl | rfl
    · exact h8
    · exact h9
theorem arg_world {v : Value} {d : DataW H} {ps : List MemPlace} (h : DataW.Trod enc Try.prog W 0 (fun _ => true) true 38 v d ps) (hw : ∀ y ∈ DataW.weights Try.prog 38 d, y ≤ reachBytes) :
    ∃ (t : Tb) (l : List Fct) (p : Option Addr) (A : Addr) (cap : Nat), t.ok ∧ v = .agg (wvc t (.slice p l.length cap)).toArray ∧ SlV fc W p A l cap := by
  obtain ⟨fuel, h⟩ := h
  generalize hcs : v.cells.toList = cs at h
  obtain ⟨a, b, hU, ⟨a1, a2⟩, ⟨b1, b2⟩⟩ := undWorld
  obtain ⟨hl, fuel', xs, hxe, hxl, hel⟩ := trod_fields hU h
  rw [celWorld] at hl
  obtain ⟨u0, u1, u2, u3, u4, u5, u6, u7, u8, u9, u10, rfl⟩ : ∃ a b c d e f g h i j k, cs = [a, b, c, d, e, f, g, h, i, j, k] := by
    match cs, hl with
    | [a, b, c, d, e, f, g, h, i, j, k], _ => exact ⟨a, b, c, d, e, f, g, h, i, j, k, rfl⟩
  obtain ⟨x0, x1, rfl⟩ : ∃ a b, xs = [a, b] := by
    match xs, hxl with
    | [a, b], _ => exact ⟨a, b, rfl⟩
  have q0 := hel 0 (by simp)
  have q1 := hel 1 (by simp)
  simp only [List.getElem_cons_zero, List.getElem_cons_succ, List.getElem?_cons_zero, List.getElem?_cons_succ, List.drop_zero, List.drop_succ_cons, List.take_succ_cons, List.take_zero, a1, a2, b1, b2, celTab, celFs] at q0 q1
  obtain ⟨t, ht, he⟩ := trod_tab q0
  have hw1 : ∀ y ∈ DataW.weights Try.prog 36 x1.1, y ≤ reachBytes := fun y hy => hw y (by
    have hd : d = .agg [x0.1, x1.1] := congrArg Prod.fst hxe
    subst hd
    simp only [DataW.weights, hU, List.map_cons, List.map_nil, a1, b1, DataW.weightsEach]
    exact List.mem_append_right _ (List.mem_append_left _ hy))
  obtain ⟨l, p, A, cap, hl2, hsl, _⟩ := list_cells (Q := OkFct) rfl celFact fc_len (by decide) (fun fuel cs y h _ => trod_fact h) q1 hw1
  simp only [List.cons.injEq, and_true] at he hl2
  obtain ⟨rfl, rfl, rfl, rfl, rfl, rfl, rfl, rfl, rfl, rfl⟩ := he
  subst hl2
  exact ⟨t, l, p, A, cap, ht, agg_of hcs (by simp), hsl⟩
end

end Go.Proofs.Ytfnekbnlokigcaa
