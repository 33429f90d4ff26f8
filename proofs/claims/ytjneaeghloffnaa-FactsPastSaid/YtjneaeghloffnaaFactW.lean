/- Arguments: reads. -/
import Derived.Test.YtjneaeghloffnaaRows
import Derived.Test.YtjneaeghloffnaaFactU
set_option linter.unusedVariables false
set_option maxRecDepth 100000
set_option linter.unusedSimpArgs false
namespace Go.Proofs.Ytjneaeghloffnaa
open Go Go.Eng

theorem undRead : ∃ a b c, Try.prog.underlying 54 = some (.struct #[a, b, c]) ∧ (a.type = 24 ∧ a.offset = 0) ∧ (b.type = 3 ∧ b.offset = 3) ∧ (c.type = 3 ∧ c.offset = 4) := ⟨_, _, _, rfl, ⟨rfl, rfl⟩, ⟨rfl, rfl⟩, rfl, rfl⟩
theorem celRead : Try.prog.cellsOf 54 = 5 := rfl
def OkRd (r : Rd) : Prop := OkKy r.key ∧ in64 r.lo ∧ in64 r.hi

section
variable {H : Type} {enc : TypeId × Value → H} {W : World} {sp : Nat → Bool} {base fuel : Nat} {cs : List Value} {x : DataW H × List MemPlace}
theorem trod_read (h : DataW.trod enc Try.prog W base sp true fuel 54 cs = some x) : ∃ r : Rd, OkRd r ∧ cs = rc r := by
  obtain ⟨a, b, c, hU, ⟨a1, a2⟩, ⟨b1, b2⟩, c1, c2⟩ := undRead
  obtain ⟨hl, fuel', xs, _, hxl, hel⟩ := trod_fields hU h
  rw [celRead] at hl
  obtain ⟨u0, u1, u2, u3, u4, rfl⟩ : ∃ a b c d e, cs = [a, b, c, d, e] := by
    match cs, hl with
    | [a, b, c, d, e], _ => exact ⟨a, b, c, d, e, rfl⟩
  obtain ⟨x0, x1, x2, rfl⟩ : ∃ a b c, xs = [a, b, c] := by
    match xs, hxl with
    | [a, b, c], _ => exact ⟨a, b, c, rfl⟩
  have e0 := hel 0 (by simp)
  have e1 := hel 1 (by simp)
  have e2 := hel 2 (by simp)
  simp only [List.getElem_cons_zero, List.getElem_cons_succ, List.getElem?_cons_zero, List.getElem?_cons_succ, a1, a2, b1, b2, c1, c2, celI, celKey, List.drop_zero, List.drop_succ_cons, List.take_succ_cons, List.take_zero] at e0 e1 e2
  obtain ⟨k, hk, hk2⟩ := trod_key e0
  obtain ⟨k1, rfl, h1, _⟩ := trod_i64 undI e1
  obtain ⟨k2, rfl, h2, _⟩ := trod_i64 undI e2
  simp only [kc, List.cons.injEq, and_true] at hk2
  obtain ⟨rfl, rfl, rfl⟩ := hk2
  exact ⟨⟨k, k1, k2⟩, ⟨hk, h1, h2⟩, rfl⟩
theorem arg_reads {v : Value} {d : DataW H} {ps : List MemPlace} (hx : ∀ a, v ≠ .agg a) (h : DataW.Trod enc Try.prog W 0 (fun _ => true) true 44 v d ps) (hw : ∀ y ∈ DataW.weights Try.prog 44 d, y ≤ reachBytes) :
    ∃ (l : List Rd) (p : Option Addr) (A : Addr) (cap : Nat), v = .slice p l.length cap ∧ SlV rc W p A l cap ∧ (∀ f ∈ l, OkRd f) :=
  arg_list (Q := OkRd) rfl celRead rc_len (by decide) (fun fuel cs y h => trod_read h) hx h hw
theorem arg_read {v : Value} {d : DataW H} {ps : List MemPlace} (h : DataW.Trod enc Try.prog W 0 (fun _ => true) true 54 v d ps) : ∃ f : Rd, OkRd f ∧ v = .agg (rc f).toArray := by
  obtain ⟨fuel, h⟩ := h
  obtain ⟨f, hf, hc⟩ := trod_read h
  exact ⟨f, hf, agg_of hc (by simp)⟩
end

theorem changedL_days {l : List Fct} {bef aft : Int} {x : Dv} (h : x ∈ changedL l bef aft) : x.2.length ≤ 1024 := by
  unfold changedL at h
  obtain ⟨k, _, h2⟩ := List.mem_flatMap.1 h
  unfold entryL at h2
  split at h2
  · simp only [List.mem_singleton] at h2
    subst h2
    exact daysTo_le l k bef aft 1024
  · cases h2
theorem days_of {ds : List Df} {l : List Fct} {bef aft : Int} (h : ds.map Df.val = changedL l bef aft) : ∀ d ∈ ds, d.days.length ≤ 1024 := fun d hd => by
  have : d.val ∈ changedL l bef aft := by rw [← h]; exact List.mem_map.2 ⟨d, hd, rfl⟩
  exact changedL_days this

end Go.Proofs.Ytjneaeghloffnaa
