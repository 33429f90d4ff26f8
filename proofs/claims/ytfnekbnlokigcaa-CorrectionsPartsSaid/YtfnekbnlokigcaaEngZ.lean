/- The engine, part fourteen: lists inside arguments. -/
import Derived.Test.YtfnekbnlokigcaaEngX
set_option linter.unusedVariables false
set_option linter.unusedSimpArgs false
namespace Go.Eng
open Go Go.ChangeShapes Go.WideShapes Go.ChangeAt Go.RowKit

section
variable {H : Type} {enc : TypeId × Value → H} {P : Program} {W : World}

/-- A list that came in as a part of something. -/
theorem list_cells {α : Type} {en : α → List Value} {m : Nat} {Q : α → Prop} {t e : TypeId} {cs : List Value} {z : DataW H × List MemPlace} {fuel : Nat} (hU : P.underlying t = some (.slice e)) (hm : P.cellsOf e = m) (hlen : ∀ a, (en a).length = m) (hb : 0 < P.bytesOf e)
    (hrd : ∀ fuel cs y, DataW.trod enc P W 0 (fun _ => true) true fuel e cs = some y → (∀ w ∈ DataW.weights P e y.1, w ≤ reachBytes) → ∃ a : α, Q a ∧ cs = en a) (h : DataW.trod enc P W 0 (fun _ => true) true fuel t cs = some z) (hw : ∀ y ∈ DataW.weights P t z.1, y ≤ reachBytes) :
    ∃ (l : List α) (p : Option Addr) (A : Addr) (cap : Nat), cs = [.slice p l.length cap] ∧ SlV en W p A l cap ∧ (∀ a ∈ l, Q a) := by
  rcases DataW.trod_slice hU h with ⟨he, _⟩ | ⟨a, len, cap, elems, rest, n, hfu, he, hx3, hbk, hlc, hcm, hel, hel3, _, _⟩
  · exact ⟨[], none, ⟨0, 0, none⟩, 0, he, SlV.nil _ _, by simp⟩
  · subst he
    rw [hx3] at hw
    simp only [DataW.weights, hU] at hw
    have hlb : len ≤ 140737488355328 := by
      have h1 := hw _ (.head _)
      simp only [List.length_map] at h1
      unfold reachBytes at h1
      have h2 : len ≤ (elems.length + rest.length) * P.bytesOf e := Nat.le_trans (by omega) (Nat.le_mul_of_pos_right _ hb)
      omega
    obtain ⟨l, hl, hq, hC⟩ := build_list hlen (W := W) (a := a) (Q := Q) len (fun i hi => by
      have h5 := hel3 i hi
      have hi' : i < elems.length := by omega
      rw [List.getElem?_eq_getElem hi'] at h5
      obtain ⟨cs', h6, h7⟩ := Option.bind_eq_some_iff.1 h5
      obtain ⟨_, h8, h9⟩ := World.cells?_some h6
      obtain ⟨v, hv, rfl⟩ := hrd n cs' _ h7 (fun w hw' => hw w (List.mem_cons_of_mem _ (List.mem_append_left _ (weightsAll_mem (List.mem_map.2 ⟨_, List.getElem_mem hi', rfl⟩) w hw'))))
      rw [hm] at h9
      exact ⟨v, hv, fun j hj => h9 j hj⟩)
    exact ⟨l, some a, a, cap, by rw [hl], ⟨fun _ => rfl, hC, by omega, by unfold maxLen at hcm; omega, by omega⟩, hq⟩
theorem slice_one {t e : TypeId} {c : Value} {z : DataW H × List MemPlace} {fuel base : Nat} {sp : Nat → Bool} (hU : P.underlying t = some (.slice e)) (h : DataW.trod enc P W base sp true fuel t [c] = some z) : c.oneCell' = true := by
  rcases DataW.trod_slice hU h with ⟨he, _⟩ | ⟨a, len, cap, elems, rest, n, hfu, he, _⟩
  · injection he with he _; rw [he]; rfl
  · injection he with he _; rw [he]; rfl
end
end Go.Eng
