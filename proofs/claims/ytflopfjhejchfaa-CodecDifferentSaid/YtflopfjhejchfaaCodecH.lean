/- Arguments: values, bytes. -/
import Derived.Test.YtflopfjhejchfaaRows
import Derived.Test.YtflopfjhejchfaaCodecT
import Derived.Test.YtflopfjhejchfaaCodecG
import Derived.Test.YtflopfjhejchfaaEngC
set_option linter.unusedVariables false
set_option linter.unusedSimpArgs false
namespace Go.Proofs.Ytflopfjhejchfaa
open Go Go.Eng

theorem arg_rep {H : Type} {enc : TypeId × Value → H} {W : World} {x : Value} {d : DataW H} {ps : List MemPlace} (h : DataW.Trod enc Try.prog W 0 (fun _ => true) true 24 x d ps) (hw : ∀ x ∈ DataW.weights Try.prog 24 d, x ≤ reachBytes) :
    ∃ v cs, x = .agg cs.toArray ∧ rep (fun _ => True) W v cs := by
  obtain ⟨fuel, h⟩ := h
  obtain ⟨v, hv⟩ := trod_rep fuel _ d ps h hw
  have := rep_length hv
  cases x with
  | agg a => exact ⟨v, a.toList, by simp, hv⟩
  | _ => simp [Value.cells] at this

theorem undB : Try.prog.underlying 27 = some (.slice 5) := rfl
theorem undU : Try.prog.underlying 5 = some (.int .u8) := rfl
theorem celU : Try.prog.cellsOf 5 = 1 := rfl
theorem bytU : Try.prog.bytesOf 5 = 1 := rfl

theorem trod_u8 {H : Type} {enc : TypeId × Value → H} {W : World} {fuel : Nat} {c : Value} {x : DataW H × List MemPlace} {sp : Nat → Bool} (h : DataW.trod enc Try.prog W 0 sp true fuel 5 [c] = some x) : ∃ u : UInt8, c = .int .u8 (u.toNat : Int) := by
  cases fuel with
  | zero => simp [DataW.trod] at h
  | succ fuel =>
  unfold DataW.trod at h
  simp only [undU] at h
  cases c with
  | int k n =>
    simp only at h
    split at h
    · rename_i hk
      obtain ⟨rfl, hk⟩ := hk
      have := (Lit.wf_int_iff _ _).1 hk
      have h2 : 0 ≤ n ∧ n ≤ 255 := by simpa [IntKind.min, IntKind.max, IntKind.signed, IntKind.bits] using this
      refine ⟨UInt8.ofNat n.toNat, ?_⟩
      have h3 : (UInt8.ofNat n.toNat).toNat = n.toNat := by simp; omega
      rw [h3]
      congr 1
      omega
    · cases h
  | _ => simp at h

theorem build_bytes {W : World} {a : Addr} : ∀ (len : Nat), (∀ i, i < len → ∃ u : UInt8, W.cell? (a.add i) = some (.int .u8 (u.toNat : Int))) → ∃ b : List UInt8, b.length = len ∧ Cells W a (bytesV b)
  | 0, _ => ⟨[], rfl, cells_nil _ _⟩
  | len + 1, h => by
    obtain ⟨b, h1, h3⟩ := build_bytes len (fun i hi => h i (by omega))
    obtain ⟨u, hc⟩ := h len (by omega)
    refine ⟨b ++ [u], by simp [h1], ?_⟩
    rw [bytesV_append]
    intro i x hi
    by_cases hlt : i < (bytesV b).length
    · rw [List.getElem?_append_left hlt] at hi; exact h3 i x hi
    · rw [List.getElem?_append_right (by omega)] at hi
      rw [bytesV_length, h1] at hlt hi
      have hj : i - len = 0 := by
        rcases Nat.eq_zero_or_pos (i - len) with h5 | h5
        · exact h5
        · rw [List.getElem?_eq_none (by simp [bytesV]; omega)] at hi; cases hi
      rw [hj] at hi
      have : i = len := by omega
      subst this
      rw [hc]
      simpa [bytesV] using hi

theorem not_agg {W : World} {r : Reach} {base : Nat} {t e : TypeId} {x : Value} (ht : Try.prog.underlying t = some (.slice e)) (h : Value.okWide Try.prog W r base t x) : ∀ a, x ≠ .agg a := by
  rintro a rfl
  simp [Value.okWide, ht, Cell.okWide, Cell.ok] at h
theorem cells_one {x y : Value} (h : x.cells.toList = [y]) (hx : ∀ a, x ≠ .agg a) : x = y := by
  cases x with
  | agg a => exact absurd rfl (hx a)
  | _ => simpa [Value.cells] using h

theorem arg_bytes {H : Type} {enc : TypeId × Value → H} {W : World} {x : Value} {d : DataW H} {ps : List MemPlace} (hx : ∀ a, x ≠ .agg a) (h : DataW.Trod enc Try.prog W 0 (fun _ => true) true 27 x d ps) (hw : ∀ x ∈ DataW.weights Try.prog 27 d, x ≤ reachBytes) :
    ∃ (b : List UInt8) (p : Option Addr) (A : Addr) (cap : Nat), x = .slice p b.length cap ∧ b.length ≤ cap ∧ b.length ≤ 140737488355328 ∧ Sl W p A b.length (bytesV b) := by
  obtain ⟨fuel, h⟩ := h
  rcases DataW.trod_slice undB h with ⟨he, _⟩ | ⟨a, len, cap, elems, rest, m, hfu, he, hx3, hb, hlc, hcm, hlen, hel3, _, _⟩
  · have hx := cells_one he hx
    exact ⟨[], none, ⟨0, 0, none⟩, 0, hx, by simp, by simp, by simp, cells_nil _ _⟩
  · have hx := cells_one he hx
    subst hx
    simp only [Prod.mk.injEq] at hx3
    rw [hx3.1] at hw
    simp only [DataW.weights, undB, bytU] at hw
    have hlb : len ≤ 140737488355328 := by
      have := hw _ (.head _)
      simp only [List.length_map] at this
      unfold reachBytes at this; omega
    obtain ⟨b, hbl, hC⟩ := build_bytes (W := W) (a := a) len (fun i hi => by
      have h5 := hel3 i hi
      have hi' : i < elems.length := by omega
      rw [List.getElem?_eq_getElem hi', celU, Nat.mul_one] at h5
      obtain ⟨cs', h6, h7⟩ := Option.bind_eq_some_iff.1 h5
      obtain ⟨_, h8, h9⟩ := World.cells?_some h6
      obtain ⟨c, rfl⟩ : ∃ c, cs' = [c] := by
        match cs', h8 with
        | [c], _ => exact ⟨c, rfl⟩
      obtain ⟨u, rfl⟩ := trod_u8 h7
      have := h9 0 (by omega)
      exact ⟨u, by simpa [Addr.add] using this⟩)
    exact ⟨b, some a, a, cap, by rw [hbl], by omega, by omega, fun _ => rfl, hC⟩

theorem decRes_cases (b : List UInt8) : (∃ x, decRes b = (x, 0) ∧ checkV x = 0 ∧ encR x = b ∧ encV x = b ∧ depthV x ≤ 16) ∨ decRes b = (zeroV, 10) := by
  cases h : decV 16 b with
  | none => exact .inr (by rw [decRes, h])
  | some y =>
    obtain ⟨x, t⟩ := y
    cases t with
    | cons c t => exact .inr (by rw [decRes, h])
    | nil =>
      obtain ⟨h1, h2, h3⟩ := dec_dec 16 b x [] h
      rw [List.append_nil] at h1
      have hc : checkV x = 0 := by rw [checkV, if_neg (by simp [h2]), if_neg (by omega)]
      exact .inl ⟨x, by rw [decRes, h], hc, by rw [encR, if_pos hc, h1], h1.symm, h3⟩

end Go.Proofs.Ytflopfjhejchfaa
