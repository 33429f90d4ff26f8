/- From what an argument reads as to its representation. -/
import Derived.Test.YtflopfjhejchfaaRows
import Derived.Test.YtflopfjhejchfaaCodecZ
import Derived.DataShut
import Derived.SizedLaws
import Derived.WalkKit
import Derived.ProofKit
import Derived.OpenShut
import Derived.JoinedCond
set_option linter.unusedVariables false
set_option linter.unusedSimpArgs false
namespace Go.Proofs.Ytflopfjhejchfaa
open Go Go.Eng

theorem mapM_opt {α β : Type} {f : α → Option β} : ∀ {l : List α} {r : List β}, l.mapM f = some r → l.length = r.length ∧ ∀ (i : Nat) (h : i < l.length), f l[i] = r[i]?
  | [], r, h => by simp at h; subst h; simp
  | a :: l, r, h => by
    rw [List.mapM_cons] at h
    cases ha : f a with
    | none => rw [ha] at h; cases h
    | some b =>
      rw [ha] at h
      cases hl : l.mapM f with
      | none => rw [hl] at h; cases h
      | some r' =>
        rw [hl] at h
        have h' : some (b :: r') = some r := h
        simp only [Option.some.injEq] at h'
        subst h'
        obtain ⟨h1, h2⟩ := mapM_opt hl
        refine ⟨by simp [h1], fun i hi => ?_⟩
        cases i with
        | zero => simpa using ha
        | succ i => simpa using h2 i (by simpa using hi)

theorem und24 : Try.prog.underlying 24 = some (.struct #[{ name := "Kind", type := 3, offset := 0, embedded := false, tag := "", pkgPath := "", byteOffset := 0 }, { name := "N", type := 3, offset := 1, embedded := false, tag := "", pkgPath := "", byteOffset := 8 }, { name := "S", type := 9, offset := 2, embedded := false, tag := "", pkgPath := "", byteOffset := 16 }, { name := "L", type := 22, offset := 3, embedded := false, tag := "", pkgPath := "", byteOffset := 32 }]) := rfl
theorem undI : Try.prog.underlying 3 = some (.int .i64) := rfl
theorem undS : Try.prog.underlying 9 = some .string := rfl
theorem undL : Try.prog.underlying 22 = some (.slice 24) := rfl
theorem cel24 : Try.prog.cellsOf 24 = 4 := rfl
theorem celI : Try.prog.cellsOf 3 = 1 := rfl
theorem celS : Try.prog.cellsOf 9 = 1 := rfl
theorem celL : Try.prog.cellsOf 22 = 1 := rfl
theorem byt24 : Try.prog.bytesOf 24 = 56 := rfl

theorem build_rows {S : Nat → Prop} {W : World} {a : Addr} : ∀ (len : Nat), (∀ i, i < len → ∃ v cs, rep S W v cs ∧ ∀ j, j < 4 → W.cell? ((a.add (i * 4)).add j) = cs[j]?) → ∃ l row, l.length = len ∧ reps S W l row ∧ Cells W a row
  | 0, _ => ⟨[], [], rfl, rfl, cells_nil _ _⟩
  | len + 1, h => by
    obtain ⟨l, row, h1, h2, h3⟩ := build_rows (S := S) (W := W) (a := a) len (fun i hi => h i (by omega))
    obtain ⟨v, cs, hv, hc⟩ := h len (by omega)
    refine ⟨l ++ [v], row ++ cs, by simp [h1], reps_snoc h2 hv, ?_⟩
    have hrl := reps_length h2
    have hcl := rep_length hv
    intro i u hi
    by_cases hlt : i < row.length
    · rw [List.getElem?_append_left hlt] at hi; exact h3 i u hi
    · rw [List.getElem?_append_right (by omega)] at hi
      have hj : i - row.length < 4 := by
        rcases Nat.lt_or_ge (i - row.length) 4 with h5 | h5
        · exact h5
        · rw [List.getElem?_eq_none (by omega)] at hi; cases hi
      have := hc (i - row.length) hj
      rw [addr_add_add, hi] at this
      rw [← this]
      congr 2
      omega

theorem weightsAll_mem {H : Type} {P : Program} {e : TypeId} : ∀ {l : List (DataW H)} {d : DataW H}, d ∈ l → ∀ x ∈ DataW.weights P e d, x ∈ DataW.weightsAll P e l
  | c :: l, d, h, x, hx => by
    rw [DataW.weightsAll]
    rcases List.mem_cons.1 h with rfl | h
    · exact List.mem_append_left _ hx
    · exact List.mem_append_right _ (weightsAll_mem h x hx)

theorem trod_i64 {H : Type} {enc : TypeId × Value → H} {W : World} {fuel : Nat} {c : Value} {x : DataW H × List MemPlace} {sp : Nat → Bool} (h : DataW.trod enc Try.prog W 0 sp true fuel 3 [c] = some x) : ∃ n, c = .int .i64 n ∧ in64 n ∧ x.1 = .lit (.int .i64 n) := by
  cases fuel with
  | zero => simp [DataW.trod] at h
  | succ fuel =>
  unfold DataW.trod at h
  simp only [undI] at h
  cases c with
  | int k n =>
    simp only at h
    split at h
    · rename_i hk
      obtain ⟨rfl, hk⟩ := hk
      simp only [Option.some.injEq] at h
      subst h
      have := (Lit.wf_int_iff _ _).1 hk
      refine ⟨n, rfl, ?_, rfl⟩
      simpa [IntKind.min, IntKind.max, IntKind.signed, IntKind.bits, in64] using this
    · cases h
  | _ => simp at h
theorem trod_str {H : Type} {enc : TypeId × Value → H} {W : World} {fuel : Nat} {c : Value} {x : DataW H × List MemPlace} {sp : Nat → Bool} (h : DataW.trod enc Try.prog W 0 sp true fuel 9 [c] = some x) : ∃ s : List UInt8, c = .string ⟨s.toArray⟩ ∧ x.1 = .lit (.string s) := by
  cases fuel with
  | zero => simp [DataW.trod] at h
  | succ fuel =>
  unfold DataW.trod at h
  simp only [undS] at h
  cases c with
  | string s =>
    simp only at h
    split at h
    · simp only [Option.some.injEq] at h
      subst h
      exact ⟨s.data.toList, by simp, rfl⟩
    · cases h
  | _ => simp at h

theorem trod_rep {H : Type} {enc : TypeId × Value → H} {W : World} : ∀ (fuel : Nat) (cs : List Value) (d : DataW H) (ps : List MemPlace), DataW.trod enc Try.prog W 0 (fun _ => true) true fuel 24 cs = some (d, ps) →
    (∀ x ∈ DataW.weights Try.prog 24 d, x ≤ reachBytes) → ∃ v, rep (fun _ => True) W v cs := by
  intro fuel
  induction fuel using Nat.strongRecOn with
  | ind fuel ih =>
  intro cs d ps h hw
  cases fuel with
  | zero => simp [DataW.trod] at h
  | succ fuel =>
  unfold DataW.trod at h
  simp only [und24] at h
  by_cases h4' : cs.length = Try.prog.cellsOf 24
  · rw [if_pos h4'] at h
    have h4 : cs.length = 4 := h4'
    obtain ⟨c0, c1, c2, c3, rfl⟩ : ∃ a b c d, cs = [a, b, c, d] := by
      match cs, h4 with
      | [a, b, c, d], _ => exact ⟨a, b, c, d, rfl⟩
    obtain ⟨xs, hm, hx⟩ := Option.map_eq_some_iff.1 h
    obtain ⟨hlen, hel⟩ := mapM_opt hm
    obtain ⟨x0, x1, x2, x3, rfl⟩ : ∃ a b c d, xs = [a, b, c, d] := by
      match xs, hlen with
      | [a, b, c, d], _ => exact ⟨a, b, c, d, rfl⟩
    have e0 := hel 0 (by decide)
    have e1 := hel 1 (by decide)
    have e2 := hel 2 (by decide)
    have e3 := hel 3 (by decide)
    simp only [List.getElem_cons_zero, List.getElem_cons_succ, List.getElem?_cons_zero, List.getElem?_cons_succ, List.drop_zero, List.drop_succ_cons, celI, celS, celL, List.take_succ_cons, List.take_zero] at e0 e1 e2 e3
    simp only [Prod.mk.injEq] at hx
    obtain ⟨rfl, _⟩ := hx
    obtain ⟨k, rfl, hk, hx0⟩ := trod_i64 e0
    obtain ⟨n, rfl, hn, hx1⟩ := trod_i64 e1
    obtain ⟨s, rfl, hx2⟩ := trod_str e2
    simp only [DataW.weights, und24, List.map_cons, List.map_nil, DataW.weightsEach, hx0, hx1, hx2, List.append_nil, List.nil_append, List.mem_append, List.mem_singleton] at hw
    have hs : s.length ≤ 140737488355328 := by
      have := hw s.length (.inl rfl)
      unfold reachBytes at this; omega
    rcases DataW.trod_slice undL e3 with ⟨he, _⟩ | ⟨a, len, cap, elems, rest, m, hfu, he, hx3, hb, hlc, hcm, hlen, hel3, _, _⟩
    · simp only [List.cons.injEq, and_true] at he
      subst he
      exact ⟨.mk k n s [], rep_plain _ _ hk hn hs⟩
    · simp only [List.cons.injEq, and_true] at he
      subst he
      rw [hx3] at hw
      simp only [DataW.weights, undL, byt24] at hw
      have hlb : len ≤ 140737488355328 := by
        have := hw _ (.inr (.head _))
        simp only [List.length_map] at this
        unfold reachBytes at this; omega
      obtain ⟨l, row, hl, hreps, hC⟩ := build_rows (S := fun _ => True) (W := W) (a := a) len (fun i hi => by
        have h5 := hel3 i hi
        have hi' : i < elems.length := by omega
        rw [List.getElem?_eq_getElem hi'] at h5
        obtain ⟨cs', h6, h7⟩ := Option.bind_eq_some_iff.1 h5
        obtain ⟨_, h8, h9⟩ := World.cells?_some h6
        obtain ⟨v, hv⟩ := ih m (by omega) cs' elems[i].1 elems[i].2 h7 (fun x hx => hw x (.inr (.tail _ (List.mem_append_left _ (weightsAll_mem (List.mem_map.2 ⟨elems[i], List.getElem_mem hi', rfl⟩) x hx)))))
        exact ⟨v, cs', hv, fun j hj => h9 j hj⟩)
      refine ⟨.mk k n s l, hk, hn, hs, by omega, some a, cap, a, row, by rw [hl], by omega, by unfold maxLen at hcm; omega, ⟨fun _ => rfl, hC⟩, fun h0 => ⟨trivial, ?_⟩, hreps⟩
      have := reps_length hreps
      exact hC.lt (fun e => by rw [e] at this; simp at this; omega)
  · rw [if_neg h4'] at h; cases h

end Go.Proofs.Ytflopfjhejchfaa
