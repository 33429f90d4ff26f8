/- Plain: what has few parts is short and not deep. -/
import Derived.Test.YtflopfjhejchfaaCodecP
import Derived.Test.YtflopfjhejchfaaCodecF
import Derived.Test.YtflopfjhejchfaaCodecY
set_option linter.unusedVariables false
set_option linter.unusedSimpArgs false
namespace Go.Proofs.Ytflopfjhejchfaa
open Go Go.Eng

theorem countL_ge : ∀ (l : List V) (d : Int) (n : Nat), n ≤ countL l d n
  | [], d, n => by simp [countL]
  | x :: l, d, n => by
    rw [countL]; split
    · have := countL_ge l d (n + countV x (d - 1)); omega
    · omega
theorem countL_enc : ∀ (l : List V) (d : Int) (n : Nat), (∀ x ∈ l, ∀ e, okV x → countV x e ≤ 999 → (encV x).length ≤ 220 * countV x e ∧ (depthV x : Int) ≤ e + 1) → okL l → countL l d n ≤ 999 →
    (encL l).length + 220 * n ≤ 220 * countL l d n ∧ (l ≠ [] → (depthL l : Int) ≤ d)
  | [], d, n, _, _, _ => by simp [countL, encL]
  | x :: l, d, n, hx, hok, h => by
    rw [countL] at h ⊢
    by_cases hn : n ≤ 1000
    · rw [if_pos hn] at h ⊢
      have hge := countL_ge l d (n + countV x (d - 1))
      obtain ⟨h1, h2⟩ := hx x (by simp) (d - 1) hok.1 (by omega)
      obtain ⟨h3, h4⟩ := countL_enc l d (n + countV x (d - 1)) (fun y hy => hx y (by simp [hy])) hok.2 h
      refine ⟨by simp [encL]; omega, fun _ => ?_⟩
      rw [depthL]
      by_cases hl : l = []
      · subst hl; simp [depthL]; omega
      · have := h4 hl; omega
    · rw [if_neg hn] at h; omega
theorem countV_enc : ∀ (v : V) (d : Int), okV v → countV v d ≤ 999 → (encV v).length ≤ 220 * countV v d ∧ (depthV v : Int) ≤ d + 1 := by
  refine V.ind ?_
  intro k n s l ih d hok h
  obtain ⟨h1, h2, h3, h4, h5⟩ := hok
  rw [countV] at h ⊢
  by_cases hb : d < 0 ∨ 150 < l.length
  · rw [if_pos hb] at h; omega
  · rw [if_neg hb] at h ⊢
    have hge := countL_ge l d (1 + s.length / 200)
    obtain ⟨h6, h7⟩ := countL_enc l d (1 + s.length / 200) ih h5 h
    have e1 := numeralL_10 (zig_lt h2)
    have e2 := numeralL_10 (u := s.length) (by omega)
    have e3 := numeralL_10 (u := l.length) (by omega)
    constructor
    · rw [encV]
      split
      · simp; omega
      · split
        · simp; omega
        · simp; omega
    · rw [depthV]
      split
      · by_cases hl : l = []
        · subst hl; simp [depthL]; omega
        · have := h7 hl; omega
      · omega
theorem few_bounds {v : V} (hok : okV v) (h : fewV v = true) : (encV v).length ≤ 44000 ∧ depthV v ≤ 21 := by
  have h2 : countV v 20 ≤ 200 := of_decide_eq_true h
  obtain ⟨h3, h4⟩ := countV_enc v 20 hok (by omega)
  omega

theorem decRes_enc {v : V} (hok : okV v) (hc : checkV v = 0) : decRes (encR v) = (v, 0) := by
  have hf := check_formed hc
  have hd : depthV v ≤ 16 := by
    unfold checkV at hc
    rw [if_neg (by simp [hf])] at hc
    by_cases h : 16 < depthV v
    · rw [if_pos h] at hc; cases hc
    · omega
  have h := dec_enc v 16 [] hf hd hok
  rw [List.append_nil] at h
  rw [encR, if_pos hc, decRes, h]
theorem numeralL_mono : ∀ (v u : Nat), u ≤ v → (numeralL u).length ≤ (numeralL v).length := by
  intro v
  induction v using Nat.strongRecOn with
  | ind v ih =>
  intro u h
  by_cases hu : u < 128
  · rw [numeralL_lt hu]; have := numeralL_pos v; simpa using this
  · rw [numeralL_ge hu, numeralL_ge (u := v) (by omega)]
    have := ih (v / 128) (by omega) (u / 128) (by omega)
    simpa using this

end Go.Proofs.Ytflopfjhejchfaa
