/- Plain: what the codec writes and reads. No program in sight. -/
import Derived.Test.YtflopfjhejchfaaEngT
namespace Go.Proofs.Ytflopfjhejchfaa
open Go Go.Eng

/-- The digits of a number, the least first. -/
def numeralL (u : Nat) : List UInt8 := if u < 128 then [UInt8.ofNat u] else UInt8.ofNat (u % 128 + 128) :: numeralL (u / 128)
termination_by u
decreasing_by omega

theorem numeralL_lt {u : Nat} (h : u < 128) : numeralL u = [UInt8.ofNat u] := by rw [numeralL, if_pos h]
theorem numeralL_ge {u : Nat} (h : ¬ u < 128) : numeralL u = UInt8.ofNat (u % 128 + 128) :: numeralL (u / 128) := by rw [numeralL, if_neg h]
theorem numeralL_pos (u : Nat) : 1 ≤ (numeralL u).length := by
  by_cases h : u < 128
  · rw [numeralL_lt h]; simp
  · rw [numeralL_ge h]; simp
theorem numeralL_length : ∀ (k u : Nat), u < 128 ^ k → 0 < k → (numeralL u).length ≤ k
  | 0, u, _, h => absurd h (by omega)
  | k + 1, u, h, _ => by
    by_cases hlt : u < 128
    · rw [numeralL_lt hlt]; simp
    · rw [numeralL_ge hlt]
      have hk : 0 < k := by
        rcases Nat.eq_zero_or_pos k with h0 | h0
        · subst h0; simp at h; omega
        · exact h0
      have := numeralL_length k (u / 128) (by rw [Nat.div_lt_iff_lt_mul (by omega), Nat.pow_succ] at *; exact h) hk
      simp; omega
theorem numeralL_10 {u : Nat} (h : u < 18446744073709551616) : (numeralL u).length ≤ 10 := numeralL_length 10 u (by have : (128 : Nat) ^ 10 = 1180591620717411303424 := by decide +kernel
                                                                                                                    omega) (by omega)

/-! ## Values -/
inductive V where
  | mk (kind n : Int) (s : List UInt8) (l : List V)

def V.kind : V → Int | .mk k _ _ _ => k
def V.n : V → Int | .mk _ n _ _ => n
def V.s : V → List UInt8 | .mk _ _ s _ => s
def V.l : V → List V | .mk _ _ _ l => l

def in64 (a : Int) : Prop := -9223372036854775808 ≤ a ∧ a ≤ 9223372036854775807

mutual
/-- The cells of a value at a world; the rows it reaches lie in the blocks S. -/
def rep (S : Nat → Prop) (w : World) : V → List Value → Prop
  | .mk k n s l, cs => in64 k ∧ in64 n ∧ s.length ≤ 140737488355328 ∧ l.length ≤ 140737488355328 ∧ ∃ p cap A row, cs = [.int .i64 k, .int .i64 n, .string ⟨s.toArray⟩, .slice p l.length cap] ∧ l.length ≤ cap ∧ cap ≤ 9223372036854775807 ∧ Sl w p A l.length row ∧ (0 < l.length → S A.block ∧ A.block < w.heap.size) ∧ reps S w l row
def reps (S : Nat → Prop) (w : World) : List V → List Value → Prop
  | [], cs => cs = []
  | d :: l, cs => ∃ a b, cs = a ++ b ∧ rep S w d a ∧ reps S w l b
end

theorem rep_length {S : Nat → Prop} {w : World} : ∀ {v : V} {cs : List Value}, rep S w v cs → cs.length = 4
  | .mk _ _ _ _, cs, h => by
    obtain ⟨_, _, _, _, p, cap, A, row, rfl, _⟩ := h; rfl
theorem rep_one {S : Nat → Prop} {w : World} : ∀ {v : V} {cs : List Value}, rep S w v cs → ∀ u ∈ cs, u.oneCell' = true
  | .mk _ _ _ _, cs, h => by
    obtain ⟨_, _, _, _, p, cap, A, row, rfl, _⟩ := h
    simp [Value.oneCell']
theorem reps_length {S : Nat → Prop} {w : World} : ∀ {l : List V} {cs : List Value}, reps S w l cs → cs.length = l.length * 4
  | [], cs, h => by rw [show cs = [] from h]; rfl
  | d :: l, cs, ⟨a, b, h1, h2, h3⟩ => by rw [h1, List.length_append, rep_length h2, reps_length h3, List.length_cons]; omega
theorem reps_one {S : Nat → Prop} {w : World} : ∀ {l : List V} {cs : List Value}, reps S w l cs → ∀ u ∈ cs, u.oneCell' = true
  | [], cs, h => by rw [show cs = [] from h]; simp
  | d :: l, cs, ⟨a, b, h1, h2, h3⟩ => by
    intro u hu; rw [h1] at hu
    rcases List.mem_append.mp hu with h | h
    · exact rep_one h2 u h
    · exact reps_one h3 u h
theorem reps_append {S : Nat → Prop} {w : World} : ∀ {l m : List V} {a b : List Value}, reps S w l a → reps S w m b → reps S w (l ++ m) (a ++ b)
  | [], m, a, b, h, k => by rw [show a = [] from h]; exact k
  | d :: l, m, a, b, ⟨x, y, h1, h2, h3⟩, k => ⟨x, y ++ b, by rw [h1, List.append_assoc], h2, reps_append h3 k⟩
theorem reps_snoc {S : Nat → Prop} {w : World} {l : List V} {d : V} {a b : List Value} (h : reps S w l a) (k : rep S w d b) : reps S w (l ++ [d]) (a ++ b) :=
  reps_append h ⟨b, [], by simp, k, rfl⟩

mutual
theorem rep_ext {S : Nat → Prop} {w w' : World} {X : List Nat} (he : Ext X w w') (hx : ∀ k, S k → k ∉ X) : ∀ {v : V} {cs : List Value}, rep S w v cs → rep S w' v cs
  | .mk _ _ _ l, cs, h => by
    obtain ⟨h1, h2, h3, h4, p, cap, A, row, hc, h5, h6, h7, h8, h9⟩ := h
    refine ⟨h1, h2, h3, h4, p, cap, A, row, hc, h5, h6, ⟨h7.1, ?_⟩, fun hl => ⟨(h8 hl).1, Nat.lt_of_lt_of_le (h8 hl).2 he.size⟩, reps_ext he hx h9⟩
    by_cases hl : 0 < l.length
    · exact h7.2.ext he (hx _ (h8 hl).1)
    · have : row = [] := by
        have := reps_length h9
        exact List.eq_nil_of_length_eq_zero (by omega)
      subst this
      intro i v hi; simp at hi
theorem reps_ext {S : Nat → Prop} {w w' : World} {X : List Nat} (he : Ext X w w') (hx : ∀ k, S k → k ∉ X) : ∀ {l : List V} {cs : List Value}, reps S w l cs → reps S w' l cs
  | [], cs, h => h
  | d :: l, cs, ⟨a, b, h1, h2, h3⟩ => ⟨a, b, h1, rep_ext he hx h2, reps_ext he hx h3⟩
end
theorem rep_ext0 {S : Nat → Prop} {w w' : World} (he : Ext [] w w') {v : V} {cs : List Value} (h : rep S w v cs) : rep S w' v cs := rep_ext he (by simp) h
theorem reps_ext0 {S : Nat → Prop} {w w' : World} (he : Ext [] w w') {v : List V} {cs : List Value} (h : reps S w v cs) : reps S w' v cs := reps_ext he (by simp) h

mutual
theorem rep_weak {S T : Nat → Prop} {w : World} (hs : ∀ k, k < w.heap.size → S k → T k) : ∀ {v : V} {cs : List Value}, rep S w v cs → rep T w v cs
  | .mk _ _ _ l, cs, h => by
    obtain ⟨h1, h2, h3, h4, p, cap, A, row, hc, h5, h6, h7, h8, h9⟩ := h
    exact ⟨h1, h2, h3, h4, p, cap, A, row, hc, h5, h6, h7, fun hl => ⟨hs _ (h8 hl).2 (h8 hl).1, (h8 hl).2⟩, reps_weak hs h9⟩
theorem reps_weak {S T : Nat → Prop} {w : World} (hs : ∀ k, k < w.heap.size → S k → T k) : ∀ {l : List V} {cs : List Value}, reps S w l cs → reps T w l cs
  | [], cs, h => h
  | d :: l, cs, ⟨a, b, h1, h2, h3⟩ => ⟨a, b, h1, rep_weak hs h2, reps_weak hs h3⟩
end

/-- One element of a row. -/
theorem reps_at {S : Nat → Prop} {w : World} : ∀ {l : List V} {cs : List Value} {i : Nat} (hi : i < l.length), reps S w l cs → ∃ d, (cs.drop (i * 4)).take 4 = d ∧ d.length = 4 ∧ rep S w l[i] d
  | [], cs, i, hi, _ => absurd hi (by simp)
  | d :: l, cs, 0, hi, ⟨a, b, h1, h2, h3⟩ => by
    have := rep_length h2
    refine ⟨a, ?_, this, h2⟩
    rw [h1, Nat.zero_mul, List.drop_zero, ← this, List.take_left]
  | d :: l, cs, i + 1, hi, ⟨a, b, h1, h2, h3⟩ => by
    obtain ⟨c, hc, hl, hr⟩ := reps_at (i := i) (by simpa using hi) h3
    refine ⟨c, ?_, hl, hr⟩
    rw [h1, show (i + 1) * 4 = a.length + i * 4 by rw [rep_length h2]; omega, ← List.drop_drop, List.drop_left]
    exact hc

/-! ## Well-formed, depth -/
mutual
def formedV : V → Bool
  | .mk k n s l => if k = 1 then s.isEmpty && l.isEmpty else if k = 2 then decide (n = 0) && l.isEmpty else if k = 3 then formedL l && (decide (n = 0) && s.isEmpty) else false
def formedL : List V → Bool
  | [] => true
  | d :: l => formedV d && formedL l
end
mutual
def depthV : V → Nat
  | .mk k _ _ l => if k = 3 then depthL l + 1 else 0
def depthL : List V → Nat
  | [] => 0
  | d :: l => max (depthV d) (depthL l)
end
def checkV (v : V) : Int := if formedV v = false then 1 else if 16 < depthV v then 2 else 0

/-! ## Encodings -/
def zig (n : Int) : Nat := if 0 ≤ n then 2 * n.toNat else 2 * (-(n + 1)).toNat + 1
mutual
def encV : V → List UInt8
  | .mk k n s l => if k = 1 then 1 :: numeralL (zig n) else if k = 2 then 2 :: (numeralL s.length ++ s) else 3 :: (numeralL l.length ++ encL l)
def encL : List V → List UInt8
  | [] => []
  | d :: l => encV d ++ encL l
end
theorem encL_append : ∀ (l m : List V), encL (l ++ m) = encL l ++ encL m
  | [], m => rfl
  | d :: l, m => by rw [List.cons_append, encL, encL, encL_append l m, List.append_assoc]

end Go.Proofs.Ytflopfjhejchfaa
