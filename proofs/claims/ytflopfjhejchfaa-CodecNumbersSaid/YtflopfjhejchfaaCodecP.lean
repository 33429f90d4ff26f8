/- Plain: what was written is read, and the other way round. -/
import Derived.Test.YtflopfjhejchfaaCodecV
import Derived.Test.YtflopfjhejchfaaCodecX
set_option linter.unusedVariables false
set_option linter.unusedSimpArgs false
namespace Go.Proofs.Ytflopfjhejchfaa
open Go Go.Eng

theorem unzig_zig (n : Int) : unzig (zig n) = n := by
  unfold zig unzig
  by_cases h : 0 ≤ n
  · rw [if_pos h, if_pos (by omega)]; omega
  · rw [if_neg h, if_neg (by omega)]; omega
theorem zig_unzig (u : Nat) : zig (unzig u) = u := by
  unfold zig unzig
  by_cases h : u % 2 = 0
  · rw [if_pos h, if_pos (by omega)]; omega
  · rw [if_neg h, if_neg (by omega)]; omega
theorem zig_lt {n : Int} (h : in64 n) : zig n < 18446744073709551616 := by
  unfold zig; have h1 := h.1; have h2 := h.2; split <;> omega

theorem pow_step (i u acc : Nat) : acc + u % 128 * 2 ^ (7 * i) + u / 128 * 2 ^ (7 * (i + 1)) = acc + u * 2 ^ (7 * i) := by
  have h1 : u / 128 * 2 ^ (7 * (i + 1)) = (u / 128 * 128) * 2 ^ (7 * i) := by
    rw [show 7 * (i + 1) = 7 + 7 * i by omega, Nat.pow_add, Nat.mul_assoc]
  rw [h1, Nat.add_assoc, ← Nat.add_mul]
  congr 2
  omega
theorem bnd_step {i u : Nat} (hi : i ≤ 9) (h : u < 2 ^ (64 - 7 * i)) (hu : 128 ≤ u) : i ≤ 8 ∧ u / 128 < 2 ^ (64 - 7 * (i + 1)) := by
  have h9 : i = 0 ∨ i = 1 ∨ i = 2 ∨ i = 3 ∨ i = 4 ∨ i = 5 ∨ i = 6 ∨ i = 7 ∨ i = 8 ∨ i = 9 := by omega
  rcases h9 with rfl | rfl | rfl | rfl | rfl | rfl | rfl | rfl | rfl | rfl <;> simp only [Nat.reduceMul, Nat.reducePow, Nat.reduceAdd, Nat.reduceSub] at h ⊢ <;> omega
theorem bnd_back {i c u : Nat} (hi : i ≤ 8) (h : u < 2 ^ (64 - 7 * (i + 1))) (hc : c < 128) : c + 128 * u < 2 ^ (64 - 7 * i) := by
  have h9 : i = 0 ∨ i = 1 ∨ i = 2 ∨ i = 3 ∨ i = 4 ∨ i = 5 ∨ i = 6 ∨ i = 7 ∨ i = 8 := by omega
  rcases h9 with rfl | rfl | rfl | rfl | rfl | rfl | rfl | rfl | rfl <;> simp only [Nat.reduceMul, Nat.reducePow, Nat.reduceAdd, Nat.reduceSub] at h ⊢ <;> omega
theorem bnd_one {i c : Nat} (hi : i ≤ 9) (hc : c < 128) (h : ¬ (9 ≤ i ∧ 1 < c)) : c < 2 ^ (64 - 7 * i) := by
  have h9 : i = 0 ∨ i = 1 ∨ i = 2 ∨ i = 3 ∨ i = 4 ∨ i = 5 ∨ i = 6 ∨ i = 7 ∨ i = 8 ∨ i = 9 := by omega
  rcases h9 with rfl | rfl | rfl | rfl | rfl | rfl | rfl | rfl | rfl | rfl <;> simp only [Nat.reduceMul, Nat.reducePow, Nat.reduceAdd, Nat.reduceSub] at h ⊢ <;> omega

theorem decN_num : ∀ (u i acc : Nat) (t : List UInt8), i ≤ 9 → u < 2 ^ (64 - 7 * i) → (i ≠ 0 → 0 < u) → decN i acc (numeralL u ++ t) = some (acc + u * 2 ^ (7 * i), t) := by
  intro u
  induction u using Nat.strongRecOn with
  | ind u ih =>
  intro i acc t hi hu hz
  by_cases hlt : u < 128
  · have hc : (UInt8.ofNat u).toNat = u := by simp; omega
    have h9 : ¬ (9 ≤ i ∧ 1 < u) := fun ⟨h1, h2⟩ => by
      have : i = 9 := by omega
      subst this
      simp only [Nat.reduceMul, Nat.reduceSub, Nat.reducePow] at hu; omega
    rw [numeralL_lt hlt, List.singleton_append, decN, hc, if_neg (by omega), if_pos hlt, Nat.mod_eq_of_lt hlt]
  · have hc : (UInt8.ofNat (u % 128 + 128)).toNat = u % 128 + 128 := by simp; omega
    obtain ⟨h8, hb⟩ := bnd_step hi hu (by omega)
    rw [numeralL_ge hlt, List.cons_append, decN, hc, if_neg (by omega), if_neg (by omega), ih (u / 128) (by omega) (i + 1) _ t (by omega) hb (fun _ => by omega)]
    rw [show (u % 128 + 128) % 128 = u % 128 by omega, pow_step]

theorem decN_inv : ∀ (b : List UInt8) (i acc u' : Nat) (t : List UInt8), i ≤ 9 → decN i acc b = some (u', t) → ∃ u, b = numeralL u ++ t ∧ u' = acc + u * 2 ^ (7 * i) ∧ u < 2 ^ (64 - 7 * i) ∧ (i ≠ 0 → 0 < u)
  | [], i, acc, u', t, hi, h => by rw [decN] at h; cases h
  | c :: b, i, acc, u', t, hi, h => by
    have hc := c.toNat_lt
    rw [decN] at h
    by_cases hbad : (i ≠ 0 ∧ c.toNat = 0) ∨ (9 ≤ i ∧ 1 < c.toNat)
    · rw [if_pos hbad] at h; cases h
    · rw [if_neg hbad] at h
      by_cases hlt : c.toNat < 128
      · rw [if_pos hlt] at h
        simp only [Option.some.injEq, Prod.mk.injEq] at h
        refine ⟨c.toNat, ?_, ?_, bnd_one hi hlt (by omega), fun _ => by omega⟩
        · rw [numeralL_lt hlt, h.2]; simp
        · rw [← h.1, Nat.mod_eq_of_lt hlt]
      · rw [if_neg hlt] at h
        have h8 : i ≤ 8 := by omega
        obtain ⟨u, h1, h2, h3, h4⟩ := decN_inv b (i + 1) _ u' t (by omega) h
        have hu := h4 (by omega)
        refine ⟨c.toNat % 128 + 128 * u, ?_, ?_, bnd_back h8 h3 (by omega), fun _ => by omega⟩
        · rw [numeralL_ge (by omega), show (c.toNat % 128 + 128 * u) % 128 + 128 = c.toNat by omega, show (c.toNat % 128 + 128 * u) / 128 = u by omega, h1]
          simp
        · rw [h2]
          have := pow_step i (c.toNat % 128 + 128 * u) acc
          rw [show (c.toNat % 128 + 128 * u) % 128 = c.toNat % 128 by omega, show (c.toNat % 128 + 128 * u) / 128 = u by omega] at this
          exact this

theorem decN_enc {u : Nat} (h : u < 18446744073709551616) (t : List UInt8) : decN 0 0 (numeralL u ++ t) = some (u, t) := by
  rw [decN_num u 0 0 t (by omega) (by simpa using h) (by simp)]; simp
theorem decN_dec {u : Nat} {b t : List UInt8} (h : decN 0 0 b = some (u, t)) : b = numeralL u ++ t ∧ u < 18446744073709551616 := by
  obtain ⟨v, h1, h2, h3, _⟩ := decN_inv b 0 0 u t (by omega) h
  have : u = v := by simpa using h2
  subst this
  exact ⟨h1, by simpa using h3⟩

mutual
/-- Its numbers fit. -/
def okV : V → Prop
  | .mk k n s l => in64 k ∧ in64 n ∧ s.length ≤ 140737488355328 ∧ l.length ≤ 140737488355328 ∧ okL l
def okL : List V → Prop
  | [] => True
  | d :: l => okV d ∧ okL l
end
mutual
theorem rep_ok {S : Nat → Prop} {w : World} : ∀ {v : V} {cs : List Value}, rep S w v cs → okV v
  | .mk k n s l, cs, h => by
    obtain ⟨h1, h2, h3, h4, p, cap, A, row, rfl, _, _, _, _, hr⟩ := h
    exact ⟨h1, h2, h3, h4, reps_ok hr⟩
theorem reps_ok {S : Nat → Prop} {w : World} : ∀ {l : List V} {cs : List Value}, reps S w l cs → okL l
  | [], _, _ => trivial
  | d :: l, cs, ⟨a, b, _, h2, h3⟩ => ⟨rep_ok h2, reps_ok h3⟩
end

theorem encV_pos : ∀ (v : V), 1 ≤ (encV v).length
  | .mk k n s l => by rw [encV]; split <;> (try split) <;> simp
theorem encL_len : ∀ (l : List V), l.length ≤ (encL l).length
  | [] => by simp
  | d :: l => by have := encV_pos d; have := encL_len l; simp [encL]; omega

theorem dec_encL {f : List UInt8 → Option (V × List UInt8)} : ∀ (l : List V) (t : List UInt8), (∀ d ∈ l, ∀ t, f (encV d ++ t) = some (d, t)) → decL f l.length (encL l ++ t) = some (l, t)
  | [], t, _ => by simp [encL, decL]
  | d :: l, t, h => by
    rw [List.length_cons, encL, List.append_assoc, decL_step (h d (by simp) _), dec_encL l t (fun e he => h e (by simp [he]))]
    rfl

theorem okL_mem : ∀ {l : List V} {d : V}, okL l → d ∈ l → okV d
  | e :: l, d, h, hd => by
    rcases List.mem_cons.1 hd with rfl | hd
    · exact h.1
    · exact okL_mem h.2 hd

theorem dec_enc : ∀ (v : V) (r : Nat) (t : List UInt8), formedV v = true → depthV v ≤ r → okV v → decV r (encV v ++ t) = some (v, t) := by
  refine V.ind ?_
  intro k n s l ih r t hf hd hok
  obtain ⟨h1, h2, h3, h4, h5⟩ := hok
  by_cases hk1 : k = 1
  · rw [formedV, if_pos hk1] at hf
    simp at hf
    obtain ⟨rfl, rfl⟩ := hf
    rw [encV, if_pos hk1, List.cons_append, decV_1 r (by rfl), decN_enc (zig_lt h2)]
    simp [unzig_zig, hk1]
  · by_cases hk2 : k = 2
    · rw [formedV, if_neg hk1, if_pos hk2] at hf
      simp at hf
      obtain ⟨rfl, rfl⟩ := hf
      rw [encV, if_neg hk1, if_pos hk2, List.cons_append, decV_2 r (by rfl), decLen, List.append_assoc, decN_enc (by omega)]
      simp [hk2]
    · by_cases hk3 : k = 3
      · rw [formedV, if_neg hk1, if_neg hk2, if_pos hk3] at hf
        simp at hf
        obtain ⟨hfl, rfl, rfl⟩ := hf
        rw [depthV, if_pos hk3] at hd
        obtain ⟨r', rfl⟩ := Nat.exists_eq_succ_of_ne_zero (n := r) (by omega)
        rw [encV, if_neg hk1, if_neg hk2, List.cons_append, decV_3 r' (by rfl), decLen, List.append_assoc, decN_enc (by omega)]
        have hle := encL_len l
        simp only [List.length_append]
        rw [if_pos (by omega)]
        simp only
        rw [dec_encL l t (fun d hd' t' => ih d hd' r' t' (formedL_all.mp hfl d hd') (by have := depthL_mem hd'; omega) (okL_mem h5 hd'))]
        simp [hk3]
      · rw [formedV, if_neg hk1, if_neg hk2, if_neg hk3] at hf; cases hf

theorem decL_dec {f : List UInt8 → Option (V × List UInt8)} {r : Nat} (hf : ∀ b v t, f b = some (v, t) → b = encV v ++ t ∧ formedV v = true ∧ depthV v ≤ r) : ∀ (n : Nat) (b : List UInt8) (l : List V) (t : List UInt8), decL f n b = some (l, t) → b = encL l ++ t ∧ l.length = n ∧ formedL l = true ∧ depthL l ≤ r
  | 0, b, l, t, h => by
    simp only [decL, Option.some.injEq, Prod.mk.injEq] at h
    obtain ⟨rfl, rfl⟩ := h
    simp [encL, formedL, depthL]
  | n + 1, b, l, t, h => by
    rw [decL] at h
    cases hv : f b with
    | none => rw [hv] at h; cases h
    | some x =>
      obtain ⟨v, b'⟩ := x
      rw [hv] at h
      simp only at h
      cases hl : decL f n b' with
      | none => rw [hl] at h; cases h
      | some y =>
        obtain ⟨l', b''⟩ := y
        rw [hl] at h
        simp only [Option.some.injEq, Prod.mk.injEq] at h
        obtain ⟨rfl, rfl⟩ := h
        obtain ⟨h1, h2, h3⟩ := hf b v b' hv
        obtain ⟨h4, h5, h6, h7⟩ := decL_dec hf n b' l' b'' hl
        refine ⟨by rw [encL, h1, h4, List.append_assoc], by simp [h5], by simp [formedL, h2, h6], ?_⟩
        rw [depthL]; omega

theorem dec_dec : ∀ (r : Nat) (b : List UInt8) (v : V) (t : List UInt8), decV r b = some (v, t) → b = encV v ++ t ∧ formedV v = true ∧ depthV v ≤ r := by
  intro r
  induction r using Nat.strongRecOn with
  | ind r ih =>
  intro b v t h
  cases b with
  | nil => rw [decV_nil] at h; cases h
  | cons c b =>
    by_cases h1 : c.toNat = 1
    · have hc : c = 1 := UInt8.toNat_inj.mp h1
      rw [decV_1 r h1] at h
      cases hn : decN 0 0 b with
      | none => rw [hn] at h; cases h
      | some x =>
        obtain ⟨u, b'⟩ := x
        rw [hn] at h
        simp only [Option.map_some, Option.some.injEq, Prod.mk.injEq] at h
        obtain ⟨rfl, rfl⟩ := h
        refine ⟨?_, by simp [formedV], by simp [depthV]⟩
        rw [encV, if_pos rfl, zig_unzig, (decN_dec hn).1, hc]; rfl
    · by_cases h2 : c.toNat = 2
      · have hc : c = 2 := UInt8.toNat_inj.mp h2
        rw [decV_2 r h2, decLen] at h
        cases hn : decN 0 0 b with
        | none => rw [hn] at h; cases h
        | some x =>
          obtain ⟨u, b'⟩ := x
          rw [hn] at h
          simp only at h
          by_cases hle : u ≤ b'.length
          · rw [if_pos hle] at h
            simp only [Option.map_some, Option.some.injEq, Prod.mk.injEq] at h
            obtain ⟨rfl, rfl⟩ := h
            refine ⟨?_, by simp [formedV], by simp [depthV]⟩
            rw [encV, if_neg (by decide), if_pos rfl, List.length_take, Nat.min_eq_left hle, (decN_dec hn).1, hc]
            simp
          · rw [if_neg hle] at h; cases h
      · by_cases h3 : c.toNat = 3
        · have hc : c = 3 := UInt8.toNat_inj.mp h3
          cases r with
          | zero => rw [decV_30 h3] at h; cases h
          | succ r =>
            rw [decV_3 r h3, decLen] at h
            cases hn : decN 0 0 b with
            | none => rw [hn] at h; cases h
            | some x =>
              obtain ⟨u, b'⟩ := x
              rw [hn] at h
              simp only at h
              by_cases hle : u ≤ b'.length
              · rw [if_pos hle] at h
                simp only at h
                cases hl : decL (decV r) u b' with
                | none => rw [hl] at h; cases h
                | some y =>
                  obtain ⟨l, b''⟩ := y
                  rw [hl] at h
                  simp only [Option.map_some, Option.some.injEq, Prod.mk.injEq] at h
                  obtain ⟨rfl, rfl⟩ := h
                  obtain ⟨h4, h5, h6, h7⟩ := decL_dec (r := r) (fun b v t => ih r (by omega) b v t) u b' l b'' hl
                  refine ⟨?_, by simp [formedV, h6], by rw [depthV, if_pos rfl]; omega⟩
                  rw [encV, if_neg (by decide), if_neg (by decide), (decN_dec hn).1, hc, h4, h5]
                  simp
              · rw [if_neg hle] at h; cases h
        · rw [decV_4 r h1 h2 h3] at h; cases h

end Go.Proofs.Ytflopfjhejchfaa
