/- The codec's walks: what is read. -/
import Derived.Test.YtflopfjhejchfaaRows
import Derived.Test.YtflopfjhejchfaaCodecN
set_option linter.unusedVariables false
set_option linter.unusedSimpArgs false
namespace Go.Proofs.Ytflopfjhejchfaa
open Go Go.Eng

/-- A numeral, read: what came before is acc, i digits of it. -/
def decN : Nat → Nat → List UInt8 → Option (Nat × List UInt8)
  | _, _, [] => none
  | i, acc, c :: t => if (i ≠ 0 ∧ c.toNat = 0) ∨ (9 ≤ i ∧ 1 < c.toNat) then none else if c.toNat < 128 then some (acc + c.toNat % 128 * 2 ^ (7 * i), t) else decN (i + 1) (acc + c.toNat % 128 * 2 ^ (7 * i)) t

/-- The error that a reader panics with. -/
abbrev errP : List PanicEntry := pan 28 (.int .i64 10)

/-- A reader at a place. -/
def Rd (B : Nat) (w : World) (br : Nat) (rest : List UInt8) : Prop :=
  ∃ p A cap, Blk w br 58 [.slice p rest.length cap] ∧ rest.length ≤ cap ∧ Sl w p A rest.length (bytesV rest) ∧ (0 < rest.length → A.block ≠ br ∧ A.block < B)

theorem Rd.lt {B : Nat} {w : World} {br : Nat} {rest : List UInt8} (h : Rd B w br rest) : br < w.heap.size := by
  obtain ⟨p, A, cap, h1, _⟩ := h; exact h1.lt
theorem Rd.ext {B : Nat} {w w' : World} {br : Nat} {rest : List UInt8} (h : Rd B w br rest) (he : Ext [] w w') : Rd B w' br rest := by
  obtain ⟨p, A, cap, h1, h2, h3, h4⟩ := h; exact ⟨p, A, cap, h1.ext he (by simp), h2, h3.ext0 he, h4⟩
theorem Rd.extX {B : Nat} {w w' : World} {br : Nat} {rest : List UInt8} {X : List Nat} (h : Rd B w br rest) (he : Ext X w w') (hb : br ∉ X) (hX : ∀ k, k ∈ X → B ≤ k) : Rd B w' br rest := by
  obtain ⟨p, A, cap, h1, h2, h3, h4⟩ := h
  refine ⟨p, A, cap, h1.ext he hb, h2, ⟨h3.1, ?_⟩, h4⟩
  by_cases h0 : 0 < rest.length
  · exact h3.2.ext he (fun hm => by have := hX _ hm; have := (h4 h0).2; omega)
  · have : rest = [] := List.eq_nil_of_length_eq_zero (by omega)
    subst this
    exact cells_nil _ _

theorem bytesV_drop (l : List UInt8) (k : Nat) : bytesV (l.drop k) = (bytesV l).drop k := by simp [bytesV]
theorem bytesV_take (l : List UInt8) (k : Nat) : bytesV (l.take k) = (bytesV l).take k := by simp [bytesV]

theorem want_at (a : Value) (b : Bool) (w : World) : Calls Try.prog 33 #[a, .bool b] w (RetOr (fun r w' => b = true ∧ Ext [] w w') (fun c w' => b = false ∧ c = errP ∧ w' = w)) := by
  refine calls_of_Sx (args := [a, .bool b]) Try.func33 rfl rfl ?_
  cases b with
  | true =>
    (repeat refine Sx.seq ?_)
    refine Sx.textR ?_
    refine Ox.pure rfl rfl (rp_move rfl rfl) ?_
    refine Ox.pure rfl rfl (rp_not rfl rfl) ?_
    refine Ox.nil ?_
    (repeat first | refine thenE_normal ?_ | refine thenE_exit ?_ | refine thenE_ret ?_ | refine blockE_normal ?_ | refine blockE_ret ?_ | refine blockE_same ?_ | refine blockE_other rfl ?_)
    (repeat refine Sx.seq ?_); first | refine Sx.cond_false rfl ?_ | refine Sx.cond rfl (fun h => absurd h (by simp [*])) (fun _ => ?_)
    (repeat refine Sx.seq ?_); refine Sx.skip ?_
    (repeat first | refine thenE_normal ?_ | refine thenE_exit ?_ | refine thenE_ret ?_ | refine blockE_normal ?_ | refine blockE_ret ?_ | refine blockE_same ?_ | refine blockE_other rfl ?_)
    exact endE_normal [] trivial ⟨rfl, by ((repeat (first | exact Ext.refl _ _ | assumption | refine Ext.trans ?_ (by assumption))); (first | done | fail "chain"))⟩
  | false =>
    (repeat refine Sx.seq ?_)
    refine Sx.textR ?_
    refine Ox.pure rfl rfl (rp_move rfl rfl) ?_
    refine Ox.pure rfl rfl (rp_not rfl rfl) ?_
    refine Ox.nil ?_
    (repeat first | refine thenE_normal ?_ | refine thenE_exit ?_ | refine thenE_ret ?_ | refine blockE_normal ?_ | refine blockE_ret ?_ | refine blockE_same ?_ | refine blockE_other rfl ?_)
    (repeat refine Sx.seq ?_); first | refine Sx.cond_true rfl ?_ | refine Sx.cond rfl (fun _ => ?_) (fun h => absurd h (by simp [*]))
    (repeat refine Sx.seq ?_)
    refine Sx.textR ?_
    refine Ox.pure rfl rfl (rp_iface rfl rfl rfl rfl) ?_
    refine Ox.act rfl rfl (acts_panic (K := fun _ _ => False) rfl rfl (by (repeat first | refine thenE_panic ?_ | refine blockE_panic ?_); exact ⟨rfl, rfl, rfl⟩)) ?_
    intro v w' h; exact h.elim

theorem take_at (B : Nat) (w : World) (br : Nat) (rest : List UInt8) (k : Nat) (hk : k ≤ 9223372036854775807) (hl : rest.length ≤ 140737488355328) (hR : Rd B w br rest) :
    Calls Try.prog 44 #[.pointer (some ⟨br, 0, none⟩), .int .i64 (k : Int)] w
      (RetOr (fun r w' => k ≤ rest.length ∧ Ext [br] w w' ∧ Rd B w' br (rest.drop k) ∧ ∃ p A, r = .slice p k k ∧ Sl w' p A k (bytesV (rest.take k)) ∧ (0 < k → A.block ≠ br)) (fun c w' => rest.length < k ∧ c = errP ∧ Ext [br] w w')) := by
  obtain ⟨p, A, cap, hB, hcap, hsl, hne⟩ := hR
  have hBc := hB.cells
  refine calls_of_Sx (args := [.pointer (some ⟨br, 0, none⟩), .int .i64 (k : Int)]) Try.func44 rfl rfl ?_
  (repeat refine Sx.seq ?_)
  refine Sx.textR ?_
  refine Ox.pure rfl rfl (rp_assign rfl rfl) ?_
  refine Ox.nil ?_
  (repeat first | refine thenE_normal ?_ | refine thenE_exit ?_ | refine thenE_ret ?_ | refine blockE_normal ?_ | refine blockE_ret ?_ | refine blockE_same ?_ | refine blockE_other rfl ?_)
  by_cases hle : k ≤ rest.length
  · (repeat refine Sx.seq ?_)
    refine Sx.textR ?_
    refine Ox.pure rfl rfl (rp_move rfl rfl) ?_
    refine Ox.pure rfl rfl (rp_move rfl rfl) ?_
    refine Ox.pure rfl rfl (rp_move rfl rfl) ?_
    refine Ox.pure rfl rfl (by first | exact rp_nilP rfl rfl | exact rp_nilF rfl rfl) ?_
    refine Ox.pure rfl rfl (rp_fieldAddr rfl rfl rfl rfl) ?_
    refine Ox.val rfl rfl (rv_load rfl rfl (by (intro u hu; first | exact Cells.ld (Cells.ext0 (by assumption) (by ((repeat (first | exact Ext.refl _ _ | assumption | refine Ext.trans ?_ (by assumption))); (first | done | fail "chain")))) _ rfl rfl | exact Cells.ld0 (Cells.ext0 (by assumption) (by ((repeat (first | exact Ext.refl _ _ | assumption | refine Ext.trans ?_ (by assumption))); (first | done | fail "chain")))) rfl rfl | exact Cells.ldA (Cells.ext0 (by assumption) (by ((repeat (first | exact Ext.refl _ _ | assumption | refine Ext.trans ?_ (by assumption))); (first | done | fail "chain")))) rfl rfl | exact Cells.ldL (Cells.ext0 (by assumption) (by ((repeat (first | exact Ext.refl _ _ | assumption | refine Ext.trans ?_ (by assumption))); (first | done | fail "chain")))) rfl rfl (by assumption) | exact Cells.ldP (Cells.ext0 (by assumption) (by ((repeat (first | exact Ext.refl _ _ | assumption | refine Ext.trans ?_ (by assumption))); (first | done | fail "chain")))) _ rfl rfl rfl rfl | exact Cells.ldP (Cells.ext0 (by assumption) (by ((repeat (first | exact Ext.refl _ _ | assumption | refine Ext.trans ?_ (by assumption))); (first | done | fail "chain")))) _ rfl rfl (by assumption) (by assumption)))) ?_
    refine Ox.pure rfl rfl (rp_lenS rfl rfl rfl) ?_
    refine Ox.pure rfl rfl (by first | exact rp_bin rfl rfl rfl (binI_t (by omega)) | exact rp_bin rfl rfl rfl (binI_f (by omega)) | exact rp_bin rfl rfl rfl rfl) ?_
    refine Ox.act rfl rfl (acts_call_or rfl rfl rfl (want_at _ _ _) (by intro c w9 hz9; (repeat first | refine thenE_panic ?_ | refine blockE_panic ?_); exact absurd hz9.1 (by simp))) ?_
    rintro v1 w1 ⟨_, e1⟩
    refine Ox.nil ?_
    (repeat first | refine thenE_normal ?_ | refine thenE_exit ?_ | refine thenE_ret ?_ | refine blockE_normal ?_ | refine blockE_ret ?_ | refine blockE_same ?_ | refine blockE_other rfl ?_)
    (repeat refine Sx.seq ?_)
    refine Sx.textR ?_
    refine Ox.pure rfl rfl (rp_move rfl rfl) ?_
    refine Ox.pure rfl rfl (by first | exact rp_nilP rfl rfl | exact rp_nilF rfl rfl) ?_
    refine Ox.pure rfl rfl (rp_fieldAddr rfl rfl rfl rfl) ?_
    refine Ox.val rfl rfl (rv_load rfl rfl (by (intro u hu; first | exact Cells.ld (Cells.ext0 (by assumption) (by ((repeat (first | exact Ext.refl _ _ | assumption | refine Ext.trans ?_ (by assumption))); (first | done | fail "chain")))) _ rfl rfl | exact Cells.ld0 (Cells.ext0 (by assumption) (by ((repeat (first | exact Ext.refl _ _ | assumption | refine Ext.trans ?_ (by assumption))); (first | done | fail "chain")))) rfl rfl | exact Cells.ldA (Cells.ext0 (by assumption) (by ((repeat (first | exact Ext.refl _ _ | assumption | refine Ext.trans ?_ (by assumption))); (first | done | fail "chain")))) rfl rfl | exact Cells.ldL (Cells.ext0 (by assumption) (by ((repeat (first | exact Ext.refl _ _ | assumption | refine Ext.trans ?_ (by assumption))); (first | done | fail "chain")))) rfl rfl (by assumption) | exact Cells.ldP (Cells.ext0 (by assumption) (by ((repeat (first | exact Ext.refl _ _ | assumption | refine Ext.trans ?_ (by assumption))); (first | done | fail "chain")))) _ rfl rfl rfl rfl | exact Cells.ldP (Cells.ext0 (by assumption) (by ((repeat (first | exact Ext.refl _ _ | assumption | refine Ext.trans ?_ (by assumption))); (first | done | fail "chain")))) _ rfl rfl (by assumption) (by assumption)))) ?_
    refine Ox.pure rfl rfl (rp_move rfl rfl) ?_
    refine Ox.pure rfl rfl (rp_move rfl rfl) ?_
    refine Ox.pure rfl rfl (rp_slice3 0 k k rfl rfl rfl rfl rfl rfl rfl (.inl ⟨rfl, rfl⟩) ⟨_, rfl⟩ ⟨_, rfl⟩ (by omega) (by omega) (by omega)) ?_
    refine Ox.pure rfl rfl (rp_assign rfl rfl) ?_
    refine Ox.nil ?_
    (repeat first | refine thenE_normal ?_ | refine thenE_exit ?_ | refine thenE_ret ?_ | refine blockE_normal ?_ | refine blockE_ret ?_ | refine blockE_same ?_ | refine blockE_other rfl ?_)
    (repeat refine Sx.seq ?_)
    refine Sx.textR ?_
    refine Ox.pure rfl rfl (rp_move rfl rfl) ?_
    refine Ox.pure rfl rfl (rp_move rfl rfl) ?_
    refine Ox.pure rfl rfl (by first | exact rp_nilP rfl rfl | exact rp_nilF rfl rfl) ?_
    refine Ox.pure rfl rfl (rp_fieldAddr rfl rfl rfl rfl) ?_
    refine Ox.val rfl rfl (rv_load rfl rfl (by (intro u hu; first | exact Cells.ld (Cells.ext0 (by assumption) (by ((repeat (first | exact Ext.refl _ _ | assumption | refine Ext.trans ?_ (by assumption))); (first | done | fail "chain")))) _ rfl rfl | exact Cells.ld0 (Cells.ext0 (by assumption) (by ((repeat (first | exact Ext.refl _ _ | assumption | refine Ext.trans ?_ (by assumption))); (first | done | fail "chain")))) rfl rfl | exact Cells.ldA (Cells.ext0 (by assumption) (by ((repeat (first | exact Ext.refl _ _ | assumption | refine Ext.trans ?_ (by assumption))); (first | done | fail "chain")))) rfl rfl | exact Cells.ldL (Cells.ext0 (by assumption) (by ((repeat (first | exact Ext.refl _ _ | assumption | refine Ext.trans ?_ (by assumption))); (first | done | fail "chain")))) rfl rfl (by assumption) | exact Cells.ldP (Cells.ext0 (by assumption) (by ((repeat (first | exact Ext.refl _ _ | assumption | refine Ext.trans ?_ (by assumption))); (first | done | fail "chain")))) _ rfl rfl rfl rfl | exact Cells.ldP (Cells.ext0 (by assumption) (by ((repeat (first | exact Ext.refl _ _ | assumption | refine Ext.trans ?_ (by assumption))); (first | done | fail "chain")))) _ rfl rfl (by assumption) (by assumption)))) ?_
    refine Ox.pure rfl rfl (rp_move rfl rfl) ?_
    refine Ox.pure rfl rfl (rp_sliceS k rest.length rfl rfl rfl rfl rfl rfl (.inr ⟨_, rfl⟩) (.inl ⟨rfl, rfl⟩) (by omega) (by omega)) ?_
    refine Ox.pure rfl rfl (by first | exact rp_nilP rfl rfl | exact rp_nilF rfl rfl) ?_
    refine Ox.pure rfl rfl (rp_fieldAddr rfl rfl rfl rfl) ?_
    refine Ox.act rfl rfl (acts_store_all rfl rfl rfl (hB.ext (X := []) (by ((repeat (first | exact Ext.refl _ _ | assumption | refine Ext.trans ?_ (by assumption))); (first | done | fail "chain"))) (by simp)) rfl rfl rfl (by (first | assumption | exact List.all_eq_true.mp rfl | simp [Value.cells, Value.oneCell']))) ?_
    rintro vst wst ⟨rfl, qst, hBst⟩
    refine Ox.nil ?_
    (repeat first | refine thenE_normal ?_ | refine thenE_exit ?_ | refine thenE_ret ?_ | refine blockE_normal ?_ | refine blockE_ret ?_ | refine blockE_same ?_ | refine blockE_other rfl ?_)
    (repeat refine Sx.seq ?_)
    refine Sx.textR ?_
    refine Ox.pure rfl rfl (rp_move rfl rfl) ?_
    refine Ox.pure rfl rfl (rp_assign rfl rfl) ?_
    refine Ox.nil ?_
    (repeat first | refine thenE_normal ?_ | refine thenE_exit ?_ | refine thenE_ret ?_ | refine blockE_normal ?_ | refine blockE_ret ?_ | refine blockE_same ?_ | refine blockE_other rfl ?_)
    (repeat refine Sx.seq ?_); refine Sx.ret ?_
    (repeat first | refine thenE_normal ?_ | refine thenE_exit ?_ | refine thenE_ret ?_ | refine blockE_normal ?_ | refine blockE_ret ?_ | refine blockE_same ?_ | refine blockE_other rfl ?_)
    refine endE_ret [_] ⟨rfl, trivial⟩ ⟨hle, (Ext.up (by ((repeat (first | exact Ext.refl _ _ | assumption | refine Ext.trans ?_ (by assumption))); (first | done | fail "chain")))).trans qst, ⟨_, A.add k, _, (by rw [List.length_drop]; exact hBst), (by rw [List.length_drop]; omega), ⟨fun h => ?_, ?_⟩, fun h => ?_⟩, _, A, rfl, ⟨fun h => ?_, ?_⟩, fun h => (hne (by omega)).1⟩
    · rw [List.length_drop] at h
      have h9 : (if cap = k then p else p.map (·.add (k * 1))) = some (A.add k) := by rw [if_neg (by omega), hsl.1 (by omega), Nat.mul_one]; rfl
      exact h9
    · by_cases h0 : rest.length = k
      · rw [List.drop_of_length_le (by omega)]; exact cells_nil _ _
      · rw [bytesV_drop]
        exact (hsl.2.ext ((Ext.up (by ((repeat (first | exact Ext.refl _ _ | assumption | refine Ext.trans ?_ (by assumption))); (first | done | fail "chain")))).trans qst) (by simp; exact (hne (by omega)).1)).drop k
    · rw [List.length_drop] at h
      rw [addr_block]; exact hne (by omega)
    · have h9 : (if k = 0 then p else p.map (·.add (0 * 1))) = some A := by rw [if_neg (by omega), hsl.1 (by omega), Nat.zero_mul]; simp [addr_add0]
      exact h9
    · by_cases h0 : 0 < k
      · rw [bytesV_take]
        exact (hsl.2.ext ((Ext.up (by ((repeat (first | exact Ext.refl _ _ | assumption | refine Ext.trans ?_ (by assumption))); (first | done | fail "chain")))).trans qst) (by simp; exact (hne (by omega)).1)).take k
      · rw [show k = 0 by omega, List.take_zero]; exact cells_nil _ _
  · (repeat refine Sx.seq ?_)
    refine Sx.textR ?_
    refine Ox.pure rfl rfl (rp_move rfl rfl) ?_
    refine Ox.pure rfl rfl (rp_move rfl rfl) ?_
    refine Ox.pure rfl rfl (rp_move rfl rfl) ?_
    refine Ox.pure rfl rfl (by first | exact rp_nilP rfl rfl | exact rp_nilF rfl rfl) ?_
    refine Ox.pure rfl rfl (rp_fieldAddr rfl rfl rfl rfl) ?_
    refine Ox.val rfl rfl (rv_load rfl rfl (by (intro u hu; first | exact Cells.ld (Cells.ext0 (by assumption) (by ((repeat (first | exact Ext.refl _ _ | assumption | refine Ext.trans ?_ (by assumption))); (first | done | fail "chain")))) _ rfl rfl | exact Cells.ld0 (Cells.ext0 (by assumption) (by ((repeat (first | exact Ext.refl _ _ | assumption | refine Ext.trans ?_ (by assumption))); (first | done | fail "chain")))) rfl rfl | exact Cells.ldA (Cells.ext0 (by assumption) (by ((repeat (first | exact Ext.refl _ _ | assumption | refine Ext.trans ?_ (by assumption))); (first | done | fail "chain")))) rfl rfl | exact Cells.ldL (Cells.ext0 (by assumption) (by ((repeat (first | exact Ext.refl _ _ | assumption | refine Ext.trans ?_ (by assumption))); (first | done | fail "chain")))) rfl rfl (by assumption) | exact Cells.ldP (Cells.ext0 (by assumption) (by ((repeat (first | exact Ext.refl _ _ | assumption | refine Ext.trans ?_ (by assumption))); (first | done | fail "chain")))) _ rfl rfl rfl rfl | exact Cells.ldP (Cells.ext0 (by assumption) (by ((repeat (first | exact Ext.refl _ _ | assumption | refine Ext.trans ?_ (by assumption))); (first | done | fail "chain")))) _ rfl rfl (by assumption) (by assumption)))) ?_
    refine Ox.pure rfl rfl (rp_lenS rfl rfl rfl) ?_
    refine Ox.pure rfl rfl (by first | exact rp_bin rfl rfl rfl (binI_t (by omega)) | exact rp_bin rfl rfl rfl (binI_f (by omega)) | exact rp_bin rfl rfl rfl rfl) ?_
    refine Ox.act rfl rfl (acts_never rfl rfl rfl (want_at _ _ _) (by intro c w9 hz9; (repeat first | refine thenE_panic ?_ | refine blockE_panic ?_); exact ⟨by omega, hz9.2.1, by rw [hz9.2.2]; exact Ext.refl _ _⟩) (fun v w h => absurd h.1 (by first | decide | omega))) (fun _ _ h => h.elim)

theorem decN_bound {i : Nat} (h9 : i ≤ 9) {acc c : Nat} (ha : acc < 2 ^ (7 * i)) (hc : c < 256) (h : ¬ (9 ≤ i ∧ 1 < c)) : c % 128 * 2 ^ (7 * i) < 18446744073709551616 ∧ acc + c % 128 * 2 ^ (7 * i) < 18446744073709551616 ∧ (i < 9 → acc + c % 128 * 2 ^ (7 * i) < 2 ^ (7 * (i + 1))) := by
  have hi : i = 0 ∨ i = 1 ∨ i = 2 ∨ i = 3 ∨ i = 4 ∨ i = 5 ∨ i = 6 ∨ i = 7 ∨ i = 8 ∨ i = 9 := by omega
  rcases hi with rfl | rfl | rfl | rfl | rfl | rfl | rfl | rfl | rfl | rfl <;> simp only [Nat.reduceMul, Nat.reducePow, Nat.reduceAdd] at ha ⊢ <;> omega

theorem number_at (B : Nat) (w : World) (br : Nat) (rest : List UInt8) (hl : rest.length ≤ 140737488355328) (hR : Rd B w br rest) :
    Calls Try.prog 46 #[.pointer (some ⟨br, 0, none⟩)] w
      (RetOr (fun r w' => Ext [br] w w' ∧ ∃ u rest', decN 0 0 rest = some (u, rest') ∧ r = .int .u64 (u : Nat) ∧ u < 18446744073709551616 ∧ Rd B w' br rest') (fun c w' => decN 0 0 rest = none ∧ c = errP ∧ Ext [br] w w')) := by
  refine calls_of_Sx (args := [.pointer (some ⟨br, 0, none⟩)]) Try.func46 rfl rfl ?_
  (repeat refine Sx.seq ?_)
  refine Sx.textR ?_
  refine Ox.pure rfl rfl (rp_assign rfl rfl) ?_
  refine Ox.nil ?_
  (repeat first | refine thenE_normal ?_ | refine thenE_exit ?_ | refine thenE_ret ?_ | refine blockE_normal ?_ | refine blockE_ret ?_ | refine blockE_same ?_ | refine blockE_other rfl ?_)
  (repeat refine Sx.seq ?_)
  refine Sx.textR ?_
  refine Ox.pure rfl rfl (rp_assign rfl rfl) ?_
  refine Ox.nil ?_
  (repeat first | refine thenE_normal ?_ | refine thenE_exit ?_ | refine thenE_ret ?_ | refine blockE_normal ?_ | refine blockE_ret ?_ | refine blockE_same ?_ | refine blockE_other rfl ?_)
  (repeat refine Sx.seq ?_); refine Sx.block ?_
  refine Sx.loop (ι := Nat × Nat × List UInt8) (fun i E wr => E = [(0, .pointer (some ⟨br, 0, none⟩)), (2, .int .u64 (i.2.1 : Int)), (3, .int .i64 (i.1 : Int))] ∧ i.1 ≤ 9 ∧ i.2.1 < 2 ^ (7 * i.1) ∧ i.2.2.length ≤ 140737488355328 ∧ decN 0 0 rest = decN i.1 i.2.1 i.2.2 ∧ Rd B wr br i.2.2 ∧ Ext [br] w wr) (fun i => i.2.2.length) (0, 0, rest)
    (sub_cons rfl (sub_cons rfl (sub_cons rfl sub_nil))) ⟨rfl, Nat.zero_le _, Nat.zero_lt_one, hl, rfl, hR.ext (by ((repeat (first | exact Ext.refl _ _ | assumption | refine Ext.trans ?_ (by assumption))); (first | done | fail "chain"))), Ext.up (by ((repeat (first | exact Ext.refl _ _ | assumption | refine Ext.trans ?_ (by assumption))); (first | done | fail "chain")))⟩ ?_
  rintro ⟨i, acc, rs⟩ E wr ⟨rfl, hi, hacc, hrl, hdec, hRr, er⟩
  dsimp only at hi hacc hrl hdec hRr ⊢
  have hltbr := hRr.lt
  cases rs with
  | nil =>
    (repeat refine Sx.seq ?_); refine Sx.block ?_
    (repeat refine Sx.seq ?_)
    refine Sx.textR ?_
    refine Ox.pure rfl rfl (rp_move rfl rfl) ?_
    refine Ox.act rfl rfl (acts_never rfl rfl rfl (take_at B _ br [] 1 (by decide) (by decide) (hRr.ext (by ((repeat (first | exact Ext.refl _ _ | assumption | refine Ext.trans ?_ (by assumption))); (first | done | fail "chain"))))) (by intro c w9 hz9; (repeat first | refine thenE_panic ?_ | refine blockE_panic ?_); exact ⟨hdec, hz9.2.1, er.trans hz9.2.2⟩) (fun v w h => absurd h.1 (by first | decide | omega))) (fun _ _ h => h.elim)
  | cons c t =>
    rw [decN] at hdec
    have hc := c.toNat_lt
    by_cases hbad : (i ≠ 0 ∧ c.toNat = 0) ∨ (9 ≤ i ∧ 1 < c.toNat)
    · rw [if_pos hbad] at hdec
      rcases hbad with ⟨h1, h2⟩ | ⟨h1, h2⟩
      · (repeat refine Sx.seq ?_); refine Sx.block ?_
        (repeat refine Sx.seq ?_)
        refine Sx.textR ?_
        refine Ox.pure rfl rfl (rp_move rfl rfl) ?_
        refine Ox.act rfl rfl (acts_call_or rfl rfl rfl (take_at B _ br (c :: t) 1 (by decide) hrl (hRr.ext (by ((repeat (first | exact Ext.refl _ _ | assumption | refine Ext.trans ?_ (by assumption))); (first | done | fail "chain"))))) (by intro c w9 hz9; (repeat first | refine thenE_panic ?_ | refine blockE_panic ?_); exact absurd hz9.1 (by simp))) ?_
        rintro vtk wtk ⟨_, etk, hRt, pt, At, rfl, hst, hnt⟩
        have hpt := hst.1; have hCt := hst.2; have hztk := etk.size
        refine Ox.pure rfl rfl (rp_indexAddr _ rfl rfl rfl rfl rfl (by assumption) rfl (by first | omega | decide)) ?_
        refine Ox.val rfl rfl (rv_load rfl rfl (by (intro u hu; first | exact Cells.ld (Cells.ext0 (by assumption) (by ((repeat (first | exact Ext.refl _ _ | assumption | refine Ext.trans ?_ (by assumption))); (first | done | fail "chain")))) _ rfl rfl | exact Cells.ld0 (Cells.ext0 (by assumption) (by ((repeat (first | exact Ext.refl _ _ | assumption | refine Ext.trans ?_ (by assumption))); (first | done | fail "chain")))) rfl rfl | exact Cells.ldA (Cells.ext0 (by assumption) (by ((repeat (first | exact Ext.refl _ _ | assumption | refine Ext.trans ?_ (by assumption))); (first | done | fail "chain")))) rfl rfl | exact Cells.ldL (Cells.ext0 (by assumption) (by ((repeat (first | exact Ext.refl _ _ | assumption | refine Ext.trans ?_ (by assumption))); (first | done | fail "chain")))) rfl rfl (by assumption) | exact Cells.ldP (Cells.ext0 (by assumption) (by ((repeat (first | exact Ext.refl _ _ | assumption | refine Ext.trans ?_ (by assumption))); (first | done | fail "chain")))) _ rfl rfl rfl rfl | exact Cells.ldP (Cells.ext0 (by assumption) (by ((repeat (first | exact Ext.refl _ _ | assumption | refine Ext.trans ?_ (by assumption))); (first | done | fail "chain")))) _ rfl rfl (by assumption) (by assumption)))) ?_
        refine Ox.pure rfl rfl (rp_assign rfl rfl) ?_
        refine Ox.nil ?_
        (repeat first | refine thenE_normal ?_ | refine thenE_exit ?_ | refine thenE_ret ?_ | refine blockE_normal ?_ | refine blockE_ret ?_ | refine blockE_same ?_ | refine blockE_other rfl ?_)
        (repeat refine Sx.seq ?_)
        refine Sx.textR ?_
        refine Ox.pure rfl rfl (rp_move rfl rfl) ?_
        refine Ox.pure rfl rfl (rp_move rfl rfl) ?_
        refine Ox.pure rfl rfl (by first | exact rp_bin rfl rfl rfl (binI_t (by omega)) | exact rp_bin rfl rfl rfl (binI_f (by omega)) | exact rp_bin rfl rfl rfl rfl) ?_
        refine Ox.pure rfl rfl (rp_move rfl rfl) ?_
        first | (refine Ox.skip rfl rfl ?_) | (refine Ox.pure rfl rfl (rp_move rfl rfl) ?_)
        first | (refine Ox.skip rfl rfl ?_) | (refine Ox.pure rfl rfl (by first | exact rp_bin rfl rfl rfl (binI_t (by omega)) | exact rp_bin rfl rfl rfl (binI_f (by omega)) | exact rp_bin rfl rfl rfl rfl) ?_)
        refine Ox.pure rfl rfl (by first | exact rp_pick_t rfl rfl rfl | exact rp_pick_f rfl rfl rfl) ?_
        refine Ox.pure rfl rfl (rp_move rfl rfl) ?_
        first | (refine Ox.skip rfl rfl ?_) | (refine Ox.pure rfl rfl (rp_move rfl rfl) ?_)
        first | (refine Ox.skip rfl rfl ?_) | (refine Ox.pure rfl rfl (by first | exact rp_bin rfl rfl rfl (binI_t (by omega)) | exact rp_bin rfl rfl rfl (binI_f (by omega)) | exact rp_bin rfl rfl rfl rfl) ?_)
        first | (refine Ox.skip rfl rfl ?_) | (refine Ox.pure rfl rfl (rp_move rfl rfl) ?_)
        first | (refine Ox.skip rfl rfl ?_) | (refine Ox.pure rfl rfl (rp_move rfl rfl) ?_)
        first | (refine Ox.skip rfl rfl ?_) | (refine Ox.pure rfl rfl (by first | exact rp_bin rfl rfl rfl (binI_t (by omega)) | exact rp_bin rfl rfl rfl (binI_f (by omega)) | exact rp_bin rfl rfl rfl rfl) ?_)
        first | (refine Ox.skip rfl rfl ?_) | (refine Ox.pure rfl rfl (by first | exact rp_pick_t rfl rfl rfl | exact rp_pick_f rfl rfl rfl) ?_)
        refine Ox.pure rfl rfl (by first | exact rp_pick_t rfl rfl rfl | exact rp_pick_f rfl rfl rfl) ?_
        refine Ox.act rfl rfl (acts_never rfl rfl rfl (want_at _ _ _) (by intro c w9 hz9; (repeat first | refine thenE_panic ?_ | refine blockE_panic ?_); exact ⟨hdec, hz9.2.1, er.trans (etk.trans (by rw [hz9.2.2]; exact Ext.refl _ _))⟩) (fun v w h => absurd h.1 (by first | decide | omega))) (fun _ _ h => h.elim)
      · (repeat refine Sx.seq ?_); refine Sx.block ?_
        (repeat refine Sx.seq ?_)
        refine Sx.textR ?_
        refine Ox.pure rfl rfl (rp_move rfl rfl) ?_
        refine Ox.act rfl rfl (acts_call_or rfl rfl rfl (take_at B _ br (c :: t) 1 (by decide) hrl (hRr.ext (by ((repeat (first | exact Ext.refl _ _ | assumption | refine Ext.trans ?_ (by assumption))); (first | done | fail "chain"))))) (by intro c w9 hz9; (repeat first | refine thenE_panic ?_ | refine blockE_panic ?_); exact absurd hz9.1 (by simp))) ?_
        rintro vtk wtk ⟨_, etk, hRt, pt, At, rfl, hst, hnt⟩
        have hpt := hst.1; have hCt := hst.2; have hztk := etk.size
        refine Ox.pure rfl rfl (rp_indexAddr _ rfl rfl rfl rfl rfl (by assumption) rfl (by first | omega | decide)) ?_
        refine Ox.val rfl rfl (rv_load rfl rfl (by (intro u hu; first | exact Cells.ld (Cells.ext0 (by assumption) (by ((repeat (first | exact Ext.refl _ _ | assumption | refine Ext.trans ?_ (by assumption))); (first | done | fail "chain")))) _ rfl rfl | exact Cells.ld0 (Cells.ext0 (by assumption) (by ((repeat (first | exact Ext.refl _ _ | assumption | refine Ext.trans ?_ (by assumption))); (first | done | fail "chain")))) rfl rfl | exact Cells.ldA (Cells.ext0 (by assumption) (by ((repeat (first | exact Ext.refl _ _ | assumption | refine Ext.trans ?_ (by assumption))); (first | done | fail "chain")))) rfl rfl | exact Cells.ldL (Cells.ext0 (by assumption) (by ((repeat (first | exact Ext.refl _ _ | assumption | refine Ext.trans ?_ (by assumption))); (first | done | fail "chain")))) rfl rfl (by assumption) | exact Cells.ldP (Cells.ext0 (by assumption) (by ((repeat (first | exact Ext.refl _ _ | assumption | refine Ext.trans ?_ (by assumption))); (first | done | fail "chain")))) _ rfl rfl rfl rfl | exact Cells.ldP (Cells.ext0 (by assumption) (by ((repeat (first | exact Ext.refl _ _ | assumption | refine Ext.trans ?_ (by assumption))); (first | done | fail "chain")))) _ rfl rfl (by assumption) (by assumption)))) ?_
        refine Ox.pure rfl rfl (rp_assign rfl rfl) ?_
        refine Ox.nil ?_
        (repeat first | refine thenE_normal ?_ | refine thenE_exit ?_ | refine thenE_ret ?_ | refine blockE_normal ?_ | refine blockE_ret ?_ | refine blockE_same ?_ | refine blockE_other rfl ?_)
        (repeat refine Sx.seq ?_)
        refine Sx.textR ?_
        refine Ox.pure rfl rfl (rp_move rfl rfl) ?_
        refine Ox.pure rfl rfl (rp_move rfl rfl) ?_
        refine Ox.pure rfl rfl (by first | exact rp_bin rfl rfl rfl (binI_t (by omega)) | exact rp_bin rfl rfl rfl (binI_f (by omega)) | exact rp_bin rfl rfl rfl rfl) ?_
        refine Ox.pure rfl rfl (rp_move rfl rfl) ?_
        first | (refine Ox.skip rfl rfl ?_) | (refine Ox.pure rfl rfl (rp_move rfl rfl) ?_)
        first | (refine Ox.skip rfl rfl ?_) | (refine Ox.pure rfl rfl (by first | exact rp_bin rfl rfl rfl (binI_t (by omega)) | exact rp_bin rfl rfl rfl (binI_f (by omega)) | exact rp_bin rfl rfl rfl rfl) ?_)
        refine Ox.pure rfl rfl (by first | exact rp_pick_t rfl rfl rfl | exact rp_pick_f rfl rfl rfl) ?_
        refine Ox.pure rfl rfl (rp_move rfl rfl) ?_
        first | (refine Ox.skip rfl rfl ?_) | (refine Ox.pure rfl rfl (rp_move rfl rfl) ?_)
        first | (refine Ox.skip rfl rfl ?_) | (refine Ox.pure rfl rfl (by first | exact rp_bin rfl rfl rfl (binI_t (by omega)) | exact rp_bin rfl rfl rfl (binI_f (by omega)) | exact rp_bin rfl rfl rfl rfl) ?_)
        first | (refine Ox.skip rfl rfl ?_) | (refine Ox.pure rfl rfl (rp_move rfl rfl) ?_)
        first | (refine Ox.skip rfl rfl ?_) | (refine Ox.pure rfl rfl (rp_move rfl rfl) ?_)
        first | (refine Ox.skip rfl rfl ?_) | (refine Ox.pure rfl rfl (by first | exact rp_bin rfl rfl rfl (binI_t (by omega)) | exact rp_bin rfl rfl rfl (binI_f (by omega)) | exact rp_bin rfl rfl rfl rfl) ?_)
        first | (refine Ox.skip rfl rfl ?_) | (refine Ox.pure rfl rfl (by first | exact rp_pick_t rfl rfl rfl | exact rp_pick_f rfl rfl rfl) ?_)
        refine Ox.pure rfl rfl (by first | exact rp_pick_t rfl rfl rfl | exact rp_pick_f rfl rfl rfl) ?_
        refine Ox.act rfl rfl (acts_never rfl rfl rfl (want_at _ _ _) (by intro c w9 hz9; (repeat first | refine thenE_panic ?_ | refine blockE_panic ?_); exact ⟨hdec, hz9.2.1, er.trans (etk.trans (by rw [hz9.2.2]; exact Ext.refl _ _))⟩) (fun v w h => absurd h.1 (by first | decide | omega))) (fun _ _ h => h.elim)
    · rw [if_neg hbad] at hdec
      obtain ⟨hb1, hb2, hb3⟩ := decN_bound hi hacc hc (by omega)
      (repeat refine Sx.seq ?_); refine Sx.block ?_
      (repeat refine Sx.seq ?_)
      refine Sx.textR ?_
      refine Ox.pure rfl rfl (rp_move rfl rfl) ?_
      refine Ox.act rfl rfl (acts_call_or rfl rfl rfl (take_at B _ br (c :: t) 1 (by decide) hrl (hRr.ext (by ((repeat (first | exact Ext.refl _ _ | assumption | refine Ext.trans ?_ (by assumption))); (first | done | fail "chain"))))) (by intro c w9 hz9; (repeat first | refine thenE_panic ?_ | refine blockE_panic ?_); exact absurd hz9.1 (by simp))) ?_
      rintro vtk wtk ⟨_, etk, hRt, pt, At, rfl, hst, hnt⟩
      have hpt := hst.1; have hCt := hst.2; have hztk := etk.size
      refine Ox.pure rfl rfl (rp_indexAddr _ rfl rfl rfl rfl rfl (by assumption) rfl (by first | omega | decide)) ?_
      refine Ox.val rfl rfl (rv_load rfl rfl (by (intro u hu; first | exact Cells.ld (Cells.ext0 (by assumption) (by ((repeat (first | exact Ext.refl _ _ | assumption | refine Ext.trans ?_ (by assumption))); (first | done | fail "chain")))) _ rfl rfl | exact Cells.ld0 (Cells.ext0 (by assumption) (by ((repeat (first | exact Ext.refl _ _ | assumption | refine Ext.trans ?_ (by assumption))); (first | done | fail "chain")))) rfl rfl | exact Cells.ldA (Cells.ext0 (by assumption) (by ((repeat (first | exact Ext.refl _ _ | assumption | refine Ext.trans ?_ (by assumption))); (first | done | fail "chain")))) rfl rfl | exact Cells.ldL (Cells.ext0 (by assumption) (by ((repeat (first | exact Ext.refl _ _ | assumption | refine Ext.trans ?_ (by assumption))); (first | done | fail "chain")))) rfl rfl (by assumption) | exact Cells.ldP (Cells.ext0 (by assumption) (by ((repeat (first | exact Ext.refl _ _ | assumption | refine Ext.trans ?_ (by assumption))); (first | done | fail "chain")))) _ rfl rfl rfl rfl | exact Cells.ldP (Cells.ext0 (by assumption) (by ((repeat (first | exact Ext.refl _ _ | assumption | refine Ext.trans ?_ (by assumption))); (first | done | fail "chain")))) _ rfl rfl (by assumption) (by assumption)))) ?_
      refine Ox.pure rfl rfl (rp_assign rfl rfl) ?_
      refine Ox.nil ?_
      (repeat first | refine thenE_normal ?_ | refine thenE_exit ?_ | refine thenE_ret ?_ | refine blockE_normal ?_ | refine blockE_ret ?_ | refine blockE_same ?_ | refine blockE_other rfl ?_)
      refine Sx.cut (ι := Unit) (fun _ => [(0, .pointer (some ⟨br, 0, none⟩)), (2, .int .u64 (acc : Int)), (3, .int .i64 (i : Int)), (4, .int .u8 (c.toNat : Int))]) (fun _ w' => Ext [] wtk w') ?_ ?_
      · by_cases h0 : i = 0
        · (repeat refine Sx.seq ?_)
          refine Sx.textR ?_
          refine Ox.pure rfl rfl (rp_move rfl rfl) ?_
          refine Ox.pure rfl rfl (rp_move rfl rfl) ?_
          refine Ox.pure rfl rfl (by first | exact rp_bin rfl rfl rfl (binI_t (by omega)) | exact rp_bin rfl rfl rfl (binI_f (by omega)) | exact rp_bin rfl rfl rfl rfl) ?_
          refine Ox.pure rfl rfl (rp_move rfl rfl) ?_
          first | (refine Ox.skip rfl rfl ?_) | (refine Ox.pure rfl rfl (rp_move rfl rfl) ?_)
          first | (refine Ox.skip rfl rfl ?_) | (refine Ox.pure rfl rfl (by first | exact rp_bin rfl rfl rfl (binI_t (by omega)) | exact rp_bin rfl rfl rfl (binI_f (by omega)) | exact rp_bin rfl rfl rfl rfl) ?_)
          refine Ox.pure rfl rfl (by first | exact rp_pick_t rfl rfl rfl | exact rp_pick_f rfl rfl rfl) ?_
          refine Ox.pure rfl rfl (rp_move rfl rfl) ?_
          first | (refine Ox.skip rfl rfl ?_) | (refine Ox.pure rfl rfl (rp_move rfl rfl) ?_)
          first | (refine Ox.skip rfl rfl ?_) | (refine Ox.pure rfl rfl (by first | exact rp_bin rfl rfl rfl (binI_t (by omega)) | exact rp_bin rfl rfl rfl (binI_f (by omega)) | exact rp_bin rfl rfl rfl rfl) ?_)
          first | (refine Ox.skip rfl rfl ?_) | (refine Ox.pure rfl rfl (rp_move rfl rfl) ?_)
          first | (refine Ox.skip rfl rfl ?_) | (refine Ox.pure rfl rfl (rp_move rfl rfl) ?_)
          first | (refine Ox.skip rfl rfl ?_) | (refine Ox.pure rfl rfl (by first | exact rp_bin rfl rfl rfl (binI_t (by omega)) | exact rp_bin rfl rfl rfl (binI_f (by omega)) | exact rp_bin rfl rfl rfl rfl) ?_)
          first | (refine Ox.skip rfl rfl ?_) | (refine Ox.pure rfl rfl (by first | exact rp_pick_t rfl rfl rfl | exact rp_pick_f rfl rfl rfl) ?_)
          refine Ox.pure rfl rfl (by first | exact rp_pick_t rfl rfl rfl | exact rp_pick_f rfl rfl rfl) ?_
          refine Ox.act rfl rfl (acts_call_or rfl rfl rfl (want_at _ _ _) (by intro c w9 hz9; (repeat first | refine thenE_panic ?_ | refine blockE_panic ?_); exact absurd hz9.1 (by simp))) ?_
          rintro vwt wwt ⟨_, ewt⟩
          refine Ox.nil ?_
          (repeat first | refine thenE_normal ?_ | refine thenE_exit ?_ | refine thenE_ret ?_ | refine blockE_normal ?_ | refine blockE_ret ?_ | refine blockE_same ?_ | refine blockE_other rfl ?_)
          exact ⟨(), sub_cons rfl (sub_cons rfl (sub_cons rfl (sub_cons rfl sub_nil))), by ((repeat (first | exact Ext.refl _ _ | assumption | refine Ext.trans ?_ (by assumption))); (first | done | fail "chain"))⟩
        · by_cases h9 : i < 9
          · (repeat refine Sx.seq ?_)
            refine Sx.textR ?_
            refine Ox.pure rfl rfl (rp_move rfl rfl) ?_
            refine Ox.pure rfl rfl (rp_move rfl rfl) ?_
            refine Ox.pure rfl rfl (by first | exact rp_bin rfl rfl rfl (binI_t (by omega)) | exact rp_bin rfl rfl rfl (binI_f (by omega)) | exact rp_bin rfl rfl rfl rfl) ?_
            refine Ox.pure rfl rfl (rp_move rfl rfl) ?_
            first | (refine Ox.skip rfl rfl ?_) | (refine Ox.pure rfl rfl (rp_move rfl rfl) ?_)
            first | (refine Ox.skip rfl rfl ?_) | (refine Ox.pure rfl rfl (by first | exact rp_bin rfl rfl rfl (binI_t (by omega)) | exact rp_bin rfl rfl rfl (binI_f (by omega)) | exact rp_bin rfl rfl rfl rfl) ?_)
            refine Ox.pure rfl rfl (by first | exact rp_pick_t rfl rfl rfl | exact rp_pick_f rfl rfl rfl) ?_
            refine Ox.pure rfl rfl (rp_move rfl rfl) ?_
            first | (refine Ox.skip rfl rfl ?_) | (refine Ox.pure rfl rfl (rp_move rfl rfl) ?_)
            first | (refine Ox.skip rfl rfl ?_) | (refine Ox.pure rfl rfl (by first | exact rp_bin rfl rfl rfl (binI_t (by omega)) | exact rp_bin rfl rfl rfl (binI_f (by omega)) | exact rp_bin rfl rfl rfl rfl) ?_)
            first | (refine Ox.skip rfl rfl ?_) | (refine Ox.pure rfl rfl (rp_move rfl rfl) ?_)
            first | (refine Ox.skip rfl rfl ?_) | (refine Ox.pure rfl rfl (rp_move rfl rfl) ?_)
            first | (refine Ox.skip rfl rfl ?_) | (refine Ox.pure rfl rfl (by first | exact rp_bin rfl rfl rfl (binI_t (by omega)) | exact rp_bin rfl rfl rfl (binI_f (by omega)) | exact rp_bin rfl rfl rfl rfl) ?_)
            first | (refine Ox.skip rfl rfl ?_) | (refine Ox.pure rfl rfl (by first | exact rp_pick_t rfl rfl rfl | exact rp_pick_f rfl rfl rfl) ?_)
            refine Ox.pure rfl rfl (by first | exact rp_pick_t rfl rfl rfl | exact rp_pick_f rfl rfl rfl) ?_
            refine Ox.act rfl rfl (acts_call_or rfl rfl rfl (want_at _ _ _) (by intro c w9 hz9; (repeat first | refine thenE_panic ?_ | refine blockE_panic ?_); exact absurd hz9.1 (by simp))) ?_
            rintro vwt wwt ⟨_, ewt⟩
            refine Ox.nil ?_
            (repeat first | refine thenE_normal ?_ | refine thenE_exit ?_ | refine thenE_ret ?_ | refine blockE_normal ?_ | refine blockE_ret ?_ | refine blockE_same ?_ | refine blockE_other rfl ?_)
            exact ⟨(), sub_cons rfl (sub_cons rfl (sub_cons rfl (sub_cons rfl sub_nil))), by ((repeat (first | exact Ext.refl _ _ | assumption | refine Ext.trans ?_ (by assumption))); (first | done | fail "chain"))⟩
          · (repeat refine Sx.seq ?_)
            refine Sx.textR ?_
            refine Ox.pure rfl rfl (rp_move rfl rfl) ?_
            refine Ox.pure rfl rfl (rp_move rfl rfl) ?_
            refine Ox.pure rfl rfl (by first | exact rp_bin rfl rfl rfl (binI_t (by omega)) | exact rp_bin rfl rfl rfl (binI_f (by omega)) | exact rp_bin rfl rfl rfl rfl) ?_
            refine Ox.pure rfl rfl (rp_move rfl rfl) ?_
            first | (refine Ox.skip rfl rfl ?_) | (refine Ox.pure rfl rfl (rp_move rfl rfl) ?_)
            first | (refine Ox.skip rfl rfl ?_) | (refine Ox.pure rfl rfl (by first | exact rp_bin rfl rfl rfl (binI_t (by omega)) | exact rp_bin rfl rfl rfl (binI_f (by omega)) | exact rp_bin rfl rfl rfl rfl) ?_)
            refine Ox.pure rfl rfl (by first | exact rp_pick_t rfl rfl rfl | exact rp_pick_f rfl rfl rfl) ?_
            refine Ox.pure rfl rfl (rp_move rfl rfl) ?_
            first | (refine Ox.skip rfl rfl ?_) | (refine Ox.pure rfl rfl (rp_move rfl rfl) ?_)
            first | (refine Ox.skip rfl rfl ?_) | (refine Ox.pure rfl rfl (by first | exact rp_bin rfl rfl rfl (binI_t (by omega)) | exact rp_bin rfl rfl rfl (binI_f (by omega)) | exact rp_bin rfl rfl rfl rfl) ?_)
            first | (refine Ox.skip rfl rfl ?_) | (refine Ox.pure rfl rfl (rp_move rfl rfl) ?_)
            first | (refine Ox.skip rfl rfl ?_) | (refine Ox.pure rfl rfl (rp_move rfl rfl) ?_)
            first | (refine Ox.skip rfl rfl ?_) | (refine Ox.pure rfl rfl (by first | exact rp_bin rfl rfl rfl (binI_t (by omega)) | exact rp_bin rfl rfl rfl (binI_f (by omega)) | exact rp_bin rfl rfl rfl rfl) ?_)
            first | (refine Ox.skip rfl rfl ?_) | (refine Ox.pure rfl rfl (by first | exact rp_pick_t rfl rfl rfl | exact rp_pick_f rfl rfl rfl) ?_)
            refine Ox.pure rfl rfl (by first | exact rp_pick_t rfl rfl rfl | exact rp_pick_f rfl rfl rfl) ?_
            refine Ox.act rfl rfl (acts_call_or rfl rfl rfl (want_at _ _ _) (by intro c w9 hz9; (repeat first | refine thenE_panic ?_ | refine blockE_panic ?_); exact absurd hz9.1 (by simp))) ?_
            rintro vwt wwt ⟨_, ewt⟩
            refine Ox.nil ?_
            (repeat first | refine thenE_normal ?_ | refine thenE_exit ?_ | refine thenE_ret ?_ | refine blockE_normal ?_ | refine blockE_ret ?_ | refine blockE_same ?_ | refine blockE_other rfl ?_)
            exact ⟨(), sub_cons rfl (sub_cons rfl (sub_cons rfl (sub_cons rfl sub_nil))), by ((repeat (first | exact Ext.refl _ _ | assumption | refine Ext.trans ?_ (by assumption))); (first | done | fail "chain"))⟩
      · rintro _ w5 e5
        (repeat refine Sx.seq ?_)
        refine Sx.textR ?_
        refine Ox.pure rfl rfl (rp_move rfl rfl) ?_
        refine Ox.pure rfl rfl (rp_move rfl rfl) ?_
        refine Ox.pure rfl rfl (rp_bin rfl rfl rfl (and127 c)) ?_
        refine Ox.pure rfl rfl (by first | exact rp_conv_fit rfl rfl rfl rfl (wrapu64 (by omega)) | exact rp_conv rfl rfl rfl rfl) ?_
        refine Ox.pure rfl rfl (rp_move rfl rfl) ?_
        refine Ox.pure rfl rfl (by first | exact rp_bin rfl rfl rfl (binI_fit_mul (wrap64 (by omega))) | exact rp_bin rfl rfl rfl rfl) ?_
        refine Ox.pure rfl rfl (shl_u64 (7 * i) rfl rfl rfl (by omega) (by omega) hb1) ?_
        refine Ox.pure rfl rfl (rp_bin rfl rfl rfl (or_add_u64 hacc hb1 (by omega))) ?_
        refine Ox.pure rfl rfl (rp_assign rfl rfl) ?_
        refine Ox.nil ?_
        (repeat first | refine thenE_normal ?_ | refine thenE_exit ?_ | refine thenE_ret ?_ | refine blockE_normal ?_ | refine blockE_ret ?_ | refine blockE_same ?_ | refine blockE_other rfl ?_)
        by_cases hlt : c.toNat < 128
        · rw [if_pos hlt] at hdec
          (repeat refine Sx.seq ?_)
          refine Sx.textR ?_
          refine Ox.pure rfl rfl (rp_move rfl rfl) ?_
          refine Ox.pure rfl rfl (by first | exact rp_bin rfl rfl rfl (binI_t (by omega)) | exact rp_bin rfl rfl rfl (binI_f (by omega)) | exact rp_bin rfl rfl rfl rfl) ?_
          refine Ox.nil ?_
          (repeat first | refine thenE_normal ?_ | refine thenE_exit ?_ | refine thenE_ret ?_ | refine blockE_normal ?_ | refine blockE_ret ?_ | refine blockE_same ?_ | refine blockE_other rfl ?_)
          (repeat refine Sx.seq ?_); first | refine Sx.cond_true rfl ?_ | refine Sx.cond rfl (fun _ => ?_) (fun h => absurd h (by simp [*]))
          (repeat refine Sx.seq ?_)
          refine Sx.textR ?_
          refine Ox.pure rfl rfl (rp_move rfl rfl) ?_
          refine Ox.pure rfl rfl (rp_assign rfl rfl) ?_
          refine Ox.nil ?_
          (repeat first | refine thenE_normal ?_ | refine thenE_exit ?_ | refine thenE_ret ?_ | refine blockE_normal ?_ | refine blockE_ret ?_ | refine blockE_same ?_ | refine blockE_other rfl ?_)
          (repeat refine Sx.seq ?_); refine Sx.ret ?_
          (repeat first | refine thenE_normal ?_ | refine thenE_exit ?_ | refine thenE_ret ?_ | refine blockE_normal ?_ | refine blockE_ret ?_ | refine blockE_same ?_ | refine blockE_other rfl ?_)
          exact endE_ret [_] ⟨rfl, trivial⟩ ⟨er.trans (etk.trans (Ext.up (by ((repeat (first | exact Ext.refl _ _ | assumption | refine Ext.trans ?_ (by assumption))); (first | done | fail "chain"))))), _, _, hdec, rfl, hb2, hRt.ext (by ((repeat (first | exact Ext.refl _ _ | assumption | refine Ext.trans ?_ (by assumption))); (first | done | fail "chain")))⟩
        · rw [if_neg hlt] at hdec
          have h9 : i < 9 := by omega
          (repeat refine Sx.seq ?_)
          refine Sx.textR ?_
          refine Ox.pure rfl rfl (rp_move rfl rfl) ?_
          refine Ox.pure rfl rfl (by first | exact rp_bin rfl rfl rfl (binI_t (by omega)) | exact rp_bin rfl rfl rfl (binI_f (by omega)) | exact rp_bin rfl rfl rfl rfl) ?_
          refine Ox.nil ?_
          (repeat first | refine thenE_normal ?_ | refine thenE_exit ?_ | refine thenE_ret ?_ | refine blockE_normal ?_ | refine blockE_ret ?_ | refine blockE_same ?_ | refine blockE_other rfl ?_)
          (repeat refine Sx.seq ?_); first | refine Sx.cond_false rfl ?_ | refine Sx.cond rfl (fun h => absurd h (by simp [*])) (fun _ => ?_)
          (repeat refine Sx.seq ?_); refine Sx.skip ?_
          (repeat first | refine thenE_normal ?_ | refine thenE_exit ?_ | refine thenE_ret ?_ | refine blockE_normal ?_ | refine blockE_ret ?_ | refine blockE_same ?_ | refine blockE_other rfl ?_)
          (repeat refine Sx.seq ?_)
          refine Sx.textR ?_
          refine Ox.pure rfl rfl (rp_move rfl rfl) ?_
          refine Ox.pure rfl rfl (by first | exact rp_bin rfl rfl rfl (binI_fit_add (wrap64 (by omega))) | exact rp_bin rfl rfl rfl rfl) ?_
          refine Ox.pure rfl rfl (rp_assign rfl rfl) ?_
          refine Ox.nil ?_
          (repeat first | refine thenE_normal ?_ | refine thenE_exit ?_ | refine thenE_ret ?_ | refine blockE_normal ?_ | refine blockE_ret ?_ | refine blockE_same ?_ | refine blockE_other rfl ?_)
          exact ⟨(i + 1, acc + c.toNat % 128 * 2 ^ (7 * i), t), _, sub_cons rfl (sub_cons rfl (sub_cons rfl sub_nil)), ⟨rfl, h9, hb3 h9, by simp at hrl ⊢; omega, hdec, hRt.ext (by ((repeat (first | exact Ext.refl _ _ | assumption | refine Ext.trans ?_ (by assumption))); (first | done | fail "chain"))), er.trans (etk.trans (Ext.up (by ((repeat (first | exact Ext.refl _ _ | assumption | refine Ext.trans ?_ (by assumption))); (first | done | fail "chain")))))⟩, by simp⟩

/-- The integer with an unsigned form. -/
def unzig (u : Nat) : Int := if u % 2 = 0 then ((u / 2 : Nat) : Int) else -((u / 2 : Nat) : Int) - 1

theorem and1_u64 {a : Nat} (ha : a < 18446744073709551616) : binI .and .u64 (a : Int) 1 = some (.int .u64 ((a % 2 : Nat) : Int)) := by
  have h1 : (BitVec.ofInt 64 (a : Int) &&& BitVec.ofInt 64 1).toNat = a % 2 := by
    rw [ofInt_nat, show BitVec.ofInt 64 1 = BitVec.ofNat 64 1 by decide, BitVec.toNat_and, BitVec.toNat_ofNat, BitVec.toNat_ofNat, Nat.mod_eq_of_lt ha]
    exact Nat.and_one_is_mod a
  have h2 : (BitVec.ofInt IntKind.u64.bits (a : Int) &&& BitVec.ofInt IntKind.u64.bits 1).toNat = a % 2 := h1
  simp only [binI, h2]
  rw [wrapu64 (by omega)]
theorem xor0_i64 {a : Nat} (ha : a < 9223372036854775808) : binI .xor .i64 (a : Int) 0 = some (.int .i64 (a : Int)) := by
  have h1 : (BitVec.ofInt 64 (a : Int) ^^^ BitVec.ofInt 64 0).toNat = a := by
    rw [show BitVec.ofInt 64 0 = 0#64 from rfl, BitVec.xor_zero, ofInt_nat, BitVec.toNat_ofNat, Nat.mod_eq_of_lt (by omega)]
  have h2 : (BitVec.ofInt IntKind.i64.bits (a : Int) ^^^ BitVec.ofInt IntKind.i64.bits 0).toNat = a := h1
  simp only [binI, h2]
  rw [wrap64 (by omega)]
theorem xor1_i64 {a : Nat} (ha : a < 9223372036854775808) : binI .xor .i64 (a : Int) (-1) = some (.int .i64 (-(a : Int) - 1)) := by
  have h1 : (BitVec.ofInt 64 (a : Int) ^^^ BitVec.ofInt 64 (-1)).toNat = 18446744073709551615 - a := by
    rw [show BitVec.ofInt 64 (-1) = BitVec.allOnes 64 by decide, BitVec.xor_allOnes, BitVec.toNat_not, ofInt_nat, BitVec.toNat_ofNat, Nat.mod_eq_of_lt (by omega)]
  have h2 : (BitVec.ofInt IntKind.i64.bits (a : Int) ^^^ BitVec.ofInt IntKind.i64.bits (-1)).toNat = 18446744073709551615 - a := h1
  simp only [binI, h2]
  congr 2
  unfold IntKind.wrap IntKind.bits IntKind.signed
  simp only [Bool.true_and, decide_eq_true_eq]
  have h3 : ((18446744073709551615 - a : Nat) : Int) % (2 ^ 64 : Int) = 18446744073709551615 - (a : Int) := by
    rw [Int.emod_eq_of_lt (by omega) (by omega)]; omega
  rw [h3, if_pos (by omega)]
  omega

theorem signed_at (u : Nat) (w : World) (hu : u < 18446744073709551616) : Calls Try.prog 45 #[.int .u64 (u : Int)] w (Ret fun r w' => Ext [] w w' ∧ r = .int .i64 (unzig u)) := by
  refine calls_of_Sx (args := [.int .u64 (u : Int)]) Try.func45 rfl rfl ?_
  have hsh : (u : Int).fdiv (2 ^ 1) = ((u / 2 : Nat) : Int) := by rw [Int.fdiv_eq_ediv_of_nonneg _ (by decide)]; rfl
  by_cases h2 : u % 2 = 0
  · have hz : unzig u = ((u / 2 : Nat) : Int) := by rw [unzig, if_pos h2]
    rw [hz]
    (repeat refine Sx.seq ?_)
    refine Sx.textR ?_
    refine Ox.pure rfl rfl (rp_assign rfl rfl) ?_
    refine Ox.nil ?_
    (repeat first | refine thenE_normal ?_ | refine thenE_exit ?_ | refine thenE_ret ?_ | refine blockE_normal ?_ | refine blockE_ret ?_ | refine blockE_same ?_ | refine blockE_other rfl ?_)
    (repeat refine Sx.seq ?_)
    refine Sx.textR ?_
    refine Ox.pure rfl rfl (rp_move rfl rfl) ?_
    refine Ox.pure rfl rfl (hsh ▸ rp_shr 1 rfl rfl rfl ⟨by decide, by decide⟩) ?_
    refine Ox.pure rfl rfl (by first | exact rp_conv_fit rfl rfl rfl rfl (wrap64 (by omega)) | exact rp_conv rfl rfl rfl rfl) ?_
    refine Ox.pure rfl rfl (rp_move rfl rfl) ?_
    refine Ox.pure rfl rfl (rp_bin rfl rfl rfl (and1_u64 hu)) ?_
    refine Ox.pure rfl rfl (by first | exact rp_conv_fit rfl rfl rfl rfl (wrap64 (by omega)) | exact rp_conv rfl rfl rfl rfl) ?_
    refine Ox.pure rfl rfl (by first | exact rp_neg_fit rfl rfl (wrap64 (by omega)) | exact rp_neg rfl rfl) ?_
    refine Ox.pure rfl rfl (rp_bin rfl rfl rfl (by rw [h2]; exact xor0_i64 (by omega))) ?_
    refine Ox.pure rfl rfl (rp_assign rfl rfl) ?_
    refine Ox.nil ?_
    (repeat first | refine thenE_normal ?_ | refine thenE_exit ?_ | refine thenE_ret ?_ | refine blockE_normal ?_ | refine blockE_ret ?_ | refine blockE_same ?_ | refine blockE_other rfl ?_)
    (repeat refine Sx.seq ?_); refine Sx.ret ?_
    (repeat first | refine thenE_normal ?_ | refine thenE_exit ?_ | refine thenE_ret ?_ | refine blockE_normal ?_ | refine blockE_ret ?_ | refine blockE_same ?_ | refine blockE_other rfl ?_)
    exact endE_ret [_] ⟨rfl, trivial⟩ ⟨by ((repeat (first | exact Ext.refl _ _ | assumption | refine Ext.trans ?_ (by assumption))); (first | done | fail "chain")), rfl⟩
  · have hz : unzig u = -((u / 2 : Nat) : Int) - 1 := by rw [unzig, if_neg h2]
    have h3 : u % 2 = 1 := by omega
    rw [hz]
    (repeat refine Sx.seq ?_)
    refine Sx.textR ?_
    refine Ox.pure rfl rfl (rp_assign rfl rfl) ?_
    refine Ox.nil ?_
    (repeat first | refine thenE_normal ?_ | refine thenE_exit ?_ | refine thenE_ret ?_ | refine blockE_normal ?_ | refine blockE_ret ?_ | refine blockE_same ?_ | refine blockE_other rfl ?_)
    (repeat refine Sx.seq ?_)
    refine Sx.textR ?_
    refine Ox.pure rfl rfl (rp_move rfl rfl) ?_
    refine Ox.pure rfl rfl (hsh ▸ rp_shr 1 rfl rfl rfl ⟨by decide, by decide⟩) ?_
    refine Ox.pure rfl rfl (by first | exact rp_conv_fit rfl rfl rfl rfl (wrap64 (by omega)) | exact rp_conv rfl rfl rfl rfl) ?_
    refine Ox.pure rfl rfl (rp_move rfl rfl) ?_
    refine Ox.pure rfl rfl (rp_bin rfl rfl rfl (and1_u64 hu)) ?_
    refine Ox.pure rfl rfl (by first | exact rp_conv_fit rfl rfl rfl rfl (wrap64 (by omega)) | exact rp_conv rfl rfl rfl rfl) ?_
    refine Ox.pure rfl rfl (by first | exact rp_neg_fit rfl rfl (wrap64 (by omega)) | exact rp_neg rfl rfl) ?_
    refine Ox.pure rfl rfl (rp_bin rfl rfl rfl (by rw [h3]; exact xor1_i64 (by omega))) ?_
    refine Ox.pure rfl rfl (rp_assign rfl rfl) ?_
    refine Ox.nil ?_
    (repeat first | refine thenE_normal ?_ | refine thenE_exit ?_ | refine thenE_ret ?_ | refine blockE_normal ?_ | refine blockE_ret ?_ | refine blockE_same ?_ | refine blockE_other rfl ?_)
    (repeat refine Sx.seq ?_); refine Sx.ret ?_
    (repeat first | refine thenE_normal ?_ | refine thenE_exit ?_ | refine thenE_ret ?_ | refine blockE_normal ?_ | refine blockE_ret ?_ | refine blockE_same ?_ | refine blockE_other rfl ?_)
    exact endE_ret [_] ⟨rfl, trivial⟩ ⟨by ((repeat (first | exact Ext.refl _ _ | assumption | refine Ext.trans ?_ (by assumption))); (first | done | fail "chain")), rfl⟩

/-- A length, read: no more than what follows. -/
def decLen (b : List UInt8) : Option (Nat × List UInt8) := match decN 0 0 b with
  | none => none
  | some (n, r) => if n ≤ r.length then some (n, r) else none

theorem decN_le : ∀ {b : List UInt8} {i acc u : Nat} {r : List UInt8}, decN i acc b = some (u, r) → r.length < b.length
  | c :: t, i, acc, u, r, h => by
    rw [decN] at h
    split at h
    · cases h
    · split at h
      · simp only [Option.some.injEq, Prod.mk.injEq] at h; rw [← h.2]; simp
      · have := decN_le h; simp; omega

theorem length_at (B : Nat) (w : World) (br : Nat) (rest : List UInt8) (hl : rest.length ≤ 140737488355328) (hR : Rd B w br rest) :
    Calls Try.prog 47 #[.pointer (some ⟨br, 0, none⟩)] w
      (RetOr (fun r w' => Ext [br] w w' ∧ ∃ u rest', decLen rest = some (u, rest') ∧ r = .int .i64 (u : Nat) ∧ u ≤ rest'.length ∧ rest'.length < rest.length ∧ Rd B w' br rest') (fun c w' => decLen rest = none ∧ c = errP ∧ Ext [br] w w')) := by
  refine calls_of_Sx (args := [.pointer (some ⟨br, 0, none⟩)]) Try.func47 rfl rfl ?_
  (repeat refine Sx.seq ?_)
  refine Sx.textR ?_
  refine Ox.pure rfl rfl (rp_assign rfl rfl) ?_
  refine Ox.nil ?_
  (repeat first | refine thenE_normal ?_ | refine thenE_exit ?_ | refine thenE_ret ?_ | refine blockE_normal ?_ | refine blockE_ret ?_ | refine blockE_same ?_ | refine blockE_other rfl ?_)
  (repeat refine Sx.seq ?_)
  refine Sx.textR ?_
  refine Ox.pure rfl rfl (rp_move rfl rfl) ?_
  refine Ox.act rfl rfl (acts_call_or rfl rfl rfl (number_at B _ br rest hl (hR.ext (by ((repeat (first | exact Ext.refl _ _ | assumption | refine Ext.trans ?_ (by assumption))); (first | done | fail "chain"))))) (by intro c w9 hz9; (repeat first | refine thenE_panic ?_ | refine blockE_panic ?_); exact ⟨by rw [decLen, hz9.1], hz9.2.1, (Ext.up (by ((repeat (first | exact Ext.refl _ _ | assumption | refine Ext.trans ?_ (by assumption))); (first | done | fail "chain")))).trans hz9.2.2⟩)) ?_
  rintro vnu wnu ⟨enu, u, rs, hdec, rfl, hu, hRn⟩
  refine Ox.pure rfl rfl (rp_assign rfl rfl) ?_
  refine Ox.nil ?_
  (repeat first | refine thenE_normal ?_ | refine thenE_exit ?_ | refine thenE_ret ?_ | refine blockE_normal ?_ | refine blockE_ret ?_ | refine blockE_same ?_ | refine blockE_other rfl ?_)
  have hlt := decN_le hdec
  obtain ⟨p, A, cap, hB, hcap, hsl, hne⟩ := id hRn
  have hBc := hB.cells
  by_cases hle : u ≤ rs.length
  · have hd : decLen rest = some (u, rs) := by rw [decLen, hdec]; exact if_pos hle
    (repeat refine Sx.seq ?_)
    refine Sx.textR ?_
    refine Ox.pure rfl rfl (rp_move rfl rfl) ?_
    refine Ox.pure rfl rfl (rp_move rfl rfl) ?_
    refine Ox.pure rfl rfl (rp_move rfl rfl) ?_
    refine Ox.pure rfl rfl (by first | exact rp_nilP rfl rfl | exact rp_nilF rfl rfl) ?_
    refine Ox.pure rfl rfl (rp_fieldAddr rfl rfl rfl rfl) ?_
    refine Ox.val rfl rfl (rv_load rfl rfl (by (intro u hu; first | exact Cells.ld (Cells.ext0 (by assumption) (by ((repeat (first | exact Ext.refl _ _ | assumption | refine Ext.trans ?_ (by assumption))); (first | done | fail "chain")))) _ rfl rfl | exact Cells.ld0 (Cells.ext0 (by assumption) (by ((repeat (first | exact Ext.refl _ _ | assumption | refine Ext.trans ?_ (by assumption))); (first | done | fail "chain")))) rfl rfl | exact Cells.ldA (Cells.ext0 (by assumption) (by ((repeat (first | exact Ext.refl _ _ | assumption | refine Ext.trans ?_ (by assumption))); (first | done | fail "chain")))) rfl rfl | exact Cells.ldL (Cells.ext0 (by assumption) (by ((repeat (first | exact Ext.refl _ _ | assumption | refine Ext.trans ?_ (by assumption))); (first | done | fail "chain")))) rfl rfl (by assumption) | exact Cells.ldP (Cells.ext0 (by assumption) (by ((repeat (first | exact Ext.refl _ _ | assumption | refine Ext.trans ?_ (by assumption))); (first | done | fail "chain")))) _ rfl rfl rfl rfl | exact Cells.ldP (Cells.ext0 (by assumption) (by ((repeat (first | exact Ext.refl _ _ | assumption | refine Ext.trans ?_ (by assumption))); (first | done | fail "chain")))) _ rfl rfl (by assumption) (by assumption)))) ?_
    refine Ox.pure rfl rfl (rp_lenS rfl rfl rfl) ?_
    refine Ox.pure rfl rfl (by first | exact rp_conv_fit rfl rfl rfl rfl (wrapu64 (by omega)) | exact rp_conv rfl rfl rfl rfl) ?_
    refine Ox.pure rfl rfl (by first | exact rp_bin rfl rfl rfl (binI_t (by omega)) | exact rp_bin rfl rfl rfl (binI_f (by omega)) | exact rp_bin rfl rfl rfl rfl) ?_
    refine Ox.act rfl rfl (acts_call_or rfl rfl rfl (want_at _ _ _) (by intro c w9 hz9; (repeat first | refine thenE_panic ?_ | refine blockE_panic ?_); exact absurd hz9.1 (by simp))) ?_
    rintro v6 w6 ⟨_, e6⟩
    refine Ox.nil ?_
    (repeat first | refine thenE_normal ?_ | refine thenE_exit ?_ | refine thenE_ret ?_ | refine blockE_normal ?_ | refine blockE_ret ?_ | refine blockE_same ?_ | refine blockE_other rfl ?_)
    (repeat refine Sx.seq ?_)
    refine Sx.textR ?_
    refine Ox.pure rfl rfl (rp_move rfl rfl) ?_
    refine Ox.pure rfl rfl (by first | exact rp_conv_fit rfl rfl rfl rfl (wrap64 (by omega)) | exact rp_conv rfl rfl rfl rfl) ?_
    refine Ox.pure rfl rfl (rp_assign rfl rfl) ?_
    refine Ox.nil ?_
    (repeat first | refine thenE_normal ?_ | refine thenE_exit ?_ | refine thenE_ret ?_ | refine blockE_normal ?_ | refine blockE_ret ?_ | refine blockE_same ?_ | refine blockE_other rfl ?_)
    (repeat refine Sx.seq ?_); refine Sx.ret ?_
    (repeat first | refine thenE_normal ?_ | refine thenE_exit ?_ | refine thenE_ret ?_ | refine blockE_normal ?_ | refine blockE_ret ?_ | refine blockE_same ?_ | refine blockE_other rfl ?_)
    exact endE_ret [_] ⟨rfl, trivial⟩ ⟨(Ext.trans (Ext.up (by ((repeat (first | exact Ext.refl _ _ | assumption | refine Ext.trans ?_ (by assumption))); (first | done | fail "chain")))) enu).trans (Ext.up (by ((repeat (first | exact Ext.refl _ _ | assumption | refine Ext.trans ?_ (by assumption))); (first | done | fail "chain")))), u, rs, hd, rfl, hle, hlt, hRn.ext (by ((repeat (first | exact Ext.refl _ _ | assumption | refine Ext.trans ?_ (by assumption))); (first | done | fail "chain")))⟩
  · have hd : decLen rest = none := by rw [decLen, hdec]; exact if_neg hle
    (repeat refine Sx.seq ?_)
    refine Sx.textR ?_
    refine Ox.pure rfl rfl (rp_move rfl rfl) ?_
    refine Ox.pure rfl rfl (rp_move rfl rfl) ?_
    refine Ox.pure rfl rfl (rp_move rfl rfl) ?_
    refine Ox.pure rfl rfl (by first | exact rp_nilP rfl rfl | exact rp_nilF rfl rfl) ?_
    refine Ox.pure rfl rfl (rp_fieldAddr rfl rfl rfl rfl) ?_
    refine Ox.val rfl rfl (rv_load rfl rfl (by (intro u hu; first | exact Cells.ld (Cells.ext0 (by assumption) (by ((repeat (first | exact Ext.refl _ _ | assumption | refine Ext.trans ?_ (by assumption))); (first | done | fail "chain")))) _ rfl rfl | exact Cells.ld0 (Cells.ext0 (by assumption) (by ((repeat (first | exact Ext.refl _ _ | assumption | refine Ext.trans ?_ (by assumption))); (first | done | fail "chain")))) rfl rfl | exact Cells.ldA (Cells.ext0 (by assumption) (by ((repeat (first | exact Ext.refl _ _ | assumption | refine Ext.trans ?_ (by assumption))); (first | done | fail "chain")))) rfl rfl | exact Cells.ldL (Cells.ext0 (by assumption) (by ((repeat (first | exact Ext.refl _ _ | assumption | refine Ext.trans ?_ (by assumption))); (first | done | fail "chain")))) rfl rfl (by assumption) | exact Cells.ldP (Cells.ext0 (by assumption) (by ((repeat (first | exact Ext.refl _ _ | assumption | refine Ext.trans ?_ (by assumption))); (first | done | fail "chain")))) _ rfl rfl rfl rfl | exact Cells.ldP (Cells.ext0 (by assumption) (by ((repeat (first | exact Ext.refl _ _ | assumption | refine Ext.trans ?_ (by assumption))); (first | done | fail "chain")))) _ rfl rfl (by assumption) (by assumption)))) ?_
    refine Ox.pure rfl rfl (rp_lenS rfl rfl rfl) ?_
    refine Ox.pure rfl rfl (by first | exact rp_conv_fit rfl rfl rfl rfl (wrapu64 (by omega)) | exact rp_conv rfl rfl rfl rfl) ?_
    refine Ox.pure rfl rfl (by first | exact rp_bin rfl rfl rfl (binI_t (by omega)) | exact rp_bin rfl rfl rfl (binI_f (by omega)) | exact rp_bin rfl rfl rfl rfl) ?_
    refine Ox.act rfl rfl (acts_never rfl rfl rfl (want_at _ _ _) (by intro c w9 hz9; (repeat first | refine thenE_panic ?_ | refine blockE_panic ?_); exact ⟨hd, hz9.2.1, by rw [hz9.2.2]; exact enu⟩) (fun v w h => absurd h.1 (by first | decide | omega))) (fun _ _ h => h.elim)

end Go.Proofs.Ytflopfjhejchfaa
