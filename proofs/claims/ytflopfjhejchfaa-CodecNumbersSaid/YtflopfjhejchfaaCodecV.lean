/- The codec's walks: values, read. -/
import Derived.Test.YtflopfjhejchfaaRows
import Derived.Test.YtflopfjhejchfaaCodecR
set_option linter.unusedVariables false
set_option linter.unusedSimpArgs false
namespace Go.Proofs.Ytflopfjhejchfaa
open Go Go.Eng

def decL (f : List UInt8 → Option (V × List UInt8)) : Nat → List UInt8 → Option (List V × List UInt8)
  | 0, b => some ([], b)
  | n + 1, b => match f b with
    | none => none
    | some (v, b') => match decL f n b' with
      | none => none
      | some (l, b'') => some (v :: l, b'')

/-- A value, read: within so many lists more. -/
def decV : Nat → List UInt8 → Option (V × List UInt8)
  | _, [] => none
  | 0, c :: t => if c.toNat = 1 then (decN 0 0 t).map fun x => (.mk 1 (unzig x.1) [] [], x.2) else if c.toNat = 2 then (decLen t).map fun x => (.mk 2 0 (x.2.take x.1) [], x.2.drop x.1) else none
  | r + 1, c :: t => if c.toNat = 1 then (decN 0 0 t).map fun x => (.mk 1 (unzig x.1) [] [], x.2) else if c.toNat = 2 then (decLen t).map fun x => (.mk 2 0 (x.2.take x.1) [], x.2.drop x.1) else if c.toNat = 3 then
      match decLen t with
      | none => none
      | some x => (decL (decV r) x.1 x.2).map fun y => (.mk 3 0 [] y.1, y.2)
    else none

theorem decV_1 (r : Nat) {c : UInt8} {t : List UInt8} (h : c.toNat = 1) : decV r (c :: t) = (decN 0 0 t).map fun x => (.mk 1 (unzig x.1) [] [], x.2) := by
  cases r <;> rw [decV, if_pos h]
theorem decV_2 (r : Nat) {c : UInt8} {t : List UInt8} (h : c.toNat = 2) : decV r (c :: t) = (decLen t).map fun x => (.mk 2 0 (x.2.take x.1) [], x.2.drop x.1) := by
  cases r <;> rw [decV, if_neg (by omega), if_pos h]
theorem decV_3 (r : Nat) {c : UInt8} {t : List UInt8} (h : c.toNat = 3) : decV (r + 1) (c :: t) = match decLen t with
      | none => none
      | some x => (decL (decV r) x.1 x.2).map fun y => (.mk 3 0 [] y.1, y.2) := by
  rw [decV, if_neg (by omega), if_neg (by omega), if_pos h]
theorem decV_30 {c : UInt8} {t : List UInt8} (h : c.toNat = 3) : decV 0 (c :: t) = none := by
  rw [decV, if_neg (by omega), if_neg (by omega)]
theorem decV_4 (r : Nat) {c : UInt8} {t : List UInt8} (h1 : c.toNat ≠ 1) (h2 : c.toNat ≠ 2) (h3 : c.toNat ≠ 3) : decV r (c :: t) = none := by
  cases r
  · rw [decV, if_neg h1, if_neg h2]
  · rw [decV, if_neg h1, if_neg h2, if_neg h3]

theorem decV_nil (r : Nat) : decV r [] = none := by cases r <;> rw [decV]
theorem rep_four {S : Nat → Prop} {w : World} {v : V} {cs : List Value} (h : rep S w v cs) : ∃ a b c d, cs = [a, b, c, d] := by
  cases v with
  | mk k n s l =>
    obtain ⟨_, _, _, _, p, cap, A, row, rfl, _⟩ := h
    exact ⟨_, _, _, _, rfl⟩
theorem decL_step {f : List UInt8 → Option (V × List UInt8)} {m : Nat} {b b' : List UInt8} {v : V} (h : f b = some (v, b')) : decL f (m + 1) b = (decL f m b').map fun y => (v :: y.1, y.2) := by
  rw [decL, h]
  simp only
  cases decL f m b' <;> rfl
theorem decL_none {f : List UInt8 → Option (V × List UInt8)} {m : Nat} {b : List UInt8} (h : f b = none) : decL f (m + 1) b = none := by
  rw [decL, h]
theorem unzig_in {u : Nat} (h : u < 18446744073709551616) : in64 (unzig u) := by
  unfold unzig in64; split <;> omega

theorem own_not' {w : World} {base : Nat} {e : TypeId} {size : Nat} {v : Value} {k : Nat} {xs : List Value} (h : w.ownsRow base e size v k xs) {b : Nat} (hb : b < base ∨ w.heap.size ≤ b) : b ∉ v.ownBlock.toList := fun hm => by
  have := own_lt h b hm; omega

theorem value_at (B : Nat) : ∀ (r d : Nat) (w : World) (br : Nat) (rest : List UInt8), d + r = 16 → rest.length ≤ 1048576 → Rd B w br rest → B ≤ w.heap.size →
    Calls Try.prog 32 #[.pointer (some ⟨br, 0, none⟩), .int .i64 (d : Int)] w
      (RetOr (fun x w' => Ext [br] w w' ∧ ∃ v rest' cs, decV r rest = some (v, rest') ∧ x = .agg cs.toArray ∧ rep (fun k => w.heap.size ≤ k) w' v cs ∧ rest'.length < rest.length ∧ Rd B w' br rest') (fun c w' => decV r rest = none ∧ c = errP ∧ Ext [br] w w')) := by
  intro r
  induction r using Nat.strongRecOn with
  | ind r ih =>
  intro d w br rest hdr hl hR hBw
  have hbr := hR.lt
  refine calls_of_Sx (args := [.pointer (some ⟨br, 0, none⟩), .int .i64 (d : Int)]) Try.func32 rfl rfl ?_
  (repeat refine Sx.seq ?_)
  refine Sx.textR ?_
  refine Ox.act rfl rfl (acts_alloc rfl rfl) ?_
  rintro val wal ⟨eal, bal, rfl, hbal, hBal⟩
  first | (have hCal : Cells wal ⟨bal, 0, none⟩ [_, _, _, _] := hBal.cells) | have hCal := Blk.cellsL hBal
  have hlal := hBal.lt
  have hzal := eal.size
  have hne : bal ≠ br := by omega
  refine Ox.nil ?_
  (repeat first | refine thenE_normal ?_ | refine thenE_exit ?_ | refine thenE_ret ?_ | refine blockE_normal ?_ | refine blockE_ret ?_ | refine blockE_same ?_ | refine blockE_other rfl ?_)
  cases rest with
  | nil =>
    (repeat refine Sx.seq ?_)
    refine Sx.textR ?_
    refine Ox.pure rfl rfl (rp_move rfl rfl) ?_
    refine Ox.act rfl rfl (acts_never rfl rfl rfl (take_at B _ br [] 1 (by decide) (by decide) (hR.ext (by ((repeat (first | exact Ext.refl _ _ | assumption | refine Ext.trans ?_ (by assumption))); (first | done | fail "chain"))))) (by intro c w9 hz9; (repeat first | refine thenE_panic ?_ | refine blockE_panic ?_); exact ⟨decV_nil r, hz9.2.1, (Ext.up (by ((repeat (first | exact Ext.refl _ _ | assumption | refine Ext.trans ?_ (by assumption))); (first | done | fail "chain")))).trans hz9.2.2⟩) (fun v w h => absurd h.1 (by first | decide | omega))) (fun _ _ h => h.elim)
  | cons c t =>
  have hc := c.toNat_lt
  have hlc := hl
  simp only [List.length_cons] at hlc
  (repeat refine Sx.seq ?_)
  refine Sx.textR ?_
  refine Ox.pure rfl rfl (rp_move rfl rfl) ?_
  refine Ox.act rfl rfl (acts_call_or rfl rfl rfl (take_at B _ br (c :: t) 1 (by decide) (by simp only [List.length_cons]; omega) (hR.ext (by ((repeat (first | exact Ext.refl _ _ | assumption | refine Ext.trans ?_ (by assumption))); (first | done | fail "chain"))))) (by intro c w9 hz9; (repeat first | refine thenE_panic ?_ | refine blockE_panic ?_); exact absurd hz9.1 (by simp))) ?_
  rintro vtk wtk ⟨_, qtk, hRt, pt, At, rfl, hst, hnt⟩
  have hpt := hst.1; have hCt := hst.2; have hztk := qtk.size
  have hBt := hBal.ext qtk (by simp; exact hne)
  refine Ox.pure rfl rfl (rp_indexAddr _ rfl rfl rfl rfl rfl (by assumption) rfl (by first | omega | decide)) ?_
  refine Ox.val rfl rfl (rv_load rfl rfl (by (intro u hu; first | exact Cells.ld (Cells.ext0 (by assumption) (by ((repeat (first | exact Ext.refl _ _ | assumption | refine Ext.trans ?_ (by assumption))); (first | done | fail "chain")))) _ rfl rfl | exact Cells.ld0 (Cells.ext0 (by assumption) (by ((repeat (first | exact Ext.refl _ _ | assumption | refine Ext.trans ?_ (by assumption))); (first | done | fail "chain")))) rfl rfl | exact Cells.ldA (Cells.ext0 (by assumption) (by ((repeat (first | exact Ext.refl _ _ | assumption | refine Ext.trans ?_ (by assumption))); (first | done | fail "chain")))) rfl rfl | exact Cells.ldL (Cells.ext0 (by assumption) (by ((repeat (first | exact Ext.refl _ _ | assumption | refine Ext.trans ?_ (by assumption))); (first | done | fail "chain")))) rfl rfl (by assumption) | exact Cells.ldP (Cells.ext0 (by assumption) (by ((repeat (first | exact Ext.refl _ _ | assumption | refine Ext.trans ?_ (by assumption))); (first | done | fail "chain")))) _ rfl rfl rfl rfl | exact Cells.ldP (Cells.ext0 (by assumption) (by ((repeat (first | exact Ext.refl _ _ | assumption | refine Ext.trans ?_ (by assumption))); (first | done | fail "chain")))) _ rfl rfl (by assumption) (by assumption)))) ?_
  refine Ox.pure rfl rfl (by first | exact rp_conv_fit rfl rfl rfl rfl (wrap64 (by omega)) | exact rp_conv rfl rfl rfl rfl) ?_
  refine Ox.pure rfl rfl (rp_fieldAddr rfl rfl rfl rfl) ?_
  refine Ox.act rfl rfl (acts_store (off := 0) rfl rfl rfl rfl rfl hBt (Nat.le_of_ble_eq_true rfl) (by (first | assumption | exact List.all_eq_true.mp rfl | simp [Value.cells, Value.oneCell']))) ?_
  rintro vk1 wk1 ⟨rfl, qk1, hbk1⟩
  have hBk : Blk wk1 bal 24 [.int .i64 (c.toNat : Int), .int .i64 0, .string ⟨[].toArray⟩, nilS] := hbk1
  have hzk1 := qk1.size
  have hRk := hRt.extX qk1 (by simp; omega) (by simp; omega)
  have ek1 : Ext [br] w wk1 := (Ext.up (by ((repeat (first | exact Ext.refl _ _ | assumption | refine Ext.trans ?_ (by assumption))); (first | done | fail "chain"))) : Ext [br] w wal).trans qtk |>.join qk1 (by simp; omega)
  have hCk := hBk.cells
  refine Ox.nil ?_
  (repeat first | refine thenE_normal ?_ | refine thenE_exit ?_ | refine thenE_ret ?_ | refine blockE_normal ?_ | refine blockE_ret ?_ | refine blockE_same ?_ | refine blockE_other rfl ?_)
  (repeat refine Sx.seq ?_)
  refine Sx.textR ?_
  refine Ox.pure rfl rfl (rp_fieldAddr rfl rfl rfl rfl) ?_
  refine Ox.val rfl rfl (rv_load rfl rfl (by (intro u hu; first | exact Cells.ld (Cells.ext0 (by assumption) (by ((repeat (first | exact Ext.refl _ _ | assumption | refine Ext.trans ?_ (by assumption))); (first | done | fail "chain")))) _ rfl rfl | exact Cells.ld0 (Cells.ext0 (by assumption) (by ((repeat (first | exact Ext.refl _ _ | assumption | refine Ext.trans ?_ (by assumption))); (first | done | fail "chain")))) rfl rfl | exact Cells.ldA (Cells.ext0 (by assumption) (by ((repeat (first | exact Ext.refl _ _ | assumption | refine Ext.trans ?_ (by assumption))); (first | done | fail "chain")))) rfl rfl | exact Cells.ldL (Cells.ext0 (by assumption) (by ((repeat (first | exact Ext.refl _ _ | assumption | refine Ext.trans ?_ (by assumption))); (first | done | fail "chain")))) rfl rfl (by assumption) | exact Cells.ldP (Cells.ext0 (by assumption) (by ((repeat (first | exact Ext.refl _ _ | assumption | refine Ext.trans ?_ (by assumption))); (first | done | fail "chain")))) _ rfl rfl rfl rfl | exact Cells.ldP (Cells.ext0 (by assumption) (by ((repeat (first | exact Ext.refl _ _ | assumption | refine Ext.trans ?_ (by assumption))); (first | done | fail "chain")))) _ rfl rfl (by assumption) (by assumption)))) ?_
  refine Ox.nil ?_
  (repeat first | refine thenE_normal ?_ | refine thenE_exit ?_ | refine thenE_ret ?_ | refine blockE_normal ?_ | refine blockE_ret ?_ | refine blockE_same ?_ | refine blockE_other rfl ?_)
  (repeat refine Sx.seq ?_); refine Sx.block ?_
  by_cases h1 : c.toNat = 1
  · rw [decV_1 _ h1]
    (repeat refine Sx.seq ?_)
    refine Sx.textR ?_
    refine Ox.pure rfl rfl (by first | exact rp_bin rfl rfl rfl (binI_t (by omega)) | exact rp_bin rfl rfl rfl (binI_f (by omega)) | exact rp_bin rfl rfl rfl rfl) ?_
    refine Ox.pure rfl rfl (rp_assign rfl rfl) ?_
    refine Ox.nil ?_
    (repeat first | refine thenE_normal ?_ | refine thenE_exit ?_ | refine thenE_ret ?_ | refine blockE_normal ?_ | refine blockE_ret ?_ | refine blockE_same ?_ | refine blockE_other rfl ?_)
    (repeat refine Sx.seq ?_); first | refine Sx.cond_true rfl ?_ | refine Sx.cond rfl (fun _ => ?_) (fun h => absurd h (by simp [*]))
    (repeat refine Sx.seq ?_)
    refine Sx.textR ?_
    refine Ox.pure rfl rfl (rp_move rfl rfl) ?_
    refine Ox.act rfl rfl (acts_call_or rfl rfl rfl (number_at B _ br t (by omega) (hRk.ext (by ((repeat (first | exact Ext.refl _ _ | assumption | refine Ext.trans ?_ (by assumption))); (first | done | fail "chain"))))) (by intro c w9 hz9; (repeat first | refine thenE_panic ?_ | refine blockE_panic ?_); exact ⟨by rw [hz9.1]; rfl, hz9.2.1, ek1.trans hz9.2.2⟩)) ?_
    rintro vnu wnu ⟨qnu, u, rs, hdec, rfl, hu, hRn⟩
    have hznu := qnu.size; have hBn := hBk.ext qnu (by simp; exact hne)
    refine Ox.act rfl rfl (acts_call rfl rfl rfl (signed_at u _ hu)) ?_
    rintro vsg wsg ⟨esg, rfl⟩
    have hzsg := esg.size
    refine Ox.pure rfl rfl (rp_fieldAddr rfl rfl rfl rfl) ?_
    refine Ox.act rfl rfl (acts_store (off := 1) rfl rfl rfl rfl rfl (hBn.ext (X := []) (by ((repeat (first | exact Ext.refl _ _ | assumption | refine Ext.trans ?_ (by assumption))); (first | done | fail "chain"))) (by simp)) (Nat.le_of_ble_eq_true rfl) (by (first | assumption | exact List.all_eq_true.mp rfl | simp [Value.cells, Value.oneCell']))) ?_
    rintro vk2 wk2 ⟨rfl, qk2, hbk2⟩
    have hBm : Blk wk2 bal 24 [.int .i64 (c.toNat : Int), .int .i64 (unzig u), .string ⟨[].toArray⟩, nilS] := hbk2
    have hzk2 := qk2.size; have hCm := hBm.cells
    have hRm := (hRn.ext esg).extX qk2 (by simp; omega) (by simp; omega)
    have ek2 : Ext [br] w wk2 := (ek1.trans (qnu.trans esg.up)).join qk2 (by simp; omega)
    refine Ox.nil ?_
    (repeat first | refine thenE_normal ?_ | refine thenE_exit ?_ | refine thenE_ret ?_ | refine blockE_normal ?_ | refine blockE_ret ?_ | refine blockE_same ?_ | refine blockE_other rfl ?_)
    (repeat refine Sx.seq ?_)
    refine Sx.textR ?_
    refine Ox.val rfl rfl (rv_load rfl rfl (by (intro u hu; first | exact Cells.ld (Cells.ext0 (by assumption) (by ((repeat (first | exact Ext.refl _ _ | assumption | refine Ext.trans ?_ (by assumption))); (first | done | fail "chain")))) _ rfl rfl | exact Cells.ld0 (Cells.ext0 (by assumption) (by ((repeat (first | exact Ext.refl _ _ | assumption | refine Ext.trans ?_ (by assumption))); (first | done | fail "chain")))) rfl rfl | exact Cells.ldA (Cells.ext0 (by assumption) (by ((repeat (first | exact Ext.refl _ _ | assumption | refine Ext.trans ?_ (by assumption))); (first | done | fail "chain")))) rfl rfl | exact Cells.ldL (Cells.ext0 (by assumption) (by ((repeat (first | exact Ext.refl _ _ | assumption | refine Ext.trans ?_ (by assumption))); (first | done | fail "chain")))) rfl rfl (by assumption) | exact Cells.ldP (Cells.ext0 (by assumption) (by ((repeat (first | exact Ext.refl _ _ | assumption | refine Ext.trans ?_ (by assumption))); (first | done | fail "chain")))) _ rfl rfl rfl rfl | exact Cells.ldP (Cells.ext0 (by assumption) (by ((repeat (first | exact Ext.refl _ _ | assumption | refine Ext.trans ?_ (by assumption))); (first | done | fail "chain")))) _ rfl rfl (by assumption) (by assumption)))) ?_
    refine Ox.act rfl rfl (acts_store_all rfl rfl rfl (hBm.ext (X := []) (by ((repeat (first | exact Ext.refl _ _ | assumption | refine Ext.trans ?_ (by assumption))); (first | done | fail "chain"))) (by simp)) rfl rfl rfl (by (first | assumption | exact List.all_eq_true.mp rfl | simp [Value.cells, Value.oneCell']))) ?_
    rintro vk9 wk9 ⟨rfl, qk9, hbk9⟩
    have hB9 : Blk wk9 bal 24 [.int .i64 (c.toNat : Int), .int .i64 (unzig u), .string ⟨[].toArray⟩, nilS] := hbk9
    refine Ox.nil ?_
    (repeat first | refine thenE_normal ?_ | refine thenE_exit ?_ | refine thenE_ret ?_ | refine blockE_normal ?_ | refine blockE_ret ?_ | refine blockE_same ?_ | refine blockE_other rfl ?_)
    (repeat refine Sx.seq ?_); refine Sx.ret ?_
    (repeat first | refine thenE_normal ?_ | refine thenE_exit ?_ | refine thenE_ret ?_ | refine blockE_normal ?_ | refine blockE_ret ?_ | refine blockE_same ?_ | refine blockE_other rfl ?_)
    refine endE_ret [.agg #[.int .i64 (c.toNat : Int), .int .i64 (unzig u), .string ⟨[].toArray⟩, nilS]] ⟨⟨⟨bal, 0, none⟩, rfl, hB9.cells.ldA rfl rfl⟩, trivial⟩ ⟨ek2.join qk9 (by simp; omega), _, _, [.int .i64 (c.toNat : Int), .int .i64 (unzig u), .string ⟨[].toArray⟩, nilS], by rw [hdec]; rfl, rfl, ?_, ?_, ?_⟩
    · rw [h1]
      exact ⟨⟨by decide, by decide⟩, unzig_in hu, by simp, by simp, none, 0, ⟨0, 0, none⟩, [], rfl, by simp, by simp, ⟨by simp, cells_nil _ _⟩, by simp, rfl⟩
    · have := decN_le hdec; simp; omega
    · exact hRm.extX qk9 (by simp; omega) (by simp; omega)
  · (repeat refine Sx.seq ?_)
    refine Sx.textR ?_
    refine Ox.pure rfl rfl (by first | exact rp_bin rfl rfl rfl (binI_t (by omega)) | exact rp_bin rfl rfl rfl (binI_f (by omega)) | exact rp_bin rfl rfl rfl rfl) ?_
    refine Ox.pure rfl rfl (rp_assign rfl rfl) ?_
    refine Ox.nil ?_
    (repeat first | refine thenE_normal ?_ | refine thenE_exit ?_ | refine thenE_ret ?_ | refine blockE_normal ?_ | refine blockE_ret ?_ | refine blockE_same ?_ | refine blockE_other rfl ?_)
    (repeat refine Sx.seq ?_); first | refine Sx.cond_false rfl ?_ | refine Sx.cond rfl (fun h => absurd h (by simp [*])) (fun _ => ?_)
    by_cases h2 : c.toNat = 2
    · rw [decV_2 _ h2]
      (repeat refine Sx.seq ?_)
      refine Sx.textR ?_
      refine Ox.pure rfl rfl (by first | exact rp_bin rfl rfl rfl (binI_t (by omega)) | exact rp_bin rfl rfl rfl (binI_f (by omega)) | exact rp_bin rfl rfl rfl rfl) ?_
      refine Ox.pure rfl rfl (rp_assign rfl rfl) ?_
      refine Ox.nil ?_
      (repeat first | refine thenE_normal ?_ | refine thenE_exit ?_ | refine thenE_ret ?_ | refine blockE_normal ?_ | refine blockE_ret ?_ | refine blockE_same ?_ | refine blockE_other rfl ?_)
      (repeat refine Sx.seq ?_); first | refine Sx.cond_true rfl ?_ | refine Sx.cond rfl (fun _ => ?_) (fun h => absurd h (by simp [*]))
      (repeat refine Sx.seq ?_)
      refine Sx.textR ?_
      refine Ox.pure rfl rfl (rp_move rfl rfl) ?_
      refine Ox.pure rfl rfl (rp_move rfl rfl) ?_
      refine Ox.act rfl rfl (acts_call_or rfl rfl rfl (length_at B _ br t (by omega) (hRk.ext (by ((repeat (first | exact Ext.refl _ _ | assumption | refine Ext.trans ?_ (by assumption))); (first | done | fail "chain"))))) (by intro c w9 hz9; (repeat first | refine thenE_panic ?_ | refine blockE_panic ?_); exact ⟨by rw [hz9.1]; rfl, hz9.2.1, ek1.trans hz9.2.2⟩)) ?_
      rintro vnu wnu ⟨qnu, u, rs, hdec, rfl, hu, hrl, hRn⟩
      have hznu := qnu.size; have hBn := hBk.ext qnu (by simp; exact hne)
      refine Ox.act rfl rfl (acts_call_or rfl rfl rfl (take_at B _ br rs u (by omega) (by omega) hRn) (by intro c w9 hz9; (repeat first | refine thenE_panic ?_ | refine blockE_panic ?_); exact absurd hz9.1 (by omega))) ?_
      rintro vtj wtj ⟨_, qtj, hRj, pj, Aj, rfl, hsj, hnj⟩
      have hztj := qtj.size; have hBj := hBn.ext qtj (by simp; exact hne)
      refine Ox.val rfl rfl (rv_bytes rfl rfl rfl rfl rfl (by rw [List.length_take]; omega) hsj.1 (fun u hu => hsj.2.ext0 hu)) ?_
      refine Ox.pure rfl rfl (rp_fieldAddr rfl rfl rfl rfl) ?_
      refine Ox.act rfl rfl (acts_store (off := 2) rfl rfl rfl rfl rfl hBj (Nat.le_of_ble_eq_true rfl) (by (first | assumption | exact List.all_eq_true.mp rfl | simp [Value.cells, Value.oneCell']))) ?_
      rintro vk2 wk2 ⟨rfl, qk2, hbk2⟩
      have hBm : Blk wk2 bal 24 [.int .i64 (c.toNat : Int), .int .i64 0, .string ⟨(rs.take u).toArray⟩, nilS] := hbk2
      have hzk2 := qk2.size; have hCm := hBm.cells
      have hRm := hRj.extX qk2 (by simp; omega) (by simp; omega)
      have ek2 : Ext [br] w wk2 := (ek1.trans (qnu.trans qtj)).join qk2 (by simp; omega)
      refine Ox.nil ?_
      (repeat first | refine thenE_normal ?_ | refine thenE_exit ?_ | refine thenE_ret ?_ | refine blockE_normal ?_ | refine blockE_ret ?_ | refine blockE_same ?_ | refine blockE_other rfl ?_)
      (repeat refine Sx.seq ?_)
      refine Sx.textR ?_
      refine Ox.val rfl rfl (rv_load rfl rfl (by (intro u hu; first | exact Cells.ld (Cells.ext0 (by assumption) (by ((repeat (first | exact Ext.refl _ _ | assumption | refine Ext.trans ?_ (by assumption))); (first | done | fail "chain")))) _ rfl rfl | exact Cells.ld0 (Cells.ext0 (by assumption) (by ((repeat (first | exact Ext.refl _ _ | assumption | refine Ext.trans ?_ (by assumption))); (first | done | fail "chain")))) rfl rfl | exact Cells.ldA (Cells.ext0 (by assumption) (by ((repeat (first | exact Ext.refl _ _ | assumption | refine Ext.trans ?_ (by assumption))); (first | done | fail "chain")))) rfl rfl | exact Cells.ldL (Cells.ext0 (by assumption) (by ((repeat (first | exact Ext.refl _ _ | assumption | refine Ext.trans ?_ (by assumption))); (first | done | fail "chain")))) rfl rfl (by assumption) | exact Cells.ldP (Cells.ext0 (by assumption) (by ((repeat (first | exact Ext.refl _ _ | assumption | refine Ext.trans ?_ (by assumption))); (first | done | fail "chain")))) _ rfl rfl rfl rfl | exact Cells.ldP (Cells.ext0 (by assumption) (by ((repeat (first | exact Ext.refl _ _ | assumption | refine Ext.trans ?_ (by assumption))); (first | done | fail "chain")))) _ rfl rfl (by assumption) (by assumption)))) ?_
      refine Ox.act rfl rfl (acts_store_all rfl rfl rfl (hBm.ext (X := []) (by ((repeat (first | exact Ext.refl _ _ | assumption | refine Ext.trans ?_ (by assumption))); (first | done | fail "chain"))) (by simp)) rfl rfl rfl (by (first | assumption | exact List.all_eq_true.mp rfl | simp [Value.cells, Value.oneCell']))) ?_
      rintro vk9 wk9 ⟨rfl, qk9, hbk9⟩
      have hB9 : Blk wk9 bal 24 [.int .i64 (c.toNat : Int), .int .i64 0, .string ⟨(rs.take u).toArray⟩, nilS] := hbk9
      refine Ox.nil ?_
      (repeat first | refine thenE_normal ?_ | refine thenE_exit ?_ | refine thenE_ret ?_ | refine blockE_normal ?_ | refine blockE_ret ?_ | refine blockE_same ?_ | refine blockE_other rfl ?_)
      (repeat refine Sx.seq ?_); refine Sx.ret ?_
      (repeat first | refine thenE_normal ?_ | refine thenE_exit ?_ | refine thenE_ret ?_ | refine blockE_normal ?_ | refine blockE_ret ?_ | refine blockE_same ?_ | refine blockE_other rfl ?_)
      refine endE_ret [.agg #[.int .i64 (c.toNat : Int), .int .i64 0, .string ⟨(rs.take u).toArray⟩, nilS]] ⟨⟨⟨bal, 0, none⟩, rfl, hB9.cells.ldA rfl rfl⟩, trivial⟩ ⟨ek2.join qk9 (by simp; omega), _, _, [.int .i64 (c.toNat : Int), .int .i64 0, .string ⟨(rs.take u).toArray⟩, nilS], by rw [hdec]; rfl, rfl, ?_, ?_, ?_⟩
      · rw [h2]
        exact ⟨⟨by decide, by decide⟩, ⟨by decide, by decide⟩, by rw [List.length_take]; omega, by simp, none, 0, ⟨0, 0, none⟩, [], rfl, by simp, by simp, ⟨by simp, cells_nil _ _⟩, by simp, rfl⟩
      · simp; omega
      · exact hRm.extX qk9 (by simp; omega) (by simp; omega)
    · (repeat refine Sx.seq ?_)
      refine Sx.textR ?_
      refine Ox.pure rfl rfl (by first | exact rp_bin rfl rfl rfl (binI_t (by omega)) | exact rp_bin rfl rfl rfl (binI_f (by omega)) | exact rp_bin rfl rfl rfl rfl) ?_
      refine Ox.pure rfl rfl (rp_assign rfl rfl) ?_
      refine Ox.nil ?_
      (repeat first | refine thenE_normal ?_ | refine thenE_exit ?_ | refine thenE_ret ?_ | refine blockE_normal ?_ | refine blockE_ret ?_ | refine blockE_same ?_ | refine blockE_other rfl ?_)
      (repeat refine Sx.seq ?_); first | refine Sx.cond_false rfl ?_ | refine Sx.cond rfl (fun h => absurd h (by simp [*])) (fun _ => ?_)
      by_cases h3 : c.toNat = 3
      · (repeat refine Sx.seq ?_)
        refine Sx.textR ?_
        refine Ox.pure rfl rfl (by first | exact rp_bin rfl rfl rfl (binI_t (by omega)) | exact rp_bin rfl rfl rfl (binI_f (by omega)) | exact rp_bin rfl rfl rfl rfl) ?_
        refine Ox.pure rfl rfl (rp_assign rfl rfl) ?_
        refine Ox.nil ?_
        (repeat first | refine thenE_normal ?_ | refine thenE_exit ?_ | refine thenE_ret ?_ | refine blockE_normal ?_ | refine blockE_ret ?_ | refine blockE_same ?_ | refine blockE_other rfl ?_)
        (repeat refine Sx.seq ?_); first | refine Sx.cond_true rfl ?_ | refine Sx.cond rfl (fun _ => ?_) (fun h => absurd h (by simp [*]))
        cases r with
        | zero =>
          rw [decV_30 h3]
          (repeat refine Sx.seq ?_)
          refine Sx.textR ?_
          refine Ox.pure rfl rfl (rp_move rfl rfl) ?_
          refine Ox.pure rfl rfl (rp_move rfl rfl) ?_
          refine Ox.pure rfl rfl (by first | exact rp_bin rfl rfl rfl (binI_t (by omega)) | exact rp_bin rfl rfl rfl (binI_f (by omega)) | exact rp_bin rfl rfl rfl rfl) ?_
          refine Ox.act rfl rfl (acts_never rfl rfl rfl (want_at _ _ _) (by intro c w9 hz9; (repeat first | refine thenE_panic ?_ | refine blockE_panic ?_); exact ⟨rfl, hz9.2.1, by rw [hz9.2.2]; exact ek1⟩) (fun v w h => absurd h.1 (by first | decide | omega))) (fun _ _ h => h.elim)
        | succ r =>
          rw [decV_3 r h3]
          (repeat refine Sx.seq ?_)
          refine Sx.textR ?_
          refine Ox.pure rfl rfl (rp_move rfl rfl) ?_
          refine Ox.pure rfl rfl (rp_move rfl rfl) ?_
          refine Ox.pure rfl rfl (by first | exact rp_bin rfl rfl rfl (binI_t (by omega)) | exact rp_bin rfl rfl rfl (binI_f (by omega)) | exact rp_bin rfl rfl rfl rfl) ?_
          refine Ox.act rfl rfl (acts_call_or rfl rfl rfl (want_at _ _ _) (by intro c w9 hz9; (repeat first | refine thenE_panic ?_ | refine blockE_panic ?_); exact absurd hz9.1 (by simp))) ?_
          rintro vwt wwt ⟨_, ewt⟩
          have hzwt := ewt.size
          refine Ox.nil ?_
          (repeat first | refine thenE_normal ?_ | refine thenE_exit ?_ | refine thenE_ret ?_ | refine blockE_normal ?_ | refine blockE_ret ?_ | refine blockE_same ?_ | refine blockE_other rfl ?_)
          (repeat refine Sx.seq ?_)
          refine Sx.textR ?_
          refine Ox.pure rfl rfl (rp_move rfl rfl) ?_
          refine Ox.act rfl rfl (acts_call_or rfl rfl rfl (length_at B _ br t (by omega) (hRk.ext (by ((repeat (first | exact Ext.refl _ _ | assumption | refine Ext.trans ?_ (by assumption))); (first | done | fail "chain"))))) (by intro c w9 hz9; (repeat first | refine thenE_panic ?_ | refine blockE_panic ?_); exact ⟨by rw [hz9.1], hz9.2.1, (ek1.trans (Ext.up (by ((repeat (first | exact Ext.refl _ _ | assumption | refine Ext.trans ?_ (by assumption))); (first | done | fail "chain"))))).trans hz9.2.2⟩)) ?_
          rintro vnu wnu ⟨qnu, n, rs, hdec, rfl, hu, hrl, hRn⟩
          have hznu := qnu.size; have hBn := (hBk.ext ewt (by simp)).ext qnu (by simp; exact hne)
          refine Ox.pure rfl rfl (rp_move rfl rfl) ?_
          refine Ox.nil ?_
          (repeat first | refine thenE_normal ?_ | refine thenE_exit ?_ | refine thenE_ret ?_ | refine blockE_normal ?_ | refine blockE_ret ?_ | refine blockE_same ?_ | refine blockE_other rfl ?_)
          (repeat refine Sx.seq ?_); refine Sx.block ?_
          rw [hdec]
          simp only
          have hbl : bal < wal.heap.size := hBal.lt
          have hnb : bal ∉ [br] := by simp; exact hne
          have hwr0 : Ext [br] w wnu := (ek1.trans ewt.up).trans qnu
          have hz0 := hwr0.size
          refine Sx.loop (ι := Nat × List V × List UInt8 × Value × List Value) (fun i E wr => E = [(0, .pointer (some ⟨br, 0, none⟩)), (1, .int .i64 (d : Int)), (4, .pointer (some ⟨bal, 0, none⟩)), (36, .int .i64 (n : Int)), (37, .int .i64 (i.1 : Int))] ∧ i.1 ≤ n ∧ i.2.1.length = i.1 ∧
              decL (decV r) n rs = (decL (decV r) (n - i.1) i.2.2.1).map (fun y => (i.2.1 ++ y.1, y.2)) ∧ Blk wr bal 24 [.int .i64 (c.toNat : Int), .int .i64 0, .string ⟨[].toArray⟩, i.2.2.2.1] ∧
              wr.ownsRow wal.heap.size 24 4 i.2.2.2.1 i.1 i.2.2.2.2 ∧ reps (fun k => wal.heap.size ≤ k ∧ k ∉ i.2.2.2.1.ownBlock.toList) wr i.2.1 i.2.2.2.2 ∧ Rd B wr br i.2.2.1 ∧ i.2.2.1.length ≤ rs.length ∧ Ext [br] w wr ∧ wal.heap.size ≤ wr.heap.size) (fun i => n - i.1) (0, [], rs, nilS, [])
            (sub_cons rfl (sub_cons rfl (sub_cons rfl (sub_cons rfl (sub_cons rfl sub_nil))))) ⟨rfl, Nat.zero_le _, rfl, by simp, hBn.ext (X := []) (by ((repeat (first | exact Ext.refl _ _ | assumption | refine Ext.trans ?_ (by assumption))); (first | done | fail "chain"))) (by simp), World.ownsRow_nil _ _ _ _, rfl, hRn.ext (by ((repeat (first | exact Ext.refl _ _ | assumption | refine Ext.trans ?_ (by assumption))); (first | done | fail "chain"))), Nat.le_refl _, hwr0.trans (Ext.up (by ((repeat (first | exact Ext.refl _ _ | assumption | refine Ext.trans ?_ (by assumption))); (first | done | fail "chain")))), by have := hBn.lt; omega⟩ ?_
          rintro ⟨i, acc, rc, vL, xs⟩ E wr ⟨rfl, hi, hacc, hdL, hBr, hown, hreps, hRr, hrcl, er, hzw⟩
          dsimp only at hi hacc hdL hBr hown hreps hRr hrcl er ⊢
          have hCr := hBr.cells
          have hnown : bal ∉ vL.ownBlock.toList := own_not' hown (.inl hbl)
          by_cases hlt : i < n
          · have hni : n - i = (n - (i + 1)) + 1 := by omega
            (repeat refine Sx.seq ?_)
            refine Sx.textR ?_
            refine Ox.pure rfl rfl (by first | exact rp_bin rfl rfl rfl (binI_t (by omega)) | exact rp_bin rfl rfl rfl (binI_f (by omega)) | exact rp_bin rfl rfl rfl rfl) ?_
            refine Ox.nil ?_
            (repeat first | refine thenE_normal ?_ | refine thenE_exit ?_ | refine thenE_ret ?_ | refine blockE_normal ?_ | refine blockE_ret ?_ | refine blockE_same ?_ | refine blockE_other rfl ?_)
            (repeat refine Sx.seq ?_); first | refine Sx.cond_true rfl ?_ | refine Sx.cond rfl (fun _ => ?_) (fun h => absurd h (by simp [*]))
            (repeat refine Sx.seq ?_); refine Sx.skip ?_
            (repeat first | refine thenE_normal ?_ | refine thenE_exit ?_ | refine thenE_ret ?_ | refine blockE_normal ?_ | refine blockE_ret ?_ | refine blockE_same ?_ | refine blockE_other rfl ?_)
            (repeat refine Sx.seq ?_); refine Sx.block ?_
            (repeat refine Sx.seq ?_)
            refine Sx.walkR rfl (fun _ _ _ _ h => h) [0, 1, 2, 3, 4, 5, 6, 7, 8, 9] [0, 1, 2, 3, 4, 8] (0) (by kernel_rfl) ?_
            intro hq w3 e3; have hz3 := e3.size
            refine Wx.pure hq rfl rfl rfl rfl (rp_fieldAddr rfl rfl rfl rfl) ?_
            refine Wx.val hq rfl rfl rfl rfl ([br]) (rv_load rfl rfl (by (intro u hu; first | exact Cells.ld (Cells.ext (Cells.ext0 (by assumption) (by ((repeat (first | exact Ext.refl _ _ | assumption | refine Ext.trans ?_ (by assumption))); (first | done | fail "chain")))) hu (by assumption)) _ rfl rfl | exact Cells.ld0 (Cells.ext (Cells.ext0 (by assumption) (by ((repeat (first | exact Ext.refl _ _ | assumption | refine Ext.trans ?_ (by assumption))); (first | done | fail "chain")))) hu (by assumption)) rfl rfl | exact Cells.ldA (Cells.ext (Cells.ext0 (by assumption) (by ((repeat (first | exact Ext.refl _ _ | assumption | refine Ext.trans ?_ (by assumption))); (first | done | fail "chain")))) hu (by assumption)) rfl rfl | exact Cells.ldL (Cells.ext (Cells.ext0 (by assumption) (by ((repeat (first | exact Ext.refl _ _ | assumption | refine Ext.trans ?_ (by assumption))); (first | done | fail "chain")))) hu (by assumption)) rfl rfl (by assumption)))) ?_
            refine Wx.pure hq rfl rfl rfl rfl (rp_move rfl rfl) ?_
            refine Wx.pure hq rfl rfl rfl rfl (rp_move rfl rfl) ?_
            refine Wx.pure hq rfl rfl rfl rfl (by first | exact rp_bin rfl rfl rfl (binI_fit_add (wrap64 (by omega))) | exact rp_bin rfl rfl rfl rfl) ?_
            refine Wx.actX [(1, [br], w3)] rfl rfl rfl rfl ([br]) (.keep (fun y hy => .inl hy) (PendK.nil)) (acts_call_or rfl rfl rfl (ih r (by omega) (d + 1) _ br rc (by omega) (by omega) (hRr.ext (by ((repeat (first | exact Ext.refl _ _ | assumption | refine Ext.trans ?_ (by assumption))); (first | done | fail "chain")))) (by omega)) (by intro c w9 hz9; (repeat first | refine thenE_panic ?_ | refine blockE_panic ?_); exact ⟨by rw [hdL, hni, decL_none hz9.1]; rfl, hz9.2.1, (er.trans (Ext.up (by ((repeat (first | exact Ext.refl _ _ | assumption | refine Ext.trans ?_ (by assumption))); (first | done | fail "chain"))))).trans hz9.2.2⟩)) (fun _ _ h => h.1) ?_
            rintro vcl wcl ⟨qcl, v, rd, cs, hv, rfl, hrep, hrdl, hRc⟩
            obtain ⟨c0, c1, c2, c3, rfl⟩ := rep_four hrep
            have hzcl := qcl.size; have hone := rep_one hrep
            have hown1 := own_keep (own_keep0 hown (by ((repeat (first | exact Ext.refl _ _ | assumption | refine Ext.trans ?_ (by assumption))); (first | done | fail "chain")))) qcl (fun g hg => by have := own_lt hown g (by simpa using hg); simp; omega)
            have hreps1 := reps_ext qcl (fun k hk => by simp; omega) (reps_ext0 (by ((repeat (first | exact Ext.refl _ _ | assumption | refine Ext.trans ?_ (by assumption))); (first | done | fail "chain"))) hreps)
            have hB1 := (hBr.ext (X := []) (by ((repeat (first | exact Ext.refl _ _ | assumption | refine Ext.trans ?_ (by assumption))); (first | done | fail "chain"))) (by simp)).ext qcl hnb
            refine Wx.actNew rfl rfl rfl rfl (acts_buildSlice (ps := [(0, .tmp 44)]) rfl rfl rfl rfl rfl rfl rfl rfl) ?_
            rintro vbs wbs ebs ⟨bbs, rfl, hbbs, hBbs⟩
            first | (have hCbs : Cells wbs ⟨bbs, 0, none⟩ [_, _, _, _] := hBbs.cells) | have hCbs := Blk.cellsL hBbs
            have hlbs := hBbs.lt
            have hzbs := ebs.size
            refine Wx.actLast rfl rfl rfl rfl (by kernel_rfl) (acts_append (e := 24) (size := 4) (bytes := 56) rfl rfl rfl rfl (own_keep0 hown1 ebs) (source_slice rfl rfl (fun _ => rfl) hCbs hone) (by omega) (by omega) (by omega)) ?_
            rintro vap wap hgap
            have hzap := hgap.ext.size
            obtain ⟨px, cx, Ax, rfl, _⟩ := own_sl hgap.own
            have hB2 := (hB1.ext ebs (by simp)).ext hgap.ext hnown
            refine Wx.pure hq rfl rfl rfl rfl (rp_fieldAddr rfl rfl rfl rfl) ?_
            refine Wx.actLast rfl rfl rfl rfl (by kernel_rfl) (acts_store (off := 3) rfl rfl rfl rfl rfl hB2 (Nat.le_of_ble_eq_true rfl) (by (first | assumption | exact List.all_eq_true.mp rfl | simp [Value.cells, Value.oneCell']))) ?_
            rintro vk3 wk3 ⟨rfl, qk3, hbk3⟩
            have hB3 : Blk wk3 bal 24 [.int .i64 (c.toNat : Int), .int .i64 0, .string ⟨[].toArray⟩, .slice px (i + 1) cx] := hbk3
            have hzk3 := qk3.size
            refine Wx.nil ?_
            (repeat first | refine thenE_normal ?_ | refine thenE_exit ?_ | refine thenE_ret ?_ | refine blockE_normal ?_ | refine blockE_ret ?_ | refine blockE_same ?_ | refine blockE_other rfl ?_)
            (repeat refine Sx.seq ?_)
            refine Sx.textR ?_
            refine Ox.pure rfl rfl (by first | exact rp_bin rfl rfl rfl (binI_fit_add (wrap64 (by omega))) | exact rp_bin rfl rfl rfl rfl) ?_
            refine Ox.pure rfl rfl (rp_move rfl rfl) ?_
            refine Ox.nil ?_
            (repeat first | refine thenE_normal ?_ | refine thenE_exit ?_ | refine thenE_ret ?_ | refine blockE_normal ?_ | refine blockE_ret ?_ | refine blockE_same ?_ | refine blockE_other rfl ?_)
            have hfr : ∀ y, y ∈ vL.ownBlock.toList → y ∈ [br] ∨ w.heap.size ≤ y := fun y hy => .inr (by have := own_lt hown y hy; omega)
            have ewap : Ext [br] w wap := ((((er.trans (Ext.up (by ((repeat (first | exact Ext.refl _ _ | assumption | refine Ext.trans ?_ (by assumption))); (first | done | fail "chain"))))).trans qcl).trans ebs.up).join hgap.ext hfr)
            have hreps2 : reps (fun k => wal.heap.size ≤ k ∧ k ∉ (Value.slice px (i + 1) cx).ownBlock.toList) wk3 (acc ++ [v]) (xs ++ [c0, c1, c2, c3]) := by
              have hnb' : ∀ k, wal.heap.size ≤ k → k ∉ [bal] := fun k hk => by simp; omega
              have hin : ∀ k, k ∈ (Value.slice px (i + 1) cx).ownBlock.toList → k ∈ vL.ownBlock.toList ∨ wcl.heap.size ≤ k := fun k hk => (hgap.blk k hk).imp id (by omega)
              refine reps_snoc ?_ ?_
              · refine reps_ext qk3 (fun k hk => hnb' k hk.1) (reps_weak (S := fun k => wal.heap.size ≤ k ∧ k ∉ (Value.slice px (i + 1) cx).ownBlock.toList) (fun k _ hk => hk) ?_)
                have h5 := reps_ext hgap.ext (fun k hk => hk.2) (reps_ext0 ebs (reps_weak (T := fun k => (wal.heap.size ≤ k ∧ k < wcl.heap.size) ∧ k ∉ vL.ownBlock.toList) (fun k hk hk2 => ⟨⟨hk2.1, hk⟩, hk2.2⟩) hreps1))
                exact reps_weak (fun k _ hk => ⟨hk.1.1, fun hm => by rcases hin k hm with h6 | h6; exact hk.2 h6; omega⟩) h5
              · have hown2 := own_lt hown
                have h4 : rep (fun k => (wr.heap.size ≤ k ∧ k < wcl.heap.size)) wcl v [c0, c1, c2, c3] := rep_weak (fun k hk hk2 => ⟨by omega, hk⟩) hrep
                have h5 := rep_ext hgap.ext (fun k hk hm => by have := hown2 k hm; omega) (rep_ext0 ebs h4)
                exact rep_ext qk3 (fun k hk => hnb' k hk.1) (rep_weak (fun k _ hk => ⟨by omega, fun hm => by rcases hin k hm with h6 | h6; have := hown2 k h6; omega; omega⟩) h5)
            have hown3 : wk3.ownsRow wal.heap.size 24 4 (.slice px (i + 1) cx) (i + 1) (xs ++ [c0, c1, c2, c3]) :=
              own_keep hgap.own qk3 (fun g hg => by have := own_lt hgap.own g (by simpa using hg); simp; omega)
            refine ⟨(i + 1, acc ++ [v], rd, .slice px (i + 1) cx, xs ++ [c0, c1, c2, c3]), _, sub_cons rfl (sub_cons rfl (sub_cons rfl (sub_cons rfl (sub_cons rfl sub_nil)))), ⟨rfl, hlt, by simp [hacc], ?_, hB3, hown3, hreps2, ?_, ?_, ?_, ?_⟩, by dsimp only; omega⟩
            · rw [hdL, hni, decL_step hv]
              cases decL (decV r) (n - (i + 1)) rd <;> simp
            · exact ((hRc.ext ebs).extX hgap.ext (fun hm => by have := own_lt hown br hm; omega) (fun k hk => by have := own_lt hown k hk; omega)).extX qk3 (by simp; omega) (by simp; omega)
            · (first | omega | (dsimp only; omega))
            · exact ewap.join qk3 (by simp; omega)
            · (first | omega | (dsimp only; omega))
          · have hin : i = n := by omega
            obtain ⟨px, cx, Ax, rfl, hslx, hkx, hcx, hax, _⟩ := own_sl hown
            rw [show n - i = 0 by omega, decL] at hdL
            (repeat refine Sx.seq ?_)
            refine Sx.textR ?_
            refine Ox.pure rfl rfl (by first | exact rp_bin rfl rfl rfl (binI_t (by omega)) | exact rp_bin rfl rfl rfl (binI_f (by omega)) | exact rp_bin rfl rfl rfl rfl) ?_
            refine Ox.nil ?_
            (repeat first | refine thenE_normal ?_ | refine thenE_exit ?_ | refine thenE_ret ?_ | refine blockE_normal ?_ | refine blockE_ret ?_ | refine blockE_same ?_ | refine blockE_other rfl ?_)
            (repeat refine Sx.seq ?_); first | refine Sx.cond_false rfl ?_ | refine Sx.cond rfl (fun h => absurd h (by simp [*])) (fun _ => ?_)
            (repeat refine Sx.seq ?_); refine Sx.exit ?_
            (repeat first | refine thenE_normal ?_ | refine thenE_exit ?_ | refine thenE_ret ?_ | refine blockE_normal ?_ | refine blockE_ret ?_ | refine blockE_same ?_ | refine blockE_other rfl ?_)
            (repeat refine Sx.seq ?_)
            refine Sx.textR ?_
            refine Ox.val rfl rfl (rv_load rfl rfl (by (intro u hu; first | exact Cells.ld (Cells.ext0 (by assumption) (by ((repeat (first | exact Ext.refl _ _ | assumption | refine Ext.trans ?_ (by assumption))); (first | done | fail "chain")))) _ rfl rfl | exact Cells.ld0 (Cells.ext0 (by assumption) (by ((repeat (first | exact Ext.refl _ _ | assumption | refine Ext.trans ?_ (by assumption))); (first | done | fail "chain")))) rfl rfl | exact Cells.ldA (Cells.ext0 (by assumption) (by ((repeat (first | exact Ext.refl _ _ | assumption | refine Ext.trans ?_ (by assumption))); (first | done | fail "chain")))) rfl rfl | exact Cells.ldL (Cells.ext0 (by assumption) (by ((repeat (first | exact Ext.refl _ _ | assumption | refine Ext.trans ?_ (by assumption))); (first | done | fail "chain")))) rfl rfl (by assumption) | exact Cells.ldP (Cells.ext0 (by assumption) (by ((repeat (first | exact Ext.refl _ _ | assumption | refine Ext.trans ?_ (by assumption))); (first | done | fail "chain")))) _ rfl rfl rfl rfl | exact Cells.ldP (Cells.ext0 (by assumption) (by ((repeat (first | exact Ext.refl _ _ | assumption | refine Ext.trans ?_ (by assumption))); (first | done | fail "chain")))) _ rfl rfl (by assumption) (by assumption)))) ?_
            refine Ox.act rfl rfl (acts_store_all rfl rfl rfl (hBr.ext (X := []) (by ((repeat (first | exact Ext.refl _ _ | assumption | refine Ext.trans ?_ (by assumption))); (first | done | fail "chain"))) (by simp)) rfl rfl rfl (by (first | assumption | exact List.all_eq_true.mp rfl | simp [Value.cells, Value.oneCell']))) ?_
            rintro vk9 wk9 ⟨rfl, qk9, hbk9⟩
            have hB9 : Blk wk9 bal 24 [.int .i64 (c.toNat : Int), .int .i64 0, .string ⟨[].toArray⟩, .slice px i cx] := hbk9
            refine Ox.nil ?_
            (repeat first | refine thenE_normal ?_ | refine thenE_exit ?_ | refine thenE_ret ?_ | refine blockE_normal ?_ | refine blockE_ret ?_ | refine blockE_same ?_ | refine blockE_other rfl ?_)
            (repeat refine Sx.seq ?_); refine Sx.ret ?_
            (repeat first | refine thenE_normal ?_ | refine thenE_exit ?_ | refine thenE_ret ?_ | refine blockE_normal ?_ | refine blockE_ret ?_ | refine blockE_same ?_ | refine blockE_other rfl ?_)
            subst hacc
            refine endE_ret [.agg #[.int .i64 (c.toNat : Int), .int .i64 0, .string ⟨[].toArray⟩, .slice px acc.length cx]] ⟨⟨⟨bal, 0, none⟩, rfl, hB9.cells.ldA rfl rfl⟩, trivial⟩ ⟨(er.trans (Ext.up (by ((repeat (first | exact Ext.refl _ _ | assumption | refine Ext.trans ?_ (by assumption))); (first | done | fail "chain"))))).join qk9 (by simp; omega), _, _, [.int .i64 (c.toNat : Int), .int .i64 0, .string ⟨[].toArray⟩, .slice px acc.length cx], by rw [hdL]; rfl, rfl, ?_, ?_, ?_⟩
            · rw [h3]
              dsimp only
              rw [List.append_nil]
              have hrw : rep (fun k => wal.heap.size ≤ k) wr (.mk 3 0 [] acc) [.int .i64 ((3 : Nat) : Int), .int .i64 0, .string ⟨[].toArray⟩, .slice px acc.length cx] :=
                ⟨⟨by decide, by decide⟩, ⟨by decide, by decide⟩, by simp, by omega, px, cx, Ax, xs, rfl, hkx, hcx, hslx, hax, reps_weak (fun k _ hk => hk.1) hreps⟩
              exact rep_weak (fun k _ hk => by omega) (rep_ext qk9 (fun k hk => by simp; omega) (rep_ext0 (by ((repeat (first | exact Ext.refl _ _ | assumption | refine Ext.trans ?_ (by assumption))); (first | done | fail "chain"))) hrw))
            · dsimp only; simp; omega
            · exact (hRr.ext (by ((repeat (first | exact Ext.refl _ _ | assumption | refine Ext.trans ?_ (by assumption))); (first | done | fail "chain")))).extX qk9 (by simp; omega) (by simp; omega)
      · rw [decV_4 _ h1 h2 h3]
        (repeat refine Sx.seq ?_)
        refine Sx.textR ?_
        refine Ox.pure rfl rfl (by first | exact rp_bin rfl rfl rfl (binI_t (by omega)) | exact rp_bin rfl rfl rfl (binI_f (by omega)) | exact rp_bin rfl rfl rfl rfl) ?_
        refine Ox.pure rfl rfl (rp_assign rfl rfl) ?_
        refine Ox.nil ?_
        (repeat first | refine thenE_normal ?_ | refine thenE_exit ?_ | refine thenE_ret ?_ | refine blockE_normal ?_ | refine blockE_ret ?_ | refine blockE_same ?_ | refine blockE_other rfl ?_)
        (repeat refine Sx.seq ?_); first | refine Sx.cond_false rfl ?_ | refine Sx.cond rfl (fun h => absurd h (by simp [*])) (fun _ => ?_)
        (repeat refine Sx.seq ?_)
        refine Sx.textR ?_
        refine Ox.pure rfl rfl (rp_move rfl rfl) ?_
        refine Ox.act rfl rfl (acts_never rfl rfl rfl (want_at _ _ _) (by intro c w9 hz9; (repeat first | refine thenE_panic ?_ | refine blockE_panic ?_); exact ⟨rfl, hz9.2.1, by rw [hz9.2.2]; exact ek1⟩) (fun v w h => absurd h.1 (by first | decide | omega))) (fun _ _ h => h.elim)

end Go.Proofs.Ytflopfjhejchfaa
