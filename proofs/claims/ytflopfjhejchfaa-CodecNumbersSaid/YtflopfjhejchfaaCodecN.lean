/- The codec's walks: numbers, written. -/
import Derived.Test.YtflopfjhejchfaaRows
import Derived.Test.YtflopfjhejchfaaCodecA
set_option linter.unusedVariables false
set_option linter.unusedSimpArgs false
namespace Go.Proofs.Ytflopfjhejchfaa
open Go Go.Eng

theorem wrapu64_mod (a : Int) : IntKind.u64.wrap a = a % 18446744073709551616 := by
  simp [IntKind.wrap, IntKind.bits, IntKind.signed]
theorem ofInt64_toNat (a : Int) : (BitVec.ofInt 64 a).toNat = (a % 18446744073709551616).toNat := by
  rw [BitVec.toNat_ofInt]; rfl
theorem xor_zero {a : Int} (h : 0 ≤ a ∧ a ≤ 18446744073709551615) : binI .xor .u64 a 0 = some (.int .u64 a) := by
  have h1 : (BitVec.ofInt 64 a ^^^ BitVec.ofInt 64 0).toNat = a.toNat := by
    rw [show BitVec.ofInt 64 0 = 0#64 from rfl, BitVec.xor_zero, ofInt64_toNat]; omega
  have h2 : (BitVec.ofInt IntKind.u64.bits a ^^^ BitVec.ofInt IntKind.u64.bits 0).toNat = a.toNat := h1
  simp only [binI, h2]
  rw [wrapu64 (by omega)]
  congr; omega
theorem xor_ones {a : Int} (h : 0 ≤ a ∧ a ≤ 18446744073709551615) : binI .xor .u64 a 18446744073709551615 = some (.int .u64 (18446744073709551615 - a)) := by
  have h1 : (BitVec.ofInt 64 a ^^^ BitVec.ofInt 64 18446744073709551615).toNat = (18446744073709551615 - a).toNat := by
    rw [show BitVec.ofInt 64 18446744073709551615 = BitVec.allOnes 64 by decide, BitVec.xor_allOnes, BitVec.toNat_not, ofInt64_toNat]; omega
  have h2 : (BitVec.ofInt IntKind.u64.bits a ^^^ BitVec.ofInt IntKind.u64.bits 18446744073709551615).toNat = (18446744073709551615 - a).toNat := h1
  simp only [binI, h2]
  rw [wrapu64 (by omega)]
  congr; omega

theorem unsigned_at (n : Int) (w : World) (hn : in64 n) : Calls Try.prog 39 #[.int .i64 n] w (Ret fun r w' => Ext [] w w' ∧ r = .int .u64 (zig n : Nat)) := by
  obtain ⟨hn1, hn2⟩ := hn
  refine calls_of_Sx (args := [.int .i64 n]) Try.func39 rfl rfl ?_
  by_cases h0 : 0 ≤ n
  · have hz : (zig n : Int) = 2 * n := by rw [zig, if_pos h0]; omega
    have h1 : IntKind.u64.wrap (IntKind.u64.wrap n * 2 ^ 1) = 2 * n := by rw [wrapu64_mod, wrapu64_mod]; omega
    have h2 : IntKind.u64.wrap (n.fdiv (2 ^ 63)) = 0 := by rw [Int.fdiv_eq_ediv_of_nonneg _ (by decide), wrapu64_mod]; omega
    (repeat refine Sx.seq ?_)
    refine Sx.textR ?_
    refine Ox.pure rfl rfl (rp_assign rfl rfl) ?_
    refine Ox.nil ?_
    (repeat first | refine thenE_normal ?_ | refine thenE_exit ?_ | refine thenE_ret ?_ | refine blockE_normal ?_ | refine blockE_ret ?_ | refine blockE_same ?_ | refine blockE_other rfl ?_)
    (repeat refine Sx.seq ?_)
    refine Sx.textR ?_
    refine Ox.pure rfl rfl (rp_move rfl rfl) ?_
    refine Ox.pure rfl rfl (rp_conv rfl rfl rfl rfl) ?_
    refine Ox.pure rfl rfl (rp_shl 1 rfl rfl rfl ⟨by decide, by decide⟩) ?_
    refine Ox.pure rfl rfl (rp_move rfl rfl) ?_
    refine Ox.pure rfl rfl (rp_shr 63 rfl rfl rfl ⟨by decide, by decide⟩) ?_
    refine Ox.pure rfl rfl (rp_conv rfl rfl rfl rfl) ?_
    refine Ox.pure rfl rfl (rp_bin rfl rfl rfl (by rw [h1, h2]; exact xor_zero (by omega))) ?_
    refine Ox.pure rfl rfl (rp_assign rfl rfl) ?_
    refine Ox.nil ?_
    (repeat first | refine thenE_normal ?_ | refine thenE_exit ?_ | refine thenE_ret ?_ | refine blockE_normal ?_ | refine blockE_ret ?_ | refine blockE_same ?_ | refine blockE_other rfl ?_)
    (repeat refine Sx.seq ?_); refine Sx.ret ?_
    (repeat first | refine thenE_normal ?_ | refine thenE_exit ?_ | refine thenE_ret ?_ | refine blockE_normal ?_ | refine blockE_ret ?_ | refine blockE_same ?_ | refine blockE_other rfl ?_)
    exact endE_ret [_] ⟨rfl, trivial⟩ ⟨by ((repeat (first | exact Ext.refl _ _ | assumption | refine Ext.trans ?_ (by assumption))); (first | done | fail "chain")), congrArg (Value.int .u64) hz.symm⟩
  · have hz : (zig n : Int) = -1 - 2 * n := by rw [zig, if_neg h0]; omega
    have h1 : IntKind.u64.wrap (IntKind.u64.wrap n * 2 ^ 1) = 2 * n + 18446744073709551616 := by rw [wrapu64_mod, wrapu64_mod]; omega
    have h2 : IntKind.u64.wrap (n.fdiv (2 ^ 63)) = 18446744073709551615 := by rw [Int.fdiv_eq_ediv_of_nonneg _ (by decide), wrapu64_mod]; omega
    (repeat refine Sx.seq ?_)
    refine Sx.textR ?_
    refine Ox.pure rfl rfl (rp_assign rfl rfl) ?_
    refine Ox.nil ?_
    (repeat first | refine thenE_normal ?_ | refine thenE_exit ?_ | refine thenE_ret ?_ | refine blockE_normal ?_ | refine blockE_ret ?_ | refine blockE_same ?_ | refine blockE_other rfl ?_)
    (repeat refine Sx.seq ?_)
    refine Sx.textR ?_
    refine Ox.pure rfl rfl (rp_move rfl rfl) ?_
    refine Ox.pure rfl rfl (rp_conv rfl rfl rfl rfl) ?_
    refine Ox.pure rfl rfl (rp_shl 1 rfl rfl rfl ⟨by decide, by decide⟩) ?_
    refine Ox.pure rfl rfl (rp_move rfl rfl) ?_
    refine Ox.pure rfl rfl (rp_shr 63 rfl rfl rfl ⟨by decide, by decide⟩) ?_
    refine Ox.pure rfl rfl (rp_conv rfl rfl rfl rfl) ?_
    refine Ox.pure rfl rfl (rp_bin rfl rfl rfl (by rw [h1, h2]; exact xor_ones (by omega))) ?_
    refine Ox.pure rfl rfl (rp_assign rfl rfl) ?_
    refine Ox.nil ?_
    (repeat first | refine thenE_normal ?_ | refine thenE_exit ?_ | refine thenE_ret ?_ | refine blockE_normal ?_ | refine blockE_ret ?_ | refine blockE_same ?_ | refine blockE_other rfl ?_)
    (repeat refine Sx.seq ?_); refine Sx.ret ?_
    (repeat first | refine thenE_normal ?_ | refine thenE_exit ?_ | refine thenE_ret ?_ | refine blockE_normal ?_ | refine blockE_ret ?_ | refine blockE_same ?_ | refine blockE_other rfl ?_)
    exact endE_ret [_] ⟨rfl, trivial⟩ ⟨by ((repeat (first | exact Ext.refl _ _ | assumption | refine Ext.trans ?_ (by assumption))); (first | done | fail "chain")), congrArg (Value.int .u64) (by omega)⟩

theorem ref_unsigned (n : Int) (w : World) (hn : in64 n) : Calls Try.prog 43 #[.int .i64 n] w (Ret fun r w' => Ext [] w w' ∧ r = .int .u64 (zig n : Nat)) := by
  obtain ⟨hn1, hn2⟩ := hn
  refine calls_of_Sx (args := [.int .i64 n]) Try.func43 rfl rfl ?_
  by_cases h0 : 0 ≤ n
  · have hz : (zig n : Int) = 2 * n := by rw [zig, if_pos h0]; omega
    (repeat refine Sx.seq ?_)
    refine Sx.textR ?_
    refine Ox.pure rfl rfl (rp_assign rfl rfl) ?_
    refine Ox.nil ?_
    (repeat first | refine thenE_normal ?_ | refine thenE_exit ?_ | refine thenE_ret ?_ | refine blockE_normal ?_ | refine blockE_ret ?_ | refine blockE_same ?_ | refine blockE_other rfl ?_)
    (repeat refine Sx.seq ?_)
    refine Sx.textR ?_
    refine Ox.pure rfl rfl (rp_move rfl rfl) ?_
    refine Ox.pure rfl rfl (by first | exact rp_bin rfl rfl rfl (binI_t (by omega)) | exact rp_bin rfl rfl rfl (binI_f (by omega)) | exact rp_bin rfl rfl rfl rfl) ?_
    refine Ox.nil ?_
    (repeat first | refine thenE_normal ?_ | refine thenE_exit ?_ | refine thenE_ret ?_ | refine blockE_normal ?_ | refine blockE_ret ?_ | refine blockE_same ?_ | refine blockE_other rfl ?_)
    (repeat refine Sx.seq ?_); first | refine Sx.cond_true rfl ?_ | refine Sx.cond rfl (fun _ => ?_) (fun h => absurd h (by simp [*]))
    (repeat refine Sx.seq ?_)
    refine Sx.textR ?_
    refine Ox.pure rfl rfl (rp_move rfl rfl) ?_
    refine Ox.pure rfl rfl (by first | exact rp_conv_fit rfl rfl rfl rfl (wrapu64 (by omega)) | exact rp_conv rfl rfl rfl rfl) ?_
    refine Ox.pure rfl rfl (by first | exact rp_bin rfl rfl rfl (binI_fit_mul (wrapu64 (by omega))) | exact rp_bin rfl rfl rfl rfl) ?_
    refine Ox.pure rfl rfl (rp_assign rfl rfl) ?_
    refine Ox.nil ?_
    (repeat first | refine thenE_normal ?_ | refine thenE_exit ?_ | refine thenE_ret ?_ | refine blockE_normal ?_ | refine blockE_ret ?_ | refine blockE_same ?_ | refine blockE_other rfl ?_)
    (repeat refine Sx.seq ?_); refine Sx.ret ?_
    (repeat first | refine thenE_normal ?_ | refine thenE_exit ?_ | refine thenE_ret ?_ | refine blockE_normal ?_ | refine blockE_ret ?_ | refine blockE_same ?_ | refine blockE_other rfl ?_)
    exact endE_ret [_] ⟨rfl, trivial⟩ ⟨by ((repeat (first | exact Ext.refl _ _ | assumption | refine Ext.trans ?_ (by assumption))); (first | done | fail "chain")), congrArg (Value.int .u64) hz.symm⟩
  · have hz : (zig n : Int) = -1 - 2 * n := by rw [zig, if_neg h0]; omega
    (repeat refine Sx.seq ?_)
    refine Sx.textR ?_
    refine Ox.pure rfl rfl (rp_assign rfl rfl) ?_
    refine Ox.nil ?_
    (repeat first | refine thenE_normal ?_ | refine thenE_exit ?_ | refine thenE_ret ?_ | refine blockE_normal ?_ | refine blockE_ret ?_ | refine blockE_same ?_ | refine blockE_other rfl ?_)
    (repeat refine Sx.seq ?_)
    refine Sx.textR ?_
    refine Ox.pure rfl rfl (rp_move rfl rfl) ?_
    refine Ox.pure rfl rfl (by first | exact rp_bin rfl rfl rfl (binI_t (by omega)) | exact rp_bin rfl rfl rfl (binI_f (by omega)) | exact rp_bin rfl rfl rfl rfl) ?_
    refine Ox.nil ?_
    (repeat first | refine thenE_normal ?_ | refine thenE_exit ?_ | refine thenE_ret ?_ | refine blockE_normal ?_ | refine blockE_ret ?_ | refine blockE_same ?_ | refine blockE_other rfl ?_)
    (repeat refine Sx.seq ?_); first | refine Sx.cond_false rfl ?_ | refine Sx.cond rfl (fun h => absurd h (by simp [*])) (fun _ => ?_)
    (repeat refine Sx.seq ?_); refine Sx.skip ?_
    (repeat first | refine thenE_normal ?_ | refine thenE_exit ?_ | refine thenE_ret ?_ | refine blockE_normal ?_ | refine blockE_ret ?_ | refine blockE_same ?_ | refine blockE_other rfl ?_)
    (repeat refine Sx.seq ?_)
    refine Sx.textR ?_
    refine Ox.pure rfl rfl (rp_move rfl rfl) ?_
    refine Ox.pure rfl rfl (by first | exact rp_bin rfl rfl rfl (binI_fit_add (wrap64 (by omega))) | exact rp_bin rfl rfl rfl rfl) ?_
    refine Ox.pure rfl rfl (by first | exact rp_neg_fit rfl rfl (wrap64 (by omega)) | exact rp_neg rfl rfl) ?_
    refine Ox.pure rfl rfl (by first | exact rp_conv_fit rfl rfl rfl rfl (wrapu64 (by omega)) | exact rp_conv rfl rfl rfl rfl) ?_
    refine Ox.pure rfl rfl (by first | exact rp_bin rfl rfl rfl (binI_fit_mul (wrapu64 (by omega))) | exact rp_bin rfl rfl rfl rfl) ?_
    refine Ox.pure rfl rfl (by first | exact rp_bin rfl rfl rfl (binI_fit_add (wrapu64 (by omega))) | exact rp_bin rfl rfl rfl rfl) ?_
    refine Ox.pure rfl rfl (rp_assign rfl rfl) ?_
    refine Ox.nil ?_
    (repeat first | refine thenE_normal ?_ | refine thenE_exit ?_ | refine thenE_ret ?_ | refine blockE_normal ?_ | refine blockE_ret ?_ | refine blockE_same ?_ | refine blockE_other rfl ?_)
    (repeat refine Sx.seq ?_); refine Sx.ret ?_
    (repeat first | refine thenE_normal ?_ | refine thenE_exit ?_ | refine thenE_ret ?_ | refine blockE_normal ?_ | refine blockE_ret ?_ | refine blockE_same ?_ | refine blockE_other rfl ?_)
    exact endE_ret [_] ⟨rfl, trivial⟩ ⟨by ((repeat (first | exact Ext.refl _ _ | assumption | refine Ext.trans ?_ (by assumption))); (first | done | fail "chain")), congrArg (Value.int .u64) (by omega)⟩

theorem ref_numeral (B : Nat) : ∀ (u : Nat) (w : World), u < 18446744073709551616 → B ≤ w.heap.size →
    Calls Try.prog 42 #[.int .u64 u] w (Ret (Grew B 5 1 w nilS (numeralL u).length (bytesV (numeralL u)))) := by
  intro u
  induction u using Nat.strongRecOn with
  | ind u ih =>
  intro w hu hB
  have h10 := numeralL_10 hu
  refine calls_of_Sx (args := [.int .u64 u]) Try.func42 rfl rfl ?_
  by_cases hlt : u < 128
  · (repeat refine Sx.seq ?_)
    refine Sx.textR ?_
    refine Ox.pure rfl rfl (rp_assign rfl rfl) ?_
    refine Ox.nil ?_
    (repeat first | refine thenE_normal ?_ | refine thenE_exit ?_ | refine thenE_ret ?_ | refine blockE_normal ?_ | refine blockE_ret ?_ | refine blockE_same ?_ | refine blockE_other rfl ?_)
    (repeat refine Sx.seq ?_)
    refine Sx.textR ?_
    refine Ox.pure rfl rfl (rp_move rfl rfl) ?_
    refine Ox.pure rfl rfl (by first | exact rp_bin rfl rfl rfl (binI_t (by omega)) | exact rp_bin rfl rfl rfl (binI_f (by omega)) | exact rp_bin rfl rfl rfl rfl) ?_
    refine Ox.nil ?_
    (repeat first | refine thenE_normal ?_ | refine thenE_exit ?_ | refine thenE_ret ?_ | refine blockE_normal ?_ | refine blockE_ret ?_ | refine blockE_same ?_ | refine blockE_other rfl ?_)
    (repeat refine Sx.seq ?_); first | refine Sx.cond_true rfl ?_ | refine Sx.cond rfl (fun _ => ?_) (fun h => absurd h (by simp [*]))
    (repeat refine Sx.seq ?_)
    refine Sx.textR ?_
    refine Ox.pure rfl rfl (rp_move rfl rfl) ?_
    refine Ox.pure rfl rfl ((small8 (by omega) ▸ rp_conv rfl rfl rfl rfl)) ?_
    refine Ox.act rfl rfl (acts_buildSlice (ps := [(0, .tmp 6)]) rfl rfl rfl rfl rfl rfl rfl rfl) ?_
    rintro vbs wbs ⟨ebs, bbs, rfl, hbbs, hBbs⟩
    first | (have hCbs : Cells wbs ⟨bbs, 0, none⟩ [_] := hBbs.cells) | have hCbs := Blk.cellsL hBbs
    have hlbs := hBbs.lt
    have hzbs := ebs.size
    refine Ox.pure rfl rfl (rp_assign rfl rfl) ?_
    refine Ox.nil ?_
    (repeat first | refine thenE_normal ?_ | refine thenE_exit ?_ | refine thenE_ret ?_ | refine blockE_normal ?_ | refine blockE_ret ?_ | refine blockE_same ?_ | refine blockE_other rfl ?_)
    (repeat refine Sx.seq ?_); refine Sx.ret ?_
    (repeat first | refine thenE_normal ?_ | refine thenE_exit ?_ | refine thenE_ret ?_ | refine blockE_normal ?_ | refine blockE_ret ?_ | refine blockE_same ?_ | refine blockE_other rfl ?_)
    rw [numeralL_lt hlt]
    exact endE_ret [_] ⟨rfl, trivial⟩ (grew_built ebs hBbs (by omega) hB rfl (by simp))
  · rw [numeralL_ge hlt]
    have h128 : u / 128 < u := by omega
    have h1011 := numeralL_10 (u := u / 128) (by omega)
    have hw8 : IntKind.u8.wrap ((u % 128 : Nat) + 128 : Int) = ((UInt8.ofNat (u % 128 + 128)).toNat : Int) := by
      have h4 : (UInt8.ofNat (u % 128 + 128)).toNat = u % 128 + 128 := by simp; omega
      rw [h4, wrapu8 (by omega)]; omega
    (repeat refine Sx.seq ?_)
    refine Sx.textR ?_
    refine Ox.pure rfl rfl (rp_assign rfl rfl) ?_
    refine Ox.nil ?_
    (repeat first | refine thenE_normal ?_ | refine thenE_exit ?_ | refine thenE_ret ?_ | refine blockE_normal ?_ | refine blockE_ret ?_ | refine blockE_same ?_ | refine blockE_other rfl ?_)
    (repeat refine Sx.seq ?_)
    refine Sx.textR ?_
    refine Ox.pure rfl rfl (rp_move rfl rfl) ?_
    refine Ox.pure rfl rfl (by first | exact rp_bin rfl rfl rfl (binI_t (by omega)) | exact rp_bin rfl rfl rfl (binI_f (by omega)) | exact rp_bin rfl rfl rfl rfl) ?_
    refine Ox.nil ?_
    (repeat first | refine thenE_normal ?_ | refine thenE_exit ?_ | refine thenE_ret ?_ | refine blockE_normal ?_ | refine blockE_ret ?_ | refine blockE_same ?_ | refine blockE_other rfl ?_)
    (repeat refine Sx.seq ?_); first | refine Sx.cond_false rfl ?_ | refine Sx.cond rfl (fun h => absurd h (by simp [*])) (fun _ => ?_)
    (repeat refine Sx.seq ?_); refine Sx.skip ?_
    (repeat first | refine thenE_normal ?_ | refine thenE_exit ?_ | refine thenE_ret ?_ | refine blockE_normal ?_ | refine blockE_ret ?_ | refine blockE_same ?_ | refine blockE_other rfl ?_)
    (repeat refine Sx.seq ?_)
    refine Sx.textR ?_
    refine Ox.pure rfl rfl (rp_move rfl rfl) ?_
    refine Ox.pure rfl rfl (rem_nat (b := 128) rfl rfl rfl (by decide)) ?_
    refine Ox.pure rfl rfl (by first | exact rp_bin rfl rfl rfl (binI_fit_add (wrapu64 (by omega))) | exact rp_bin rfl rfl rfl rfl) ?_
    refine Ox.pure rfl rfl (hw8 ▸ rp_conv rfl rfl rfl rfl) ?_
    refine Ox.act rfl rfl (acts_buildSlice (ps := [(0, .tmp 11)]) rfl rfl rfl rfl rfl rfl rfl rfl) ?_
    rintro vbs wbs ⟨ebs, bbs, rfl, hbbs, hBbs⟩
    first | (have hCbs : Cells wbs ⟨bbs, 0, none⟩ [_] := hBbs.cells) | have hCbs := Blk.cellsL hBbs
    have hlbs := hBbs.lt
    have hzbs := ebs.size
    have hgbs := grew_built (size := 1) (len := 1) ebs hBbs hbbs hB rfl (by decide)
    refine Ox.pure rfl rfl (rp_move rfl rfl) ?_
    refine Ox.pure rfl rfl (quo_nat (b := 128) rfl rfl rfl (by decide) (wrapu64 (by omega))) ?_
    refine Ox.act rfl rfl (acts_call rfl rfl rfl (ih (u / 128) h128 _ (by omega) (Nat.le_trans hB hzbs))) ?_
    rintro vcl wcl hgcl
    have ecl := hgcl.ext; have hzcl := ecl.size
    obtain ⟨pc, cc, Ac, rfl, hslc, hkc, hcc, hac, _⟩ := own_sl hgcl.own
    refine Ox.act rfl rfl (acts_append (e := 5) (size := 1) (bytes := 1) rfl rfl rfl rfl (own_keep0 hgbs.own ecl) (source_slice rfl (by rw [bytesV_length]; omega) hslc.1 hslc.2 (bytesV_one _)) (by omega) (by omega) (by omega)) ?_
    rintro vap wap hgap
    refine Ox.pure rfl rfl (rp_assign rfl rfl) ?_
    refine Ox.nil ?_
    (repeat first | refine thenE_normal ?_ | refine thenE_exit ?_ | refine thenE_ret ?_ | refine blockE_normal ?_ | refine blockE_ret ?_ | refine blockE_same ?_ | refine blockE_other rfl ?_)
    (repeat refine Sx.seq ?_); refine Sx.ret ?_
    (repeat first | refine thenE_normal ?_ | refine thenE_exit ?_ | refine thenE_ret ?_ | refine blockE_normal ?_ | refine blockE_ret ?_ | refine blockE_same ?_ | refine blockE_other rfl ?_)
    refine endE_ret [_] ⟨rfl, trivial⟩ ?_
    show Grew _ _ _ _ _ _ _ _ _
    have := (hgbs.step ecl).trans hgap
    rw [show (UInt8.ofNat (u % 128 + 128) :: numeralL (u / 128)).length = 1 + (numeralL (u / 128)).length by simp; omega]
    exact this

end Go.Proofs.Ytflopfjhejchfaa
