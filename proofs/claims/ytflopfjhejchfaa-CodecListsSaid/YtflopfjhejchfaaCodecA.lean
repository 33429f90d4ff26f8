/- The codec's walks: numbers. -/
import Derived.Test.YtflopfjhejchfaaRows
import Derived.Test.YtflopfjhejchfaaCodecD
set_option linter.unusedVariables false
namespace Go.Proofs.Ytflopfjhejchfaa
open Go Go.Eng

theorem low7 (u : Nat) : binI .or .u8 (IntKind.u8.wrap (u : Int)) 128 = some (.int .u8 ((UInt8.ofNat (u % 128 + 128)).toNat : Int)) := by
  have h1 : IntKind.u8.wrap (u : Int) = ((u % 256 : Nat) : Int) := by simp [IntKind.wrap, IntKind.bits, IntKind.signed]
  have h2 : BitVec.ofInt 8 ((u % 256 : Nat) : Int) = BitVec.ofNat 8 u := by
    apply BitVec.eq_of_toNat_eq; simp [BitVec.toNat_ofInt]; omega
  have h3 : (BitVec.ofNat 8 u ||| BitVec.ofInt 8 128).toNat = u % 128 + 128 := by
    have e : (BitVec.ofInt 8 128) = BitVec.ofNat 8 128 := by decide
    rw [e, BitVec.toNat_or, BitVec.toNat_ofNat, BitVec.toNat_ofNat]
    have : ∀ k < 256, (k ||| 128 % 2 ^ 8) = k % 128 + 128 := by decide +kernel
    rw [this _ (Nat.mod_lt _ (by decide))]
    omega
  have h5 : (BitVec.ofInt IntKind.u8.bits ((u % 256 : Nat) : Int) ||| BitVec.ofInt IntKind.u8.bits 128).toNat = u % 128 + 128 := by rw [← h3, ← h2]; rfl
  simp only [binI, h1, h5]
  have h4 : (UInt8.ofNat (u % 128 + 128)).toNat = u % 128 + 128 := by simp; omega
  rw [h4, wrapu8 (by omega)]
theorem small8 {u : Nat} (h : u < 128) : IntKind.u8.wrap (u : Int) = ((UInt8.ofNat u).toNat : Int) := by
  have h4 : (UInt8.ofNat u).toNat = u := by simp; omega
  rw [h4, wrapu8 (by omega)]
theorem shr7 (u : Nat) : (u : Int).fdiv (2 ^ 7) = ((u / 128 : Nat) : Int) := by
  rw [Int.fdiv_eq_ediv_of_nonneg _ (by decide)]; rfl

theorem numeral_any (B : Nat) (l : List UInt8) (u : Nat) (v : Value) (w : World) (hu : u < 18446744073709551616) (hl : l.length ≤ 70368744177664) (hB : B ≤ w.heap.size)
    (hv : w.ownsRow B 5 1 v l.length (bytesV l)) :
    Calls Try.prog 38 #[v, .int .u64 u] w (Ret (Grew B 5 1 w v (l ++ numeralL u).length (bytesV (l ++ numeralL u)))) := by
  have h10 := numeralL_10 hu
  refine calls_of_Sx (args := [v, .int .u64 u]) Try.func38 rfl rfl ?_
  (repeat refine Sx.seq ?_)
  refine Sx.textR ?_
  refine Ox.pure rfl rfl (rp_assign rfl rfl) ?_
  refine Ox.nil ?_
  (repeat first | refine thenE_normal ?_ | refine thenE_exit ?_ | refine thenE_ret ?_ | refine blockE_normal ?_ | refine blockE_ret ?_ | refine blockE_same ?_ | refine blockE_other rfl ?_)
  (repeat refine Sx.seq ?_); refine Sx.block ?_
  refine Sx.loop (ι := Nat × List UInt8 × Value) (fun i E wr => E = [(0, i.2.2), (1, .int .u64 i.1)] ∧ i.1 ≤ u ∧ l ++ numeralL u = i.2.1 ++ numeralL i.1 ∧ Grew B 5 1 w v i.2.1.length (bytesV i.2.1) i.2.2 wr) (fun i => i.1) (u, l, v)
    (sub_cons rfl (sub_cons rfl sub_nil)) ⟨rfl, Nat.le_refl _, rfl, Grew.refl hv⟩ ?_
  rintro ⟨u', l', v'⟩ E wr ⟨rfl, hu', hlu, hg⟩
  dsimp only at hu' hlu hg ⊢
  have hlen : l'.length ≤ l.length + 10 := by
    have := congrArg List.length hlu
    have h1 := numeralL_pos u'
    simp at this; omega
  have hBr : B ≤ wr.heap.size := Nat.le_trans hB hg.ext.size
  by_cases hlt : u' < 128
  · rw [numeralL_lt hlt] at hlu
    (repeat refine Sx.seq ?_)
    refine Sx.textR ?_
    refine Ox.pure rfl rfl (rp_move rfl rfl) ?_
    refine Ox.pure rfl rfl (by first | exact rp_bin rfl rfl rfl (binI_t (by omega)) | exact rp_bin rfl rfl rfl (binI_f (by omega)) | exact rp_bin rfl rfl rfl rfl) ?_
    refine Ox.nil ?_
    (repeat first | refine thenE_normal ?_ | refine thenE_exit ?_ | refine thenE_ret ?_ | refine blockE_normal ?_ | refine blockE_ret ?_ | refine blockE_same ?_ | refine blockE_other rfl ?_)
    (repeat refine Sx.seq ?_); first | refine Sx.cond_false rfl ?_ | refine Sx.cond rfl (fun h => absurd h (by simp [*])) (fun _ => ?_)
    (repeat refine Sx.seq ?_); refine Sx.exit ?_
    (repeat first | refine thenE_normal ?_ | refine thenE_exit ?_ | refine thenE_ret ?_ | refine blockE_normal ?_ | refine blockE_ret ?_ | refine blockE_same ?_ | refine blockE_other rfl ?_)
    (repeat refine Sx.seq ?_)
    refine Sx.textR ?_
    refine Ox.pure rfl rfl (rp_move rfl rfl) ?_
    refine Ox.pure rfl rfl (rp_move rfl rfl) ?_
    refine Ox.pure rfl rfl ((small8 hlt ▸ rp_conv rfl rfl rfl rfl)) ?_
    refine Ox.act rfl rfl (acts_buildSlice (ps := [(0, .tmp 17)]) rfl rfl rfl rfl rfl rfl rfl rfl) ?_
    rintro vbs wbs ⟨ebs, bbs, rfl, hbbs, hBbs⟩
    first | (have hCbs : Cells wbs ⟨bbs, 0, none⟩ [_] := hBbs.cells) | have hCbs := Blk.cellsL hBbs
    have hlbs := hBbs.lt
    have hzbs := ebs.size
    refine Ox.act rfl rfl (acts_append (e := 5) (size := 1) (bytes := 1) rfl rfl rfl rfl (own_keep0 hg.own ebs) (source_slice rfl rfl (fun _ => rfl) hCbs (by simp [Value.oneCell'])) (by omega) (by omega) (by omega)) ?_
    rintro vap wap hgap
    refine Ox.pure rfl rfl (rp_assign rfl rfl) ?_
    refine Ox.nil ?_
    (repeat first | refine thenE_normal ?_ | refine thenE_exit ?_ | refine thenE_ret ?_ | refine blockE_normal ?_ | refine blockE_ret ?_ | refine blockE_same ?_ | refine blockE_other rfl ?_)
    (repeat refine Sx.seq ?_); refine Sx.ret ?_
    (repeat first | refine thenE_normal ?_ | refine thenE_exit ?_ | refine thenE_ret ?_ | refine blockE_normal ?_ | refine blockE_ret ?_ | refine blockE_same ?_ | refine blockE_other rfl ?_)
    refine endE_ret [_] ⟨rfl, trivial⟩ ?_
    show Grew _ _ _ _ _ _ _ _ _
    have := (hg.step ebs).trans hgap
    rw [hlu, bytesV_append, List.length_append]
    exact this
  · rw [numeralL_ge hlt] at hlu
    (repeat refine Sx.seq ?_)
    refine Sx.textR ?_
    refine Ox.pure rfl rfl (rp_move rfl rfl) ?_
    refine Ox.pure rfl rfl (by first | exact rp_bin rfl rfl rfl (binI_t (by omega)) | exact rp_bin rfl rfl rfl (binI_f (by omega)) | exact rp_bin rfl rfl rfl rfl) ?_
    refine Ox.nil ?_
    (repeat first | refine thenE_normal ?_ | refine thenE_exit ?_ | refine thenE_ret ?_ | refine blockE_normal ?_ | refine blockE_ret ?_ | refine blockE_same ?_ | refine blockE_other rfl ?_)
    (repeat refine Sx.seq ?_); first | refine Sx.cond_true rfl ?_ | refine Sx.cond rfl (fun _ => ?_) (fun h => absurd h (by simp [*]))
    (repeat refine Sx.seq ?_); refine Sx.skip ?_
    (repeat first | refine thenE_normal ?_ | refine thenE_exit ?_ | refine thenE_ret ?_ | refine blockE_normal ?_ | refine blockE_ret ?_ | refine blockE_same ?_ | refine blockE_other rfl ?_)
    (repeat refine Sx.seq ?_); refine Sx.block ?_
    (repeat refine Sx.seq ?_)
    refine Sx.textR ?_
    refine Ox.pure rfl rfl (rp_move rfl rfl) ?_
    refine Ox.pure rfl rfl (rp_move rfl rfl) ?_
    refine Ox.pure rfl rfl (by first | exact rp_conv_fit rfl rfl rfl rfl (wrapu8 (by omega)) | exact rp_conv rfl rfl rfl rfl) ?_
    refine Ox.pure rfl rfl (rp_bin rfl rfl rfl (low7 u')) ?_
    refine Ox.act rfl rfl (acts_buildSlice (ps := [(0, .tmp 12)]) rfl rfl rfl rfl rfl rfl rfl rfl) ?_
    rintro vbs wbs ⟨ebs, bbs, rfl, hbbs, hBbs⟩
    first | (have hCbs : Cells wbs ⟨bbs, 0, none⟩ [_] := hBbs.cells) | have hCbs := Blk.cellsL hBbs
    have hlbs := hBbs.lt
    have hzbs := ebs.size
    refine Ox.act rfl rfl (acts_append (e := 5) (size := 1) (bytes := 1) rfl rfl rfl rfl (own_keep0 hg.own ebs) (source_slice rfl rfl (fun _ => rfl) hCbs (by simp [Value.oneCell'])) (by omega) (by omega) (by omega)) ?_
    rintro vap wap hgap
    refine Ox.pure rfl rfl (rp_assign rfl rfl) ?_
    refine Ox.nil ?_
    (repeat first | refine thenE_normal ?_ | refine thenE_exit ?_ | refine thenE_ret ?_ | refine blockE_normal ?_ | refine blockE_ret ?_ | refine blockE_same ?_ | refine blockE_other rfl ?_)
    (repeat refine Sx.seq ?_)
    refine Sx.textR ?_
    refine Ox.pure rfl rfl (rp_move rfl rfl) ?_
    refine Ox.pure rfl rfl (rp_shr 7 rfl rfl rfl ⟨by decide, by decide⟩) ?_
    refine Ox.pure rfl rfl (rp_assign rfl rfl) ?_
    refine Ox.nil ?_
    (repeat first | refine thenE_normal ?_ | refine thenE_exit ?_ | refine thenE_ret ?_ | refine blockE_normal ?_ | refine blockE_ret ?_ | refine blockE_same ?_ | refine blockE_other rfl ?_)
    refine ⟨(u' / 128, l' ++ [UInt8.ofNat (u' % 128 + 128)], vap), _, sub_cons rfl (sub_cons (by rw [← shr7 u']; rfl) sub_nil), ⟨rfl, ?_, ?_, ?_⟩, ?_⟩
    · dsimp only; omega
    · simpa using hlu
    · have := (hg.step ebs).trans hgap
      dsimp only
      rw [bytesV_append, List.length_append]
      exact this
    · dsimp only; omega

end Go.Proofs.Ytflopfjhejchfaa
