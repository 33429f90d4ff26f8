/- The law CodecRoundTrip. -/
import Derived.Test.YtflopfjhejchfaaRows
import Derived.Test.YtflopfjhejchfaaCodecH
set_option linter.unusedVariables false
set_option linter.unusedSimpArgs false
namespace Go.Proofs.Ytflopfjhejchfaa
open Go Go.Eng

theorem roundLaw (v : V) (cs : List Value) (b : List UInt8) (p : Option Addr) (A : Addr) (cap : Nat) (W : World) (h : rep (fun _ => True) W v cs) (hcap : b.length ≤ cap) (hlb : b.length ≤ 140737488355328) (hsl : Sl W p A b.length (bytesV b)) :
    Calls Try.prog 6 #[.agg cs.toArray, .slice p b.length cap] W (Ret fun r w' => Ext [] W w' ∧ r = .bool true) := by
  have hone := rep_one h
  have hdat := hsl.2
  obtain ⟨c0, c1, c2, c3, rfl⟩ := rep_four h
  refine calls_of_Sx (args := [.agg #[c0, c1, c2, c3], .slice p b.length cap]) Try.func6 rfl rfl ?_
  cases hfew : [v].all fewV with
  | false =>
    (repeat refine Sx.seq ?_)
    refine Sx.textR ?_
    refine Ox.act rfl rfl (acts_box rfl rfl) ?_
    rintro vbx wbx ⟨ebx, bbx, rfl, hbbx, hBbx⟩
    first | (have hCbx : Cells wbx ⟨bbx, 0, none⟩ [_, _, _, _] := hBbx.cells) | have hCbx := Blk.cellsL hBbx
    have hlbx := hBbx.lt
    have hzbx := ebx.size
    refine Ox.pure rfl rfl (rp_assign rfl rfl) ?_
    refine Ox.nil ?_
    (repeat first | refine thenE_normal ?_ | refine thenE_exit ?_ | refine thenE_ret ?_ | refine blockE_normal ?_ | refine blockE_ret ?_ | refine blockE_same ?_ | refine blockE_other rfl ?_)
    (repeat refine Sx.seq ?_)
    refine Sx.textR ?_
    refine Ox.act rfl rfl (acts_call rfl rfl rfl (sane_at _)) ?_
    rintro v1 w1 ⟨e1, rfl⟩
    have hz1 := e1.size
    refine Ox.pure rfl rfl (rp_not rfl rfl) ?_
    refine Ox.nil ?_
    (repeat first | refine thenE_normal ?_ | refine thenE_exit ?_ | refine thenE_ret ?_ | refine blockE_normal ?_ | refine blockE_ret ?_ | refine blockE_same ?_ | refine blockE_other rfl ?_)
    (repeat refine Sx.seq ?_); first | refine Sx.cond_false rfl ?_ | refine Sx.cond rfl (fun h => absurd h (by simp [*])) (fun _ => ?_)
    (repeat refine Sx.seq ?_); refine Sx.skip ?_
    (repeat first | refine thenE_normal ?_ | refine thenE_exit ?_ | refine thenE_ret ?_ | refine blockE_normal ?_ | refine blockE_ret ?_ | refine blockE_same ?_ | refine blockE_other rfl ?_)
    (repeat refine Sx.seq ?_)
    refine Sx.textR ?_
    refine Ox.val rfl rfl (rv_load rfl rfl (by (intro u hu; first | exact Cells.ld (Cells.ext0 (by assumption) (by ((repeat (first | exact Ext.refl _ _ | assumption | refine Ext.trans ?_ (by assumption))); (first | done | fail "chain")))) _ rfl rfl | exact Cells.ld0 (Cells.ext0 (by assumption) (by ((repeat (first | exact Ext.refl _ _ | assumption | refine Ext.trans ?_ (by assumption))); (first | done | fail "chain")))) rfl rfl | exact Cells.ldA (Cells.ext0 (by assumption) (by ((repeat (first | exact Ext.refl _ _ | assumption | refine Ext.trans ?_ (by assumption))); (first | done | fail "chain")))) rfl rfl | exact Cells.ldL (Cells.ext0 (by assumption) (by ((repeat (first | exact Ext.refl _ _ | assumption | refine Ext.trans ?_ (by assumption))); (first | done | fail "chain")))) rfl rfl (by assumption) | exact Cells.ldP (Cells.ext0 (by assumption) (by ((repeat (first | exact Ext.refl _ _ | assumption | refine Ext.trans ?_ (by assumption))); (first | done | fail "chain")))) _ rfl rfl rfl rfl | exact Cells.ldP (Cells.ext0 (by assumption) (by ((repeat (first | exact Ext.refl _ _ | assumption | refine Ext.trans ?_ (by assumption))); (first | done | fail "chain")))) _ rfl rfl (by assumption) (by assumption)))) ?_
    refine Ox.act rfl rfl (acts_buildSlice (ps := [(0, .tmp 15)]) rfl rfl rfl rfl rfl rfl rfl rfl) ?_
    rintro vbs wbs ⟨ebs, bbs, rfl, hbbs, hBbs⟩
    first | (have hCbs : Cells wbs ⟨bbs, 0, none⟩ [_, _, _, _] := hBbs.cells) | have hCbs := Blk.cellsL hBbs
    have hlbs := hBbs.lt
    have hzbs := ebs.size
    have hrow : Cells wbs ⟨bbs, 0, none⟩ [c0, c1, c2, c3] := hCbs
    refine Ox.act rfl rfl (acts_call rfl rfl rfl (few_at [v] (fun _ => True) [c0, c1, c2, c3] (some ⟨bbs, 0, none⟩) ⟨bbs, 0, none⟩ 1 _ (by simp) ⟨fun _ => rfl, hrow⟩ ⟨[c0, c1, c2, c3], [], rfl, rep_ext0 (by ((repeat (first | exact Ext.refl _ _ | assumption | refine Ext.trans ?_ (by assumption))); (first | done | fail "chain"))) h, rfl⟩)) ?_
    rintro v2 w2 ⟨e2, rfl⟩
    have hz2 := e2.size
    rw [hfew]
    refine Ox.pure rfl rfl (rp_not rfl rfl) ?_
    refine Ox.pure rfl rfl (rp_move rfl rfl) ?_
    first | (refine Ox.skip rfl rfl ?_) | (refine Ox.pure rfl rfl (rp_move rfl rfl) ?_)
    first | (refine Ox.skip rfl rfl ?_) | (refine Ox.pure rfl rfl (rp_lenS rfl rfl rfl) ?_)
    first | (refine Ox.skip rfl rfl ?_) | (refine Ox.pure rfl rfl (by first | exact rp_bin rfl rfl rfl (binI_t (by omega)) | exact rp_bin rfl rfl rfl (binI_f (by omega)) | exact rp_bin rfl rfl rfl rfl) ?_)
    refine Ox.pure rfl rfl (by first | exact rp_pick_t rfl rfl rfl | exact rp_pick_f rfl rfl rfl) ?_
    refine Ox.nil ?_
    (repeat first | refine thenE_normal ?_ | refine thenE_exit ?_ | refine thenE_ret ?_ | refine blockE_normal ?_ | refine blockE_ret ?_ | refine blockE_same ?_ | refine blockE_other rfl ?_)
    (repeat refine Sx.seq ?_); first | refine Sx.cond_true rfl ?_ | refine Sx.cond rfl (fun _ => ?_) (fun h => absurd h (by simp [*]))
    (repeat refine Sx.seq ?_)
    refine Sx.textR ?_
    refine Ox.pure rfl rfl (rp_assign rfl rfl) ?_
    refine Ox.nil ?_
    (repeat first | refine thenE_normal ?_ | refine thenE_exit ?_ | refine thenE_ret ?_ | refine blockE_normal ?_ | refine blockE_ret ?_ | refine blockE_same ?_ | refine blockE_other rfl ?_)
    (repeat refine Sx.seq ?_); refine Sx.ret ?_
    (repeat first | refine thenE_normal ?_ | refine thenE_exit ?_ | refine thenE_ret ?_ | refine blockE_normal ?_ | refine blockE_ret ?_ | refine blockE_same ?_ | refine blockE_other rfl ?_)
    exact endE_ret [_] ⟨rfl, trivial⟩ ⟨by ((repeat (first | exact Ext.refl _ _ | assumption | refine Ext.trans ?_ (by assumption))); (first | done | fail "chain")), rfl⟩
  | true =>
    by_cases hbig : 2000 < b.length
    · (repeat refine Sx.seq ?_)
      refine Sx.textR ?_
      refine Ox.act rfl rfl (acts_box rfl rfl) ?_
      rintro vbx wbx ⟨ebx, bbx, rfl, hbbx, hBbx⟩
      first | (have hCbx : Cells wbx ⟨bbx, 0, none⟩ [_, _, _, _] := hBbx.cells) | have hCbx := Blk.cellsL hBbx
      have hlbx := hBbx.lt
      have hzbx := ebx.size
      refine Ox.pure rfl rfl (rp_assign rfl rfl) ?_
      refine Ox.nil ?_
      (repeat first | refine thenE_normal ?_ | refine thenE_exit ?_ | refine thenE_ret ?_ | refine blockE_normal ?_ | refine blockE_ret ?_ | refine blockE_same ?_ | refine blockE_other rfl ?_)
      (repeat refine Sx.seq ?_)
      refine Sx.textR ?_
      refine Ox.act rfl rfl (acts_call rfl rfl rfl (sane_at _)) ?_
      rintro v3 w3 ⟨e3, rfl⟩
      have hz3 := e3.size
      refine Ox.pure rfl rfl (rp_not rfl rfl) ?_
      refine Ox.nil ?_
      (repeat first | refine thenE_normal ?_ | refine thenE_exit ?_ | refine thenE_ret ?_ | refine blockE_normal ?_ | refine blockE_ret ?_ | refine blockE_same ?_ | refine blockE_other rfl ?_)
      (repeat refine Sx.seq ?_); first | refine Sx.cond_false rfl ?_ | refine Sx.cond rfl (fun h => absurd h (by simp [*])) (fun _ => ?_)
      (repeat refine Sx.seq ?_); refine Sx.skip ?_
      (repeat first | refine thenE_normal ?_ | refine thenE_exit ?_ | refine thenE_ret ?_ | refine blockE_normal ?_ | refine blockE_ret ?_ | refine blockE_same ?_ | refine blockE_other rfl ?_)
      (repeat refine Sx.seq ?_)
      refine Sx.textR ?_
      refine Ox.val rfl rfl (rv_load rfl rfl (by (intro u hu; first | exact Cells.ld (Cells.ext0 (by assumption) (by ((repeat (first | exact Ext.refl _ _ | assumption | refine Ext.trans ?_ (by assumption))); (first | done | fail "chain")))) _ rfl rfl | exact Cells.ld0 (Cells.ext0 (by assumption) (by ((repeat (first | exact Ext.refl _ _ | assumption | refine Ext.trans ?_ (by assumption))); (first | done | fail "chain")))) rfl rfl | exact Cells.ldA (Cells.ext0 (by assumption) (by ((repeat (first | exact Ext.refl _ _ | assumption | refine Ext.trans ?_ (by assumption))); (first | done | fail "chain")))) rfl rfl | exact Cells.ldL (Cells.ext0 (by assumption) (by ((repeat (first | exact Ext.refl _ _ | assumption | refine Ext.trans ?_ (by assumption))); (first | done | fail "chain")))) rfl rfl (by assumption) | exact Cells.ldP (Cells.ext0 (by assumption) (by ((repeat (first | exact Ext.refl _ _ | assumption | refine Ext.trans ?_ (by assumption))); (first | done | fail "chain")))) _ rfl rfl rfl rfl | exact Cells.ldP (Cells.ext0 (by assumption) (by ((repeat (first | exact Ext.refl _ _ | assumption | refine Ext.trans ?_ (by assumption))); (first | done | fail "chain")))) _ rfl rfl (by assumption) (by assumption)))) ?_
      refine Ox.act rfl rfl (acts_buildSlice (ps := [(0, .tmp 15)]) rfl rfl rfl rfl rfl rfl rfl rfl) ?_
      rintro vbs wbs ⟨ebs, bbs, rfl, hbbs, hBbs⟩
      first | (have hCbs : Cells wbs ⟨bbs, 0, none⟩ [_, _, _, _] := hBbs.cells) | have hCbs := Blk.cellsL hBbs
      have hlbs := hBbs.lt
      have hzbs := ebs.size
      have hrow : Cells wbs ⟨bbs, 0, none⟩ [c0, c1, c2, c3] := hCbs
      refine Ox.act rfl rfl (acts_call rfl rfl rfl (few_at [v] (fun _ => True) [c0, c1, c2, c3] (some ⟨bbs, 0, none⟩) ⟨bbs, 0, none⟩ 1 _ (by simp) ⟨fun _ => rfl, hrow⟩ ⟨[c0, c1, c2, c3], [], rfl, rep_ext0 (by ((repeat (first | exact Ext.refl _ _ | assumption | refine Ext.trans ?_ (by assumption))); (first | done | fail "chain"))) h, rfl⟩)) ?_
      rintro v4 w4 ⟨e4, rfl⟩
      have hz4 := e4.size
      rw [hfew]
      refine Ox.pure rfl rfl (rp_not rfl rfl) ?_
      refine Ox.pure rfl rfl (rp_move rfl rfl) ?_
      first | (refine Ox.skip rfl rfl ?_) | (refine Ox.pure rfl rfl (rp_move rfl rfl) ?_)
      first | (refine Ox.skip rfl rfl ?_) | (refine Ox.pure rfl rfl (rp_lenS rfl rfl rfl) ?_)
      first | (refine Ox.skip rfl rfl ?_) | (refine Ox.pure rfl rfl (by first | exact rp_bin rfl rfl rfl (binI_t (by omega)) | exact rp_bin rfl rfl rfl (binI_f (by omega)) | exact rp_bin rfl rfl rfl rfl) ?_)
      refine Ox.pure rfl rfl (by first | exact rp_pick_t rfl rfl rfl | exact rp_pick_f rfl rfl rfl) ?_
      refine Ox.nil ?_
      (repeat first | refine thenE_normal ?_ | refine thenE_exit ?_ | refine thenE_ret ?_ | refine blockE_normal ?_ | refine blockE_ret ?_ | refine blockE_same ?_ | refine blockE_other rfl ?_)
      (repeat refine Sx.seq ?_); first | refine Sx.cond_true rfl ?_ | refine Sx.cond rfl (fun _ => ?_) (fun h => absurd h (by simp [*]))
      (repeat refine Sx.seq ?_)
      refine Sx.textR ?_
      refine Ox.pure rfl rfl (rp_assign rfl rfl) ?_
      refine Ox.nil ?_
      (repeat first | refine thenE_normal ?_ | refine thenE_exit ?_ | refine thenE_ret ?_ | refine blockE_normal ?_ | refine blockE_ret ?_ | refine blockE_same ?_ | refine blockE_other rfl ?_)
      (repeat refine Sx.seq ?_); refine Sx.ret ?_
      (repeat first | refine thenE_normal ?_ | refine thenE_exit ?_ | refine thenE_ret ?_ | refine blockE_normal ?_ | refine blockE_ret ?_ | refine blockE_same ?_ | refine blockE_other rfl ?_)
      exact endE_ret [_] ⟨rfl, trivial⟩ ⟨by ((repeat (first | exact Ext.refl _ _ | assumption | refine Ext.trans ?_ (by assumption))); (first | done | fail "chain")), rfl⟩
    obtain ⟨hlen, hdep⟩ := few_bounds (rep_ok h) (by simpa using hfew)
    have hself := same_self v
    have hlr : (encR v).length ≤ 44000 := by rw [encR]; split; exact hlen; simp
    (repeat refine Sx.seq ?_)
    refine Sx.textR ?_
    refine Ox.act rfl rfl (acts_box rfl rfl) ?_
    rintro vbx wbx ⟨ebx, bbx, rfl, hbbx, hBbx⟩
    first | (have hCbx : Cells wbx ⟨bbx, 0, none⟩ [_, _, _, _] := hBbx.cells) | have hCbx := Blk.cellsL hBbx
    have hlbx := hBbx.lt
    have hzbx := ebx.size
    refine Ox.pure rfl rfl (rp_assign rfl rfl) ?_
    refine Ox.nil ?_
    (repeat first | refine thenE_normal ?_ | refine thenE_exit ?_ | refine thenE_ret ?_ | refine blockE_normal ?_ | refine blockE_ret ?_ | refine blockE_same ?_ | refine blockE_other rfl ?_)
    (repeat refine Sx.seq ?_)
    refine Sx.textR ?_
    refine Ox.act rfl rfl (acts_call rfl rfl rfl (sane_at _)) ?_
    rintro v5 w5 ⟨e5, rfl⟩
    have hz5 := e5.size
    refine Ox.pure rfl rfl (rp_not rfl rfl) ?_
    refine Ox.nil ?_
    (repeat first | refine thenE_normal ?_ | refine thenE_exit ?_ | refine thenE_ret ?_ | refine blockE_normal ?_ | refine blockE_ret ?_ | refine blockE_same ?_ | refine blockE_other rfl ?_)
    (repeat refine Sx.seq ?_); first | refine Sx.cond_false rfl ?_ | refine Sx.cond rfl (fun h => absurd h (by simp [*])) (fun _ => ?_)
    (repeat refine Sx.seq ?_); refine Sx.skip ?_
    (repeat first | refine thenE_normal ?_ | refine thenE_exit ?_ | refine thenE_ret ?_ | refine blockE_normal ?_ | refine blockE_ret ?_ | refine blockE_same ?_ | refine blockE_other rfl ?_)
    (repeat refine Sx.seq ?_)
    refine Sx.textR ?_
    refine Ox.val rfl rfl (rv_load rfl rfl (by (intro u hu; first | exact Cells.ld (Cells.ext0 (by assumption) (by ((repeat (first | exact Ext.refl _ _ | assumption | refine Ext.trans ?_ (by assumption))); (first | done | fail "chain")))) _ rfl rfl | exact Cells.ld0 (Cells.ext0 (by assumption) (by ((repeat (first | exact Ext.refl _ _ | assumption | refine Ext.trans ?_ (by assumption))); (first | done | fail "chain")))) rfl rfl | exact Cells.ldA (Cells.ext0 (by assumption) (by ((repeat (first | exact Ext.refl _ _ | assumption | refine Ext.trans ?_ (by assumption))); (first | done | fail "chain")))) rfl rfl | exact Cells.ldL (Cells.ext0 (by assumption) (by ((repeat (first | exact Ext.refl _ _ | assumption | refine Ext.trans ?_ (by assumption))); (first | done | fail "chain")))) rfl rfl (by assumption) | exact Cells.ldP (Cells.ext0 (by assumption) (by ((repeat (first | exact Ext.refl _ _ | assumption | refine Ext.trans ?_ (by assumption))); (first | done | fail "chain")))) _ rfl rfl rfl rfl | exact Cells.ldP (Cells.ext0 (by assumption) (by ((repeat (first | exact Ext.refl _ _ | assumption | refine Ext.trans ?_ (by assumption))); (first | done | fail "chain")))) _ rfl rfl (by assumption) (by assumption)))) ?_
    refine Ox.act rfl rfl (acts_buildSlice (ps := [(0, .tmp 15)]) rfl rfl rfl rfl rfl rfl rfl rfl) ?_
    rintro vbs wbs ⟨ebs, bbs, rfl, hbbs, hBbs⟩
    first | (have hCbs : Cells wbs ⟨bbs, 0, none⟩ [_, _, _, _] := hBbs.cells) | have hCbs := Blk.cellsL hBbs
    have hlbs := hBbs.lt
    have hzbs := ebs.size
    have hrow : Cells wbs ⟨bbs, 0, none⟩ [c0, c1, c2, c3] := hCbs
    refine Ox.act rfl rfl (acts_call rfl rfl rfl (few_at [v] (fun _ => True) [c0, c1, c2, c3] (some ⟨bbs, 0, none⟩) ⟨bbs, 0, none⟩ 1 _ (by simp) ⟨fun _ => rfl, hrow⟩ ⟨[c0, c1, c2, c3], [], rfl, rep_ext0 (by ((repeat (first | exact Ext.refl _ _ | assumption | refine Ext.trans ?_ (by assumption))); (first | done | fail "chain"))) h, rfl⟩)) ?_
    rintro v6 w6 ⟨e6, rfl⟩
    have hz6 := e6.size
    rw [hfew]
    refine Ox.pure rfl rfl (rp_not rfl rfl) ?_
    refine Ox.pure rfl rfl (rp_move rfl rfl) ?_
    first | (refine Ox.skip rfl rfl ?_) | (refine Ox.pure rfl rfl (rp_move rfl rfl) ?_)
    first | (refine Ox.skip rfl rfl ?_) | (refine Ox.pure rfl rfl (rp_lenS rfl rfl rfl) ?_)
    first | (refine Ox.skip rfl rfl ?_) | (refine Ox.pure rfl rfl (by first | exact rp_bin rfl rfl rfl (binI_t (by omega)) | exact rp_bin rfl rfl rfl (binI_f (by omega)) | exact rp_bin rfl rfl rfl rfl) ?_)
    refine Ox.pure rfl rfl (by first | exact rp_pick_t rfl rfl rfl | exact rp_pick_f rfl rfl rfl) ?_
    refine Ox.nil ?_
    (repeat first | refine thenE_normal ?_ | refine thenE_exit ?_ | refine thenE_ret ?_ | refine blockE_normal ?_ | refine blockE_ret ?_ | refine blockE_same ?_ | refine blockE_other rfl ?_)
    (repeat refine Sx.seq ?_); first | refine Sx.cond_false rfl ?_ | refine Sx.cond rfl (fun h => absurd h (by simp [*])) (fun _ => ?_)
    (repeat refine Sx.seq ?_); refine Sx.skip ?_
    (repeat first | refine thenE_normal ?_ | refine thenE_exit ?_ | refine thenE_ret ?_ | refine blockE_normal ?_ | refine blockE_ret ?_ | refine blockE_same ?_ | refine blockE_other rfl ?_)
    (repeat refine Sx.seq ?_)
    refine Sx.textR ?_
    refine Ox.val rfl rfl (rv_load rfl rfl (by (intro u hu; first | exact Cells.ld (Cells.ext0 (by assumption) (by ((repeat (first | exact Ext.refl _ _ | assumption | refine Ext.trans ?_ (by assumption))); (first | done | fail "chain")))) _ rfl rfl | exact Cells.ld0 (Cells.ext0 (by assumption) (by ((repeat (first | exact Ext.refl _ _ | assumption | refine Ext.trans ?_ (by assumption))); (first | done | fail "chain")))) rfl rfl | exact Cells.ldA (Cells.ext0 (by assumption) (by ((repeat (first | exact Ext.refl _ _ | assumption | refine Ext.trans ?_ (by assumption))); (first | done | fail "chain")))) rfl rfl | exact Cells.ldL (Cells.ext0 (by assumption) (by ((repeat (first | exact Ext.refl _ _ | assumption | refine Ext.trans ?_ (by assumption))); (first | done | fail "chain")))) rfl rfl (by assumption) | exact Cells.ldP (Cells.ext0 (by assumption) (by ((repeat (first | exact Ext.refl _ _ | assumption | refine Ext.trans ?_ (by assumption))); (first | done | fail "chain")))) _ rfl rfl rfl rfl | exact Cells.ldP (Cells.ext0 (by assumption) (by ((repeat (first | exact Ext.refl _ _ | assumption | refine Ext.trans ?_ (by assumption))); (first | done | fail "chain")))) _ rfl rfl (by assumption) (by assumption)))) ?_
    refine Ox.act rfl rfl (acts_call rfl rfl rfl (encode_at v (fun _ => True) _ _ (rep_ext0 (by ((repeat (first | exact Ext.refl _ _ | assumption | refine Ext.trans ?_ (by assumption))); (first | done | fail "chain"))) h) (by omega) (by omega))) ?_
    rintro ven wen ⟨een, b5, rfl, ho5⟩
    have hzen := een.size
    obtain ⟨p5, k5, A5, rfl, hsl5, hk5, _⟩ := own_sl ho5
    refine Ox.pure rfl rfl (rp_move rfl rfl) ?_
    refine Ox.pure rfl rfl (rp_extract rfl rfl rfl) ?_
    refine Ox.pure rfl rfl (rp_extract rfl rfl rfl) ?_
    refine Ox.pure rfl rfl (rp_assign rfl rfl) ?_
    refine Ox.pure rfl rfl (rp_assign rfl rfl) ?_
    refine Ox.nil ?_
    (repeat first | refine thenE_normal ?_ | refine thenE_exit ?_ | refine thenE_ret ?_ | refine blockE_normal ?_ | refine blockE_ret ?_ | refine blockE_same ?_ | refine blockE_other rfl ?_)
    (repeat refine Sx.seq ?_)
    refine Sx.textR ?_
    refine Ox.pure rfl rfl (rp_move rfl rfl) ?_
    refine Ox.val rfl rfl (rv_load rfl rfl (by (intro u hu; first | exact Cells.ld (Cells.ext0 (by assumption) (by ((repeat (first | exact Ext.refl _ _ | assumption | refine Ext.trans ?_ (by assumption))); (first | done | fail "chain")))) _ rfl rfl | exact Cells.ld0 (Cells.ext0 (by assumption) (by ((repeat (first | exact Ext.refl _ _ | assumption | refine Ext.trans ?_ (by assumption))); (first | done | fail "chain")))) rfl rfl | exact Cells.ldA (Cells.ext0 (by assumption) (by ((repeat (first | exact Ext.refl _ _ | assumption | refine Ext.trans ?_ (by assumption))); (first | done | fail "chain")))) rfl rfl | exact Cells.ldL (Cells.ext0 (by assumption) (by ((repeat (first | exact Ext.refl _ _ | assumption | refine Ext.trans ?_ (by assumption))); (first | done | fail "chain")))) rfl rfl (by assumption) | exact Cells.ldP (Cells.ext0 (by assumption) (by ((repeat (first | exact Ext.refl _ _ | assumption | refine Ext.trans ?_ (by assumption))); (first | done | fail "chain")))) _ rfl rfl rfl rfl | exact Cells.ldP (Cells.ext0 (by assumption) (by ((repeat (first | exact Ext.refl _ _ | assumption | refine Ext.trans ?_ (by assumption))); (first | done | fail "chain")))) _ rfl rfl (by assumption) (by assumption)))) ?_
    refine Ox.act rfl rfl (acts_call rfl rfl rfl (check_at v (fun _ => True) _ _ (rep_ext0 (by ((repeat (first | exact Ext.refl _ _ | assumption | refine Ext.trans ?_ (by assumption))); (first | done | fail "chain"))) h) (by omega))) ?_
    rintro v7 w7 ⟨e7, rfl⟩
    have hz7 := e7.size
    refine Ox.pure rfl rfl (by first | exact rp_bin rfl rfl rfl (binI_t (by omega)) | exact rp_bin rfl rfl rfl (binI_f (by omega)) | exact rp_bin rfl rfl rfl rfl) ?_
    refine Ox.nil ?_
    (repeat first | refine thenE_normal ?_ | refine thenE_exit ?_ | refine thenE_ret ?_ | refine blockE_normal ?_ | refine blockE_ret ?_ | refine blockE_same ?_ | refine blockE_other rfl ?_)
    (repeat refine Sx.seq ?_); first | refine Sx.cond_false rfl ?_ | refine Sx.cond rfl (fun h => absurd h (by simp [*])) (fun _ => ?_)
    (repeat refine Sx.seq ?_); refine Sx.skip ?_
    (repeat first | refine thenE_normal ?_ | refine thenE_exit ?_ | refine thenE_ret ?_ | refine blockE_normal ?_ | refine blockE_ret ?_ | refine blockE_same ?_ | refine blockE_other rfl ?_)
    refine Sx.cut (ι := Unit) (fun _ => [(1, .slice p b.length cap)]) (fun _ w' => Ext [] W w') ?_ ?_
    · by_cases h0 : checkV v = 0
      · have hdec := decRes_enc (rep_ok h) h0
        (repeat refine Sx.seq ?_)
        refine Sx.textR ?_
        refine Ox.pure rfl rfl (rp_move rfl rfl) ?_
        refine Ox.pure rfl rfl (by first | exact rp_bin rfl rfl rfl (binI_t (by omega)) | exact rp_bin rfl rfl rfl (binI_f (by omega)) | exact rp_bin rfl rfl rfl rfl) ?_
        refine Ox.nil ?_
        (repeat first | refine thenE_normal ?_ | refine thenE_exit ?_ | refine thenE_ret ?_ | refine blockE_normal ?_ | refine blockE_ret ?_ | refine blockE_same ?_ | refine blockE_other rfl ?_)
        (repeat refine Sx.seq ?_); first | refine Sx.cond_true rfl ?_ | refine Sx.cond rfl (fun _ => ?_) (fun h => absurd h (by simp [*]))
        (repeat refine Sx.seq ?_)
        refine Sx.textR ?_
        refine Ox.pure rfl rfl (rp_move rfl rfl) ?_
        refine Ox.act rfl rfl (acts_call rfl rfl rfl (decode_at (encR v) p5 A5 k5 _ (by omega) hk5 (hsl5.ext0 (by ((repeat (first | exact Ext.refl _ _ | assumption | refine Ext.trans ?_ (by assumption))); (first | done | fail "chain")))))) ?_
        rintro v8 w8 ⟨e8, cs9, rfl, hr9⟩
        have hz8 := e8.size
        simp only [hdec] at hr9 ⊢; have hc49 := rep_length hr9; have hone9 := rep_one hr9
        refine Ox.pure rfl rfl (rp_move rfl rfl) ?_
        refine Ox.pure rfl rfl (rp_extract rfl rfl rfl) ?_
        refine Ox.pure rfl rfl (rp_extract rfl rfl rfl) ?_
        refine Ox.act rfl rfl (acts_alloc rfl rfl) ?_
        rintro v9 w9 ⟨e9, b9, rfl, hb9, hB9⟩
        first | (have hC9 : Cells w9 ⟨b9, 0, none⟩ [_, _, _, _] := hB9.cells) | have hC9 := Blk.cellsL hB9
        have hl9 := hB9.lt
        have hz9 := e9.size
        refine Ox.act rfl rfl (acts_store_all rfl rfl rfl hB9 rfl (by first | rfl | assumption) (by first | rfl | assumption) (by (first | assumption | exact List.all_eq_true.mp rfl | simp [Value.cells, Value.oneCell']))) ?_
        rintro v10 w10 ⟨rfl, q10, hB10⟩
        have e10 := Ext.renew e9 q10 hb9
        have hz10 := e10.size
        first | (have hC10 : Cells w10 ⟨b9, 0, none⟩ [_, _, _, _] := hB10.cells) | have hC10 := Blk.cellsL hB10
        refine Ox.pure rfl rfl (rp_assign rfl rfl) ?_
        refine Ox.nil ?_
        (repeat first | refine thenE_normal ?_ | refine thenE_exit ?_ | refine thenE_ret ?_ | refine blockE_normal ?_ | refine blockE_ret ?_ | refine blockE_same ?_ | refine blockE_other rfl ?_)
        (repeat refine Sx.seq ?_)
        refine Sx.textR ?_
        refine Ox.pure rfl rfl (rp_move rfl rfl) ?_
        refine Ox.pure rfl rfl (by first | exact rp_bin rfl rfl rfl (binI_t (by omega)) | exact rp_bin rfl rfl rfl (binI_f (by omega)) | exact rp_bin rfl rfl rfl rfl) ?_
        refine Ox.pure rfl rfl (rp_move rfl rfl) ?_
        first | (refine Ox.skip rfl rfl ?_) | (refine Ox.val rfl rfl (rv_load rfl rfl (by (intro u hu; first | exact Cells.ld (Cells.ext0 (by assumption) (by ((repeat (first | exact Ext.refl _ _ | assumption | refine Ext.trans ?_ (by assumption))); (first | done | fail "chain")))) _ rfl rfl | exact Cells.ld0 (Cells.ext0 (by assumption) (by ((repeat (first | exact Ext.refl _ _ | assumption | refine Ext.trans ?_ (by assumption))); (first | done | fail "chain")))) rfl rfl | exact Cells.ldA (Cells.ext0 (by assumption) (by ((repeat (first | exact Ext.refl _ _ | assumption | refine Ext.trans ?_ (by assumption))); (first | done | fail "chain")))) rfl rfl | exact Cells.ldL (Cells.ext0 (by assumption) (by ((repeat (first | exact Ext.refl _ _ | assumption | refine Ext.trans ?_ (by assumption))); (first | done | fail "chain")))) rfl rfl (by assumption) | exact Cells.ldP (Cells.ext0 (by assumption) (by ((repeat (first | exact Ext.refl _ _ | assumption | refine Ext.trans ?_ (by assumption))); (first | done | fail "chain")))) _ rfl rfl rfl rfl | exact Cells.ldP (Cells.ext0 (by assumption) (by ((repeat (first | exact Ext.refl _ _ | assumption | refine Ext.trans ?_ (by assumption))); (first | done | fail "chain")))) _ rfl rfl (by assumption) (by assumption)))) ?_)
        first | (refine Ox.skip rfl rfl ?_) | (refine Ox.val rfl rfl (rv_load rfl rfl (by (intro u hu; first | exact Cells.ld (Cells.ext0 (by assumption) (by ((repeat (first | exact Ext.refl _ _ | assumption | refine Ext.trans ?_ (by assumption))); (first | done | fail "chain")))) _ rfl rfl | exact Cells.ld0 (Cells.ext0 (by assumption) (by ((repeat (first | exact Ext.refl _ _ | assumption | refine Ext.trans ?_ (by assumption))); (first | done | fail "chain")))) rfl rfl | exact Cells.ldA (Cells.ext0 (by assumption) (by ((repeat (first | exact Ext.refl _ _ | assumption | refine Ext.trans ?_ (by assumption))); (first | done | fail "chain")))) rfl rfl | exact Cells.ldL (Cells.ext0 (by assumption) (by ((repeat (first | exact Ext.refl _ _ | assumption | refine Ext.trans ?_ (by assumption))); (first | done | fail "chain")))) rfl rfl (by assumption) | exact Cells.ldP (Cells.ext0 (by assumption) (by ((repeat (first | exact Ext.refl _ _ | assumption | refine Ext.trans ?_ (by assumption))); (first | done | fail "chain")))) _ rfl rfl rfl rfl | exact Cells.ldP (Cells.ext0 (by assumption) (by ((repeat (first | exact Ext.refl _ _ | assumption | refine Ext.trans ?_ (by assumption))); (first | done | fail "chain")))) _ rfl rfl (by assumption) (by assumption)))) ?_)
        first | (refine Ox.skip rfl rfl ?_) | (refine Ox.act rfl rfl (acts_call rfl rfl rfl (same_at v v (fun _ => True) _ _ _ _ (rep_ext0 (by ((repeat (first | exact Ext.refl _ _ | assumption | refine Ext.trans ?_ (by assumption))); (first | done | fail "chain"))) h) (rep_ext0 (by ((repeat (first | exact Ext.refl _ _ | assumption | refine Ext.trans ?_ (by assumption))); (first | done | fail "chain"))) hr9))) ?_; rintro v11 w11 ⟨e11, rfl⟩; have hz11 := e11.size; rw [hself])
        first | (refine Ox.skip rfl rfl ?_) | (refine Ox.pure rfl rfl (rp_not rfl rfl) ?_)
        refine Ox.pure rfl rfl (by first | exact rp_pick_t rfl rfl rfl | exact rp_pick_f rfl rfl rfl) ?_
        refine Ox.pure rfl rfl (rp_move rfl rfl) ?_
        first | (refine Ox.skip rfl rfl ?_) | (refine Ox.val rfl rfl (rv_load rfl rfl (by (intro u hu; first | exact Cells.ld (Cells.ext0 (by assumption) (by ((repeat (first | exact Ext.refl _ _ | assumption | refine Ext.trans ?_ (by assumption))); (first | done | fail "chain")))) _ rfl rfl | exact Cells.ld0 (Cells.ext0 (by assumption) (by ((repeat (first | exact Ext.refl _ _ | assumption | refine Ext.trans ?_ (by assumption))); (first | done | fail "chain")))) rfl rfl | exact Cells.ldA (Cells.ext0 (by assumption) (by ((repeat (first | exact Ext.refl _ _ | assumption | refine Ext.trans ?_ (by assumption))); (first | done | fail "chain")))) rfl rfl | exact Cells.ldL (Cells.ext0 (by assumption) (by ((repeat (first | exact Ext.refl _ _ | assumption | refine Ext.trans ?_ (by assumption))); (first | done | fail "chain")))) rfl rfl (by assumption) | exact Cells.ldP (Cells.ext0 (by assumption) (by ((repeat (first | exact Ext.refl _ _ | assumption | refine Ext.trans ?_ (by assumption))); (first | done | fail "chain")))) _ rfl rfl rfl rfl | exact Cells.ldP (Cells.ext0 (by assumption) (by ((repeat (first | exact Ext.refl _ _ | assumption | refine Ext.trans ?_ (by assumption))); (first | done | fail "chain")))) _ rfl rfl (by assumption) (by assumption)))) ?_)
        first | (refine Ox.skip rfl rfl ?_) | (refine Ox.val rfl rfl (rv_load rfl rfl (by (intro u hu; first | exact Cells.ld (Cells.ext0 (by assumption) (by ((repeat (first | exact Ext.refl _ _ | assumption | refine Ext.trans ?_ (by assumption))); (first | done | fail "chain")))) _ rfl rfl | exact Cells.ld0 (Cells.ext0 (by assumption) (by ((repeat (first | exact Ext.refl _ _ | assumption | refine Ext.trans ?_ (by assumption))); (first | done | fail "chain")))) rfl rfl | exact Cells.ldA (Cells.ext0 (by assumption) (by ((repeat (first | exact Ext.refl _ _ | assumption | refine Ext.trans ?_ (by assumption))); (first | done | fail "chain")))) rfl rfl | exact Cells.ldL (Cells.ext0 (by assumption) (by ((repeat (first | exact Ext.refl _ _ | assumption | refine Ext.trans ?_ (by assumption))); (first | done | fail "chain")))) rfl rfl (by assumption) | exact Cells.ldP (Cells.ext0 (by assumption) (by ((repeat (first | exact Ext.refl _ _ | assumption | refine Ext.trans ?_ (by assumption))); (first | done | fail "chain")))) _ rfl rfl rfl rfl | exact Cells.ldP (Cells.ext0 (by assumption) (by ((repeat (first | exact Ext.refl _ _ | assumption | refine Ext.trans ?_ (by assumption))); (first | done | fail "chain")))) _ rfl rfl (by assumption) (by assumption)))) ?_)
        first | (refine Ox.skip rfl rfl ?_) | (refine Ox.act rfl rfl (acts_call rfl rfl rfl (ref_Same v v (fun _ => True) _ _ _ _ (rep_ext0 (by ((repeat (first | exact Ext.refl _ _ | assumption | refine Ext.trans ?_ (by assumption))); (first | done | fail "chain"))) h) (rep_ext0 (by ((repeat (first | exact Ext.refl _ _ | assumption | refine Ext.trans ?_ (by assumption))); (first | done | fail "chain"))) hr9))) ?_; rintro v12 w12 ⟨e12, rfl⟩; have hz12 := e12.size; rw [hself])
        first | (refine Ox.skip rfl rfl ?_) | (refine Ox.pure rfl rfl (rp_not rfl rfl) ?_)
        refine Ox.pure rfl rfl (by first | exact rp_pick_t rfl rfl rfl | exact rp_pick_f rfl rfl rfl) ?_
        refine Ox.nil ?_
        (repeat first | refine thenE_normal ?_ | refine thenE_exit ?_ | refine thenE_ret ?_ | refine blockE_normal ?_ | refine blockE_ret ?_ | refine blockE_same ?_ | refine blockE_other rfl ?_)
        (repeat refine Sx.seq ?_); first | refine Sx.cond_false rfl ?_ | refine Sx.cond rfl (fun h => absurd h (by simp [*])) (fun _ => ?_)
        (repeat refine Sx.seq ?_); refine Sx.skip ?_
        (repeat first | refine thenE_normal ?_ | refine thenE_exit ?_ | refine thenE_ret ?_ | refine blockE_normal ?_ | refine blockE_ret ?_ | refine blockE_same ?_ | refine blockE_other rfl ?_)
        exact ⟨(), sub_cons rfl sub_nil, by ((repeat (first | exact Ext.refl _ _ | assumption | refine Ext.trans ?_ (by assumption))); (first | done | fail "chain"))⟩
      · (repeat refine Sx.seq ?_)
        refine Sx.textR ?_
        refine Ox.pure rfl rfl (rp_move rfl rfl) ?_
        refine Ox.pure rfl rfl (by first | exact rp_bin rfl rfl rfl (binI_t (by omega)) | exact rp_bin rfl rfl rfl (binI_f (by omega)) | exact rp_bin rfl rfl rfl rfl) ?_
        refine Ox.nil ?_
        (repeat first | refine thenE_normal ?_ | refine thenE_exit ?_ | refine thenE_ret ?_ | refine blockE_normal ?_ | refine blockE_ret ?_ | refine blockE_same ?_ | refine blockE_other rfl ?_)
        (repeat refine Sx.seq ?_); first | refine Sx.cond_false rfl ?_ | refine Sx.cond rfl (fun h => absurd h (by simp [*])) (fun _ => ?_)
        (repeat refine Sx.seq ?_); refine Sx.skip ?_
        (repeat first | refine thenE_normal ?_ | refine thenE_exit ?_ | refine thenE_ret ?_ | refine blockE_normal ?_ | refine blockE_ret ?_ | refine blockE_same ?_ | refine blockE_other rfl ?_)
        exact ⟨(), sub_cons rfl sub_nil, by ((repeat (first | exact Ext.refl _ _ | assumption | refine Ext.trans ?_ (by assumption))); (first | done | fail "chain"))⟩
    rintro _ wc ec
    rcases decRes_cases b with ⟨x, hd, hcx, hex, hvx, hdx⟩ | hd
    · have hvl : (encV x).length = b.length := by rw [hvx]
      (repeat refine Sx.seq ?_)
      refine Sx.textR ?_
      refine Ox.pure rfl rfl (rp_move rfl rfl) ?_
      refine Ox.act rfl rfl (acts_call rfl rfl rfl (decode_at b p A cap _ (by omega) hcap (hsl.ext0 (by ((repeat (first | exact Ext.refl _ _ | assumption | refine Ext.trans ?_ (by assumption))); (first | done | fail "chain")))))) ?_
      rintro v13 w13 ⟨e13, csd, rfl, hrd⟩
      have hz13 := e13.size
      simp only [hd] at hrd ⊢; have hc4d := rep_length hrd; have honed := rep_one hrd
      refine Ox.pure rfl rfl (rp_move rfl rfl) ?_
      refine Ox.pure rfl rfl (rp_extract rfl rfl rfl) ?_
      refine Ox.pure rfl rfl (rp_extract rfl rfl rfl) ?_
      refine Ox.act rfl rfl (acts_alloc rfl rfl) ?_
      rintro v14 w14 ⟨e14, b14, rfl, hb14, hB14⟩
      first | (have hC14 : Cells w14 ⟨b14, 0, none⟩ [_, _, _, _] := hB14.cells) | have hC14 := Blk.cellsL hB14
      have hl14 := hB14.lt
      have hz14 := e14.size
      refine Ox.act rfl rfl (acts_store_all rfl rfl rfl hB14 rfl (by first | rfl | assumption) (by first | rfl | assumption) (by (first | assumption | exact List.all_eq_true.mp rfl | simp [Value.cells, Value.oneCell']))) ?_
      rintro v15 w15 ⟨rfl, q15, hB15⟩
      have e15 := Ext.renew e14 q15 hb14
      have hz15 := e15.size
      first | (have hC15 : Cells w15 ⟨b14, 0, none⟩ [_, _, _, _] := hB15.cells) | have hC15 := Blk.cellsL hB15
      refine Ox.pure rfl rfl (rp_assign rfl rfl) ?_
      refine Ox.nil ?_
      (repeat first | refine thenE_normal ?_ | refine thenE_exit ?_ | refine thenE_ret ?_ | refine blockE_normal ?_ | refine blockE_ret ?_ | refine blockE_same ?_ | refine blockE_other rfl ?_)
      (repeat refine Sx.seq ?_)
      refine Sx.textR ?_
      refine Ox.pure rfl rfl (rp_move rfl rfl) ?_
      refine Ox.pure rfl rfl (by first | exact rp_bin rfl rfl rfl (binI_t (by omega)) | exact rp_bin rfl rfl rfl (binI_f (by omega)) | exact rp_bin rfl rfl rfl rfl) ?_
      refine Ox.nil ?_
      (repeat first | refine thenE_normal ?_ | refine thenE_exit ?_ | refine thenE_ret ?_ | refine blockE_normal ?_ | refine blockE_ret ?_ | refine blockE_same ?_ | refine blockE_other rfl ?_)
      (repeat refine Sx.seq ?_); first | refine Sx.cond_false rfl ?_ | refine Sx.cond rfl (fun h => absurd h (by simp [*])) (fun _ => ?_)
      (repeat refine Sx.seq ?_); refine Sx.skip ?_
      (repeat first | refine thenE_normal ?_ | refine thenE_exit ?_ | refine thenE_ret ?_ | refine blockE_normal ?_ | refine blockE_ret ?_ | refine blockE_same ?_ | refine blockE_other rfl ?_)
      (repeat refine Sx.seq ?_)
      refine Sx.textR ?_
      refine Ox.val rfl rfl (rv_load rfl rfl (by (intro u hu; first | exact Cells.ld (Cells.ext0 (by assumption) (by ((repeat (first | exact Ext.refl _ _ | assumption | refine Ext.trans ?_ (by assumption))); (first | done | fail "chain")))) _ rfl rfl | exact Cells.ld0 (Cells.ext0 (by assumption) (by ((repeat (first | exact Ext.refl _ _ | assumption | refine Ext.trans ?_ (by assumption))); (first | done | fail "chain")))) rfl rfl | exact Cells.ldA (Cells.ext0 (by assumption) (by ((repeat (first | exact Ext.refl _ _ | assumption | refine Ext.trans ?_ (by assumption))); (first | done | fail "chain")))) rfl rfl | exact Cells.ldL (Cells.ext0 (by assumption) (by ((repeat (first | exact Ext.refl _ _ | assumption | refine Ext.trans ?_ (by assumption))); (first | done | fail "chain")))) rfl rfl (by assumption) | exact Cells.ldP (Cells.ext0 (by assumption) (by ((repeat (first | exact Ext.refl _ _ | assumption | refine Ext.trans ?_ (by assumption))); (first | done | fail "chain")))) _ rfl rfl rfl rfl | exact Cells.ldP (Cells.ext0 (by assumption) (by ((repeat (first | exact Ext.refl _ _ | assumption | refine Ext.trans ?_ (by assumption))); (first | done | fail "chain")))) _ rfl rfl (by assumption) (by assumption)))) ?_
      refine Ox.act rfl rfl (acts_call rfl rfl rfl (encode_at x _ _ _ (rep_ext0 (by ((repeat (first | exact Ext.refl _ _ | assumption | refine Ext.trans ?_ (by assumption))); (first | done | fail "chain"))) hrd) (by omega) (by omega))) ?_
      rintro v16 w16 ⟨e16, b15, rfl, ho15⟩
      have hz16 := e16.size
      rw [hcx]; rw [hex] at ho15; obtain ⟨p15, k15, A15, rfl, hsl15, _⟩ := own_sl ho15; have hd15 := hsl15.2
      refine Ox.pure rfl rfl (rp_move rfl rfl) ?_
      refine Ox.pure rfl rfl (rp_extract rfl rfl rfl) ?_
      refine Ox.pure rfl rfl (rp_extract rfl rfl rfl) ?_
      refine Ox.pure rfl rfl (rp_assign rfl rfl) ?_
      refine Ox.pure rfl rfl (rp_assign rfl rfl) ?_
      refine Ox.nil ?_
      (repeat first | refine thenE_normal ?_ | refine thenE_exit ?_ | refine thenE_ret ?_ | refine blockE_normal ?_ | refine blockE_ret ?_ | refine blockE_same ?_ | refine blockE_other rfl ?_)
      (repeat refine Sx.seq ?_)
      refine Sx.textR ?_
      refine Ox.pure rfl rfl (rp_move rfl rfl) ?_
      refine Ox.pure rfl rfl (by first | exact rp_bin rfl rfl rfl (binI_t (by omega)) | exact rp_bin rfl rfl rfl (binI_f (by omega)) | exact rp_bin rfl rfl rfl rfl) ?_
      refine Ox.pure rfl rfl (rp_move rfl rfl) ?_
      first | (refine Ox.skip rfl rfl ?_) | (refine Ox.pure rfl rfl (rp_move rfl rfl) ?_)
      first | (refine Ox.skip rfl rfl ?_) | (refine Ox.val rfl rfl (rv_bytes (A := A15) (l := b) rfl rfl rfl rfl rfl rfl hsl15.1 (fun u hu => (hd15.ext0 (by ((repeat (first | exact Ext.refl _ _ | assumption | refine Ext.trans ?_ (by assumption))); (first | done | fail "chain")))).ext0 hu)) ?_)
      first | (refine Ox.skip rfl rfl ?_) | (refine Ox.pure rfl rfl (rp_move rfl rfl) ?_)
      first | (refine Ox.skip rfl rfl ?_) | (refine Ox.val rfl rfl (rv_bytes (A := A) (l := b) rfl rfl rfl rfl rfl rfl hsl.1 (fun u hu => (hdat.ext0 (by ((repeat (first | exact Ext.refl _ _ | assumption | refine Ext.trans ?_ (by assumption))); (first | done | fail "chain")))).ext0 hu)) ?_)
      first | (refine Ox.skip rfl rfl ?_) | (refine Ox.pure rfl rfl (by first | exact rp_strEq_t rfl rfl rfl (by (first | assumption | rfl | decide)) | exact rp_strEq_f rfl rfl rfl (by (first | assumption | rfl | decide)) | exact rp_strEq rfl rfl rfl) ?_)
      refine Ox.pure rfl rfl (by first | exact rp_pick_t rfl rfl rfl | exact rp_pick_f rfl rfl rfl) ?_
      refine Ox.pure rfl rfl (rp_move rfl rfl) ?_
      first | (refine Ox.skip rfl rfl ?_) | (refine Ox.val rfl rfl (rv_load rfl rfl (by (intro u hu; first | exact Cells.ld (Cells.ext0 (by assumption) (by ((repeat (first | exact Ext.refl _ _ | assumption | refine Ext.trans ?_ (by assumption))); (first | done | fail "chain")))) _ rfl rfl | exact Cells.ld0 (Cells.ext0 (by assumption) (by ((repeat (first | exact Ext.refl _ _ | assumption | refine Ext.trans ?_ (by assumption))); (first | done | fail "chain")))) rfl rfl | exact Cells.ldA (Cells.ext0 (by assumption) (by ((repeat (first | exact Ext.refl _ _ | assumption | refine Ext.trans ?_ (by assumption))); (first | done | fail "chain")))) rfl rfl | exact Cells.ldL (Cells.ext0 (by assumption) (by ((repeat (first | exact Ext.refl _ _ | assumption | refine Ext.trans ?_ (by assumption))); (first | done | fail "chain")))) rfl rfl (by assumption) | exact Cells.ldP (Cells.ext0 (by assumption) (by ((repeat (first | exact Ext.refl _ _ | assumption | refine Ext.trans ?_ (by assumption))); (first | done | fail "chain")))) _ rfl rfl rfl rfl | exact Cells.ldP (Cells.ext0 (by assumption) (by ((repeat (first | exact Ext.refl _ _ | assumption | refine Ext.trans ?_ (by assumption))); (first | done | fail "chain")))) _ rfl rfl (by assumption) (by assumption)))) ?_)
      first | (refine Ox.skip rfl rfl ?_) | (refine Ox.act rfl rfl (acts_call rfl rfl rfl (check_at x _ _ _ (rep_ext0 (by ((repeat (first | exact Ext.refl _ _ | assumption | refine Ext.trans ?_ (by assumption))); (first | done | fail "chain"))) hrd) (by omega))) ?_; rintro v17 w17 ⟨e17, rfl⟩; have hz17 := e17.size; rw [hcx])
      first | (refine Ox.skip rfl rfl ?_) | (refine Ox.pure rfl rfl (by first | exact rp_bin rfl rfl rfl (binI_t (by omega)) | exact rp_bin rfl rfl rfl (binI_f (by omega)) | exact rp_bin rfl rfl rfl rfl) ?_)
      refine Ox.pure rfl rfl (by first | exact rp_pick_t rfl rfl rfl | exact rp_pick_f rfl rfl rfl) ?_
      refine Ox.pure rfl rfl (rp_assign rfl rfl) ?_
      refine Ox.nil ?_
      (repeat first | refine thenE_normal ?_ | refine thenE_exit ?_ | refine thenE_ret ?_ | refine blockE_normal ?_ | refine blockE_ret ?_ | refine blockE_same ?_ | refine blockE_other rfl ?_)
      (repeat refine Sx.seq ?_); refine Sx.ret ?_
      (repeat first | refine thenE_normal ?_ | refine thenE_exit ?_ | refine thenE_ret ?_ | refine blockE_normal ?_ | refine blockE_ret ?_ | refine blockE_same ?_ | refine blockE_other rfl ?_)
      exact endE_ret [_] ⟨rfl, trivial⟩ ⟨by ((repeat (first | exact Ext.refl _ _ | assumption | refine Ext.trans ?_ (by assumption))); (first | done | fail "chain")), rfl⟩
    · have hz := same_self zeroV
      (repeat refine Sx.seq ?_)
      refine Sx.textR ?_
      refine Ox.pure rfl rfl (rp_move rfl rfl) ?_
      refine Ox.act rfl rfl (acts_call rfl rfl rfl (decode_at b p A cap _ (by omega) hcap (hsl.ext0 (by ((repeat (first | exact Ext.refl _ _ | assumption | refine Ext.trans ?_ (by assumption))); (first | done | fail "chain")))))) ?_
      rintro v18 w18 ⟨e18, csd, rfl, hrd⟩
      have hz18 := e18.size
      simp only [hd] at hrd ⊢; have hc4d := rep_length hrd; have honed := rep_one hrd
      refine Ox.pure rfl rfl (rp_move rfl rfl) ?_
      refine Ox.pure rfl rfl (rp_extract rfl rfl rfl) ?_
      refine Ox.pure rfl rfl (rp_extract rfl rfl rfl) ?_
      refine Ox.act rfl rfl (acts_alloc rfl rfl) ?_
      rintro v19 w19 ⟨e19, b19, rfl, hb19, hB19⟩
      first | (have hC19 : Cells w19 ⟨b19, 0, none⟩ [_, _, _, _] := hB19.cells) | have hC19 := Blk.cellsL hB19
      have hl19 := hB19.lt
      have hz19 := e19.size
      refine Ox.act rfl rfl (acts_store_all rfl rfl rfl hB19 rfl (by first | rfl | assumption) (by first | rfl | assumption) (by (first | assumption | exact List.all_eq_true.mp rfl | simp [Value.cells, Value.oneCell']))) ?_
      rintro v20 w20 ⟨rfl, q20, hB20⟩
      have e20 := Ext.renew e19 q20 hb19
      have hz20 := e20.size
      first | (have hC20 : Cells w20 ⟨b19, 0, none⟩ [_, _, _, _] := hB20.cells) | have hC20 := Blk.cellsL hB20
      refine Ox.pure rfl rfl (rp_assign rfl rfl) ?_
      refine Ox.nil ?_
      (repeat first | refine thenE_normal ?_ | refine thenE_exit ?_ | refine thenE_ret ?_ | refine blockE_normal ?_ | refine blockE_ret ?_ | refine blockE_same ?_ | refine blockE_other rfl ?_)
      (repeat refine Sx.seq ?_)
      refine Sx.textR ?_
      refine Ox.pure rfl rfl (rp_move rfl rfl) ?_
      refine Ox.pure rfl rfl (by first | exact rp_bin rfl rfl rfl (binI_t (by omega)) | exact rp_bin rfl rfl rfl (binI_f (by omega)) | exact rp_bin rfl rfl rfl rfl) ?_
      refine Ox.nil ?_
      (repeat first | refine thenE_normal ?_ | refine thenE_exit ?_ | refine thenE_ret ?_ | refine blockE_normal ?_ | refine blockE_ret ?_ | refine blockE_same ?_ | refine blockE_other rfl ?_)
      (repeat refine Sx.seq ?_); first | refine Sx.cond_true rfl ?_ | refine Sx.cond rfl (fun _ => ?_) (fun h => absurd h (by simp [*]))
      (repeat refine Sx.seq ?_)
      refine Sx.textR ?_
      refine Ox.pure rfl rfl (rp_move rfl rfl) ?_
      refine Ox.pure rfl rfl (by first | exact rp_bin rfl rfl rfl (binI_t (by omega)) | exact rp_bin rfl rfl rfl (binI_f (by omega)) | exact rp_bin rfl rfl rfl rfl) ?_
      refine Ox.pure rfl rfl (rp_move rfl rfl) ?_
      first | (refine Ox.skip rfl rfl ?_) | (refine Ox.val rfl rfl (rv_load rfl rfl (by (intro u hu; first | exact Cells.ld (Cells.ext0 (by assumption) (by ((repeat (first | exact Ext.refl _ _ | assumption | refine Ext.trans ?_ (by assumption))); (first | done | fail "chain")))) _ rfl rfl | exact Cells.ld0 (Cells.ext0 (by assumption) (by ((repeat (first | exact Ext.refl _ _ | assumption | refine Ext.trans ?_ (by assumption))); (first | done | fail "chain")))) rfl rfl | exact Cells.ldA (Cells.ext0 (by assumption) (by ((repeat (first | exact Ext.refl _ _ | assumption | refine Ext.trans ?_ (by assumption))); (first | done | fail "chain")))) rfl rfl | exact Cells.ldL (Cells.ext0 (by assumption) (by ((repeat (first | exact Ext.refl _ _ | assumption | refine Ext.trans ?_ (by assumption))); (first | done | fail "chain")))) rfl rfl (by assumption) | exact Cells.ldP (Cells.ext0 (by assumption) (by ((repeat (first | exact Ext.refl _ _ | assumption | refine Ext.trans ?_ (by assumption))); (first | done | fail "chain")))) _ rfl rfl rfl rfl | exact Cells.ldP (Cells.ext0 (by assumption) (by ((repeat (first | exact Ext.refl _ _ | assumption | refine Ext.trans ?_ (by assumption))); (first | done | fail "chain")))) _ rfl rfl (by assumption) (by assumption)))) ?_)
      first | (refine Ox.skip rfl rfl ?_) | (refine Ox.pure rfl rfl (rp_buildS (ps := []) rfl rfl rfl rfl rfl) ?_)
      first | (refine Ox.skip rfl rfl ?_) | (refine Ox.act rfl rfl (acts_call rfl rfl rfl (same_at zeroV zeroV _ (fun _ => True) _ _ _ (rep_ext0 (by ((repeat (first | exact Ext.refl _ _ | assumption | refine Ext.trans ?_ (by assumption))); (first | done | fail "chain"))) hrd) (rep_zero _ _))) ?_; rintro v21 w21 ⟨e21, rfl⟩; have hz21 := e21.size; rw [hz])
      refine Ox.pure rfl rfl (by first | exact rp_pick_t rfl rfl rfl | exact rp_pick_f rfl rfl rfl) ?_
      refine Ox.pure rfl rfl (rp_assign rfl rfl) ?_
      refine Ox.nil ?_
      (repeat first | refine thenE_normal ?_ | refine thenE_exit ?_ | refine thenE_ret ?_ | refine blockE_normal ?_ | refine blockE_ret ?_ | refine blockE_same ?_ | refine blockE_other rfl ?_)
      (repeat refine Sx.seq ?_); refine Sx.ret ?_
      (repeat first | refine thenE_normal ?_ | refine thenE_exit ?_ | refine thenE_ret ?_ | refine blockE_normal ?_ | refine blockE_ret ?_ | refine blockE_same ?_ | refine blockE_other rfl ?_)
      exact endE_ret [_] ⟨rfl, trivial⟩ ⟨by ((repeat (first | exact Ext.refl _ _ | assumption | refine Ext.trans ?_ (by assumption))); (first | done | fail "chain")), rfl⟩

open Go.ChangeShapes Go.WideShapes Go.ChangeAt Go.RowKit in
theorem lawContract (H : Type) (enc : TypeId × Value → H) (W : World) (base : Nat) (args : Array Value) (ds gs : List (DataW H)) (before : List MemPlace)
    (hval : ∀ (j : Nat) t v, Try.f6.params[j]? = some t → args[j]? = some v → Value.okWide Try.prog W .any base t v)
    (hW : DataW.Whole enc Try.prog Try.f6.params.toList Rows.codecRoundTripSpec.vars false W args.toList ds gs before)
    (hw : (DataW.weightsEach Try.prog (Try.f6.params.toList ++ Rows.codecRoundTripSpec.plain.varTypes Try.prog) (ds ++ gs)).all (· ≤ reachBytes) = true) :
    Calls Try.prog 6 args W fun e W' => ∃ v, e = .returned v ∧ Rows.codecRoundTripSpec.post enc Try.prog Try.f6 false true false false W args v W' := by
  obtain ⟨p, q, hA, hV, rfl, hz, hn⟩ := id hW
  obtain ⟨rfl, rfl⟩ := trodVars_none hV
  have hA' : DataW.TrodAll enc Try.prog W 0 (fun _ => true) true [24, 27] args.toList ds p := hA
  obtain ⟨v0, vs0, d0, ds0, p0, q0, hargs, rfl, rfl, h0, r0⟩ := trodAll_cons hA'
  obtain ⟨v1, vs1, d1, ds1, p1, q1, rfl, rfl, rfl, h1, r1⟩ := trodAll_cons r0
  obtain ⟨rfl, rfl, rfl⟩ := trodAll_nil r1
  obtain rfl : args = #[v0, v1] := by cases args; simp_all
  have hw' : ∀ x ∈ DataW.weightsEach Try.prog [24, 27] [d0, d1], x ≤ reachBytes := by
    have hw2 : (DataW.weightsEach Try.prog [24, 27] [d0, d1]).all (· ≤ reachBytes) = true := hw
    simpa [List.all_eq_true] using hw2
  simp only [DataW.weightsEach, List.mem_append] at hw'
  obtain ⟨v, cs, rfl, hv⟩ := arg_rep h0 (fun x hx => hw' x (.inl hx))
  obtain ⟨b, pb, A, cap, rfl, hcap, hlb, hsl⟩ := arg_bytes (not_agg undB (hval 1 27 v1 rfl rfl)) h1 (fun x hx => hw' x (.inr (.inl hx)))
  refine (roundLaw v cs b pb A cap W hv hcap hlb hsl).mono fun e W' he => ?_
  cases e with
  | returned r =>
    obtain ⟨hx, rfl⟩ := he
    exact ⟨_, rfl, post_true (by kernel_rfl) (by kernel_rfl) rfl hW rfl rfl rfl rfl rfl hx⟩
  | panicked c => exact he.elim
  | outgrown => exact he.elim

open Go.ChangeShapes Go.WideShapes Go.ChangeAt Go.RowKit in
set_option maxRecDepth 100000 in
theorem lifted (os : Os) (started : os.Started) (H : Type) (enc : TypeId × Value → H) :
    ReturnsInHanded {} Try.checked os 6 .any (Rows.codecRoundTripSpec.pre6 enc Try.prog Try.f6 [] false) (Rows.codecRoundTripSpec.post enc Try.prog Try.f6 false true false false) := by
  refine returnsInHanded_of_change_sized (C := Try.checked) (by kernel_rfl) started (by kernel_rfl) Try.func6
    (ChangeSpec.witness6 (enc := enc) (C := Try.checked) (s := Rows.codecRoundTripSpec) false ⟨#[], #[.agg zeroC.toArray, .slice none 0 0], []⟩ 8 (by kernel_rfl) (by kernel_rfl) (by kernel_rfl) (by kernel_rfl)) ?_
  intro W base args ds gs before hval hW _ hw _
  exact lawContract H enc W base args ds gs before hval hW hw

theorem over : Rows.codecRoundTripRow.holds Try.pinned (OpenSpec.ofChange Rows.codecRoundTripSpec) :=
  OpenClaim.holds_of_wide 6 Try.f6 rfl rfl rfl rfl rfl rfl rfl ⟨rfl, rfl, rfl, rfl, rfl⟩ rfl rfl rfl rfl rfl (by kernel_rfl) Try.func6 (by kernel_rfl)
    (of_decide_eq_true (by kernel_rfl)) (by unfold Func.isWrapper; first | (rw [if_pos (by decide +kernel)]; kernel_rfl) | (rw [if_neg (by decide +kernel)]; exact ⟨rfl, rfl⟩))
    (fun os started H enc _ => lifted os started H enc)

theorem proved : Rows.CodecRoundTripSaid := over

end Go.Proofs.Ytflopfjhejchfaa
