/- The facts' walks: lists that are checked, facts that are added. -/
import Derived.Test.YtfnekbnlokigcaaRows
import Derived.Test.YtfnekbnlokigcaaFactA
set_option linter.unusedVariables false
set_option maxRecDepth 100000
set_option linter.unusedSimpArgs false
namespace Go.Proofs.Ytfnekbnlokigcaa
open Go Go.Eng

theorem ref_Before (a b : Fct) (w : World) : Calls Try.prog 41 #[.agg (fc a).toArray, .agg (fc b).toArray] w (Ret fun r w' => Ext [] w w' ∧ r = .bool (decide (before a b))) := by
  refine calls_of_Sx (args := [.agg (fc a).toArray, .agg (fc b).toArray]) Try.func41 rfl rfl ?_
  (repeat refine Sx.seq ?_)
  refine Sx.textR ?_
  refine Ox.act rfl rfl (acts_box rfl rfl) ?_
  rintro vbx wbx ⟨ebx, bbx, rfl, hbbx, hBbx⟩
  first | (have hCbx : Cells wbx ⟨bbx, 0, none⟩ [_, _, _, _, _, _, _, _] := hBbx.cells) | have hCbx := Blk.cellsL hBbx
  have hlbx := hBbx.lt
  have hzbx := ebx.size
  refine Ox.act rfl rfl (acts_box rfl rfl) ?_
  rintro vby wby ⟨eby, bby, rfl, hbby, hBby⟩
  first | (have hCby : Cells wby ⟨bby, 0, none⟩ [_, _, _, _, _, _, _, _] := hBby.cells) | have hCby := Blk.cellsL hBby
  have hlby := hBby.lt
  have hzby := eby.size
  refine Ox.pure rfl rfl (rp_assign rfl rfl) ?_
  refine Ox.nil ?_
  (repeat first | refine thenE_normal ?_ | refine blockE_normal ?_ | refine scopeE_normal ?_)
  by_cases h1 : a.known < b.known
  · (repeat refine Sx.seq ?_)
    refine Sx.textR ?_
    refine Ox.pure rfl rfl (by first | exact rp_fieldAddr2 rfl rfl rfl rfl | exact rp_fieldAddr rfl rfl rfl rfl) ?_
    refine Ox.val rfl rfl (rv_load rfl rfl (by (intro u hu; first | exact Cells.l1 (by assumption) (by (repeat first | exact .refl _ _ | assumption | refine .trans ?_ (by assumption)); first | done | fail) _ rfl rfl | exact Cells.l0 (by assumption) (by (repeat first | exact .refl _ _ | assumption | refine .trans ?_ (by assumption)); first | done | fail) rfl rfl))) ?_
    refine Ox.pure rfl rfl (by first | exact rp_fieldAddr2 rfl rfl rfl rfl | exact rp_fieldAddr rfl rfl rfl rfl) ?_
    refine Ox.val rfl rfl (rv_load rfl rfl (by (intro u hu; first | exact Cells.l1 (by assumption) (by (repeat first | exact .refl _ _ | assumption | refine .trans ?_ (by assumption)); first | done | fail) _ rfl rfl | exact Cells.l0 (by assumption) (by (repeat first | exact .refl _ _ | assumption | refine .trans ?_ (by assumption)); first | done | fail) rfl rfl))) ?_
    refine Ox.pure rfl rfl (by first | exact rp_bin rfl rfl rfl (binI_t (by omega)) | exact rp_bin rfl rfl rfl (binI_f (by omega)) | exact rp_bin rfl rfl rfl rfl) ?_
    refine Ox.pure rfl rfl (rp_move rfl rfl) ?_
    first | (refine Ox.skip rfl rfl ?_) | (refine Ox.pure rfl rfl (by first | exact rp_fieldAddr2 rfl rfl rfl rfl | exact rp_fieldAddr rfl rfl rfl rfl) ?_)
    first | (refine Ox.skip rfl rfl ?_) | (refine Ox.val rfl rfl (rv_load rfl rfl (by (intro u hu; first | exact Cells.l1 (by assumption) (by (repeat first | exact .refl _ _ | assumption | refine .trans ?_ (by assumption)); first | done | fail) _ rfl rfl | exact Cells.l0 (by assumption) (by (repeat first | exact .refl _ _ | assumption | refine .trans ?_ (by assumption)); first | done | fail) rfl rfl))) ?_)
    first | (refine Ox.skip rfl rfl ?_) | (refine Ox.pure rfl rfl (by first | exact rp_fieldAddr2 rfl rfl rfl rfl | exact rp_fieldAddr rfl rfl rfl rfl) ?_)
    first | (refine Ox.skip rfl rfl ?_) | (refine Ox.val rfl rfl (rv_load rfl rfl (by (intro u hu; first | exact Cells.l1 (by assumption) (by (repeat first | exact .refl _ _ | assumption | refine .trans ?_ (by assumption)); first | done | fail) _ rfl rfl | exact Cells.l0 (by assumption) (by (repeat first | exact .refl _ _ | assumption | refine .trans ?_ (by assumption)); first | done | fail) rfl rfl))) ?_)
    first | (refine Ox.skip rfl rfl ?_) | (refine Ox.pure rfl rfl (by first | exact rp_bin rfl rfl rfl (binI_t (by omega)) | exact rp_bin rfl rfl rfl (binI_f (by omega)) | exact rp_bin rfl rfl rfl rfl) ?_)
    first | (refine Ox.skip rfl rfl ?_) | (refine Ox.pure rfl rfl (rp_move rfl rfl) ?_)
    first | (refine Ox.skip rfl rfl ?_) | (refine Ox.pure rfl rfl (by first | exact rp_fieldAddr2 rfl rfl rfl rfl | exact rp_fieldAddr rfl rfl rfl rfl) ?_)
    first | (refine Ox.skip rfl rfl ?_) | (refine Ox.val rfl rfl (rv_load rfl rfl (by (intro u hu; first | exact Cells.l1 (by assumption) (by (repeat first | exact .refl _ _ | assumption | refine .trans ?_ (by assumption)); first | done | fail) _ rfl rfl | exact Cells.l0 (by assumption) (by (repeat first | exact .refl _ _ | assumption | refine .trans ?_ (by assumption)); first | done | fail) rfl rfl))) ?_)
    first | (refine Ox.skip rfl rfl ?_) | (refine Ox.pure rfl rfl (by first | exact rp_fieldAddr2 rfl rfl rfl rfl | exact rp_fieldAddr rfl rfl rfl rfl) ?_)
    first | (refine Ox.skip rfl rfl ?_) | (refine Ox.val rfl rfl (rv_load rfl rfl (by (intro u hu; first | exact Cells.l1 (by assumption) (by (repeat first | exact .refl _ _ | assumption | refine .trans ?_ (by assumption)); first | done | fail) _ rfl rfl | exact Cells.l0 (by assumption) (by (repeat first | exact .refl _ _ | assumption | refine .trans ?_ (by assumption)); first | done | fail) rfl rfl))) ?_)
    first | (refine Ox.skip rfl rfl ?_) | (refine Ox.pure rfl rfl (by first | exact rp_bin rfl rfl rfl (binI_t (by omega)) | exact rp_bin rfl rfl rfl (binI_f (by omega)) | exact rp_bin rfl rfl rfl rfl) ?_)
    first | (refine Ox.skip rfl rfl ?_) | (refine Ox.pure rfl rfl (by first | exact rp_pick_t rfl rfl rfl | exact rp_pick_f rfl rfl rfl) ?_)
    refine Ox.pure rfl rfl (by first | exact rp_pick_t rfl rfl rfl | exact rp_pick_f rfl rfl rfl) ?_
    refine Ox.pure rfl rfl (rp_assign rfl rfl) ?_
    refine Ox.nil ?_
    (repeat first | refine thenE_normal ?_ | refine blockE_normal ?_ | refine scopeE_normal ?_)
    (repeat refine Sx.seq ?_); refine Sx.ret ?_
    (repeat first | refine thenE_ret ?_ | refine blockE_ret ?_ | refine scopeE_ret ?_)
    exact endE_ret [_] ⟨rfl, trivial⟩ ⟨by (repeat first | exact .refl _ _ | assumption | refine .trans ?_ (by assumption)); first | done | fail, congrArg Value.bool (decide_eq_true (by unfold before; omega)).symm⟩
  · by_cases h2 : a.known = b.known
    · by_cases h3 : a.no < b.no
      · (repeat refine Sx.seq ?_)
        refine Sx.textR ?_
        refine Ox.pure rfl rfl (by first | exact rp_fieldAddr2 rfl rfl rfl rfl | exact rp_fieldAddr rfl rfl rfl rfl) ?_
        refine Ox.val rfl rfl (rv_load rfl rfl (by (intro u hu; first | exact Cells.l1 (by assumption) (by (repeat first | exact .refl _ _ | assumption | refine .trans ?_ (by assumption)); first | done | fail) _ rfl rfl | exact Cells.l0 (by assumption) (by (repeat first | exact .refl _ _ | assumption | refine .trans ?_ (by assumption)); first | done | fail) rfl rfl))) ?_
        refine Ox.pure rfl rfl (by first | exact rp_fieldAddr2 rfl rfl rfl rfl | exact rp_fieldAddr rfl rfl rfl rfl) ?_
        refine Ox.val rfl rfl (rv_load rfl rfl (by (intro u hu; first | exact Cells.l1 (by assumption) (by (repeat first | exact .refl _ _ | assumption | refine .trans ?_ (by assumption)); first | done | fail) _ rfl rfl | exact Cells.l0 (by assumption) (by (repeat first | exact .refl _ _ | assumption | refine .trans ?_ (by assumption)); first | done | fail) rfl rfl))) ?_
        refine Ox.pure rfl rfl (by first | exact rp_bin rfl rfl rfl (binI_t (by omega)) | exact rp_bin rfl rfl rfl (binI_f (by omega)) | exact rp_bin rfl rfl rfl rfl) ?_
        refine Ox.pure rfl rfl (rp_move rfl rfl) ?_
        first | (refine Ox.skip rfl rfl ?_) | (refine Ox.pure rfl rfl (by first | exact rp_fieldAddr2 rfl rfl rfl rfl | exact rp_fieldAddr rfl rfl rfl rfl) ?_)
        first | (refine Ox.skip rfl rfl ?_) | (refine Ox.val rfl rfl (rv_load rfl rfl (by (intro u hu; first | exact Cells.l1 (by assumption) (by (repeat first | exact .refl _ _ | assumption | refine .trans ?_ (by assumption)); first | done | fail) _ rfl rfl | exact Cells.l0 (by assumption) (by (repeat first | exact .refl _ _ | assumption | refine .trans ?_ (by assumption)); first | done | fail) rfl rfl))) ?_)
        first | (refine Ox.skip rfl rfl ?_) | (refine Ox.pure rfl rfl (by first | exact rp_fieldAddr2 rfl rfl rfl rfl | exact rp_fieldAddr rfl rfl rfl rfl) ?_)
        first | (refine Ox.skip rfl rfl ?_) | (refine Ox.val rfl rfl (rv_load rfl rfl (by (intro u hu; first | exact Cells.l1 (by assumption) (by (repeat first | exact .refl _ _ | assumption | refine .trans ?_ (by assumption)); first | done | fail) _ rfl rfl | exact Cells.l0 (by assumption) (by (repeat first | exact .refl _ _ | assumption | refine .trans ?_ (by assumption)); first | done | fail) rfl rfl))) ?_)
        first | (refine Ox.skip rfl rfl ?_) | (refine Ox.pure rfl rfl (by first | exact rp_bin rfl rfl rfl (binI_t (by omega)) | exact rp_bin rfl rfl rfl (binI_f (by omega)) | exact rp_bin rfl rfl rfl rfl) ?_)
        first | (refine Ox.skip rfl rfl ?_) | (refine Ox.pure rfl rfl (rp_move rfl rfl) ?_)
        first | (refine Ox.skip rfl rfl ?_) | (refine Ox.pure rfl rfl (by first | exact rp_fieldAddr2 rfl rfl rfl rfl | exact rp_fieldAddr rfl rfl rfl rfl) ?_)
        first | (refine Ox.skip rfl rfl ?_) | (refine Ox.val rfl rfl (rv_load rfl rfl (by (intro u hu; first | exact Cells.l1 (by assumption) (by (repeat first | exact .refl _ _ | assumption | refine .trans ?_ (by assumption)); first | done | fail) _ rfl rfl | exact Cells.l0 (by assumption) (by (repeat first | exact .refl _ _ | assumption | refine .trans ?_ (by assumption)); first | done | fail) rfl rfl))) ?_)
        first | (refine Ox.skip rfl rfl ?_) | (refine Ox.pure rfl rfl (by first | exact rp_fieldAddr2 rfl rfl rfl rfl | exact rp_fieldAddr rfl rfl rfl rfl) ?_)
        first | (refine Ox.skip rfl rfl ?_) | (refine Ox.val rfl rfl (rv_load rfl rfl (by (intro u hu; first | exact Cells.l1 (by assumption) (by (repeat first | exact .refl _ _ | assumption | refine .trans ?_ (by assumption)); first | done | fail) _ rfl rfl | exact Cells.l0 (by assumption) (by (repeat first | exact .refl _ _ | assumption | refine .trans ?_ (by assumption)); first | done | fail) rfl rfl))) ?_)
        first | (refine Ox.skip rfl rfl ?_) | (refine Ox.pure rfl rfl (by first | exact rp_bin rfl rfl rfl (binI_t (by omega)) | exact rp_bin rfl rfl rfl (binI_f (by omega)) | exact rp_bin rfl rfl rfl rfl) ?_)
        first | (refine Ox.skip rfl rfl ?_) | (refine Ox.pure rfl rfl (by first | exact rp_pick_t rfl rfl rfl | exact rp_pick_f rfl rfl rfl) ?_)
        refine Ox.pure rfl rfl (by first | exact rp_pick_t rfl rfl rfl | exact rp_pick_f rfl rfl rfl) ?_
        refine Ox.pure rfl rfl (rp_assign rfl rfl) ?_
        refine Ox.nil ?_
        (repeat first | refine thenE_normal ?_ | refine blockE_normal ?_ | refine scopeE_normal ?_)
        (repeat refine Sx.seq ?_); refine Sx.ret ?_
        (repeat first | refine thenE_ret ?_ | refine blockE_ret ?_ | refine scopeE_ret ?_)
        exact endE_ret [_] ⟨rfl, trivial⟩ ⟨by (repeat first | exact .refl _ _ | assumption | refine .trans ?_ (by assumption)); first | done | fail, congrArg Value.bool (decide_eq_true (by unfold before; omega)).symm⟩
      · (repeat refine Sx.seq ?_)
        refine Sx.textR ?_
        refine Ox.pure rfl rfl (by first | exact rp_fieldAddr2 rfl rfl rfl rfl | exact rp_fieldAddr rfl rfl rfl rfl) ?_
        refine Ox.val rfl rfl (rv_load rfl rfl (by (intro u hu; first | exact Cells.l1 (by assumption) (by (repeat first | exact .refl _ _ | assumption | refine .trans ?_ (by assumption)); first | done | fail) _ rfl rfl | exact Cells.l0 (by assumption) (by (repeat first | exact .refl _ _ | assumption | refine .trans ?_ (by assumption)); first | done | fail) rfl rfl))) ?_
        refine Ox.pure rfl rfl (by first | exact rp_fieldAddr2 rfl rfl rfl rfl | exact rp_fieldAddr rfl rfl rfl rfl) ?_
        refine Ox.val rfl rfl (rv_load rfl rfl (by (intro u hu; first | exact Cells.l1 (by assumption) (by (repeat first | exact .refl _ _ | assumption | refine .trans ?_ (by assumption)); first | done | fail) _ rfl rfl | exact Cells.l0 (by assumption) (by (repeat first | exact .refl _ _ | assumption | refine .trans ?_ (by assumption)); first | done | fail) rfl rfl))) ?_
        refine Ox.pure rfl rfl (by first | exact rp_bin rfl rfl rfl (binI_t (by omega)) | exact rp_bin rfl rfl rfl (binI_f (by omega)) | exact rp_bin rfl rfl rfl rfl) ?_
        refine Ox.pure rfl rfl (rp_move rfl rfl) ?_
        first | (refine Ox.skip rfl rfl ?_) | (refine Ox.pure rfl rfl (by first | exact rp_fieldAddr2 rfl rfl rfl rfl | exact rp_fieldAddr rfl rfl rfl rfl) ?_)
        first | (refine Ox.skip rfl rfl ?_) | (refine Ox.val rfl rfl (rv_load rfl rfl (by (intro u hu; first | exact Cells.l1 (by assumption) (by (repeat first | exact .refl _ _ | assumption | refine .trans ?_ (by assumption)); first | done | fail) _ rfl rfl | exact Cells.l0 (by assumption) (by (repeat first | exact .refl _ _ | assumption | refine .trans ?_ (by assumption)); first | done | fail) rfl rfl))) ?_)
        first | (refine Ox.skip rfl rfl ?_) | (refine Ox.pure rfl rfl (by first | exact rp_fieldAddr2 rfl rfl rfl rfl | exact rp_fieldAddr rfl rfl rfl rfl) ?_)
        first | (refine Ox.skip rfl rfl ?_) | (refine Ox.val rfl rfl (rv_load rfl rfl (by (intro u hu; first | exact Cells.l1 (by assumption) (by (repeat first | exact .refl _ _ | assumption | refine .trans ?_ (by assumption)); first | done | fail) _ rfl rfl | exact Cells.l0 (by assumption) (by (repeat first | exact .refl _ _ | assumption | refine .trans ?_ (by assumption)); first | done | fail) rfl rfl))) ?_)
        first | (refine Ox.skip rfl rfl ?_) | (refine Ox.pure rfl rfl (by first | exact rp_bin rfl rfl rfl (binI_t (by omega)) | exact rp_bin rfl rfl rfl (binI_f (by omega)) | exact rp_bin rfl rfl rfl rfl) ?_)
        first | (refine Ox.skip rfl rfl ?_) | (refine Ox.pure rfl rfl (rp_move rfl rfl) ?_)
        first | (refine Ox.skip rfl rfl ?_) | (refine Ox.pure rfl rfl (by first | exact rp_fieldAddr2 rfl rfl rfl rfl | exact rp_fieldAddr rfl rfl rfl rfl) ?_)
        first | (refine Ox.skip rfl rfl ?_) | (refine Ox.val rfl rfl (rv_load rfl rfl (by (intro u hu; first | exact Cells.l1 (by assumption) (by (repeat first | exact .refl _ _ | assumption | refine .trans ?_ (by assumption)); first | done | fail) _ rfl rfl | exact Cells.l0 (by assumption) (by (repeat first | exact .refl _ _ | assumption | refine .trans ?_ (by assumption)); first | done | fail) rfl rfl))) ?_)
        first | (refine Ox.skip rfl rfl ?_) | (refine Ox.pure rfl rfl (by first | exact rp_fieldAddr2 rfl rfl rfl rfl | exact rp_fieldAddr rfl rfl rfl rfl) ?_)
        first | (refine Ox.skip rfl rfl ?_) | (refine Ox.val rfl rfl (rv_load rfl rfl (by (intro u hu; first | exact Cells.l1 (by assumption) (by (repeat first | exact .refl _ _ | assumption | refine .trans ?_ (by assumption)); first | done | fail) _ rfl rfl | exact Cells.l0 (by assumption) (by (repeat first | exact .refl _ _ | assumption | refine .trans ?_ (by assumption)); first | done | fail) rfl rfl))) ?_)
        first | (refine Ox.skip rfl rfl ?_) | (refine Ox.pure rfl rfl (by first | exact rp_bin rfl rfl rfl (binI_t (by omega)) | exact rp_bin rfl rfl rfl (binI_f (by omega)) | exact rp_bin rfl rfl rfl rfl) ?_)
        first | (refine Ox.skip rfl rfl ?_) | (refine Ox.pure rfl rfl (by first | exact rp_pick_t rfl rfl rfl | exact rp_pick_f rfl rfl rfl) ?_)
        refine Ox.pure rfl rfl (by first | exact rp_pick_t rfl rfl rfl | exact rp_pick_f rfl rfl rfl) ?_
        refine Ox.pure rfl rfl (rp_assign rfl rfl) ?_
        refine Ox.nil ?_
        (repeat first | refine thenE_normal ?_ | refine blockE_normal ?_ | refine scopeE_normal ?_)
        (repeat refine Sx.seq ?_); refine Sx.ret ?_
        (repeat first | refine thenE_ret ?_ | refine blockE_ret ?_ | refine scopeE_ret ?_)
        exact endE_ret [_] ⟨rfl, trivial⟩ ⟨by (repeat first | exact .refl _ _ | assumption | refine .trans ?_ (by assumption)); first | done | fail, congrArg Value.bool (decide_eq_false (by unfold before; omega)).symm⟩
    · (repeat refine Sx.seq ?_)
      refine Sx.textR ?_
      refine Ox.pure rfl rfl (by first | exact rp_fieldAddr2 rfl rfl rfl rfl | exact rp_fieldAddr rfl rfl rfl rfl) ?_
      refine Ox.val rfl rfl (rv_load rfl rfl (by (intro u hu; first | exact Cells.l1 (by assumption) (by (repeat first | exact .refl _ _ | assumption | refine .trans ?_ (by assumption)); first | done | fail) _ rfl rfl | exact Cells.l0 (by assumption) (by (repeat first | exact .refl _ _ | assumption | refine .trans ?_ (by assumption)); first | done | fail) rfl rfl))) ?_
      refine Ox.pure rfl rfl (by first | exact rp_fieldAddr2 rfl rfl rfl rfl | exact rp_fieldAddr rfl rfl rfl rfl) ?_
      refine Ox.val rfl rfl (rv_load rfl rfl (by (intro u hu; first | exact Cells.l1 (by assumption) (by (repeat first | exact .refl _ _ | assumption | refine .trans ?_ (by assumption)); first | done | fail) _ rfl rfl | exact Cells.l0 (by assumption) (by (repeat first | exact .refl _ _ | assumption | refine .trans ?_ (by assumption)); first | done | fail) rfl rfl))) ?_
      refine Ox.pure rfl rfl (by first | exact rp_bin rfl rfl rfl (binI_t (by omega)) | exact rp_bin rfl rfl rfl (binI_f (by omega)) | exact rp_bin rfl rfl rfl rfl) ?_
      refine Ox.pure rfl rfl (rp_move rfl rfl) ?_
      first | (refine Ox.skip rfl rfl ?_) | (refine Ox.pure rfl rfl (by first | exact rp_fieldAddr2 rfl rfl rfl rfl | exact rp_fieldAddr rfl rfl rfl rfl) ?_)
      first | (refine Ox.skip rfl rfl ?_) | (refine Ox.val rfl rfl (rv_load rfl rfl (by (intro u hu; first | exact Cells.l1 (by assumption) (by (repeat first | exact .refl _ _ | assumption | refine .trans ?_ (by assumption)); first | done | fail) _ rfl rfl | exact Cells.l0 (by assumption) (by (repeat first | exact .refl _ _ | assumption | refine .trans ?_ (by assumption)); first | done | fail) rfl rfl))) ?_)
      first | (refine Ox.skip rfl rfl ?_) | (refine Ox.pure rfl rfl (by first | exact rp_fieldAddr2 rfl rfl rfl rfl | exact rp_fieldAddr rfl rfl rfl rfl) ?_)
      first | (refine Ox.skip rfl rfl ?_) | (refine Ox.val rfl rfl (rv_load rfl rfl (by (intro u hu; first | exact Cells.l1 (by assumption) (by (repeat first | exact .refl _ _ | assumption | refine .trans ?_ (by assumption)); first | done | fail) _ rfl rfl | exact Cells.l0 (by assumption) (by (repeat first | exact .refl _ _ | assumption | refine .trans ?_ (by assumption)); first | done | fail) rfl rfl))) ?_)
      first | (refine Ox.skip rfl rfl ?_) | (refine Ox.pure rfl rfl (by first | exact rp_bin rfl rfl rfl (binI_t (by omega)) | exact rp_bin rfl rfl rfl (binI_f (by omega)) | exact rp_bin rfl rfl rfl rfl) ?_)
      first | (refine Ox.skip rfl rfl ?_) | (refine Ox.pure rfl rfl (rp_move rfl rfl) ?_)
      first | (refine Ox.skip rfl rfl ?_) | (refine Ox.pure rfl rfl (by first | exact rp_fieldAddr2 rfl rfl rfl rfl | exact rp_fieldAddr rfl rfl rfl rfl) ?_)
      first | (refine Ox.skip rfl rfl ?_) | (refine Ox.val rfl rfl (rv_load rfl rfl (by (intro u hu; first | exact Cells.l1 (by assumption) (by (repeat first | exact .refl _ _ | assumption | refine .trans ?_ (by assumption)); first | done | fail) _ rfl rfl | exact Cells.l0 (by assumption) (by (repeat first | exact .refl _ _ | assumption | refine .trans ?_ (by assumption)); first | done | fail) rfl rfl))) ?_)
      first | (refine Ox.skip rfl rfl ?_) | (refine Ox.pure rfl rfl (by first | exact rp_fieldAddr2 rfl rfl rfl rfl | exact rp_fieldAddr rfl rfl rfl rfl) ?_)
      first | (refine Ox.skip rfl rfl ?_) | (refine Ox.val rfl rfl (rv_load rfl rfl (by (intro u hu; first | exact Cells.l1 (by assumption) (by (repeat first | exact .refl _ _ | assumption | refine .trans ?_ (by assumption)); first | done | fail) _ rfl rfl | exact Cells.l0 (by assumption) (by (repeat first | exact .refl _ _ | assumption | refine .trans ?_ (by assumption)); first | done | fail) rfl rfl))) ?_)
      first | (refine Ox.skip rfl rfl ?_) | (refine Ox.pure rfl rfl (by first | exact rp_bin rfl rfl rfl (binI_t (by omega)) | exact rp_bin rfl rfl rfl (binI_f (by omega)) | exact rp_bin rfl rfl rfl rfl) ?_)
      first | (refine Ox.skip rfl rfl ?_) | (refine Ox.pure rfl rfl (by first | exact rp_pick_t rfl rfl rfl | exact rp_pick_f rfl rfl rfl) ?_)
      refine Ox.pure rfl rfl (by first | exact rp_pick_t rfl rfl rfl | exact rp_pick_f rfl rfl rfl) ?_
      refine Ox.pure rfl rfl (rp_assign rfl rfl) ?_
      refine Ox.nil ?_
      (repeat first | refine thenE_normal ?_ | refine blockE_normal ?_ | refine scopeE_normal ?_)
      (repeat refine Sx.seq ?_); refine Sx.ret ?_
      (repeat first | refine thenE_ret ?_ | refine blockE_ret ?_ | refine scopeE_ret ?_)
      exact endE_ret [_] ⟨rfl, trivial⟩ ⟨by (repeat first | exact .refl _ _ | assumption | refine .trans ?_ (by assumption)); first | done | fail, congrArg Value.bool (decide_eq_false (by unfold before; omega)).symm⟩

set_option maxHeartbeats 4000000 in
theorem ref_Valid (f : Fct) (w : World) : Calls Try.prog 40 #[.agg (fc f).toArray] w (Ret fun r w' => Ext [] w w' ∧ r = .bool (decide (Fits f))) := by
  refine calls_of_Sx (args := [.agg (fc f).toArray]) Try.func40 rfl rfl ?_
  (repeat refine Sx.seq ?_)
  refine Sx.textR ?_
  refine Ox.act rfl rfl (acts_box rfl rfl) ?_
  rintro vbx wbx ⟨ebx, bbx, rfl, hbbx, hBbx⟩
  first | (have hCbx : Cells wbx ⟨bbx, 0, none⟩ [_, _, _, _, _, _, _, _] := hBbx.cells) | have hCbx := Blk.cellsL hBbx
  have hlbx := hBbx.lt
  have hzbx := ebx.size
  refine Ox.pure rfl rfl (rp_assign rfl rfl) ?_
  refine Ox.nil ?_
  (repeat first | refine thenE_normal ?_ | refine blockE_normal ?_ | refine scopeE_normal ?_)
  (repeat refine Sx.seq ?_)
  refine Sx.textR ?_
  refine Ox.pure rfl rfl (by first | exact rp_fieldAddr2 rfl rfl rfl rfl | exact rp_fieldAddr rfl rfl rfl rfl) ?_
  refine Ox.val rfl rfl (rv_load rfl rfl (by (intro u hu; first | exact Cells.lA (by assumption) (by (repeat first | exact .refl _ _ | assumption | refine .trans ?_ (by assumption)); first | done | fail) rfl rfl | exact Cells.lL (by assumption) (by (repeat first | exact .refl _ _ | assumption | refine .trans ?_ (by assumption)); first | done | fail) rfl rfl (by assumption) | exact Cells.lP (by assumption) (by (repeat first | exact .refl _ _ | assumption | refine .trans ?_ (by assumption)); first | done | fail) _ rfl rfl rfl rfl | exact Cells.lP (by assumption) (by (repeat first | exact .refl _ _ | assumption | refine .trans ?_ (by assumption)); first | done | fail) _ rfl rfl (by assumption) (by assumption)))) ?_
  refine Ox.act rfl rfl (acts_alloc rfl rfl) ?_
  rintro v1 w1 ⟨e1, b1, rfl, hb1, hB1⟩
  first | (have hC1 : Cells w1 ⟨b1, 0, none⟩ [_, _, _] := hB1.cells) | have hC1 := Blk.cellsL hB1
  have hl1 := hB1.lt
  have hz1 := e1.size
  refine Ox.act rfl rfl (acts_store_all rfl rfl rfl hB1 rfl (by first | rfl | assumption) (by first | rfl | assumption) (by (first | assumption | exact List.all_eq_true.mp rfl | simp [Value.cells, Value.oneCell']))) ?_
  rintro v2 w2 ⟨rfl, q2, hB2⟩
  have e2 := Ext.renew e1 q2 hb1
  have hz2 := e2.size
  have hl2 := hB2.lt
  first | (have hC2 : Cells w2 ⟨b1, 0, none⟩ [_, _, _] := hB2.cells) | have hC2 := Blk.cellsL hB2
  refine Ox.nil ?_
  (repeat first | refine thenE_normal ?_ | refine blockE_normal ?_ | refine scopeE_normal ?_)
  (repeat refine Sx.seq ?_)
  refine Sx.textR ?_
  refine Ox.pure rfl rfl (by first | exact rp_fieldAddr2 rfl rfl rfl rfl | exact rp_fieldAddr rfl rfl rfl rfl) ?_
  refine Ox.val rfl rfl (rv_load rfl rfl (by (intro u hu; first | exact Cells.l1 (by assumption) (by (repeat first | exact .refl _ _ | assumption | refine .trans ?_ (by assumption)); first | done | fail) _ rfl rfl | exact Cells.l0 (by assumption) (by (repeat first | exact .refl _ _ | assumption | refine .trans ?_ (by assumption)); first | done | fail) rfl rfl))) ?_
  by_cases hs3 : 0 ≤ f.key.k; rotate_left
  · refine Ox.pure rfl rfl (by first | exact rp_bin rfl rfl rfl (binI_t (by omega)) | exact rp_bin rfl rfl rfl (binI_f (by omega)) | exact rp_bin rfl rfl rfl rfl) ?_
    refine Ox.pure rfl rfl (rp_move rfl rfl) ?_
    refine Ox.skip rfl rfl ?_
    refine Ox.skip rfl rfl ?_
    refine Ox.skip rfl rfl ?_
    refine Ox.pure rfl rfl (by first | exact rp_pick_t rfl rfl rfl | exact rp_pick_f rfl rfl rfl) ?_
    refine Ox.pure rfl rfl (rp_move rfl rfl) ?_
    refine Ox.skip rfl rfl ?_
    refine Ox.skip rfl rfl ?_
    refine Ox.skip rfl rfl ?_
    refine Ox.pure rfl rfl (by first | exact rp_pick_t rfl rfl rfl | exact rp_pick_f rfl rfl rfl) ?_
    refine Ox.pure rfl rfl (rp_move rfl rfl) ?_
    refine Ox.skip rfl rfl ?_
    refine Ox.skip rfl rfl ?_
    refine Ox.skip rfl rfl ?_
    refine Ox.pure rfl rfl (by first | exact rp_pick_t rfl rfl rfl | exact rp_pick_f rfl rfl rfl) ?_
    refine Ox.pure rfl rfl (rp_move rfl rfl) ?_
    refine Ox.skip rfl rfl ?_
    refine Ox.skip rfl rfl ?_
    refine Ox.skip rfl rfl ?_
    refine Ox.pure rfl rfl (by first | exact rp_pick_t rfl rfl rfl | exact rp_pick_f rfl rfl rfl) ?_
    refine Ox.pure rfl rfl (rp_move rfl rfl) ?_
    refine Ox.skip rfl rfl ?_
    refine Ox.skip rfl rfl ?_
    refine Ox.skip rfl rfl ?_
    refine Ox.pure rfl rfl (by first | exact rp_pick_t rfl rfl rfl | exact rp_pick_f rfl rfl rfl) ?_
    refine Ox.pure rfl rfl (rp_move rfl rfl) ?_
    refine Ox.skip rfl rfl ?_
    refine Ox.skip rfl rfl ?_
    refine Ox.skip rfl rfl ?_
    refine Ox.pure rfl rfl (by first | exact rp_pick_t rfl rfl rfl | exact rp_pick_f rfl rfl rfl) ?_
    refine Ox.pure rfl rfl (rp_move rfl rfl) ?_
    refine Ox.skip rfl rfl ?_
    refine Ox.skip rfl rfl ?_
    refine Ox.skip rfl rfl ?_
    refine Ox.pure rfl rfl (by first | exact rp_pick_t rfl rfl rfl | exact rp_pick_f rfl rfl rfl) ?_
    refine Ox.pure rfl rfl (rp_move rfl rfl) ?_
    refine Ox.skip rfl rfl ?_
    refine Ox.skip rfl rfl ?_
    refine Ox.skip rfl rfl ?_
    refine Ox.skip rfl rfl ?_
    refine Ox.pure rfl rfl (by first | exact rp_pick_t rfl rfl rfl | exact rp_pick_f rfl rfl rfl) ?_
    refine Ox.pure rfl rfl (rp_move rfl rfl) ?_
    refine Ox.skip rfl rfl ?_
    refine Ox.skip rfl rfl ?_
    refine Ox.skip rfl rfl ?_
    refine Ox.skip rfl rfl ?_
    refine Ox.skip rfl rfl ?_
    refine Ox.skip rfl rfl ?_
    refine Ox.skip rfl rfl ?_
    refine Ox.pure rfl rfl (by first | exact rp_pick_t rfl rfl rfl | exact rp_pick_f rfl rfl rfl) ?_
    refine Ox.pure rfl rfl (rp_move rfl rfl) ?_
    refine Ox.skip rfl rfl ?_
    refine Ox.skip rfl rfl ?_
    refine Ox.skip rfl rfl ?_
    refine Ox.skip rfl rfl ?_
    refine Ox.pure rfl rfl (by first | exact rp_pick_t rfl rfl rfl | exact rp_pick_f rfl rfl rfl) ?_
    refine Ox.pure rfl rfl (rp_move rfl rfl) ?_
    refine Ox.skip rfl rfl ?_
    refine Ox.skip rfl rfl ?_
    refine Ox.skip rfl rfl ?_
    refine Ox.pure rfl rfl (by first | exact rp_pick_t rfl rfl rfl | exact rp_pick_f rfl rfl rfl) ?_
    refine Ox.pure rfl rfl (rp_move rfl rfl) ?_
    refine Ox.skip rfl rfl ?_
    refine Ox.skip rfl rfl ?_
    refine Ox.skip rfl rfl ?_
    refine Ox.pure rfl rfl (by first | exact rp_pick_t rfl rfl rfl | exact rp_pick_f rfl rfl rfl) ?_
    refine Ox.pure rfl rfl (rp_move rfl rfl) ?_
    refine Ox.skip rfl rfl ?_
    refine Ox.skip rfl rfl ?_
    refine Ox.skip rfl rfl ?_
    refine Ox.pure rfl rfl (by first | exact rp_pick_t rfl rfl rfl | exact rp_pick_f rfl rfl rfl) ?_
    refine Ox.pure rfl rfl (rp_move rfl rfl) ?_
    refine Ox.skip rfl rfl ?_
    refine Ox.skip rfl rfl ?_
    refine Ox.skip rfl rfl ?_
    refine Ox.pure rfl rfl (by first | exact rp_pick_t rfl rfl rfl | exact rp_pick_f rfl rfl rfl) ?_
    refine Ox.pure rfl rfl (rp_assign rfl rfl) ?_
    refine Ox.nil ?_
    (repeat first | refine thenE_normal ?_ | refine blockE_normal ?_ | refine scopeE_normal ?_)
    (repeat refine Sx.seq ?_); refine Sx.ret ?_
    (repeat first | refine thenE_ret ?_ | refine blockE_ret ?_ | refine scopeE_ret ?_)
    exact endE_ret [_] ⟨rfl, trivial⟩ ⟨by (repeat first | exact .refl _ _ | assumption | refine .trans ?_ (by assumption)); first | done | fail, congrArg Value.bool (decide_eq_false (fun h => by unfold Fits at h; omega)).symm⟩
  refine Ox.pure rfl rfl (by first | exact rp_bin rfl rfl rfl (binI_t (by omega)) | exact rp_bin rfl rfl rfl (binI_f (by omega)) | exact rp_bin rfl rfl rfl rfl) ?_
  refine Ox.pure rfl rfl (rp_move rfl rfl) ?_
  refine Ox.pure rfl rfl (by first | exact rp_fieldAddr2 rfl rfl rfl rfl | exact rp_fieldAddr rfl rfl rfl rfl) ?_
  refine Ox.val rfl rfl (rv_load rfl rfl (by (intro u hu; first | exact Cells.l1 (by assumption) (by (repeat first | exact .refl _ _ | assumption | refine .trans ?_ (by assumption)); first | done | fail) _ rfl rfl | exact Cells.l0 (by assumption) (by (repeat first | exact .refl _ _ | assumption | refine .trans ?_ (by assumption)); first | done | fail) rfl rfl))) ?_
  by_cases hs4 : f.key.k ≤ 15; rotate_left
  · refine Ox.pure rfl rfl (by first | exact rp_bin rfl rfl rfl (binI_t (by omega)) | exact rp_bin rfl rfl rfl (binI_f (by omega)) | exact rp_bin rfl rfl rfl rfl) ?_
    refine Ox.pure rfl rfl (by first | exact rp_pick_t rfl rfl rfl | exact rp_pick_f rfl rfl rfl) ?_
    refine Ox.pure rfl rfl (rp_move rfl rfl) ?_
    refine Ox.skip rfl rfl ?_
    refine Ox.skip rfl rfl ?_
    refine Ox.skip rfl rfl ?_
    refine Ox.pure rfl rfl (by first | exact rp_pick_t rfl rfl rfl | exact rp_pick_f rfl rfl rfl) ?_
    refine Ox.pure rfl rfl (rp_move rfl rfl) ?_
    refine Ox.skip rfl rfl ?_
    refine Ox.skip rfl rfl ?_
    refine Ox.skip rfl rfl ?_
    refine Ox.pure rfl rfl (by first | exact rp_pick_t rfl rfl rfl | exact rp_pick_f rfl rfl rfl) ?_
    refine Ox.pure rfl rfl (rp_move rfl rfl) ?_
    refine Ox.skip rfl rfl ?_
    refine Ox.skip rfl rfl ?_
    refine Ox.skip rfl rfl ?_
    refine Ox.pure rfl rfl (by first | exact rp_pick_t rfl rfl rfl | exact rp_pick_f rfl rfl rfl) ?_
    refine Ox.pure rfl rfl (rp_move rfl rfl) ?_
    refine Ox.skip rfl rfl ?_
    refine Ox.skip rfl rfl ?_
    refine Ox.skip rfl rfl ?_
    refine Ox.pure rfl rfl (by first | exact rp_pick_t rfl rfl rfl | exact rp_pick_f rfl rfl rfl) ?_
    refine Ox.pure rfl rfl (rp_move rfl rfl) ?_
    refine Ox.skip rfl rfl ?_
    refine Ox.skip rfl rfl ?_
    refine Ox.skip rfl rfl ?_
    refine Ox.pure rfl rfl (by first | exact rp_pick_t rfl rfl rfl | exact rp_pick_f rfl rfl rfl) ?_
    refine Ox.pure rfl rfl (rp_move rfl rfl) ?_
    refine Ox.skip rfl rfl ?_
    refine Ox.skip rfl rfl ?_
    refine Ox.skip rfl rfl ?_
    refine Ox.pure rfl rfl (by first | exact rp_pick_t rfl rfl rfl | exact rp_pick_f rfl rfl rfl) ?_
    refine Ox.pure rfl rfl (rp_move rfl rfl) ?_
    refine Ox.skip rfl rfl ?_
    refine Ox.skip rfl rfl ?_
    refine Ox.skip rfl rfl ?_
    refine Ox.skip rfl rfl ?_
    refine Ox.pure rfl rfl (by first | exact rp_pick_t rfl rfl rfl | exact rp_pick_f rfl rfl rfl) ?_
    refine Ox.pure rfl rfl (rp_move rfl rfl) ?_
    refine Ox.skip rfl rfl ?_
    refine Ox.skip rfl rfl ?_
    refine Ox.skip rfl rfl ?_
    refine Ox.skip rfl rfl ?_
    refine Ox.skip rfl rfl ?_
    refine Ox.skip rfl rfl ?_
    refine Ox.skip rfl rfl ?_
    refine Ox.pure rfl rfl (by first | exact rp_pick_t rfl rfl rfl | exact rp_pick_f rfl rfl rfl) ?_
    refine Ox.pure rfl rfl (rp_move rfl rfl) ?_
    refine Ox.skip rfl rfl ?_
    refine Ox.skip rfl rfl ?_
    refine Ox.skip rfl rfl ?_
    refine Ox.skip rfl rfl ?_
    refine Ox.pure rfl rfl (by first | exact rp_pick_t rfl rfl rfl | exact rp_pick_f rfl rfl rfl) ?_
    refine Ox.pure rfl rfl (rp_move rfl rfl) ?_
    refine Ox.skip rfl rfl ?_
    refine Ox.skip rfl rfl ?_
    refine Ox.skip rfl rfl ?_
    refine Ox.pure rfl rfl (by first | exact rp_pick_t rfl rfl rfl | exact rp_pick_f rfl rfl rfl) ?_
    refine Ox.pure rfl rfl (rp_move rfl rfl) ?_
    refine Ox.skip rfl rfl ?_
    refine Ox.skip rfl rfl ?_
    refine Ox.skip rfl rfl ?_
    refine Ox.pure rfl rfl (by first | exact rp_pick_t rfl rfl rfl | exact rp_pick_f rfl rfl rfl) ?_
    refine Ox.pure rfl rfl (rp_move rfl rfl) ?_
    refine Ox.skip rfl rfl ?_
    refine Ox.skip rfl rfl ?_
    refine Ox.skip rfl rfl ?_
    refine Ox.pure rfl rfl (by first | exact rp_pick_t rfl rfl rfl | exact rp_pick_f rfl rfl rfl) ?_
    refine Ox.pure rfl rfl (rp_move rfl rfl) ?_
    refine Ox.skip rfl rfl ?_
    refine Ox.skip rfl rfl ?_
    refine Ox.skip rfl rfl ?_
    refine Ox.pure rfl rfl (by first | exact rp_pick_t rfl rfl rfl | exact rp_pick_f rfl rfl rfl) ?_
    refine Ox.pure rfl rfl (rp_assign rfl rfl) ?_
    refine Ox.nil ?_
    (repeat first | refine thenE_normal ?_ | refine blockE_normal ?_ | refine scopeE_normal ?_)
    (repeat refine Sx.seq ?_); refine Sx.ret ?_
    (repeat first | refine thenE_ret ?_ | refine blockE_ret ?_ | refine scopeE_ret ?_)
    exact endE_ret [_] ⟨rfl, trivial⟩ ⟨by (repeat first | exact .refl _ _ | assumption | refine .trans ?_ (by assumption)); first | done | fail, congrArg Value.bool (decide_eq_false (fun h => by unfold Fits at h; omega)).symm⟩
  refine Ox.pure rfl rfl (by first | exact rp_bin rfl rfl rfl (binI_t (by omega)) | exact rp_bin rfl rfl rfl (binI_f (by omega)) | exact rp_bin rfl rfl rfl rfl) ?_
  refine Ox.pure rfl rfl (by first | exact rp_pick_t rfl rfl rfl | exact rp_pick_f rfl rfl rfl) ?_
  refine Ox.pure rfl rfl (rp_move rfl rfl) ?_
  refine Ox.pure rfl rfl (by first | exact rp_fieldAddr2 rfl rfl rfl rfl | exact rp_fieldAddr rfl rfl rfl rfl) ?_
  refine Ox.val rfl rfl (rv_load rfl rfl (by (intro u hu; first | exact Cells.l1 (by assumption) (by (repeat first | exact .refl _ _ | assumption | refine .trans ?_ (by assumption)); first | done | fail) _ rfl rfl | exact Cells.l0 (by assumption) (by (repeat first | exact .refl _ _ | assumption | refine .trans ?_ (by assumption)); first | done | fail) rfl rfl))) ?_
  by_cases hs5 : 0 ≤ f.key.s; rotate_left
  · refine Ox.pure rfl rfl (by first | exact rp_bin rfl rfl rfl (binI_t (by omega)) | exact rp_bin rfl rfl rfl (binI_f (by omega)) | exact rp_bin rfl rfl rfl rfl) ?_
    refine Ox.pure rfl rfl (by first | exact rp_pick_t rfl rfl rfl | exact rp_pick_f rfl rfl rfl) ?_
    refine Ox.pure rfl rfl (rp_move rfl rfl) ?_
    refine Ox.skip rfl rfl ?_
    refine Ox.skip rfl rfl ?_
    refine Ox.skip rfl rfl ?_
    refine Ox.pure rfl rfl (by first | exact rp_pick_t rfl rfl rfl | exact rp_pick_f rfl rfl rfl) ?_
    refine Ox.pure rfl rfl (rp_move rfl rfl) ?_
    refine Ox.skip rfl rfl ?_
    refine Ox.skip rfl rfl ?_
    refine Ox.skip rfl rfl ?_
    refine Ox.pure rfl rfl (by first | exact rp_pick_t rfl rfl rfl | exact rp_pick_f rfl rfl rfl) ?_
    refine Ox.pure rfl rfl (rp_move rfl rfl) ?_
    refine Ox.skip rfl rfl ?_
    refine Ox.skip rfl rfl ?_
    refine Ox.skip rfl rfl ?_
    refine Ox.pure rfl rfl (by first | exact rp_pick_t rfl rfl rfl | exact rp_pick_f rfl rfl rfl) ?_
    refine Ox.pure rfl rfl (rp_move rfl rfl) ?_
    refine Ox.skip rfl rfl ?_
    refine Ox.skip rfl rfl ?_
    refine Ox.skip rfl rfl ?_
    refine Ox.pure rfl rfl (by first | exact rp_pick_t rfl rfl rfl | exact rp_pick_f rfl rfl rfl) ?_
    refine Ox.pure rfl rfl (rp_move rfl rfl) ?_
    refine Ox.skip rfl rfl ?_
    refine Ox.skip rfl rfl ?_
    refine Ox.skip rfl rfl ?_
    refine Ox.pure rfl rfl (by first | exact rp_pick_t rfl rfl rfl | exact rp_pick_f rfl rfl rfl) ?_
    refine Ox.pure rfl rfl (rp_move rfl rfl) ?_
    refine Ox.skip rfl rfl ?_
    refine Ox.skip rfl rfl ?_
    refine Ox.skip rfl rfl ?_
    refine Ox.skip rfl rfl ?_
    refine Ox.pure rfl rfl (by first | exact rp_pick_t rfl rfl rfl | exact rp_pick_f rfl rfl rfl) ?_
    refine Ox.pure rfl rfl (rp_move rfl rfl) ?_
    refine Ox.skip rfl rfl ?_
    refine Ox.skip rfl rfl ?_
    refine Ox.skip rfl rfl ?_
    refine Ox.skip rfl rfl ?_
    refine Ox.skip rfl rfl ?_
    refine Ox.skip rfl rfl ?_
    refine Ox.skip rfl rfl ?_
    refine Ox.pure rfl rfl (by first | exact rp_pick_t rfl rfl rfl | exact rp_pick_f rfl rfl rfl) ?_
    refine Ox.pure rfl rfl (rp_move rfl rfl) ?_
    refine Ox.skip rfl rfl ?_
    refine Ox.skip rfl rfl ?_
    refine Ox.skip rfl rfl ?_
    refine Ox.skip rfl rfl ?_
    refine Ox.pure rfl rfl (by first | exact rp_pick_t rfl rfl rfl | exact rp_pick_f rfl rfl rfl) ?_
    refine Ox.pure rfl rfl (rp_move rfl rfl) ?_
    refine Ox.skip rfl rfl ?_
    refine Ox.skip rfl rfl ?_
    refine Ox.skip rfl rfl ?_
    refine Ox.pure rfl rfl (by first | exact rp_pick_t rfl rfl rfl | exact rp_pick_f rfl rfl rfl) ?_
    refine Ox.pure rfl rfl (rp_move rfl rfl) ?_
    refine Ox.skip rfl rfl ?_
    refine Ox.skip rfl rfl ?_
    refine Ox.skip rfl rfl ?_
    refine Ox.pure rfl rfl (by first | exact rp_pick_t rfl rfl rfl | exact rp_pick_f rfl rfl rfl) ?_
    refine Ox.pure rfl rfl (rp_move rfl rfl) ?_
    refine Ox.skip rfl rfl ?_
    refine Ox.skip rfl rfl ?_
    refine Ox.skip rfl rfl ?_
    refine Ox.pure rfl rfl (by first | exact rp_pick_t rfl rfl rfl | exact rp_pick_f rfl rfl rfl) ?_
    refine Ox.pure rfl rfl (rp_move rfl rfl) ?_
    refine Ox.skip rfl rfl ?_
    refine Ox.skip rfl rfl ?_
    refine Ox.skip rfl rfl ?_
    refine Ox.pure rfl rfl (by first | exact rp_pick_t rfl rfl rfl | exact rp_pick_f rfl rfl rfl) ?_
    refine Ox.pure rfl rfl (rp_assign rfl rfl) ?_
    refine Ox.nil ?_
    (repeat first | refine thenE_normal ?_ | refine blockE_normal ?_ | refine scopeE_normal ?_)
    (repeat refine Sx.seq ?_); refine Sx.ret ?_
    (repeat first | refine thenE_ret ?_ | refine blockE_ret ?_ | refine scopeE_ret ?_)
    exact endE_ret [_] ⟨rfl, trivial⟩ ⟨by (repeat first | exact .refl _ _ | assumption | refine .trans ?_ (by assumption)); first | done | fail, congrArg Value.bool (decide_eq_false (fun h => by unfold Fits at h; omega)).symm⟩
  refine Ox.pure rfl rfl (by first | exact rp_bin rfl rfl rfl (binI_t (by omega)) | exact rp_bin rfl rfl rfl (binI_f (by omega)) | exact rp_bin rfl rfl rfl rfl) ?_
  refine Ox.pure rfl rfl (by first | exact rp_pick_t rfl rfl rfl | exact rp_pick_f rfl rfl rfl) ?_
  refine Ox.pure rfl rfl (rp_move rfl rfl) ?_
  refine Ox.pure rfl rfl (by first | exact rp_fieldAddr2 rfl rfl rfl rfl | exact rp_fieldAddr rfl rfl rfl rfl) ?_
  refine Ox.val rfl rfl (rv_load rfl rfl (by (intro u hu; first | exact Cells.l1 (by assumption) (by (repeat first | exact .refl _ _ | assumption | refine .trans ?_ (by assumption)); first | done | fail) _ rfl rfl | exact Cells.l0 (by assumption) (by (repeat first | exact .refl _ _ | assumption | refine .trans ?_ (by assumption)); first | done | fail) rfl rfl))) ?_
  by_cases hs6 : f.key.s ≤ 4095; rotate_left
  · refine Ox.pure rfl rfl (by first | exact rp_bin rfl rfl rfl (binI_t (by omega)) | exact rp_bin rfl rfl rfl (binI_f (by omega)) | exact rp_bin rfl rfl rfl rfl) ?_
    refine Ox.pure rfl rfl (by first | exact rp_pick_t rfl rfl rfl | exact rp_pick_f rfl rfl rfl) ?_
    refine Ox.pure rfl rfl (rp_move rfl rfl) ?_
    refine Ox.skip rfl rfl ?_
    refine Ox.skip rfl rfl ?_
    refine Ox.skip rfl rfl ?_
    refine Ox.pure rfl rfl (by first | exact rp_pick_t rfl rfl rfl | exact rp_pick_f rfl rfl rfl) ?_
    refine Ox.pure rfl rfl (rp_move rfl rfl) ?_
    refine Ox.skip rfl rfl ?_
    refine Ox.skip rfl rfl ?_
    refine Ox.skip rfl rfl ?_
    refine Ox.pure rfl rfl (by first | exact rp_pick_t rfl rfl rfl | exact rp_pick_f rfl rfl rfl) ?_
    refine Ox.pure rfl rfl (rp_move rfl rfl) ?_
    refine Ox.skip rfl rfl ?_
    refine Ox.skip rfl rfl ?_
    refine Ox.skip rfl rfl ?_
    refine Ox.pure rfl rfl (by first | exact rp_pick_t rfl rfl rfl | exact rp_pick_f rfl rfl rfl) ?_
    refine Ox.pure rfl rfl (rp_move rfl rfl) ?_
    refine Ox.skip rfl rfl ?_
    refine Ox.skip rfl rfl ?_
    refine Ox.skip rfl rfl ?_
    refine Ox.pure rfl rfl (by first | exact rp_pick_t rfl rfl rfl | exact rp_pick_f rfl rfl rfl) ?_
    refine Ox.pure rfl rfl (rp_move rfl rfl) ?_
    refine Ox.skip rfl rfl ?_
    refine Ox.skip rfl rfl ?_
    refine Ox.skip rfl rfl ?_
    refine Ox.skip rfl rfl ?_
    refine Ox.pure rfl rfl (by first | exact rp_pick_t rfl rfl rfl | exact rp_pick_f rfl rfl rfl) ?_
    refine Ox.pure rfl rfl (rp_move rfl rfl) ?_
    refine Ox.skip rfl rfl ?_
    refine Ox.skip rfl rfl ?_
    refine Ox.skip rfl rfl ?_
    refine Ox.skip rfl rfl ?_
    refine Ox.skip rfl rfl ?_
    refine Ox.skip rfl rfl ?_
    refine Ox.skip rfl rfl ?_
    refine Ox.pure rfl rfl (by first | exact rp_pick_t rfl rfl rfl | exact rp_pick_f rfl rfl rfl) ?_
    refine Ox.pure rfl rfl (rp_move rfl rfl) ?_
    refine Ox.skip rfl rfl ?_
    refine Ox.skip rfl rfl ?_
    refine Ox.skip rfl rfl ?_
    refine Ox.skip rfl rfl ?_
    refine Ox.pure rfl rfl (by first | exact rp_pick_t rfl rfl rfl | exact rp_pick_f rfl rfl rfl) ?_
    refine Ox.pure rfl rfl (rp_move rfl rfl) ?_
    refine Ox.skip rfl rfl ?_
    refine Ox.skip rfl rfl ?_
    refine Ox.skip rfl rfl ?_
    refine Ox.pure rfl rfl (by first | exact rp_pick_t rfl rfl rfl | exact rp_pick_f rfl rfl rfl) ?_
    refine Ox.pure rfl rfl (rp_move rfl rfl) ?_
    refine Ox.skip rfl rfl ?_
    refine Ox.skip rfl rfl ?_
    refine Ox.skip rfl rfl ?_
    refine Ox.pure rfl rfl (by first | exact rp_pick_t rfl rfl rfl | exact rp_pick_f rfl rfl rfl) ?_
    refine Ox.pure rfl rfl (rp_move rfl rfl) ?_
    refine Ox.skip rfl rfl ?_
    refine Ox.skip rfl rfl ?_
    refine Ox.skip rfl rfl ?_
    refine Ox.pure rfl rfl (by first | exact rp_pick_t rfl rfl rfl | exact rp_pick_f rfl rfl rfl) ?_
    refine Ox.pure rfl rfl (rp_move rfl rfl) ?_
    refine Ox.skip rfl rfl ?_
    refine Ox.skip rfl rfl ?_
    refine Ox.skip rfl rfl ?_
    refine Ox.pure rfl rfl (by first | exact rp_pick_t rfl rfl rfl | exact rp_pick_f rfl rfl rfl) ?_
    refine Ox.pure rfl rfl (rp_assign rfl rfl) ?_
    refine Ox.nil ?_
    (repeat first | refine thenE_normal ?_ | refine blockE_normal ?_ | refine scopeE_normal ?_)
    (repeat refine Sx.seq ?_); refine Sx.ret ?_
    (repeat first | refine thenE_ret ?_ | refine blockE_ret ?_ | refine scopeE_ret ?_)
    exact endE_ret [_] ⟨rfl, trivial⟩ ⟨by (repeat first | exact .refl _ _ | assumption | refine .trans ?_ (by assumption)); first | done | fail, congrArg Value.bool (decide_eq_false (fun h => by unfold Fits at h; omega)).symm⟩
  refine Ox.pure rfl rfl (by first | exact rp_bin rfl rfl rfl (binI_t (by omega)) | exact rp_bin rfl rfl rfl (binI_f (by omega)) | exact rp_bin rfl rfl rfl rfl) ?_
  refine Ox.pure rfl rfl (by first | exact rp_pick_t rfl rfl rfl | exact rp_pick_f rfl rfl rfl) ?_
  refine Ox.pure rfl rfl (rp_move rfl rfl) ?_
  refine Ox.pure rfl rfl (by first | exact rp_fieldAddr2 rfl rfl rfl rfl | exact rp_fieldAddr rfl rfl rfl rfl) ?_
  refine Ox.val rfl rfl (rv_load rfl rfl (by (intro u hu; first | exact Cells.l1 (by assumption) (by (repeat first | exact .refl _ _ | assumption | refine .trans ?_ (by assumption)); first | done | fail) _ rfl rfl | exact Cells.l0 (by assumption) (by (repeat first | exact .refl _ _ | assumption | refine .trans ?_ (by assumption)); first | done | fail) rfl rfl))) ?_
  by_cases hs7 : 0 ≤ f.key.o; rotate_left
  · refine Ox.pure rfl rfl (by first | exact rp_bin rfl rfl rfl (binI_t (by omega)) | exact rp_bin rfl rfl rfl (binI_f (by omega)) | exact rp_bin rfl rfl rfl rfl) ?_
    refine Ox.pure rfl rfl (by first | exact rp_pick_t rfl rfl rfl | exact rp_pick_f rfl rfl rfl) ?_
    refine Ox.pure rfl rfl (rp_move rfl rfl) ?_
    refine Ox.skip rfl rfl ?_
    refine Ox.skip rfl rfl ?_
    refine Ox.skip rfl rfl ?_
    refine Ox.pure rfl rfl (by first | exact rp_pick_t rfl rfl rfl | exact rp_pick_f rfl rfl rfl) ?_
    refine Ox.pure rfl rfl (rp_move rfl rfl) ?_
    refine Ox.skip rfl rfl ?_
    refine Ox.skip rfl rfl ?_
    refine Ox.skip rfl rfl ?_
    refine Ox.pure rfl rfl (by first | exact rp_pick_t rfl rfl rfl | exact rp_pick_f rfl rfl rfl) ?_
    refine Ox.pure rfl rfl (rp_move rfl rfl) ?_
    refine Ox.skip rfl rfl ?_
    refine Ox.skip rfl rfl ?_
    refine Ox.skip rfl rfl ?_
    refine Ox.pure rfl rfl (by first | exact rp_pick_t rfl rfl rfl | exact rp_pick_f rfl rfl rfl) ?_
    refine Ox.pure rfl rfl (rp_move rfl rfl) ?_
    refine Ox.skip rfl rfl ?_
    refine Ox.skip rfl rfl ?_
    refine Ox.skip rfl rfl ?_
    refine Ox.skip rfl rfl ?_
    refine Ox.pure rfl rfl (by first | exact rp_pick_t rfl rfl rfl | exact rp_pick_f rfl rfl rfl) ?_
    refine Ox.pure rfl rfl (rp_move rfl rfl) ?_
    refine Ox.skip rfl rfl ?_
    refine Ox.skip rfl rfl ?_
    refine Ox.skip rfl rfl ?_
    refine Ox.skip rfl rfl ?_
    refine Ox.skip rfl rfl ?_
    refine Ox.skip rfl rfl ?_
    refine Ox.skip rfl rfl ?_
    refine Ox.pure rfl rfl (by first | exact rp_pick_t rfl rfl rfl | exact rp_pick_f rfl rfl rfl) ?_
    refine Ox.pure rfl rfl (rp_move rfl rfl) ?_
    refine Ox.skip rfl rfl ?_
    refine Ox.skip rfl rfl ?_
    refine Ox.skip rfl rfl ?_
    refine Ox.skip rfl rfl ?_
    refine Ox.pure rfl rfl (by first | exact rp_pick_t rfl rfl rfl | exact rp_pick_f rfl rfl rfl) ?_
    refine Ox.pure rfl rfl (rp_move rfl rfl) ?_
    refine Ox.skip rfl rfl ?_
    refine Ox.skip rfl rfl ?_
    refine Ox.skip rfl rfl ?_
    refine Ox.pure rfl rfl (by first | exact rp_pick_t rfl rfl rfl | exact rp_pick_f rfl rfl rfl) ?_
    refine Ox.pure rfl rfl (rp_move rfl rfl) ?_
    refine Ox.skip rfl rfl ?_
    refine Ox.skip rfl rfl ?_
    refine Ox.skip rfl rfl ?_
    refine Ox.pure rfl rfl (by first | exact rp_pick_t rfl rfl rfl | exact rp_pick_f rfl rfl rfl) ?_
    refine Ox.pure rfl rfl (rp_move rfl rfl) ?_
    refine Ox.skip rfl rfl ?_
    refine Ox.skip rfl rfl ?_
    refine Ox.skip rfl rfl ?_
    refine Ox.pure rfl rfl (by first | exact rp_pick_t rfl rfl rfl | exact rp_pick_f rfl rfl rfl) ?_
    refine Ox.pure rfl rfl (rp_move rfl rfl) ?_
    refine Ox.skip rfl rfl ?_
    refine Ox.skip rfl rfl ?_
    refine Ox.skip rfl rfl ?_
    refine Ox.pure rfl rfl (by first | exact rp_pick_t rfl rfl rfl | exact rp_pick_f rfl rfl rfl) ?_
    refine Ox.pure rfl rfl (rp_assign rfl rfl) ?_
    refine Ox.nil ?_
    (repeat first | refine thenE_normal ?_ | refine blockE_normal ?_ | refine scopeE_normal ?_)
    (repeat refine Sx.seq ?_); refine Sx.ret ?_
    (repeat first | refine thenE_ret ?_ | refine blockE_ret ?_ | refine scopeE_ret ?_)
    exact endE_ret [_] ⟨rfl, trivial⟩ ⟨by (repeat first | exact .refl _ _ | assumption | refine .trans ?_ (by assumption)); first | done | fail, congrArg Value.bool (decide_eq_false (fun h => by unfold Fits at h; omega)).symm⟩
  refine Ox.pure rfl rfl (by first | exact rp_bin rfl rfl rfl (binI_t (by omega)) | exact rp_bin rfl rfl rfl (binI_f (by omega)) | exact rp_bin rfl rfl rfl rfl) ?_
  refine Ox.pure rfl rfl (by first | exact rp_pick_t rfl rfl rfl | exact rp_pick_f rfl rfl rfl) ?_
  refine Ox.pure rfl rfl (rp_move rfl rfl) ?_
  refine Ox.pure rfl rfl (by first | exact rp_fieldAddr2 rfl rfl rfl rfl | exact rp_fieldAddr rfl rfl rfl rfl) ?_
  refine Ox.val rfl rfl (rv_load rfl rfl (by (intro u hu; first | exact Cells.l1 (by assumption) (by (repeat first | exact .refl _ _ | assumption | refine .trans ?_ (by assumption)); first | done | fail) _ rfl rfl | exact Cells.l0 (by assumption) (by (repeat first | exact .refl _ _ | assumption | refine .trans ?_ (by assumption)); first | done | fail) rfl rfl))) ?_
  by_cases hs8 : f.key.o < 1024; rotate_left
  · refine Ox.pure rfl rfl (by first | exact rp_bin rfl rfl rfl (binI_t (by omega)) | exact rp_bin rfl rfl rfl (binI_f (by omega)) | exact rp_bin rfl rfl rfl rfl) ?_
    refine Ox.pure rfl rfl (by first | exact rp_pick_t rfl rfl rfl | exact rp_pick_f rfl rfl rfl) ?_
    refine Ox.pure rfl rfl (rp_move rfl rfl) ?_
    refine Ox.skip rfl rfl ?_
    refine Ox.skip rfl rfl ?_
    refine Ox.skip rfl rfl ?_
    refine Ox.pure rfl rfl (by first | exact rp_pick_t rfl rfl rfl | exact rp_pick_f rfl rfl rfl) ?_
    refine Ox.pure rfl rfl (rp_move rfl rfl) ?_
    refine Ox.skip rfl rfl ?_
    refine Ox.skip rfl rfl ?_
    refine Ox.skip rfl rfl ?_
    refine Ox.pure rfl rfl (by first | exact rp_pick_t rfl rfl rfl | exact rp_pick_f rfl rfl rfl) ?_
    refine Ox.pure rfl rfl (rp_move rfl rfl) ?_
    refine Ox.skip rfl rfl ?_
    refine Ox.skip rfl rfl ?_
    refine Ox.skip rfl rfl ?_
    refine Ox.skip rfl rfl ?_
    refine Ox.pure rfl rfl (by first | exact rp_pick_t rfl rfl rfl | exact rp_pick_f rfl rfl rfl) ?_
    refine Ox.pure rfl rfl (rp_move rfl rfl) ?_
    refine Ox.skip rfl rfl ?_
    refine Ox.skip rfl rfl ?_
    refine Ox.skip rfl rfl ?_
    refine Ox.skip rfl rfl ?_
    refine Ox.skip rfl rfl ?_
    refine Ox.skip rfl rfl ?_
    refine Ox.skip rfl rfl ?_
    refine Ox.pure rfl rfl (by first | exact rp_pick_t rfl rfl rfl | exact rp_pick_f rfl rfl rfl) ?_
    refine Ox.pure rfl rfl (rp_move rfl rfl) ?_
    refine Ox.skip rfl rfl ?_
    refine Ox.skip rfl rfl ?_
    refine Ox.skip rfl rfl ?_
    refine Ox.skip rfl rfl ?_
    refine Ox.pure rfl rfl (by first | exact rp_pick_t rfl rfl rfl | exact rp_pick_f rfl rfl rfl) ?_
    refine Ox.pure rfl rfl (rp_move rfl rfl) ?_
    refine Ox.skip rfl rfl ?_
    refine Ox.skip rfl rfl ?_
    refine Ox.skip rfl rfl ?_
    refine Ox.pure rfl rfl (by first | exact rp_pick_t rfl rfl rfl | exact rp_pick_f rfl rfl rfl) ?_
    refine Ox.pure rfl rfl (rp_move rfl rfl) ?_
    refine Ox.skip rfl rfl ?_
    refine Ox.skip rfl rfl ?_
    refine Ox.skip rfl rfl ?_
    refine Ox.pure rfl rfl (by first | exact rp_pick_t rfl rfl rfl | exact rp_pick_f rfl rfl rfl) ?_
    refine Ox.pure rfl rfl (rp_move rfl rfl) ?_
    refine Ox.skip rfl rfl ?_
    refine Ox.skip rfl rfl ?_
    refine Ox.skip rfl rfl ?_
    refine Ox.pure rfl rfl (by first | exact rp_pick_t rfl rfl rfl | exact rp_pick_f rfl rfl rfl) ?_
    refine Ox.pure rfl rfl (rp_move rfl rfl) ?_
    refine Ox.skip rfl rfl ?_
    refine Ox.skip rfl rfl ?_
    refine Ox.skip rfl rfl ?_
    refine Ox.pure rfl rfl (by first | exact rp_pick_t rfl rfl rfl | exact rp_pick_f rfl rfl rfl) ?_
    refine Ox.pure rfl rfl (rp_assign rfl rfl) ?_
    refine Ox.nil ?_
    (repeat first | refine thenE_normal ?_ | refine blockE_normal ?_ | refine scopeE_normal ?_)
    (repeat refine Sx.seq ?_); refine Sx.ret ?_
    (repeat first | refine thenE_ret ?_ | refine blockE_ret ?_ | refine scopeE_ret ?_)
    exact endE_ret [_] ⟨rfl, trivial⟩ ⟨by (repeat first | exact .refl _ _ | assumption | refine .trans ?_ (by assumption)); first | done | fail, congrArg Value.bool (decide_eq_false (fun h => by unfold Fits at h; omega)).symm⟩
  refine Ox.pure rfl rfl (by first | exact rp_bin rfl rfl rfl (binI_t (by omega)) | exact rp_bin rfl rfl rfl (binI_f (by omega)) | exact rp_bin rfl rfl rfl rfl) ?_
  refine Ox.pure rfl rfl (by first | exact rp_pick_t rfl rfl rfl | exact rp_pick_f rfl rfl rfl) ?_
  refine Ox.pure rfl rfl (rp_move rfl rfl) ?_
  refine Ox.pure rfl rfl (by first | exact rp_fieldAddr2 rfl rfl rfl rfl | exact rp_fieldAddr rfl rfl rfl rfl) ?_
  refine Ox.val rfl rfl (rv_load rfl rfl (by (intro u hu; first | exact Cells.l1 (by assumption) (by (repeat first | exact .refl _ _ | assumption | refine .trans ?_ (by assumption)); first | done | fail) _ rfl rfl | exact Cells.l0 (by assumption) (by (repeat first | exact .refl _ _ | assumption | refine .trans ?_ (by assumption)); first | done | fail) rfl rfl))) ?_
  by_cases hs9 : -1 ≤ f.val; rotate_left
  · refine Ox.pure rfl rfl (by first | exact rp_bin rfl rfl rfl (binI_t (by omega)) | exact rp_bin rfl rfl rfl (binI_f (by omega)) | exact rp_bin rfl rfl rfl rfl) ?_
    refine Ox.pure rfl rfl (by first | exact rp_pick_t rfl rfl rfl | exact rp_pick_f rfl rfl rfl) ?_
    refine Ox.pure rfl rfl (rp_move rfl rfl) ?_
    refine Ox.skip rfl rfl ?_
    refine Ox.skip rfl rfl ?_
    refine Ox.skip rfl rfl ?_
    refine Ox.pure rfl rfl (by first | exact rp_pick_t rfl rfl rfl | exact rp_pick_f rfl rfl rfl) ?_
    refine Ox.pure rfl rfl (rp_move rfl rfl) ?_
    refine Ox.skip rfl rfl ?_
    refine Ox.skip rfl rfl ?_
    refine Ox.skip rfl rfl ?_
    refine Ox.skip rfl rfl ?_
    refine Ox.pure rfl rfl (by first | exact rp_pick_t rfl rfl rfl | exact rp_pick_f rfl rfl rfl) ?_
    refine Ox.pure rfl rfl (rp_move rfl rfl) ?_
    refine Ox.skip rfl rfl ?_
    refine Ox.skip rfl rfl ?_
    refine Ox.skip rfl rfl ?_
    refine Ox.skip rfl rfl ?_
    refine Ox.skip rfl rfl ?_
    refine Ox.skip rfl rfl ?_
    refine Ox.skip rfl rfl ?_
    refine Ox.pure rfl rfl (by first | exact rp_pick_t rfl rfl rfl | exact rp_pick_f rfl rfl rfl) ?_
    refine Ox.pure rfl rfl (rp_move rfl rfl) ?_
    refine Ox.skip rfl rfl ?_
    refine Ox.skip rfl rfl ?_
    refine Ox.skip rfl rfl ?_
    refine Ox.skip rfl rfl ?_
    refine Ox.pure rfl rfl (by first | exact rp_pick_t rfl rfl rfl | exact rp_pick_f rfl rfl rfl) ?_
    refine Ox.pure rfl rfl (rp_move rfl rfl) ?_
    refine Ox.skip rfl rfl ?_
    refine Ox.skip rfl rfl ?_
    refine Ox.skip rfl rfl ?_
    refine Ox.pure rfl rfl (by first | exact rp_pick_t rfl rfl rfl | exact rp_pick_f rfl rfl rfl) ?_
    refine Ox.pure rfl rfl (rp_move rfl rfl) ?_
    refine Ox.skip rfl rfl ?_
    refine Ox.skip rfl rfl ?_
    refine Ox.skip rfl rfl ?_
    refine Ox.pure rfl rfl (by first | exact rp_pick_t rfl rfl rfl | exact rp_pick_f rfl rfl rfl) ?_
    refine Ox.pure rfl rfl (rp_move rfl rfl) ?_
    refine Ox.skip rfl rfl ?_
    refine Ox.skip rfl rfl ?_
    refine Ox.skip rfl rfl ?_
    refine Ox.pure rfl rfl (by first | exact rp_pick_t rfl rfl rfl | exact rp_pick_f rfl rfl rfl) ?_
    refine Ox.pure rfl rfl (rp_move rfl rfl) ?_
    refine Ox.skip rfl rfl ?_
    refine Ox.skip rfl rfl ?_
    refine Ox.skip rfl rfl ?_
    refine Ox.pure rfl rfl (by first | exact rp_pick_t rfl rfl rfl | exact rp_pick_f rfl rfl rfl) ?_
    refine Ox.pure rfl rfl (rp_assign rfl rfl) ?_
    refine Ox.nil ?_
    (repeat first | refine thenE_normal ?_ | refine blockE_normal ?_ | refine scopeE_normal ?_)
    (repeat refine Sx.seq ?_); refine Sx.ret ?_
    (repeat first | refine thenE_ret ?_ | refine blockE_ret ?_ | refine scopeE_ret ?_)
    exact endE_ret [_] ⟨rfl, trivial⟩ ⟨by (repeat first | exact .refl _ _ | assumption | refine .trans ?_ (by assumption)); first | done | fail, congrArg Value.bool (decide_eq_false (fun h => by unfold Fits at h; omega)).symm⟩
  refine Ox.pure rfl rfl (by first | exact rp_bin rfl rfl rfl (binI_t (by omega)) | exact rp_bin rfl rfl rfl (binI_f (by omega)) | exact rp_bin rfl rfl rfl rfl) ?_
  refine Ox.pure rfl rfl (by first | exact rp_pick_t rfl rfl rfl | exact rp_pick_f rfl rfl rfl) ?_
  refine Ox.pure rfl rfl (rp_move rfl rfl) ?_
  refine Ox.pure rfl rfl (by first | exact rp_fieldAddr2 rfl rfl rfl rfl | exact rp_fieldAddr rfl rfl rfl rfl) ?_
  refine Ox.val rfl rfl (rv_load rfl rfl (by (intro u hu; first | exact Cells.l1 (by assumption) (by (repeat first | exact .refl _ _ | assumption | refine .trans ?_ (by assumption)); first | done | fail) _ rfl rfl | exact Cells.l0 (by assumption) (by (repeat first | exact .refl _ _ | assumption | refine .trans ?_ (by assumption)); first | done | fail) rfl rfl))) ?_
  by_cases hs10 : f.val ≤ 1048576; rotate_left
  · refine Ox.pure rfl rfl (by first | exact rp_bin rfl rfl rfl (binI_t (by omega)) | exact rp_bin rfl rfl rfl (binI_f (by omega)) | exact rp_bin rfl rfl rfl rfl) ?_
    refine Ox.pure rfl rfl (by first | exact rp_pick_t rfl rfl rfl | exact rp_pick_f rfl rfl rfl) ?_
    refine Ox.pure rfl rfl (rp_move rfl rfl) ?_
    refine Ox.skip rfl rfl ?_
    refine Ox.skip rfl rfl ?_
    refine Ox.skip rfl rfl ?_
    refine Ox.skip rfl rfl ?_
    refine Ox.pure rfl rfl (by first | exact rp_pick_t rfl rfl rfl | exact rp_pick_f rfl rfl rfl) ?_
    refine Ox.pure rfl rfl (rp_move rfl rfl) ?_
    refine Ox.skip rfl rfl ?_
    refine Ox.skip rfl rfl ?_
    refine Ox.skip rfl rfl ?_
    refine Ox.skip rfl rfl ?_
    refine Ox.skip rfl rfl ?_
    refine Ox.skip rfl rfl ?_
    refine Ox.skip rfl rfl ?_
    refine Ox.pure rfl rfl (by first | exact rp_pick_t rfl rfl rfl | exact rp_pick_f rfl rfl rfl) ?_
    refine Ox.pure rfl rfl (rp_move rfl rfl) ?_
    refine Ox.skip rfl rfl ?_
    refine Ox.skip rfl rfl ?_
    refine Ox.skip rfl rfl ?_
    refine Ox.skip rfl rfl ?_
    refine Ox.pure rfl rfl (by first | exact rp_pick_t rfl rfl rfl | exact rp_pick_f rfl rfl rfl) ?_
    refine Ox.pure rfl rfl (rp_move rfl rfl) ?_
    refine Ox.skip rfl rfl ?_
    refine Ox.skip rfl rfl ?_
    refine Ox.skip rfl rfl ?_
    refine Ox.pure rfl rfl (by first | exact rp_pick_t rfl rfl rfl | exact rp_pick_f rfl rfl rfl) ?_
    refine Ox.pure rfl rfl (rp_move rfl rfl) ?_
    refine Ox.skip rfl rfl ?_
    refine Ox.skip rfl rfl ?_
    refine Ox.skip rfl rfl ?_
    refine Ox.pure rfl rfl (by first | exact rp_pick_t rfl rfl rfl | exact rp_pick_f rfl rfl rfl) ?_
    refine Ox.pure rfl rfl (rp_move rfl rfl) ?_
    refine Ox.skip rfl rfl ?_
    refine Ox.skip rfl rfl ?_
    refine Ox.skip rfl rfl ?_
    refine Ox.pure rfl rfl (by first | exact rp_pick_t rfl rfl rfl | exact rp_pick_f rfl rfl rfl) ?_
    refine Ox.pure rfl rfl (rp_move rfl rfl) ?_
    refine Ox.skip rfl rfl ?_
    refine Ox.skip rfl rfl ?_
    refine Ox.skip rfl rfl ?_
    refine Ox.pure rfl rfl (by first | exact rp_pick_t rfl rfl rfl | exact rp_pick_f rfl rfl rfl) ?_
    refine Ox.pure rfl rfl (rp_assign rfl rfl) ?_
    refine Ox.nil ?_
    (repeat first | refine thenE_normal ?_ | refine blockE_normal ?_ | refine scopeE_normal ?_)
    (repeat refine Sx.seq ?_); refine Sx.ret ?_
    (repeat first | refine thenE_ret ?_ | refine blockE_ret ?_ | refine scopeE_ret ?_)
    exact endE_ret [_] ⟨rfl, trivial⟩ ⟨by (repeat first | exact .refl _ _ | assumption | refine .trans ?_ (by assumption)); first | done | fail, congrArg Value.bool (decide_eq_false (fun h => by unfold Fits at h; omega)).symm⟩
  refine Ox.pure rfl rfl (by first | exact rp_bin rfl rfl rfl (binI_t (by omega)) | exact rp_bin rfl rfl rfl (binI_f (by omega)) | exact rp_bin rfl rfl rfl rfl) ?_
  refine Ox.pure rfl rfl (by first | exact rp_pick_t rfl rfl rfl | exact rp_pick_f rfl rfl rfl) ?_
  refine Ox.pure rfl rfl (rp_move rfl rfl) ?_
  refine Ox.pure rfl rfl (by first | exact rp_fieldAddr2 rfl rfl rfl rfl | exact rp_fieldAddr rfl rfl rfl rfl) ?_
  refine Ox.pure rfl rfl (by first | exact rp_fieldAddr2 rfl rfl rfl rfl | exact rp_fieldAddr rfl rfl rfl rfl) ?_
  refine Ox.val rfl rfl (rv_load rfl rfl (by (intro u hu; first | exact Cells.l1 (by assumption) (by (repeat first | exact .refl _ _ | assumption | refine .trans ?_ (by assumption)); first | done | fail) _ rfl rfl | exact Cells.l0 (by assumption) (by (repeat first | exact .refl _ _ | assumption | refine .trans ?_ (by assumption)); first | done | fail) rfl rfl))) ?_
  by_cases hs11 : 0 ≤ f.lo; rotate_left
  · refine Ox.pure rfl rfl (by first | exact rp_bin rfl rfl rfl (binI_t (by omega)) | exact rp_bin rfl rfl rfl (binI_f (by omega)) | exact rp_bin rfl rfl rfl rfl) ?_
    refine Ox.pure rfl rfl (by first | exact rp_pick_t rfl rfl rfl | exact rp_pick_f rfl rfl rfl) ?_
    refine Ox.pure rfl rfl (rp_move rfl rfl) ?_
    refine Ox.skip rfl rfl ?_
    refine Ox.skip rfl rfl ?_
    refine Ox.skip rfl rfl ?_
    refine Ox.skip rfl rfl ?_
    refine Ox.skip rfl rfl ?_
    refine Ox.skip rfl rfl ?_
    refine Ox.skip rfl rfl ?_
    refine Ox.pure rfl rfl (by first | exact rp_pick_t rfl rfl rfl | exact rp_pick_f rfl rfl rfl) ?_
    refine Ox.pure rfl rfl (rp_move rfl rfl) ?_
    refine Ox.skip rfl rfl ?_
    refine Ox.skip rfl rfl ?_
    refine Ox.skip rfl rfl ?_
    refine Ox.skip rfl rfl ?_
    refine Ox.pure rfl rfl (by first | exact rp_pick_t rfl rfl rfl | exact rp_pick_f rfl rfl rfl) ?_
    refine Ox.pure rfl rfl (rp_move rfl rfl) ?_
    refine Ox.skip rfl rfl ?_
    refine Ox.skip rfl rfl ?_
    refine Ox.skip rfl rfl ?_
    refine Ox.pure rfl rfl (by first | exact rp_pick_t rfl rfl rfl | exact rp_pick_f rfl rfl rfl) ?_
    refine Ox.pure rfl rfl (rp_move rfl rfl) ?_
    refine Ox.skip rfl rfl ?_
    refine Ox.skip rfl rfl ?_
    refine Ox.skip rfl rfl ?_
    refine Ox.pure rfl rfl (by first | exact rp_pick_t rfl rfl rfl | exact rp_pick_f rfl rfl rfl) ?_
    refine Ox.pure rfl rfl (rp_move rfl rfl) ?_
    refine Ox.skip rfl rfl ?_
    refine Ox.skip rfl rfl ?_
    refine Ox.skip rfl rfl ?_
    refine Ox.pure rfl rfl (by first | exact rp_pick_t rfl rfl rfl | exact rp_pick_f rfl rfl rfl) ?_
    refine Ox.pure rfl rfl (rp_move rfl rfl) ?_
    refine Ox.skip rfl rfl ?_
    refine Ox.skip rfl rfl ?_
    refine Ox.skip rfl rfl ?_
    refine Ox.pure rfl rfl (by first | exact rp_pick_t rfl rfl rfl | exact rp_pick_f rfl rfl rfl) ?_
    refine Ox.pure rfl rfl (rp_assign rfl rfl) ?_
    refine Ox.nil ?_
    (repeat first | refine thenE_normal ?_ | refine blockE_normal ?_ | refine scopeE_normal ?_)
    (repeat refine Sx.seq ?_); refine Sx.ret ?_
    (repeat first | refine thenE_ret ?_ | refine blockE_ret ?_ | refine scopeE_ret ?_)
    exact endE_ret [_] ⟨rfl, trivial⟩ ⟨by (repeat first | exact .refl _ _ | assumption | refine .trans ?_ (by assumption)); first | done | fail, congrArg Value.bool (decide_eq_false (fun h => by unfold Fits at h; omega)).symm⟩
  refine Ox.pure rfl rfl (by first | exact rp_bin rfl rfl rfl (binI_t (by omega)) | exact rp_bin rfl rfl rfl (binI_f (by omega)) | exact rp_bin rfl rfl rfl rfl) ?_
  refine Ox.pure rfl rfl (by first | exact rp_pick_t rfl rfl rfl | exact rp_pick_f rfl rfl rfl) ?_
  refine Ox.pure rfl rfl (rp_move rfl rfl) ?_
  refine Ox.pure rfl rfl (by first | exact rp_fieldAddr2 rfl rfl rfl rfl | exact rp_fieldAddr rfl rfl rfl rfl) ?_
  refine Ox.pure rfl rfl (by first | exact rp_fieldAddr2 rfl rfl rfl rfl | exact rp_fieldAddr rfl rfl rfl rfl) ?_
  refine Ox.val rfl rfl (rv_load rfl rfl (by (intro u hu; first | exact Cells.l1 (by assumption) (by (repeat first | exact .refl _ _ | assumption | refine .trans ?_ (by assumption)); first | done | fail) _ rfl rfl | exact Cells.l0 (by assumption) (by (repeat first | exact .refl _ _ | assumption | refine .trans ?_ (by assumption)); first | done | fail) rfl rfl))) ?_
  refine Ox.pure rfl rfl (by first | exact rp_fieldAddr2 rfl rfl rfl rfl | exact rp_fieldAddr rfl rfl rfl rfl) ?_
  refine Ox.pure rfl rfl (by first | exact rp_fieldAddr2 rfl rfl rfl rfl | exact rp_fieldAddr rfl rfl rfl rfl) ?_
  refine Ox.val rfl rfl (rv_load rfl rfl (by (intro u hu; first | exact Cells.l1 (by assumption) (by (repeat first | exact .refl _ _ | assumption | refine .trans ?_ (by assumption)); first | done | fail) _ rfl rfl | exact Cells.l0 (by assumption) (by (repeat first | exact .refl _ _ | assumption | refine .trans ?_ (by assumption)); first | done | fail) rfl rfl))) ?_
  by_cases hs12 : f.lo < f.hi; rotate_left
  · refine Ox.pure rfl rfl (by first | exact rp_bin rfl rfl rfl (binI_t (by omega)) | exact rp_bin rfl rfl rfl (binI_f (by omega)) | exact rp_bin rfl rfl rfl rfl) ?_
    refine Ox.pure rfl rfl (by first | exact rp_pick_t rfl rfl rfl | exact rp_pick_f rfl rfl rfl) ?_
    refine Ox.pure rfl rfl (rp_move rfl rfl) ?_
    refine Ox.skip rfl rfl ?_
    refine Ox.skip rfl rfl ?_
    refine Ox.skip rfl rfl ?_
    refine Ox.skip rfl rfl ?_
    refine Ox.pure rfl rfl (by first | exact rp_pick_t rfl rfl rfl | exact rp_pick_f rfl rfl rfl) ?_
    refine Ox.pure rfl rfl (rp_move rfl rfl) ?_
    refine Ox.skip rfl rfl ?_
    refine Ox.skip rfl rfl ?_
    refine Ox.skip rfl rfl ?_
    refine Ox.pure rfl rfl (by first | exact rp_pick_t rfl rfl rfl | exact rp_pick_f rfl rfl rfl) ?_
    refine Ox.pure rfl rfl (rp_move rfl rfl) ?_
    refine Ox.skip rfl rfl ?_
    refine Ox.skip rfl rfl ?_
    refine Ox.skip rfl rfl ?_
    refine Ox.pure rfl rfl (by first | exact rp_pick_t rfl rfl rfl | exact rp_pick_f rfl rfl rfl) ?_
    refine Ox.pure rfl rfl (rp_move rfl rfl) ?_
    refine Ox.skip rfl rfl ?_
    refine Ox.skip rfl rfl ?_
    refine Ox.skip rfl rfl ?_
    refine Ox.pure rfl rfl (by first | exact rp_pick_t rfl rfl rfl | exact rp_pick_f rfl rfl rfl) ?_
    refine Ox.pure rfl rfl (rp_move rfl rfl) ?_
    refine Ox.skip rfl rfl ?_
    refine Ox.skip rfl rfl ?_
    refine Ox.skip rfl rfl ?_
    refine Ox.pure rfl rfl (by first | exact rp_pick_t rfl rfl rfl | exact rp_pick_f rfl rfl rfl) ?_
    refine Ox.pure rfl rfl (rp_assign rfl rfl) ?_
    refine Ox.nil ?_
    (repeat first | refine thenE_normal ?_ | refine blockE_normal ?_ | refine scopeE_normal ?_)
    (repeat refine Sx.seq ?_); refine Sx.ret ?_
    (repeat first | refine thenE_ret ?_ | refine blockE_ret ?_ | refine scopeE_ret ?_)
    exact endE_ret [_] ⟨rfl, trivial⟩ ⟨by (repeat first | exact .refl _ _ | assumption | refine .trans ?_ (by assumption)); first | done | fail, congrArg Value.bool (decide_eq_false (fun h => by unfold Fits at h; omega)).symm⟩
  refine Ox.pure rfl rfl (by first | exact rp_bin rfl rfl rfl (binI_t (by omega)) | exact rp_bin rfl rfl rfl (binI_f (by omega)) | exact rp_bin rfl rfl rfl rfl) ?_
  refine Ox.pure rfl rfl (by first | exact rp_pick_t rfl rfl rfl | exact rp_pick_f rfl rfl rfl) ?_
  refine Ox.pure rfl rfl (rp_move rfl rfl) ?_
  refine Ox.pure rfl rfl (by first | exact rp_fieldAddr2 rfl rfl rfl rfl | exact rp_fieldAddr rfl rfl rfl rfl) ?_
  refine Ox.pure rfl rfl (by first | exact rp_fieldAddr2 rfl rfl rfl rfl | exact rp_fieldAddr rfl rfl rfl rfl) ?_
  refine Ox.val rfl rfl (rv_load rfl rfl (by (intro u hu; first | exact Cells.l1 (by assumption) (by (repeat first | exact .refl _ _ | assumption | refine .trans ?_ (by assumption)); first | done | fail) _ rfl rfl | exact Cells.l0 (by assumption) (by (repeat first | exact .refl _ _ | assumption | refine .trans ?_ (by assumption)); first | done | fail) rfl rfl))) ?_
  by_cases hs13 : f.hi ≤ 1024; rotate_left
  · refine Ox.pure rfl rfl (by first | exact rp_bin rfl rfl rfl (binI_t (by omega)) | exact rp_bin rfl rfl rfl (binI_f (by omega)) | exact rp_bin rfl rfl rfl rfl) ?_
    refine Ox.pure rfl rfl (by first | exact rp_pick_t rfl rfl rfl | exact rp_pick_f rfl rfl rfl) ?_
    refine Ox.pure rfl rfl (rp_move rfl rfl) ?_
    refine Ox.skip rfl rfl ?_
    refine Ox.skip rfl rfl ?_
    refine Ox.skip rfl rfl ?_
    refine Ox.pure rfl rfl (by first | exact rp_pick_t rfl rfl rfl | exact rp_pick_f rfl rfl rfl) ?_
    refine Ox.pure rfl rfl (rp_move rfl rfl) ?_
    refine Ox.skip rfl rfl ?_
    refine Ox.skip rfl rfl ?_
    refine Ox.skip rfl rfl ?_
    refine Ox.pure rfl rfl (by first | exact rp_pick_t rfl rfl rfl | exact rp_pick_f rfl rfl rfl) ?_
    refine Ox.pure rfl rfl (rp_move rfl rfl) ?_
    refine Ox.skip rfl rfl ?_
    refine Ox.skip rfl rfl ?_
    refine Ox.skip rfl rfl ?_
    refine Ox.pure rfl rfl (by first | exact rp_pick_t rfl rfl rfl | exact rp_pick_f rfl rfl rfl) ?_
    refine Ox.pure rfl rfl (rp_move rfl rfl) ?_
    refine Ox.skip rfl rfl ?_
    refine Ox.skip rfl rfl ?_
    refine Ox.skip rfl rfl ?_
    refine Ox.pure rfl rfl (by first | exact rp_pick_t rfl rfl rfl | exact rp_pick_f rfl rfl rfl) ?_
    refine Ox.pure rfl rfl (rp_assign rfl rfl) ?_
    refine Ox.nil ?_
    (repeat first | refine thenE_normal ?_ | refine blockE_normal ?_ | refine scopeE_normal ?_)
    (repeat refine Sx.seq ?_); refine Sx.ret ?_
    (repeat first | refine thenE_ret ?_ | refine blockE_ret ?_ | refine scopeE_ret ?_)
    exact endE_ret [_] ⟨rfl, trivial⟩ ⟨by (repeat first | exact .refl _ _ | assumption | refine .trans ?_ (by assumption)); first | done | fail, congrArg Value.bool (decide_eq_false (fun h => by unfold Fits at h; omega)).symm⟩
  refine Ox.pure rfl rfl (by first | exact rp_bin rfl rfl rfl (binI_t (by omega)) | exact rp_bin rfl rfl rfl (binI_f (by omega)) | exact rp_bin rfl rfl rfl rfl) ?_
  refine Ox.pure rfl rfl (by first | exact rp_pick_t rfl rfl rfl | exact rp_pick_f rfl rfl rfl) ?_
  refine Ox.pure rfl rfl (rp_move rfl rfl) ?_
  refine Ox.pure rfl rfl (by first | exact rp_fieldAddr2 rfl rfl rfl rfl | exact rp_fieldAddr rfl rfl rfl rfl) ?_
  refine Ox.val rfl rfl (rv_load rfl rfl (by (intro u hu; first | exact Cells.l1 (by assumption) (by (repeat first | exact .refl _ _ | assumption | refine .trans ?_ (by assumption)); first | done | fail) _ rfl rfl | exact Cells.l0 (by assumption) (by (repeat first | exact .refl _ _ | assumption | refine .trans ?_ (by assumption)); first | done | fail) rfl rfl))) ?_
  by_cases hs14 : 1 ≤ f.known; rotate_left
  · refine Ox.pure rfl rfl (by first | exact rp_bin rfl rfl rfl (binI_t (by omega)) | exact rp_bin rfl rfl rfl (binI_f (by omega)) | exact rp_bin rfl rfl rfl rfl) ?_
    refine Ox.pure rfl rfl (by first | exact rp_pick_t rfl rfl rfl | exact rp_pick_f rfl rfl rfl) ?_
    refine Ox.pure rfl rfl (rp_move rfl rfl) ?_
    refine Ox.skip rfl rfl ?_
    refine Ox.skip rfl rfl ?_
    refine Ox.skip rfl rfl ?_
    refine Ox.pure rfl rfl (by first | exact rp_pick_t rfl rfl rfl | exact rp_pick_f rfl rfl rfl) ?_
    refine Ox.pure rfl rfl (rp_move rfl rfl) ?_
    refine Ox.skip rfl rfl ?_
    refine Ox.skip rfl rfl ?_
    refine Ox.skip rfl rfl ?_
    refine Ox.pure rfl rfl (by first | exact rp_pick_t rfl rfl rfl | exact rp_pick_f rfl rfl rfl) ?_
    refine Ox.pure rfl rfl (rp_move rfl rfl) ?_
    refine Ox.skip rfl rfl ?_
    refine Ox.skip rfl rfl ?_
    refine Ox.skip rfl rfl ?_
    refine Ox.pure rfl rfl (by first | exact rp_pick_t rfl rfl rfl | exact rp_pick_f rfl rfl rfl) ?_
    refine Ox.pure rfl rfl (rp_assign rfl rfl) ?_
    refine Ox.nil ?_
    (repeat first | refine thenE_normal ?_ | refine blockE_normal ?_ | refine scopeE_normal ?_)
    (repeat refine Sx.seq ?_); refine Sx.ret ?_
    (repeat first | refine thenE_ret ?_ | refine blockE_ret ?_ | refine scopeE_ret ?_)
    exact endE_ret [_] ⟨rfl, trivial⟩ ⟨by (repeat first | exact .refl _ _ | assumption | refine .trans ?_ (by assumption)); first | done | fail, congrArg Value.bool (decide_eq_false (fun h => by unfold Fits at h; omega)).symm⟩
  refine Ox.pure rfl rfl (by first | exact rp_bin rfl rfl rfl (binI_t (by omega)) | exact rp_bin rfl rfl rfl (binI_f (by omega)) | exact rp_bin rfl rfl rfl rfl) ?_
  refine Ox.pure rfl rfl (by first | exact rp_pick_t rfl rfl rfl | exact rp_pick_f rfl rfl rfl) ?_
  refine Ox.pure rfl rfl (rp_move rfl rfl) ?_
  refine Ox.pure rfl rfl (by first | exact rp_fieldAddr2 rfl rfl rfl rfl | exact rp_fieldAddr rfl rfl rfl rfl) ?_
  refine Ox.val rfl rfl (rv_load rfl rfl (by (intro u hu; first | exact Cells.l1 (by assumption) (by (repeat first | exact .refl _ _ | assumption | refine .trans ?_ (by assumption)); first | done | fail) _ rfl rfl | exact Cells.l0 (by assumption) (by (repeat first | exact .refl _ _ | assumption | refine .trans ?_ (by assumption)); first | done | fail) rfl rfl))) ?_
  by_cases hs15 : f.known ≤ 16777216; rotate_left
  · refine Ox.pure rfl rfl (by first | exact rp_bin rfl rfl rfl (binI_t (by omega)) | exact rp_bin rfl rfl rfl (binI_f (by omega)) | exact rp_bin rfl rfl rfl rfl) ?_
    refine Ox.pure rfl rfl (by first | exact rp_pick_t rfl rfl rfl | exact rp_pick_f rfl rfl rfl) ?_
    refine Ox.pure rfl rfl (rp_move rfl rfl) ?_
    refine Ox.skip rfl rfl ?_
    refine Ox.skip rfl rfl ?_
    refine Ox.skip rfl rfl ?_
    refine Ox.pure rfl rfl (by first | exact rp_pick_t rfl rfl rfl | exact rp_pick_f rfl rfl rfl) ?_
    refine Ox.pure rfl rfl (rp_move rfl rfl) ?_
    refine Ox.skip rfl rfl ?_
    refine Ox.skip rfl rfl ?_
    refine Ox.skip rfl rfl ?_
    refine Ox.pure rfl rfl (by first | exact rp_pick_t rfl rfl rfl | exact rp_pick_f rfl rfl rfl) ?_
    refine Ox.pure rfl rfl (rp_assign rfl rfl) ?_
    refine Ox.nil ?_
    (repeat first | refine thenE_normal ?_ | refine blockE_normal ?_ | refine scopeE_normal ?_)
    (repeat refine Sx.seq ?_); refine Sx.ret ?_
    (repeat first | refine thenE_ret ?_ | refine blockE_ret ?_ | refine scopeE_ret ?_)
    exact endE_ret [_] ⟨rfl, trivial⟩ ⟨by (repeat first | exact .refl _ _ | assumption | refine .trans ?_ (by assumption)); first | done | fail, congrArg Value.bool (decide_eq_false (fun h => by unfold Fits at h; omega)).symm⟩
  refine Ox.pure rfl rfl (by first | exact rp_bin rfl rfl rfl (binI_t (by omega)) | exact rp_bin rfl rfl rfl (binI_f (by omega)) | exact rp_bin rfl rfl rfl rfl) ?_
  refine Ox.pure rfl rfl (by first | exact rp_pick_t rfl rfl rfl | exact rp_pick_f rfl rfl rfl) ?_
  refine Ox.pure rfl rfl (rp_move rfl rfl) ?_
  refine Ox.pure rfl rfl (by first | exact rp_fieldAddr2 rfl rfl rfl rfl | exact rp_fieldAddr rfl rfl rfl rfl) ?_
  refine Ox.val rfl rfl (rv_load rfl rfl (by (intro u hu; first | exact Cells.l1 (by assumption) (by (repeat first | exact .refl _ _ | assumption | refine .trans ?_ (by assumption)); first | done | fail) _ rfl rfl | exact Cells.l0 (by assumption) (by (repeat first | exact .refl _ _ | assumption | refine .trans ?_ (by assumption)); first | done | fail) rfl rfl))) ?_
  by_cases hs16 : 0 ≤ f.no; rotate_left
  · refine Ox.pure rfl rfl (by first | exact rp_bin rfl rfl rfl (binI_t (by omega)) | exact rp_bin rfl rfl rfl (binI_f (by omega)) | exact rp_bin rfl rfl rfl rfl) ?_
    refine Ox.pure rfl rfl (by first | exact rp_pick_t rfl rfl rfl | exact rp_pick_f rfl rfl rfl) ?_
    refine Ox.pure rfl rfl (rp_move rfl rfl) ?_
    refine Ox.skip rfl rfl ?_
    refine Ox.skip rfl rfl ?_
    refine Ox.skip rfl rfl ?_
    refine Ox.pure rfl rfl (by first | exact rp_pick_t rfl rfl rfl | exact rp_pick_f rfl rfl rfl) ?_
    refine Ox.pure rfl rfl (rp_assign rfl rfl) ?_
    refine Ox.nil ?_
    (repeat first | refine thenE_normal ?_ | refine blockE_normal ?_ | refine scopeE_normal ?_)
    (repeat refine Sx.seq ?_); refine Sx.ret ?_
    (repeat first | refine thenE_ret ?_ | refine blockE_ret ?_ | refine scopeE_ret ?_)
    exact endE_ret [_] ⟨rfl, trivial⟩ ⟨by (repeat first | exact .refl _ _ | assumption | refine .trans ?_ (by assumption)); first | done | fail, congrArg Value.bool (decide_eq_false (fun h => by unfold Fits at h; omega)).symm⟩
  refine Ox.pure rfl rfl (by first | exact rp_bin rfl rfl rfl (binI_t (by omega)) | exact rp_bin rfl rfl rfl (binI_f (by omega)) | exact rp_bin rfl rfl rfl rfl) ?_
  refine Ox.pure rfl rfl (by first | exact rp_pick_t rfl rfl rfl | exact rp_pick_f rfl rfl rfl) ?_
  refine Ox.pure rfl rfl (rp_move rfl rfl) ?_
  refine Ox.pure rfl rfl (by first | exact rp_fieldAddr2 rfl rfl rfl rfl | exact rp_fieldAddr rfl rfl rfl rfl) ?_
  refine Ox.val rfl rfl (rv_load rfl rfl (by (intro u hu; first | exact Cells.l1 (by assumption) (by (repeat first | exact .refl _ _ | assumption | refine .trans ?_ (by assumption)); first | done | fail) _ rfl rfl | exact Cells.l0 (by assumption) (by (repeat first | exact .refl _ _ | assumption | refine .trans ?_ (by assumption)); first | done | fail) rfl rfl))) ?_
  by_cases hs17 : f.no ≤ 65535; rotate_left
  · refine Ox.pure rfl rfl (by first | exact rp_bin rfl rfl rfl (binI_t (by omega)) | exact rp_bin rfl rfl rfl (binI_f (by omega)) | exact rp_bin rfl rfl rfl rfl) ?_
    refine Ox.pure rfl rfl (by first | exact rp_pick_t rfl rfl rfl | exact rp_pick_f rfl rfl rfl) ?_
    refine Ox.pure rfl rfl (rp_assign rfl rfl) ?_
    refine Ox.nil ?_
    (repeat first | refine thenE_normal ?_ | refine blockE_normal ?_ | refine scopeE_normal ?_)
    (repeat refine Sx.seq ?_); refine Sx.ret ?_
    (repeat first | refine thenE_ret ?_ | refine blockE_ret ?_ | refine scopeE_ret ?_)
    exact endE_ret [_] ⟨rfl, trivial⟩ ⟨by (repeat first | exact .refl _ _ | assumption | refine .trans ?_ (by assumption)); first | done | fail, congrArg Value.bool (decide_eq_false (fun h => by unfold Fits at h; omega)).symm⟩
  refine Ox.pure rfl rfl (by first | exact rp_bin rfl rfl rfl (binI_t (by omega)) | exact rp_bin rfl rfl rfl (binI_f (by omega)) | exact rp_bin rfl rfl rfl rfl) ?_
  refine Ox.pure rfl rfl (by first | exact rp_pick_t rfl rfl rfl | exact rp_pick_f rfl rfl rfl) ?_
  refine Ox.pure rfl rfl (rp_assign rfl rfl) ?_
  refine Ox.nil ?_
  (repeat first | refine thenE_normal ?_ | refine blockE_normal ?_ | refine scopeE_normal ?_)
  (repeat refine Sx.seq ?_); refine Sx.ret ?_
  (repeat first | refine thenE_ret ?_ | refine blockE_ret ?_ | refine scopeE_ret ?_)
  exact endE_ret [_] ⟨rfl, trivial⟩ ⟨by (repeat first | exact .refl _ _ | assumption | refine .trans ?_ (by assumption)); first | done | fail, congrArg Value.bool (decide_eq_true (by unfold Fits; omega)).symm⟩

/-- Where a list first meets a condition. -/
def Idx {α : Type} (q : α → Bool) (l : List α) (k : Int) : Prop := (k = -1 ∧ ∀ f ∈ l, q f = false) ∨ ∃ i, ∃ h : i < l.length, k = (i : Int) ∧ q l[i] = true ∧ ∀ f ∈ l.take i, q f = false
theorem Idx.any {α : Type} {q : α → Bool} {l : List α} {k : Int} (h : Idx q l k) : decide (0 ≤ k) = l.any q := by
  rcases h with ⟨rfl, h⟩ | ⟨i, hi, rfl, h, _⟩
  · rw [decide_eq_false (by decide)]
    symm; rw [Bool.eq_false_iff]
    intro ht
    obtain ⟨f, h1, h2⟩ := List.any_eq_true.1 ht
    rw [h f h1] at h2; cases h2
  · rw [decide_eq_true (by omega)]
    symm; exact List.any_eq_true.2 ⟨_, List.getElem_mem hi, h⟩
theorem take_succ_all {α : Type} {q : α → Bool} {l : List α} {i : Nat} (hi : i < l.length) (h : ∀ f ∈ l.take i, q f = false) (h2 : q l[i] = false) : ∀ f ∈ l.take (i + 1), q f = false := by
  rw [← List.take_append_getElem hi]
  intro f hf
  rcases List.mem_append.1 hf with h3 | h3
  · exact h f h3
  · rw [List.mem_singleton.1 h3]; exact h2

/-- A function value that answers for facts as q does. -/
def Asks (w : World) (g : FuncId) (cap : Array Value) (l : List Fct) (q : Fct → Bool) : Prop :=
  ∀ f ∈ l, ∀ w', Ext [] w w' → Calls Try.prog g (#[.agg (fc f).toArray] ++ cap) w' (Ret fun r w'' => Ext [] w' w'' ∧ r = .bool (q f))

theorem indexFact_at (l : List Fct) (q : Fct → Bool) (g : FuncId) (cap : Array Value) (hg : callable Try.prog g = true) (p : Option Addr) (A : Addr) (c : Nat) (w : World) (hs : SlV fc w p A l c) (hq : Asks w g cap l q) :
    Calls Try.prog 51 #[.slice p l.length c, .func (.func g) #[] cap] w (Ret fun r w' => Ext [] w w' ∧ ∃ k, r = .int .i64 k ∧ Idx q l k) := by
  have hfew := hs.few
  have hp := hs.ptr
  have hrow := hs.row
  refine calls_of_Sx (args := [.slice p l.length c, .func (.func g) #[] cap]) Try.func51 rfl rfl ?_
  (repeat refine Sx.seq ?_)
  refine Sx.textR ?_
  refine Ox.pure rfl rfl (rp_assign rfl rfl) ?_
  refine Ox.nil ?_
  (repeat first | refine thenE_normal ?_ | refine blockE_normal ?_ | refine scopeE_normal ?_)
  (repeat refine Sx.seq ?_)
  refine Sx.textR ?_
  refine Ox.pure rfl rfl (rp_move rfl rfl) ?_
  refine Ox.pure rfl rfl (rp_lenS rfl rfl rfl) ?_
  refine Ox.pure rfl rfl (rp_move rfl rfl) ?_
  refine Ox.nil ?_
  (repeat first | refine thenE_normal ?_ | refine blockE_normal ?_ | refine scopeE_normal ?_)
  (repeat refine Sx.seq ?_); refine Sx.block ?_
  refine Sx.loop (ι := Nat) (fun i E wr => E = [(0, .slice p l.length c), (1, .func (.func g) #[] cap), (7, .int .i64 (l.length : Int)), (8, .int .i64 (i : Int))] ∧ i ≤ l.length ∧ (∀ f ∈ l.take i, q f = false) ∧ Ext [] w wr) (fun i => l.length - i) 0
    (sub_cons rfl (sub_cons rfl (sub_cons rfl (sub_cons rfl sub_nil)))) ⟨rfl, Nat.zero_le _, by simp, by (repeat first | exact .refl _ _ | assumption | refine .trans ?_ (by assumption)); first | done | fail⟩ ?_
  rintro i E wr ⟨rfl, hi, hf, er⟩
  by_cases hlt : i < l.length
  · have hat := rowsV_at fc_len hlt
    have hl8 := fc_len l[i]
    cases hqi : q l[i] with
    | true =>
      (repeat refine Sx.seq ?_)
      refine Sx.textR ?_
      refine Ox.pure rfl rfl (by first | exact rp_bin rfl rfl rfl (binI_t (by omega)) | exact rp_bin rfl rfl rfl (binI_f (by omega)) | exact rp_bin rfl rfl rfl rfl) ?_
      refine Ox.nil ?_
      (repeat first | refine thenE_normal ?_ | refine blockE_normal ?_ | refine scopeE_normal ?_)
      (repeat refine Sx.seq ?_); first | refine Sx.cond_true rfl ?_ | refine Sx.cond rfl (fun _ => ?_) (fun h => absurd h (by simp [*]))
      (repeat refine Sx.seq ?_); refine Sx.skip ?_
      (repeat first | refine thenE_normal ?_ | refine blockE_normal ?_ | refine scopeE_normal ?_)
      (repeat refine Sx.seq ?_); refine Sx.block ?_
      (repeat refine Sx.seq ?_)
      refine Sx.textR ?_
      refine Ox.pure rfl rfl (rp_move rfl rfl) ?_
      refine Ox.pure rfl rfl (rp_assign rfl rfl) ?_
      refine Ox.nil ?_
      (repeat first | refine thenE_normal ?_ | refine blockE_normal ?_ | refine scopeE_normal ?_)
      (repeat refine Sx.seq ?_)
      refine Sx.textR ?_
      refine Ox.pure rfl rfl (rp_move rfl rfl) ?_
      refine Ox.pure rfl rfl (rp_move rfl rfl) ?_
      refine Ox.pure rfl rfl (rp_move rfl rfl) ?_
      refine Ox.pure rfl rfl (rp_indexAddr _ rfl rfl rfl rfl rfl (by assumption) rfl (by first | omega | decide)) ?_
      refine Ox.val rfl rfl (rv_load rfl rfl (by (intro u hu; first | exact Cells.lA (by assumption) (by (repeat first | exact .refl _ _ | assumption | refine .trans ?_ (by assumption)); first | done | fail) rfl rfl | exact Cells.lL (by assumption) (by (repeat first | exact .refl _ _ | assumption | refine .trans ?_ (by assumption)); first | done | fail) rfl rfl (by assumption) | exact Cells.lP (by assumption) (by (repeat first | exact .refl _ _ | assumption | refine .trans ?_ (by assumption)); first | done | fail) _ rfl rfl rfl rfl | exact Cells.lP (by assumption) (by (repeat first | exact .refl _ _ | assumption | refine .trans ?_ (by assumption)); first | done | fail) _ rfl rfl (by assumption) (by assumption)))) ?_
      refine Ox.act rfl rfl (acts_callv rfl rfl rfl hg (hq _ (List.getElem_mem hlt) _ (by (repeat first | exact .refl _ _ | assumption | refine .trans ?_ (by assumption)); first | done | fail))) ?_
      rintro v18 w18 ⟨e18, rfl⟩
      have hz18 := e18.size
      refine Ox.nil ?_
      (repeat first | refine thenE_normal ?_ | refine blockE_normal ?_ | refine scopeE_normal ?_)
      (repeat refine Sx.seq ?_); first | refine Sx.cond_true rfl ?_ | refine Sx.cond rfl (fun _ => ?_) (fun h => absurd h (by simp [*]))
      (repeat refine Sx.seq ?_)
      refine Sx.textR ?_
      refine Ox.pure rfl rfl (rp_move rfl rfl) ?_
      refine Ox.pure rfl rfl (rp_assign rfl rfl) ?_
      refine Ox.nil ?_
      (repeat first | refine thenE_normal ?_ | refine blockE_normal ?_ | refine scopeE_normal ?_)
      (repeat refine Sx.seq ?_); refine Sx.ret ?_
      (repeat first | refine thenE_ret ?_ | refine blockE_ret ?_ | refine scopeE_ret ?_)
      exact endE_ret [_] ⟨rfl, trivial⟩ ⟨by (repeat first | exact .refl _ _ | assumption | refine .trans ?_ (by assumption)); first | done | fail, _, rfl, .inr ⟨i, hlt, rfl, hqi, hf⟩⟩
    | false =>
      (repeat refine Sx.seq ?_)
      refine Sx.textR ?_
      refine Ox.pure rfl rfl (by first | exact rp_bin rfl rfl rfl (binI_t (by omega)) | exact rp_bin rfl rfl rfl (binI_f (by omega)) | exact rp_bin rfl rfl rfl rfl) ?_
      refine Ox.nil ?_
      (repeat first | refine thenE_normal ?_ | refine blockE_normal ?_ | refine scopeE_normal ?_)
      (repeat refine Sx.seq ?_); first | refine Sx.cond_true rfl ?_ | refine Sx.cond rfl (fun _ => ?_) (fun h => absurd h (by simp [*]))
      (repeat refine Sx.seq ?_); refine Sx.skip ?_
      (repeat first | refine thenE_normal ?_ | refine blockE_normal ?_ | refine scopeE_normal ?_)
      (repeat refine Sx.seq ?_); refine Sx.block ?_
      (repeat refine Sx.seq ?_)
      refine Sx.textR ?_
      refine Ox.pure rfl rfl (rp_move rfl rfl) ?_
      refine Ox.pure rfl rfl (rp_assign rfl rfl) ?_
      refine Ox.nil ?_
      (repeat first | refine thenE_normal ?_ | refine blockE_normal ?_ | refine scopeE_normal ?_)
      (repeat refine Sx.seq ?_)
      refine Sx.textR ?_
      refine Ox.pure rfl rfl (rp_move rfl rfl) ?_
      refine Ox.pure rfl rfl (rp_move rfl rfl) ?_
      refine Ox.pure rfl rfl (rp_move rfl rfl) ?_
      refine Ox.pure rfl rfl (rp_indexAddr _ rfl rfl rfl rfl rfl (by assumption) rfl (by first | omega | decide)) ?_
      refine Ox.val rfl rfl (rv_load rfl rfl (by (intro u hu; first | exact Cells.lA (by assumption) (by (repeat first | exact .refl _ _ | assumption | refine .trans ?_ (by assumption)); first | done | fail) rfl rfl | exact Cells.lL (by assumption) (by (repeat first | exact .refl _ _ | assumption | refine .trans ?_ (by assumption)); first | done | fail) rfl rfl (by assumption) | exact Cells.lP (by assumption) (by (repeat first | exact .refl _ _ | assumption | refine .trans ?_ (by assumption)); first | done | fail) _ rfl rfl rfl rfl | exact Cells.lP (by assumption) (by (repeat first | exact .refl _ _ | assumption | refine .trans ?_ (by assumption)); first | done | fail) _ rfl rfl (by assumption) (by assumption)))) ?_
      refine Ox.act rfl rfl (acts_callv rfl rfl rfl hg (hq _ (List.getElem_mem hlt) _ (by (repeat first | exact .refl _ _ | assumption | refine .trans ?_ (by assumption)); first | done | fail))) ?_
      rintro v19 w19 ⟨e19, rfl⟩
      have hz19 := e19.size
      refine Ox.nil ?_
      (repeat first | refine thenE_normal ?_ | refine blockE_normal ?_ | refine scopeE_normal ?_)
      (repeat refine Sx.seq ?_); first | refine Sx.cond_false rfl ?_ | refine Sx.cond rfl (fun h => absurd h (by simp [*])) (fun _ => ?_)
      (repeat refine Sx.seq ?_); refine Sx.skip ?_
      (repeat first | refine thenE_normal ?_ | refine blockE_normal ?_ | refine scopeE_normal ?_)
      (repeat refine Sx.seq ?_)
      refine Sx.textR ?_
      refine Ox.pure rfl rfl (by first | exact rp_bin rfl rfl rfl (binI_fit_add (wrap64 (by omega))) | exact rp_bin rfl rfl rfl rfl) ?_
      refine Ox.pure rfl rfl (rp_move rfl rfl) ?_
      refine Ox.nil ?_
      (repeat first | refine thenE_normal ?_ | refine blockE_normal ?_ | refine scopeE_normal ?_)
      exact ⟨i + 1, _, sub_cons rfl (sub_cons rfl (sub_cons rfl (sub_cons rfl sub_nil))), ⟨rfl, hlt, take_succ_all hlt hf hqi, by (repeat first | exact .refl _ _ | assumption | refine .trans ?_ (by assumption)); first | done | fail⟩, by omega⟩
  · rw [List.take_of_length_le (by omega)] at hf
    (repeat refine Sx.seq ?_)
    refine Sx.textR ?_
    refine Ox.pure rfl rfl (by first | exact rp_bin rfl rfl rfl (binI_t (by omega)) | exact rp_bin rfl rfl rfl (binI_f (by omega)) | exact rp_bin rfl rfl rfl rfl) ?_
    refine Ox.nil ?_
    (repeat first | refine thenE_normal ?_ | refine blockE_normal ?_ | refine scopeE_normal ?_)
    (repeat refine Sx.seq ?_); first | refine Sx.cond_false rfl ?_ | refine Sx.cond rfl (fun h => absurd h (by simp [*])) (fun _ => ?_)
    (repeat refine Sx.seq ?_); refine Sx.exit ?_
    (repeat first | refine thenE_exit ?_ | refine blockE_same ?_ | refine blockE_other rfl ?_ | refine scopeE_exit ?_ | refine thenE_normal ?_ | refine blockE_normal ?_ | refine scopeE_normal ?_)
    (repeat refine Sx.seq ?_)
    refine Sx.textR ?_
    refine Ox.pure rfl rfl (rp_assign rfl rfl) ?_
    refine Ox.nil ?_
    (repeat first | refine thenE_normal ?_ | refine blockE_normal ?_ | refine scopeE_normal ?_)
    (repeat refine Sx.seq ?_); refine Sx.ret ?_
    (repeat first | refine thenE_ret ?_ | refine blockE_ret ?_ | refine scopeE_ret ?_)
    exact endE_ret [_] ⟨rfl, trivial⟩ ⟨by (repeat first | exact .refl _ _ | assumption | refine .trans ?_ (by assumption)); first | done | fail, _, rfl, .inl ⟨rfl, hf⟩⟩

theorem containsFact_at (l : List Fct) (q : Fct → Bool) (g : FuncId) (cap : Array Value) (hg : callable Try.prog g = true) (p : Option Addr) (A : Addr) (c : Nat) (w : World) (hs : SlV fc w p A l c) (hq : Asks w g cap l q) :
    Calls Try.prog 35 #[.slice p l.length c, .func (.func g) #[] cap] w (Ret fun r w' => Ext [] w w' ∧ r = .bool (l.any q)) := by
  refine calls_of_Sx (args := [.slice p l.length c, .func (.func g) #[] cap]) Try.func35 rfl rfl ?_
  (repeat refine Sx.seq ?_)
  refine Sx.textR ?_
  refine Ox.pure rfl rfl (rp_assign rfl rfl) ?_
  refine Ox.nil ?_
  (repeat first | refine thenE_normal ?_ | refine blockE_normal ?_ | refine scopeE_normal ?_)
  (repeat refine Sx.seq ?_)
  refine Sx.textR ?_
  refine Ox.pure rfl rfl (rp_move rfl rfl) ?_
  refine Ox.pure rfl rfl (rp_move rfl rfl) ?_
  refine Ox.act rfl rfl (acts_call rfl rfl rfl (indexFact_at l q g cap hg p A c _ (hs.ext0 (by (repeat first | exact .refl _ _ | assumption | refine .trans ?_ (by assumption)); first | done | fail)) (fun f hf w' he => hq f hf w' (Ext.trans (by (repeat first | exact .refl _ _ | assumption | refine .trans ?_ (by assumption)); first | done | fail) he)))) ?_
  rintro vix wix ⟨eix, k, rfl, hk⟩
  have hzix := eix.size
  refine Ox.pure rfl rfl (by first | exact rp_bin rfl rfl rfl (binI_t (by omega)) | exact rp_bin rfl rfl rfl (binI_f (by omega)) | exact rp_bin rfl rfl rfl rfl) ?_
  refine Ox.pure rfl rfl (rp_assign rfl rfl) ?_
  refine Ox.nil ?_
  (repeat first | refine thenE_normal ?_ | refine blockE_normal ?_ | refine scopeE_normal ?_)
  (repeat refine Sx.seq ?_); refine Sx.ret ?_
  (repeat first | refine thenE_ret ?_ | refine blockE_ret ?_ | refine scopeE_ret ?_)
  exact endE_ret [_] ⟨rfl, trivial⟩ ⟨by (repeat first | exact .refl _ _ | assumption | refine .trans ?_ (by assumption)); first | done | fail, congrArg Value.bool hk.any⟩

theorem check1_at (f : Fct) (w : World) : Calls Try.prog 36 #[.agg (fc f).toArray] w (Ret fun r w' => Ext [] w w' ∧ r = .bool (!decide (Fits f))) := by
  refine calls_of_Sx (args := [.agg (fc f).toArray]) Try.func36 rfl rfl ?_
  (repeat refine Sx.seq ?_)
  refine Sx.textR ?_
  refine Ox.act rfl rfl (acts_box rfl rfl) ?_
  rintro vbx wbx ⟨ebx, bbx, rfl, hbbx, hBbx⟩
  first | (have hCbx : Cells wbx ⟨bbx, 0, none⟩ [_, _, _, _, _, _, _, _] := hBbx.cells) | have hCbx := Blk.cellsL hBbx
  have hlbx := hBbx.lt
  have hzbx := ebx.size
  refine Ox.pure rfl rfl (rp_assign rfl rfl) ?_
  refine Ox.nil ?_
  (repeat first | refine thenE_normal ?_ | refine blockE_normal ?_ | refine scopeE_normal ?_)
  (repeat refine Sx.seq ?_)
  refine Sx.textR ?_
  refine Ox.val rfl rfl (rv_load rfl rfl (by (intro u hu; first | exact Cells.lA (by assumption) (by (repeat first | exact .refl _ _ | assumption | refine .trans ?_ (by assumption)); first | done | fail) rfl rfl | exact Cells.lL (by assumption) (by (repeat first | exact .refl _ _ | assumption | refine .trans ?_ (by assumption)); first | done | fail) rfl rfl (by assumption) | exact Cells.lP (by assumption) (by (repeat first | exact .refl _ _ | assumption | refine .trans ?_ (by assumption)); first | done | fail) _ rfl rfl rfl rfl | exact Cells.lP (by assumption) (by (repeat first | exact .refl _ _ | assumption | refine .trans ?_ (by assumption)); first | done | fail) _ rfl rfl (by assumption) (by assumption)))) ?_
  refine Ox.act rfl rfl (acts_call rfl rfl rfl (fits_at f _)) ?_
  rintro v20 w20 ⟨e20, rfl⟩
  have hz20 := e20.size
  refine Ox.pure rfl rfl (rp_not rfl rfl) ?_
  refine Ox.pure rfl rfl (rp_assign rfl rfl) ?_
  refine Ox.nil ?_
  (repeat first | refine thenE_normal ?_ | refine blockE_normal ?_ | refine scopeE_normal ?_)
  (repeat refine Sx.seq ?_); refine Sx.ret ?_
  (repeat first | refine thenE_ret ?_ | refine blockE_ret ?_ | refine scopeE_ret ?_)
  exact endE_ret [_] ⟨rfl, trivial⟩ ⟨by (repeat first | exact .refl _ _ | assumption | refine .trans ?_ (by assumption)); first | done | fail, rfl⟩

theorem any_notFits (l : List Fct) : l.any (fun f => !decide (Fits f)) = !decide (∀ f ∈ l, Fits f) := by
  by_cases h : ∀ f ∈ l, Fits f
  · rw [decide_eq_true h, Bool.not_true, Bool.eq_false_iff]
    intro ht
    obtain ⟨f, h1, h2⟩ := List.any_eq_true.1 ht
    simp [h f h1] at h2
  · rw [decide_eq_false h]
    simp only [Bool.not_false, List.any_eq_true]
    exact Classical.byContradiction fun hn => h fun f hf => Classical.byContradiction fun h2 => hn ⟨f, hf, by simp [h2]⟩

theorem check_at (l : List Fct) (p : Option Addr) (A : Addr) (c : Nat) (w : World) (hs : SlV fc w p A l c) : Calls Try.prog 19 #[.slice p l.length c] w (Ret fun r w' => Ext [] w w' ∧ r = .int .i64 (checkL l)) := by
  have hfew := hs.few
  have hp := hs.ptr
  have hrow := hs.row
  have hle := hs.le
  have hsm := hs.small
  refine calls_of_Sx (args := [.slice p l.length c]) Try.func19 rfl rfl ?_
  by_cases hall : ∀ f ∈ l, Fits f
  · (repeat refine Sx.seq ?_)
    refine Sx.textR ?_
    refine Ox.pure rfl rfl (rp_assign rfl rfl) ?_
    refine Ox.nil ?_
    (repeat first | refine thenE_normal ?_ | refine blockE_normal ?_ | refine scopeE_normal ?_)
    (repeat refine Sx.seq ?_)
    refine Sx.textR ?_
    refine Ox.pure rfl rfl (rp_move rfl rfl) ?_
    refine Ox.act rfl rfl (acts_call rfl rfl rfl (containsFact_at l (fun f => !decide (Fits f)) 36 #[] rfl p A c _ (hs.ext0 (by (repeat first | exact .refl _ _ | assumption | refine .trans ?_ (by assumption)); first | done | fail)) (fun f _ w' _ => check1_at f w'))) ?_
    rintro v21 w21 ⟨e21, rfl⟩
    have hz21 := e21.size
    rw [any_notFits]
    rw [decide_eq_true hall]
    refine Ox.nil ?_
    (repeat first | refine thenE_normal ?_ | refine blockE_normal ?_ | refine scopeE_normal ?_)
    (repeat refine Sx.seq ?_); first | refine Sx.cond_false rfl ?_ | refine Sx.cond rfl (fun h => absurd h (by simp [*])) (fun _ => ?_)
    (repeat refine Sx.seq ?_); refine Sx.skip ?_
    (repeat first | refine thenE_normal ?_ | refine blockE_normal ?_ | refine scopeE_normal ?_)
    (repeat refine Sx.seq ?_)
    refine Sx.textR ?_
    refine Ox.pure rfl rfl (rp_move rfl rfl) ?_
    refine Ox.pure rfl rfl (rp_move rfl rfl) ?_
    refine Ox.pure rfl rfl (rp_lenS rfl rfl rfl) ?_
    refine Ox.pure rfl rfl ((show (min (1 : Int) (l.length : Int) = ((min 1 l.length : Nat) : Int)) by omega) ▸ rp_min rfl rfl rfl) ?_
    refine Ox.pure rfl rfl (rp_sliceS (min 1 l.length) l.length rfl rfl rfl rfl rfl rfl (.inr ⟨_, rfl⟩) (.inl ⟨rfl, rfl⟩) (by omega) hle) ?_
    refine Ox.pure rfl rfl (rp_lenS rfl rfl rfl) ?_
    refine Ox.pure rfl rfl (rp_move rfl rfl) ?_
    refine Ox.nil ?_
    (repeat first | refine thenE_normal ?_ | refine blockE_normal ?_ | refine scopeE_normal ?_)
    (repeat refine Sx.seq ?_); refine Sx.block ?_
    refine Sx.loop (ι := Nat) (fun i E wr => E = [(0, .slice p l.length c), (11, .int .i64 ((l.length - min 1 l.length : Nat) : Int)), (12, .int .i64 (i : Int))] ∧ i ≤ l.length - 1 ∧ (∀ j (h : j < l.length - 1), j < i → before (l[j]'(by omega)) (l[j + 1]'(by omega))) ∧ Ext [] w wr) (fun i => l.length - i) 0
      (sub_cons rfl (sub_cons rfl (sub_cons rfl sub_nil))) ⟨rfl, Nat.zero_le _, fun j _ hj => absurd hj (by omega), by (repeat first | exact .refl _ _ | assumption | refine .trans ?_ (by assumption)); first | done | fail⟩ ?_
    rintro i E wr ⟨rfl, hi, hf, er⟩
    by_cases hlt : i < l.length - 1
    · have hi1 : i < l.length := by omega
      have hi2 : i + 1 < l.length := by omega
      have hat1 := rowsV_at fc_len hi1
      have hat2 := rowsV_at fc_len hi2
      have hl81 := fc_len l[i]
      have hl82 := fc_len l[i + 1]
      have hge := cmpF_ge l[i] l[i + 1]
      by_cases hb : before l[i] l[i + 1]
      · have hneg : ¬ 0 ≤ cmpF l[i] l[i + 1] := fun h => hge.1 h hb
        (repeat refine Sx.seq ?_)
        refine Sx.textR ?_
        refine Ox.pure rfl rfl (by first | exact rp_bin rfl rfl rfl (binI_t (by omega)) | exact rp_bin rfl rfl rfl (binI_f (by omega)) | exact rp_bin rfl rfl rfl rfl) ?_
        refine Ox.nil ?_
        (repeat first | refine thenE_normal ?_ | refine blockE_normal ?_ | refine scopeE_normal ?_)
        (repeat refine Sx.seq ?_); first | refine Sx.cond_true rfl ?_ | refine Sx.cond rfl (fun _ => ?_) (fun h => absurd h (by simp [*]))
        (repeat refine Sx.seq ?_); refine Sx.skip ?_
        (repeat first | refine thenE_normal ?_ | refine blockE_normal ?_ | refine scopeE_normal ?_)
        (repeat refine Sx.seq ?_); refine Sx.block ?_
        (repeat refine Sx.seq ?_)
        refine Sx.textR ?_
        refine Ox.pure rfl rfl (rp_move rfl rfl) ?_
        refine Ox.pure rfl rfl (rp_assign rfl rfl) ?_
        refine Ox.nil ?_
        (repeat first | refine thenE_normal ?_ | refine blockE_normal ?_ | refine scopeE_normal ?_)
        (repeat refine Sx.seq ?_)
        refine Sx.walkR rfl (fun _ _ _ _ h => h) [0, 1, 2, 3, 4, 5, 6, 7, 8, 9, 10] [0, 1, 2, 3, 4, 5, 6, 7, 8, 10] (0) (by kernel_rfl) ?_
        intro hq w22 e22; have hz22 := e22.size
        refine Wx.pure hq rfl rfl rfl rfl (rp_move rfl rfl) ?_
        refine Wx.pure hq rfl rfl rfl rfl (rp_move rfl rfl) ?_
        refine Wx.pure hq rfl rfl rfl rfl (rp_indexAddr _ rfl rfl rfl rfl rfl (by assumption) rfl (by first | omega | decide)) ?_
        refine Wx.val hq rfl rfl rfl rfl ([]) (rv_load rfl rfl (by (intro u hu; first | exact Cells.lA (by assumption) (by (repeat first | exact .refl _ _ | assumption | refine .trans ?_ (by assumption)); first | done | fail) rfl rfl | exact Cells.lL (by assumption) (by (repeat first | exact .refl _ _ | assumption | refine .trans ?_ (by assumption)); first | done | fail) rfl rfl (by assumption) | exact Cells.lP (by assumption) (by (repeat first | exact .refl _ _ | assumption | refine .trans ?_ (by assumption)); first | done | fail) _ rfl rfl rfl rfl | exact Cells.lP (by assumption) (by (repeat first | exact .refl _ _ | assumption | refine .trans ?_ (by assumption)); first | done | fail) _ rfl rfl (by assumption) (by assumption)))) ?_
        refine Wx.pure hq rfl rfl rfl rfl (rp_move rfl rfl) ?_
        refine Wx.pure hq rfl rfl rfl rfl (rp_move rfl rfl) ?_
        refine Wx.pure hq rfl rfl rfl rfl (by first | exact rp_bin rfl rfl rfl (binI_fit_add (wrap64 (by omega))) | exact rp_bin rfl rfl rfl rfl) ?_
        refine Wx.pure hq rfl rfl rfl rfl (rp_indexAddr (i + 1) rfl rfl rfl rfl rfl (by assumption) (by omega) (by omega)) ?_
        refine Wx.val hq rfl rfl rfl rfl ([]) (rv_load rfl rfl (by (intro u hu; first | exact Cells.lA (by assumption) (by (repeat first | exact .refl _ _ | assumption | refine .trans ?_ (by assumption)); first | done | fail) rfl rfl | exact Cells.lL (by assumption) (by (repeat first | exact .refl _ _ | assumption | refine .trans ?_ (by assumption)); first | done | fail) rfl rfl (by assumption) | exact Cells.lP (by assumption) (by (repeat first | exact .refl _ _ | assumption | refine .trans ?_ (by assumption)); first | done | fail) _ rfl rfl rfl rfl | exact Cells.lP (by assumption) (by (repeat first | exact .refl _ _ | assumption | refine .trans ?_ (by assumption)); first | done | fail) _ rfl rfl (by assumption) (by assumption)))) ?_
        refine Wx.actNew rfl rfl rfl rfl (acts_call rfl rfl rfl (compare_at l[i] l[i + 1] _)) ?_
        rintro v23 w23 e23 rfl
        have hz23 := e23.size
        refine Wx.pure hq rfl rfl rfl rfl (by first | exact rp_bin rfl rfl rfl (binI_t (by omega)) | exact rp_bin rfl rfl rfl (binI_f (by omega)) | exact rp_bin rfl rfl rfl rfl) ?_
        refine Wx.nil ?_
        (repeat first | refine thenE_normal ?_ | refine blockE_normal ?_ | refine scopeE_normal ?_)
        (repeat refine Sx.seq ?_); first | refine Sx.cond_false rfl ?_ | refine Sx.cond rfl (fun h => absurd h (by simp [*])) (fun _ => ?_)
        (repeat refine Sx.seq ?_); refine Sx.skip ?_
        (repeat first | refine thenE_normal ?_ | refine blockE_normal ?_ | refine scopeE_normal ?_)
        (repeat refine Sx.seq ?_)
        refine Sx.textR ?_
        refine Ox.pure rfl rfl (by first | exact rp_bin rfl rfl rfl (binI_fit_add (wrap64 (by omega))) | exact rp_bin rfl rfl rfl rfl) ?_
        refine Ox.pure rfl rfl (rp_move rfl rfl) ?_
        refine Ox.nil ?_
        (repeat first | refine thenE_normal ?_ | refine blockE_normal ?_ | refine scopeE_normal ?_)
        refine ⟨i + 1, _, sub_cons rfl (sub_cons rfl (sub_cons rfl sub_nil)), ⟨rfl, by omega, fun j hj hji => ?_, by (repeat first | exact .refl _ _ | assumption | refine .trans ?_ (by assumption)); first | done | fail⟩, by omega⟩
        by_cases hjj : j = i
        · subst hjj; exact hb
        · exact hf j hj (by omega)
      · have hpos : 0 ≤ cmpF l[i] l[i + 1] := hge.2 hb
        (repeat refine Sx.seq ?_)
        refine Sx.textR ?_
        refine Ox.pure rfl rfl (by first | exact rp_bin rfl rfl rfl (binI_t (by omega)) | exact rp_bin rfl rfl rfl (binI_f (by omega)) | exact rp_bin rfl rfl rfl rfl) ?_
        refine Ox.nil ?_
        (repeat first | refine thenE_normal ?_ | refine blockE_normal ?_ | refine scopeE_normal ?_)
        (repeat refine Sx.seq ?_); first | refine Sx.cond_true rfl ?_ | refine Sx.cond rfl (fun _ => ?_) (fun h => absurd h (by simp [*]))
        (repeat refine Sx.seq ?_); refine Sx.skip ?_
        (repeat first | refine thenE_normal ?_ | refine blockE_normal ?_ | refine scopeE_normal ?_)
        (repeat refine Sx.seq ?_); refine Sx.block ?_
        (repeat refine Sx.seq ?_)
        refine Sx.textR ?_
        refine Ox.pure rfl rfl (rp_move rfl rfl) ?_
        refine Ox.pure rfl rfl (rp_assign rfl rfl) ?_
        refine Ox.nil ?_
        (repeat first | refine thenE_normal ?_ | refine blockE_normal ?_ | refine scopeE_normal ?_)
        (repeat refine Sx.seq ?_)
        refine Sx.walkR rfl (fun _ _ _ _ h => h) [0, 1, 2, 3, 4, 5, 6, 7, 8, 9, 10] [0, 1, 2, 3, 4, 5, 6, 7, 8, 10] (0) (by kernel_rfl) ?_
        intro hq w24 e24; have hz24 := e24.size
        refine Wx.pure hq rfl rfl rfl rfl (rp_move rfl rfl) ?_
        refine Wx.pure hq rfl rfl rfl rfl (rp_move rfl rfl) ?_
        refine Wx.pure hq rfl rfl rfl rfl (rp_indexAddr _ rfl rfl rfl rfl rfl (by assumption) rfl (by first | omega | decide)) ?_
        refine Wx.val hq rfl rfl rfl rfl ([]) (rv_load rfl rfl (by (intro u hu; first | exact Cells.lA (by assumption) (by (repeat first | exact .refl _ _ | assumption | refine .trans ?_ (by assumption)); first | done | fail) rfl rfl | exact Cells.lL (by assumption) (by (repeat first | exact .refl _ _ | assumption | refine .trans ?_ (by assumption)); first | done | fail) rfl rfl (by assumption) | exact Cells.lP (by assumption) (by (repeat first | exact .refl _ _ | assumption | refine .trans ?_ (by assumption)); first | done | fail) _ rfl rfl rfl rfl | exact Cells.lP (by assumption) (by (repeat first | exact .refl _ _ | assumption | refine .trans ?_ (by assumption)); first | done | fail) _ rfl rfl (by assumption) (by assumption)))) ?_
        refine Wx.pure hq rfl rfl rfl rfl (rp_move rfl rfl) ?_
        refine Wx.pure hq rfl rfl rfl rfl (rp_move rfl rfl) ?_
        refine Wx.pure hq rfl rfl rfl rfl (by first | exact rp_bin rfl rfl rfl (binI_fit_add (wrap64 (by omega))) | exact rp_bin rfl rfl rfl rfl) ?_
        refine Wx.pure hq rfl rfl rfl rfl (rp_indexAddr (i + 1) rfl rfl rfl rfl rfl (by assumption) (by omega) (by omega)) ?_
        refine Wx.val hq rfl rfl rfl rfl ([]) (rv_load rfl rfl (by (intro u hu; first | exact Cells.lA (by assumption) (by (repeat first | exact .refl _ _ | assumption | refine .trans ?_ (by assumption)); first | done | fail) rfl rfl | exact Cells.lL (by assumption) (by (repeat first | exact .refl _ _ | assumption | refine .trans ?_ (by assumption)); first | done | fail) rfl rfl (by assumption) | exact Cells.lP (by assumption) (by (repeat first | exact .refl _ _ | assumption | refine .trans ?_ (by assumption)); first | done | fail) _ rfl rfl rfl rfl | exact Cells.lP (by assumption) (by (repeat first | exact .refl _ _ | assumption | refine .trans ?_ (by assumption)); first | done | fail) _ rfl rfl (by assumption) (by assumption)))) ?_
        refine Wx.actNew rfl rfl rfl rfl (acts_call rfl rfl rfl (compare_at l[i] l[i + 1] _)) ?_
        rintro v25 w25 e25 rfl
        have hz25 := e25.size
        refine Wx.pure hq rfl rfl rfl rfl (by first | exact rp_bin rfl rfl rfl (binI_t (by omega)) | exact rp_bin rfl rfl rfl (binI_f (by omega)) | exact rp_bin rfl rfl rfl rfl) ?_
        refine Wx.nil ?_
        (repeat first | refine thenE_normal ?_ | refine blockE_normal ?_ | refine scopeE_normal ?_)
        (repeat refine Sx.seq ?_); first | refine Sx.cond_true rfl ?_ | refine Sx.cond rfl (fun _ => ?_) (fun h => absurd h (by simp [*]))
        (repeat refine Sx.seq ?_)
        refine Sx.textR ?_
        refine Ox.pure rfl rfl (rp_assign rfl rfl) ?_
        refine Ox.nil ?_
        (repeat first | refine thenE_normal ?_ | refine blockE_normal ?_ | refine scopeE_normal ?_)
        (repeat refine Sx.seq ?_); refine Sx.ret ?_
        (repeat first | refine thenE_ret ?_ | refine blockE_ret ?_ | refine scopeE_ret ?_)
        exact endE_ret [_] ⟨rfl, trivial⟩ ⟨by (repeat first | exact .refl _ _ | assumption | refine .trans ?_ (by assumption)); first | done | fail, by rw [checkL, if_pos hall, if_neg (fun h => hb (h i hlt))]; rfl⟩
    · (repeat refine Sx.seq ?_)
      refine Sx.textR ?_
      refine Ox.pure rfl rfl (by first | exact rp_bin rfl rfl rfl (binI_t (by omega)) | exact rp_bin rfl rfl rfl (binI_f (by omega)) | exact rp_bin rfl rfl rfl rfl) ?_
      refine Ox.nil ?_
      (repeat first | refine thenE_normal ?_ | refine blockE_normal ?_ | refine scopeE_normal ?_)
      (repeat refine Sx.seq ?_); first | refine Sx.cond_false rfl ?_ | refine Sx.cond rfl (fun h => absurd h (by simp [*])) (fun _ => ?_)
      (repeat refine Sx.seq ?_); refine Sx.exit ?_
      (repeat first | refine thenE_exit ?_ | refine blockE_same ?_ | refine blockE_other rfl ?_ | refine scopeE_exit ?_ | refine thenE_normal ?_ | refine blockE_normal ?_ | refine scopeE_normal ?_)
      (repeat refine Sx.seq ?_)
      refine Sx.textR ?_
      refine Ox.pure rfl rfl (rp_assign rfl rfl) ?_
      refine Ox.nil ?_
      (repeat first | refine thenE_normal ?_ | refine blockE_normal ?_ | refine scopeE_normal ?_)
      (repeat refine Sx.seq ?_); refine Sx.ret ?_
      (repeat first | refine thenE_ret ?_ | refine blockE_ret ?_ | refine scopeE_ret ?_)
      exact endE_ret [_] ⟨rfl, trivial⟩ ⟨by (repeat first | exact .refl _ _ | assumption | refine .trans ?_ (by assumption)); first | done | fail, by rw [checkL, if_pos hall, if_pos (show Risen l from fun j hj => hf j hj (by omega))]; rfl⟩
  · (repeat refine Sx.seq ?_)
    refine Sx.textR ?_
    refine Ox.pure rfl rfl (rp_assign rfl rfl) ?_
    refine Ox.nil ?_
    (repeat first | refine thenE_normal ?_ | refine blockE_normal ?_ | refine scopeE_normal ?_)
    (repeat refine Sx.seq ?_)
    refine Sx.textR ?_
    refine Ox.pure rfl rfl (rp_move rfl rfl) ?_
    refine Ox.act rfl rfl (acts_call rfl rfl rfl (containsFact_at l (fun f => !decide (Fits f)) 36 #[] rfl p A c _ (hs.ext0 (by (repeat first | exact .refl _ _ | assumption | refine .trans ?_ (by assumption)); first | done | fail)) (fun f _ w' _ => check1_at f w'))) ?_
    rintro v26 w26 ⟨e26, rfl⟩
    have hz26 := e26.size
    rw [any_notFits]
    rw [decide_eq_false hall]
    refine Ox.nil ?_
    (repeat first | refine thenE_normal ?_ | refine blockE_normal ?_ | refine scopeE_normal ?_)
    (repeat refine Sx.seq ?_); first | refine Sx.cond_true rfl ?_ | refine Sx.cond rfl (fun _ => ?_) (fun h => absurd h (by simp [*]))
    (repeat refine Sx.seq ?_)
    refine Sx.textR ?_
    refine Ox.pure rfl rfl (rp_assign rfl rfl) ?_
    refine Ox.nil ?_
    (repeat first | refine thenE_normal ?_ | refine blockE_normal ?_ | refine scopeE_normal ?_)
    (repeat refine Sx.seq ?_); refine Sx.ret ?_
    (repeat first | refine thenE_ret ?_ | refine blockE_ret ?_ | refine scopeE_ret ?_)
    exact endE_ret [_] ⟨rfl, trivial⟩ ⟨by (repeat first | exact .refl _ _ | assumption | refine .trans ?_ (by assumption)); first | done | fail, by rw [checkL, if_neg hall]; rfl⟩

theorem ref_Check (l : List Fct) (p : Option Addr) (A : Addr) (c : Nat) (w : World) (hs : SlV fc w p A l c) : Calls Try.prog 26 #[.slice p l.length c] w (Ret fun r w' => Ext [] w w' ∧ r = .int .i64 (checkL l)) := by
  have hfew := hs.few
  have hp := hs.ptr
  have hrow := hs.row
  refine calls_of_Sx (args := [.slice p l.length c]) Try.func26 rfl rfl ?_
  (repeat refine Sx.seq ?_)
  refine Sx.textR ?_
  refine Ox.pure rfl rfl (rp_assign rfl rfl) ?_
  refine Ox.nil ?_
  (repeat first | refine thenE_normal ?_ | refine blockE_normal ?_ | refine scopeE_normal ?_)
  (repeat refine Sx.seq ?_)
  refine Sx.textR ?_
  refine Ox.pure rfl rfl (rp_assign rfl rfl) ?_
  refine Ox.nil ?_
  (repeat first | refine thenE_normal ?_ | refine blockE_normal ?_ | refine scopeE_normal ?_)
  refine Sx.upto (fun E' w' => (∀ t v, get [(0, .slice p l.length c)] t = some v → get E' t = some v) ∧ Ext [] w w' ∧ ∀ f ∈ l, Fits f) ?_ ?_
  · (repeat refine Sx.seq ?_); refine Sx.block ?_
    refine Sx.loop (ι := Nat) (fun i E wr => E = [(0, .slice p l.length c), (3, .int .i64 (i : Int))] ∧ i ≤ l.length ∧ (∀ f ∈ l.take i, Fits f) ∧ Ext [] w wr) (fun i => l.length - i) 0
      (sub_cons rfl (sub_cons rfl sub_nil)) ⟨rfl, Nat.zero_le _, by simp, by (repeat first | exact .refl _ _ | assumption | refine .trans ?_ (by assumption)); first | done | fail⟩ ?_
    rintro i E wr ⟨rfl, hi, hf, er⟩
    by_cases hlt : i < l.length
    · have hat := rowsV_at fc_len hlt
      have hl8 := fc_len l[i]
      by_cases hv : Fits l[i]
      · (repeat refine Sx.seq ?_)
        refine Sx.textR ?_
        refine Ox.pure rfl rfl (rp_move rfl rfl) ?_
        refine Ox.pure rfl rfl (rp_move rfl rfl) ?_
        refine Ox.pure rfl rfl (rp_lenS rfl rfl rfl) ?_
        refine Ox.pure rfl rfl (by first | exact rp_bin rfl rfl rfl (binI_t (by omega)) | exact rp_bin rfl rfl rfl (binI_f (by omega)) | exact rp_bin rfl rfl rfl rfl) ?_
        refine Ox.nil ?_
        (repeat first | refine thenE_normal ?_ | refine blockE_normal ?_ | refine scopeE_normal ?_)
        (repeat refine Sx.seq ?_); first | refine Sx.cond_true rfl ?_ | refine Sx.cond rfl (fun _ => ?_) (fun h => absurd h (by simp [*]))
        (repeat refine Sx.seq ?_); refine Sx.skip ?_
        (repeat first | refine thenE_normal ?_ | refine blockE_normal ?_ | refine scopeE_normal ?_)
        (repeat refine Sx.seq ?_); refine Sx.block ?_
        (repeat refine Sx.seq ?_)
        refine Sx.textR ?_
        refine Ox.pure rfl rfl (rp_move rfl rfl) ?_
        refine Ox.pure rfl rfl (rp_move rfl rfl) ?_
        refine Ox.pure rfl rfl (rp_indexAddr _ rfl rfl rfl rfl rfl (by assumption) rfl (by first | omega | decide)) ?_
        refine Ox.val rfl rfl (rv_load rfl rfl (by (intro u hu; first | exact Cells.lA (by assumption) (by (repeat first | exact .refl _ _ | assumption | refine .trans ?_ (by assumption)); first | done | fail) rfl rfl | exact Cells.lL (by assumption) (by (repeat first | exact .refl _ _ | assumption | refine .trans ?_ (by assumption)); first | done | fail) rfl rfl (by assumption) | exact Cells.lP (by assumption) (by (repeat first | exact .refl _ _ | assumption | refine .trans ?_ (by assumption)); first | done | fail) _ rfl rfl rfl rfl | exact Cells.lP (by assumption) (by (repeat first | exact .refl _ _ | assumption | refine .trans ?_ (by assumption)); first | done | fail) _ rfl rfl (by assumption) (by assumption)))) ?_
        refine Ox.act rfl rfl (acts_call rfl rfl rfl (ref_Valid l[i] _)) ?_
        rintro v27 w27 ⟨e27, rfl⟩
        have hz27 := e27.size
        rw [decide_eq_true hv]
        refine Ox.pure rfl rfl (rp_not rfl rfl) ?_
        refine Ox.nil ?_
        (repeat first | refine thenE_normal ?_ | refine blockE_normal ?_ | refine scopeE_normal ?_)
        (repeat refine Sx.seq ?_); first | refine Sx.cond_false rfl ?_ | refine Sx.cond rfl (fun h => absurd h (by simp [*])) (fun _ => ?_)
        (repeat refine Sx.seq ?_); refine Sx.skip ?_
        (repeat first | refine thenE_normal ?_ | refine blockE_normal ?_ | refine scopeE_normal ?_)
        (repeat refine Sx.seq ?_)
        refine Sx.textR ?_
        refine Ox.pure rfl rfl (rp_move rfl rfl) ?_
        refine Ox.pure rfl rfl (by first | exact rp_bin rfl rfl rfl (binI_fit_add (wrap64 (by omega))) | exact rp_bin rfl rfl rfl rfl) ?_
        refine Ox.pure rfl rfl (rp_assign rfl rfl) ?_
        refine Ox.nil ?_
        (repeat first | refine thenE_normal ?_ | refine blockE_normal ?_ | refine scopeE_normal ?_)
        refine ⟨i + 1, _, sub_cons rfl (sub_cons rfl sub_nil), ⟨rfl, hlt, ?_, by (repeat first | exact .refl _ _ | assumption | refine .trans ?_ (by assumption)); first | done | fail⟩, by omega⟩
        rw [← List.take_append_getElem hlt]
        intro f hm
        rcases List.mem_append.1 hm with h3 | h3
        · exact hf f h3
        · rw [List.mem_singleton.1 h3]; exact hv
      · (repeat refine Sx.seq ?_)
        refine Sx.textR ?_
        refine Ox.pure rfl rfl (rp_move rfl rfl) ?_
        refine Ox.pure rfl rfl (rp_move rfl rfl) ?_
        refine Ox.pure rfl rfl (rp_lenS rfl rfl rfl) ?_
        refine Ox.pure rfl rfl (by first | exact rp_bin rfl rfl rfl (binI_t (by omega)) | exact rp_bin rfl rfl rfl (binI_f (by omega)) | exact rp_bin rfl rfl rfl rfl) ?_
        refine Ox.nil ?_
        (repeat first | refine thenE_normal ?_ | refine blockE_normal ?_ | refine scopeE_normal ?_)
        (repeat refine Sx.seq ?_); first | refine Sx.cond_true rfl ?_ | refine Sx.cond rfl (fun _ => ?_) (fun h => absurd h (by simp [*]))
        (repeat refine Sx.seq ?_); refine Sx.skip ?_
        (repeat first | refine thenE_normal ?_ | refine blockE_normal ?_ | refine scopeE_normal ?_)
        (repeat refine Sx.seq ?_); refine Sx.block ?_
        (repeat refine Sx.seq ?_)
        refine Sx.textR ?_
        refine Ox.pure rfl rfl (rp_move rfl rfl) ?_
        refine Ox.pure rfl rfl (rp_move rfl rfl) ?_
        refine Ox.pure rfl rfl (rp_indexAddr _ rfl rfl rfl rfl rfl (by assumption) rfl (by first | omega | decide)) ?_
        refine Ox.val rfl rfl (rv_load rfl rfl (by (intro u hu; first | exact Cells.lA (by assumption) (by (repeat first | exact .refl _ _ | assumption | refine .trans ?_ (by assumption)); first | done | fail) rfl rfl | exact Cells.lL (by assumption) (by (repeat first | exact .refl _ _ | assumption | refine .trans ?_ (by assumption)); first | done | fail) rfl rfl (by assumption) | exact Cells.lP (by assumption) (by (repeat first | exact .refl _ _ | assumption | refine .trans ?_ (by assumption)); first | done | fail) _ rfl rfl rfl rfl | exact Cells.lP (by assumption) (by (repeat first | exact .refl _ _ | assumption | refine .trans ?_ (by assumption)); first | done | fail) _ rfl rfl (by assumption) (by assumption)))) ?_
        refine Ox.act rfl rfl (acts_call rfl rfl rfl (ref_Valid l[i] _)) ?_
        rintro v28 w28 ⟨e28, rfl⟩
        have hz28 := e28.size
        rw [decide_eq_false hv]
        refine Ox.pure rfl rfl (rp_not rfl rfl) ?_
        refine Ox.nil ?_
        (repeat first | refine thenE_normal ?_ | refine blockE_normal ?_ | refine scopeE_normal ?_)
        (repeat refine Sx.seq ?_); first | refine Sx.cond_true rfl ?_ | refine Sx.cond rfl (fun _ => ?_) (fun h => absurd h (by simp [*]))
        (repeat refine Sx.seq ?_)
        refine Sx.textR ?_
        refine Ox.pure rfl rfl (rp_assign rfl rfl) ?_
        refine Ox.nil ?_
        (repeat first | refine thenE_normal ?_ | refine blockE_normal ?_ | refine scopeE_normal ?_)
        (repeat refine Sx.seq ?_); refine Sx.ret ?_
        (repeat first | refine thenE_ret ?_ | refine blockE_ret ?_ | refine scopeE_ret ?_)
        exact endE_ret [_] ⟨rfl, trivial⟩ ⟨by (repeat first | exact .refl _ _ | assumption | refine .trans ?_ (by assumption)); first | done | fail, by rw [checkL, if_neg (fun h => hv (h _ (List.getElem_mem hlt)))]; rfl⟩
    · rw [List.take_of_length_le (by omega)] at hf
      (repeat refine Sx.seq ?_)
      refine Sx.textR ?_
      refine Ox.pure rfl rfl (rp_move rfl rfl) ?_
      refine Ox.pure rfl rfl (rp_move rfl rfl) ?_
      refine Ox.pure rfl rfl (rp_lenS rfl rfl rfl) ?_
      refine Ox.pure rfl rfl (by first | exact rp_bin rfl rfl rfl (binI_t (by omega)) | exact rp_bin rfl rfl rfl (binI_f (by omega)) | exact rp_bin rfl rfl rfl rfl) ?_
      refine Ox.nil ?_
      (repeat first | refine thenE_normal ?_ | refine blockE_normal ?_ | refine scopeE_normal ?_)
      (repeat refine Sx.seq ?_); first | refine Sx.cond_false rfl ?_ | refine Sx.cond rfl (fun h => absurd h (by simp [*])) (fun _ => ?_)
      (repeat refine Sx.seq ?_); refine Sx.exit ?_
      (repeat first | refine thenE_exit ?_ | refine blockE_same ?_ | refine blockE_other rfl ?_ | refine scopeE_exit ?_ | refine thenE_normal ?_ | refine blockE_normal ?_ | refine scopeE_normal ?_)
      exact ⟨sub_cons rfl sub_nil, by (repeat first | exact .refl _ _ | assumption | refine .trans ?_ (by assumption)); first | done | fail, hf⟩
  · rintro E' wa ⟨hsub, ea, hall⟩
    refine thenE_normal (Sx.weaken ?_ hsub)
    (repeat refine Sx.seq ?_)
    refine Sx.textR ?_
    refine Ox.pure rfl rfl (rp_assign rfl rfl) ?_
    refine Ox.nil ?_
    (repeat first | refine thenE_normal ?_ | refine blockE_normal ?_ | refine scopeE_normal ?_)
    (repeat refine Sx.seq ?_); refine Sx.block ?_
    refine Sx.loop (ι := Nat) (fun i E wr => E = [(0, .slice p l.length c), (4, .int .i64 ((i + 1 : Nat) : Int))] ∧ i ≤ l.length ∧ (∀ j (h : j < l.length - 1), j < i → before (l[j]'(by omega)) (l[j + 1]'(by omega))) ∧ Ext [] wa wr) (fun i => l.length - i) 0
      (sub_cons rfl (sub_cons rfl sub_nil)) ⟨rfl, Nat.zero_le _, fun j _ hj => absurd hj (by omega), by (repeat first | exact .refl _ _ | assumption | refine .trans ?_ (by assumption)); first | done | fail⟩ ?_
    rintro i E wr ⟨rfl, hi, hf, er⟩
    by_cases hlt : i + 1 < l.length
    · have hi1 : i < l.length := by omega
      have hat1 := rowsV_at fc_len hi1
      have hat2 := rowsV_at fc_len hlt
      have hl81 := fc_len l[i]
      have hl82 := fc_len l[i + 1]
      by_cases hb : before l[i] l[i + 1]
      · (repeat refine Sx.seq ?_)
        refine Sx.textR ?_
        refine Ox.pure rfl rfl (rp_move rfl rfl) ?_
        refine Ox.pure rfl rfl (rp_move rfl rfl) ?_
        refine Ox.pure rfl rfl (rp_lenS rfl rfl rfl) ?_
        refine Ox.pure rfl rfl (by first | exact rp_bin rfl rfl rfl (binI_t (by omega)) | exact rp_bin rfl rfl rfl (binI_f (by omega)) | exact rp_bin rfl rfl rfl rfl) ?_
        refine Ox.nil ?_
        (repeat first | refine thenE_normal ?_ | refine blockE_normal ?_ | refine scopeE_normal ?_)
        (repeat refine Sx.seq ?_); first | refine Sx.cond_true rfl ?_ | refine Sx.cond rfl (fun _ => ?_) (fun h => absurd h (by simp [*]))
        (repeat refine Sx.seq ?_); refine Sx.skip ?_
        (repeat first | refine thenE_normal ?_ | refine blockE_normal ?_ | refine scopeE_normal ?_)
        (repeat refine Sx.seq ?_); refine Sx.block ?_
        (repeat refine Sx.seq ?_)
        refine Sx.walkR rfl (fun _ _ _ _ h => h) [0, 1, 2, 3, 4, 5, 6, 7, 8, 9, 10] [0, 1, 2, 3, 4, 5, 6, 7, 8, 10] (0) (by kernel_rfl) ?_
        intro hq w29 e29; have hz29 := e29.size
        refine Wx.pure hq rfl rfl rfl rfl (rp_move rfl rfl) ?_
        refine Wx.pure hq rfl rfl rfl rfl (rp_move rfl rfl) ?_
        refine Wx.pure hq rfl rfl rfl rfl (by first | exact rp_bin rfl rfl rfl (binI_fit_sub (wrap64 (by omega))) | exact rp_bin rfl rfl rfl rfl) ?_
        refine Wx.pure hq rfl rfl rfl rfl (rp_indexAddr i rfl rfl rfl rfl rfl (by assumption) (by omega) (by omega)) ?_
        refine Wx.val hq rfl rfl rfl rfl ([]) (rv_load rfl rfl (by (intro u hu; first | exact Cells.lA (by assumption) (by (repeat first | exact .refl _ _ | assumption | refine .trans ?_ (by assumption)); first | done | fail) rfl rfl | exact Cells.lL (by assumption) (by (repeat first | exact .refl _ _ | assumption | refine .trans ?_ (by assumption)); first | done | fail) rfl rfl (by assumption) | exact Cells.lP (by assumption) (by (repeat first | exact .refl _ _ | assumption | refine .trans ?_ (by assumption)); first | done | fail) _ rfl rfl rfl rfl | exact Cells.lP (by assumption) (by (repeat first | exact .refl _ _ | assumption | refine .trans ?_ (by assumption)); first | done | fail) _ rfl rfl (by assumption) (by assumption)))) ?_
        refine Wx.pure hq rfl rfl rfl rfl (rp_move rfl rfl) ?_
        refine Wx.pure hq rfl rfl rfl rfl (rp_move rfl rfl) ?_
        refine Wx.pure hq rfl rfl rfl rfl (rp_indexAddr _ rfl rfl rfl rfl rfl (by assumption) rfl (by first | omega | decide)) ?_
        refine Wx.val hq rfl rfl rfl rfl ([]) (rv_load rfl rfl (by (intro u hu; first | exact Cells.lA (by assumption) (by (repeat first | exact .refl _ _ | assumption | refine .trans ?_ (by assumption)); first | done | fail) rfl rfl | exact Cells.lL (by assumption) (by (repeat first | exact .refl _ _ | assumption | refine .trans ?_ (by assumption)); first | done | fail) rfl rfl (by assumption) | exact Cells.lP (by assumption) (by (repeat first | exact .refl _ _ | assumption | refine .trans ?_ (by assumption)); first | done | fail) _ rfl rfl rfl rfl | exact Cells.lP (by assumption) (by (repeat first | exact .refl _ _ | assumption | refine .trans ?_ (by assumption)); first | done | fail) _ rfl rfl (by assumption) (by assumption)))) ?_
        refine Wx.actNew rfl rfl rfl rfl (acts_call rfl rfl rfl (ref_Before l[i] l[i + 1] _)) ?_
        rintro v30 w30 e30 rfl
        have hz30 := e30.size
        rw [decide_eq_true hb]
        refine Wx.pure hq rfl rfl rfl rfl (rp_not rfl rfl) ?_
        refine Wx.nil ?_
        (repeat first | refine thenE_normal ?_ | refine blockE_normal ?_ | refine scopeE_normal ?_)
        (repeat refine Sx.seq ?_); first | refine Sx.cond_false rfl ?_ | refine Sx.cond rfl (fun h => absurd h (by simp [*])) (fun _ => ?_)
        (repeat refine Sx.seq ?_); refine Sx.skip ?_
        (repeat first | refine thenE_normal ?_ | refine blockE_normal ?_ | refine scopeE_normal ?_)
        (repeat refine Sx.seq ?_)
        refine Sx.textR ?_
        refine Ox.pure rfl rfl (rp_move rfl rfl) ?_
        refine Ox.pure rfl rfl (by first | exact rp_bin rfl rfl rfl (binI_fit_add (wrap64 (by omega))) | exact rp_bin rfl rfl rfl rfl) ?_
        refine Ox.pure rfl rfl (rp_assign rfl rfl) ?_
        refine Ox.nil ?_
        (repeat first | refine thenE_normal ?_ | refine blockE_normal ?_ | refine scopeE_normal ?_)
        refine ⟨i + 1, _, sub_cons rfl (sub_int rfl (by omega) sub_nil), ⟨rfl, by omega, fun j hj hji => ?_, by (repeat first | exact .refl _ _ | assumption | refine .trans ?_ (by assumption)); first | done | fail⟩, by omega⟩
        by_cases hjj : j = i
        · subst hjj; exact hb
        · exact hf j hj (by omega)
      · (repeat refine Sx.seq ?_)
        refine Sx.textR ?_
        refine Ox.pure rfl rfl (rp_move rfl rfl) ?_
        refine Ox.pure rfl rfl (rp_move rfl rfl) ?_
        refine Ox.pure rfl rfl (rp_lenS rfl rfl rfl) ?_
        refine Ox.pure rfl rfl (by first | exact rp_bin rfl rfl rfl (binI_t (by omega)) | exact rp_bin rfl rfl rfl (binI_f (by omega)) | exact rp_bin rfl rfl rfl rfl) ?_
        refine Ox.nil ?_
        (repeat first | refine thenE_normal ?_ | refine blockE_normal ?_ | refine scopeE_normal ?_)
        (repeat refine Sx.seq ?_); first | refine Sx.cond_true rfl ?_ | refine Sx.cond rfl (fun _ => ?_) (fun h => absurd h (by simp [*]))
        (repeat refine Sx.seq ?_); refine Sx.skip ?_
        (repeat first | refine thenE_normal ?_ | refine blockE_normal ?_ | refine scopeE_normal ?_)
        (repeat refine Sx.seq ?_); refine Sx.block ?_
        (repeat refine Sx.seq ?_)
        refine Sx.walkR rfl (fun _ _ _ _ h => h) [0, 1, 2, 3, 4, 5, 6, 7, 8, 9, 10] [0, 1, 2, 3, 4, 5, 6, 7, 8, 10] (0) (by kernel_rfl) ?_
        intro hq w31 e31; have hz31 := e31.size
        refine Wx.pure hq rfl rfl rfl rfl (rp_move rfl rfl) ?_
        refine Wx.pure hq rfl rfl rfl rfl (rp_move rfl rfl) ?_
        refine Wx.pure hq rfl rfl rfl rfl (by first | exact rp_bin rfl rfl rfl (binI_fit_sub (wrap64 (by omega))) | exact rp_bin rfl rfl rfl rfl) ?_
        refine Wx.pure hq rfl rfl rfl rfl (rp_indexAddr i rfl rfl rfl rfl rfl (by assumption) (by omega) (by omega)) ?_
        refine Wx.val hq rfl rfl rfl rfl ([]) (rv_load rfl rfl (by (intro u hu; first | exact Cells.lA (by assumption) (by (repeat first | exact .refl _ _ | assumption | refine .trans ?_ (by assumption)); first | done | fail) rfl rfl | exact Cells.lL (by assumption) (by (repeat first | exact .refl _ _ | assumption | refine .trans ?_ (by assumption)); first | done | fail) rfl rfl (by assumption) | exact Cells.lP (by assumption) (by (repeat first | exact .refl _ _ | assumption | refine .trans ?_ (by assumption)); first | done | fail) _ rfl rfl rfl rfl | exact Cells.lP (by assumption) (by (repeat first | exact .refl _ _ | assumption | refine .trans ?_ (by assumption)); first | done | fail) _ rfl rfl (by assumption) (by assumption)))) ?_
        refine Wx.pure hq rfl rfl rfl rfl (rp_move rfl rfl) ?_
        refine Wx.pure hq rfl rfl rfl rfl (rp_move rfl rfl) ?_
        refine Wx.pure hq rfl rfl rfl rfl (rp_indexAddr _ rfl rfl rfl rfl rfl (by assumption) rfl (by first | omega | decide)) ?_
        refine Wx.val hq rfl rfl rfl rfl ([]) (rv_load rfl rfl (by (intro u hu; first | exact Cells.lA (by assumption) (by (repeat first | exact .refl _ _ | assumption | refine .trans ?_ (by assumption)); first | done | fail) rfl rfl | exact Cells.lL (by assumption) (by (repeat first | exact .refl _ _ | assumption | refine .trans ?_ (by assumption)); first | done | fail) rfl rfl (by assumption) | exact Cells.lP (by assumption) (by (repeat first | exact .refl _ _ | assumption | refine .trans ?_ (by assumption)); first | done | fail) _ rfl rfl rfl rfl | exact Cells.lP (by assumption) (by (repeat first | exact .refl _ _ | assumption | refine .trans ?_ (by assumption)); first | done | fail) _ rfl rfl (by assumption) (by assumption)))) ?_
        refine Wx.actNew rfl rfl rfl rfl (acts_call rfl rfl rfl (ref_Before l[i] l[i + 1] _)) ?_
        rintro v32 w32 e32 rfl
        have hz32 := e32.size
        rw [decide_eq_false hb]
        refine Wx.pure hq rfl rfl rfl rfl (rp_not rfl rfl) ?_
        refine Wx.nil ?_
        (repeat first | refine thenE_normal ?_ | refine blockE_normal ?_ | refine scopeE_normal ?_)
        (repeat refine Sx.seq ?_); first | refine Sx.cond_true rfl ?_ | refine Sx.cond rfl (fun _ => ?_) (fun h => absurd h (by simp [*]))
        (repeat refine Sx.seq ?_)
        refine Sx.textR ?_
        refine Ox.pure rfl rfl (rp_assign rfl rfl) ?_
        refine Ox.nil ?_
        (repeat first | refine thenE_normal ?_ | refine blockE_normal ?_ | refine scopeE_normal ?_)
        (repeat refine Sx.seq ?_); refine Sx.ret ?_
        (repeat first | refine thenE_ret ?_ | refine blockE_ret ?_ | refine scopeE_ret ?_)
        exact endE_ret [_] ⟨rfl, trivial⟩ ⟨by (repeat first | exact .refl _ _ | assumption | refine .trans ?_ (by assumption)); first | done | fail, by rw [checkL, if_pos hall, if_neg (fun h => hb (h i (by omega)))]; rfl⟩
    · (repeat refine Sx.seq ?_)
      refine Sx.textR ?_
      refine Ox.pure rfl rfl (rp_move rfl rfl) ?_
      refine Ox.pure rfl rfl (rp_move rfl rfl) ?_
      refine Ox.pure rfl rfl (rp_lenS rfl rfl rfl) ?_
      refine Ox.pure rfl rfl (by first | exact rp_bin rfl rfl rfl (binI_t (by omega)) | exact rp_bin rfl rfl rfl (binI_f (by omega)) | exact rp_bin rfl rfl rfl rfl) ?_
      refine Ox.nil ?_
      (repeat first | refine thenE_normal ?_ | refine blockE_normal ?_ | refine scopeE_normal ?_)
      (repeat refine Sx.seq ?_); first | refine Sx.cond_false rfl ?_ | refine Sx.cond rfl (fun h => absurd h (by simp [*])) (fun _ => ?_)
      (repeat refine Sx.seq ?_); refine Sx.exit ?_
      (repeat first | refine thenE_exit ?_ | refine blockE_same ?_ | refine blockE_other rfl ?_ | refine scopeE_exit ?_ | refine thenE_normal ?_ | refine blockE_normal ?_ | refine scopeE_normal ?_)
      (repeat refine Sx.seq ?_)
      refine Sx.textR ?_
      refine Ox.pure rfl rfl (rp_assign rfl rfl) ?_
      refine Ox.nil ?_
      (repeat first | refine thenE_normal ?_ | refine blockE_normal ?_ | refine scopeE_normal ?_)
      (repeat refine Sx.seq ?_); refine Sx.ret ?_
      (repeat first | refine thenE_ret ?_ | refine blockE_ret ?_ | refine scopeE_ret ?_)
      exact endE_ret [_] ⟨rfl, trivial⟩ ⟨by (repeat first | exact .refl _ _ | assumption | refine .trans ?_ (by assumption)); first | done | fail, by rw [checkL, if_pos hall, if_pos (show Risen l from fun j hj => hf j hj (by omega))]; rfl⟩

end Go.Proofs.Ytfnekbnlokigcaa
