/- Texts of one proof, put together: BranG, BranI, BranJ, EngL, FactP, EngV, FactQ, BranK, BranL. -/
import Derived.Test.YtfgckcochilpkaaRows
import Derived.Shelf.SlSortCmp.NoneTotal
import Derived.Test.YtfgckcochilpkaaWAP4
/- Branches' walks: a branch begins. -/
set_option linter.unusedVariables false
set_option maxRecDepth 100000
set_option maxHeartbeats 4000000
set_option linter.unusedSimpArgs false
namespace Go.Proofs.Ytfgckcochilpkaa
open Go Go.Eng

theorem fork_at (s : Bs) (hsm : Small s) (hfw : Few s) (no : Int) (w : World) (hin : BsIn s w) :
    Calls Try.prog 14 #[.agg (bvc s).toArray, .int .i64 no] w (Ret fun r w' => Ext [] w w' ∧ ∃ v, r = .tuple #[v, .int .i64 (forkB s.br no).2.1, .int .i64 (forkB s.br no).2.2] ∧ RBr w.heap.size w' v (forkB s.br no).1) := by
  have hbl := br_len s
  have hbf := hin.bls.few
  refine calls_of_Sx (args := [.agg (bvc s).toArray, .int .i64 no]) Try.func14 rfl rfl ?_
  by_cases hv : ValidB s.br; rotate_left
  · have he : forkB s.br no = (Br0, 0, 540) := if_pos hv
    refine ztx ?_
    refine Ox.act rfl rfl (acts_box rfl rfl) ?_
    rintro vb2 wb2 ⟨eb2, bb2, rfl, hbb2, hBb2⟩
    first | (have hCb2 : Cells wb2 ⟨bb2, 0, none⟩ [_, _, _, _, _] := hBb2.cells) | have hCb2 := Blk.cellsL hBb2
    have hlb2 := hBb2.lt
    have hzb2 := eb2.size
    refine Ox.act rfl rfl (acts_alloc rfl rfl) ?_
    rintro vb4 wb4 ⟨eb4, bb4, rfl, hbb4, hBb4⟩
    first | (have hCb4 : Cells wb4 ⟨bb4, 0, none⟩ [_, _, _, _, _] := hBb4.cells) | have hCb4 := Blk.cellsL hBb4
    have hlb4 := hBb4.lt
    have hzb4 := eb4.size
    refine Ox.pure rfl rfl zas ?_
    refine Ox.pure rfl rfl zas ?_
    refine Ox.fin ?_
    refine ztx ?_
    refine Ox.val rfl rfl zra ?_
    refine Ox.act rfl rfl (acts_call rfl rfl rfl (valid_br s hsm _ (hin.ext0 zxc))) ?_
    rintro vv1 wv1 ⟨ev1, rfl⟩
    have hzv1 := ev1.size
    first | rw [decide_eq_true hv] | rw [decide_eq_false hv]
    refine Ox.pure rfl rfl (rp_not rfl rfl) ?_
    refine Ox.fin ?_
    refine zct ?_
    refine ztx ?_
    refine Ox.val rfl rfl zra ?_
    refine Ox.act rfl rfl (acts_store_all rfl rfl rfl (hBb4.ext (X := []) zxc (by simp)) rfl rfl rfl (bvc_one Bs0)) ?_
    rintro vs2 ws2 ⟨rfl, qs2, hBs2⟩
    have es2 : Ext [] w ws2 := Ext.renew zxc qs2 (by omega)
    refine Ox.pure rfl rfl zas ?_
    refine Ox.pure rfl rfl zas ?_
    refine Ox.fin ?_
    refine zrt ?_
    exact endE_ret [.agg (bvc Bs0).toArray, .int .i64 0, .int .i64 540] ⟨⟨⟨bb4, 0, none⟩, rfl, hBs2.cellsL.ldA rfl rfl⟩, rfl, rfl, trivial⟩ ⟨zxc, _, by rw [he]; rfl, by rw [he]; exact RBr.zero _ _⟩
  have hdl : s.done.length = s.bls.length := by have : s.done.length = s.br.brs.length := hv.1.2.2.2.1; omega
  by_cases hp : no ≠ -1 ∧ ¬ OpenB s.br no
  · have ho := hp.2
    have hm := hp.1
    have he : forkB s.br no = (Br0, 0, 1) := (if_neg (fun h => h hv)).trans (if_pos hp)
    refine ztx ?_
    refine Ox.act rfl rfl (acts_box rfl rfl) ?_
    rintro vb2 wb2 ⟨eb2, bb2, rfl, hbb2, hBb2⟩
    first | (have hCb2 : Cells wb2 ⟨bb2, 0, none⟩ [_, _, _, _, _] := hBb2.cells) | have hCb2 := Blk.cellsL hBb2
    have hlb2 := hBb2.lt
    have hzb2 := eb2.size
    refine Ox.act rfl rfl (acts_alloc rfl rfl) ?_
    rintro vb4 wb4 ⟨eb4, bb4, rfl, hbb4, hBb4⟩
    first | (have hCb4 : Cells wb4 ⟨bb4, 0, none⟩ [_, _, _, _, _] := hBb4.cells) | have hCb4 := Blk.cellsL hBb4
    have hlb4 := hBb4.lt
    have hzb4 := eb4.size
    refine Ox.pure rfl rfl zas ?_
    refine Ox.pure rfl rfl zas ?_
    refine Ox.fin ?_
    refine ztx ?_
    refine Ox.val rfl rfl zra ?_
    refine Ox.act rfl rfl (acts_call rfl rfl rfl (valid_br s hsm _ (hin.ext0 zxc))) ?_
    rintro vv1 wv1 ⟨ev1, rfl⟩
    have hzv1 := ev1.size
    first | rw [decide_eq_true hv] | rw [decide_eq_false hv]
    refine Ox.pure rfl rfl (rp_not rfl rfl) ?_
    refine Ox.fin ?_
    refine zcf ?_
    refine zsk ?_
    refine ztx ?_
    refine Ox.pure rfl rfl zmv ?_
    refine Ox.pure rfl rfl zbc ?_
    refine Ox.pure rfl rfl zmv ?_
    first | (refine Ox.skip rfl rfl ?_) | (refine Ox.val rfl rfl zra ?_)
    first | (refine Ox.skip rfl rfl ?_) | (refine Ox.pure rfl rfl zmv ?_)
    first | (refine Ox.skip rfl rfl ?_) | (refine Ox.act rfl rfl (acts_call rfl rfl rfl (open_at_p s no _ (hin.ext0 zxc) hdl)) ?_; rintro v1 w1 ⟨e1, rfl⟩; have hz1 := e1.size; first | rw [decide_eq_true ho] | rw [decide_eq_false ho])
    first | (refine Ox.skip rfl rfl ?_) | (refine Ox.pure rfl rfl (rp_not rfl rfl) ?_)
    refine Ox.pure rfl rfl zpk ?_
    refine Ox.fin ?_
    refine zct ?_
    refine ztx ?_
    refine Ox.val rfl rfl zra ?_
    refine Ox.act rfl rfl (acts_store_all rfl rfl rfl (hBb4.ext (X := []) zxc (by simp)) rfl rfl rfl (bvc_one Bs0)) ?_
    rintro vs4 ws4 ⟨rfl, qs4, hBs4⟩
    have es4 : Ext [] w ws4 := Ext.renew zxc qs4 (by omega)
    refine Ox.pure rfl rfl zas ?_
    refine Ox.pure rfl rfl zas ?_
    refine Ox.fin ?_
    refine zrt ?_
    exact endE_ret [.agg (bvc Bs0).toArray, .int .i64 0, .int .i64 1] ⟨⟨⟨bb4, 0, none⟩, rfl, hBs4.cellsL.ldA rfl rfl⟩, rfl, rfl, trivial⟩ ⟨zxc, _, by rw [he]; rfl, by rw [he]; exact RBr.zero _ _⟩
  have he0 : forkB s.br no = if s.br.brs.length = 64 then (Br0, 0, 2) else (⟨s.br.base, s.br.brs ++ [[]], s.br.par ++ [no], s.br.fks ++ [(lenB s.br no : Int)], s.br.done ++ [false]⟩, (s.br.brs.length : Int), 0) := (if_neg (fun h => h hv)).trans (if_neg hp)
  have hrange : no < (s.bls.length : Int) := by
    by_cases hm : no = -1
    · omega
    · have : OpenB s.br no := Classical.byContradiction fun h => hp ⟨hm, h⟩
      have := this.2.1
      omega
  refine ztx ?_
  refine Ox.act rfl rfl (acts_box rfl rfl) ?_
  rintro vb2 wb2 ⟨eb2, bb2, rfl, hbb2, hBb2⟩
  first | (have hCb2 : Cells wb2 ⟨bb2, 0, none⟩ [_, _, _, _, _] := hBb2.cells) | have hCb2 := Blk.cellsL hBb2
  have hlb2 := hBb2.lt
  have hzb2 := eb2.size
  refine Ox.act rfl rfl (acts_alloc rfl rfl) ?_
  rintro vb4 wb4 ⟨eb4, bb4, rfl, hbb4, hBb4⟩
  first | (have hCb4 : Cells wb4 ⟨bb4, 0, none⟩ [_, _, _, _, _] := hBb4.cells) | have hCb4 := Blk.cellsL hBb4
  have hlb4 := hBb4.lt
  have hzb4 := eb4.size
  refine Ox.pure rfl rfl zas ?_
  refine Ox.pure rfl rfl zas ?_
  refine Ox.fin ?_
  refine ztx ?_
  refine Ox.val rfl rfl zra ?_
  refine Ox.act rfl rfl (acts_call rfl rfl rfl (valid_br s hsm _ (hin.ext0 zxc))) ?_
  rintro vv1 wv1 ⟨ev1, rfl⟩
  have hzv1 := ev1.size
  first | rw [decide_eq_true hv] | rw [decide_eq_false hv]
  refine Ox.pure rfl rfl (rp_not rfl rfl) ?_
  refine Ox.fin ?_
  refine zcf ?_
  refine zsk ?_
  refine Sx.seq (Sx.upto (fun E' w' => (∀ t u, get [(1, .int .i64 no), (2, .pointer (some ⟨bb2, 0, none⟩)), (4, .pointer (some ⟨bb4, 0, none⟩)), (18, .bool false)] t = some u → get E' t = some u) ∧ Ext [] wv1 w') ?_ ?_)
  · by_cases hm : no = -1
    · refine ztx ?_
      refine Ox.pure rfl rfl zmv ?_
      refine Ox.pure rfl rfl zbc ?_
      refine Ox.pure rfl rfl zmv ?_
      first | (refine Ox.skip rfl rfl ?_) | (refine Ox.val rfl rfl zra ?_)
      first | (refine Ox.skip rfl rfl ?_) | (refine Ox.pure rfl rfl zmv ?_)
      first | (refine Ox.skip rfl rfl ?_) | (refine Ox.act rfl rfl (acts_call rfl rfl rfl (open_at_p s no _ (hin.ext0 zxc) hdl)) ?_; rintro v2 w2 ⟨e2, rfl⟩; have hz2 := e2.size; first | rw [decide_eq_true ho] | rw [decide_eq_false ho])
      first | (refine Ox.skip rfl rfl ?_) | (refine Ox.pure rfl rfl (rp_not rfl rfl) ?_)
      refine Ox.pure rfl rfl zpk ?_
      refine Ox.fin ?_
      refine zcf ?_
      refine zsk ?_
      exact ⟨sub_cons rfl (sub_cons rfl (sub_cons rfl (sub_cons rfl sub_nil))), zxc⟩
    · have ho : OpenB s.br no := Classical.byContradiction fun h => hp ⟨hm, h⟩
      refine ztx ?_
      refine Ox.pure rfl rfl zmv ?_
      refine Ox.pure rfl rfl zbc ?_
      refine Ox.pure rfl rfl zmv ?_
      first | (refine Ox.skip rfl rfl ?_) | (refine Ox.val rfl rfl zra ?_)
      first | (refine Ox.skip rfl rfl ?_) | (refine Ox.pure rfl rfl zmv ?_)
      first | (refine Ox.skip rfl rfl ?_) | (refine Ox.act rfl rfl (acts_call rfl rfl rfl (open_at_p s no _ (hin.ext0 zxc) hdl)) ?_; rintro v3 w3 ⟨e3, rfl⟩; have hz3 := e3.size; first | rw [decide_eq_true ho] | rw [decide_eq_false ho])
      first | (refine Ox.skip rfl rfl ?_) | (refine Ox.pure rfl rfl (rp_not rfl rfl) ?_)
      refine Ox.pure rfl rfl zpk ?_
      refine Ox.fin ?_
      refine zcf ?_
      refine zsk ?_
      exact ⟨sub_cons rfl (sub_cons rfl (sub_cons rfl (sub_cons rfl sub_nil))), zxc⟩
  rintro E' wm ⟨hsub, em⟩
  refine thenE_normal (Sx.weaken ?_ hsub)
  have hzm := em.size
  by_cases h64 : s.bls.length = 64
  · have he : forkB s.br no = (Br0, 0, 2) := he0.trans (if_pos (by rw [hbl]; exact h64))
    refine ztx ?_
    refine Ox.pure rfl rfl zfa ?_
    refine Ox.val rfl rfl zrs ?_
    refine Ox.pure rfl rfl (rp_lenS rfl rfl rfl) ?_
    refine Ox.pure rfl rfl zbc ?_
    refine Ox.fin ?_
    refine zct ?_
    refine ztx ?_
    refine Ox.val rfl rfl zra ?_
    refine Ox.act rfl rfl (acts_store_all rfl rfl rfl (hBb4.ext (X := []) zxc (by simp)) rfl rfl rfl (bvc_one Bs0)) ?_
    rintro vs6 ws6 ⟨rfl, qs6, hBs6⟩
    have es6 : Ext [] w ws6 := Ext.renew zxc qs6 (by omega)
    refine Ox.pure rfl rfl zas ?_
    refine Ox.pure rfl rfl zas ?_
    refine Ox.fin ?_
    refine zrt ?_
    exact endE_ret [.agg (bvc Bs0).toArray, .int .i64 0, .int .i64 2] ⟨⟨⟨bb4, 0, none⟩, rfl, hBs6.cellsL.ldA rfl rfl⟩, rfl, rfl, trivial⟩ ⟨zxc, _, by rw [he]; rfl, by rw [he]; exact RBr.zero _ _⟩
  have he := he0.trans (if_neg (by rw [hbl]; exact h64))
  have hfw' := id hfw
  obtain ⟨w1, w2, w3, w4⟩ := hfw'
  have hx24 : (⟨bb2, 0, none⟩ : Addr).block ∉ [bb4] := by have := hBb2.lt; simp; omega
  refine ztx ?_
  refine Ox.pure rfl rfl zfa ?_
  refine Ox.val rfl rfl zrs ?_
  refine Ox.pure rfl rfl (rp_lenS rfl rfl rfl) ?_
  refine Ox.pure rfl rfl zbc ?_
  refine Ox.fin ?_
  refine zcf ?_
  refine zsk ?_
  refine ztx ?_
  refine Ox.val rfl rfl zra ?_
  refine Ox.act rfl rfl (acts_call rfl rfl rfl (copied_at s hfw _ (hin.ext0 zxc))) ?_
  rintro vu7 wu7 ⟨eu7, s', rfl, hbr, hbls, htr, hO⟩
  have hzu7 := eu7.size
  have hzu7 := eu7.size
  refine Ox.act rfl rfl (acts_store_all rfl rfl rfl (hBb4.ext (X := []) zxc (by simp)) rfl rfl rfl (bvc_one s')) ?_
  rintro vs7 ws7 ⟨rfl, qs7, hBs7⟩
  have es7 : Ext [] wb2 ws7 := Ext.renew zxc qs7 (by omega)
  have hzs7 := es7.size
  have hys7 := qs7.size
  have hO7 := OB.put hO (hBb4.ext (X := []) zxc (by simp)) qs7 hBs7
  have hCs7 := hO7.cells
  have hd' : s'.done = s.done := congrArg Br.done hbr
  have hp' : s'.par = s.par := congrArg Br.par hbr
  have hf' : s'.fks = s.fks := congrArg Br.fks hbr
  have hw1 : s'.bls.length ≤ 1000 := by rw [hbls]; exact w1
  have hw2 : s'.par.length ≤ 1000 := by rw [hp']; exact w2
  have hw3 : s'.fks.length ≤ 1000 := by rw [hf']; exact w3
  have hw4 : s'.done.length ≤ 1000 := by rw [hd']; exact w4
  refine Ox.fin ?_
  refine ztx ?_
  refine Ox.pure rfl rfl zfa ?_
  refine Ox.val rfl rfl zrs ?_
  refine Ox.act rfl rfl (acts_buildSlice (ps := [(0, .const _)]) rfl rfl rfl rfl rfl rfl rfl rfl) ?_
  rintro vn8 wn8 ⟨en8, bn8, rfl, hbn8, hBn8⟩
  first | (have hCn8 : Cells wn8 ⟨bn8, 0, none⟩ [_] := hBn8.cells) | have hCn8 := Blk.cellsL hBn8
  have hln8 := hBn8.lt
  have hzn8 := en8.size
  have hP8 := OB.ext0 (w' := wn8) hO7 zxc
  refine Ox.act rfl rfl (acts_append (e := 59) (size := 1) (bytes := 24) rfl rfl rfl rfl (hP8.o1) (source_slice (m := 1) (news := blc (⟨none, 0, []⟩ : Bl)) rfl rfl (fun _ => rfl) (hCn8.ext0 zxc) (blc_one _)) (by first | omega | (dsimp only; omega)) (by first | omega | (dsimp only; omega)) (by omega)) ?_
  rintro va8 wa8 hga8
  obtain ⟨p8, k8, A8, rfl, _, _⟩ := SlV.of_own (enc := blc) (l := s'.bls ++ [(⟨none, 0, []⟩ : Bl)]) (by have h9 := hga8.own; rw [List.length_append, rowsV_append, rowsV_one]; exact h9) (by rw [List.length_append]; simp; omega)
  refine Ox.pure rfl rfl zfa ?_
  refine Ox.act rfl rfl (acts_store (off := 1) rfl rfl rfl rfl rfl (OB.blk1 hP8 hga8) (Nat.le_of_ble_eq_true rfl) (by (first | assumption | exact List.all_eq_true.mp rfl | simp [Value.cells, Value.oneCell']))) ?_
  rintro vs8 ws8 ⟨rfl, qs8, hBs8⟩
  have hO8 := OB.app1 (x := (⟨none, 0, []⟩ : Bl)) hP8 (by have h9 := hga8; rw [show (s'.bls ++ [(⟨none, 0, []⟩ : Bl)]).length = s'.bls.length + 1 by simp] at h9; exact h9) qs8 (by have h9 := hBs8; rw [show (s'.bls ++ [(⟨none, 0, []⟩ : Bl)]).length = s'.bls.length + 1 by simp] at h9; exact h9)
  have es8 : Ext [] wb2 ws8 := OB.ext_app1 hP8 hga8 zxc (by omega) (by omega) qs8
  have hzs8 := es8.size
  have hys8 := qs8.size
  have hxs8 := hga8.ext.size
  have hCs8 := hO8.cells
  refine Ox.fin ?_
  refine ztx ?_
  refine Ox.pure rfl rfl zfa ?_
  refine Ox.val rfl rfl zrs ?_
  refine Ox.pure rfl rfl zmv ?_
  refine Ox.act rfl rfl (acts_buildSlice (ps := [(0, .tmp 34)]) rfl rfl rfl rfl rfl rfl rfl rfl) ?_
  rintro vn9 wn9 ⟨en9, bn9, rfl, hbn9, hBn9⟩
  first | (have hCn9 : Cells wn9 ⟨bn9, 0, none⟩ [_] := hBn9.cells) | have hCn9 := Blk.cellsL hBn9
  have hln9 := hBn9.lt
  have hzn9 := en9.size
  have hP9 := OB.ext0 (w' := wn9) hO8 zxc
  refine Ox.act rfl rfl (acts_append (e := 3) (size := 1) (bytes := 8) rfl rfl rfl rfl (hP9.o2) (source_slice (m := 1) (news := ic no) rfl rfl (fun _ => rfl) (hCn9.ext0 zxc) (ic_one _)) (by first | omega | (dsimp only; omega)) (by first | omega | (dsimp only; omega)) (by omega)) ?_
  rintro va9 wa9 hga9
  obtain ⟨p9, k9, A9, rfl, _, _⟩ := SlV.of_own (enc := ic) (l := s'.par ++ [no]) (by have h9 := hga9.own; rw [List.length_append, rowsV_append, rowsV_one]; exact h9) (by rw [List.length_append]; simp; omega)
  refine Ox.pure rfl rfl zfa ?_
  refine Ox.act rfl rfl (acts_store (off := 2) rfl rfl rfl rfl rfl (OB.blk2 hP9 hga9) (Nat.le_of_ble_eq_true rfl) (by (first | assumption | exact List.all_eq_true.mp rfl | simp [Value.cells, Value.oneCell']))) ?_
  rintro vs9 ws9 ⟨rfl, qs9, hBs9⟩
  have hO9 := OB.app2 (x := no) hP9 (by have h9 := hga9; rw [show (s'.par ++ [no]).length = s'.par.length + 1 by simp] at h9; exact h9) qs9 (by have h9 := hBs9; rw [show (s'.par ++ [no]).length = s'.par.length + 1 by simp] at h9; exact h9)
  have es9 : Ext [] wb2 ws9 := OB.ext_app2 hP9 hga9 zxc (by omega) (by omega) qs9
  have hzs9 := es9.size
  have hys9 := qs9.size
  have hxs9 := hga9.ext.size
  have hCs9 := hO9.cells
  refine Ox.fin ?_
  (repeat refine Sx.seq ?_)
  refine Sx.walkR rfl (fun _ _ _ _ h => h) [0, 1, 2, 3, 4, 5, 6, 7, 8] [0, 1, 2, 3, 7] (0) (by kernel_rfl) ?_
  intro hq w4 e4; have hz4 := e4.size
  refine Wx.pure hq rfl rfl rfl rfl zfa ?_
  refine Wx.val hq rfl rfl rfl rfl ([]) zrs ?_
  refine Wx.val hq rfl rfl rfl rfl ([]) zra ?_
  refine Wx.pure hq rfl rfl rfl rfl zmv ?_
  refine Wx.actNew rfl rfl rfl rfl (acts_call rfl rfl rfl (length_at_p s no _ (hin.ext0 zxc) hrange)) ?_
  rintro v5 w5 e5 rfl
  have hz5 := e5.size
  refine Wx.actNew rfl rfl rfl rfl (acts_buildSlice (ps := [(0, .tmp 42)]) rfl rfl rfl rfl rfl rfl rfl rfl) ?_
  rintro vn10 wn10 en10 ⟨bn10, rfl, hbn10, hBn10⟩
  first | (have hCn10 : Cells wn10 ⟨bn10, 0, none⟩ [_] := hBn10.cells) | have hCn10 := Blk.cellsL hBn10
  have hln10 := hBn10.lt
  have hzn10 := en10.size
  have hP10 := OB.ext0 (w' := wn10) hO9 zxc
  refine Wx.actLast rfl rfl rfl rfl (by kernel_rfl) (acts_append (e := 3) (size := 1) (bytes := 8) rfl rfl rfl rfl (hP10.o3) (source_slice (m := 1) (news := ic (lenB s.br no : Int)) rfl rfl (fun _ => rfl) (hCn10.ext0 zxc) (ic_one _)) (by first | omega | (dsimp only; omega)) (by first | omega | (dsimp only; omega)) (by omega)) ?_
  rintro va10 wa10 hga10
  obtain ⟨p10, k10, A10, rfl, _, _⟩ := SlV.of_own (enc := ic) (l := s'.fks ++ [(lenB s.br no : Int)]) (by have h9 := hga10.own; rw [List.length_append, rowsV_append, rowsV_one]; exact h9) (by rw [List.length_append]; simp; omega)
  refine Wx.pure hq rfl rfl rfl rfl zfa ?_
  refine Wx.actLast rfl rfl rfl rfl (by kernel_rfl) (acts_store (off := 3) rfl rfl rfl rfl rfl (OB.blk3 hP10 hga10) (Nat.le_of_ble_eq_true rfl) (by (first | assumption | exact List.all_eq_true.mp rfl | simp [Value.cells, Value.oneCell']))) ?_
  rintro vs10 ws10 ⟨rfl, qs10, hBs10⟩
  have hO10 := OB.app3 (x := (lenB s.br no : Int)) hP10 (by have h9 := hga10; rw [show (s'.fks ++ [(lenB s.br no : Int)]).length = s'.fks.length + 1 by simp] at h9; exact h9) qs10 (by have h9 := hBs10; rw [show (s'.fks ++ [(lenB s.br no : Int)]).length = s'.fks.length + 1 by simp] at h9; exact h9)
  have es10 : Ext [] wb2 ws10 := OB.ext_app3 hP10 hga10 zxc (by omega) (by omega) qs10
  have hzs10 := es10.size
  have hys10 := qs10.size
  have hxs10 := hga10.ext.size
  have hCs10 := hO10.cells
  refine Wx.fin ?_
  refine ztx ?_
  refine Ox.pure rfl rfl zfa ?_
  refine Ox.val rfl rfl zrs ?_
  refine Ox.act rfl rfl (acts_buildSlice (ps := [(0, .const _)]) rfl rfl rfl rfl rfl rfl rfl rfl) ?_
  rintro vn11 wn11 ⟨en11, bn11, rfl, hbn11, hBn11⟩
  first | (have hCn11 : Cells wn11 ⟨bn11, 0, none⟩ [_] := hBn11.cells) | have hCn11 := Blk.cellsL hBn11
  have hln11 := hBn11.lt
  have hzn11 := en11.size
  have hP11 := OB.ext0 (w' := wn11) hO10 zxc
  refine Ox.act rfl rfl (acts_append (e := 4) (size := 1) (bytes := 1) rfl rfl rfl rfl (hP11.o4) (source_slice (m := 1) (news := boc false) rfl rfl (fun _ => rfl) (hCn11.ext0 zxc) (boc_one _)) (by first | omega | (dsimp only; omega)) (by first | omega | (dsimp only; omega)) (by omega)) ?_
  rintro va11 wa11 hga11
  obtain ⟨p11, k11, A11, rfl, _, _⟩ := SlV.of_own (enc := boc) (l := s'.done ++ [false]) (by have h9 := hga11.own; rw [List.length_append, rowsV_append, rowsV_one]; exact h9) (by rw [List.length_append]; simp; omega)
  refine Ox.pure rfl rfl zfa ?_
  refine Ox.act rfl rfl (acts_store (off := 4) rfl rfl rfl rfl rfl (OB.blk4 hP11 hga11) (Nat.le_of_ble_eq_true rfl) (by (first | assumption | exact List.all_eq_true.mp rfl | simp [Value.cells, Value.oneCell']))) ?_
  rintro vs11 ws11 ⟨rfl, qs11, hBs11⟩
  have hO11 := OB.app4 (x := false) hP11 (by have h9 := hga11; rw [show (s'.done ++ [false]).length = s'.done.length + 1 by simp] at h9; exact h9) qs11 (by have h9 := hBs11; rw [show (s'.done ++ [false]).length = s'.done.length + 1 by simp] at h9; exact h9)
  have es11 : Ext [] wb2 ws11 := OB.ext_app4 hP11 hga11 zxc (by omega) (by omega) qs11
  have hzs11 := es11.size
  have hys11 := qs11.size
  have hxs11 := hga11.ext.size
  have hCs11 := hO11.cells
  refine Ox.fin ?_
  (repeat refine Sx.seq ?_)
  refine Sx.walkR rfl (fun _ _ _ _ h => h) [0, 1, 2, 3, 4, 5, 6] [0, 1, 2, 3, 5, 6] (0) (by kernel_rfl) ?_
  intro hq w6 e6; have hz6 := e6.size
  refine Wx.val hq rfl rfl rfl rfl ([]) zra ?_
  refine Wx.pure hq rfl rfl rfl rfl zfa ?_
  refine Wx.val hq rfl rfl rfl rfl ([bb4]) zrx ?_
  refine Wx.pure hq rfl rfl rfl rfl (rp_lenS rfl rfl rfl) ?_
  refine Wx.actX [(2, [bb4], w6)] rfl rfl rfl rfl ([bb4]) (.keep (fun y hy => .inl hy) (.drop (by kernel_rfl) (PendK.nil))) (acts_store_all rfl rfl rfl (hO11.ext0 zxc).blk rfl rfl rfl (bvc_one _)) (fun _ _ h => h.2.1) ?_
  rintro vs12 ws12 ⟨rfl, qs12, hBs12⟩
  have es12 : Ext [] wb2 ws12 := Ext.renew zxc qs12 (by omega)
  have hO12 := (hO11.ext0 zxc).self qs12 hBs12
  refine Wx.pure hq rfl rfl rfl rfl zas ?_
  refine Wx.pure hq rfl rfl rfl rfl zas ?_
  refine Wx.fin ?_
  refine zrt ?_
  obtain ⟨v1, v2, v3, v4, _⟩ := id hv.1
  have v2' : s'.par.length = s.br.brs.length := by rw [hp']; exact v2
  have v3' : s'.fks.length = s.br.brs.length := by rw [hf']; exact v3
  have v4' : s'.done.length = s.br.brs.length := by rw [hd']; exact v4
  have v1' : s'.bls.length = s.br.brs.length := by rw [hbls, hbl]
  have hres := hO12.res ⟨by simp; omega, by simp; omega, by simp; omega, by simp; omega⟩ (htr _ (hin.base.ext0 zxc)) (fun x hx => by
    rcases List.mem_append.1 hx with h | h
    · rw [hbls] at h; exact (hin.sub x h).imp fun _ h9 => h9.ext0 zxc
    · rw [List.mem_singleton.1 h]; exact ⟨⟨0, 0, none⟩, SlV.nil _ _⟩)
  refine endE_ret [.agg (bvc _).toArray, .int .i64 (s.bls.length : Int), .int .i64 0] ⟨⟨⟨bb4, 0, none⟩, rfl, hO12.cells.ldA rfl rfl⟩, rfl, rfl, trivial⟩ ⟨zxc, _, by rw [he, hbl]; rfl, ?_⟩
  obtain ⟨s9, e9, h9, e8, z9⟩ := hres
  refine ⟨s9, e9, h9, e8.trans ?_, fun h => Nat.le_trans (by omega) (z9 h)⟩
  rw [he]
  show Br.mk s'.base ((s'.bls ++ [(⟨none, 0, []⟩ : Bl)]).map Bl.l) (s'.par ++ [no]) (s'.fks ++ [(lenB s.br no : Int)]) (s'.done ++ [false]) = _
  rw [List.map_append, show s'.base = s.br.base from congrArg Br.base hbr, show s'.bls.map Bl.l = s.br.brs from congrArg Br.brs hbr, show s'.par = s.br.par from congrArg Br.par hbr, show s'.fks = s.br.fks from congrArg Br.fks hbr, show s'.done = s.br.done from congrArg Br.done hbr]
  rfl

end Go.Proofs.Ytfgckcochilpkaa

/- Branches' walks: lists that are joined. -/
set_option linter.unusedVariables false
set_option maxRecDepth 100000
set_option maxHeartbeats 4000000
set_option linter.unusedSimpArgs false
namespace Go.Proofs.Ytfgckcochilpkaa
open Go Go.Eng

theorem rowsC_take {i : Nat} {ls : List Bl} (h : i < ls.length) : (ls.take (i + 1)).flatMap Bl.l = (ls.take i).flatMap Bl.l ++ ls[i].l := by
  rw [List.take_succ_eq_append_getElem h, List.flatMap_append]; simp
theorem rowsC_le (i : Nat) (ls : List Bl) : ((ls.take i).flatMap Bl.l).length ≤ (ls.flatMap Bl.l).length := by
  conv => rhs; rw [← List.take_append_drop i ls, List.flatMap_append]
  rw [List.length_append]; omega

theorem grow_at (n : Nat) (w : World) (hn : n ≤ 1000000) :
    Calls Try.prog 66 #[.slice none 0 0, .int .i64 (n : Int)] w (Ret fun r w' => Ext [] w w' ∧ w'.ownsRow w.heap.size 42 6 r 0 []) := by
  refine calls_of_Sx (args := [.slice none 0 0, .int .i64 (n : Int)]) Try.func66 rfl rfl ?_
  rcases Nat.eq_zero_or_pos n with h0 | h0
  · refine ztx ?_
    refine Ox.pure rfl rfl zas ?_
    refine Ox.fin ?_
    refine ztx ?_
    refine Ox.pure rfl rfl zmv ?_
    refine Ox.pure rfl rfl zbc ?_
    refine Ox.fin ?_
    refine zcf ?_
    refine zsk ?_
    refine ztx ?_
    refine Ox.pure rfl rfl zmv ?_
    refine Ox.pure rfl rfl zmv ?_
    refine Ox.pure rfl rfl (rp_capS rfl rfl rfl) ?_
    refine Ox.pure rfl rfl zmv ?_
    refine Ox.pure rfl rfl (rp_lenS rfl rfl rfl) ?_
    refine Ox.pure rfl rfl zbs ?_
    refine Ox.pure rfl rfl (rp_bin (v := .int .i64 (n : Int)) rfl rfl rfl (by rw [binI_fit_sub (wrap64 (by omega))]; exact congrArg (fun z => some (Value.int .i64 z)) (by omega))) ?_
    refine Ox.pure rfl rfl zas ?_
    refine Ox.fin ?_
    refine ztx ?_
    refine Ox.pure rfl rfl zmv ?_
    refine Ox.pure rfl rfl zbc ?_
    refine Ox.fin ?_
    refine zcf ?_
    refine zsk ?_
    refine ztx ?_
    refine Ox.pure rfl rfl zmv ?_
    refine Ox.pure rfl rfl zas ?_
    refine Ox.fin ?_
    refine zrt ?_
    exact endE_ret [.slice none 0 0] ⟨rfl, trivial⟩ ⟨zxc, World.ownsRow_nil _ _ _ _⟩
  · refine ztx ?_
    refine Ox.pure rfl rfl zas ?_
    refine Ox.fin ?_
    refine ztx ?_
    refine Ox.pure rfl rfl zmv ?_
    refine Ox.pure rfl rfl zbc ?_
    refine Ox.fin ?_
    refine zcf ?_
    refine zsk ?_
    refine ztx ?_
    refine Ox.pure rfl rfl zmv ?_
    refine Ox.pure rfl rfl zmv ?_
    refine Ox.pure rfl rfl (rp_capS rfl rfl rfl) ?_
    refine Ox.pure rfl rfl zmv ?_
    refine Ox.pure rfl rfl (rp_lenS rfl rfl rfl) ?_
    refine Ox.pure rfl rfl zbs ?_
    refine Ox.pure rfl rfl (rp_bin (v := .int .i64 (n : Int)) rfl rfl rfl (by rw [binI_fit_sub (wrap64 (by omega))]; exact congrArg (fun z => some (Value.int .i64 z)) (by omega))) ?_
    refine Ox.pure rfl rfl zas ?_
    refine Ox.fin ?_
    refine ztx ?_
    refine Ox.pure rfl rfl zmv ?_
    refine Ox.pure rfl rfl zbc ?_
    refine Ox.fin ?_
    refine zct ?_
    refine ztx ?_
    refine Ox.pure rfl rfl zmv ?_
    refine Ox.pure rfl rfl zmv ?_
    refine Ox.pure rfl rfl (rp_capS rfl rfl rfl) ?_
    refine Ox.pure rfl rfl (rp_sliceS 0 0 rfl rfl rfl rfl rfl rfl (.inl ⟨rfl, rfl⟩) (.inr ⟨_, rfl⟩) (Nat.zero_le _) (Nat.zero_le _)) ?_
    refine Ox.pure rfl rfl zmv ?_
    refine Ox.act rfl rfl (acts_append_zeros (e := 42) (size := 6) (bytes := 48) (m := n) rfl rfl rfl rfl rfl (by omega) (by omega) (by omega)) ?_
    rintro vaz waz ⟨eaz, bz, cz, zs, rfl, hbz, hBz, hlz, hmz, hcz⟩
    have hzaz := eaz.size
    refine Ox.pure rfl rfl zmv ?_
    refine Ox.pure rfl rfl (rp_lenS rfl rfl rfl) ?_
    refine Ox.pure rfl rfl (rp_sliceS 0 0 rfl rfl rfl rfl rfl rfl (.inl ⟨rfl, rfl⟩) (.inr ⟨_, rfl⟩) (Nat.zero_le _) (by omega)) ?_
    refine Ox.pure rfl rfl zas ?_
    refine Ox.fin ?_
    refine ztx ?_
    refine Ox.pure rfl rfl zmv ?_
    refine Ox.pure rfl rfl zas ?_
    refine Ox.fin ?_
    refine zrt ?_
    have hcz0 : ¬ cz = 0 := by omega
    refine endE_ret [_] ⟨rfl, trivial⟩ ⟨zxc, ?_⟩
    rw [if_neg hcz0]
    exact blk_own (k := 0) (xs := []) (cs := zs) hbz hBz hlz (Nat.zero_le _) hcz rfl

theorem concat_at (ls : List Bl) (p : Option Addr) (A : Addr) (c : Nat) (w : World) (hs : SlV blc w p A ls c) (hsub : ∀ x ∈ ls, ∃ A, SlV cc w x.p A x.l x.c) (hl : (ls.flatMap Bl.l).length ≤ 1000000) :
    Calls Try.prog 45 #[.slice p ls.length c] w (Ret fun r w' => Ext [] w w' ∧ w'.ownsRow w.heap.size 42 6 r (ls.flatMap Bl.l).length (rowsV cc (ls.flatMap Bl.l))) := by
  have hsp := hs.ptr
  have hsr := hs.row
  have hsf := hs.few
  refine calls_of_Sx (args := [.slice p ls.length c]) Try.func45 rfl rfl ?_
  refine ztx ?_
  refine Ox.pure rfl rfl zas ?_
  refine Ox.fin ?_
  refine ztx ?_
  refine Ox.pure rfl rfl zas ?_
  refine Ox.fin ?_
  refine ztx ?_
  refine Ox.pure rfl rfl zmv ?_
  refine Ox.pure rfl rfl (rp_lenS rfl rfl rfl) ?_
  refine Ox.pure rfl rfl zmv ?_
  refine Ox.fin ?_
  refine zbl ?_
  refine Sx.loop (ι := Nat) (fun i E wr => E = [(0, .slice p ls.length c), (3, .int .i64 (((ls.take i).flatMap Bl.l).length : Int)), (9, .slice p ls.length c), (10, .int .i64 (ls.length : Int)), (11, .int .i64 (i : Int))] ∧ i ≤ ls.length ∧ Ext [] w wr) (fun i => ls.length - i) 0
    (sub_cons rfl (sub_cons rfl (sub_cons rfl (sub_cons rfl (sub_cons rfl sub_nil))))) ⟨rfl, Nat.zero_le _, zxc⟩ ?_
  rintro i E wr ⟨rfl, hi, er⟩
  have hz := er.size
  by_cases hlt : i < ls.length
  · have hLb : ∀ u, Ext [] wr u → Ld Try.prog u 59 (A.add (i * 1)) (.slice ls[i].p ls[i].l.length ls[i].c) := fun u hu => ld_field blc_len (hsr.ext0 zxc) hlt 0 rfl (by decide) rfl
    have hst := rowsC_take hlt
    have hle := rowsC_le (i + 1) ls
    have hlen : ((ls.take (i + 1)).flatMap Bl.l).length = ((ls.take i).flatMap Bl.l).length + ls[i].l.length := by rw [hst, List.length_append]
    refine ztx ?_
    refine Ox.pure rfl rfl zbc ?_
    refine Ox.fin ?_
    refine zct ?_
    refine zsk ?_
    refine zbl ?_
    refine ztx ?_
    refine Ox.pure rfl rfl (rp_indexAddr i rfl rfl rfl rfl rfl (by assumption) rfl hlt) ?_
    refine Ox.val rfl rfl (rv_load rfl rfl (fun u hu => hLb u zxc)) ?_
    refine Ox.pure rfl rfl zas ?_
    refine Ox.fin ?_
    refine ztx ?_
    refine Ox.pure rfl rfl zmv ?_
    refine Ox.pure rfl rfl zmv ?_
    refine Ox.pure rfl rfl (rp_lenS rfl rfl rfl) ?_
    refine Ox.pure rfl rfl zba ?_
    refine Ox.pure rfl rfl zas ?_
    refine Ox.fin ?_
    refine ztx ?_
    refine Ox.pure rfl rfl zmv ?_
    refine Ox.pure rfl rfl zbc ?_
    refine Ox.fin ?_
    refine zcf ?_
    refine zsk ?_
    refine ztx ?_
    refine Ox.pure rfl rfl zba ?_
    refine Ox.pure rfl rfl zmv ?_
    refine Ox.fin ?_
    exact ⟨i + 1, _, sub_cons rfl (sub_cons rfl (sub_cons rfl (sub_cons rfl (sub_cons rfl sub_nil)))), ⟨by rw [hlen], hlt, zxc⟩, by omega⟩
  obtain rfl : i = ls.length := by omega
  rw [List.take_length]
  refine ztx ?_
  refine Ox.pure rfl rfl zbc ?_
  refine Ox.fin ?_
  refine zcf ?_
  refine zex ?_
  refine ztx ?_
  refine Ox.pure rfl rfl zmv ?_
  refine Ox.act rfl rfl (acts_call rfl rfl rfl (grow_at (ls.flatMap Bl.l).length _ hl)) ?_
  rintro vg9 wg9 ⟨eg9, ho9⟩
  have hzg9 := eg9.size
  refine Ox.pure rfl rfl zas ?_
  refine Ox.fin ?_
  refine ztx ?_
  refine Ox.pure rfl rfl zmv ?_
  refine Ox.pure rfl rfl (rp_lenS rfl rfl rfl) ?_
  refine Ox.pure rfl rfl zmv ?_
  refine Ox.fin ?_
  refine zbl ?_
  refine Sx.loop (ι := Nat × Value) (fun i E wk => E = [(6, i.2), (25, .slice p ls.length c), (26, .int .i64 (ls.length : Int)), (27, .int .i64 (i.1 : Int))] ∧ i.1 ≤ ls.length ∧ Ext [] wr wk ∧ wk.ownsRow wr.heap.size 42 6 i.2 ((ls.take i.1).flatMap Bl.l).length (rowsV cc ((ls.take i.1).flatMap Bl.l))) (fun i => ls.length - i.1) (0, vg9)
    (sub_cons rfl (sub_cons rfl (sub_cons rfl (sub_cons rfl sub_nil)))) ⟨rfl, Nat.zero_le _, zxc, ho9⟩ ?_
  rintro ⟨i, v⟩ E wk ⟨rfl, hi2, ek, hov⟩
  dsimp only at hi2 hov ⊢
  have hzk := ek.size
  by_cases hlt : i < ls.length
  · have hLb : ∀ u, Ext [] wk u → Ld Try.prog u 59 (A.add (i * 1)) (.slice ls[i].p ls[i].l.length ls[i].c) := fun u hu => ld_field blc_len (hsr.ext0 zxc) hlt 0 rfl (by decide) rfl
    have hst := rowsC_take hlt
    have hle := rowsC_le (i + 1) ls
    have hlen : ((ls.take (i + 1)).flatMap Bl.l).length = ((ls.take i).flatMap Bl.l).length + ls[i].l.length := by rw [hst, List.length_append]
    obtain ⟨Ai, hsi⟩ := hsub _ (List.getElem_mem hlt)
    refine ztx ?_
    refine Ox.pure rfl rfl zbc ?_
    refine Ox.fin ?_
    refine zct ?_
    refine zsk ?_
    refine zbl ?_
    refine ztx ?_
    refine Ox.pure rfl rfl (rp_indexAddr i rfl rfl rfl rfl rfl (by assumption) rfl hlt) ?_
    refine Ox.val rfl rfl (rv_load rfl rfl (fun u hu => hLb u zxc)) ?_
    refine Ox.pure rfl rfl zas ?_
    refine Ox.fin ?_
    refine ztx ?_
    refine Ox.pure rfl rfl zmv ?_
    refine Ox.pure rfl rfl zmv ?_
    refine Ox.act rfl rfl (acts_append (e := 42) (size := 6) (bytes := 48) rfl rfl rfl rfl (own_keep0 hov zxc) ((hsi.ext0 zxc).src rfl cc_len cc_one) (by first | omega | (dsimp only; omega)) (by first | omega | (dsimp only; omega)) (by omega)) ?_
    rintro vap wap hgap
    refine Ox.pure rfl rfl zas ?_
    refine Ox.fin ?_
    refine ztx ?_
    refine Ox.pure rfl rfl zba ?_
    refine Ox.pure rfl rfl zmv ?_
    refine Ox.fin ?_
    have hrow : rowsV cc ((ls.take i).flatMap Bl.l) ++ rowsV cc ls[i].l = rowsV cc ((ls.take (i + 1)).flatMap Bl.l) := by rw [hst, rowsV_append]
    exact ⟨(i + 1, vap), _, sub_cons rfl (sub_cons rfl (sub_cons rfl (sub_cons rfl sub_nil))), ⟨rfl, hlt, hgap.ext0 zxc (fun g hg => by have := (own_lt hov g (by simp [hg])).1; omega), by have h9 := hgap.own; rw [hrow, ← hlen] at h9; exact h9⟩, by dsimp only; omega⟩
  · obtain rfl : i = ls.length := by omega
    rw [List.take_length] at hov
    refine ztx ?_
    refine Ox.pure rfl rfl zbc ?_
    refine Ox.fin ?_
    refine zcf ?_
    refine zex ?_
    refine ztx ?_
    refine Ox.pure rfl rfl zmv ?_
    refine Ox.pure rfl rfl zas ?_
    refine Ox.fin ?_
    refine zrt ?_
    exact endE_ret [_] ⟨rfl, trivial⟩ ⟨zxc, own_base hov (by omega)⟩

end Go.Proofs.Ytfgckcochilpkaa

/- Branches' walks: a branch is changed. -/
set_option linter.unusedVariables false
set_option maxRecDepth 100000
set_option maxHeartbeats 4000000
set_option linter.unusedSimpArgs false
namespace Go.Proofs.Ytfgckcochilpkaa
open Go Go.Eng

theorem of_few {s : Bs} (hf : Formed s.br) (hsm : Small s) (no : Int) (h2 : no < (s.bls.length : Int)) : (ofB s.br no).1.length ≤ 65000 := by
  have hbl := br_len s
  have h64 := hf.1
  have h := withN_length (b := s.br) (M := 1000) hsm.base hsm.brs (no + 1).toNat (no + 1).toNat (lenB s.br no)
  have : ((no + 1).toNat + 1) * 1000 ≤ 65 * 1000 := Nat.mul_le_mul_right _ (by omega)
  unfold ofB withB
  omega
theorem of_check {b : Br} (hck : checkL b.base = 0) (no : Int) : checkL (ofB b no).1 = 0 := withN_check hck _ _ _
theorem own_sl_at {α : Type} {enc : α → List Value} {m base : Nat} {e : TypeId} {w : World} {p : Option Addr} {c : Nat} {l : List α} (h : w.ownsRow base e m (.slice p l.length c) l.length (rowsV enc l)) (hf : l.length ≤ 140737488355328) : ∃ A, SlV enc w p A l c := by
  obtain ⟨p', c', A, h1, h2, _⟩ := SlV.of_own h hf
  injection h1 with e1 _ e2
  subst e1 e2
  exact ⟨A, h2⟩
theorem cc_one_at {w : World} {g : Nat} {c : Cr} (h : Cells w ⟨g, 0, none⟩ (cc c)) : SlV cc w (some ⟨g, 0, none⟩) ⟨g, 0, none⟩ [c] 1 :=
  ⟨fun _ => rfl, by rw [rowsV_one]; exact h, by simp, by simp, by simp⟩

theorem change_br (s : Bs) (hsm : Small s) (hfw : Few s) (no : Int) (c : Cr) (w : World) (hin : BsIn s w) :
    Calls Try.prog 17 #[.agg (bvc s).toArray, .int .i64 no, .agg (cc c).toArray] w (Ret fun r w' => Ext [] w w' ∧ ∃ v, r = .tuple #[v, .int .i64 (changeB s.br no c).2] ∧ RBr w.heap.size w' v (changeB s.br no c).1) := by
  have hbl := br_len s
  have hbp := hin.bls.ptr
  have hbr := hin.bls.row
  refine calls_of_Sx (args := [.agg (bvc s).toArray, .int .i64 no, .agg (cc c).toArray]) Try.func17 rfl rfl ?_
  by_cases hv : ValidB s.br; rotate_left
  · have he : changeB s.br no c = (Br0, 540) := if_pos hv
    refine ztx ?_
    refine Ox.act rfl rfl (acts_box rfl rfl) ?_
    rintro vb3 wb3 ⟨eb3, bb3, rfl, hbb3, hBb3⟩
    first | (have hCb3 : Cells wb3 ⟨bb3, 0, none⟩ [_, _, _, _, _] := hBb3.cells) | have hCb3 := Blk.cellsL hBb3
    have hlb3 := hBb3.lt
    have hzb3 := eb3.size
    refine Ox.act rfl rfl (acts_box rfl rfl) ?_
    rintro vb5 wb5 ⟨eb5, bb5, rfl, hbb5, hBb5⟩
    first | (have hCb5 : Cells wb5 ⟨bb5, 0, none⟩ [_, _, _, _, _, _] := hBb5.cells) | have hCb5 := Blk.cellsL hBb5
    have hlb5 := hBb5.lt
    have hzb5 := eb5.size
    refine Ox.act rfl rfl (acts_alloc rfl rfl) ?_
    rintro vb6 wb6 ⟨eb6, bb6, rfl, hbb6, hBb6⟩
    first | (have hCb6 : Cells wb6 ⟨bb6, 0, none⟩ [_, _, _, _, _] := hBb6.cells) | have hCb6 := Blk.cellsL hBb6
    have hlb6 := hBb6.lt
    have hzb6 := eb6.size
    refine Ox.pure rfl rfl zas ?_
    refine Ox.fin ?_
    refine ztx ?_
    refine Ox.val rfl rfl zra ?_
    refine Ox.act rfl rfl (acts_call rfl rfl rfl (valid_br s hsm _ (hin.ext0 zxc))) ?_
    rintro v1 w1 ⟨e1, rfl⟩
    have hz1 := e1.size
    first | rw [decide_eq_true hv] | rw [decide_eq_false hv]
    refine Ox.pure rfl rfl (rp_not rfl rfl) ?_
    refine Ox.fin ?_
    refine zct ?_
    refine ztx ?_
    refine Ox.val rfl rfl zra ?_
    refine Ox.act rfl rfl (acts_store_all rfl rfl rfl (hBb6.ext (X := []) zxc (by simp)) rfl rfl rfl (bvc_one Bs0)) ?_
    rintro vs2 ws2 ⟨rfl, qs2, hBs2⟩
    have es2 : Ext [] w ws2 := Ext.renew zxc qs2 (by omega)
    refine Ox.pure rfl rfl zas ?_
    refine Ox.fin ?_
    refine zrt ?_
    exact endE_ret [.agg (bvc Bs0).toArray, .int .i64 540] ⟨⟨⟨bb6, 0, none⟩, rfl, hBs2.cellsL.ldA rfl rfl⟩, rfl, trivial⟩ ⟨zxc, _, by rw [he]; rfl, by rw [he]; exact RBr.zero _ _⟩
  have hdl : s.done.length = s.bls.length := by have : s.done.length = s.br.brs.length := hv.1.2.2.2.1; omega
  by_cases ho : OpenB s.br no; rotate_left
  · have he : changeB s.br no c = (Br0, 1) := (if_neg (fun h => h hv)).trans (if_pos ho)
    refine ztx ?_
    refine Ox.act rfl rfl (acts_box rfl rfl) ?_
    rintro vb3 wb3 ⟨eb3, bb3, rfl, hbb3, hBb3⟩
    first | (have hCb3 : Cells wb3 ⟨bb3, 0, none⟩ [_, _, _, _, _] := hBb3.cells) | have hCb3 := Blk.cellsL hBb3
    have hlb3 := hBb3.lt
    have hzb3 := eb3.size
    refine Ox.act rfl rfl (acts_box rfl rfl) ?_
    rintro vb5 wb5 ⟨eb5, bb5, rfl, hbb5, hBb5⟩
    first | (have hCb5 : Cells wb5 ⟨bb5, 0, none⟩ [_, _, _, _, _, _] := hBb5.cells) | have hCb5 := Blk.cellsL hBb5
    have hlb5 := hBb5.lt
    have hzb5 := eb5.size
    refine Ox.act rfl rfl (acts_alloc rfl rfl) ?_
    rintro vb6 wb6 ⟨eb6, bb6, rfl, hbb6, hBb6⟩
    first | (have hCb6 : Cells wb6 ⟨bb6, 0, none⟩ [_, _, _, _, _] := hBb6.cells) | have hCb6 := Blk.cellsL hBb6
    have hlb6 := hBb6.lt
    have hzb6 := eb6.size
    refine Ox.pure rfl rfl zas ?_
    refine Ox.fin ?_
    refine ztx ?_
    refine Ox.val rfl rfl zra ?_
    refine Ox.act rfl rfl (acts_call rfl rfl rfl (valid_br s hsm _ (hin.ext0 zxc))) ?_
    rintro v2 w2 ⟨e2, rfl⟩
    have hz2 := e2.size
    first | rw [decide_eq_true hv] | rw [decide_eq_false hv]
    refine Ox.pure rfl rfl (rp_not rfl rfl) ?_
    refine Ox.fin ?_
    refine zcf ?_
    refine zsk ?_
    refine ztx ?_
    refine Ox.val rfl rfl zra ?_
    refine Ox.pure rfl rfl zmv ?_
    refine Ox.act rfl rfl (acts_call rfl rfl rfl (open_at_p s no _ (hin.ext0 zxc) hdl)) ?_
    rintro v3 w3 ⟨e3, rfl⟩
    have hz3 := e3.size
    first | rw [decide_eq_true ho] | rw [decide_eq_false ho]
    refine Ox.pure rfl rfl (rp_not rfl rfl) ?_
    refine Ox.fin ?_
    refine zct ?_
    refine ztx ?_
    refine Ox.val rfl rfl zra ?_
    refine Ox.act rfl rfl (acts_store_all rfl rfl rfl (hBb6.ext (X := []) zxc (by simp)) rfl rfl rfl (bvc_one Bs0)) ?_
    rintro vs4 ws4 ⟨rfl, qs4, hBs4⟩
    have es4 : Ext [] w ws4 := Ext.renew zxc qs4 (by omega)
    refine Ox.pure rfl rfl zas ?_
    refine Ox.fin ?_
    refine zrt ?_
    exact endE_ret [.agg (bvc Bs0).toArray, .int .i64 1] ⟨⟨⟨bb6, 0, none⟩, rfl, hBs4.cellsL.ldA rfl rfl⟩, rfl, trivial⟩ ⟨zxc, _, by rw [he]; rfl, by rw [he]; exact RBr.zero _ _⟩
  obtain ⟨o1, o2, _⟩ := id ho
  have he0 : changeB s.br no c = if (recL (ofB s.br no).1 [c]).2 ≠ 0 then (Br0, (recL (ofB s.br no).1 [c]).2) else (⟨s.br.base, s.br.brs.set no.toNat (brB s.br no.toNat ++ [c]), s.br.par, s.br.fks, s.br.done⟩, 0) := (if_neg (fun h => h hv)).trans (if_neg (fun h => h ho))
  have hofl := of_few hv.1 hsm no (by omega)
  have hofc := of_check hv.2.1 no
  by_cases hz : (recL (ofB s.br no).1 [c]).2 = 0; rotate_left
  · have he := he0.trans (if_pos hz)
    refine ztx ?_
    refine Ox.act rfl rfl (acts_box rfl rfl) ?_
    rintro vb3 wb3 ⟨eb3, bb3, rfl, hbb3, hBb3⟩
    first | (have hCb3 : Cells wb3 ⟨bb3, 0, none⟩ [_, _, _, _, _] := hBb3.cells) | have hCb3 := Blk.cellsL hBb3
    have hlb3 := hBb3.lt
    have hzb3 := eb3.size
    refine Ox.act rfl rfl (acts_box rfl rfl) ?_
    rintro vb5 wb5 ⟨eb5, bb5, rfl, hbb5, hBb5⟩
    first | (have hCb5 : Cells wb5 ⟨bb5, 0, none⟩ [_, _, _, _, _, _] := hBb5.cells) | have hCb5 := Blk.cellsL hBb5
    have hlb5 := hBb5.lt
    have hzb5 := eb5.size
    refine Ox.act rfl rfl (acts_alloc rfl rfl) ?_
    rintro vb6 wb6 ⟨eb6, bb6, rfl, hbb6, hBb6⟩
    first | (have hCb6 : Cells wb6 ⟨bb6, 0, none⟩ [_, _, _, _, _] := hBb6.cells) | have hCb6 := Blk.cellsL hBb6
    have hlb6 := hBb6.lt
    have hzb6 := eb6.size
    refine Ox.pure rfl rfl zas ?_
    refine Ox.fin ?_
    refine ztx ?_
    refine Ox.val rfl rfl zra ?_
    refine Ox.act rfl rfl (acts_call rfl rfl rfl (valid_br s hsm _ (hin.ext0 zxc))) ?_
    rintro v4 w4 ⟨e4, rfl⟩
    have hz4 := e4.size
    first | rw [decide_eq_true hv] | rw [decide_eq_false hv]
    refine Ox.pure rfl rfl (rp_not rfl rfl) ?_
    refine Ox.fin ?_
    refine zcf ?_
    refine zsk ?_
    refine ztx ?_
    refine Ox.val rfl rfl zra ?_
    refine Ox.pure rfl rfl zmv ?_
    refine Ox.act rfl rfl (acts_call rfl rfl rfl (open_at_p s no _ (hin.ext0 zxc) hdl)) ?_
    rintro v5 w5 ⟨e5, rfl⟩
    have hz5 := e5.size
    first | rw [decide_eq_true ho] | rw [decide_eq_false ho]
    refine Ox.pure rfl rfl (rp_not rfl rfl) ?_
    refine Ox.fin ?_
    refine zcf ?_
    refine zsk ?_
    refine ztx ?_
    refine Ox.val rfl rfl zra ?_
    refine Ox.pure rfl rfl zmv ?_
    refine Ox.act rfl rfl (acts_call rfl rfl rfl (of_no s hv.1 hv.2.1 hsm no (by omega) (by omega) _ (hin.ext0 zxc))) ?_
    rintro v6 w6 ⟨e6, p5, A5, c5, rfl, hs5⟩
    have hz6 := e6.size
    refine Ox.pure rfl rfl zmv ?_
    refine Ox.pure rfl rfl (rp_extract rfl rfl rfl) ?_
    refine Ox.pure rfl rfl (rp_extract rfl rfl rfl) ?_
    refine Ox.pure rfl rfl zas ?_
    refine Ox.pure rfl rfl zas ?_
    refine Ox.fin ?_
    refine ztx ?_
    refine Ox.pure rfl rfl zmv ?_
    refine Ox.val rfl rfl zra ?_
    refine Ox.act rfl rfl (acts_buildSlice (ps := [(0, .tmp 29)]) rfl rfl rfl rfl rfl rfl rfl rfl) ?_
    rintro vn6 wn6 ⟨en6, bn6, rfl, hbn6, hBn6⟩
    first | (have hCn6 : Cells wn6 ⟨bn6, 0, none⟩ [_, _, _, _, _, _] := hBn6.cells) | have hCn6 := Blk.cellsL hBn6
    have hln6 := hBn6.lt
    have hzn6 := en6.size
    refine Ox.act rfl rfl (acts_call rfl rfl rfl (record_at (ofB s.br no).1 [c] p5 _ A5 _ c5 1 _ (hs5.ext0 zxc) ((cc_one_at hCn6).ext0 zxc) hofc (by simp; omega))) ?_
    rintro v7 w7 ⟨e7, p63, A63, c63, rfl, hs63⟩
    have hz7 := e7.size
    refine Ox.pure rfl rfl zmv ?_
    refine Ox.pure rfl rfl (rp_extract rfl rfl rfl) ?_
    refine Ox.pure rfl rfl (rp_extract rfl rfl rfl) ?_
    refine Ox.pure rfl rfl zas ?_
    refine Ox.pure rfl rfl zas ?_
    refine Ox.fin ?_
    refine ztx ?_
    refine Ox.pure rfl rfl zmv ?_
    refine Ox.pure rfl rfl zbc ?_
    refine Ox.fin ?_
    refine zct ?_
    refine ztx ?_
    refine Ox.val rfl rfl zra ?_
    refine Ox.pure rfl rfl zmv ?_
    refine Ox.act rfl rfl (acts_store_all rfl rfl rfl (hBb6.ext (X := []) zxc (by simp)) rfl rfl rfl (bvc_one Bs0)) ?_
    rintro vs8 ws8 ⟨rfl, qs8, hBs8⟩
    have es8 : Ext [] w ws8 := Ext.renew zxc qs8 (by omega)
    refine Ox.pure rfl rfl zas ?_
    refine Ox.fin ?_
    refine zrt ?_
    exact endE_ret [.agg (bvc Bs0).toArray, .int .i64 (recL (ofB s.br no).1 [c]).2] ⟨⟨⟨bb6, 0, none⟩, rfl, hBs8.cellsL.ldA rfl rfl⟩, rfl, trivial⟩ ⟨zxc, _, by rw [he]; rfl, by rw [he]; exact RBr.zero _ _⟩
  have he := he0.trans (if_neg (fun h => h hz))
  have hib : no.toNat < s.bls.length := by omega
  have hLb : ∀ u, Ext [] w u → Ld Try.prog u 59 (s.A1.add (no.toNat * 1 + 0)) (.slice s.bls[no.toNat].p s.bls[no.toNat].l.length s.bls[no.toNat].c) := fun u hu => ld_field blc_len (hbr.ext0 hu) hib 0 rfl (by decide) rfl
  obtain ⟨Ab, hsb⟩ := hin.sub _ (List.getElem_mem hib)
  have hbl2 := hsm.brs no.toNat
  rw [brB_eq hib] at hbl2
  have hflat : [s.bls[no.toNat], (⟨some ⟨0, 0, none⟩, 1, [c]⟩ : Bl)].flatMap Bl.l = s.bls[no.toNat].l ++ [c] := by simp
  have hfw' := id hfw
  obtain ⟨w1, w2, w3, w4⟩ := hfw'
  refine ztx ?_
  refine Ox.act rfl rfl (acts_box rfl rfl) ?_
  rintro vb3 wb3 ⟨eb3, bb3, rfl, hbb3, hBb3⟩
  first | (have hCb3 : Cells wb3 ⟨bb3, 0, none⟩ [_, _, _, _, _] := hBb3.cells) | have hCb3 := Blk.cellsL hBb3
  have hlb3 := hBb3.lt
  have hzb3 := eb3.size
  refine Ox.act rfl rfl (acts_box rfl rfl) ?_
  rintro vb5 wb5 ⟨eb5, bb5, rfl, hbb5, hBb5⟩
  first | (have hCb5 : Cells wb5 ⟨bb5, 0, none⟩ [_, _, _, _, _, _] := hBb5.cells) | have hCb5 := Blk.cellsL hBb5
  have hlb5 := hBb5.lt
  have hzb5 := eb5.size
  refine Ox.act rfl rfl (acts_alloc rfl rfl) ?_
  rintro vb6 wb6 ⟨eb6, bb6, rfl, hbb6, hBb6⟩
  first | (have hCb6 : Cells wb6 ⟨bb6, 0, none⟩ [_, _, _, _, _] := hBb6.cells) | have hCb6 := Blk.cellsL hBb6
  have hlb6 := hBb6.lt
  have hzb6 := eb6.size
  refine Ox.pure rfl rfl zas ?_
  refine Ox.fin ?_
  refine ztx ?_
  refine Ox.val rfl rfl zra ?_
  refine Ox.act rfl rfl (acts_call rfl rfl rfl (valid_br s hsm _ (hin.ext0 zxc))) ?_
  rintro v8 w8 ⟨e8, rfl⟩
  have hz8 := e8.size
  first | rw [decide_eq_true hv] | rw [decide_eq_false hv]
  refine Ox.pure rfl rfl (rp_not rfl rfl) ?_
  refine Ox.fin ?_
  refine zcf ?_
  refine zsk ?_
  refine ztx ?_
  refine Ox.val rfl rfl zra ?_
  refine Ox.pure rfl rfl zmv ?_
  refine Ox.act rfl rfl (acts_call rfl rfl rfl (open_at_p s no _ (hin.ext0 zxc) hdl)) ?_
  rintro v9 w9 ⟨e9, rfl⟩
  have hz9 := e9.size
  first | rw [decide_eq_true ho] | rw [decide_eq_false ho]
  refine Ox.pure rfl rfl (rp_not rfl rfl) ?_
  refine Ox.fin ?_
  refine zcf ?_
  refine zsk ?_
  refine ztx ?_
  refine Ox.val rfl rfl zra ?_
  refine Ox.pure rfl rfl zmv ?_
  refine Ox.act rfl rfl (acts_call rfl rfl rfl (of_no s hv.1 hv.2.1 hsm no (by omega) (by omega) _ (hin.ext0 zxc))) ?_
  rintro v10 w10 ⟨e10, p5, A5, c5, rfl, hs5⟩
  have hz10 := e10.size
  refine Ox.pure rfl rfl zmv ?_
  refine Ox.pure rfl rfl (rp_extract rfl rfl rfl) ?_
  refine Ox.pure rfl rfl (rp_extract rfl rfl rfl) ?_
  refine Ox.pure rfl rfl zas ?_
  refine Ox.pure rfl rfl zas ?_
  refine Ox.fin ?_
  refine ztx ?_
  refine Ox.pure rfl rfl zmv ?_
  refine Ox.val rfl rfl zra ?_
  refine Ox.act rfl rfl (acts_buildSlice (ps := [(0, .tmp 29)]) rfl rfl rfl rfl rfl rfl rfl rfl) ?_
  rintro vn6 wn6 ⟨en6, bn6, rfl, hbn6, hBn6⟩
  first | (have hCn6 : Cells wn6 ⟨bn6, 0, none⟩ [_, _, _, _, _, _] := hBn6.cells) | have hCn6 := Blk.cellsL hBn6
  have hln6 := hBn6.lt
  have hzn6 := en6.size
  refine Ox.act rfl rfl (acts_call rfl rfl rfl (record_at (ofB s.br no).1 [c] p5 _ A5 _ c5 1 _ (hs5.ext0 zxc) ((cc_one_at hCn6).ext0 zxc) hofc (by simp; omega))) ?_
  rintro v11 w11 ⟨e11, p63, A63, c63, rfl, hs63⟩
  have hz11 := e11.size
  refine Ox.pure rfl rfl zmv ?_
  refine Ox.pure rfl rfl (rp_extract rfl rfl rfl) ?_
  refine Ox.pure rfl rfl (rp_extract rfl rfl rfl) ?_
  refine Ox.pure rfl rfl zas ?_
  refine Ox.pure rfl rfl zas ?_
  refine Ox.fin ?_
  refine ztx ?_
  refine Ox.pure rfl rfl zmv ?_
  refine Ox.pure rfl rfl zbc ?_
  refine Ox.fin ?_
  refine zcf ?_
  refine zsk ?_
  refine ztx ?_
  refine Ox.val rfl rfl zra ?_
  refine Ox.act rfl rfl (acts_call rfl rfl rfl (copied_at s hfw _ (hin.ext0 zxc))) ?_
  rintro vu9 wu9 ⟨eu9, s', rfl, hbr', hbls, htr, hO⟩
  have hzu9 := eu9.size
  have hzu9 := eu9.size
  refine Ox.act rfl rfl (acts_store_all rfl rfl rfl (hBb6.ext (X := []) zxc (by simp)) rfl rfl rfl (bvc_one s')) ?_
  rintro vs9 ws9 ⟨rfl, qs9, hBs9⟩
  have es9 : Ext [] wb5 ws9 := Ext.renew zxc qs9 (by omega)
  have hzs9 := es9.size
  have hys9 := qs9.size
  have hO9 := OB.put hO (hBb6.ext (X := []) zxc (by simp)) qs9 hBs9
  have hCs9 := hO9.cells
  have hi' : no.toNat < s'.bls.length := by rw [hbls]; exact hib
  obtain ⟨p1', k1', A1', he1, hs1', _⟩ := SlV.of_own (enc := blc) hO9.o1 hO.in_.bls.few
  have hpt : 0 < s'.bls.length → s'.p1 = some A1' := by injection he1 with he1; rw [he1]; exact hs1'.ptr
  refine Ox.fin ?_
  (repeat refine Sx.seq ?_)
  refine Sx.walkR rfl (fun _ _ _ _ h => h) [0, 1, 2, 3, 4, 5, 6, 7, 8, 9, 10, 11, 12, 13] [0, 1, 2, 3, 4, 5, 6, 7, 8, 12] (0) (by kernel_rfl) ?_
  intro hq w12 e12; have hz12 := e12.size
  refine Wx.pure hq rfl rfl rfl rfl zfa ?_
  refine Wx.val hq rfl rfl rfl rfl ([]) zrs ?_
  refine Wx.pure hq rfl rfl rfl rfl zmv ?_
  refine Wx.pure hq rfl rfl rfl rfl zfa ?_
  refine Wx.val hq rfl rfl rfl rfl ([]) zrs ?_
  refine Wx.pure hq rfl rfl rfl rfl zmv ?_
  refine Wx.pure hq rfl rfl rfl rfl (rp_indexAddr no.toNat rfl rfl rfl rfl rfl hbp (by omega) hib) ?_
  refine Wx.val hq rfl rfl rfl rfl ([]) (rv_load rfl rfl (fun u hu => hLb u zxc)) ?_
  refine Wx.val hq rfl rfl rfl rfl ([]) zra ?_
  refine Wx.actNew rfl rfl rfl rfl (acts_buildSlice (ps := [(0, .tmp 48)]) rfl rfl rfl rfl rfl rfl rfl rfl) ?_
  rintro vn9 wn9 en9 ⟨bn9, rfl, hbn9, hBn9⟩
  first | (have hCn9 : Cells wn9 ⟨bn9, 0, none⟩ [_, _, _, _, _, _] := hBn9.cells) | have hCn9 := Blk.cellsL hBn9
  have hln9 := hBn9.lt
  have hzn9 := en9.size
  refine Wx.actNew rfl rfl rfl rfl (acts_buildSlice (ps := [(0, .tmp 47), (1, .tmp 49)]) rfl rfl rfl rfl rfl rfl rfl rfl) ?_
  rintro vn10 wn10 en10 ⟨bn10, rfl, hbn10, hBn10⟩
  first | (have hCn10 : Cells wn10 ⟨bn10, 0, none⟩ [_, _] := hBn10.cells) | have hCn10 := Blk.cellsL hBn10
  have hln10 := hBn10.lt
  have hzn10 := en10.size
  refine Wx.actNew rfl rfl rfl rfl (acts_call rfl rfl rfl (concat_at [s.bls[no.toNat], ⟨some ⟨bn9, 0, none⟩, 1, [c]⟩] _ ⟨bn10, 0, none⟩ 2 _ ⟨fun _ => rfl, hCn10.ext0 zxc, by simp, by simp, by simp⟩ (fun x hx => (by simp only [List.mem_cons, List.not_mem_nil, or_false] at hx; rcases hx with rfl | rfl; exact ⟨Ab, hsb.ext0 zxc⟩; exact ⟨_, (cc_one_at hCn9).ext0 zxc⟩)) (by simp; omega))) ?_
  rintro vk11 wk11 ek11 ho11
  have hzk11 := ek11.size
  have hzk11 := ek11.size
  have ho11 : wk11.ownsRow wn10.heap.size 42 6 vk11 (s.bls[no.toNat].l ++ [c]).length (rowsV cc (s.bls[no.toNat].l ++ [c])) := by have h9 := ho11; simp only [List.flatMap_cons, List.flatMap_nil, List.append_nil] at h9; exact h9
  obtain ⟨p11, c11, A11, rfl, hs11, _⟩ := SlV.of_own ho11 (by simp; omega)
  have hP := OB.ext0 (w' := wk11) hO9 zxc
  refine Wx.pure hq rfl rfl rfl rfl (rp_indexAddr no.toNat rfl rfl rfl rfl rfl hpt (by omega) hi') ?_
  refine Wx.actLast rfl rfl rfl rfl (by kernel_rfl) (acts_store_own (enc := blc) blc_len (⟨p11, c11, s.bls[no.toNat].l ++ [c]⟩ : Bl) rfl rfl rfl rfl rfl hP.o1 hpt hi' (blc_one _)) ?_
  rintro vs13 ws13 ⟨rfl, qs13, hos13⟩
  have hS := OB.set1 hP qs13 hos13
  have es13 : Ext [] wb5 ws13 := OB.step (v := Value.slice s'.p1 s'.bls.length s'.c1) zxc qs13 hP.o1 (by omega)
  have hzs13 := es13.size
  have hys13 := qs13.size
  have hCs13 := hS.cells
  have ho12 := own_keep ho11 qs13 (fun g hg hm => own_apart ho11 hP.o1 (by decide) g hg (by simpa using hm))
  refine Wx.fin ?_
  refine ztx ?_
  refine Ox.val rfl rfl zra ?_
  refine Ox.act rfl rfl (acts_store_all rfl rfl rfl (hS.ext0 zxc).blk rfl rfl rfl (bvc_one _)) ?_
  rintro vs14 ws14 ⟨rfl, qs14, hBs14⟩
  have es14 : Ext [] wb5 ws14 := Ext.renew zxc qs14 (by omega)
  have hO12 := (hS.ext0 zxc).self qs14 hBs14
  refine Ox.pure rfl rfl zas ?_
  refine Ox.fin ?_
  refine zrt ?_
  obtain ⟨v1, v2, v3, v4, _⟩ := id hv.1
  have v2' : s'.par.length ≤ 64 := by have : s'.br.par.length = s'.br.brs.length := by rw [hbr']; exact v2
                                      have h9 : s'.br.brs.length ≤ 64 := by rw [hbr']; exact v1
                                      exact this ▸ h9
  have v3' : s'.fks.length ≤ 64 := by have : s'.br.fks.length = s'.br.brs.length := by rw [hbr']; exact v3
                                      have h9 : s'.br.brs.length ≤ 64 := by rw [hbr']; exact v1
                                      exact this ▸ h9
  have v4' : s'.done.length ≤ 64 := by have : s'.br.done.length = s'.br.brs.length := by rw [hbr']; exact v4
                                       have h9 : s'.br.brs.length ≤ 64 := by rw [hbr']; exact v1
                                       exact this ▸ h9
  have v1' : s'.bls.length ≤ 64 := by rw [hbls]; omega
  obtain ⟨A14, hs14⟩ := own_sl_at (own_keep (own_keep0 ho12 zxc) qs14 (own_notin ho12 (by omega))) (by simp; omega)
  have hres := hO12.res ⟨by simp; omega, by dsimp only; omega, by dsimp only; omega, by dsimp only; omega⟩ (htr _ (hin.base.ext0 zxc)) (fun x hx => by
    rcases List.mem_or_eq_of_mem_set hx with h | h
    · rw [hbls] at h; exact (hin.sub x h).imp fun _ h9 => h9.ext0 zxc
    · rw [h]; exact ⟨_, hs14⟩)
  refine endE_ret [.agg (bvc _).toArray, .int .i64 0] ⟨⟨⟨bb6, 0, none⟩, rfl, hO12.cells.ldA rfl rfl⟩, rfl, trivial⟩ ⟨zxc, _, by rw [he]; rfl, ?_⟩
  obtain ⟨s9, e9, h9, e8, z9⟩ := hres
  refine ⟨s9, e9, h9, e8.trans ?_, fun h => Nat.le_trans (by omega) (z9 h)⟩
  rw [he]
  show Br.mk s'.base ((s'.bls.set no.toNat (⟨p11, c11, s.bls[no.toNat].l ++ [c]⟩ : Bl)).map Bl.l) s'.par s'.fks s'.done = _
  rw [List.map_set, show s'.base = s.br.base from congrArg Br.base hbr', show s'.bls.map Bl.l = s.br.brs from congrArg Br.brs hbr', show s'.par = s.br.par from congrArg Br.par hbr', show s'.fks = s.br.fks from congrArg Br.fks hbr', show s'.done = s.br.done from congrArg Br.done hbr', brB_eq hib]

end Go.Proofs.Ytfgckcochilpkaa

/- The engine, part sixteen: maps, looked up; entries that are deleted. -/
set_option linter.unusedVariables false
set_option linter.unusedSimpArgs false
set_option linter.unusedSectionVars false
namespace Go.Eng
open Go

section
variable {P : Program} {n : Nat} {ds : List Deferred} {Q : PostE} {E : Env} {w : World} {o : Oper}
variable {κ β : Type} [DecidableEq κ]

/-- What a map has at a key. -/
theorem rv_lookup {t kt et : TypeId} {kv : κ → Value} {ev : β → Value} {x y : Operand} {b : Nat} {l : List (κ × β)} {X : List Nat} {z : Value} (k : κ) (ho : o.op = .lookup t x y false) (ht : P.underlying t = some (.map kt et)) (K : KeyT P kt kv)
    (hz : zrOf P et = some z) (hx : Go.Eng.ev E x = some (.map (some b))) (hy : Go.Eng.ev E y = some (kv k)) (hM : ∀ u, Ext X w u → MapL kv ev u b l) : RunV P n E o X w (match look l k with | some r => ev r.2 | none => z) := by
  intro a u hu ha
  obtain ⟨es, clock, hb, hrel, hlt, hnd⟩ := hM u hu
  have hf := K.run hrel k u
  have hx' := ha.eval hx
  have hy' := ha.eval hy
  cases hl : look l k with
  | none =>
    rw [hl] at hf
    simp [execOp, ho, hx', hy', Instr.lookup, run_underlying ht, MapKept.run_getObj_map hb, K.check, hf, run_zero hz, Result.andThen]
  | some r =>
    rw [hl] at hf
    simp [execOp, ho, hx', hy', Instr.lookup, run_underlying ht, MapKept.run_getObj_map hb, K.check, hf, Result.andThen]

theorem eraseIdx_map' {α γ : Type} (f : α → γ) : ∀ (l : List α) (i : Nat), (l.map f).eraseIdx i = (l.eraseIdx i).map f
  | [], i => by simp
  | a :: l, 0 => by simp
  | a :: l, i + 1 => by simp [eraseIdx_map' f l i]
def delL (l : List (κ × β)) (k : κ) : List (κ × β) := match look l k with
  | some r => l.eraseIdx r.1
  | none => l

/-- An entry is deleted. -/
theorem acts_delete {t tk kt et : TypeId} {kv : κ → Value} {ev : β → Value} {x y : Operand} {b : Nat} {l : List (κ × β)} (k : κ) (ho : o.op = .call { callee := .builtin .delete, args := #[x, y], argTypes := #[t, tk] }) (ht : P.underlying t = some (.map kt et)) (K : KeyT P kt kv)
    (hx : Go.Eng.ev E x = some (.map (some b))) (hy : Go.Eng.ev E y = some (kv k)) (hM : MapL kv ev w b l) : Acts P n ds E o w (fun u w' => u = .tuple #[] ∧ Ext [b] w w' ∧ MapL kv ev w' b (delL l k)) Q := by
  intro a ha _
  obtain ⟨es, clock, hb, hrel, hlt, hnd⟩ := hM
  have hf := K.run hrel k w
  have hlt' : b < w.heap.size := (Array.getElem?_eq_some_iff.1 hb).1
  have hx' := ha.eval hx
  have hy' := ha.eval hy
  cases hl : look l k with
  | none =>
    rw [hl] at hf
    refine .inl ⟨.tuple #[], { w with heap := w.heap.setIfInBounds b (.map es clock) }, ?_, rfl, setObj_ext _ _ _, es, clock, by simp [hlt'], by simpa [delL, hl] using hrel, hlt, hnd⟩
    simp [execOp, ho, resolve, invoke, builtin, hx', hy', Builtin.delete_, run_underlying ht, MapKept.run_getObj_map hb, K.check, hf, MapKept.run_setObj_map _ hb, Result.andThen]
  | some r =>
    rw [hl] at hf
    obtain ⟨hr, hre⟩ := look_some hl
    have hlen : es.toList.length = l.length := by have := congrArg List.length hrel; simpa using this
    have hres : r.1 < es.size := by rw [Array.length_toList] at hlen; omega
    have hel : (es.eraseIdxIfInBounds r.1).toList = es.toList.eraseIdx r.1 := by
      rw [Array.eraseIdxIfInBounds, dif_pos hres, Array.toList_eraseIdx]
    refine .inl ⟨.tuple #[], { w with heap := w.heap.setIfInBounds b (.map (es.eraseIdxIfInBounds r.1) clock) }, ?_, rfl, setObj_ext _ _ _, es.eraseIdxIfInBounds r.1, clock, by simp [hlt'], ?_, ?_, ?_⟩
    · simp [execOp, ho, resolve, invoke, builtin, hx', hy', Builtin.delete_, run_underlying ht, MapKept.run_getObj_map hb, K.check, hf, MapKept.run_setObj_map _ hb, Result.andThen]
    · rw [hel]
      simp only [delL, hl]
      rw [← eraseIdx_map', hrel, eraseIdx_map']
    · intro e he
      rw [hel] at he
      exact hlt e (List.mem_of_mem_eraseIdx he)
    · rw [hel]
      exact hnd.sublist ((List.eraseIdx_sublist _ _).map _)

/-- append onto a new list that has no room. -/
theorem acts_append_new {x y : Operand} {t tx e : TypeId} {size bytes : Nat} {base g : Nat} {u : Value} {m : Nat} {news : List Value}
    (ho : o.op = .call { callee := .builtin .append, args := #[x, y], argTypes := #[t, tx] }) (he : elemOK P t e size bytes = true)
    (hx : Go.Eng.ev E x = some (.slice (some ⟨g, 0, none⟩) 0 0)) (hy : Go.Eng.ev E y = some u) (hB : Blk w g e []) (hs : Src P size tx u m news w)
    (hbytes : m * bytes ≤ 140737488355328) (h63 : m ≤ 140737488355328) (hbase : base ≤ g) : Acts P n ds E o w (fun v w' => Ext [] w w' ∧ w'.ownsRow base e size v m news ∧ (v.ownBlock = some g ∨ ∃ b, v.ownBlock = some b ∧ w.heap.size ≤ b)) Q := by
  intro a ha _
  obtain ⟨i, z, h1, h2, h3, h4, h5, h6, h7⟩ := elemOK_spec he
  have hl := hs.newsLen
  have hlt := hB.lt
  rcases Nat.eq_zero_or_pos m with h0 | h0
  · subst h0
    obtain rfl : news = [] := List.eq_nil_of_length_eq_zero (by simpa using hl)
    have hs' := hs.cells
    refine .inl ⟨.slice (some ⟨g, 0, none⟩) 0 0, w, ?_, Ext.refl _ _, own_built (size := size) (len := 0) hB hbase (by simp) (by omega), .inl rfl⟩
    subst h4
    rcases hs.kind with ⟨e', hk⟩ | hk <;>
      simp [execOp, ho, resolve, invoke, builtin, ha.eval hx, ha.eval hy, Builtin.append_, run_underlying h1, run_underlying hk, sizeOf, typeInfo, h2, hs.len, hs', storeCells]
  · obtain ⟨v', w', hr, g1, g2, g3⟩ := run_append_full (P := P) (w := w) (A := ⟨g, 0, none⟩) base t tx o.type e i z size bytes h1 h2 h3 h4 h5 h6 (some ⟨g, 0, none⟩) 0 [] (fun h => absurd h (by omega)) (by simp) (cells_nil _ _) u m news hs h0 (by unfold maxLen; omega) (by rw [Nat.zero_add]; exact hbytes) (by omega)
    rw [Nat.zero_add, List.nil_append] at g1
    refine .inl ⟨v', w', ?_, g2, g1, .inr ⟨_, g3, Nat.le_refl _⟩⟩
    simp [execOp, ho, resolve, invoke, builtin, ha.eval hx, ha.eval hy, hr]

/-- Four acts may come up. -/
theorem Wx.fork4 {ops : List Oper} {dets done : List Nat} {m : Nat} {pend : Pend} {i j k l : Nat} (hr : (Region.ready .any ops.toArray (listedOf ops done) == [i, j, k, l]) = true) (hi : Br P n ds ops Q dets done m pend E w i) (hj : Br P n ds ops Q dets done m pend E w j) (hk2 : Br P n ds ops Q dets done m pend E w k) (hl : Br P n ds ops Q dets done m pend E w l) :
    Wx P n ds ops Q dets done [] (m + 1) pend E w := by
  intro hs _ hc hp a ha hds
  have hr := eq_of_beq hr
  refine ⟨fun h0 => (by rw [h0] at hr; cases hr), fun x hk => ?_⟩
  have hk' := hk
  rw [hr] at hk'
  simp only [List.mem_cons, List.not_mem_nil, or_false] at hk'
  rcases hk' with rfl | rfl | rfl | rfl
  · have := hi hs hc hk hp a ha hds
    simpa using this
  · have := hj hs hc hk hp a ha hds
    simpa using this
  · have := hk2 hs hc hk hp a ha hds
    simpa using this
  · have := hl hs hc hk hp a ha hds
    simpa using this

/-- One act comes up. -/
theorem Wx.fork1 {ops : List Oper} {dets done : List Nat} {m : Nat} {pend : Pend} {i : Nat} (hr : (Region.ready .any ops.toArray (listedOf ops done) == [i]) = true) (hi : Br P n ds ops Q dets done m pend E w i) :
    Wx P n ds ops Q dets done [] (m + 1) pend E w := by
  intro hs _ hc hp a ha hds
  have hr := eq_of_beq hr
  refine ⟨fun h0 => (by rw [h0] at hr; cases hr), fun x hk => ?_⟩
  have hk' := hk
  rw [hr] at hk'
  simp only [List.mem_cons, List.not_mem_nil, or_false] at hk'
  subst hk'
  have := hi hs hc hk hp a ha hds
  simpa using this
/-- A place that many orders lead to: shown once, for whatever was done before. -/
theorem Wx.join {ops : List Oper} {dets done todo : List Nat} {m : Nat} {pend : Pend} {ι : Type} (F : ι → World → Prop) (E' : ι → Env) (done' todo' : List Nat) (m' : Nat) (pend' : Pend) (hok : walkOk ops dets m' done' todo' = true)
    (hst : ∀ i u, F i u → Wx P n ds ops Q dets done' todo' m' pend' (E' i) u)
    (h : (∀ i u done2 E2, (listedOf ops done2 == listedOf ops done') = true → (∀ t v, get (E' i) t = some v → get E2 t = some v) → F i u → Wx P n ds ops Q dets done2 todo' m' pend' E2 u) → Wx P n ds ops Q dets done todo m pend E w) : Wx P n ds ops Q dets done todo m pend E w := by
  refine h fun i u done2 E2 hl hsub hF hsel _ hc hp a ha hds => ?_
  have hl := eq_of_beq hl
  rw [hl] at hc ⊢
  exact hst i u hF hsel hok hc hp a (ha.weaken hsub) hds

/-! ## Sets -/
theorem look_set {m : List κ} {k : κ} : look (m.map fun k => (k, ())) k = if k ∈ m then some (m.idxOf k, ()) else none := by
  induction m with
  | nil => rfl
  | cons x m ih =>
    simp only [List.map_cons, look]
    by_cases h : x = k
    · subst h; simp
    · rw [if_neg h, ih]
      by_cases hm : k ∈ m
      · rw [if_pos hm, if_pos (List.mem_cons_of_mem _ hm), Option.map_some, List.idxOf_cons]
        have : (x == k) = false := by simpa using h
        rw [this]; rfl
      · rw [if_neg hm, if_neg (by simp [hm, Ne.symm h])]; rfl
theorem delL_set {m : List κ} {k : κ} : delL (m.map fun k => (k, ())) k = (m.erase k).map fun k => (k, ()) := by
  unfold delL
  rw [look_set]
  by_cases h : k ∈ m
  · rw [if_pos h]
    show (m.map fun k => (k, ())).eraseIdx (m.idxOf k) = _
    rw [eraseIdx_map', List.erase_eq_eraseIdx_of_idxOf rfl]
  · rw [if_neg h, List.erase_of_not_mem h]
theorem putL_set {m : List κ} {k : κ} : putL (m.map fun k => (k, ())) k () = (if k ∈ m then m else m ++ [k]).map fun k => (k, ()) := by
  unfold putL
  rw [look_set]
  by_cases h : k ∈ m
  · rw [if_pos h, if_pos h]
    show (m.map fun k => (k, ())).set (m.idxOf k) (k, ()) = _
    have hi := List.idxOf_lt_length_of_mem h
    have : (k, ()) = (m.map fun k => (k, ()))[m.idxOf k]'(by simpa using hi) := by simp
    rw [this, List.set_getElem_self]
  · rw [if_neg h, if_neg h]; simp
/-- Is a key in a set? -/
theorem rv_in {t kt et : TypeId} {kv : κ → Value} {x y : Operand} {b : Nat} {m : List κ} {X : List Nat} (k : κ) (ho : o.op = .lookup t x y false) (ht : P.underlying t = some (.map kt et)) (K : KeyT P kt kv)
    (hz : zrOf P et = some (.bool false)) (hx : Go.Eng.ev E x = some (.map (some b))) (hy : Go.Eng.ev E y = some (kv k)) (hM : ∀ u, Ext X w u → MapL kv (fun (_ : Unit) => .bool true) u b (m.map fun k => (k, ()))) : RunV P n E o X w (.bool (decide (k ∈ m))) := by
  have h := rv_lookup (n := n) k ho ht K hz hx hy hM
  rw [look_set] at h
  by_cases hm : k ∈ m
  · rw [if_pos hm] at h; rw [decide_eq_true hm]; exact h
  · rw [if_neg hm] at h; rw [decide_eq_false hm]; exact h
end
end Go.Eng

/- The facts' walks: the keys of a map, collected. -/
set_option linter.unusedVariables false
set_option maxRecDepth 100000
set_option maxHeartbeats 4000000
set_option linter.unusedSimpArgs false
namespace Go.Proofs.Ytfgckcochilpkaa
open Go Go.Eng

abbrev kvK (k : Ky) : Value := .agg (kc k).toArray
abbrev evT (_ : Unit) : Value := .bool true
theorem keyKy : KeyT Try.prog 38 kvK := by
  refine KeyT.ofEq (d := .struct _) rfl (fun k v => by simp [Instr.sameNow]) (fun e k w => ?_) (fun a b w => eqKy a b w) (fun k => by simp [Instr.sameBits])
  refine run_checkStruct (m := 9999) e rfl w fun f hf => ?_
  simp only [List.mem_cons, List.not_mem_nil, or_false] at hf
  have hck : ∀ (a : Int), (Instr.checkKey e 9999 3 (.int .i64 a)).run Try.prog w = .ok () w := fun a => MapKept.run_checkKey (d := .int .i64) rfl (by simp [MapKept.IsKey]) e 9998
  rcases hf with rfl | rfl | rfl
  · exact ⟨_, run_part rfl rfl w, hck _⟩
  · exact ⟨_, run_part rfl rfl w, hck _⟩
  · exact ⟨_, run_part rfl rfl w, hck _⟩

/-- A set of keys. -/
abbrev setL (l : List Ky) : List (Ky × Unit) := l.map fun k => (k, ())
def yk (k : Ky) : List Value := [kvK k]
theorem yk_inj {a b : Ky} (h : yk a = yk b) : a = b := by
  unfold yk kvK at h
  rw [Ky.eq_iff]
  simpa using h

theorem setL_nodup {l : List Ky} (h : l.Nodup) : (setL l).Nodup := by
  unfold setL
  rw [List.Nodup, List.pairwise_map]
  exact h.imp fun h e => h (congrArg Prod.fst e)
theorem setL_perm {a b : List Ky} (h : (setL a).Perm (setL b)) : a.Perm b := by
  have := h.map Prod.fst
  simpa [List.map_map, Function.comp_def] using this

/-- Where the iterator reads. -/
def KeysS (b1 b : Nat) (x : Nat) : Prop := x = b1 ∨ x = b

end Go.Proofs.Ytfgckcochilpkaa

/- The engine, part twelve: a slice of structs is sorted. -/
set_option linter.unusedVariables false
set_option linter.unusedSimpArgs false
namespace Go.Eng
open Go Go.Sort Go.Shelf

theorem Ext.grows {w w' : World} (h : Ext [] w w') : ∃ q os, w' = grow (w.drewN q) os := by
  refine ⟨w'.drawn - w.drawn, w'.heap.extract w.heap.size w'.heap.size, ?_⟩
  have h1 : w'.heap = w.heap ++ w'.heap.extract w.heap.size w'.heap.size := by
    apply Array.ext_getElem?
    intro k
    rw [Array.getElem?_append]
    split
    · rename_i hk
      exact h.keep k hk (by simp)
    · rename_i hk
      rw [Array.getElem?_extract]
      have := h.size
      by_cases hk2 : k < w'.heap.size
      · rw [if_pos (by omega)]; congr 1; omega
      · rw [if_neg (by omega)]; exact Array.getElem?_eq_none (by omega)
  have h2 := h.drawn
  unfold grow World.drewN
  show w' = { heap := w.heap ++ w'.heap.extract w.heap.size w'.heap.size, tape := w.tape, drawn := w.drawn + (w'.drawn - w.drawn), os := w.os, output := w.output }
  rw [← h1, show w.drawn + (w'.drawn - w.drawn) = w'.drawn by omega, ← h.tape, ← h.os, ← h.output]

section
variable {α : Type} [Inhabited α] {enc : α → List Value} {k : Nat}

theorem flatK_rows (h : ∀ a, (enc a).length = k) (d : Array α) : flatK enc k d = (rowsV enc d.toList).toArray := by
  refine ext_get! (by simp [rowsV_length h]) fun t ht => ?_
  have ht' : t < d.size * k := by simpa using ht
  have k0 : 0 < k := by rcases Nat.eq_zero_or_pos k with h | h; · subst h; simp at ht'
                        · exact h
  have hi : t / k < d.size := Nat.div_lt_of_lt_mul (by rwa [Nat.mul_comm] at ht')
  have hr : t % k < k := Nat.mod_lt _ k0
  have hrow := rowsV_at h (l := d.toList) (i := t / k) (by simpa using hi)
  have h5 : t / k * k + t % k = t := by rw [Nat.mul_comm]; exact Nat.div_add_mod t k
  have h6 := congrArg (fun x => x[t % k]?) hrow
  simp only [List.getElem?_take_of_lt hr, List.getElem?_drop, h5] at h6
  rw [get_flatK _ _ _ _ ht']
  have hlt : t < (rowsV enc d.toList).length := by rw [rowsV_length h]; simpa using ht'
  have hlt2 : t % k < (enc d[t / k]).length := by rw [h]; exact hr
  rw [getElem!_pos d _ hi, getElem!_pos (enc d[t / k]) _ hlt2, getElem!_pos _ t (by simpa using hlt)]
  simp only [List.getElem_toArray]
  simp only [Array.getElem_toList, List.getElem?_eq_getElem hlt, List.getElem?_eq_getElem hlt2, Option.some.injEq] at h6
  exact h6.symm

variable {w : World} {g : Nat} {e : TypeId} {cs : List Value}

theorem holdsK_of_blk (h : ∀ a, (enc a).length = k) {l : List α} (hB : Blk w g e (rowsV enc l ++ cs)) : HoldsK enc k w g 0 l.toArray := by
  intro j hj
  rw [flatK_rows h] at hj ⊢
  have hj' : j < (rowsV enc l).length := by simpa using hj
  unfold Blk at hB
  refine ⟨?_, ?_⟩
  · unfold World.cell?
    simp only [hB, Nat.zero_add, Option.isSome_none, Bool.false_eq_true, if_false]
    rw [getElem!_pos _ j hj]
    simp [List.getElem?_append_left hj', List.getElem?_eq_getElem hj']
  · unfold World.frozen?
    simp [hB]

theorem blk_sortWorld (h : ∀ a, (enc a).length = k) {l : List α} {d' : Array α} (hd : d'.size = l.length) (hB : Blk w g e (rowsV enc l ++ cs)) (n : Nat) (os : Array Obj) : Blk (Go.Proofs.sortWorldK enc k w g 0 n d' os) g e (rowsV enc d'.toList ++ cs) := by
  have hlt := hB.lt
  unfold Go.Proofs.sortWorldK putRowK putRow mapBlock Go.Sort.ahead Go.Sort.grow Blk
  rw [flatK_rows h]
  simp only
  rw [Array.getElem?_append_left (by simpa using hlt), Array.getElem?_modify, if_pos rfl]
  unfold Blk at hB
  rw [hB]
  simp only [Option.map_some, onCells, Option.some.injEq, Obj.cells.injEq, and_true]
  have h1 := rowsV_length h l
  have h2 := rowsV_length h d'.toList
  have h3 : d'.toList.length = l.length := by simpa using hd
  apply Array.ext_getElem?
  intro j
  unfold putCells
  simp only [Array.getElem?_mapIdx, List.getElem?_toArray, Nat.zero_le, true_and, Nat.zero_add, List.size_toArray, Nat.sub_zero, id]
  by_cases hj : j < (rowsV enc d'.toList).length
  · rw [List.getElem?_append_left (by rw [h1, ← h3, ← h2]; exact hj), List.getElem?_append_left hj, List.getElem?_eq_getElem hj, List.getElem?_eq_getElem (by rw [h1, ← h3, ← h2]; exact hj), Option.map_some, if_pos hj, getElem!_pos _ j (by simpa using hj)]
    simp
  · rw [List.getElem?_append_right (by rw [h1, ← h3, ← h2]; omega), List.getElem?_append_right (by omega), show (rowsV enc l).length = (rowsV enc d'.toList).length by rw [h1, h2, h3]]
    cases cs[j - (rowsV enc d'.toList).length]? with
    | none => rfl
    | some v => simp [if_neg hj]

theorem ext_sortWorld (n : Nat) (d' : Array α) (os : Array Obj) : Ext [g] w (Go.Proofs.sortWorldK enc k w g 0 n d' os) := by
  unfold Go.Proofs.sortWorldK putRowK putRow mapBlock Go.Sort.ahead Go.Sort.grow
  refine ⟨rfl, rfl, rfl, by simp, fun j hj hx => ?_, by simp⟩
  simp only
  rw [Array.getElem?_append_left (by simpa using hj), Array.getElem?_modify, if_neg (fun h => hx (by simp [h]))]

theorem pairwise_of_sortedIn {lt : α → α → Bool} {d : Array α} (h : SortedIn lt 0 d.size d) : d.toList.Pairwise fun a b => lt b a = false := by
  rw [List.pairwise_iff_getElem]
  intro i j hi hj hij
  have := h i j (Nat.zero_le _) hij (by simpa using hj)
  rw [getElem!_pos d i (by simpa using hi), getElem!_pos d j (by simpa using hj)] at this
  simpa using this

/-- slices.SortFunc at a row of one's own. -/
theorem sort_own {P : Program} {ρ : Ren} (L : Go.Proofs.SlLaysF0.n6 P ρ) (hA : aggOf P (ρ.t 24) = some true) (hZ : szOf P (ρ.t 24) = some k) (hk : ∀ a, (enc a).length = k) (h1 : ∀ a, ∀ u ∈ enc a, u.oneCell' = true) (cf : α → α → Int) (hO : SWO (Go.Proofs.ltOf cf))
    (gf : FuncId) (cb : Array Value) (hg : callable P gf = true) {base : Nat} {e : TypeId} {l : List α} {p : Option Addr} {c : Nat} {w : World} (ho : w.ownsRow base e k (.slice p l.length c) l.length (rowsV enc l)) (hfew : l.length < 4611686018427387904)
    (hcmp : ∀ x y W, Ext (Value.slice p l.length c).ownBlock.toList w W → Calls P gf (#[.agg (enc x).toArray, .agg (enc y).toArray] ++ cb) W (Ret fun r W' => Ext [] W W' ∧ r = .int .i64 (cf x y))) :
    Calls P (ρ.f 6) #[.slice p l.length c, .func (.func gf) #[] cb] w (Ret fun r w' => Ext (Value.slice p l.length c).ownBlock.toList w w' ∧ ∃ l' : List α, l'.Perm l ∧ l'.Pairwise (fun a b => ¬ cf b a < 0) ∧ w'.ownsRow base e k (.slice p l.length c) l'.length (rowsV enc l')) := by
  rcases Nat.eq_zero_or_pos l.length with h0 | h0
  · obtain rfl := List.eq_nil_of_length_eq_zero h0
    refine (Go.Proofs.AnyF.slices_SortFunc_none L p c _ w).mono ?_
    rintro ev w' ⟨rfl, rfl⟩
    exact ⟨Ext.refl _ _, [], .refl _, List.Pairwise.nil, ho⟩
  · obtain ⟨g, cap, cs, he, hb, hB, hl, hkc, hcc, hxl⟩ := own_blk ho h0
    simp only [Value.slice.injEq, true_and] at he
    obtain ⟨rfl, rfl⟩ := he
    have hX : (Value.slice (some ⟨g, 0, none⟩) l.length c).ownBlock.toList = [g] := rfl
    rw [hX] at hcmp ⊢
    have hsz : l.toArray.size = l.length := by simp
    have hcon := Go.Proofs.AnyQ.slices_SortFunc L k (fun W => run_agg hA W) (fun W => run_szOf hZ W) enc hk h1 cf hO gf cb g 0 c l.toArray w (fun args W => run_callFunc hg args W)
      (fun m os dk hdk x y => ((hcmp x y _ (ext_sortWorld m dk os)).mono fun ev W' hr => by
        cases ev with
        | returned v => obtain ⟨h5, rfl⟩ := hr; exact ⟨rfl, h5.grows⟩
        | panicked c => exact hr.elim
        | outgrown => exact hr.elim)) (holdsK_of_blk hk hB) hB.lt (by rw [hsz]; exact hfew)
    rw [hsz] at hcon
    refine hcon.mono ?_
    rintro ev w' ⟨rfl, d', n, os, hp, hs, rfl⟩
    have hd : d'.size = l.length := by rw [hp.1, hsz]
    refine ⟨ext_sortWorld n d' os, d'.toList, ?_, ?_, ?_⟩
    · have := hp.2.2
      have h2 : d'.extract 0 l.length = d' := by rw [← hd]; simp
      have h3 : l.toArray.extract 0 l.length = l.toArray := by simp
      rw [h2, h3] at this
      simpa using this
    · rw [← hd] at hs
      refine (pairwise_of_sortedIn hs).imp fun h => ?_
      simpa [Go.Proofs.ltOf] using h
    · have hB' := blk_sortWorld hk hd hB n os
      have h5 : d'.toList.length = l.length := by simpa using hd
      rw [h5]
      refine blk_own hb hB' ?_ hkc hcc (by rw [rowsV_length hk, h5])
      rw [List.length_append, rowsV_length hk, h5, ← rowsV_length hk, ← List.length_append]; exact hl

end
end Go.Eng

/- The facts' walks: keys sorted. -/
set_option linter.unusedVariables false
set_option maxRecDepth 100000
set_option maxHeartbeats 4000000
set_option linter.unusedSimpArgs false
namespace Go.Proofs.Ytfgckcochilpkaa
open Go Go.Eng

def sortLay_ren : Go.Shelf.Ren := ⟨fun | 6 => 69 | 15 => 80 | 14 => 79 | 28 => 91 | 29 => 92 | 20 => 83 | 21 => 84 | 22 => 85 | 23 => 86 | 24 => 87 | 25 => 88 | 26 => 89 | 27 => 90 | 46 => 93 | 47 => 94 | 48 => 95 | 49 => 96 | 50 => 97 | 57 => 98 | n => n, fun | 22 => 48 | 24 => 38 | 25 => 99 | 3 => 3 | 39 => 114 | 0 => 0 | 53 => 126 | 55 => 128 | 4 => 4 | 46 => 120 | 45 => 119 | 50 => 71 | 5 => 5 | 9 => 9 | 66 => 129 | 70 => 133 | 76 => 135 | 77 => 136 | n => n, fun | n => n⟩
theorem sortLay : Go.Proofs.SlLaysF0.n6 Try.prog sortLay_ren := {
  mixed := by kernel_rfl
  f6 := ⟨Try.f69.name, by decide, Try.func69.trans (congrArg some (by kernel_rfl))⟩
  f14 := ⟨Try.f79.name, by decide, Try.func79.trans (congrArg some (by kernel_rfl))⟩
  f15 := Try.func80.trans (congrArg some (by kernel_rfl))
  f20 := ⟨Try.f83.name, by decide, Try.func83.trans (congrArg some (by kernel_rfl))⟩
  f21 := ⟨Try.f84.name, by decide, Try.func84.trans (congrArg some (by kernel_rfl))⟩
  f22 := ⟨Try.f85.name, by decide, Try.func85.trans (congrArg some (by kernel_rfl))⟩
  f23 := ⟨Try.f86.name, by decide, Try.func86.trans (congrArg some (by kernel_rfl))⟩
  f24 := ⟨Try.f87.name, by decide, Try.func87.trans (congrArg some (by kernel_rfl))⟩
  f25 := ⟨Try.f88.name, by decide, Try.func88.trans (congrArg some (by kernel_rfl))⟩
  f26 := ⟨Try.f89.name, by decide, Try.func89.trans (congrArg some (by kernel_rfl))⟩
  f27 := ⟨Try.f90.name, by decide, Try.func90.trans (congrArg some (by kernel_rfl))⟩
  f28 := Try.func91.trans (congrArg some (by kernel_rfl))
  f29 := Try.func92.trans (congrArg some (by kernel_rfl))
  f46 := ⟨Try.f93.name, by decide, Try.func93.trans (congrArg some (by kernel_rfl))⟩
  f47 := Try.func94.trans (congrArg some (by kernel_rfl))
  f48 := Try.func95.trans (congrArg some (by kernel_rfl))
  f49 := ⟨Try.f96.name, by decide, Try.func96.trans (congrArg some (by kernel_rfl))⟩
  f50 := ⟨Try.f97.name, by decide, Try.func97.trans (congrArg some (by kernel_rfl))⟩
  f57 := ⟨Try.f98.name, by decide, Try.func98.trans (congrArg some (by kernel_rfl))⟩
  t0 := Try.underlying0
  a0 := Try.isAgg0
  z0 := Try.sizeOf0
  v0 := Try.zeroValue0
  t3 := Try.underlying3
  a3 := Try.isAgg3
  z3 := Try.sizeOf3
  v3 := Try.zeroValue3
  t4 := Try.underlying4
  a4 := Try.isAgg4
  z4 := Try.sizeOf4
  v4 := Try.zeroValue4
  t5 := Try.underlying5
  a5 := Try.isAgg5
  z5 := Try.sizeOf5
  v5 := Try.zeroValue5
  t9 := Try.underlying9
  a9 := Try.isAgg9
  z9 := Try.sizeOf9
  v9 := Try.zeroValue9
  t22 := Try.underlying48
  a22 := Try.isAgg48
  z22 := Try.sizeOf48
  v22 := Try.zeroValue48
  t25 := Try.underlying99
  a25 := Try.isAgg99
  z25 := Try.sizeOf99
  v25 := Try.zeroValue99
  t39 := Try.underlying114
  a39 := Try.isAgg114
  z39 := Try.sizeOf114
  v39 := Try.zeroValue114
  t45 := Try.underlying119
  a45 := Try.isAgg119
  z45 := Try.sizeOf119
  v45 := Try.zeroValue119
  t46 := Try.underlying120
  a46 := Try.isAgg120
  z46 := Try.sizeOf120
  v46 := Try.zeroValue120
  t50 := Try.underlying71
  a50 := Try.isAgg71
  z50 := Try.sizeOf71
  v50 := Try.zeroValue71
  t53 := Try.underlying126
  a53 := Try.isAgg126
  z53 := Try.sizeOf126
  v53 := Try.zeroValue126
  t55 := Try.underlying128
  a55 := Try.isAgg128
  z55 := Try.sizeOf128
  v55 := Try.zeroValue128
  t66 := Try.underlying129
  a66 := Try.isAgg129
  z66 := Try.sizeOf129
  v66 := Try.zeroValue129
  t70 := Try.underlying133
  a70 := Try.isAgg133
  z70 := Try.sizeOf133
  v70 := Try.zeroValue133
  t76 := Try.underlying135
  a76 := Try.isAgg135
  z76 := Try.sizeOf135
  v76 := Try.zeroValue135
  t77 := Try.underlying136
  a77 := Try.isAgg136
  z77 := Try.sizeOf136
  v77 := Try.zeroValue136 }

instance : Inhabited Ky := ⟨⟨0, 0, 0⟩⟩
theorem swoK : Go.Sort.SWO (Go.Proofs.ltOf cmpK) where
  irrefl x := decide_eq_false (fun h => lessK_irrefl x ((cmpK_lt x x).1 h))
  trans x y z h1 h2 := decide_eq_true ((cmpK_lt x z).2 (lessK_trans ((cmpK_lt x y).1 (of_decide_eq_true h1)) ((cmpK_lt y z).1 (of_decide_eq_true h2))))
  ntrans x y z h1 h2 := by
    have h3 : ¬ lessK x y := fun h => of_decide_eq_false h1 ((cmpK_lt x y).2 h)
    have h4 : ¬ lessK y z := fun h => of_decide_eq_false h2 ((cmpK_lt y z).2 h)
    refine decide_eq_false (fun h => ?_)
    have h5 := (cmpK_lt x z).1 h
    unfold lessK at h3 h4 h5; omega

end Go.Proofs.Ytfgckcochilpkaa

/- Branches' walks: keys that meet. -/
set_option linter.unusedVariables false
set_option maxRecDepth 100000
set_option maxHeartbeats 4000000
set_option linter.unusedSimpArgs false
namespace Go.Proofs.Ytfgckcochilpkaa
open Go Go.Eng

/-! ## Plainly -/
def setK (m : List Ky) : List Ky := m.foldl (fun m k => if k ∈ m then m else m ++ [k]) []
theorem setK_fold : ∀ (l m : List Ky), m.Nodup → (l.foldl (fun m k => if k ∈ m then m else m ++ [k]) m).Nodup ∧ ∀ k, k ∈ l.foldl (fun m k => if k ∈ m then m else m ++ [k]) m ↔ k ∈ l ∨ k ∈ m
  | [], m, h => ⟨h, fun k => by simp⟩
  | x :: l, m, h => by
    have h2 : (if x ∈ m then m else m ++ [x]).Nodup := by
      split
      · exact h
      · rename_i hx
        rw [List.nodup_append]
        exact ⟨h, by simp, fun a ha b hb => by simp only [List.mem_singleton] at hb; subst hb; rintro rfl; exact hx ha⟩
    obtain ⟨h3, h4⟩ := setK_fold l _ h2
    refine ⟨h3, fun k => (h4 k).trans ?_⟩
    rw [List.mem_cons]
    split
    · rename_i hx
      constructor
      · rintro (a | a)
        · exact .inl (.inr a)
        · exact .inr a
      · rintro ((a | a) | a)
        · exact .inr (a ▸ hx)
        · exact .inl a
        · exact .inr a
    · rw [List.mem_append, List.mem_singleton]
      constructor
      · rintro (a | a | a)
        · exact .inl (.inr a)
        · exact .inr a
        · exact .inl (.inl a)
      · rintro ((a | a) | a)
        · exact .inr (.inr a)
        · exact .inl a
        · exact .inr (.inl a)
theorem setK_spec (l : List Ky) : (setK l).Nodup ∧ ∀ k, k ∈ setK l ↔ k ∈ l := by
  obtain ⟨h1, h2⟩ := setK_fold l [] List.nodup_nil
  exact ⟨h1, fun k => (h2 k).trans (by simp)⟩
theorem setK_snoc (l : List Ky) (k : Ky) : setK (l ++ [k]) = if k ∈ setK l then setK l else setK l ++ [k] := by
  unfold setK; rw [List.foldl_append]; rfl
def meetS (x : List Ky × List Ky) (k : Ky) : List Ky × List Ky := if k ∈ x.1 then (x.1.erase k, x.2 ++ [k]) else x
def meetL (x : List Ky × List Ky) (ks : List Ky) : List Ky × List Ky := ks.foldl meetS x
theorem meetL_snoc (x : List Ky × List Ky) (ks : List Ky) (k : Ky) : meetL x (ks ++ [k]) = meetS (meetL x ks) k := by
  unfold meetL; rw [List.foldl_append]; rfl
theorem meetL_length : ∀ (ks : List Ky) (x : List Ky × List Ky), (meetL x ks).2.length ≤ x.2.length + ks.length
  | [], x => Nat.le_refl _
  | k :: ks, x => by
    have h1 := meetL_length ks (meetS x k)
    have h2 : (meetS x k).2.length ≤ x.2.length + 1 := by unfold meetS; split <;> simp
    show (meetL (meetS x k) ks).2.length ≤ _
    simp only [List.length_cons]; omega
theorem meetL_spec : ∀ (ks : List Ky) (x : List Ky × List Ky), x.1.Nodup → x.2.Nodup → (∀ k ∈ x.2, k ∉ x.1) → (meetL x ks).2.Nodup ∧ ∀ k, k ∈ (meetL x ks).2 ↔ k ∈ x.2 ∨ k ∈ x.1 ∧ k ∈ ks
  | [], x, h1, h2, h3 => ⟨h2, fun k => by simp [meetL]⟩
  | y :: ks, (m, o), h1, h2, h3 => by
    show (meetL (meetS (m, o) y) ks).2.Nodup ∧ ∀ k, k ∈ (meetL (meetS (m, o) y) ks).2 ↔ _
    dsimp only at h1 h2 h3 ⊢
    by_cases hy : y ∈ m
    · have e : meetS (m, o) y = (m.erase y, o ++ [y]) := if_pos hy
      rw [e]
      have hyo : y ∉ o := fun h => h3 y h hy
      obtain ⟨a, b⟩ := meetL_spec ks (m.erase y, o ++ [y]) (h1.erase y) (by
        rw [List.nodup_append]
        exact ⟨h2, by simp, fun p hp q hq => by simp only [List.mem_singleton] at hq; subst hq; rintro rfl; exact hyo hp⟩) (fun k hk => by
        rw [h1.mem_erase_iff]
        rcases List.mem_append.1 hk with h | h
        · exact fun h4 => h3 k h h4.2
        · exact fun h4 => h4.1 (List.mem_singleton.1 h))
      refine ⟨a, fun k => (b k).trans ?_⟩
      dsimp only
      rw [h1.mem_erase_iff, List.mem_append, List.mem_singleton, List.mem_cons]
      constructor
      · rintro ((h | h) | ⟨⟨h, h4⟩, h5⟩)
        · exact .inl h
        · exact .inr ⟨h ▸ hy, .inl h⟩
        · exact .inr ⟨h4, .inr h5⟩
      · rintro (h | ⟨h, h4⟩)
        · exact .inl (.inl h)
        · by_cases hk : k = y
          · exact .inl (.inr hk)
          · exact .inr ⟨⟨hk, h⟩, h4.resolve_left hk⟩
    · have e : meetS (m, o) y = (m, o) := if_neg hy
      rw [e]
      obtain ⟨a, b⟩ := meetL_spec ks (m, o) h1 h2 h3
      refine ⟨a, fun k => (b k).trans ?_⟩
      dsimp only
      rw [List.mem_cons]
      constructor
      · rintro (h | ⟨h, h4⟩)
        · exact .inl h
        · exact .inr ⟨h, .inr h4⟩
      · rintro (h | ⟨h, h4⟩)
        · exact .inl h
        · exact .inr ⟨h, h4.resolve_left (fun h5 => hy (h5 ▸ h))⟩
theorem meet_conf {b : Br} {i : Nat} {ks : List Ky} (hp : ks.Perm (meetL (setK ((brB b i).map Cr.key), []) (freshK b i)).2) (hs : ks.Pairwise (fun a b => ¬ lessK b a)) : ks = confB b i := by
  obtain ⟨h1, h2⟩ := setK_spec ((brB b i).map Cr.key)
  obtain ⟨h3, h4⟩ := meetL_spec (freshK b i) (setK ((brB b i).map Cr.key), []) h1 List.nodup_nil (fun k h => by cases h)
  refine confB_unique hs (hp.nodup_iff.2 h3) fun k => ?_
  rw [hp.mem_iff, h4]
  dsimp only
  rw [h2]
  simp
theorem sl_drop {α : Type} {enc : α → List Value} {m : Nat} (h : ∀ a, (enc a).length = m) {w : World} {p : Option Addr} {A : Addr} {l : List α} {c : Nat} (hs : SlV enc w p A l c) {k : Nat} (hk : k ≤ l.length) : SlV enc w (if c = k then p else p.map (·.add (k * m))) (A.add (k * m)) (l.drop k) (c - k) := by
  have hle := hs.le
  have hsm := hs.small
  have hfe := hs.few
  have hl : (l.drop k).length = l.length - k := List.length_drop
  refine ⟨fun h0 => ?_, ?_, by omega, by omega, by omega⟩
  · rw [if_neg (by omega), hs.ptr (by omega)]; rfl
  · rw [← rowsV_drop h]; exact hs.row.drop _

/-! ## The closure -/
structure Meet (b4 b5 g base : Nat) (x : List Ky × List Ky) (w : World) : Prop where
  mv : Blk w b5 61 [.map (some g)]
  mp : MapL kvK evT w g (setL x.1)
  lv : ∃ v, Blk w b4 48 [v] ∧ OwnK base w v x.2
  lt4 : b4 < base
  lt5 : b5 < base
  ltg : g < base
  n45 : b4 ≠ b5
  n4g : b4 ≠ g
  n5g : b5 ≠ g
  low : base ≤ w.heap.size
theorem Meet.ext0 {b4 b5 g base : Nat} {x : List Ky × List Ky} {w w' : World} (h : Meet b4 b5 g base x w) (he : Ext [] w w') : Meet b4 b5 g base x w' :=
  ⟨h.mv.ext he (by simp), h.mp.ext0 he, h.lv.imp fun v hv => ⟨hv.1.ext he (by simp), own_keep0 hv.2 he⟩, h.lt4, h.lt5, h.ltg, h.n45, h.n4g, h.n5g, Nat.le_trans h.low he.size⟩

theorem meet_at (b4 b5 g base : Nat) (x : List Ky × List Ky) (k : Ky) (w0 w : World) (h : Meet b4 b5 g base x w) (he : Ext [] w0 w) (h4 : w0.heap.size ≤ b4) (hg0 : w0.heap.size ≤ g) (ho : x.2.length ≤ 100000) :
    Calls Try.prog 68 (#[.agg (kc k).toArray] ++ #[.pointer (some ⟨b5, 0, none⟩), .pointer (some ⟨b4, 0, none⟩)]) w (Ret fun r w' => Ext [] w0 w' ∧ Meet b4 b5 g base (meetS x k) w') := by
  show Calls Try.prog 68 #[.agg (kc k).toArray, .pointer (some ⟨b5, 0, none⟩), .pointer (some ⟨b4, 0, none⟩)] w _
  obtain ⟨m, o⟩ := x
  obtain ⟨mv, mp, ⟨v, lv, ov⟩, lt4, lt5, ltg, n45, n4g, n5g, low⟩ := h
  dsimp only at mp ov ho
  have hC5 : Cells w ⟨b5, 0, none⟩ [.map (some g)] := mv.cells
  have hC4 : Cells w ⟨b4, 0, none⟩ [v] := lv.cells
  refine calls_of_Sx (args := [.agg (kc k).toArray, .pointer (some ⟨b5, 0, none⟩), .pointer (some ⟨b4, 0, none⟩)]) Try.func68 rfl rfl ?_
  refine ztx ?_
  refine Ox.act rfl rfl (acts_box rfl rfl) ?_
  rintro vb3 wb3 ⟨eb3, bb3, rfl, hbb3, hBb3⟩
  first | (have hCb3 : Cells wb3 ⟨bb3, 0, none⟩ [_, _, _] := hBb3.cells) | have hCb3 := Blk.cellsL hBb3
  have hlb3 := hBb3.lt
  have hzb3 := eb3.size
  refine Ox.fin ?_
  refine ztx ?_
  refine Ox.val rfl rfl zrs ?_
  refine Ox.val rfl rfl zra ?_
  refine Ox.val rfl rfl (rv_in k rfl rfl keyKy rfl rfl rfl (fun u hu => mp.ext0 zxc)) ?_
  refine Ox.fin ?_
  have hl3 := hBb3.lt
  have hz3 := eb3.size
  have hl4 := lv.lt
  have hl5 := mv.lt
  by_cases hk : k ∈ m; rotate_left
  · rw [decide_eq_false hk]
    refine zcf ?_
    refine zsk ?_
    have e9 : meetS (m, o) k = (m, o) := if_neg hk
    exact endE_normal [] trivial ⟨he.trans zxc, by rw [e9]; exact (Meet.mk mv mp ⟨v, lv, ov⟩ lt4 lt5 ltg n45 n4g n5g low : Meet b4 b5 g base (m, o) w).ext0 zxc⟩
  have e9 : meetS (m, o) k = (m.erase k, o ++ [k]) := if_pos hk
  rw [decide_eq_true hk]
  refine zct ?_
  refine ztx ?_
  refine Ox.val rfl rfl zrs ?_
  refine Ox.val rfl rfl zra ?_
  refine Ox.act rfl rfl (acts_buildSlice (ps := [(0, .tmp 8)]) rfl rfl rfl rfl rfl rfl rfl rfl) ?_
  rintro vn2 wn2 ⟨en2, bn2, rfl, hbn2, hBn2⟩
  first | (have hCn2 : Cells wn2 ⟨bn2, 0, none⟩ [_, _, _] := hBn2.cells) | have hCn2 := Blk.cellsL hBn2
  have hln2 := hBn2.lt
  have hzn2 := en2.size
  refine Ox.act rfl rfl (acts_append (e := 38) (size := 3) (bytes := 24) rfl rfl rfl rfl (own_keep0 ov zxc) (source_slice (m := 1) (news := kc k) rfl rfl (fun _ => rfl) (hCn2.ext0 zxc) (kc_one _)) (by first | omega | (dsimp only; omega)) (by first | omega | (dsimp only; omega)) (by omega)) ?_
  rintro va2 wa2 hga2
  have hB4a : Blk wa2 b4 48 [v] := (lv.ext (X := []) (w' := wn2) zxc (by simp)).ext hga2.ext (fun hm => by have := (own_lt ov _ hm).1; omega)
  have hB5a : Blk wa2 b5 61 [.map (some g)] := (mv.ext (X := []) (w' := wn2) zxc (by simp)).ext hga2.ext (fun hm => by have := (own_lt ov _ hm).1; omega)
  have hMa : MapL kvK evT wa2 g (setL m) := (mp.ext0 (w' := wn2) zxc).ext hga2.ext (fun hm => by have := (own_lt ov _ hm).1; omega)
  have hB3a := (hBb3.ext (X := []) (w' := wn2) zxc (by simp)).ext hga2.ext (fun hm => by have := (own_lt ov _ hm).2; omega)
  have ea2 : Ext [] w0 wa2 := hga2.ext0 (w0 := w0) (he.trans zxc) (fun g' hg' => by have := (own_lt ov g' (by simp [hg'])).1; have := he.size; omega)
  obtain ⟨pv, cv, Av, rfl, _, _⟩ := SlV.of_own (enc := kc) (l := o ++ [k]) (by have h9 := hga2.own; rw [List.length_append, rowsV_append, rowsV_one]; exact h9) (by rw [List.length_append]; simp; omega)
  refine Ox.act rfl rfl (acts_store_all rfl rfl rfl hB4a rfl rfl rfl (by (first | assumption | exact List.all_eq_true.mp rfl | simp [Value.cells, Value.oneCell']))) ?_
  rintro vs2 ws2 ⟨rfl, qs2, hBs2⟩
  have hB4s : Blk ws2 b4 48 [.slice pv (o ++ [k]).length cv] := hBs2
  have hB5s := hB5a.ext qs2 (by simp; omega)
  have hMs := hMa.ext qs2 (by simp; omega)
  have hB3s := hB3a.ext qs2 (by simp; omega)
  have hos := own_keep hga2.own qs2 (fun g' hg' hm => by have h8 := (own_lt hga2.own g' (by rw [hg']; exact List.mem_singleton.2 rfl)).1; rw [List.mem_singleton.1 hm] at h8; omega)
  have es2 : Ext [] w0 ws2 := Ext.renew ea2 qs2 h4
  have hC5s : Cells ws2 ⟨b5, 0, none⟩ [.map (some g)] := hB5s.cells
  have hC3s : Cells ws2 ⟨bb3, 0, none⟩ (kc k) := hB3s.cells
  refine Ox.fin ?_
  refine ztx ?_
  refine Ox.val rfl rfl zrs ?_
  refine Ox.val rfl rfl zra ?_
  refine Ox.act rfl rfl (acts_delete k rfl rfl keyKy rfl rfl hMs) ?_
  rintro vd3 wd3 ⟨rfl, qd3, hMd3⟩
  refine Ox.fin ?_
  have hzs := es2.size
  have hya := hga2.ext.size
  have hys := qs2.size
  have hzn := en2.size
  have hyd := qd3.size
  refine endE_normal [] trivial ⟨Ext.renew es2 qd3 hg0, ?_⟩
  rw [e9]
  refine ⟨hB5s.ext qd3 (by simp; omega), by have h9 := hMd3; rw [show delL (setL m) k = setL (m.erase k) from delL_set] at h9; exact h9, ⟨_, hB4s.ext qd3 (by simp; omega), ?_⟩, lt4, lt5, ltg, n45, n4g, n5g, by omega⟩
  have h8 := own_keep hos qd3 (fun g' hg' hm => by have h8 := (own_lt hos g' (by rw [hg']; exact List.mem_singleton.2 rfl)).1; rw [List.mem_singleton.1 hm] at h8; omega)
  show World.ownsRow wd3 base 38 3 (.slice pv (o ++ [k]).length cv) (o ++ [k]).length (rowsV kc (o ++ [k]))
  rw [rowsV_append, rowsV_one]
  exact (congrArg (fun n => World.ownsRow wd3 base 38 3 (.slice pv (o ++ [k]).length cv) n (rowsV kc o ++ kc k)) (show (o ++ [k]).length = o.length + 1 by simp)).mpr h8

theorem meetCmp_at (a b : Ky) (w : World) : Calls Try.prog 70 #[.agg (kc a).toArray, .agg (kc b).toArray] w (Ret fun r w' => Ext [] w w' ∧ r = .int .i64 (cmpK a b)) := by
  refine calls_of_Sx (args := [.agg (kc a).toArray, .agg (kc b).toArray]) Try.func70 rfl rfl ?_
  refine ztx ?_
  refine Ox.act rfl rfl (acts_box rfl rfl) ?_
  rintro vbx wbx ⟨ebx, bbx, rfl, hbbx, hBbx⟩
  first | (have hCbx : Cells wbx ⟨bbx, 0, none⟩ [_, _, _] := hBbx.cells) | have hCbx := Blk.cellsL hBbx
  have hlbx := hBbx.lt
  have hzbx := ebx.size
  refine Ox.act rfl rfl (acts_box rfl rfl) ?_
  rintro vby wby ⟨eby, bby, rfl, hbby, hBby⟩
  first | (have hCby : Cells wby ⟨bby, 0, none⟩ [_, _, _] := hBby.cells) | have hCby := Blk.cellsL hBby
  have hlby := hBby.lt
  have hzby := eby.size
  refine Ox.pure rfl rfl zas ?_
  refine Ox.fin ?_
  (repeat refine Sx.seq ?_)
  refine Sx.walkR rfl (fun _ _ _ _ h => h) [0, 1, 2, 3, 5, 6, 7, 8, 10, 11, 12, 13, 4, 9, 14, 15, 16, 17] [0, 1, 2, 3, 5, 6, 7, 8, 10, 11, 12, 13, 17] (0) (by kernel_rfl) ?_
  intro hq w1 e1; have hz1 := e1.size
  refine Wx.pure hq rfl rfl rfl rfl zfa ?_
  refine Wx.val hq rfl rfl rfl rfl ([]) zrs ?_
  refine Wx.pure hq rfl rfl rfl rfl zfa ?_
  refine Wx.val hq rfl rfl rfl rfl ([]) zrs ?_
  refine Wx.pure hq rfl rfl rfl rfl zfa ?_
  refine Wx.val hq rfl rfl rfl rfl ([]) zrs ?_
  refine Wx.pure hq rfl rfl rfl rfl zfa ?_
  refine Wx.val hq rfl rfl rfl rfl ([]) zrs ?_
  refine Wx.pure hq rfl rfl rfl rfl zfa ?_
  refine Wx.val hq rfl rfl rfl rfl ([]) zrs ?_
  refine Wx.pure hq rfl rfl rfl rfl zfa ?_
  refine Wx.val hq rfl rfl rfl rfl ([]) zrs ?_
  refine Wx.actNew rfl rfl rfl rfl (acts_call rfl rfl rfl (compareI_at a.k b.k _)) ?_
  rintro v2 w2 e2 rfl
  have hz2 := e2.size
  refine Wx.actNew rfl rfl rfl rfl (acts_call rfl rfl rfl (compareI_at a.s b.s _)) ?_
  rintro v3 w3 e3 rfl
  have hz3 := e3.size
  refine Wx.actNew rfl rfl rfl rfl (acts_call rfl rfl rfl (compareI_at a.o b.o _)) ?_
  rintro v4 w4 e4 rfl
  have hz4 := e4.size
  refine Wx.actNew rfl rfl rfl rfl (acts_buildSlice (ps := [(0, .tmp 9), (1, .tmp 14), (2, .tmp 19)]) rfl rfl rfl rfl rfl rfl rfl rfl) ?_
  rintro vbs wbs ebs ⟨bbs, rfl, hbbs, hBbs⟩
  first | (have hCbs : Cells wbs ⟨bbs, 0, none⟩ [_, _, _] := hBbs.cells) | have hCbs := Blk.cellsL hBbs
  have hlbs := hBbs.lt
  have hzbs := ebs.size
  refine Wx.actNew rfl rfl rfl rfl (acts_call rfl rfl rfl (or_at [cmpI a.k b.k, cmpI a.s b.s, cmpI a.o b.o] (some ⟨bbs, 0, none⟩) ⟨bbs, 0, none⟩ 3 _ ⟨fun _ => rfl, hCbs, by simp, by simp, by simp⟩)) ?_
  rintro v5 w5 e5 rfl
  have hz5 := e5.size
  refine Wx.pure hq rfl rfl rfl rfl zas ?_
  refine Wx.fin ?_
  refine zrt ?_
  exact endE_ret [_] ⟨rfl, trivial⟩ ⟨zxc, rfl⟩
theorem sortM_at (ks : List Ky) (base : Nat) (p : Option Addr) (c : Nat) (w : World) (ho : OwnK base w (.slice p ks.length c) ks) (hl : ks.length ≤ 1000000) :
    Calls Try.prog 69 #[.slice p ks.length c, .func (.func 70) #[] #[]] w (Ret fun r w' => Ext (Value.slice p ks.length c).ownBlock.toList w w' ∧ ∃ ks' : List Ky, ks'.Perm ks ∧ ks'.Pairwise (fun a b => ¬ lessK b a) ∧ OwnK base w' (.slice p ks.length c) ks') := by
  have := sort_own sortLay (k := 3) (enc := kc) rfl rfl kc_len kc_one cmpK swoK 70 #[] rfl ho (by omega) (fun x y W _ => meetCmp_at x y W)
  refine Calls.mono this ?_
  intro e w' h
  cases e with
  | returned v =>
    obtain ⟨h1, ks', h2, h3, h4⟩ := h
    exact ⟨h1, ks', h2, h3.imp (fun h5 h6 => h5 ((cmpK_lt _ _).2 h6)), h4⟩
  | panicked c => exact h.elim
  | outgrown => exact h.elim

end Go.Proofs.Ytfgckcochilpkaa

/- Branches' walks: conflicts. -/
set_option linter.unusedVariables false
set_option maxRecDepth 100000
set_option maxHeartbeats 4000000
set_option linter.unusedSimpArgs false
namespace Go.Proofs.Ytfgckcochilpkaa
open Go Go.Eng

theorem conflicts_at (s : Bs) (hf : Formed s.br) (hsm : Small s) (no : Int) (h0 : 0 ≤ no) (h1 : no < (s.bls.length : Int)) (w : World) (hin : BsIn s w) :
    Calls Try.prog 48 #[.agg (bvc s).toArray, .int .i64 no] w (Ret fun r w' => Ext [] w w' ∧ ∃ (p : Option Addr) (c : Nat), r = .slice p (confB s.br no.toNat).length c ∧ OwnK w.heap.size w' (.slice p (confB s.br no.toNat).length c) (confB s.br no.toNat)) := by
  have hbl := br_len s
  obtain ⟨f1, f2, f3, f4, f5⟩ := id hf
  have hib : no.toNat < s.bls.length := by omega
  obtain ⟨⟨g1, g2⟩, g3, g4⟩ := f5 no.toNat (by omega)
  have hip : no.toNat < s.par.length := by have : s.par.length = s.br.brs.length := f2; omega
  have hik : no.toNat < s.fks.length := by have : s.fks.length = s.br.brs.length := f3; omega
  obtain ⟨fk, hfk⟩ : ∃ fk : Nat, fkB s.br no.toNat = (fk : Int) := ⟨(fkB s.br no.toNat).toNat, by omega⟩
  have hbp := hin.bls.ptr
  have hbr := hin.bls.row
  have hpp := hin.par.ptr
  have hpr := hin.par.row
  have hkp := hin.fks.ptr
  have hkr := hin.fks.row
  have hLp : ∀ u, Ext [] w u → Ld Try.prog u 3 (s.A2.add (no.toNat * 1 + 0)) (.int .i64 (parB s.br no.toNat)) := fun u hu => by
    rw [parB_eq hip]; exact ld_field ic_len (hpr.ext0 hu) hip 0 rfl (by decide) rfl
  have hLk : ∀ u, Ext [] w u → Ld Try.prog u 3 (s.A3.add (no.toNat * 1 + 0)) (.int .i64 (fk : Int)) := fun u hu => by
    rw [← hfk, fkB_eq hik]; exact ld_field ic_len (hkr.ext0 hu) hik 0 rfl (by decide) rfl
  have hLb : ∀ u, Ext [] w u → Ld Try.prog u 59 (s.A1.add (no.toNat * 1 + 0)) (.slice s.bls[no.toNat].p s.bls[no.toNat].l.length s.bls[no.toNat].c) := fun u hu => ld_field blc_len (hbr.ext0 hu) hib 0 rfl (by decide) rfl
  obtain ⟨Ab, hsb⟩ := hin.sub _ (List.getElem_mem hib)
  have hbe := brB_eq (s := s) hib
  obtain ⟨cs, hcs⟩ : ∃ cs, cs = s.bls[no.toNat].l := ⟨_, rfl⟩
  obtain ⟨q, hq⟩ : ∃ q, q = s.bls[no.toNat].p := ⟨_, rfl⟩
  obtain ⟨d, hd⟩ : ∃ d, d = s.bls[no.toNat].c := ⟨_, rfl⟩
  rw [← hcs, ← hq, ← hd] at hLb hsb
  rw [← hcs] at hbe
  have hsbp := hsb.ptr
  have hsbr := hsb.row
  have hsbf := hsb.few
  refine calls_of_Sx (args := [.agg (bvc s).toArray, .int .i64 no]) Try.func48 rfl rfl ?_
  refine ztx ?_
  refine Ox.act rfl rfl (acts_box rfl rfl) ?_
  rintro vb2 wb2 ⟨eb2, bb2, rfl, hbb2, hBb2⟩
  first | (have hCb2 : Cells wb2 ⟨bb2, 0, none⟩ [_, _, _, _, _] := hBb2.cells) | have hCb2 := Blk.cellsL hBb2
  have hlb2 := hBb2.lt
  have hzb2 := eb2.size
  refine Ox.act rfl rfl (acts_alloc rfl rfl) ?_
  rintro vb4 wb4 ⟨eb4, bb4, rfl, hbb4, hBb4⟩
  first | (have hCb4 : Cells wb4 ⟨bb4, 0, none⟩ [_] := hBb4.cells) | have hCb4 := Blk.cellsL hBb4
  have hlb4 := hBb4.lt
  have hzb4 := eb4.size
  refine Ox.fin ?_
  refine ztx ?_
  refine Ox.act rfl rfl (acts_makeMap kvK evT rfl) ?_
  rintro vmk wmk ⟨emk, gm, rfl, hgm, hMmk⟩
  have hzmk := emk.size
  have hzmk := emk.size
  have hlmk := hMmk.lt
  refine Ox.act rfl rfl (acts_alloc rfl rfl) ?_
  rintro vb5 wb5 ⟨eb5, bb5, rfl, hbb5, hBb5⟩
  first | (have hCb5 : Cells wb5 ⟨bb5, 0, none⟩ [_] := hBb5.cells) | have hCb5 := Blk.cellsL hBb5
  have hlb5 := hBb5.lt
  have hzb5 := eb5.size
  refine Ox.act rfl rfl (acts_store_all rfl rfl rfl hBb5 rfl (by first | rfl | assumption) (by first | rfl | assumption) (by (first | assumption | exact List.all_eq_true.mp rfl | simp [Value.cells, Value.oneCell']))) ?_
  rintro vs1 ws1 ⟨rfl, qs1, hBs1⟩
  have es1 := Ext.renew eb5 qs1 hbb5
  have hzs1 := es1.size
  have hls1 := hBs1.lt
  first | (have hCs1 : Cells ws1 ⟨bb5, 0, none⟩ [_] := hBs1.cells) | have hCs1 := Blk.cellsL hBs1
  refine Ox.fin ?_
  refine ztx ?_
  refine Ox.pure rfl rfl zfa ?_
  refine Ox.val rfl rfl zrs ?_
  refine Ox.pure rfl rfl zmv ?_
  refine Ox.pure rfl rfl (rp_indexAddr no.toNat rfl rfl rfl rfl rfl hbp (by omega) hib) ?_
  refine Ox.val rfl rfl (rv_load rfl rfl (fun u hu => hLb u zxc)) ?_
  refine Ox.pure rfl rfl (rp_lenS rfl rfl rfl) ?_
  refine Ox.pure rfl rfl zmv ?_
  refine Ox.fin ?_
  refine zbl ?_
  have hl4 := hBb4.lt
  have hn4 : bb4 ≠ gm := by have := hBb4.lt; omega
  have hn5 : bb5 ≠ gm := by omega
  have hn45 : bb4 ≠ bb5 := by have := hBb4.lt; omega
  refine Sx.loop (ι := Nat) (fun i E wr => E = [(1, .int .i64 no), (2, .pointer (some ⟨bb2, 0, none⟩)), (4, .pointer (some ⟨bb4, 0, none⟩)), (5, .pointer (some ⟨bb5, 0, none⟩)), (19, .slice q cs.length d), (20, .int .i64 (cs.length : Int)), (21, .int .i64 (i : Int))] ∧ i ≤ cs.length ∧ Ext [gm] ws1 wr ∧ MapL kvK evT wr gm (setL (setK ((cs.take i).map Cr.key)))) (fun i => cs.length - i) 0
    (sub_cons rfl (sub_cons rfl (sub_cons rfl (sub_cons rfl (sub_cons rfl (sub_cons rfl (sub_cons rfl sub_nil))))))) ⟨rfl, Nat.zero_le _, Ext.refl _ _, hMmk.ext0 zxc⟩ ?_
  rintro i E wr ⟨rfl, hi, er, hM⟩
  have hz := er.size
  have er2 : Ext [] wb2 wr := Ext.renew zxc er (by omega)
  have hB5 : Blk wr bb5 61 [.map (some gm)] := hBs1.ext er (by simp; omega)
  have hC5 := hB5.cells
  by_cases hlt : i < cs.length
  · have hst : setK ((cs.take (i + 1)).map Cr.key) = if cs[i].key ∈ setK ((cs.take i).map Cr.key) then setK ((cs.take i).map Cr.key) else setK ((cs.take i).map Cr.key) ++ [cs[i].key] := by
      rw [List.take_succ_eq_append_getElem hlt, List.map_append]
      exact setK_snoc _ _
    refine ztx ?_
    refine Ox.pure rfl rfl zbc ?_
    refine Ox.fin ?_
    refine zct ?_
    refine zsk ?_
    refine zbl ?_
    refine ztx ?_
    refine Ox.pure rfl rfl (rp_indexAddr i rfl rfl rfl rfl rfl hsbp rfl hlt) ?_
    refine Ox.val rfl rfl (rv_load rfl rfl (fun u hu => ld_elem cc_len (hsbr.ext0 zxc) hlt rfl rfl)) ?_
    refine Ox.act rfl rfl (acts_alloc rfl rfl) ?_
    rintro vx4 wx4 ⟨ex4, bx4, rfl, hbx4, hBx4⟩
    first | (have hCx4 : Cells wx4 ⟨bx4, 0, none⟩ [_, _, _, _, _, _] := hBx4.cells) | have hCx4 := Blk.cellsL hBx4
    have hlx4 := hBx4.lt
    have hzx4 := ex4.size
    refine Ox.act rfl rfl (acts_store_all rfl rfl rfl hBx4 rfl (by first | rfl | assumption) (by first | rfl | assumption) (by (first | assumption | exact List.all_eq_true.mp rfl | simp [Value.cells, Value.oneCell']))) ?_
    rintro vy4 wy4 ⟨rfl, qy4, hBy4⟩
    have ey4 := Ext.renew ex4 qy4 hbx4
    have hzy4 := ey4.size
    have hly4 := hBy4.lt
    first | (have hCy4 : Cells wy4 ⟨bx4, 0, none⟩ [_, _, _, _, _, _] := hBy4.cells) | have hCy4 := Blk.cellsL hBy4
    refine Ox.fin ?_
    refine ztx ?_
    refine Ox.val rfl rfl zrs ?_
    refine Ox.pure rfl rfl zfa ?_
    refine Ox.val rfl rfl zra ?_
    refine Ox.act rfl rfl (acts_mapUpdate cs[i].key () rfl rfl keyKy rfl rfl rfl (hM.ext0 zxc)) ?_
    rintro vu5 wu5 ⟨rfl, qu5, hMu5⟩
    refine Ox.fin ?_
    refine ztx ?_
    refine Ox.pure rfl rfl zba ?_
    refine Ox.pure rfl rfl zmv ?_
    refine Ox.fin ?_
    refine ⟨i + 1, _, sub_cons rfl (sub_cons rfl (sub_cons rfl (sub_cons rfl (sub_cons rfl (sub_cons rfl (sub_cons rfl sub_nil)))))), ⟨rfl, hlt, er.trans ((Ext.up zxc).trans qu5), ?_⟩, by omega⟩
    rw [hst]
    have h9 := hMu5
    rw [show putL (setL (setK ((cs.take i).map Cr.key))) cs[i].key () = setL (if cs[i].key ∈ setK ((cs.take i).map Cr.key) then setK ((cs.take i).map Cr.key) else setK ((cs.take i).map Cr.key) ++ [cs[i].key]) from putL_set] at h9
    exact h9
  obtain rfl : i = cs.length := by omega
  rw [List.take_length] at hM
  have hM0 : Meet bb4 bb5 gm ws1.heap.size (setK (cs.map Cr.key), []) wr :=
    ⟨hB5, hM, ⟨.slice none 0 0, ((hBb4.ext (X := []) (w' := ws1) zxc (by simp)).ext er (by simp; omega)), World.ownsRow_nil _ _ _ _⟩, by omega, hBs1.lt, by omega, hn45, hn4, hn5, hz⟩
  obtain ⟨x0, hx0⟩ : ∃ x0, x0 = (setK (cs.map Cr.key), ([] : List Ky)) := ⟨_, rfl⟩
  rw [← hx0] at hM0
  have hx02 : x0.2.length = 0 := by rw [hx0]; rfl
  refine ztx ?_
  refine Ox.pure rfl rfl zbc ?_
  refine Ox.fin ?_
  refine zcf ?_
  refine zex ?_
  refine ztx ?_
  refine Ox.pure rfl rfl (rp_makeFunc rfl rfl rfl) ?_
  refine Ox.pure rfl rfl zas ?_
  refine Ox.fin ?_
  refine ztx ?_
  refine Ox.pure rfl rfl zfa ?_
  refine Ox.val rfl rfl zrs ?_
  refine Ox.pure rfl rfl zmv ?_
  refine Ox.pure rfl rfl (rp_indexAddr no.toNat rfl rfl rfl rfl rfl hpp (by omega) hip) ?_
  refine Ox.val rfl rfl (rv_load rfl rfl (fun u hu => hLp u zxc)) ?_
  refine Ox.pure rfl rfl zas ?_
  refine Ox.fin ?_
  refine ztx ?_
  refine Ox.pure rfl rfl zmv ?_
  refine Ox.pure rfl rfl zbc ?_
  refine Ox.fin ?_
  refine (Sx.upto (fun E' w' => (∀ t u, get [(4, .pointer (some ⟨bb4, 0, none⟩))] t = some u → get E' t = some u) ∧ Ext [] wb2 w' ∧ Meet bb4 bb5 gm ws1.heap.size (meetL x0 (freshK s.br no.toNat)) w') ?_ ?_)
  · by_cases hp0 : parB s.br no.toNat < 0
    · have hlb : lenB s.br (parB s.br no.toNat) = s.base.length := by unfold lenB; rw [if_pos hp0]; rfl
      have hfk2 : fk ≤ s.base.length := by omega
      have hfresh : freshK s.br no.toNat = (s.base.drop fk).map Fct.key := by unfold freshK; rw [if_pos hp0, hfk]; rfl
      have hfs := sl_drop fc_len hin.base hfk2
      have hdl : (s.base.drop fk).length = s.base.length - fk := List.length_drop
      have hble := hin.base.le
      have hsmb := hsm.base
      refine zct ?_
      (repeat refine Sx.seq ?_)
      refine Sx.walkR rfl (fun _ _ _ _ h => h) [0, 1, 2, 3, 4, 5, 6, 7, 8, 9] [0, 1, 2, 3, 4, 5, 6, 7, 8, 9] (0) (by kernel_rfl) ?_
      intro hq w1 e1; have hz1 := e1.size
      refine Wx.pure hq rfl rfl rfl rfl zfa ?_
      refine Wx.val hq rfl rfl rfl rfl ([]) zrs ?_
      refine Wx.pure hq rfl rfl rfl rfl zfa ?_
      refine Wx.val hq rfl rfl rfl rfl ([]) zrs ?_
      refine Wx.pure hq rfl rfl rfl rfl zmv ?_
      refine Wx.pure hq rfl rfl rfl rfl (rp_indexAddr no.toNat rfl rfl rfl rfl rfl hkp (by omega) hik) ?_
      refine Wx.val hq rfl rfl rfl rfl ([]) (rv_load rfl rfl (fun u hu => hLk u zxc)) ?_
      refine Wx.pure hq rfl rfl rfl rfl (rp_sliceS fk s.base.length rfl rfl rfl rfl rfl rfl (.inr ⟨_, rfl⟩) (.inl ⟨rfl, rfl⟩) hfk2 hble) ?_
      refine Wx.pure hq rfl rfl rfl rfl (rp_lenS rfl rfl rfl) ?_
      refine Wx.pure hq rfl rfl rfl rfl zmv ?_
      refine Wx.fin ?_
      refine zbl ?_
      rw [hfresh]
      rw [← hdl]
      have hflen : (s.base.drop fk).length ≤ 1000 := by omega
      refine Sx.loop (ι := Nat) (fun i E wk => E = [(4, .pointer (some ⟨bb4, 0, none⟩)), (8, .func (.func 68) #[] #[.pointer (some ⟨bb5, 0, none⟩), .pointer (some ⟨bb4, 0, none⟩)]), (44, .slice (if s.c0 = fk then s.p0 else s.p0.map (·.add (fk * 8))) (s.base.drop fk).length (s.c0 - fk)), (45, .int .i64 ((s.base.drop fk).length : Int)), (46, .int .i64 (i : Int))] ∧ i ≤ (s.base.drop fk).length ∧ Ext [] wb2 wk ∧ Meet bb4 bb5 gm ws1.heap.size (meetL x0 (((s.base.drop fk).take i).map Fct.key)) wk) (fun i => (s.base.drop fk).length - i) 0
        (sub_cons rfl (sub_cons rfl (sub_cons rfl (sub_cons rfl (sub_cons rfl sub_nil))))) ⟨rfl, Nat.zero_le _, zxc, hM0.ext0 zxc⟩ ?_
      rintro i E wk ⟨rfl, hi, ek, hM⟩
      have hzk := ek.size
      by_cases hlt : i < (s.base.drop fk).length
      · 
        refine ztx ?_
        refine Ox.pure rfl rfl zbc ?_
        refine Ox.fin ?_
        refine zct ?_
        refine zsk ?_
        refine zbl ?_
        refine ztx ?_
        refine Ox.pure rfl rfl (rp_indexAddr i rfl rfl rfl rfl rfl hfs.ptr rfl hlt) ?_
        refine Ox.val rfl rfl (rv_load rfl rfl (fun u hu => ld_elem fc_len (hfs.row.ext0 zxc) hlt rfl rfl)) ?_
        refine Ox.act rfl rfl (acts_alloc rfl rfl) ?_
        rintro vx12 wx12 ⟨ex12, bx12, rfl, hbx12, hBx12⟩
        first | (have hCx12 : Cells wx12 ⟨bx12, 0, none⟩ [_, _, _, _, _, _, _, _] := hBx12.cells) | have hCx12 := Blk.cellsL hBx12
        have hlx12 := hBx12.lt
        have hzx12 := ex12.size
        refine Ox.act rfl rfl (acts_store_all rfl rfl rfl hBx12 rfl (by first | rfl | assumption) (by first | rfl | assumption) (by (first | assumption | exact List.all_eq_true.mp rfl | simp [Value.cells, Value.oneCell']))) ?_
        rintro vy12 wy12 ⟨rfl, qy12, hBy12⟩
        have ey12 := Ext.renew ex12 qy12 hbx12
        have hzy12 := ey12.size
        have hly12 := hBy12.lt
        first | (have hCy12 : Cells wy12 ⟨bx12, 0, none⟩ [_, _, _, _, _, _, _, _] := hBy12.cells) | have hCy12 := Blk.cellsL hBy12
        refine Ox.fin ?_
        refine ztx ?_
        refine Ox.pure rfl rfl zmv ?_
        refine Ox.pure rfl rfl zfa ?_
        refine Ox.val rfl rfl zra ?_
        refine Ox.act rfl rfl (acts_callv rfl rfl rfl rfl (meet_at bb4 bb5 gm ws1.heap.size (meetL x0 (((s.base.drop fk).take i).map Fct.key)) (s.base.drop fk)[i].key wb2 _ (hM.ext0 zxc) zxc (by omega) (by omega) (by have h8 := meetL_length (((s.base.drop fk).take i).map Fct.key) x0; rw [List.length_map, List.length_take] at h8; omega))) ?_
        rintro vm13 wm13 ⟨em13, hMm13⟩
        have hzm13 := em13.size
        refine Ox.fin ?_
        refine ztx ?_
        refine Ox.pure rfl rfl zba ?_
        refine Ox.pure rfl rfl zmv ?_
        refine Ox.fin ?_
        refine ⟨i + 1, _, sub_cons rfl (sub_cons rfl (sub_cons rfl (sub_cons rfl (sub_cons rfl sub_nil)))), ⟨rfl, hlt, zxc, ?_⟩, by omega⟩
        rw [List.take_succ_eq_append_getElem hlt, List.map_append]
        exact (meetL_snoc x0 _ _).symm ▸ hMm13
      · obtain rfl : i = (s.base.drop fk).length := by omega
        rw [List.take_length] at hM
        refine ztx ?_
        refine Ox.pure rfl rfl zbc ?_
        refine Ox.fin ?_
        refine zcf ?_
        refine zex ?_
        exact ⟨sub_cons rfl sub_nil, zxc, hM⟩
    · have hpn : (parB s.br no.toNat).toNat < s.bls.length := by omega
      obtain ⟨Af, hsf⟩ := hin.sub _ (List.getElem_mem hpn)
      have hpe := brB_eq (s := s) hpn
      have hLq : ∀ u, Ext [] w u → Ld Try.prog u 59 (s.A1.add ((parB s.br no.toNat).toNat * 1 + 0)) (.slice s.bls[(parB s.br no.toNat).toNat].p s.bls[(parB s.br no.toNat).toNat].l.length s.bls[(parB s.br no.toNat).toNat].c) := fun u hu => ld_field blc_len (hbr.ext0 hu) hpn 0 rfl (by decide) rfl
      have hlb : lenB s.br (parB s.br no.toNat) = s.bls[(parB s.br no.toNat).toNat].l.length := by unfold lenB; rw [if_neg hp0]; show (brB s.br _).length = _; rw [hpe]
      have hfk2 : fk ≤ s.bls[(parB s.br no.toNat).toNat].l.length := by omega
      have hfresh : freshK s.br no.toNat = (s.bls[(parB s.br no.toNat).toNat].l.drop fk).map Cr.key := by unfold freshK; rw [if_neg hp0, hfk, hpe]; rfl
      have hfs := sl_drop cc_len hsf hfk2
      have hdl : (s.bls[(parB s.br no.toNat).toNat].l.drop fk).length = s.bls[(parB s.br no.toNat).toNat].l.length - fk := List.length_drop
      have hble := hsf.le
      have hsmb := hsm.brs (parB s.br no.toNat).toNat
      rw [hpe] at hsmb
      refine zcf ?_
      (repeat refine Sx.seq ?_)
      refine Sx.walkR rfl (fun _ _ _ _ h => h) [0, 1, 2, 3, 4, 5, 6, 7, 8, 9, 10, 11, 12] [0, 1, 2, 3, 4, 5, 6, 7, 8, 9, 10, 11, 12] (0) (by kernel_rfl) ?_
      intro hq w2 e2; have hz2 := e2.size
      refine Wx.pure hq rfl rfl rfl rfl zfa ?_
      refine Wx.val hq rfl rfl rfl rfl ([]) zrs ?_
      refine Wx.pure hq rfl rfl rfl rfl zmv ?_
      refine Wx.pure hq rfl rfl rfl rfl (rp_indexAddr (parB s.br no.toNat).toNat rfl rfl rfl rfl rfl hbp (by omega) hpn) ?_
      refine Wx.val hq rfl rfl rfl rfl ([]) (rv_load rfl rfl (fun u hu => hLq u zxc)) ?_
      refine Wx.pure hq rfl rfl rfl rfl zfa ?_
      refine Wx.val hq rfl rfl rfl rfl ([]) zrs ?_
      refine Wx.pure hq rfl rfl rfl rfl zmv ?_
      refine Wx.pure hq rfl rfl rfl rfl (rp_indexAddr no.toNat rfl rfl rfl rfl rfl hkp (by omega) hik) ?_
      refine Wx.val hq rfl rfl rfl rfl ([]) (rv_load rfl rfl (fun u hu => hLk u zxc)) ?_
      refine Wx.pure hq rfl rfl rfl rfl (rp_sliceS fk s.bls[(parB s.br no.toNat).toNat].l.length rfl rfl rfl rfl rfl rfl (.inr ⟨_, rfl⟩) (.inl ⟨rfl, rfl⟩) hfk2 hble) ?_
      refine Wx.pure hq rfl rfl rfl rfl (rp_lenS rfl rfl rfl) ?_
      refine Wx.pure hq rfl rfl rfl rfl zmv ?_
      refine Wx.fin ?_
      refine zbl ?_
      rw [hfresh]
      rw [← hdl]
      have hflen : (s.bls[(parB s.br no.toNat).toNat].l.drop fk).length ≤ 1000 := by omega
      refine Sx.loop (ι := Nat) (fun i E wk => E = [(4, .pointer (some ⟨bb4, 0, none⟩)), (8, .func (.func 68) #[] #[.pointer (some ⟨bb5, 0, none⟩), .pointer (some ⟨bb4, 0, none⟩)]), (65, .slice (if s.bls[(parB s.br no.toNat).toNat].c = fk then s.bls[(parB s.br no.toNat).toNat].p else s.bls[(parB s.br no.toNat).toNat].p.map (·.add (fk * 6))) (s.bls[(parB s.br no.toNat).toNat].l.drop fk).length (s.bls[(parB s.br no.toNat).toNat].c - fk)), (66, .int .i64 ((s.bls[(parB s.br no.toNat).toNat].l.drop fk).length : Int)), (67, .int .i64 (i : Int))] ∧ i ≤ (s.bls[(parB s.br no.toNat).toNat].l.drop fk).length ∧ Ext [] wb2 wk ∧ Meet bb4 bb5 gm ws1.heap.size (meetL x0 (((s.bls[(parB s.br no.toNat).toNat].l.drop fk).take i).map Cr.key)) wk) (fun i => (s.bls[(parB s.br no.toNat).toNat].l.drop fk).length - i) 0
        (sub_cons rfl (sub_cons rfl (sub_cons rfl (sub_cons rfl (sub_cons rfl sub_nil))))) ⟨rfl, Nat.zero_le _, zxc, hM0.ext0 zxc⟩ ?_
      rintro i E wk ⟨rfl, hi, ek, hM⟩
      have hzk := ek.size
      by_cases hlt : i < (s.bls[(parB s.br no.toNat).toNat].l.drop fk).length
      · 
        refine ztx ?_
        refine Ox.pure rfl rfl zbc ?_
        refine Ox.fin ?_
        refine zct ?_
        refine zsk ?_
        refine zbl ?_
        refine ztx ?_
        refine Ox.pure rfl rfl (rp_indexAddr i rfl rfl rfl rfl rfl hfs.ptr rfl hlt) ?_
        refine Ox.val rfl rfl (rv_load rfl rfl (fun u hu => ld_elem cc_len (hfs.row.ext0 zxc) hlt rfl rfl)) ?_
        refine Ox.act rfl rfl (acts_alloc rfl rfl) ?_
        rintro vx17 wx17 ⟨ex17, bx17, rfl, hbx17, hBx17⟩
        first | (have hCx17 : Cells wx17 ⟨bx17, 0, none⟩ [_, _, _, _, _, _] := hBx17.cells) | have hCx17 := Blk.cellsL hBx17
        have hlx17 := hBx17.lt
        have hzx17 := ex17.size
        refine Ox.act rfl rfl (acts_store_all rfl rfl rfl hBx17 rfl (by first | rfl | assumption) (by first | rfl | assumption) (by (first | assumption | exact List.all_eq_true.mp rfl | simp [Value.cells, Value.oneCell']))) ?_
        rintro vy17 wy17 ⟨rfl, qy17, hBy17⟩
        have ey17 := Ext.renew ex17 qy17 hbx17
        have hzy17 := ey17.size
        have hly17 := hBy17.lt
        first | (have hCy17 : Cells wy17 ⟨bx17, 0, none⟩ [_, _, _, _, _, _] := hBy17.cells) | have hCy17 := Blk.cellsL hBy17
        refine Ox.fin ?_
        refine ztx ?_
        refine Ox.pure rfl rfl zmv ?_
        refine Ox.pure rfl rfl zfa ?_
        refine Ox.val rfl rfl zra ?_
        refine Ox.act rfl rfl (acts_callv rfl rfl rfl rfl (meet_at bb4 bb5 gm ws1.heap.size (meetL x0 (((s.bls[(parB s.br no.toNat).toNat].l.drop fk).take i).map Cr.key)) (s.bls[(parB s.br no.toNat).toNat].l.drop fk)[i].key wb2 _ (hM.ext0 zxc) zxc (by omega) (by omega) (by have h8 := meetL_length (((s.bls[(parB s.br no.toNat).toNat].l.drop fk).take i).map Cr.key) x0; rw [List.length_map, List.length_take] at h8; omega))) ?_
        rintro vm18 wm18 ⟨em18, hMm18⟩
        have hzm18 := em18.size
        refine Ox.fin ?_
        refine ztx ?_
        refine Ox.pure rfl rfl zba ?_
        refine Ox.pure rfl rfl zmv ?_
        refine Ox.fin ?_
        refine ⟨i + 1, _, sub_cons rfl (sub_cons rfl (sub_cons rfl (sub_cons rfl (sub_cons rfl sub_nil)))), ⟨rfl, hlt, zxc, ?_⟩, by omega⟩
        rw [List.take_succ_eq_append_getElem hlt, List.map_append]
        exact (meetL_snoc x0 _ _).symm ▸ hMm18
      · obtain rfl : i = (s.bls[(parB s.br no.toNat).toNat].l.drop fk).length := by omega
        rw [List.take_length] at hM
        refine ztx ?_
        refine Ox.pure rfl rfl zbc ?_
        refine Ox.fin ?_
        refine zcf ?_
        refine zex ?_
        exact ⟨sub_cons rfl sub_nil, zxc, hM⟩
  rintro E' wm ⟨hsub, em, hMm⟩
  refine thenE_normal (Sx.weaken ?_ hsub)
  have hzm := em.size
  have hfl : (freshK s.br no.toNat).length ≤ 1000 := by
    unfold freshK
    split
    · rw [List.length_map, List.length_drop]; have := hsm.base; show s.base.length - _ ≤ _; omega
    · rw [List.length_map, List.length_drop]; have := hsm.brs (parB s.br no.toNat).toNat; omega
  have hol := meetL_length (freshK s.br no.toNat) x0
  obtain ⟨v, hBv, hov⟩ := hMm.lv
  have hconf : ∀ ks : List Ky, ks.Perm (meetL x0 (freshK s.br no.toNat)).2 → ks.Pairwise (fun a b => ¬ lessK b a) → ks = confB s.br no.toNat := fun ks hp hs => by
    refine meet_conf ?_ hs
    rw [hbe, ← hx0]; exact hp
  generalize (meetL x0 (freshK s.br no.toNat)).2 = o at hol hov hconf
  obtain ⟨pv, cv, Av, rfl, hsv, _⟩ := SlV.of_own hov (by omega)
  have hCv := hBv.cells
  have hlv := hMm.lt4
  refine ztx ?_
  refine Ox.val rfl rfl zrs ?_
  refine Ox.act rfl rfl (acts_call rfl rfl rfl (sortM_at o ws1.heap.size pv cv _ (own_keep0 hov zxc) (by omega))) ?_
  rintro vso wso ⟨qso, ks', hperm, hsort, hO2⟩
  have hB20 : Blk wso bb4 48 [.slice pv o.length cv] := hBv.ext qso (notin_own hov hlv)
  have hC20 := hB20.cells
  have e20 : Ext [] wb2 wso := em.join qso (fun y hy => .inr (by have := (own_lt hov y hy).1; omega))
  refine Ox.fin ?_
  refine ztx ?_
  refine Ox.val rfl rfl zrs ?_
  refine Ox.act rfl rfl (acts_store_all rfl rfl rfl hB20 rfl rfl rfl (by (first | assumption | exact List.all_eq_true.mp rfl | simp [Value.cells, Value.oneCell']))) ?_
  rintro vs21 ws21 ⟨rfl, qs21, hBs21⟩
  refine Ox.fin ?_
  refine zrt ?_
  have e21 : Ext [] wb2 ws21 := Ext.renew e20 qs21 (by omega)
  have hks := hconf ks' hperm hsort
  rw [← hperm.length_eq] at hO2
  have h9 := own_base (base' := w.heap.size) (own_keep hO2 qs21 (own_notin hO2 hlv)) (by omega)
  have hkl := hperm.length_eq
  rw [hks] at h9 hkl
  refine endE_ret [.slice pv o.length cv] ⟨⟨⟨bb4, 0, none⟩, rfl, hBs21.cells.ld0 rfl rfl⟩, trivial⟩ ⟨zxc, pv, cv, ?_, h9⟩
  rw [hkl]; rfl

end Go.Proofs.Ytfgckcochilpkaa
