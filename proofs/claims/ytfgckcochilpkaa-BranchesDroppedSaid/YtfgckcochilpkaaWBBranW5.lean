/- The law BranchesDropped: a branch that was dropped, or that is merged without changes, changes no other facts, and nothing can be done with a branch that is not open: for every branching, no condition. -/
import Derived.Test.YtfgckcochilpkaaRows
import Derived.Test.YtfgckcochilpkaaWBP8
set_option linter.unusedVariables false
set_option maxRecDepth 100000
set_option maxHeartbeats 4000000
set_option linter.unusedSimpArgs false
namespace Go.Proofs.Ytfgckcochilpkaa
open Go Go.Eng

theorem small_done {b : Br} (h : SmallB b) (i : Nat) : SmallB (withDone b (b.done.set i true)) := by
  obtain ⟨h1, h2, h3, h4, h5, h6⟩ := h
  exact ⟨h1, h2, h3, h4, h5, by show (b.done.set i true).length ≤ 1000; rw [List.length_set]; exact h6⟩
theorem droppedLaw (s : Bs) (no other : Int) (c : Cr) (W : World) (hin : BsIn s W) :
    Calls Try.prog 7 #[.agg (bvc s).toArray, .int .i64 no, .int .i64 other, .agg (cc c).toArray] W (Ret fun r w' => Ext [] W w' ∧ r = .bool true) := by
  have hbl := br_len s
  have hbf := hin.bls.few
  refine calls_of_Sx (args := [.agg (bvc s).toArray, .int .i64 no, .int .i64 other, .agg (cc c).toArray]) Try.func7 rfl rfl ?_
  by_cases hfew : FewB s.br; rotate_left
  · refine ztx ?_
    refine Ox.act rfl rfl (acts_box rfl rfl) ?_
    rintro vb4 wb4 ⟨eb4, bb4, rfl, hbb4, hBb4⟩
    first | (have hCb4 : Cells wb4 ⟨bb4, 0, none⟩ [_, _, _, _, _] := hBb4.cells) | have hCb4 := Blk.cellsL hBb4
    have hlb4 := hBb4.lt
    have hzb4 := eb4.size
    refine Ox.act rfl rfl (acts_box rfl rfl) ?_
    rintro vb7 wb7 ⟨eb7, bb7, rfl, hbb7, hBb7⟩
    first | (have hCb7 : Cells wb7 ⟨bb7, 0, none⟩ [_, _, _, _, _, _] := hBb7.cells) | have hCb7 := Blk.cellsL hBb7
    have hlb7 := hBb7.lt
    have hzb7 := eb7.size
    refine Ox.pure rfl rfl zas ?_
    refine Ox.fin ?_
    refine ztx ?_
    refine Ox.act rfl rfl (acts_call rfl rfl rfl (saneB_at _)) ?_
    rintro v1 w1 ⟨e1, rfl⟩
    have hz1 := e1.size
    refine Ox.pure rfl rfl (rp_not rfl rfl) ?_
    refine Ox.fin ?_
    refine zcf ?_
    refine zsk ?_
    refine ztx ?_
    refine Ox.val rfl rfl zra ?_
    refine Ox.act rfl rfl (acts_call rfl rfl rfl (ref_FewB s _ (hin.ext0 zxc))) ?_
    rintro v2 w2 ⟨e2, rfl⟩
    have hz2 := e2.size
    first | rw [decide_eq_true hfew] | rw [decide_eq_false hfew]
    refine Ox.pure rfl rfl (rp_not rfl rfl) ?_
    refine Ox.fin ?_
    refine zct ?_
    refine ztx ?_
    refine Ox.pure rfl rfl zas ?_
    refine Ox.fin ?_
    refine zrt ?_
    exact endE_ret [_] ⟨rfl, trivial⟩ ⟨zxc, rfl⟩
  obtain ⟨hm, hw⟩ := small_of rfl (few_small hfew)
  by_cases hz : (dropB s.br no).2 = 0; rotate_left
  · refine ztx ?_
    refine Ox.act rfl rfl (acts_box rfl rfl) ?_
    rintro vb4 wb4 ⟨eb4, bb4, rfl, hbb4, hBb4⟩
    first | (have hCb4 : Cells wb4 ⟨bb4, 0, none⟩ [_, _, _, _, _] := hBb4.cells) | have hCb4 := Blk.cellsL hBb4
    have hlb4 := hBb4.lt
    have hzb4 := eb4.size
    refine Ox.act rfl rfl (acts_box rfl rfl) ?_
    rintro vb7 wb7 ⟨eb7, bb7, rfl, hbb7, hBb7⟩
    first | (have hCb7 : Cells wb7 ⟨bb7, 0, none⟩ [_, _, _, _, _, _] := hBb7.cells) | have hCb7 := Blk.cellsL hBb7
    have hlb7 := hBb7.lt
    have hzb7 := eb7.size
    refine Ox.pure rfl rfl zas ?_
    refine Ox.fin ?_
    refine ztx ?_
    refine Ox.act rfl rfl (acts_call rfl rfl rfl (saneB_at _)) ?_
    rintro v3 w3 ⟨e3, rfl⟩
    have hz3 := e3.size
    refine Ox.pure rfl rfl (rp_not rfl rfl) ?_
    refine Ox.fin ?_
    refine zcf ?_
    refine zsk ?_
    refine ztx ?_
    refine Ox.val rfl rfl zra ?_
    refine Ox.act rfl rfl (acts_call rfl rfl rfl (ref_FewB s _ (hin.ext0 zxc))) ?_
    rintro v4 w4 ⟨e4, rfl⟩
    have hz4 := e4.size
    first | rw [decide_eq_true hfew] | rw [decide_eq_false hfew]
    refine Ox.pure rfl rfl (rp_not rfl rfl) ?_
    refine Ox.fin ?_
    refine zcf ?_
    refine zsk ?_
    refine ztx ?_
    refine Ox.val rfl rfl zra ?_
    refine Ox.pure rfl rfl zmv ?_
    refine Ox.act rfl rfl (acts_call rfl rfl rfl (drop_at s hm hw no _ (hin.ext0 zxc))) ?_
    rintro vu5 wu5 ⟨eu5, v5, rfl, s5, rfl, hi5, hb5, hz5⟩
    have hzu5 := eu5.size
    refine Ox.pure rfl rfl zmv ?_
    refine Ox.pure rfl rfl (rp_extract rfl rfl rfl) ?_
    refine Ox.pure rfl rfl (rp_extract rfl rfl rfl) ?_
    refine Ox.act rfl rfl (acts_alloc rfl rfl) ?_
    rintro va5 wa5 ⟨ea5, ba5, rfl, hba5, hBa5⟩
    first | (have hCa5 : Cells wa5 ⟨ba5, 0, none⟩ [_, _, _, _, _] := hBa5.cells) | have hCa5 := Blk.cellsL hBa5
    have hla5 := hBa5.lt
    have hza5 := ea5.size
    refine Ox.act rfl rfl (acts_store_all rfl rfl rfl hBa5 rfl (by first | rfl | assumption) (by first | rfl | assumption) (by (first | assumption | exact List.all_eq_true.mp rfl | simp [Value.cells, Value.oneCell']))) ?_
    rintro vc5 wc5 ⟨rfl, qc5, hBc5⟩
    have ec5 := Ext.renew ea5 qc5 hba5
    have hzc5 := ec5.size
    have hlc5 := hBc5.lt
    first | (have hCc5 : Cells wc5 ⟨ba5, 0, none⟩ [_, _, _, _, _] := hBc5.cells) | have hCc5 := Blk.cellsL hBc5
    refine Ox.pure rfl rfl zas ?_
    refine Ox.fin ?_
    refine ztx ?_
    refine Ox.pure rfl rfl zmv ?_
    refine Ox.pure rfl rfl zbc ?_
    refine Ox.fin ?_
    refine zct ?_
    refine ztx ?_
    refine Ox.val rfl rfl zra ?_
    refine Ox.pure rfl rfl (rp_buildS (ps := []) rfl rfl rfl rfl rfl) ?_
    refine Ox.act rfl rfl (acts_call rfl rfl rfl (ref_SameB s5 Bs0 _ (hi5.ext0 zxc) (Bs0_in _))) ?_
    rintro v5 w5 ⟨e5, rfl⟩
    have hz5 := e5.size
    rw [decide_eq_true (show s5.br = Bs0.br from hb5.trans (dropB_fail hz))]
    refine Ox.pure rfl rfl zas ?_
    refine Ox.fin ?_
    refine zrt ?_
    exact endE_ret [_] ⟨rfl, trivial⟩ ⟨zxc, rfl⟩
  obtain ⟨hv, ho, hde, hfacts, hch, hmg, hdr, hfk⟩ := dropped hz c
  obtain ⟨o1, o2, _⟩ := id ho
  have hsd : SmallB (dropB s.br no).1 := by rw [hde]; exact small_done (few_small hfew) _
  have hib : no.toNat < s.bls.length := by omega
  obtain ⟨Ab, hsb⟩ := hin.sub _ (List.getElem_mem hib)
  have hsf := hsb.few
  have hbe := brB_eq (s := s) hib
  refine ztx ?_
  refine Ox.act rfl rfl (acts_box rfl rfl) ?_
  rintro vb4 wb4 ⟨eb4, bb4, rfl, hbb4, hBb4⟩
  first | (have hCb4 : Cells wb4 ⟨bb4, 0, none⟩ [_, _, _, _, _] := hBb4.cells) | have hCb4 := Blk.cellsL hBb4
  have hlb4 := hBb4.lt
  have hzb4 := eb4.size
  refine Ox.act rfl rfl (acts_box rfl rfl) ?_
  rintro vb7 wb7 ⟨eb7, bb7, rfl, hbb7, hBb7⟩
  first | (have hCb7 : Cells wb7 ⟨bb7, 0, none⟩ [_, _, _, _, _, _] := hBb7.cells) | have hCb7 := Blk.cellsL hBb7
  have hlb7 := hBb7.lt
  have hzb7 := eb7.size
  refine Ox.pure rfl rfl zas ?_
  refine Ox.fin ?_
  refine ztx ?_
  refine Ox.act rfl rfl (acts_call rfl rfl rfl (saneB_at _)) ?_
  rintro v6 w6 ⟨e6, rfl⟩
  have hz6 := e6.size
  refine Ox.pure rfl rfl (rp_not rfl rfl) ?_
  refine Ox.fin ?_
  refine zcf ?_
  refine zsk ?_
  refine ztx ?_
  refine Ox.val rfl rfl zra ?_
  refine Ox.act rfl rfl (acts_call rfl rfl rfl (ref_FewB s _ (hin.ext0 zxc))) ?_
  rintro v7 w7 ⟨e7, rfl⟩
  have hz7 := e7.size
  first | rw [decide_eq_true hfew] | rw [decide_eq_false hfew]
  refine Ox.pure rfl rfl (rp_not rfl rfl) ?_
  refine Ox.fin ?_
  refine zcf ?_
  refine zsk ?_
  refine ztx ?_
  refine Ox.val rfl rfl zra ?_
  refine Ox.pure rfl rfl zmv ?_
  refine Ox.act rfl rfl (acts_call rfl rfl rfl (drop_at s hm hw no _ (hin.ext0 zxc))) ?_
  rintro vu5 wu5 ⟨eu5, v5, rfl, s5, rfl, hi5, hb5, hz5⟩
  have hzu5 := eu5.size
  refine Ox.pure rfl rfl zmv ?_
  refine Ox.pure rfl rfl (rp_extract rfl rfl rfl) ?_
  refine Ox.pure rfl rfl (rp_extract rfl rfl rfl) ?_
  refine Ox.act rfl rfl (acts_alloc rfl rfl) ?_
  rintro va5 wa5 ⟨ea5, ba5, rfl, hba5, hBa5⟩
  first | (have hCa5 : Cells wa5 ⟨ba5, 0, none⟩ [_, _, _, _, _] := hBa5.cells) | have hCa5 := Blk.cellsL hBa5
  have hla5 := hBa5.lt
  have hza5 := ea5.size
  refine Ox.act rfl rfl (acts_store_all rfl rfl rfl hBa5 rfl (by first | rfl | assumption) (by first | rfl | assumption) (by (first | assumption | exact List.all_eq_true.mp rfl | simp [Value.cells, Value.oneCell']))) ?_
  rintro vc5 wc5 ⟨rfl, qc5, hBc5⟩
  have ec5 := Ext.renew ea5 qc5 hba5
  have hzc5 := ec5.size
  have hlc5 := hBc5.lt
  first | (have hCc5 : Cells wc5 ⟨ba5, 0, none⟩ [_, _, _, _, _] := hBc5.cells) | have hCc5 := Blk.cellsL hBc5
  refine Ox.pure rfl rfl zas ?_
  refine Ox.fin ?_
  refine ztx ?_
  refine Ox.pure rfl rfl zmv ?_
  refine Ox.pure rfl rfl zbc ?_
  refine Ox.fin ?_
  refine zcf ?_
  refine zsk ?_
  obtain ⟨hm5, hw5⟩ := small_of hb5 hsd
  by_cases hn : s.bls[no.toNat].l.length = 0; rotate_left
  · refine ztx ?_
    refine Ox.val rfl rfl zra ?_
    refine Ox.pure rfl rfl zmv ?_
    refine Ox.act rfl rfl (acts_call rfl rfl rfl (facts_br s hm other _ (hin.ext0 zxc))) ?_
    rintro v8 w8 ⟨e8, p8, A8, c8, rfl, hs8⟩
    have hz8 := e8.size
    refine Ox.pure rfl rfl zmv ?_
    refine Ox.pure rfl rfl (rp_extract rfl rfl rfl) ?_
    refine Ox.pure rfl rfl (rp_extract rfl rfl rfl) ?_
    refine Ox.pure rfl rfl zas ?_
    refine Ox.pure rfl rfl zas ?_
    refine Ox.fin ?_
    refine ztx ?_
    refine Ox.val rfl rfl zra ?_
    refine Ox.pure rfl rfl zmv ?_
    refine Ox.act rfl rfl (acts_call rfl rfl rfl (facts_br s5 hm5 other _ (hi5.ext0 zxc))) ?_
    rintro v9 w9 ⟨e9, p9, A9, c9, rfl, hs9⟩
    have hz9 := e9.size
    rw [hb5, hfacts other] at hs9 ⊢
    refine Ox.pure rfl rfl zmv ?_
    refine Ox.pure rfl rfl (rp_extract rfl rfl rfl) ?_
    refine Ox.pure rfl rfl (rp_extract rfl rfl rfl) ?_
    refine Ox.pure rfl rfl zas ?_
    refine Ox.pure rfl rfl zas ?_
    refine Ox.fin ?_
    refine ztx ?_
    refine Ox.pure rfl rfl zmv ?_
    refine Ox.pure rfl rfl zmv ?_
    refine Ox.pure rfl rfl zbc ?_
    refine Ox.pure rfl rfl zmv ?_
    first | (refine Ox.skip rfl rfl ?_) | (refine Ox.pure rfl rfl zmv ?_)
    first | (refine Ox.skip rfl rfl ?_) | (refine Ox.pure rfl rfl zmv ?_)
    first | (refine Ox.skip rfl rfl ?_) | (refine Ox.act rfl rfl (acts_call rfl rfl rfl (ref_Same (factsB s.br other).1 (factsB s.br other).1 p8 p9 A8 A9 c8 c9 _ (hs8.ext0 zxc) (hs9.ext0 zxc))) ?_; rintro v10 w10 ⟨e10, rfl⟩; have hz10 := e10.size; rw [decide_eq_true (show (factsB s.br other).1 = (factsB s.br other).1 from rfl)])
    first | (refine Ox.skip rfl rfl ?_) | (refine Ox.pure rfl rfl (rp_not rfl rfl) ?_)
    refine Ox.pure rfl rfl zpk ?_
    refine Ox.fin ?_
    refine zcf ?_
    refine zsk ?_
    refine ztx ?_
    refine Ox.val rfl rfl zra ?_
    refine Ox.pure rfl rfl zmv ?_
    refine Ox.val rfl rfl zra ?_
    refine Ox.act rfl rfl (acts_call rfl rfl rfl (change_br s5 hm5 hw5 no c _ (hi5.ext0 zxc))) ?_
    rintro vu12 wu12 ⟨eu12, v12, rfl, s12, rfl, hi12, hb12, hz12⟩
    have hzu12 := eu12.size
    rw [hb5]
    refine Ox.pure rfl rfl zmv ?_
    refine Ox.pure rfl rfl (rp_extract rfl rfl rfl) ?_
    refine Ox.pure rfl rfl (rp_extract rfl rfl rfl) ?_
    refine Ox.act rfl rfl (acts_alloc rfl rfl) ?_
    rintro va12 wa12 ⟨ea12, ba12, rfl, hba12, hBa12⟩
    first | (have hCa12 : Cells wa12 ⟨ba12, 0, none⟩ [_, _, _, _, _] := hBa12.cells) | have hCa12 := Blk.cellsL hBa12
    have hla12 := hBa12.lt
    have hza12 := ea12.size
    refine Ox.act rfl rfl (acts_store_all rfl rfl rfl hBa12 rfl (by first | rfl | assumption) (by first | rfl | assumption) (by (first | assumption | exact List.all_eq_true.mp rfl | simp [Value.cells, Value.oneCell']))) ?_
    rintro vc12 wc12 ⟨rfl, qc12, hBc12⟩
    have ec12 := Ext.renew ea12 qc12 hba12
    have hzc12 := ec12.size
    have hlc12 := hBc12.lt
    first | (have hCc12 : Cells wc12 ⟨ba12, 0, none⟩ [_, _, _, _, _] := hBc12.cells) | have hCc12 := Blk.cellsL hBc12
    refine Ox.pure rfl rfl zas ?_
    refine Ox.fin ?_
    refine ztx ?_
    refine Ox.val rfl rfl zra ?_
    refine Ox.pure rfl rfl zmv ?_
    refine Ox.act rfl rfl (acts_call rfl rfl rfl (merge_br s5 hm5 hw5 no _ (hi5.ext0 zxc))) ?_
    rintro vu13 wu13 ⟨eu13, v13, p13, A13, c13, rfl, ⟨s13, rfl, hi13, hb13, hz13⟩, hk13⟩
    have hzu13 := eu13.size
    rw [hb5]
    refine Ox.pure rfl rfl zmv ?_
    refine Ox.pure rfl rfl (rp_extract rfl rfl rfl) ?_
    refine Ox.pure rfl rfl (rp_extract rfl rfl rfl) ?_
    refine Ox.pure rfl rfl (rp_extract rfl rfl rfl) ?_
    refine Ox.act rfl rfl (acts_alloc rfl rfl) ?_
    rintro va13 wa13 ⟨ea13, ba13, rfl, hba13, hBa13⟩
    first | (have hCa13 : Cells wa13 ⟨ba13, 0, none⟩ [_, _, _, _, _] := hBa13.cells) | have hCa13 := Blk.cellsL hBa13
    have hla13 := hBa13.lt
    have hza13 := ea13.size
    refine Ox.act rfl rfl (acts_store_all rfl rfl rfl hBa13 rfl (by first | rfl | assumption) (by first | rfl | assumption) (by (first | assumption | exact List.all_eq_true.mp rfl | simp [Value.cells, Value.oneCell']))) ?_
    rintro vc13 wc13 ⟨rfl, qc13, hBc13⟩
    have ec13 := Ext.renew ea13 qc13 hba13
    have hzc13 := ec13.size
    have hlc13 := hBc13.lt
    first | (have hCc13 : Cells wc13 ⟨ba13, 0, none⟩ [_, _, _, _, _] := hBc13.cells) | have hCc13 := Blk.cellsL hBc13
    refine Ox.pure rfl rfl zas ?_
    refine Ox.pure rfl rfl zas ?_
    refine Ox.fin ?_
    refine ztx ?_
    refine Ox.val rfl rfl zra ?_
    refine Ox.pure rfl rfl zmv ?_
    refine Ox.act rfl rfl (acts_call rfl rfl rfl (drop_at s5 hm5 hw5 no _ (hi5.ext0 zxc))) ?_
    rintro vu14 wu14 ⟨eu14, v14, rfl, s14, rfl, hi14, hb14, hz14⟩
    have hzu14 := eu14.size
    rw [hb5]
    refine Ox.pure rfl rfl zmv ?_
    refine Ox.pure rfl rfl (rp_extract rfl rfl rfl) ?_
    refine Ox.pure rfl rfl (rp_extract rfl rfl rfl) ?_
    refine Ox.act rfl rfl (acts_alloc rfl rfl) ?_
    rintro va14 wa14 ⟨ea14, ba14, rfl, hba14, hBa14⟩
    first | (have hCa14 : Cells wa14 ⟨ba14, 0, none⟩ [_, _, _, _, _] := hBa14.cells) | have hCa14 := Blk.cellsL hBa14
    have hla14 := hBa14.lt
    have hza14 := ea14.size
    refine Ox.act rfl rfl (acts_store_all rfl rfl rfl hBa14 rfl (by first | rfl | assumption) (by first | rfl | assumption) (by (first | assumption | exact List.all_eq_true.mp rfl | simp [Value.cells, Value.oneCell']))) ?_
    rintro vc14 wc14 ⟨rfl, qc14, hBc14⟩
    have ec14 := Ext.renew ea14 qc14 hba14
    have hzc14 := ec14.size
    have hlc14 := hBc14.lt
    first | (have hCc14 : Cells wc14 ⟨ba14, 0, none⟩ [_, _, _, _, _] := hBc14.cells) | have hCc14 := Blk.cellsL hBc14
    refine Ox.pure rfl rfl zas ?_
    refine Ox.fin ?_
    refine ztx ?_
    refine Ox.val rfl rfl zra ?_
    refine Ox.pure rfl rfl zmv ?_
    refine Ox.act rfl rfl (acts_call rfl rfl rfl (fork_at s5 hm5 hw5 no _ (hi5.ext0 zxc))) ?_
    rintro vu15 wu15 ⟨eu15, v15, rfl, s15, rfl, hi15, hb15, hz15⟩
    have hzu15 := eu15.size
    rw [hb5]
    refine Ox.pure rfl rfl zmv ?_
    refine Ox.pure rfl rfl (rp_extract rfl rfl rfl) ?_
    refine Ox.pure rfl rfl (rp_extract rfl rfl rfl) ?_
    refine Ox.pure rfl rfl (rp_extract rfl rfl rfl) ?_
    refine Ox.act rfl rfl (acts_alloc rfl rfl) ?_
    rintro va15 wa15 ⟨ea15, ba15, rfl, hba15, hBa15⟩
    first | (have hCa15 : Cells wa15 ⟨ba15, 0, none⟩ [_, _, _, _, _] := hBa15.cells) | have hCa15 := Blk.cellsL hBa15
    have hla15 := hBa15.lt
    have hza15 := ea15.size
    refine Ox.act rfl rfl (acts_store_all rfl rfl rfl hBa15 rfl (by first | rfl | assumption) (by first | rfl | assumption) (by (first | assumption | exact List.all_eq_true.mp rfl | simp [Value.cells, Value.oneCell']))) ?_
    rintro vc15 wc15 ⟨rfl, qc15, hBc15⟩
    have ec15 := Ext.renew ea15 qc15 hba15
    have hzc15 := ec15.size
    have hlc15 := hBc15.lt
    first | (have hCc15 : Cells wc15 ⟨ba15, 0, none⟩ [_, _, _, _, _] := hBc15.cells) | have hCc15 := Blk.cellsL hBc15
    refine Ox.pure rfl rfl zas ?_
    refine Ox.pure rfl rfl zas ?_
    refine Ox.fin ?_
    refine ztx ?_
    refine Ox.pure rfl rfl zmv ?_
    refine Ox.pure rfl rfl zbc ?_
    refine Ox.pure rfl rfl zmv ?_
    first | (refine Ox.skip rfl rfl ?_) | (refine Ox.pure rfl rfl zmv ?_)
    first | (refine Ox.skip rfl rfl ?_) | (refine Ox.pure rfl rfl zbc ?_)
    refine Ox.pure rfl rfl zpk ?_
    refine Ox.pure rfl rfl zmv ?_
    first | (refine Ox.skip rfl rfl ?_) | (refine Ox.pure rfl rfl zmv ?_)
    first | (refine Ox.skip rfl rfl ?_) | (refine Ox.pure rfl rfl zbc ?_)
    refine Ox.pure rfl rfl zpk ?_
    refine Ox.pure rfl rfl zmv ?_
    first | (refine Ox.skip rfl rfl ?_) | (refine Ox.pure rfl rfl zmv ?_)
    first | (refine Ox.skip rfl rfl ?_) | (refine Ox.pure rfl rfl zbc ?_)
    refine Ox.pure rfl rfl zpk ?_
    refine Ox.fin ?_
    refine zcf ?_
    refine zsk ?_
    refine ztx ?_
    refine Ox.pure rfl rfl zmv ?_
    refine Ox.pure rfl rfl zfa ?_
    refine Ox.val rfl rfl zrs ?_
    refine Ox.pure rfl rfl (rp_lenS rfl rfl rfl) ?_
    refine Ox.pure rfl rfl zbc ?_
    refine Ox.pure rfl rfl zmv ?_
    first | (refine Ox.skip rfl rfl ?_) | (refine Ox.pure rfl rfl zfa ?_)
    first | (refine Ox.skip rfl rfl ?_) | (refine Ox.val rfl rfl zrs ?_)
    first | (refine Ox.skip rfl rfl ?_) | (refine Ox.pure rfl rfl zmv ?_)
    first | (refine Ox.skip rfl rfl ?_) | (refine Ox.pure rfl rfl (rp_indexAddr no.toNat rfl rfl rfl rfl rfl hin.bls.ptr (by omega) hib) ?_)
    first | (refine Ox.skip rfl rfl ?_) | (refine Ox.val rfl rfl (rv_load rfl rfl (fun u hu => ld_field blc_len (hin.bls.row.ext0 zxc) hib 0 rfl (by decide) rfl)) ?_)
    first | (refine Ox.skip rfl rfl ?_) | (refine Ox.pure rfl rfl (rp_lenS rfl rfl rfl) ?_)
    first | (refine Ox.skip rfl rfl ?_) | (refine Ox.pure rfl rfl zbc ?_)
    refine Ox.pure rfl rfl zpk ?_
    refine Ox.fin ?_
    refine zct ?_
    refine ztx ?_
    refine Ox.pure rfl rfl zmv ?_
    refine Ox.pure rfl rfl zfa ?_
    refine Ox.val rfl rfl zrs ?_
    refine Ox.pure rfl rfl (rp_lenS rfl rfl rfl) ?_
    refine Ox.pure rfl rfl zbc ?_
    refine Ox.pure rfl rfl zas ?_
    refine Ox.fin ?_
    refine zrt ?_
    exact endE_ret [_] ⟨rfl, trivial⟩ ⟨zxc, rfl⟩
  have hn0 : brB s.br no.toNat = [] := by rw [hbe]; exact List.eq_nil_of_length_eq_zero hn
  rcases dropped_merge hv ho hn0 with ⟨hok, hfa⟩ | h1
  · have hsm : SmallB (mergeB s.br no).1 := by
      obtain ⟨a1, a2, a3, a4, a5, a6⟩ := mergeB_ok hok
      exact (bd_merge (few_bd hfew) hok).small (by omega) (by rw [a6]; exact (mergedB_keep a1 a2 a5).1)
    refine ztx ?_
    refine Ox.val rfl rfl zra ?_
    refine Ox.pure rfl rfl zmv ?_
    refine Ox.act rfl rfl (acts_call rfl rfl rfl (facts_br s hm other _ (hin.ext0 zxc))) ?_
    rintro v11 w11 ⟨e11, p8, A8, c8, rfl, hs8⟩
    have hz11 := e11.size
    refine Ox.pure rfl rfl zmv ?_
    refine Ox.pure rfl rfl (rp_extract rfl rfl rfl) ?_
    refine Ox.pure rfl rfl (rp_extract rfl rfl rfl) ?_
    refine Ox.pure rfl rfl zas ?_
    refine Ox.pure rfl rfl zas ?_
    refine Ox.fin ?_
    refine ztx ?_
    refine Ox.val rfl rfl zra ?_
    refine Ox.pure rfl rfl zmv ?_
    refine Ox.act rfl rfl (acts_call rfl rfl rfl (facts_br s5 hm5 other _ (hi5.ext0 zxc))) ?_
    rintro v12 w12 ⟨e12, p9, A9, c9, rfl, hs9⟩
    have hz12 := e12.size
    rw [hb5, hfacts other] at hs9 ⊢
    refine Ox.pure rfl rfl zmv ?_
    refine Ox.pure rfl rfl (rp_extract rfl rfl rfl) ?_
    refine Ox.pure rfl rfl (rp_extract rfl rfl rfl) ?_
    refine Ox.pure rfl rfl zas ?_
    refine Ox.pure rfl rfl zas ?_
    refine Ox.fin ?_
    refine ztx ?_
    refine Ox.pure rfl rfl zmv ?_
    refine Ox.pure rfl rfl zmv ?_
    refine Ox.pure rfl rfl zbc ?_
    refine Ox.pure rfl rfl zmv ?_
    first | (refine Ox.skip rfl rfl ?_) | (refine Ox.pure rfl rfl zmv ?_)
    first | (refine Ox.skip rfl rfl ?_) | (refine Ox.pure rfl rfl zmv ?_)
    first | (refine Ox.skip rfl rfl ?_) | (refine Ox.act rfl rfl (acts_call rfl rfl rfl (ref_Same (factsB s.br other).1 (factsB s.br other).1 p8 p9 A8 A9 c8 c9 _ (hs8.ext0 zxc) (hs9.ext0 zxc))) ?_; rintro v13 w13 ⟨e13, rfl⟩; have hz13 := e13.size; rw [decide_eq_true (show (factsB s.br other).1 = (factsB s.br other).1 from rfl)])
    first | (refine Ox.skip rfl rfl ?_) | (refine Ox.pure rfl rfl (rp_not rfl rfl) ?_)
    refine Ox.pure rfl rfl zpk ?_
    refine Ox.fin ?_
    refine zcf ?_
    refine zsk ?_
    refine ztx ?_
    refine Ox.val rfl rfl zra ?_
    refine Ox.pure rfl rfl zmv ?_
    refine Ox.val rfl rfl zra ?_
    refine Ox.act rfl rfl (acts_call rfl rfl rfl (change_br s5 hm5 hw5 no c _ (hi5.ext0 zxc))) ?_
    rintro vu12 wu12 ⟨eu12, v12, rfl, s12, rfl, hi12, hb12, hz12⟩
    have hzu12 := eu12.size
    rw [hb5]
    refine Ox.pure rfl rfl zmv ?_
    refine Ox.pure rfl rfl (rp_extract rfl rfl rfl) ?_
    refine Ox.pure rfl rfl (rp_extract rfl rfl rfl) ?_
    refine Ox.act rfl rfl (acts_alloc rfl rfl) ?_
    rintro va12 wa12 ⟨ea12, ba12, rfl, hba12, hBa12⟩
    first | (have hCa12 : Cells wa12 ⟨ba12, 0, none⟩ [_, _, _, _, _] := hBa12.cells) | have hCa12 := Blk.cellsL hBa12
    have hla12 := hBa12.lt
    have hza12 := ea12.size
    refine Ox.act rfl rfl (acts_store_all rfl rfl rfl hBa12 rfl (by first | rfl | assumption) (by first | rfl | assumption) (by (first | assumption | exact List.all_eq_true.mp rfl | simp [Value.cells, Value.oneCell']))) ?_
    rintro vc12 wc12 ⟨rfl, qc12, hBc12⟩
    have ec12 := Ext.renew ea12 qc12 hba12
    have hzc12 := ec12.size
    have hlc12 := hBc12.lt
    first | (have hCc12 : Cells wc12 ⟨ba12, 0, none⟩ [_, _, _, _, _] := hBc12.cells) | have hCc12 := Blk.cellsL hBc12
    refine Ox.pure rfl rfl zas ?_
    refine Ox.fin ?_
    refine ztx ?_
    refine Ox.val rfl rfl zra ?_
    refine Ox.pure rfl rfl zmv ?_
    refine Ox.act rfl rfl (acts_call rfl rfl rfl (merge_br s5 hm5 hw5 no _ (hi5.ext0 zxc))) ?_
    rintro vu13 wu13 ⟨eu13, v13, p13, A13, c13, rfl, ⟨s13, rfl, hi13, hb13, hz13⟩, hk13⟩
    have hzu13 := eu13.size
    rw [hb5]
    refine Ox.pure rfl rfl zmv ?_
    refine Ox.pure rfl rfl (rp_extract rfl rfl rfl) ?_
    refine Ox.pure rfl rfl (rp_extract rfl rfl rfl) ?_
    refine Ox.pure rfl rfl (rp_extract rfl rfl rfl) ?_
    refine Ox.act rfl rfl (acts_alloc rfl rfl) ?_
    rintro va13 wa13 ⟨ea13, ba13, rfl, hba13, hBa13⟩
    first | (have hCa13 : Cells wa13 ⟨ba13, 0, none⟩ [_, _, _, _, _] := hBa13.cells) | have hCa13 := Blk.cellsL hBa13
    have hla13 := hBa13.lt
    have hza13 := ea13.size
    refine Ox.act rfl rfl (acts_store_all rfl rfl rfl hBa13 rfl (by first | rfl | assumption) (by first | rfl | assumption) (by (first | assumption | exact List.all_eq_true.mp rfl | simp [Value.cells, Value.oneCell']))) ?_
    rintro vc13 wc13 ⟨rfl, qc13, hBc13⟩
    have ec13 := Ext.renew ea13 qc13 hba13
    have hzc13 := ec13.size
    have hlc13 := hBc13.lt
    first | (have hCc13 : Cells wc13 ⟨ba13, 0, none⟩ [_, _, _, _, _] := hBc13.cells) | have hCc13 := Blk.cellsL hBc13
    refine Ox.pure rfl rfl zas ?_
    refine Ox.pure rfl rfl zas ?_
    refine Ox.fin ?_
    refine ztx ?_
    refine Ox.val rfl rfl zra ?_
    refine Ox.pure rfl rfl zmv ?_
    refine Ox.act rfl rfl (acts_call rfl rfl rfl (drop_at s5 hm5 hw5 no _ (hi5.ext0 zxc))) ?_
    rintro vu14 wu14 ⟨eu14, v14, rfl, s14, rfl, hi14, hb14, hz14⟩
    have hzu14 := eu14.size
    rw [hb5]
    refine Ox.pure rfl rfl zmv ?_
    refine Ox.pure rfl rfl (rp_extract rfl rfl rfl) ?_
    refine Ox.pure rfl rfl (rp_extract rfl rfl rfl) ?_
    refine Ox.act rfl rfl (acts_alloc rfl rfl) ?_
    rintro va14 wa14 ⟨ea14, ba14, rfl, hba14, hBa14⟩
    first | (have hCa14 : Cells wa14 ⟨ba14, 0, none⟩ [_, _, _, _, _] := hBa14.cells) | have hCa14 := Blk.cellsL hBa14
    have hla14 := hBa14.lt
    have hza14 := ea14.size
    refine Ox.act rfl rfl (acts_store_all rfl rfl rfl hBa14 rfl (by first | rfl | assumption) (by first | rfl | assumption) (by (first | assumption | exact List.all_eq_true.mp rfl | simp [Value.cells, Value.oneCell']))) ?_
    rintro vc14 wc14 ⟨rfl, qc14, hBc14⟩
    have ec14 := Ext.renew ea14 qc14 hba14
    have hzc14 := ec14.size
    have hlc14 := hBc14.lt
    first | (have hCc14 : Cells wc14 ⟨ba14, 0, none⟩ [_, _, _, _, _] := hBc14.cells) | have hCc14 := Blk.cellsL hBc14
    refine Ox.pure rfl rfl zas ?_
    refine Ox.fin ?_
    refine ztx ?_
    refine Ox.val rfl rfl zra ?_
    refine Ox.pure rfl rfl zmv ?_
    refine Ox.act rfl rfl (acts_call rfl rfl rfl (fork_at s5 hm5 hw5 no _ (hi5.ext0 zxc))) ?_
    rintro vu15 wu15 ⟨eu15, v15, rfl, s15, rfl, hi15, hb15, hz15⟩
    have hzu15 := eu15.size
    rw [hb5]
    refine Ox.pure rfl rfl zmv ?_
    refine Ox.pure rfl rfl (rp_extract rfl rfl rfl) ?_
    refine Ox.pure rfl rfl (rp_extract rfl rfl rfl) ?_
    refine Ox.pure rfl rfl (rp_extract rfl rfl rfl) ?_
    refine Ox.act rfl rfl (acts_alloc rfl rfl) ?_
    rintro va15 wa15 ⟨ea15, ba15, rfl, hba15, hBa15⟩
    first | (have hCa15 : Cells wa15 ⟨ba15, 0, none⟩ [_, _, _, _, _] := hBa15.cells) | have hCa15 := Blk.cellsL hBa15
    have hla15 := hBa15.lt
    have hza15 := ea15.size
    refine Ox.act rfl rfl (acts_store_all rfl rfl rfl hBa15 rfl (by first | rfl | assumption) (by first | rfl | assumption) (by (first | assumption | exact List.all_eq_true.mp rfl | simp [Value.cells, Value.oneCell']))) ?_
    rintro vc15 wc15 ⟨rfl, qc15, hBc15⟩
    have ec15 := Ext.renew ea15 qc15 hba15
    have hzc15 := ec15.size
    have hlc15 := hBc15.lt
    first | (have hCc15 : Cells wc15 ⟨ba15, 0, none⟩ [_, _, _, _, _] := hBc15.cells) | have hCc15 := Blk.cellsL hBc15
    refine Ox.pure rfl rfl zas ?_
    refine Ox.pure rfl rfl zas ?_
    refine Ox.fin ?_
    refine ztx ?_
    refine Ox.pure rfl rfl zmv ?_
    refine Ox.pure rfl rfl zbc ?_
    refine Ox.pure rfl rfl zmv ?_
    first | (refine Ox.skip rfl rfl ?_) | (refine Ox.pure rfl rfl zmv ?_)
    first | (refine Ox.skip rfl rfl ?_) | (refine Ox.pure rfl rfl zbc ?_)
    refine Ox.pure rfl rfl zpk ?_
    refine Ox.pure rfl rfl zmv ?_
    first | (refine Ox.skip rfl rfl ?_) | (refine Ox.pure rfl rfl zmv ?_)
    first | (refine Ox.skip rfl rfl ?_) | (refine Ox.pure rfl rfl zbc ?_)
    refine Ox.pure rfl rfl zpk ?_
    refine Ox.pure rfl rfl zmv ?_
    first | (refine Ox.skip rfl rfl ?_) | (refine Ox.pure rfl rfl zmv ?_)
    first | (refine Ox.skip rfl rfl ?_) | (refine Ox.pure rfl rfl zbc ?_)
    refine Ox.pure rfl rfl zpk ?_
    refine Ox.fin ?_
    refine zcf ?_
    refine zsk ?_
    refine ztx ?_
    refine Ox.pure rfl rfl zmv ?_
    refine Ox.pure rfl rfl zfa ?_
    refine Ox.val rfl rfl zrs ?_
    refine Ox.pure rfl rfl (rp_lenS rfl rfl rfl) ?_
    refine Ox.pure rfl rfl zbc ?_
    refine Ox.pure rfl rfl zmv ?_
    first | (refine Ox.skip rfl rfl ?_) | (refine Ox.pure rfl rfl zfa ?_)
    first | (refine Ox.skip rfl rfl ?_) | (refine Ox.val rfl rfl zrs ?_)
    first | (refine Ox.skip rfl rfl ?_) | (refine Ox.pure rfl rfl zmv ?_)
    first | (refine Ox.skip rfl rfl ?_) | (refine Ox.pure rfl rfl (rp_indexAddr no.toNat rfl rfl rfl rfl rfl hin.bls.ptr (by omega) hib) ?_)
    first | (refine Ox.skip rfl rfl ?_) | (refine Ox.val rfl rfl (rv_load rfl rfl (fun u hu => ld_field blc_len (hin.bls.row.ext0 zxc) hib 0 rfl (by decide) rfl)) ?_)
    first | (refine Ox.skip rfl rfl ?_) | (refine Ox.pure rfl rfl (rp_lenS rfl rfl rfl) ?_)
    first | (refine Ox.skip rfl rfl ?_) | (refine Ox.pure rfl rfl zbc ?_)
    refine Ox.pure rfl rfl zpk ?_
    refine Ox.fin ?_
    refine zcf ?_
    refine zsk ?_
    refine ztx ?_
    refine Ox.val rfl rfl zra ?_
    refine Ox.pure rfl rfl zmv ?_
    refine Ox.act rfl rfl (acts_call rfl rfl rfl (merge_br s hm hw no _ (hin.ext0 zxc))) ?_
    rintro vu20 wu20 ⟨eu20, v20, p20, A20, c20, rfl, ⟨s20, rfl, hi20, hb20, hz20⟩, hk20⟩
    have hzu20 := eu20.size
    refine Ox.pure rfl rfl zmv ?_
    refine Ox.pure rfl rfl (rp_extract rfl rfl rfl) ?_
    refine Ox.pure rfl rfl (rp_extract rfl rfl rfl) ?_
    refine Ox.pure rfl rfl (rp_extract rfl rfl rfl) ?_
    refine Ox.act rfl rfl (acts_alloc rfl rfl) ?_
    rintro va20 wa20 ⟨ea20, ba20, rfl, hba20, hBa20⟩
    first | (have hCa20 : Cells wa20 ⟨ba20, 0, none⟩ [_, _, _, _, _] := hBa20.cells) | have hCa20 := Blk.cellsL hBa20
    have hla20 := hBa20.lt
    have hza20 := ea20.size
    refine Ox.act rfl rfl (acts_store_all rfl rfl rfl hBa20 rfl (by first | rfl | assumption) (by first | rfl | assumption) (by (first | assumption | exact List.all_eq_true.mp rfl | simp [Value.cells, Value.oneCell']))) ?_
    rintro vc20 wc20 ⟨rfl, qc20, hBc20⟩
    have ec20 := Ext.renew ea20 qc20 hba20
    have hzc20 := ec20.size
    have hlc20 := hBc20.lt
    first | (have hCc20 : Cells wc20 ⟨ba20, 0, none⟩ [_, _, _, _, _] := hBc20.cells) | have hCc20 := Blk.cellsL hBc20
    refine Ox.pure rfl rfl zas ?_
    refine Ox.pure rfl rfl zas ?_
    refine Ox.fin ?_
    refine ztx ?_
    refine Ox.pure rfl rfl zmv ?_
    refine Ox.pure rfl rfl zbc ?_
    refine Ox.fin ?_
    refine zcf ?_
    refine zsk ?_
    obtain ⟨hm20, hw20⟩ := small_of hb20 hsm
    refine ztx ?_
    refine Ox.val rfl rfl zra ?_
    refine Ox.pure rfl rfl zmv ?_
    refine Ox.act rfl rfl (acts_call rfl rfl rfl (facts_br s20 hm20 other _ (hi20.ext0 zxc))) ?_
    rintro v14 w14 ⟨e14, p23, A23, c23, rfl, hs23⟩
    have hz14 := e14.size
    rw [hb20, hfa other] at hs23 ⊢
    refine Ox.pure rfl rfl zmv ?_
    refine Ox.pure rfl rfl (rp_extract rfl rfl rfl) ?_
    refine Ox.pure rfl rfl (rp_extract rfl rfl rfl) ?_
    refine Ox.pure rfl rfl zas ?_
    refine Ox.pure rfl rfl zas ?_
    refine Ox.fin ?_
    refine ztx ?_
    refine Ox.pure rfl rfl zmv ?_
    refine Ox.pure rfl rfl zmv ?_
    refine Ox.pure rfl rfl zbc ?_
    refine Ox.pure rfl rfl zmv ?_
    first | (refine Ox.skip rfl rfl ?_) | (refine Ox.pure rfl rfl zmv ?_)
    first | (refine Ox.skip rfl rfl ?_) | (refine Ox.pure rfl rfl zmv ?_)
    first | (refine Ox.skip rfl rfl ?_) | (refine Ox.act rfl rfl (acts_call rfl rfl rfl (ref_Same (factsB s.br other).1 (factsB s.br other).1 p23 p8 A23 A8 c23 c8 _ (hs23.ext0 zxc) (hs8.ext0 zxc))) ?_; rintro v15 w15 ⟨e15, rfl⟩; have hz15 := e15.size; rw [decide_eq_true (show (factsB s.br other).1 = (factsB s.br other).1 from rfl)])
    refine Ox.pure rfl rfl zpk ?_
    refine Ox.pure rfl rfl zas ?_
    refine Ox.fin ?_
    refine zrt ?_
    exact endE_ret [_] ⟨rfl, trivial⟩ ⟨zxc, rfl⟩
  · refine ztx ?_
    refine Ox.val rfl rfl zra ?_
    refine Ox.pure rfl rfl zmv ?_
    refine Ox.act rfl rfl (acts_call rfl rfl rfl (facts_br s hm other _ (hin.ext0 zxc))) ?_
    rintro v16 w16 ⟨e16, p8, A8, c8, rfl, hs8⟩
    have hz16 := e16.size
    refine Ox.pure rfl rfl zmv ?_
    refine Ox.pure rfl rfl (rp_extract rfl rfl rfl) ?_
    refine Ox.pure rfl rfl (rp_extract rfl rfl rfl) ?_
    refine Ox.pure rfl rfl zas ?_
    refine Ox.pure rfl rfl zas ?_
    refine Ox.fin ?_
    refine ztx ?_
    refine Ox.val rfl rfl zra ?_
    refine Ox.pure rfl rfl zmv ?_
    refine Ox.act rfl rfl (acts_call rfl rfl rfl (facts_br s5 hm5 other _ (hi5.ext0 zxc))) ?_
    rintro v17 w17 ⟨e17, p9, A9, c9, rfl, hs9⟩
    have hz17 := e17.size
    rw [hb5, hfacts other] at hs9 ⊢
    refine Ox.pure rfl rfl zmv ?_
    refine Ox.pure rfl rfl (rp_extract rfl rfl rfl) ?_
    refine Ox.pure rfl rfl (rp_extract rfl rfl rfl) ?_
    refine Ox.pure rfl rfl zas ?_
    refine Ox.pure rfl rfl zas ?_
    refine Ox.fin ?_
    refine ztx ?_
    refine Ox.pure rfl rfl zmv ?_
    refine Ox.pure rfl rfl zmv ?_
    refine Ox.pure rfl rfl zbc ?_
    refine Ox.pure rfl rfl zmv ?_
    first | (refine Ox.skip rfl rfl ?_) | (refine Ox.pure rfl rfl zmv ?_)
    first | (refine Ox.skip rfl rfl ?_) | (refine Ox.pure rfl rfl zmv ?_)
    first | (refine Ox.skip rfl rfl ?_) | (refine Ox.act rfl rfl (acts_call rfl rfl rfl (ref_Same (factsB s.br other).1 (factsB s.br other).1 p8 p9 A8 A9 c8 c9 _ (hs8.ext0 zxc) (hs9.ext0 zxc))) ?_; rintro v18 w18 ⟨e18, rfl⟩; have hz18 := e18.size; rw [decide_eq_true (show (factsB s.br other).1 = (factsB s.br other).1 from rfl)])
    first | (refine Ox.skip rfl rfl ?_) | (refine Ox.pure rfl rfl (rp_not rfl rfl) ?_)
    refine Ox.pure rfl rfl zpk ?_
    refine Ox.fin ?_
    refine zcf ?_
    refine zsk ?_
    refine ztx ?_
    refine Ox.val rfl rfl zra ?_
    refine Ox.pure rfl rfl zmv ?_
    refine Ox.val rfl rfl zra ?_
    refine Ox.act rfl rfl (acts_call rfl rfl rfl (change_br s5 hm5 hw5 no c _ (hi5.ext0 zxc))) ?_
    rintro vu12 wu12 ⟨eu12, v12, rfl, s12, rfl, hi12, hb12, hz12⟩
    have hzu12 := eu12.size
    rw [hb5]
    refine Ox.pure rfl rfl zmv ?_
    refine Ox.pure rfl rfl (rp_extract rfl rfl rfl) ?_
    refine Ox.pure rfl rfl (rp_extract rfl rfl rfl) ?_
    refine Ox.act rfl rfl (acts_alloc rfl rfl) ?_
    rintro va12 wa12 ⟨ea12, ba12, rfl, hba12, hBa12⟩
    first | (have hCa12 : Cells wa12 ⟨ba12, 0, none⟩ [_, _, _, _, _] := hBa12.cells) | have hCa12 := Blk.cellsL hBa12
    have hla12 := hBa12.lt
    have hza12 := ea12.size
    refine Ox.act rfl rfl (acts_store_all rfl rfl rfl hBa12 rfl (by first | rfl | assumption) (by first | rfl | assumption) (by (first | assumption | exact List.all_eq_true.mp rfl | simp [Value.cells, Value.oneCell']))) ?_
    rintro vc12 wc12 ⟨rfl, qc12, hBc12⟩
    have ec12 := Ext.renew ea12 qc12 hba12
    have hzc12 := ec12.size
    have hlc12 := hBc12.lt
    first | (have hCc12 : Cells wc12 ⟨ba12, 0, none⟩ [_, _, _, _, _] := hBc12.cells) | have hCc12 := Blk.cellsL hBc12
    refine Ox.pure rfl rfl zas ?_
    refine Ox.fin ?_
    refine ztx ?_
    refine Ox.val rfl rfl zra ?_
    refine Ox.pure rfl rfl zmv ?_
    refine Ox.act rfl rfl (acts_call rfl rfl rfl (merge_br s5 hm5 hw5 no _ (hi5.ext0 zxc))) ?_
    rintro vu13 wu13 ⟨eu13, v13, p13, A13, c13, rfl, ⟨s13, rfl, hi13, hb13, hz13⟩, hk13⟩
    have hzu13 := eu13.size
    rw [hb5]
    refine Ox.pure rfl rfl zmv ?_
    refine Ox.pure rfl rfl (rp_extract rfl rfl rfl) ?_
    refine Ox.pure rfl rfl (rp_extract rfl rfl rfl) ?_
    refine Ox.pure rfl rfl (rp_extract rfl rfl rfl) ?_
    refine Ox.act rfl rfl (acts_alloc rfl rfl) ?_
    rintro va13 wa13 ⟨ea13, ba13, rfl, hba13, hBa13⟩
    first | (have hCa13 : Cells wa13 ⟨ba13, 0, none⟩ [_, _, _, _, _] := hBa13.cells) | have hCa13 := Blk.cellsL hBa13
    have hla13 := hBa13.lt
    have hza13 := ea13.size
    refine Ox.act rfl rfl (acts_store_all rfl rfl rfl hBa13 rfl (by first | rfl | assumption) (by first | rfl | assumption) (by (first | assumption | exact List.all_eq_true.mp rfl | simp [Value.cells, Value.oneCell']))) ?_
    rintro vc13 wc13 ⟨rfl, qc13, hBc13⟩
    have ec13 := Ext.renew ea13 qc13 hba13
    have hzc13 := ec13.size
    have hlc13 := hBc13.lt
    first | (have hCc13 : Cells wc13 ⟨ba13, 0, none⟩ [_, _, _, _, _] := hBc13.cells) | have hCc13 := Blk.cellsL hBc13
    refine Ox.pure rfl rfl zas ?_
    refine Ox.pure rfl rfl zas ?_
    refine Ox.fin ?_
    refine ztx ?_
    refine Ox.val rfl rfl zra ?_
    refine Ox.pure rfl rfl zmv ?_
    refine Ox.act rfl rfl (acts_call rfl rfl rfl (drop_at s5 hm5 hw5 no _ (hi5.ext0 zxc))) ?_
    rintro vu14 wu14 ⟨eu14, v14, rfl, s14, rfl, hi14, hb14, hz14⟩
    have hzu14 := eu14.size
    rw [hb5]
    refine Ox.pure rfl rfl zmv ?_
    refine Ox.pure rfl rfl (rp_extract rfl rfl rfl) ?_
    refine Ox.pure rfl rfl (rp_extract rfl rfl rfl) ?_
    refine Ox.act rfl rfl (acts_alloc rfl rfl) ?_
    rintro va14 wa14 ⟨ea14, ba14, rfl, hba14, hBa14⟩
    first | (have hCa14 : Cells wa14 ⟨ba14, 0, none⟩ [_, _, _, _, _] := hBa14.cells) | have hCa14 := Blk.cellsL hBa14
    have hla14 := hBa14.lt
    have hza14 := ea14.size
    refine Ox.act rfl rfl (acts_store_all rfl rfl rfl hBa14 rfl (by first | rfl | assumption) (by first | rfl | assumption) (by (first | assumption | exact List.all_eq_true.mp rfl | simp [Value.cells, Value.oneCell']))) ?_
    rintro vc14 wc14 ⟨rfl, qc14, hBc14⟩
    have ec14 := Ext.renew ea14 qc14 hba14
    have hzc14 := ec14.size
    have hlc14 := hBc14.lt
    first | (have hCc14 : Cells wc14 ⟨ba14, 0, none⟩ [_, _, _, _, _] := hBc14.cells) | have hCc14 := Blk.cellsL hBc14
    refine Ox.pure rfl rfl zas ?_
    refine Ox.fin ?_
    refine ztx ?_
    refine Ox.val rfl rfl zra ?_
    refine Ox.pure rfl rfl zmv ?_
    refine Ox.act rfl rfl (acts_call rfl rfl rfl (fork_at s5 hm5 hw5 no _ (hi5.ext0 zxc))) ?_
    rintro vu15 wu15 ⟨eu15, v15, rfl, s15, rfl, hi15, hb15, hz15⟩
    have hzu15 := eu15.size
    rw [hb5]
    refine Ox.pure rfl rfl zmv ?_
    refine Ox.pure rfl rfl (rp_extract rfl rfl rfl) ?_
    refine Ox.pure rfl rfl (rp_extract rfl rfl rfl) ?_
    refine Ox.pure rfl rfl (rp_extract rfl rfl rfl) ?_
    refine Ox.act rfl rfl (acts_alloc rfl rfl) ?_
    rintro va15 wa15 ⟨ea15, ba15, rfl, hba15, hBa15⟩
    first | (have hCa15 : Cells wa15 ⟨ba15, 0, none⟩ [_, _, _, _, _] := hBa15.cells) | have hCa15 := Blk.cellsL hBa15
    have hla15 := hBa15.lt
    have hza15 := ea15.size
    refine Ox.act rfl rfl (acts_store_all rfl rfl rfl hBa15 rfl (by first | rfl | assumption) (by first | rfl | assumption) (by (first | assumption | exact List.all_eq_true.mp rfl | simp [Value.cells, Value.oneCell']))) ?_
    rintro vc15 wc15 ⟨rfl, qc15, hBc15⟩
    have ec15 := Ext.renew ea15 qc15 hba15
    have hzc15 := ec15.size
    have hlc15 := hBc15.lt
    first | (have hCc15 : Cells wc15 ⟨ba15, 0, none⟩ [_, _, _, _, _] := hBc15.cells) | have hCc15 := Blk.cellsL hBc15
    refine Ox.pure rfl rfl zas ?_
    refine Ox.pure rfl rfl zas ?_
    refine Ox.fin ?_
    refine ztx ?_
    refine Ox.pure rfl rfl zmv ?_
    refine Ox.pure rfl rfl zbc ?_
    refine Ox.pure rfl rfl zmv ?_
    first | (refine Ox.skip rfl rfl ?_) | (refine Ox.pure rfl rfl zmv ?_)
    first | (refine Ox.skip rfl rfl ?_) | (refine Ox.pure rfl rfl zbc ?_)
    refine Ox.pure rfl rfl zpk ?_
    refine Ox.pure rfl rfl zmv ?_
    first | (refine Ox.skip rfl rfl ?_) | (refine Ox.pure rfl rfl zmv ?_)
    first | (refine Ox.skip rfl rfl ?_) | (refine Ox.pure rfl rfl zbc ?_)
    refine Ox.pure rfl rfl zpk ?_
    refine Ox.pure rfl rfl zmv ?_
    first | (refine Ox.skip rfl rfl ?_) | (refine Ox.pure rfl rfl zmv ?_)
    first | (refine Ox.skip rfl rfl ?_) | (refine Ox.pure rfl rfl zbc ?_)
    refine Ox.pure rfl rfl zpk ?_
    refine Ox.fin ?_
    refine zcf ?_
    refine zsk ?_
    refine ztx ?_
    refine Ox.pure rfl rfl zmv ?_
    refine Ox.pure rfl rfl zfa ?_
    refine Ox.val rfl rfl zrs ?_
    refine Ox.pure rfl rfl (rp_lenS rfl rfl rfl) ?_
    refine Ox.pure rfl rfl zbc ?_
    refine Ox.pure rfl rfl zmv ?_
    first | (refine Ox.skip rfl rfl ?_) | (refine Ox.pure rfl rfl zfa ?_)
    first | (refine Ox.skip rfl rfl ?_) | (refine Ox.val rfl rfl zrs ?_)
    first | (refine Ox.skip rfl rfl ?_) | (refine Ox.pure rfl rfl zmv ?_)
    first | (refine Ox.skip rfl rfl ?_) | (refine Ox.pure rfl rfl (rp_indexAddr no.toNat rfl rfl rfl rfl rfl hin.bls.ptr (by omega) hib) ?_)
    first | (refine Ox.skip rfl rfl ?_) | (refine Ox.val rfl rfl (rv_load rfl rfl (fun u hu => ld_field blc_len (hin.bls.row.ext0 zxc) hib 0 rfl (by decide) rfl)) ?_)
    first | (refine Ox.skip rfl rfl ?_) | (refine Ox.pure rfl rfl (rp_lenS rfl rfl rfl) ?_)
    first | (refine Ox.skip rfl rfl ?_) | (refine Ox.pure rfl rfl zbc ?_)
    refine Ox.pure rfl rfl zpk ?_
    refine Ox.fin ?_
    refine zcf ?_
    refine zsk ?_
    refine ztx ?_
    refine Ox.val rfl rfl zra ?_
    refine Ox.pure rfl rfl zmv ?_
    refine Ox.act rfl rfl (acts_call rfl rfl rfl (merge_br s hm hw no _ (hin.ext0 zxc))) ?_
    rintro vu20 wu20 ⟨eu20, v20, p20, A20, c20, rfl, ⟨s20, rfl, hi20, hb20, hz20⟩, hk20⟩
    have hzu20 := eu20.size
    refine Ox.pure rfl rfl zmv ?_
    refine Ox.pure rfl rfl (rp_extract rfl rfl rfl) ?_
    refine Ox.pure rfl rfl (rp_extract rfl rfl rfl) ?_
    refine Ox.pure rfl rfl (rp_extract rfl rfl rfl) ?_
    refine Ox.act rfl rfl (acts_alloc rfl rfl) ?_
    rintro va20 wa20 ⟨ea20, ba20, rfl, hba20, hBa20⟩
    first | (have hCa20 : Cells wa20 ⟨ba20, 0, none⟩ [_, _, _, _, _] := hBa20.cells) | have hCa20 := Blk.cellsL hBa20
    have hla20 := hBa20.lt
    have hza20 := ea20.size
    refine Ox.act rfl rfl (acts_store_all rfl rfl rfl hBa20 rfl (by first | rfl | assumption) (by first | rfl | assumption) (by (first | assumption | exact List.all_eq_true.mp rfl | simp [Value.cells, Value.oneCell']))) ?_
    rintro vc20 wc20 ⟨rfl, qc20, hBc20⟩
    have ec20 := Ext.renew ea20 qc20 hba20
    have hzc20 := ec20.size
    have hlc20 := hBc20.lt
    first | (have hCc20 : Cells wc20 ⟨ba20, 0, none⟩ [_, _, _, _, _] := hBc20.cells) | have hCc20 := Blk.cellsL hBc20
    refine Ox.pure rfl rfl zas ?_
    refine Ox.pure rfl rfl zas ?_
    refine Ox.fin ?_
    refine ztx ?_
    refine Ox.pure rfl rfl zmv ?_
    refine Ox.pure rfl rfl zbc ?_
    refine Ox.fin ?_
    refine zct ?_
    refine ztx ?_
    refine Ox.pure rfl rfl zmv ?_
    refine Ox.pure rfl rfl zbc ?_
    refine Ox.pure rfl rfl zas ?_
    refine Ox.fin ?_
    refine zrt ?_
    exact endE_ret [_] ⟨rfl, trivial⟩ ⟨zxc, rfl⟩

open Go.ChangeShapes Go.WideShapes Go.ChangeAt Go.RowKit in
theorem lawContract (H : Type) (enc : TypeId × Value → H) (W : World) (base : Nat) (args : Array Value) (ds gs : List (DataW H)) (before : List MemPlace)
    (hval : ∀ (j : Nat) t v, Try.f7.params[j]? = some t → args[j]? = some v → Value.okWide Try.prog W .any base t v)
    (hW : DataW.Whole enc Try.prog Try.f7.params.toList Rows.branchesDroppedSpec.vars false W args.toList ds gs before)
    (hw : (DataW.weightsEach Try.prog (Try.f7.params.toList ++ Rows.branchesDroppedSpec.plain.varTypes Try.prog) (ds ++ gs)).all (· ≤ reachBytes) = true) :
    Calls Try.prog 7 args W fun e W' => ∃ v, e = .returned v ∧ Rows.branchesDroppedSpec.post enc Try.prog Try.f7 false true false false W args v W' := by
  obtain ⟨p, q, hA, hV, rfl, hz, hn⟩ := id hW
  obtain ⟨rfl, rfl⟩ := trodVars_none hV
  have hA' : DataW.TrodAll enc Try.prog W 0 (fun _ => true) true [27, 3, 3, 42] args.toList ds p := hA
  obtain ⟨v0, vs0, d0, ds0, p0, q0, hargs, rfl, rfl, h0, r0⟩ := trodAll_cons hA'
  obtain ⟨v1, vs1, d1, ds1, p1, q1, rfl, rfl, rfl, h1, r1⟩ := trodAll_cons r0
  obtain ⟨v2, vs2, d2, ds2, p2, q2, rfl, rfl, rfl, h2, r2⟩ := trodAll_cons r1
  obtain ⟨v3, vs3, d3, ds3, p3, q3, rfl, rfl, rfl, h3, r3⟩ := trodAll_cons r2
  obtain ⟨rfl, rfl, rfl⟩ := trodAll_nil r3
  obtain rfl : args = #[v0, v1, v2, v3] := by cases args; simp_all
  have hw' : ∀ x ∈ DataW.weightsEach Try.prog [27, 3, 3, 42] [d0, d1, d2, d3], x ≤ reachBytes := by
    have hw2 : (DataW.weightsEach Try.prog [27, 3, 3, 42] [d0, d1, d2, d3]).all (· ≤ reachBytes) = true := hw
    simpa [List.all_eq_true] using hw2
  simp only [DataW.weightsEach, List.mem_append] at hw'
  obtain ⟨s, rfl, hin0⟩ := arg_bran h0 (fun x hx => hw' x (.inl hx))
  obtain ⟨no, rfl, _, _, hb1⟩ := open_int undI (hval 1 3 v1 rfl rfl) h1
  obtain ⟨other, rfl, _, _, hb2⟩ := open_int undI (hval 2 3 v2 rfl rfl) h2
  obtain ⟨c, hf3, rfl⟩ := arg_chg h3
  refine (droppedLaw s no other c W hin0).mono fun e W' he => ?_
  cases e with
  | returned r =>
    obtain ⟨hx, rfl⟩ := he
    exact ⟨_, rfl, post_true (by kernel_rfl) (by kernel_rfl) rfl hW rfl rfl rfl rfl rfl hx⟩
  | panicked c => exact he.elim
  | outgrown => exact he.elim

open Go.ChangeShapes Go.WideShapes Go.ChangeAt Go.RowKit in
set_option maxRecDepth 100000 in
theorem lifted (os : Os) (started : os.Started) (H : Type) (enc : TypeId × Value → H) :
    ReturnsInHanded {} Try.checked os 7 .any (Rows.branchesDroppedSpec.pre6 enc Try.prog Try.f7 [] false) (Rows.branchesDroppedSpec.post enc Try.prog Try.f7 false true false false) := by
  refine returnsInHanded_of_change_sized (C := Try.checked) (by kernel_rfl) started (by kernel_rfl) Try.func7
    (ChangeSpec.witness6 (enc := enc) (C := Try.checked) (s := Rows.branchesDroppedSpec) false ⟨#[], #[.agg #[.slice none 0 0, .slice none 0 0, .slice none 0 0, .slice none 0 0, .slice none 0 0], .int .i64 0, .int .i64 0, .agg #[.int .i64 0, .int .i64 0, .int .i64 0, .int .i64 0, .int .i64 0, .int .i64 0]], []⟩ 8 (by kernel_rfl) (by kernel_rfl) (by kernel_rfl) (by kernel_rfl)) ?_
  intro W base args ds gs before hval hW _ hw _
  exact lawContract H enc W base args ds gs before hval hW hw

theorem over : Rows.branchesDroppedRow.holds Try.pinned (OpenSpec.ofChange Rows.branchesDroppedSpec) :=
  OpenClaim.holds_of_wide 7 Try.f7 rfl rfl rfl rfl rfl rfl rfl ⟨rfl, rfl, rfl, rfl, rfl⟩ rfl rfl rfl rfl rfl (by kernel_rfl) Try.func7 (by kernel_rfl)
    (of_decide_eq_true (by kernel_rfl)) (by unfold Func.isWrapper; first | (rw [if_pos (by decide +kernel)]; kernel_rfl) | (rw [if_neg (by decide +kernel)]; exact ⟨rfl, rfl⟩))
    (fun os started H enc _ => lifted os started H enc)

theorem proved : Rows.BranchesDroppedSaid := over

end Go.Proofs.Ytfgckcochilpkaa
